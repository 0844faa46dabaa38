/- Part of a proof over the seat Ytepabkjfnpaijaa. -/
import Derived.Test.YtepabkjfnpaijaaG12
set_option linter.unusedSimpArgs false
set_option linter.unusedVariables false
set_option maxRecDepth 100000
namespace Go.Proofs.Ytepabkjfnpaijaa
open Go RowKit Go.Ew
set_option maxHeartbeats 4000000
theorem in67 : codeIn Try.f67.ntmps (Try.f67.body.getD .skip) = true := by kernel_rfl
theorem in87 : codeIn Try.f87.ntmps (Try.f87.body.getD .skip) = true := by kernel_rfl
theorem in66 : codeIn Try.f66.ntmps (Try.f66.body.getD .skip) = true := by kernel_rfl
theorem refof_p (n : Nat) (h : n < 18446744073709551616) : Pure Try.prog 67 [.int .u64 (n : Int)] (wE n) := by
 refine pure_p (args := [.int .u64 (n : Int)]) en67 (by simp [closed, closeds, closed_wE, closeds_ints]) Try.func67 rfl in67 (by simp [Try.f67]) (by simp [closeds, closed, closed_wE, closeds_ints]) (fun w => next_of 1000 ?_)
 simp (maxSteps := 4000000) (disch := omega) only [go_sem, ↓reduceIte, Try.f67]
 repeat (with_reducible refine And.intro (by omega) ?_)
 skip
 exact wE_of (by constructor <;> omega)
theorem rbyteE (x i : Nat) (hi : i < 32) : IntKind.u8.wrap ((dig 18446744073709551616 x (i / 8) / 2 ^ (8 * (i % 8))).tmod 256) = dig 256 x i := by
 have h0 := dig_nn 18446744073709551616 x (i / 8)
 have hp : (0 : Int) ≤ 2 ^ (8 * (i % 8)) := Int.le_of_lt (Int.pow_pos (by omega))
 rw [Int.tmod_eq_emod_of_nonneg (Int.ediv_nonneg h0 hp), byte_of x i hi]
 have := dig_lt (b := 256) (by omega) x i
 have h2 := dig_nn 256 x i
 show dig 256 x i % 256 = _
 exact Int.emod_eq_of_lt h2 this
theorem rbytes_p (x : Nat) (hx : x < 115792089237316195423570985008687907853269984665640564039457584007913129639936) : Pure Try.prog 87 [wE x] (.agg (ints .u8 (fun j => dig 256 x (31 - j)) 32)) := by
 rw [wE_ints x]
 refine pure_p (args := [.agg (ints .u64 (dig 18446744073709551616 x) 4)]) en87 (by simp [closed, closeds, closed_wE, closeds_ints]) Try.func87 rfl in87 (by simp [Try.f87]) (by simp [closeds, closed, closed_wE, closeds_ints]) (fun w => next_of 1000 ?_)
 simp (maxSteps := 4000000) (disch := omega) only [go_sem, ↓reduceIte, Try.f87]
 repeat (with_reducible refine And.intro (by omega) ?_)
 skip
 refine loopU (S := Nat × (Nat → Int)) (fun s => s.1 ≤ 32 ∧ ∀ j, j < 32 → 32 - s.1 ≤ j → s.2 j = dig 256 x (31 - j))
  (fun s => ⟨[(4, .int .i64 (s.1 : Nat)), (3, .ptr 2 0), (2, .ptr 1 0), (1, .ptr 0 0)], 3,
   [(2, some (.cells (ints .u8 s.2 32) 37 (0, 0))), (1, some (.cells (ints .u8 (fun _ => 0) 32) 37 (0, 0))), (0, some (.cells (ints .u64 (dig 18446744073709551616 x) 4) 119 (0, 0)))], base w, []⟩)
  (fun s => 32 - s.1) (0, fun _ => 0) ⟨by omega, fun j h1 h2 => by simp only at h2; omega⟩ (Weak.sub (weak_of (by simp [wσ, go_sem, closed, closeds, closeds_ints]) (by simp [whs, go_sem, EObj.closed, closed, closeds, closeds_ints]) (by simp [*]) rfl rfl (by simp))) ?_
 rintro ⟨i, z⟩ ⟨hi, hz⟩
 simp only at hi hz
 refine next_of 1000 ?_
 simp (maxSteps := 4000000) (disch := omega) only [go_sem, ↓reduceIte]
 repeat (with_reducible refine And.intro (by omega) ?_)
 refine condS_split (fun h => ?_) (fun h => ?_)
 all_goals (try simp only [bne_iff_ne, ne_eq, beq_iff_eq, decide_eq_true_eq, decide_eq_false_iff_not, Bool.not_eq_true, Bool.not_eq_false, Bool.not_true, Bool.not_false, bne_eq_false_iff_eq, beq_eq_false_iff_ne, Bool.and_eq_true, Bool.or_eq_true, Bool.and_eq_false_imp, Bool.or_eq_false_iff, Bool.not_eq_true', Bool.not_eq_false', Int.not_lt, Int.not_le] at h)
 ·have e1 : ((31 : Int) - (i : Int)).toNat = 31 - i := by omega
  have e2 : ((i : Int) / 8).toNat = i / 8 := by omega
  have e3 : (8 * ((i : Int) % 8)).toNat = 8 * (i % 8) := by omega
  have hb := rbyteE x i (by omega)
  have hb64 := bd64 x (i / 8)
  repeat' (first | with_reducible refine And.intro (by omega) ?_ | simp (maxSteps := 4000000) (disch := omega) only [go_sem, ↓reduceIte, e1, e2, e3, hb])
  refine ⟨(i + 1, setF z (31 - i) (dig 256 x i)), ⟨by show i + 1 ≤ 32; omega, ?_⟩, Weak.sub (weak_of (by simp [wσ, go_sem, closed, closeds, closeds_ints]) (by simp [whs, go_sem, EObj.closed, closed, closeds, closeds_ints]) (by simp [*]) rfl rfl (by simp)), by show 32 - (i + 1) < 32 - i; omega⟩
  intro j h1 h2
  simp only [setF] at h2 ⊢
  split
  ·rename_i e; rw [show 31 - j = i by omega]
  ·exact hz j h1 (by omega)
 ·have hi : i = 32 := by omega
  subst hi
  simp (maxSteps := 4000000) (disch := omega) only [go_sem, ↓reduceIte]
  repeat (with_reducible refine And.intro (by omega) ?_)
  repeat' (first | simp (maxSteps := 4000000) (disch := omega) only [go_sem, ↓reduceIte] | with_reducible refine next_of 1000 ?_)
  rw [ints_congr (fun j hj => hz j hj (by omega))]
theorem nby_of {x i : Nat} (hi : i ≤ 32) (h1 : x < 256 ^ (32 - i)) (h2 : i = 32 ∨ 256 ^ (31 - i) ≤ x) : nby x = 32 - i := by
 have e : ∀ k, (256 : Nat) ^ k = 2 ^ (8 * k) := fun k => by rw [Nat.pow_mul]
 rw [e] at h1
 have b1 := blen_le.2 h1
 rcases h2 with h2 | h2
 ·unfold nby; omega
 ·rw [e] at h2
  have b2 := lt_blen.2 h2
  rcases Nat.lt_or_ge i 32 with h | h
  ·unfold nby; omega
  ·unfold nby; omega
theorem rleast_fn (x : Nat) (hx : x < 115792089237316195423570985008687907853269984665640564039457584007913129639936) (B : Base) : Does Try.prog 66 [wE x] B (fun s : Option Addr × Nat => .raw (.slice s.1 (nby x) s.2)) (fun s B' => BytesAt B' s.1 (leB x) ∧ nby x ≤ s.2) := by
 refine fn_of en66 (fun s B B' hB hR => ⟨hR.1.ext hB, hR.2⟩) Try.func66 rfl in66 (by simp [Try.f66]) (by simp [closeds, closed_wE]) (fun B0 hB0 => next_of 1000 ?_)
 have c1 := rbytes_p x hx
 repeat' (first | simp (maxSteps := 4000000) (disch := omega) only [go_sem, ↓reduceIte, Try.f66] | refine callS_p (c1) (next_of 1000 ?_))
 refine loopX (S := Nat) (S' := Nat) 0 rfl (fun i => i ≤ 32 ∧ x < 256 ^ (32 - i))
  (fun i => ⟨[(4, .int .i64 (i : Nat)), (3, .ptr 1 0), (2, .raw (.slice none 0 0)), (1, .ptr 0 0)], 2,
   [(1, some (.cells (ints .u8 (fun j => dig 256 x (31 - j)) 32) 37 (0, 0))), (0, some (.cells (wC x) 119 (0, 0)))], B0, []⟩)
  (fun i => 32 - i) (fun i => i ≤ 32 ∧ nby x = 32 - i)
  (fun i => ⟨[(4, .int .i64 (i : Nat)), (3, .ptr 1 0), (2, .raw (.slice none 0 0)), (1, .ptr 0 0)], 2,
   [(1, some (.cells (ints .u8 (fun j => dig 256 x (31 - j)) 32) 37 (0, 0))), (0, some (.cells (wC x) 119 (0, 0)))], B0, []⟩)
  0 ⟨by omega, Nat.lt_of_lt_of_le hx (by decide)⟩ (Weak.sub (weak_of (by simp [wσ, go_sem, closed, closeds, closeds_ints]) (by simp [whs, go_sem, EObj.closed, closed, closeds, closeds_ints]) (by simp [*]) rfl rfl (by simp))) ?_ ?_
 ·intro i ⟨hi, hlt⟩
  refine next_of 1000 ?_
  repeat' (first | with_reducible refine And.intro (by omega) ?_ | simp (maxSteps := 4000000) (disch := omega) only [go_sem, ↓reduceIte, Int.toNat_natCast] | ((first | refine condS_split (fun h => ?_) (fun h => ?_) | refine testS_split (fun h => ?_) (fun h => ?_) | refine testD_split (fun h => ?_) (fun h => ?_)) <;> (try simp only [bne_iff_ne, ne_eq, beq_iff_eq, decide_eq_true_eq, decide_eq_false_iff_not, Bool.not_eq_true, Bool.not_eq_false, Bool.not_true, Bool.not_false, bne_eq_false_iff_eq, beq_eq_false_iff_ne, Bool.and_eq_true, Bool.or_eq_true, Bool.and_eq_false_imp, Bool.or_eq_false_iff, Bool.not_eq_true', Bool.not_eq_false', Int.not_lt, Int.not_le] at h) <;> (try (exfalso; omega))))
  ·rename_i h1
   have hi32 : i < 32 := by omega
   have hlt' : x < 256 ^ (32 - (i + 1)) := by
    have e : (256 : Nat) ^ (32 - i) = 256 ^ (32 - (i + 1)) * 256 := by rw [← Nat.pow_succ]; congr 1; omega
    rw [e] at hlt
    have h5 : x / 256 ^ (32 - (i + 1)) < 256 := Nat.div_lt_of_lt_mul hlt
    have h6 : x / 256 ^ (31 - i) % 256 = 0 := by unfold dig at h; omega
    rw [show 31 - i = 32 - (i + 1) by omega, Nat.mod_eq_of_lt h5] at h6
    exact Nat.lt_of_div_eq_zero (Nat.pow_pos (by omega)) h6
   exact ⟨i + 1, ⟨by omega, hlt'⟩, Weak.sub (weak_of (by simp [wσ, go_sem, closed, closeds, closeds_ints]) (by simp [whs, go_sem, EObj.closed, closed, closeds, closeds_ints]) (by simp [*]) rfl rfl (by simp)), by omega⟩
  ·rename_i h1
   have h2 : 256 ^ (31 - i) ≤ x := by
    rcases Nat.lt_or_ge x (256 ^ (31 - i)) with h3 | h3
    ·exfalso; apply h; unfold dig; rw [Nat.div_eq_of_lt h3]; rfl
    ·exact h3
   exact ⟨i, ⟨hi, nby_of hi hlt (.inr h2)⟩, Weak.sub (weak_of (by simp [wσ, go_sem, closed, closeds, closeds_ints]) (by simp [whs, go_sem, EObj.closed, closed, closeds, closeds_ints]) (by simp [*]) rfl rfl (by simp))⟩
  ·have hi32 : i = 32 := by omega
   exact ⟨i, ⟨hi, nby_of hi hlt (.inl hi32)⟩, Weak.sub (weak_of (by simp [wσ, go_sem, closed, closeds, closeds_ints]) (by simp [whs, go_sem, EObj.closed, closed, closeds, closeds_ints]) (by simp [*]) rfl rfl (by simp))⟩
 ·intro i ⟨hi, hn⟩
  obtain ⟨o, ho, ho2, ho3⟩ : ∃ o, (if 32 = i then 0 else i) = o ∧ o + nby x ≤ 32 ∧ (nby x ≠ 0 → o = 32 - nby x) := by
   by_cases h0 : 32 = i
   ·exact ⟨0, by rw [if_pos h0], by omega, fun h => by omega⟩
   ·exact ⟨i, by rw [if_neg h0], by omega, fun h => by omega⟩
  have hL : nby x ≤ 32 := by omega
  have he : ((ints .u8 (fun j => dig 256 x (31 - j)) 32).drop o).take (nby x) = (leB x).map bE := by
   rw [leB_bE, ints_drop _ _ _ _ _ ho2]
   exact ints_congr fun i hi => by rw [ho3 (by omega)]; congr 1; omega
  have hll := leB_len x
  refine next_of 1000 ?_
  repeat' (first | with_reducible refine And.intro (by first | omega | (simp; done) | (simp; omega)) ?_ | simp (maxSteps := 4000000) (disch := omega) only [go_sem, ↓reduceIte, Int.toNat_natCast, ho, ← hn])
  refine appB (T := 5) (l := some (0, [])) (xs := []) 2 0 (leB x) rfl Try.underlying23 (.inl ⟨_, Try.underlying23⟩) zr5 cz5 by5 rfl rfl rfl (by simp [lOk, maxLen]) ?_ (by omega) (fun l' hl' => ?_)
  ·rw [← he, hll]
   exact ⟨_, by simp only [srcOf, ev, tget, hget, Nat.reduceBEq, Nat.mul_one]; rfl, by simp [ints_len]; omega⟩
  ·simp only [Nat.zero_add, List.nil_append, hll] at hl' ⊢
   refine freezeB 3 (nby x) (T := 5) rfl hll hl' (by simp) (fun b ad2 cap2 B2 hE hfz hby hc => next_of 1000 ?_)
   repeat' (first | with_reducible refine And.intro (by omega) ?_ | simp (maxSteps := 4000000) (disch := omega) only [go_sem, ↓reduceIte, hfz])
   exact ⟨(ad2, cap2), rfl, trivial, hby, hc⟩
end Go.Proofs.Ytepabkjfnpaijaa
namespace Go.Proofs.Ytepabkjfnpaijaa
open Go RowKit Go.Ew
set_option maxHeartbeats 4000000
theorem in91 : codeIn Try.f91.ntmps (Try.f91.body.getD .skip) = true := by kernel_rfl
theorem set_byte (M c e q : Nat) (hc : c < 256) (he : e % 8 = 0) : dig 18446744073709551616 (M * 2 ^ (e + 8) + c * 2 ^ e) q = if q = e / 64 then dig 18446744073709551616 (M * 2 ^ (e + 8)) q + ((c * 2 ^ (e % 64) : Nat) : Int) else dig 18446744073709551616 (M * 2 ^ (e + 8)) q := by
 have hB : (18446744073709551616 : Nat) = 2 ^ 64 := by decide
 have hK : c * 2 ^ (e % 64) < 2 ^ (e % 64 + 8) := by
  rw [Nat.pow_add, Nat.mul_comm]
  exact Nat.mul_lt_mul_of_pos_left (by omega) (Nat.pow_pos (by omega))
 split
 ·rename_i h; subst h
  have e1 : (2 : Nat) ^ e = 18446744073709551616 ^ (e / 64) * 2 ^ (e % 64) := by rw [hB, ← Nat.pow_mul, ← Nat.pow_add]; congr 1; omega
  have hP : 0 < 18446744073709551616 ^ (e / 64) := Nat.pow_pos (by omega)
  have hD : (18446744073709551616 : Nat) = 2 ^ (e % 64 + 8) * 2 ^ (56 - e % 64) := by rw [← Nat.pow_add, hB]; congr 1; omega
  have a1 : (M * 2 ^ (e + 8) + c * 2 ^ e) / 18446744073709551616 ^ (e / 64) = M * 2 ^ (e % 64 + 8) + c * 2 ^ (e % 64) := by
   rw [Nat.pow_add, e1, show M * (18446744073709551616 ^ (e / 64) * 2 ^ (e % 64) * 2 ^ 8) + c * (18446744073709551616 ^ (e / 64) * 2 ^ (e % 64)) = 18446744073709551616 ^ (e / 64) * (M * 2 ^ (e % 64 + 8) + c * 2 ^ (e % 64)) by rw [Nat.pow_add]; grind, Nat.mul_div_cancel_left _ hP]
  have a2 : M * 2 ^ (e + 8) / 18446744073709551616 ^ (e / 64) = M * 2 ^ (e % 64 + 8) := by
   rw [Nat.pow_add, e1, show M * (18446744073709551616 ^ (e / 64) * 2 ^ (e % 64) * 2 ^ 8) = 18446744073709551616 ^ (e / 64) * (M * 2 ^ (e % 64 + 8)) by rw [Nat.pow_add]; grind, Nat.mul_div_cancel_left _ hP]
  have a3 : (M * 2 ^ (e % 64 + 8) + c * 2 ^ (e % 64)) % 18446744073709551616 = M * 2 ^ (e % 64 + 8) % 18446744073709551616 + c * 2 ^ (e % 64) := by
   generalize c * 2 ^ (e % 64) = K at *
   rw [hD, Nat.mul_comm (2 ^ (e % 64 + 8)) (2 ^ (56 - e % 64))]
   rw [Nat.mul_mod_mul_right]
   rw [Nat.mul_comm (2 ^ (56 - e % 64)), Nat.mod_mul, Nat.add_comm (M * 2 ^ (e % 64 + 8)), Nat.add_mul_mod_self_right, Nat.mod_eq_of_lt hK, Nat.add_mul_div_right _ _ (Nat.pow_pos (by omega)), Nat.div_eq_of_lt hK, Nat.zero_add]
   rw [Nat.mul_comm (2 ^ (e % 64 + 8))]; omega
  rw [dig, dig, a1, a2, a3]; omega
 ·rename_i h
  rcases Nat.lt_or_ge q (e / 64) with hlt | hge
  ·have e1 : (2 : Nat) ^ e = 18446744073709551616 ^ q * (18446744073709551616 * 2 ^ (e - 64 * (q + 1))) := by
    rw [← Nat.mul_assoc, ← Nat.pow_succ, hB, ← Nat.pow_mul, ← Nat.pow_add]; congr 1; omega
   have hP : 0 < 18446744073709551616 ^ q := Nat.pow_pos (by omega)
   have e2 : c * 2 ^ e = 18446744073709551616 ^ q * (18446744073709551616 * (c * 2 ^ (e - 64 * (q + 1)))) := by rw [e1]; grind
   rw [dig, dig, e2, Nat.add_mul_div_left _ _ hP, Nat.add_mul_mod_self_left]
  ·have e1 : (18446744073709551616 : Nat) ^ q = 2 ^ (e + 8) * 2 ^ (64 * q - (e + 8)) := by
    rw [hB, ← Nat.pow_mul, ← Nat.pow_add]; congr 1; omega
   have hT : c * 2 ^ e < 2 ^ (e + 8) := by
    rw [Nat.pow_add, Nat.mul_comm]
    exact Nat.mul_lt_mul_of_pos_left (by omega) (Nat.pow_pos (by omega))
   rw [dig, dig, e1, ← Nat.div_div_eq_div_mul, ← Nat.div_div_eq_div_mul, Nat.mul_div_cancel _ (Nat.pow_pos (by omega)), Nat.add_comm, Nat.add_mul_div_right _ _ (Nat.pow_pos (by omega)), Nat.div_eq_of_lt hT, Nat.zero_add]
theorem bvN_take {l : List UInt8} {i : Nat} (hi : i < l.length) : bvN (l.take (i + 1)) = bvN (l.take i) * 256 + (l.getD i 0).toNat := by
 have key : ∀ (p : List UInt8) (c : UInt8), bvN (p ++ [c]) = bvN p * 256 + c.toNat := by
  intro p c
  induction p with
  | nil => simp [bvN]
  | cons a p ih => simp only [List.cons_append, bvN, ih, List.length_append, List.length_singleton, Nat.pow_succ]; grind
 rw [List.take_succ_eq_append_getElem hi, key, List.getD_eq_getElem?_getD, List.getElem?_eq_getElem hi]; rfl
theorem rread_fn (l : List UInt8) (n : Nat) (B : Base) (ad : Option Addr) (cap : Nat) (hl : BytesAt B ad l) (hn : l.length = n) (h32 : n ≤ 32) :
  Does Try.prog 91 [.raw (.slice ad n cap)] B (fun _ : Unit => wE (bvN l)) (fun _ _ => True) := by
 subst hn
 refine fn_of en91 (fun s B B' hB hR => hR) Try.func91 rfl in91 (by simp [Try.f91]) (by simp [closeds, closed]) (fun B0 hB0 => next_of 1000 ?_)
 replace hl := hl.ext hB0
 repeat' (simp (maxSteps := 4000000) (disch := omega) only [go_sem, ↓reduceIte, Try.f91])
 have hz0 : bvN [] * 256 ^ l.length = 0 := by simp [bvN]
 refine loopU (S := Nat) (fun i => i ≤ l.length)
  (fun i => ⟨[(4, .int .i64 (i : Nat)), (3, .ptr 1 0), (2, .ptr 0 0), (0, .raw (.slice ad l.length cap))], 2,
   [(1, some (.cells (ints .u64 (dig 18446744073709551616 (bvN (l.take i) * 256 ^ (l.length - i))) 4) 119 (0, 0))), (0, some (.cells (ints .u64 (fun _ => 0) 4) 119 (0, 0)))], B0, []⟩)
  (fun i => l.length - i) 0 (Nat.zero_le _) (Weak.sub (weak_of (by simp [wσ, go_sem, closed, closeds, lE_closed, closeds_ints, List.take_zero, Nat.sub_zero, hz0, z4i, z4z] <;> omega) (by simp [whs, Go.Ew.hget, go_sem, EObj.closed, closed, closeds, lE_closed, closeds_ints, List.take_zero, Nat.sub_zero, hz0, z4i, z4z]) (by simp [*]) rfl rfl (by simp))) ?_
 intro i hi
 rcases Nat.lt_or_ge i l.length with hi2 | hi2
 ·refine next_of 1000 ?_
  simp (maxSteps := 4000000) (disch := omega) only [go_sem, ↓reduceIte]
  repeat (with_reducible refine And.intro (by omega) ?_)
  refine condS_split (fun h2 => ?_) (fun h2 => by simp at h2; omega)
  obtain ⟨n, hn⟩ : ∃ n, n = l.length - 1 - i := ⟨_, rfl⟩
  have e0 : ((l.length : Int) - 1) - (i : Int) = (n : Int) := by omega
  have e1 : ((n : Int) / 8).toNat = n / 8 := by omega
  have m1 := hl.ld i hi2
  have m2 := hl.lS i hi2
  have m3 := hl.lD (by omega)
  have m4 := hl.ok.so (by omega)
  have hbt := bvN_take hi2
  obtain ⟨c, hc⟩ : ∃ c, c = (l.getD i 0).toNat := ⟨_, rfl⟩
  have hc2 : c < 256 := by rw [hc]; exact UInt8.toNat_lt _
  have m5 : rawCell B0 (adrAt ad i) = .int .u8 (c : Int) := by rw [m1, bE, hc]
  rw [← hc] at hbt
  have hb := bd64 (bvN (l.take i) * 256 ^ (l.length - i)) (n / 8)
  have e8 : (256 : Nat) = 2 ^ 8 := by decide
  have hsb := set_byte (bvN (l.take i)) c (8 * n) (n / 8) hc2 (by omega)
  rw [if_pos (by omega)] at hsb
  have ep : bvN (l.take i) * 256 ^ (l.length - i) = bvN (l.take i) * 2 ^ (8 * n + 8) := by rw [e8, ← Nat.pow_mul]; congr 2; omega
  have en : bvN (l.take (i + 1)) * 256 ^ (l.length - (i + 1)) = bvN (l.take i) * 2 ^ (8 * n + 8) + c * 2 ^ (8 * n) := by
   rw [hbt, show l.length - (i + 1) = n by omega, show 8 * n + 8 = 8 * (n + 1) by omega, Nat.pow_mul, Nat.pow_mul, ← e8, Nat.pow_succ]
   grind
  have hb2 := bd64 (bvN (l.take i) * 2 ^ (8 * n + 8) + c * 2 ^ (8 * n)) (n / 8)
  have hset : setF (dig 18446744073709551616 (bvN (l.take i) * 2 ^ (8 * n + 8))) (n / 8) (dig 18446744073709551616 (bvN (l.take i) * 2 ^ (8 * n + 8) + c * 2 ^ (8 * n)) (n / 8)) = dig 18446744073709551616 (bvN (l.take i) * 2 ^ (8 * n + 8) + c * 2 ^ (8 * n)) := by
   funext q
   simp only [setF]
   split
   ·rename_i h; rw [h]
   ·rename_i h; rw [set_byte _ _ _ q hc2 (by omega), if_neg (by omega)]
  have hK : c * 2 ^ (8 * n % 64) < 18446744073709551616 := by
   have h1 : 2 ^ (8 * n % 64) ≤ 72057594037927936 := two_le56 (by omega)
   have h2 : c * 2 ^ (8 * n % 64) ≤ 255 * 72057594037927936 := Nat.mul_le_mul (by omega) h1
   omega
  have hsh : bShl .u64 (c : Int) (8 * ((n : Int) % 8)) = ((c * 2 ^ (8 * n % 64) : Nat) : Int) := by
   rw [bShl_u64 (by omega) (by omega), show (8 * ((n : Int) % 8)).toNat = 8 * n % 64 by omega]
   rw [show ((c : Int) * 2 ^ (8 * n % 64)) = ((c * 2 ^ (8 * n % 64) : Nat) : Int) by simp]
   exact Int.emod_eq_of_lt (by omega) (by omega)
  rw [ep] at hb ⊢
  generalize c * 2 ^ (8 * n % 64) = K at *
  rw [← en] at hb2 hset hsb
  generalize bvN (l.take i) * 2 ^ (8 * n + 8) = N0 at *
  have hn8 : n / 8 ≤ 3 := by omega
  repeat' (first | with_reducible refine And.intro (by first | omega | (constructor <;> assumption) | (simp [*]; done)) ?_ | simp (maxSteps := 4000000) (disch := omega) only [go_sem, ↓reduceIte, e0, e1, Int.toNat_natCast, m5, hsh, ← hsb, hset] | with_reducible refine drawT_of (id := 6) [0, 1, 2, 3, 4, 5, 6, 7, 8, 9, 10, 11, 12, 13, 14, 15, 16, 17, 18] mixed (by kernel_rfl) (by simp) (fun hin => dt_of 1000 hin ?_) | with_reducible refine endT_of (by kernel_rfl) (nmT_of (by kernel_rfl)) (next_of 1000 ?_))
  exact ⟨i + 1, hi2, Weak.sub (weak_of (by simp [wσ, go_sem, closed, closeds, lE_closed, closeds_ints] <;> omega) (by simp [whs, Go.Ew.hget, go_sem, EObj.closed, closed, closeds, lE_closed, closeds_ints]) (by simp [*]) rfl rfl (by simp)), by omega⟩
 ·obtain rfl : i = l.length := by omega
  refine next_of 1000 ?_
  simp (maxSteps := 4000000) (disch := omega) only [go_sem, ↓reduceIte]
  repeat (with_reducible refine And.intro (by omega) ?_)
  refine condS_split (fun h2 => by simp at h2) (fun h2 => ?_)
  repeat' (first | simp (maxSteps := 4000000) (disch := omega) only [go_sem, ↓reduceIte] | with_reducible refine next_of 1000 ?_)
  rw [Nat.sub_self, Nat.pow_zero, Nat.mul_one, List.take_length]
  have he := wE_ints (bvN l)
  rw [wE_eq, EV.agg.injEq] at he
  rw [he]
  exact ⟨BExt.refl _, (), rfl, by simp [closed, closeds, closeds_ints]⟩
end Go.Proofs.Ytepabkjfnpaijaa
