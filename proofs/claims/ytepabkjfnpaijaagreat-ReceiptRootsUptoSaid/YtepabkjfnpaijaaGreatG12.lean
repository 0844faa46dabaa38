/- Part of a proof over the seat YtepabkjfnpaijaaGreat. -/
import Derived.Test.YtepabkjfnpaijaaGreatG11
import Derived.Test.YtepabkjfnpaijaaGreatEng2
import Derived.Test.YtepabkjfnpaijaaGreatG09
set_option linter.unusedSimpArgs false
set_option linter.unusedVariables false
set_option maxRecDepth 100000
namespace Go.Proofs.YtepabkjfnpaijaaGreat
open Go RowKit Go.Ew
set_option maxHeartbeats 4000000
theorem Ei7 : D5 Tryz.f50.ntmps (Tryz.f50.body.getD .skip) = true := by kernel_rfl
theorem Eg4 : D5 Tryz.f75.ntmps (Tryz.f75.body.getD .skip) = true := by kernel_rfl
theorem Ei8 : D5 Tryz.f49.ntmps (Tryz.f49.body.getD .skip) = true := by kernel_rfl
theorem Ch1 (n : Nat) (h : n < 18446744073709551616) : Pure Tryz.prog 50 [.int .u64 (n : Int)] (wE n) := by
 refine X3 (args := [.int .u64 (n : Int)]) Ep6 (by simp [closed, A0, C6, A2]) Tryz.func50 rfl Ei7 (by simp [Tryz.f50]) (by simp [A0, closed, C6, A2]) (fun w => A3 1000 ?_)
 simp (maxSteps := 4000000) (disch := omega) only [go_sem, ↓reduceIte, Tryz.f50]
 repeat (with_reducible refine And.intro (by omega) ?_)
 skip
 exact Do5 (by constructor <;> omega)
theorem Dp8 (x i : Nat) (hi : i < 32) : IntKind.u8.wrap ((dig 18446744073709551616 x (i / 8) / 2 ^ (8 * (i % 8))).tmod 256) = dig 256 x i := by
 have h0 := Bx0 18446744073709551616 x (i / 8)
 have hp : (0 : Int) ≤ 2 ^ (8 * (i % 8)) := Int.le_of_lt (Int.pow_pos (by omega))
 rw [Int.tmod_eq_emod_of_nonneg (Int.ediv_nonneg h0 hp), Cp9 x i hi]
 have := Df2 (b := 256) (by omega) x i
 have h2 := Bx0 256 x i
 show dig 256 x i % 256 = _
 exact Int.emod_eq_of_lt h2 this
theorem Cx3 (x : Nat) (hx : x < 115792089237316195423570985008687907853269984665640564039457584007913129639936) : Pure Tryz.prog 75 [wE x] (.agg (D4 .u8 (fun j => dig 256 x (31 - j)) 32)) := by
 rw [Cf0 x]
 refine X3 (args := [.agg (D4 .u64 (dig 18446744073709551616 x) 4)]) En8 (by simp [closed, A0, C6, A2]) Tryz.func75 rfl Eg4 (by simp [Tryz.f75]) (by simp [A0, closed, C6, A2]) (fun w => A3 1000 ?_)
 simp (maxSteps := 4000000) (disch := omega) only [go_sem, ↓reduceIte, Tryz.f75]
 repeat (with_reducible refine And.intro (by omega) ?_)
 skip
 refine G8 (S := Nat × (Nat → Int)) (fun s => s.1 ≤ 32 ∧ ∀ j, j < 32 → 32 - s.1 ≤ j → s.2 j = dig 256 x (31 - j))
  (fun s => ⟨[(4, .int .i64 (s.1 : Nat)), (3, .ptr 2 0), (2, .ptr 1 0), (1, .ptr 0 0)], 3,
   [(2, some (.cells (D4 .u8 s.2 32) 31 (0, 0))), (1, some (.cells (D4 .u8 (fun _ => 0) 32) 31 (0, 0))), (0, some (.cells (D4 .u64 (dig 18446744073709551616 x) 4) 102 (0, 0)))], base w, []⟩)
  (fun s => 32 - s.1) (0, fun _ => 0) ⟨by omega, fun j h1 h2 => by simp only at h2; omega⟩ (Weak.sub (A5 (by simp [wσ, go_sem, closed, A0, A2]) (by simp [whs, go_sem, EObj.closed, closed, A0, A2]) (by simp [*]) rfl rfl (by simp))) ?_
 rintro ⟨i, z⟩ ⟨hi, hz⟩
 simp only at hi hz
 refine A3 1000 ?_
 simp (maxSteps := 4000000) (disch := omega) only [go_sem, ↓reduceIte]
 repeat (with_reducible refine And.intro (by omega) ?_)
 refine A8 (fun h => ?_) (fun h => ?_)
 all_goals (try simp only [bne_iff_ne, ne_eq, beq_iff_eq, decide_eq_true_eq, decide_eq_false_iff_not, Bool.not_eq_true, Bool.not_eq_false, Bool.not_true, Bool.not_false, bne_eq_false_iff_eq, beq_eq_false_iff_ne, Bool.and_eq_true, Bool.or_eq_true, Bool.and_eq_false_imp, Bool.or_eq_false_iff, Bool.not_eq_true', Bool.not_eq_false', Int.not_lt, Int.not_le] at h)
 ·have e1 : ((31 : Int) - (i : Int)).toNat = 31 - i := by omega
  have e2 : ((i : Int) / 8).toNat = i / 8 := by omega
  have e3 : (8 * ((i : Int) % 8)).toNat = 8 * (i % 8) := by omega
  have hb := Dp8 x i (by omega)
  have hb64 := Et6 x (i / 8)
  repeat' (first | with_reducible refine And.intro (by omega) ?_ | simp (maxSteps := 4000000) (disch := omega) only [go_sem, ↓reduceIte, e1, e2, e3, hb])
  refine ⟨(i + 1, Bg9 z (31 - i) (dig 256 x i)), ⟨by show i + 1 ≤ 32; omega, ?_⟩, Weak.sub (A5 (by simp [wσ, go_sem, closed, A0, A2]) (by simp [whs, go_sem, EObj.closed, closed, A0, A2]) (by simp [*]) rfl rfl (by simp)), by show 32 - (i + 1) < 32 - i; omega⟩
  intro j h1 h2
  simp only [Bg9] at h2 ⊢
  split
  ·rename_i e; rw [show 31 - j = i by omega]
  ·exact hz j h1 (by omega)
 ·have hi : i = 32 := by omega
  subst hi
  simp (maxSteps := 4000000) (disch := omega) only [go_sem, ↓reduceIte]
  repeat (with_reducible refine And.intro (by omega) ?_)
  repeat' (first | simp (maxSteps := 4000000) (disch := omega) only [go_sem, ↓reduceIte] | with_reducible refine A3 1000 ?_)
  rw [P6 (fun j hj => hz j hj (by omega))]
theorem De1 {x i : Nat} (hi : i ≤ 32) (h1 : x < 256 ^ (32 - i)) (h2 : i = 32 ∨ 256 ^ (31 - i) ≤ x) : nby x = 32 - i := by
 have e : ∀ k, (256 : Nat) ^ k = 2 ^ (8 * k) := fun k => by rw [Nat.pow_mul]
 rw [e] at h1
 have b1 := blen_le.2 h1
 rcases h2 with h2 | h2
 ·unfold nby; omega
 ·rw [e] at h2
  have b2 := lt_blen.2 h2
  rcases Nat.lt_or_ge i 32 with h | h
  ·unfold nby; omega
  ·unfold nby; omega
theorem Bh3 (x : Nat) (hx : x < 115792089237316195423570985008687907853269984665640564039457584007913129639936) (B : Base) : Does Tryz.prog 49 [wE x] B (fun s : Option Addr × Nat => .raw (.slice s.1 (nby x) s.2)) (fun s B' => BytesAt B' s.1 (leB x) ∧ nby x ≤ s.2) := by
 refine I7 Ep7 (fun s B B' hB hR => ⟨hR.1.ext hB, hR.2⟩) Tryz.func49 rfl Ei8 (by simp [Tryz.f49]) (by simp [A0, C6]) (fun B0 hB0 => A3 1000 ?_)
 have c1 := Cx3 x hx
 repeat' (first | simp (maxSteps := 4000000) (disch := omega) only [go_sem, ↓reduceIte, Tryz.f49] | refine R9 (c1) (A3 1000 ?_))
 refine Dx6 (S := Nat) (S' := Nat) 0 rfl (fun i => i ≤ 32 ∧ x < 256 ^ (32 - i))
  (fun i => ⟨[(4, .int .i64 (i : Nat)), (3, .ptr 1 0), (2, .raw (.slice none 0 0)), (1, .ptr 0 0)], 2,
   [(1, some (.cells (D4 .u8 (fun j => dig 256 x (31 - j)) 32) 31 (0, 0))), (0, some (.cells (wC x) 102 (0, 0)))], B0, []⟩)
  (fun i => 32 - i) (fun i => i ≤ 32 ∧ nby x = 32 - i)
  (fun i => ⟨[(4, .int .i64 (i : Nat)), (3, .ptr 1 0), (2, .raw (.slice none 0 0)), (1, .ptr 0 0)], 2,
   [(1, some (.cells (D4 .u8 (fun j => dig 256 x (31 - j)) 32) 31 (0, 0))), (0, some (.cells (wC x) 102 (0, 0)))], B0, []⟩)
  0 ⟨by omega, Nat.lt_of_lt_of_le hx (by decide)⟩ (Weak.sub (A5 (by simp [wσ, go_sem, closed, A0, A2]) (by simp [whs, go_sem, EObj.closed, closed, A0, A2]) (by simp [*]) rfl rfl (by simp))) ?_ ?_
 ·intro i ⟨hi, hlt⟩
  refine A3 1000 ?_
  repeat' (first | with_reducible refine And.intro (by omega) ?_ | simp (maxSteps := 4000000) (disch := omega) only [go_sem, ↓reduceIte, Int.toNat_natCast] | ((first | refine A8 (fun h => ?_) (fun h => ?_) | refine E8 (fun h => ?_) (fun h => ?_) | refine U1 (fun h => ?_) (fun h => ?_)) <;> (try simp only [bne_iff_ne, ne_eq, beq_iff_eq, decide_eq_true_eq, decide_eq_false_iff_not, Bool.not_eq_true, Bool.not_eq_false, Bool.not_true, Bool.not_false, bne_eq_false_iff_eq, beq_eq_false_iff_ne, Bool.and_eq_true, Bool.or_eq_true, Bool.and_eq_false_imp, Bool.or_eq_false_iff, Bool.not_eq_true', Bool.not_eq_false', Int.not_lt, Int.not_le] at h) <;> (try (exfalso; omega))))
  ·rename_i h1
   have hi32 : i < 32 := by omega
   have hlt' : x < 256 ^ (32 - (i + 1)) := by
    have e : (256 : Nat) ^ (32 - i) = 256 ^ (32 - (i + 1)) * 256 := by rw [← Nat.pow_succ]; congr 1; omega
    rw [e] at hlt
    have h5 : x / 256 ^ (32 - (i + 1)) < 256 := Nat.div_lt_of_lt_mul hlt
    have h6 : x / 256 ^ (31 - i) % 256 = 0 := by unfold dig at h; omega
    rw [show 31 - i = 32 - (i + 1) by omega, Nat.mod_eq_of_lt h5] at h6
    exact Nat.lt_of_div_eq_zero (Nat.pow_pos (by omega)) h6
   exact ⟨i + 1, ⟨by omega, hlt'⟩, Weak.sub (A5 (by simp [wσ, go_sem, closed, A0, A2]) (by simp [whs, go_sem, EObj.closed, closed, A0, A2]) (by simp [*]) rfl rfl (by simp)), by omega⟩
  ·rename_i h1
   have h2 : 256 ^ (31 - i) ≤ x := by
    rcases Nat.lt_or_ge x (256 ^ (31 - i)) with h3 | h3
    ·exfalso; apply h; unfold dig; rw [Nat.div_eq_of_lt h3]; rfl
    ·exact h3
   exact ⟨i, ⟨hi, De1 hi hlt (.inr h2)⟩, Weak.sub (A5 (by simp [wσ, go_sem, closed, A0, A2]) (by simp [whs, go_sem, EObj.closed, closed, A0, A2]) (by simp [*]) rfl rfl (by simp))⟩
  ·have hi32 : i = 32 := by omega
   exact ⟨i, ⟨hi, De1 hi hlt (.inl hi32)⟩, Weak.sub (A5 (by simp [wσ, go_sem, closed, A0, A2]) (by simp [whs, go_sem, EObj.closed, closed, A0, A2]) (by simp [*]) rfl rfl (by simp))⟩
 ·intro i ⟨hi, hn⟩
  obtain ⟨o, ho, ho2, ho3⟩ : ∃ o, (if 32 = i then 0 else i) = o ∧ o + nby x ≤ 32 ∧ (nby x ≠ 0 → o = 32 - nby x) := by
   by_cases h0 : 32 = i
   ·exact ⟨0, by rw [if_pos h0], by omega, fun h => by omega⟩
   ·exact ⟨i, by rw [if_neg h0], by omega, fun h => by omega⟩
  have hL : nby x ≤ 32 := by omega
  have he : ((D4 .u8 (fun j => dig 256 x (31 - j)) 32).drop o).take (nby x) = (leB x).map bE := by
   rw [De3, Bj8 _ _ _ _ _ ho2]
   exact P6 fun i hi => by rw [ho3 (by omega)]; congr 1; omega
  have hll := N8 x
  refine A3 1000 ?_
  repeat' (first | with_reducible refine And.intro (by first | omega | (simp; done) | (simp; omega)) ?_ | simp (maxSteps := 4000000) (disch := omega) only [go_sem, ↓reduceIte, Int.toNat_natCast, ho, ← hn])
  refine appB (T := 5) (l := some (0, [])) (xs := []) 2 0 (leB x) rfl Tryz.underlying39 (.inl ⟨_, Tryz.underlying39⟩) zr5 cz5 by5 rfl rfl rfl (by simp [lOk, maxLen]) ?_ (by omega) (fun l' hl' => ?_)
  ·rw [← he, hll]
   exact ⟨_, by simp only [Q1, ev, J3, hget, Nat.reduceBEq, Nat.mul_one]; rfl, by simp [P0]; omega⟩
  ·simp only [Nat.zero_add, List.nil_append, hll] at hl' ⊢
   refine J0 3 (nby x) (T := 5) rfl hll hl' (by simp) (fun b ad2 cap2 B2 hE hfz hby hc => A3 1000 ?_)
   repeat' (first | with_reducible refine And.intro (by omega) ?_ | simp (maxSteps := 4000000) (disch := omega) only [go_sem, ↓reduceIte, hfz])
   exact ⟨(ad2, cap2), rfl, trivial, hby, hc⟩
end Go.Proofs.YtepabkjfnpaijaaGreat
namespace Go.Proofs.YtepabkjfnpaijaaGreat
open Go RowKit Go.Ew
set_option maxHeartbeats 4000000
theorem E2 {B : Base} (ad : Option Addr) : BytesAt B ad [] := ⟨fun a _ h0 => absurd h0 (by simp), fun h => absurd h (by simp), fun j hj => absurd hj (by simp)⟩
end Go.Proofs.YtepabkjfnpaijaaGreat
namespace Go.Proofs.YtepabkjfnpaijaaGreat
open Go RowKit Go.Ew
set_option maxHeartbeats 4000000
theorem El0 : D5 Tryz.f26.ntmps (Tryz.f26.body.getD .skip) = true := by kernel_rfl
theorem Bu5 {B : Base} {r : RcV} (h : LogsAt B r.lA r.L) : Does Tryz.prog 26 [.agg (rcE r)] B (fun _ : Unit => .bool (An7 r)) (fun _ _ => True) := by
 refine I7 Er6 (fun s B B' hB hR => hR) Tryz.func26 rfl El0 (by simp [Tryz.f26]) ⟨O9 0 r, trivial⟩ (fun B0 hB0 => A3 1000 ?_)
 replace h := h.ext hB0
 have hrc : ∀ n, A0 n (rcE r) := fun n => O9 n r
 repeat' (first | with_reducible refine And.intro (by omega) ?_ | simp (maxSteps := 4000000) (disch := omega) only [go_sem, ↓reduceIte, Tryz.f26, R0, Dm7, Dm6, Dm5, Ah9, Cx2, U5])
 refine G8 (S := Nat) (fun i => i ≤ r.L.length ∧ (r.L.take i).all (fun g => decide (g.tn ≤ 4)) = true)
  (fun i => ⟨[(8, .int .i64 (i : Nat)), (7, .int .i64 (r.L.length : Nat)), (6, .raw (.slice r.lA r.L.length r.lc)), (1, .ptr 0 0)], 1, [(0, some (.cells (rcE r) 29 (0, 0)))], B0, []⟩)
  (fun i => r.L.length - i) 0 ⟨Nat.zero_le _, rfl⟩ (Weak.sub (A5 (by simp [wσ, go_sem, closed, A0, A4, hrc] <;> omega) (by simp [whs, Go.Ew.hget, go_sem, EObj.closed, closed, A0, A4, hrc]) (by first | (simp [*]; done) | (simp only [cxG]; omega)) rfl rfl (by simp))) ?_
 rintro i ⟨hi, hall⟩
 have hlen := h.len
 refine A3 1000 ?_
 simp (maxSteps := 4000000) (disch := omega) only [go_sem, ↓reduceIte]
 repeat (with_reducible refine And.intro (by omega) ?_)
 refine A8 (fun h2 => ?_) (fun h2 => ?_)
 all_goals (try simp only [bne_iff_ne, ne_eq, beq_iff_eq, decide_eq_true_eq, decide_eq_false_iff_not, Bool.not_eq_true, Bool.not_eq_false, Bool.not_true, Bool.not_false, bne_eq_false_iff_eq, beq_eq_false_iff_ne, Bool.and_eq_true, Bool.or_eq_true, Bool.and_eq_false_imp, Bool.or_eq_false_iff, Bool.not_eq_true', Bool.not_eq_false', Int.not_lt, Int.not_le] at h2)
 ·have hi2 : i < r.L.length := by omega
  obtain ⟨l1, l2, l3, l4⟩ := h.ld hi2
  have h1 := h.ok _ (List.getElem_mem hi2)
  have hm := List.getElem_mem hi2
  have htk : (r.L.take (i + 1)) = r.L.take i ++ [r.L[i]] := List.take_succ_eq_append_getElem hi2
  obtain ⟨g, hg⟩ : ∃ g, g = r.L[i] := ⟨_, rfl⟩
  rw [← hg] at l1 h1 htk hm
  have ht := h1.tb
  have f1 : F7 g.ev = true := Aa0 rfl rfl
  have f2 : ∀ u v, (T7 g.ad u v).length = 22 := fun u v => Q4 h1.ha
  have f3 : ∀ u v d, (T7 g.ad u v).getD 20 d = u := fun u v d => Af7 h1.ha
  repeat' (first | with_reducible refine And.intro (by first | omega | (constructor <;> assumption) | (simp [*]; done)) ?_ | simp (maxSteps := 4000000) (disch := omega) only [go_sem, ↓reduceIte, Int.toNat_natCast, l1, f1, f2, f3, I4 h1.ha] | ((first | refine A8 (fun h => ?_) (fun h => ?_) | refine E8 (fun h => ?_) (fun h => ?_) | refine F6 (fun h => ?_) (fun h => ?_)) <;> (try simp only [bne_iff_ne, ne_eq, beq_iff_eq, decide_eq_true_eq, decide_eq_false_iff_not, Bool.not_eq_true, Bool.not_eq_false, Bool.not_true, Bool.not_false, bne_eq_false_iff_eq, beq_eq_false_iff_ne, Bool.and_eq_true, Bool.or_eq_true, Bool.and_eq_false_imp, Bool.or_eq_false_iff, Bool.not_eq_true', Bool.not_eq_false', Int.not_lt, Int.not_le] at h) <;> (try (exfalso; omega))))
  ·have hx : An7 r = false := by
    have : (r.L.all fun g => decide (g.tn ≤ 4)) = false := by
     rw [List.all_eq_false]; exact ⟨g, hm, by simp; omega⟩
    rw [An7, this]; rfl
   exact ⟨BExt.refl _, (), by rw [hx], by simp [closed]⟩
  ·exact ⟨i + 1, ⟨hi2, by rw [htk, List.all_append, hall]; simp; omega⟩, Weak.sub (A5 (by simp [wσ, go_sem, closed, A0, A4, hrc] <;> omega) (by simp [whs, Go.Ew.hget, go_sem, EObj.closed, closed, A0, A4, hrc]) (by first | (simp [*]; done) | (simp only [cxG]; omega)) rfl rfl (by simp)), by omega⟩
 ·obtain rfl : i = r.L.length := by omega
  rw [List.take_length] at hall
  have hmr : An7 r = (decide ((r.ty.toNat : Int) ≤ 3) && (r.ok == 0 || r.ok == 1) && eqB r.F (Ak2 zB (G7 r.L))) := by rw [An7, hall]; rfl
  rw [hmr]
  have hof := Cw9 r.L r.L.length _ r.lA r.lc h rfl
  clear h
  repeat' (first | with_reducible refine And.intro (by omega) ?_ | simp (maxSteps := 4000000) (disch := omega) only [go_sem, ↓reduceIte, R0, Dm7, Dm6, Dm5, Ah9, Cx2, U5, X7, eq8] | with_reducible refine C9 (id := 7) [0, 1, 2, 3, 4, 5, 6, 7, 8, 9, 10, 11, 12, 13, 14, 15, 16, 17, 18, 19, 20, 21] mixed (by kernel_rfl) (by simp) (fun hin => C8 1000 hin ?_) | with_reducible refine D7 (by kernel_rfl) (C1 (by kernel_rfl)) (A3 1000 ?_) | refine Aj9 (hof) (by simp [closed, A0, A2, C6]) (by kernel_rfl) (F1 (by kernel_rfl) (C1 (by kernel_rfl))) (fun hin => C8 1000 hin ?_) | with_reducible refine A3 1000 ?_ | ((first | refine A8 (fun h => ?_) (fun h => ?_) | refine E8 (fun h => ?_) (fun h => ?_) | refine F6 (fun h => ?_) (fun h => ?_)) <;> (try simp only [bne_iff_ne, ne_eq, beq_iff_eq, decide_eq_true_eq, decide_eq_false_iff_not, Bool.not_eq_true, Bool.not_eq_false, Bool.not_true, Bool.not_false, bne_eq_false_iff_eq, beq_eq_false_iff_ne, Bool.and_eq_true, Bool.or_eq_true, Bool.and_eq_false_imp, Bool.or_eq_false_iff, Bool.not_eq_true', Bool.not_eq_false', Int.not_lt, Int.not_le] at h) <;> (try (exfalso; omega))))
  all_goals exact ⟨BExt.refl _, (), by simp_all <;> (intros; omega), by simp [closed]⟩
end Go.Proofs.YtepabkjfnpaijaaGreat
namespace Go.Proofs.YtepabkjfnpaijaaGreat
open Go RowKit Go.Ew
set_option maxHeartbeats 4000000
theorem Ek9 : D5 Tryz.f27.ntmps (Tryz.f27.body.getD .skip) = true := by kernel_rfl
theorem Ek8 : D5 Tryz.f28.ntmps (Tryz.f28.body.getD .skip) = true := by kernel_rfl
theorem Ek6 : D5 Tryz.f30.ntmps (Tryz.f30.body.getD .skip) = true := by kernel_rfl
theorem Eg5 : D5 Tryz.f74.ntmps (Tryz.f74.body.getD .skip) = true := by kernel_rfl
theorem N1 (p : List UInt8) (n : Nat) (B : Base) (ad : Option Addr) (cap : Nat) (h : BytesAt B ad p) (hn : p.length = n) (hp : n ≤ 1099511627776) :
  Does Tryz.prog 27 [.raw (.slice ad n cap)] B (fun s : Plc => .agg (itE (txt p) s)) (fun s B' => ItAt B' (txt p) s) := by
 subst hn
 refine I7 Ds6 (fun s B B' hB hR => hR.ext hB) Tryz.func27 rfl Ek9 (by simp [Tryz.f27]) (by simp [A0, closed]) (fun B0 hB0 => A3 1000 ?_)
 replace h := h.ext hB0
 repeat' (first | with_reducible refine And.intro (by first | omega | (simp; done)) ?_ | simp (maxSteps := 4000000) (disch := omega) only [go_sem, ↓reduceIte, Tryz.f27])
 refine appB (T := 5) (l := some (0, [])) (xs := []) 1 0 p rfl Tryz.underlying39 (.inl ⟨_, Tryz.underlying39⟩) zr5 cz5 by5 rfl rfl rfl ⟨Nat.le_refl _, Nat.zero_le _, rfl, by simp⟩ (h.src _) (by omega) (fun l1 hl1 => ?_)
 simp only [Nat.zero_add, List.nil_append] at hl1 ⊢
 refine J0 (xs := p) (T := 5) 2 p.length rfl rfl hl1 (by simp) (fun b2 ad2 cap2 B2 hB2 hfz hbY hcap2 => A3 1000 ?_)
 change BExt B0 B2 at hB2
 repeat' (first | with_reducible refine And.intro (by omega) ?_ | simp (maxSteps := 4000000) (disch := omega) only [go_sem, ↓reduceIte, hfz])
 first | exact ⟨hB2, ⟨ad2, cap2, none, 0⟩, rfl, by simp [closed, A0], Ah2 hbY hp⟩ | exact ⟨⟨ad2, cap2, none, 0⟩, rfl, by simp [closed, A0], Ah2 hbY hp⟩ | exact ⟨hB2, ⟨ad2, cap2, none, 0⟩, by simp [closed, A0], Ah2 hbY hp⟩ | exact ⟨⟨ad2, cap2, none, 0⟩, by simp [closed, A0], Ah2 hbY hp⟩ | exact ⟨hB2, ⟨ad2, cap2, none, 0⟩, by simp [closed, A0, E2]⟩ | exact ⟨⟨ad2, cap2, none, 0⟩, by simp [closed, A0, E2]⟩
theorem Bw2 (qs : List (Itm × Plc)) : F7 (qs.flatMap itQ) = true := by
 induction qs with
 | nil => rfl
 | cons q qs ih => rw [List.flatMap_cons, J2, ih]; rfl
theorem Ar6 (qs : List (Itm × Plc)) (n : Nat) (B : Base) (ad : Option Addr) (cap : Nat) (hc : CellsAt B ad (qs.flatMap itC)) (hql : qs.length ≤ 1099511627776) (hk : ∀ q ∈ qs, ItAt B q.1 q.2) (hn : qs.length = n) :
  Does Tryz.prog 28 [.raw (.slice ad n cap)] B (fun s : Plc => .agg (itE (.mk 1 [] (qs.map Prod.fst)) s)) (fun s B' => ItAt B' (.mk 1 [] (qs.map Prod.fst)) s) := by
 subst hn
 have e1 : (Itm.mk 1 [] (qs.map Prod.fst)).list = 1 := rfl
 have e2 : (Itm.mk 1 [] (qs.map Prod.fst)).bytes = [] := rfl
 have e3 : (Itm.mk 1 [] (qs.map Prod.fst)).kids.length = qs.length := List.length_map _
 simp only [itE, e1, e2, e3, List.length_nil]
 refine I7 Dn4 (fun s B B' hB hR => hR.ext hB) Tryz.func28 rfl Ek8 (by simp [Tryz.f28]) (by simp [A0, closed]) (fun B0 hB0 => A3 1000 ?_)
 replace hc := hc.ext hB0
 have hcl : (qs.flatMap itC).length = qs.length * 3 := by rw [L5 (k := 3) (fun q _ => rfl)]; omega
 have hmo : (qs.flatMap itC).map D6 = qs.flatMap itQ := by
  rw [List.map_flatMap]; rfl
 obtain ⟨c, hs1, hs2⟩ := CellsAt.src (cap := cap) hc (sz := 3) (by omega) hcl []
 repeat' (first | with_reducible refine And.intro (by first | omega | (simp; done)) ?_ | simp (maxSteps := 4000000) (disch := omega) only [go_sem, ↓reduceIte, Tryz.f28])
 refine Aa8 (l := some (0, [])) (xs := []) (zs := z3) (news := qs.flatMap itQ) (T := 55) 1 0 rfl Tryz.underlying53 (.inl ⟨_, Tryz.underlying53⟩) Av7 Aw7 (by simp [z3]) C0 rfl rfl rfl ⟨Nat.le_refl _, Nat.zero_le _, rfl, by simp⟩ rfl trivial (by rw [← hmo]; exact (CellsAt.src (cap := cap) hc (sz := 3) (by omega) hcl _).choose_spec.1) (CellsAt.src (cap := cap) hc (sz := 3) (by omega) hcl _).choose_spec.2 (Bw2 qs) (by simp only [maxLen]; omega) (by rw [show Tryz.prog.bytesOf 55 = 56 from Ax2]; omega) (fun l1 hl1 => ?_)
 simp only [Nat.zero_add, List.nil_append] at hl1 ⊢
 refine R5 (xs := qs.flatMap itQ) (T := 55) 2 qs.length rfl hl1 (by rw [G6]; rfl) (A7 0 qs) C0 (by simp) (fun b2 kA kc B3 hB3 hf2' hD hso hcell => A3 1000 ?_)
 change BExt B0 B3 at hB3
 have hC : CellsAt B3 kA (qs.flatMap itC) := J1 hD hso (fun h0 => by
  rw [List.length_eq_zero_iff.1 h0]; rfl) hcell (S6 _ _)
 repeat' (first | with_reducible refine And.intro (by omega) ?_ | simp (maxSteps := 4000000) (disch := omega) only [go_sem, ↓reduceIte, hf2'])
 have hfin : ItAt B3 (.mk 1 [] (qs.map Prod.fst)) ⟨none, 0, kA, kc⟩ := .mk 1 [] qs _ (E2 _) (by simp) hC hql (fun q hq => (hk q hq).ext (hB0.trans hB3))
 first | exact ⟨hB3, ⟨none, 0, kA, kc⟩, rfl, by simp [closed, A0], hfin⟩ | exact ⟨⟨none, 0, kA, kc⟩, rfl, by simp [closed, A0], hfin⟩ | exact ⟨hB3, ⟨none, 0, kA, kc⟩, by simp [closed, A0], hfin⟩ | exact ⟨⟨none, 0, kA, kc⟩, by simp [closed, A0], hfin⟩ | exact ⟨hB3, ⟨none, 0, kA, kc⟩, by simp [closed, A0, E2]⟩ | exact ⟨⟨none, 0, kA, kc⟩, by simp [closed, A0, E2]⟩
theorem Bo3 (n : Nat) (h : n < 18446744073709551616) (B : Base) :
  Does Tryz.prog 30 [.int .u64 (n : Int)] B (fun s : Plc => .agg (itE (txt (leB n)) s)) (fun s B' => ItAt B' (txt (leB n)) s) := by
 refine I7 Er4 (fun s B B' hB hR => hR.ext hB) Tryz.func30 rfl Ek6 (by simp [Tryz.f30]) (by simp [A0, closed]) (fun B0 hB0 => A3 1000 ?_)
 repeat' (first | simp (maxSteps := 4000000) (disch := omega) only [go_sem, ↓reduceIte, Tryz.f30] | refine R9 (Ch1 n h) (A3 1000 ?_))
 refine F9 (Bh3 n (by omega) _) (fun _ => by simp [closed]) (fun s B2 hB2 hR => A3 1000 ?_)
 change BExt B0 B2 at hB2
 have hl := Bv9 (x := n) (by omega)
 repeat' (simp (maxSteps := 4000000) (disch := omega) only [go_sem, ↓reduceIte])
 refine F9 (N1 (leB n) (nby n) B2 s.1 s.2 hR.1 (N8 n) (by omega)) (fun _ => by simp [closed, A0]) (fun s3 B3 hB3 hR3 => A3 1000 ?_)
 change BExt B2 B3 at hB3
 repeat' (simp (maxSteps := 4000000) (disch := omega) only [go_sem, ↓reduceIte])
 first | exact ⟨hB2.trans hB3, s3, rfl, by simp [closed, A0], hR3⟩ | exact ⟨s3, rfl, by simp [closed, A0], hR3⟩ | exact ⟨hB2.trans hB3, s3, by simp [closed, A0], hR3⟩ | exact ⟨s3, by simp [closed, A0], hR3⟩ | exact ⟨hB2.trans hB3, s3, by simp [closed, A0, E2]⟩ | exact ⟨s3, by simp [closed, A0, E2]⟩
theorem Bh5 (base n : Nat) (hb : base ≤ 192) (hn : n < 4611686018427387904) (B : Base) :
  Owns Tryz.prog 74 5 [.int .u8 0] [.int .u8 (base : Nat), .int .i64 (n : Nat)] B (fun _ : Lst => (hd base n).length) (fun _ => (hd base n).map bE) (fun l => l) (fun _ _ => True) := by
 refine Di8 En9 (fun s B B' hB hR => hR) Tryz.func74 rfl Eg5 (by simp [Tryz.f74]) (by simp [A0, closed]) (fun B0 hB0 => A3 1000 ?_) hz8
 by_cases h55 : n ≤ 55
 ·have eh : hd base n = [UInt8.ofNat (base + n)] := if_pos h55
  have ev : ((UInt8.ofNat (base + n)).toNat : Int) = (base : Int) + n := by rw [Bt7 (by omega)]; push_cast; rfl
  repeat' (first | with_reducible refine And.intro (by first | omega | (simp; done)) ?_ | simp (maxSteps := 4000000) (disch := omega) only [go_sem, ↓reduceIte, Tryz.f74] | ((first | refine A8 (fun h => ?_) (fun h => ?_) | refine E8 (fun h => ?_) (fun h => ?_) | refine F6 (fun h => ?_) (fun h => ?_)) <;> (try simp only [bne_iff_ne, ne_eq, beq_iff_eq, decide_eq_true_eq, decide_eq_false_iff_not, Bool.not_eq_true, Bool.not_eq_false, Bool.not_true, Bool.not_false, bne_eq_false_iff_eq, beq_eq_false_iff_ne, Bool.and_eq_true, Bool.or_eq_true, Bool.and_eq_false_imp, Bool.or_eq_false_iff, Bool.not_eq_true', Bool.not_eq_false', Int.not_lt, Int.not_le] at h) <;> (try (exfalso; omega))))
  refine ⟨BExt.refl _, some (1, []), by rw [eh]; rfl, ?_, by rw [eh]; exact ⟨Nat.le_refl _, by simp [maxLen], rfl, by simp⟩, A9 0 _⟩
  rw [eh]; simp only [List.map_cons, List.map_nil, bE, ev]; rfl
 ·have eh : hd base n = UInt8.ofNat (base + 55 + nby n) :: leB n := if_neg h55
  have h8 := Bp6 (n := n) (by omega)
  have ev : ((UInt8.ofNat (base + 55 + nby n)).toNat : Int) = (base : Int) + 55 + nby n := by rw [Bt7 (by omega)]; push_cast; rfl
  have hll := N8 n
  have hlh : (hd base n).length = 1 + nby n := by rw [eh, List.length_cons]; omega
  repeat' (first | simp (maxSteps := 4000000) (disch := omega) only [go_sem, ↓reduceIte, Tryz.f74] | refine R9 (Ch1 n (by omega)) (A3 1000 ?_) | ((first | refine A8 (fun h => ?_) (fun h => ?_) | refine E8 (fun h => ?_) (fun h => ?_) | refine F6 (fun h => ?_) (fun h => ?_)) <;> (try simp only [bne_iff_ne, ne_eq, beq_iff_eq, decide_eq_true_eq, decide_eq_false_iff_not, Bool.not_eq_true, Bool.not_eq_false, Bool.not_true, Bool.not_false, bne_eq_false_iff_eq, beq_eq_false_iff_ne, Bool.and_eq_true, Bool.or_eq_true, Bool.and_eq_false_imp, Bool.or_eq_false_iff, Bool.not_eq_true', Bool.not_eq_false', Int.not_lt, Int.not_le] at h) <;> (try (exfalso; omega))))
  refine F9 (Bh3 n (by omega) _) (fun _ => by simp [closed]) (fun s B2 hB2 hR => A3 1000 ?_)
  change BExt B0 B2 at hB2
  repeat' (first | with_reducible refine And.intro (by first | omega | (simp; done)) ?_ | simp (maxSteps := 4000000) (disch := omega) only [go_sem, ↓reduceIte])
  refine appB (T := 5) (l := some (1, [])) (xs := [UInt8.ofNat (base + 55 + nby n)]) 0 1 (leB n) rfl Tryz.underlying39 (.inl ⟨_, Tryz.underlying39⟩) zr5 cz5 by5 rfl rfl (by simp only [List.map_cons, List.map_nil, bE, ev]; rfl) (by simp [lOk, maxLen]) ((N8 n) ▸ hR.1.src _) (by rw [N8]; omega) (fun l1 hl1 => ?_)
  have hx : [UInt8.ofNat (base + 55 + nby n)] ++ leB n = hd base n := eh.symm
  have e5 : 1 + (leB n).length = (hd base n).length := by omega
  simp only [e5, hx] at hl1 ⊢
  have hl1' := hl1
  obtain ⟨cp, rest, rfl, -⟩ := D8 hl1 (by omega)
  simp only [A6]
  refine K7 [1] 0 (by simp) (by simp) (by simp [cxG]) (by simp) (A3 1000 ?_)
  have hpk := F4 (T := 5) (ks := [1]) (k := 0) hl1' (A9 0 (hd base n)) hz8
  repeat' (first | with_reducible refine And.intro (by omega) ?_ | simp (maxSteps := 4000000) (disch := omega) only [go_sem, ↓reduceIte, okC, okE, O8, E6, hpk, E1])
  first | exact ⟨hB2, some (cp, rest), rfl, rfl, hl1', A9 0 _⟩ | exact ⟨some (cp, rest), rfl, rfl, hl1', A9 0 _⟩
end Go.Proofs.YtepabkjfnpaijaaGreat
namespace Go.Proofs.YtepabkjfnpaijaaGreat
open Go RowKit Go.Ew
set_option maxHeartbeats 4000000
theorem Ej0 : D5 Tryz.f47.ntmps (Tryz.f47.body.getD .skip) = true := by kernel_rfl
theorem Ch4 {B : Base} {t : Itm} {s : Plc} (h : ItAt B t s) : ∀ d : Nat, d ≤ 64 →
  Does Tryz.prog 47 [.agg (itE t s), .int .i64 (d : Nat)] B (fun _ : Unit => .int .i64 (chk t d)) (fun _ _ => True) := by
 induction h with
 | mk l b qs s hb hbl hc hql hk ih =>
 intro d hd
 have e1 : (Itm.mk l b (qs.map Prod.fst)).list = l := rfl
 have e2 : (Itm.mk l b (qs.map Prod.fst)).bytes = b := rfl
 have e3 : (Itm.mk l b (qs.map Prod.fst)).kids.length = qs.length := List.length_map _
 simp only [itE, e1, e2, e3]
 refine I7 Ep9 (fun s B B' hB hR => hR) Tryz.func47 rfl Ej0 (by simp [Tryz.f47]) (by simp [A0, closed]) (fun B0 hB0 => A3 1000 ?_)
 replace hc := hc.ext hB0
 obtain ⟨K, hK⟩ : ∃ K, K = qs.map Prod.fst := ⟨_, rfl⟩
 have hKl : K.length = qs.length := by rw [hK, List.length_map]
 have hK0 : (K ≠ []) = (0 < qs.length) := by rw [← hKl]; exact propext List.length_pos_iff.symm
 have hb0 : (b ≠ []) = (0 < b.length) := propext List.length_pos_iff.symm
 simp only [← hK, chk, hK0, hb0]
 by_cases hl1 : l = 1
 ·subst hl1
  by_cases hd1 : 64 ≤ d
  ·rw [if_pos ⟨rfl, hd1⟩]
   have c1 : decide ((64 : Int) ≤ (d : Int)) = true := decide_eq_true (by omega)
   repeat' (first | with_reducible refine And.intro (by omega) ?_ | simp (maxSteps := 4000000) (disch := omega) only [go_sem, ↓reduceIte, Tryz.f47, c1])
   exact ⟨BExt.refl _, (), by simp [closed]⟩
  ·rw [if_neg (by omega)]
   have c1 : decide ((64 : Int) ≤ (d : Int)) = false := decide_eq_false (by omega)
   by_cases hbl0 : 0 < b.length
   ·rw [if_pos (.inr (.inr ⟨rfl, hbl0⟩))]
    have c2 : decide ((0 : Int) < (b.length : Int)) = true := decide_eq_true (by omega)
    repeat' (first | with_reducible refine And.intro (by omega) ?_ | simp (maxSteps := 4000000) (disch := omega) only [go_sem, ↓reduceIte, Tryz.f47, c1, c2])
    exact ⟨BExt.refl _, (), by simp [closed]⟩
   ·rw [if_neg (by omega)]
    have c2 : decide ((0 : Int) < (b.length : Int)) = false := decide_eq_false (by omega)
    have hb00 : b.length = 0 := by omega
    repeat' (first | with_reducible refine And.intro (by omega) ?_ | simp (maxSteps := 4000000) (disch := omega) only [go_sem, ↓reduceIte, Tryz.f47, c1, c2])
    have ih' : ∀ q ∈ qs, Does Tryz.prog 47 [.agg (itE q.1 q.2), .int .i64 ((d + 1 : Nat) : Int)] B0 (fun _ : Unit => .int .i64 (chk q.1 (d + 1))) (fun _ _ => True) := fun q hq => O4 (ih q hq (d + 1) (by omega)) hB0
    have hcast : ((d : Int) + 1) = ((d + 1 : Nat) : Int) := by push_cast; rfl
    refine G8 (S := Nat) (fun i => i ≤ qs.length ∧ ∀ j (hj : j < i) (hj2 : j < K.length), chk K[j] (d + 1) = 0)
     (fun i => ⟨[(5, .int .i64 (i : Nat)), (2, .ptr 0 0), (1, .int .i64 (d : Nat))], 1, [(0, some (.cells [.int .i64 1, .raw (.slice s.bA b.length s.bc), .raw (.slice s.kA qs.length s.kc)] 55 (0, 0)))], B0, []⟩)
     (fun i => qs.length - i) 0 ⟨Nat.zero_le _, fun j hj => absurd hj (Nat.not_lt_zero j)⟩ (Weak.sub (A5 (by simp [wσ, go_sem, closed, A0, A4, ] <;> omega) (by simp [whs, Go.Ew.hget, go_sem, EObj.closed, closed, A0, A4, ]) (by simp [*]) rfl rfl (by simp))) ?_
    rintro i ⟨hi, hz⟩
    rcases Nat.lt_or_ge i qs.length with hi2 | hi2
    ·have c3 : decide ((i : Int) < (qs.length : Int)) = true := decide_eq_true (by omega)
     obtain ⟨l1, l2, l3, l4⟩ := Az0 hc hi2
     have hx := ih' _ (List.getElem_mem hi2)
     have hKi : K[i]'(by omega) = qs[i].1 := by simp [hK]
     have hat := Co5 (ks := K) (d := d + 1) (i := i) (by omega) (fun j hj => hz j hj (by omega))
     rw [hKi] at hat
     obtain ⟨q, hq0⟩ : ∃ q, q = qs[i] := ⟨_, rfl⟩
     rw [← hq0] at l1 hx hat hKi
     obtain ⟨ec, hec⟩ : ∃ ec, ec = chk q.1 (d + 1) := ⟨_, rfl⟩
     rw [← hec] at hx hat
     refine A3 1000 ?_
     by_cases hez : ec = 0
     ·subst hez
      repeat' (first | with_reducible refine And.intro (by first | omega | (constructor <;> assumption) | ((repeat' refine And.intro ?_ ?_) <;> first | omega | assumption | (refine SlOk.so (n := ?_) ?_ ?_; rotate_left; assumption; omega) | (simp; done) | fail)) ?_ | simp (maxSteps := 4000000) (disch := omega) only [go_sem, ↓reduceIte, c3, Int.toNat_natCast, l1, hcast] | refine F5 (hx) (by simp [closed, A0, A2, C6]) (A3 1000 ?_))
      refine ⟨i + 1, ⟨hi2, fun j hj hj2 => ?_⟩, Weak.sub (A5 (by simp [wσ, go_sem, closed, A0, A4, ] <;> omega) (by simp [whs, Go.Ew.hget, go_sem, EObj.closed, closed, A0, A4, ]) (by simp [*]) rfl rfl (by simp)), by omega⟩
      rcases Nat.lt_or_ge j i with h3 | h3
      ·exact hz j h3 hj2
      ·obtain rfl : j = i := by omega
       rw [hKi, ← hec]
     ·rw [hat hez]
      have c4 : (ec == 0) = false := by simpa using hez
      repeat' (first | with_reducible refine And.intro (by first | omega | (constructor <;> assumption) | (simp [*]; done)) ?_ | simp (maxSteps := 4000000) (disch := omega) only [go_sem, ↓reduceIte, c3, Int.toNat_natCast, l1, hcast, bne, c4] | refine F5 (hx) (by simp [closed, A0, A2, C6]) (A3 1000 ?_))
      exact ⟨BExt.refl _, (), by simp [closed]⟩
    ·have c3 : decide ((i : Int) < (qs.length : Int)) = false := decide_eq_false (by omega)
     rw [Aj7 (fun k hk2 => by
      obtain ⟨j, hj, rfl⟩ := List.getElem_of_mem hk2
      exact hz j (by omega) hj)]
     refine A3 1000 ?_
     repeat' (first | with_reducible refine And.intro (by omega) ?_ | simp (maxSteps := 4000000) (disch := omega) only [go_sem, ↓reduceIte, c3] | with_reducible refine A3 1000 ?_)
     exact ⟨BExt.refl _, (), by simp [closed]⟩
 ·rw [if_neg (fun h => hl1 h.1)]
  by_cases hl0 : l = 0
  ·subst hl0
   by_cases hq0 : 0 < qs.length
   ·rw [if_pos (.inr (.inl ⟨rfl, hq0⟩))]
    have c2 : decide ((0 : Int) < (qs.length : Int)) = true := decide_eq_true (by omega)
    repeat' (first | with_reducible refine And.intro (by omega) ?_ | simp (maxSteps := 4000000) (disch := omega) only [go_sem, ↓reduceIte, Tryz.f47, c2])
    exact ⟨BExt.refl _, (), by simp [closed]⟩
   ·rw [if_neg (by omega)]
    have c2 : decide ((0 : Int) < (qs.length : Int)) = false := decide_eq_false (by omega)
    have hK00 : K = [] := List.length_eq_zero_iff.1 (by omega)
    rw [hK00, show Bf9 [] (d + 1) = 0 from rfl]
    repeat' (first | with_reducible refine And.intro (by omega) ?_ | simp (maxSteps := 4000000) (disch := omega) only [go_sem, ↓reduceIte, Tryz.f47, c2])
    refine An8 1 ?_
    repeat' (first | with_reducible refine And.intro (by omega) ?_ | simp (maxSteps := 4000000) (disch := omega) only [go_sem, ↓reduceIte, c2] | with_reducible refine Dd2 (A3 1000 ?_) | with_reducible refine A3 1000 ?_)
    exact ⟨BExt.refl _, (), by simp [closed]⟩
  ·rw [if_pos (.inl ⟨hl0, hl1⟩)]
   have c0 : (l == 0) = false := by simpa using hl0
   have c1 : (l == 1) = false := by simpa using hl1
   by_cases hneg : l < 0
   ·have c2 : decide (l < 0) = true := decide_eq_true hneg
    repeat' (first | with_reducible refine And.intro (by omega) ?_ | simp (maxSteps := 4000000) (disch := omega) only [go_sem, ↓reduceIte, Tryz.f47, c0, c1, c2])
    exact ⟨BExt.refl _, (), by simp [closed]⟩
   ·have c2 : decide (l < 0) = false := decide_eq_false hneg
    have c3 : decide (1 < l) = true := decide_eq_true (by omega)
    repeat' (first | with_reducible refine And.intro (by omega) ?_ | simp (maxSteps := 4000000) (disch := omega) only [go_sem, ↓reduceIte, Tryz.f47, c0, c1, c2, c3])
    exact ⟨BExt.refl _, (), by simp [closed]⟩
end Go.Proofs.YtepabkjfnpaijaaGreat
