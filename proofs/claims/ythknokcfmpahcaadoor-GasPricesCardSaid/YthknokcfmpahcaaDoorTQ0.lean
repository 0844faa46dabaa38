/- Part of a proof over the seat YthknokcfmpahcaaDoor. -/
import Derived.Test.YthknokcfmpahcaaDoorTG10
import Derived.Test.YthknokcfmpahcaaDoorTG12
import Derived.Test.YthknokcfmpahcaaDoorLK
import Derived.Test.YthknokcfmpahcaaDoorEng3
import Derived.Test.YthknokcfmpahcaaDoorTSh
namespace Go.Proofs.YthknokcfmpahcaaDoor
open Go RowKit Go.Ew
set_option maxRecDepth 100000
set_option linter.unusedSimpArgs false
set_option linter.unusedVariables false
set_option maxHeartbeats 4000000
theorem in72 : codeIn Tryd.f72.ntmps (Tryd.f72.body.getD .skip) = true := by kernel_rfl
theorem in80 : codeIn Tryd.f80.ntmps (Tryd.f80.body.getD .skip) = true := by kernel_rfl
theorem in73 : codeIn Tryd.f73.ntmps (Tryd.f73.body.getD .skip) = true := by kernel_rfl
theorem in79 : codeIn Tryd.f79.ntmps (Tryd.f79.body.getD .skip) = true := by kernel_rfl
theorem evi {k : IntKind} {a b : Int} : (EV.int k a = EV.int k b) ↔ a = b := by simp
theorem len64_p (a : Int) (h0 : 0 ≤ a) (h1 : a < 18446744073709551616) : Pure Tryd.prog 79 [.int .u64 a] (.int .i64 (blen a.toNat)) :=
  ⟨en79, trivial, fun bs w => (Go.Proofs.Tryd.bits_Len64 a w h0 (by omega)).mono (by rintro e w' ⟨rfl, rfl⟩; exact ⟨by rw [bitLen_eq (by omega)]; rfl, Below.refl' _ _⟩)⟩
theorem bits_p (x : Nat) (hx : x < 115792089237316195423570985008687907853269984665640564039457584007913129639936) : Pure Tryd.prog 72 [wE x] (.int .i64 (blen x)) := by
  obtain ⟨a, b, c, d, hw, hl⟩ := wE_open x hx
  rw [hw]
  obtain ⟨a0, a1, b0, b1, c0, c1, d0, d1, v⟩ := hl
  have la := blen_64 (n := a.toNat) (by omega)
  have lb := blen_64 (n := b.toNat) (by omega)
  have lc := blen_64 (n := c.toNat) (by omega)
  have ld := blen_64 (n := d.toNat) (by omega)
  refine pure_p (args := [.agg [.int .u64 a, .int .u64 b, .int .u64 c, .int .u64 d]]) en72 (by simp [closed, closeds, closed_wE, closeds_ints]) Tryd.func72 rfl in72 (by simp [Tryd.f72]) (by simp [closeds, closed, closed_wE, closeds_ints]) (fun w => next_of 1000 ?_)
  simp (maxSteps := 4000000) (disch := omega) only [go_sem, Nat.reduceBEq, Nat.reduceAdd, Nat.reduceMul, Nat.reduceSub, Nat.reduceLT, Nat.reduceLeDiff, Int.reduceToNat, Int.reduceLT, Int.reduceLE, Int.reduceAdd, Int.reduceMul, Int.reduceSub, Int.reduceNeg, Int.reduceDiv, Int.reduceMod, Nat.reduceBNe, Nat.reduceGT, Int.reduceBEq, Int.reduceBNe, Int.reduceGT, Nat.reduceDiv, Nat.reduceMod, Nat.reducePow, Int.reducePow, gt_iff_lt, ge_iff_le, List.reduceReplicate, ↓reduceIte, Tryd.f72]
  repeat (with_reducible refine And.intro (by first | omega | assumption | (constructor <;> assumption) | (simp; done) | (simp; omega) | (simp [*]; done) | ((repeat' refine And.intro ?_ ?_) <;> first | omega | assumption | (refine SlOk.so (n := ?_) ?_ ?_; rotate_left; assumption; omega) | (simp; done) | fail) | fail) ?_)
  refine loopS_rounds 5 ?_
  repeat' (first
    | with_reducible refine And.intro (by first | omega | assumption | (constructor <;> assumption) | (simp; done) | (simp; omega) | (simp [*]; done) | ((repeat' refine And.intro ?_ ?_) <;> first | omega | assumption | (refine SlOk.so (n := ?_) ?_ ?_; rotate_left; assumption; omega) | (simp; done) | fail) | fail) ?_
    | simp (maxSteps := 4000000) (disch := omega) only [go_sem, Nat.reduceBEq, Nat.reduceAdd, Nat.reduceMul, Nat.reduceSub, Nat.reduceLT, Nat.reduceLeDiff, Int.reduceToNat, Int.reduceLT, Int.reduceLE, Int.reduceAdd, Int.reduceMul, Int.reduceSub, Int.reduceNeg, Int.reduceDiv, Int.reduceMod, Nat.reduceBNe, Nat.reduceGT, Int.reduceBEq, Int.reduceBNe, Int.reduceGT, Nat.reduceDiv, Nat.reduceMod, Nat.reducePow, Int.reducePow, gt_iff_lt, ge_iff_le, List.reduceReplicate, ↓reduceIte]
    | with_reducible refine roundS (next_of 1000 ?_)
    | with_reducible refine drawS_of mixed (by kernel_rfl) (dg_of 1000 ?_)
    | with_reducible refine endD_of (by kernel_rfl) (next_of 1000 ?_)
    | refine callS_p (len64_p _ (by omega) (by omega)) (next_of 1000 ?_)
    | refine callD_p (len64_p _ (by omega) (by omega)) (dg_of 1000 ?_)
    | with_reducible refine next_of 1000 ?_
    | ((first | refine condS_split (fun h => ?_) (fun h => ?_) | refine testS_split (fun h => ?_) (fun h => ?_) | refine testD_split (fun h => ?_) (fun h => ?_)) <;> (try simp only [bne_iff_ne, ne_eq, beq_iff_eq, decide_eq_true_eq, decide_eq_false_iff_not, Bool.not_eq_true, Bool.not_eq_false, Bool.not_true, Bool.not_false, bne_eq_false_iff_eq, beq_eq_false_iff_ne, Bool.and_eq_true, Bool.or_eq_true, Bool.and_eq_false_imp, Bool.or_eq_false_iff, Bool.not_eq_true', Bool.not_eq_false', Int.not_lt, Int.not_le] at h) <;> (try (exfalso; omega))))
  · have := blen_add (d := d.toNat) (r := x - d.toNat * 2 ^ 192) (s := 192) (by omega) (by omega)
    rw [show d.toNat * 2 ^ 192 + (x - d.toNat * 2 ^ 192) = x by omega] at this
    rw [evi, this]; omega
  · have := blen_add (d := c.toNat) (r := x - c.toNat * 2 ^ 128) (s := 128) (by omega) (by omega)
    rw [show c.toNat * 2 ^ 128 + (x - c.toNat * 2 ^ 128) = x by omega] at this
    rw [evi, this]; omega
  · have := blen_add (d := b.toNat) (r := x - b.toNat * 2 ^ 64) (s := 64) (by omega) (by omega)
    rw [show b.toNat * 2 ^ 64 + (x - b.toNat * 2 ^ 64) = x by omega] at this
    rw [evi, this]; omega
  · have : a.toNat = x := by omega
    rw [evi, this]; omega
  · have : x = 0 := by omega
    rw [this]; rfl
theorem byte_of (n i : Nat) (hi : i < 32) : dig 18446744073709551616 n (i / 8) / 2 ^ (8 * (i % 8)) % 256 = dig 256 n i := by
  have e : (18446744073709551616 : Nat) = 2 ^ 64 := by decide
  have e8 : (256 : Nat) = 2 ^ 8 := by decide
  have e2 : n / 256 ^ i = n / 2 ^ (64 * (i / 8)) / 2 ^ (8 * (i % 8)) := by
    rw [e8, ← Nat.pow_mul, Nat.div_div_eq_div_mul, ← Nat.pow_add]; congr 2; omega
  rw [dig, dig, e2, e, ← Nat.pow_mul]
  generalize n / 2 ^ (64 * (i / 8)) = q
  have h3 : 2 ^ 64 = 2 ^ (8 * (i % 8)) * 2 ^ (64 - 8 * (i % 8)) := by rw [← Nat.pow_add]; congr 1; omega
  have h4 : q % 2 ^ 64 / 2 ^ (8 * (i % 8)) % 256 = q / 2 ^ (8 * (i % 8)) % 256 := by
    rw [h3, Nat.mod_mul_right_div_self, show 64 - 8 * (i % 8) = 8 + (56 - 8 * (i % 8)) by omega, Nat.pow_add, ← e8, Nat.mod_mul_right_mod]
  rw [← h4]
  simp
theorem bd64 (n i : Nat) : 0 ≤ dig 18446744073709551616 n i ∧ dig 18446744073709551616 n i < 18446744073709551616 := ⟨dig_nn _ _ _, dig_lt (by decide) _ _⟩
/-- How many bytes a word needs. -/
def nby (x : Nat) : Nat := (blen x + 7) / 8
theorem nby_le {x : Nat} (hx : x < 115792089237316195423570985008687907853269984665640564039457584007913129639936) : nby x ≤ 32 := by
  have : blen x ≤ 256 := blen_le.2 (by omega)
  unfold nby; omega
theorem rbyteE (x i : Nat) (hi : i < 32) : IntKind.u8.wrap ((dig 18446744073709551616 x (i / 8) / 2 ^ (8 * (i % 8))).tmod 256) = dig 256 x i := by
  have h0 := dig_nn 18446744073709551616 x (i / 8)
  have hp : (0 : Int) ≤ 2 ^ (8 * (i % 8)) := Int.le_of_lt (Int.pow_pos (by omega))
  rw [Int.tmod_eq_emod_of_nonneg (Int.ediv_nonneg h0 hp), byte_of x i hi]
  have := dig_lt (b := 256) (by omega) x i
  have h2 := dig_nn 256 x i
  show dig 256 x i % 256 = _
  exact Int.emod_eq_of_lt h2 this
theorem rbytes_p (x : Nat) (hx : x < 115792089237316195423570985008687907853269984665640564039457584007913129639936) : Pure Tryd.prog 80 [wE x] (.agg (ints .u8 (fun j => dig 256 x (31 - j)) 32)) := by
  rw [wE_ints x]
  refine pure_p (args := [.agg (ints .u64 (dig 18446744073709551616 x) 4)]) en80 (by simp [closed, closeds, closed_wE, closeds_ints]) Tryd.func80 rfl in80 (by simp [Tryd.f80]) (by simp [closeds, closed, closed_wE, closeds_ints]) (fun w => next_of 1000 ?_)
  simp (maxSteps := 4000000) (disch := omega) only [go_sem, Nat.reduceBEq, Nat.reduceAdd, Nat.reduceMul, Nat.reduceSub, Nat.reduceLT, Nat.reduceLeDiff, Int.reduceToNat, Int.reduceLT, Int.reduceLE, Int.reduceAdd, Int.reduceMul, Int.reduceSub, Int.reduceNeg, Int.reduceDiv, Int.reduceMod, Nat.reduceBNe, Nat.reduceGT, Int.reduceBEq, Int.reduceBNe, Int.reduceGT, Nat.reduceDiv, Nat.reduceMod, Nat.reducePow, Int.reducePow, gt_iff_lt, ge_iff_le, List.reduceReplicate, ↓reduceIte, Tryd.f80]
  repeat (with_reducible refine And.intro (by first | omega | assumption | (constructor <;> assumption) | (simp; done) | (simp; omega) | (simp [*]; done) | ((repeat' refine And.intro ?_ ?_) <;> first | omega | assumption | (refine SlOk.so (n := ?_) ?_ ?_; rotate_left; assumption; omega) | (simp; done) | fail) | fail) ?_)
  repeat' (first
    | with_reducible refine And.intro (by first | omega | assumption | (constructor <;> assumption) | (simp; done) | (simp; omega) | (simp [*]; done) | ((repeat' refine And.intro ?_ ?_) <;> first | omega | assumption | (refine SlOk.so (n := ?_) ?_ ?_; rotate_left; assumption; omega) | (simp; done) | fail) | fail) ?_
    | simp (maxSteps := 4000000) (disch := omega) only [go_sem, Nat.reduceBEq, Nat.reduceAdd, Nat.reduceMul, Nat.reduceSub, Nat.reduceLT, Nat.reduceLeDiff, Int.reduceToNat, Int.reduceLT, Int.reduceLE, Int.reduceAdd, Int.reduceMul, Int.reduceSub, Int.reduceNeg, Int.reduceDiv, Int.reduceMod, Nat.reduceBNe, Nat.reduceGT, Int.reduceBEq, Int.reduceBNe, Int.reduceGT, Nat.reduceDiv, Nat.reduceMod, Nat.reducePow, Int.reducePow, gt_iff_lt, ge_iff_le, List.reduceReplicate, ↓reduceIte]
    | with_reducible refine roundS (next_of 1000 ?_)
    | with_reducible refine drawS_of mixed (by kernel_rfl) (dg_of 1000 ?_)
    | with_reducible refine endD_of (by kernel_rfl) (next_of 1000 ?_)
    | with_reducible refine next_of 1000 ?_
    | ((first | refine condS_split (fun h => ?_) (fun h => ?_) | refine testS_split (fun h => ?_) (fun h => ?_) | refine testD_split (fun h => ?_) (fun h => ?_)) <;> (try simp only [bne_iff_ne, ne_eq, beq_iff_eq, decide_eq_true_eq, decide_eq_false_iff_not, Bool.not_eq_true, Bool.not_eq_false, Bool.not_true, Bool.not_false, bne_eq_false_iff_eq, beq_eq_false_iff_ne, Bool.and_eq_true, Bool.or_eq_true, Bool.and_eq_false_imp, Bool.or_eq_false_iff, Bool.not_eq_true', Bool.not_eq_false', Int.not_lt, Int.not_le] at h) <;> (try (exfalso; omega))))
  refine loopU (S := Nat × (Nat → Int)) (fun s => s.1 ≤ 32 ∧ ∀ j, j < 32 → 32 - s.1 ≤ j → s.2 j = dig 256 x (31 - j))
    (fun s => ⟨[(4, .int .i64 (s.1 : Nat)), (3, .ptr 2 0), (2, .ptr 1 0), (1, .ptr 0 0)], 3,
      [(2, some (.cells (ints .u8 s.2 32) 103 (0, 0))), (1, some (.cells (ints .u8 (fun _ => 0) 32) 103 (0, 0))), (0, some (.cells (ints .u64 (dig 18446744073709551616 x) 4) 29 (0, 0)))], base w, []⟩)
    (fun s => 32 - s.1) (0, fun _ => 0) ⟨by omega, fun j h1 h2 => by simp only at h2; omega⟩ (Weak.sub (weak_of (by simp [wσ, go_sem, closed, closeds, closeds_ints]) (by simp [whs, go_sem, EObj.closed, closed, closeds, closeds_ints]) (by simp [*]) rfl rfl (by simp))) ?_
  rintro ⟨i, z⟩ ⟨hi, hz⟩
  simp only at hi hz
  refine next_of 1000 ?_
  simp (maxSteps := 4000000) (disch := omega) only [go_sem, Nat.reduceBEq, Nat.reduceAdd, Nat.reduceMul, Nat.reduceSub, Nat.reduceLT, Nat.reduceLeDiff, Int.reduceToNat, Int.reduceLT, Int.reduceLE, Int.reduceAdd, Int.reduceMul, Int.reduceSub, Int.reduceNeg, Int.reduceDiv, Int.reduceMod, Nat.reduceBNe, Nat.reduceGT, Int.reduceBEq, Int.reduceBNe, Int.reduceGT, Nat.reduceDiv, Nat.reduceMod, Nat.reducePow, Int.reducePow, gt_iff_lt, ge_iff_le, List.reduceReplicate, ↓reduceIte]
  repeat (with_reducible refine And.intro (by first | omega | assumption | (constructor <;> assumption) | (simp; done) | (simp; omega) | (simp [*]; done) | ((repeat' refine And.intro ?_ ?_) <;> first | omega | assumption | (refine SlOk.so (n := ?_) ?_ ?_; rotate_left; assumption; omega) | (simp; done) | fail) | fail) ?_)
  refine condS_split (fun h => ?_) (fun h => ?_)
  all_goals (try simp only [bne_iff_ne, ne_eq, beq_iff_eq, decide_eq_true_eq, decide_eq_false_iff_not, Bool.not_eq_true, Bool.not_eq_false, Bool.not_true, Bool.not_false, bne_eq_false_iff_eq, beq_eq_false_iff_ne, Bool.and_eq_true, Bool.or_eq_true, Bool.and_eq_false_imp, Bool.or_eq_false_iff, Bool.not_eq_true', Bool.not_eq_false', Int.not_lt, Int.not_le] at h)
  · have e1 : ((31 : Int) - (i : Int)).toNat = 31 - i := by omega
    have e2 : ((i : Int) / 8).toNat = i / 8 := by omega
    have e3 : (8 * ((i : Int) % 8)).toNat = 8 * (i % 8) := by omega
    have hb := rbyteE x i (by omega)
    have hb64 := bd64 x (i / 8)
    repeat' (first
      | with_reducible refine And.intro (by first | omega | assumption | (constructor <;> assumption) | (simp; done) | (simp; omega) | (simp [*]; done) | ((repeat' refine And.intro ?_ ?_) <;> first | omega | assumption | (refine SlOk.so (n := ?_) ?_ ?_; rotate_left; assumption; omega) | (simp; done) | fail) | fail) ?_
      | simp (maxSteps := 4000000) (disch := omega) only [go_sem, Nat.reduceBEq, Nat.reduceAdd, Nat.reduceMul, Nat.reduceSub, Nat.reduceLT, Nat.reduceLeDiff, Int.reduceToNat, Int.reduceLT, Int.reduceLE, Int.reduceAdd, Int.reduceMul, Int.reduceSub, Int.reduceNeg, Int.reduceDiv, Int.reduceMod, Nat.reduceBNe, Nat.reduceGT, Int.reduceBEq, Int.reduceBNe, Int.reduceGT, Nat.reduceDiv, Nat.reduceMod, Nat.reducePow, Int.reducePow, gt_iff_lt, ge_iff_le, List.reduceReplicate, ↓reduceIte, e1, e2, e3, hb]
      | with_reducible refine roundS (next_of 1000 ?_)
      | with_reducible refine drawS_of mixed (by kernel_rfl) (dg_of 1000 ?_)
      | with_reducible refine endD_of (by kernel_rfl) (next_of 1000 ?_)
      | with_reducible refine next_of 1000 ?_
      | ((first | refine condS_split (fun h => ?_) (fun h => ?_) | refine testS_split (fun h => ?_) (fun h => ?_) | refine testD_split (fun h => ?_) (fun h => ?_)) <;> (try simp only [bne_iff_ne, ne_eq, beq_iff_eq, decide_eq_true_eq, decide_eq_false_iff_not, Bool.not_eq_true, Bool.not_eq_false, Bool.not_true, Bool.not_false, bne_eq_false_iff_eq, beq_eq_false_iff_ne, Bool.and_eq_true, Bool.or_eq_true, Bool.and_eq_false_imp, Bool.or_eq_false_iff, Bool.not_eq_true', Bool.not_eq_false', Int.not_lt, Int.not_le] at h) <;> (try (exfalso; omega))))
    refine ⟨(i + 1, setF z (31 - i) (dig 256 x i)), ⟨by show i + 1 ≤ 32; omega, ?_⟩, Weak.sub (weak_of (by simp [wσ, go_sem, closed, closeds, closeds_ints]) (by simp [whs, go_sem, EObj.closed, closed, closeds, closeds_ints]) (by simp [*]) rfl rfl (by simp)), by show 32 - (i + 1) < 32 - i; omega⟩
    intro j h1 h2
    simp only [setF] at h2 ⊢
    split
    · rename_i e; rw [show 31 - j = i by omega]
    · exact hz j h1 (by omega)
  · have hi : i = 32 := by omega
    subst hi
    simp (maxSteps := 4000000) (disch := omega) only [go_sem, Nat.reduceBEq, Nat.reduceAdd, Nat.reduceMul, Nat.reduceSub, Nat.reduceLT, Nat.reduceLeDiff, Int.reduceToNat, Int.reduceLT, Int.reduceLE, Int.reduceAdd, Int.reduceMul, Int.reduceSub, Int.reduceNeg, Int.reduceDiv, Int.reduceMod, Nat.reduceBNe, Nat.reduceGT, Int.reduceBEq, Int.reduceBNe, Int.reduceGT, Nat.reduceDiv, Nat.reduceMod, Nat.reducePow, Int.reducePow, gt_iff_lt, ge_iff_le, List.reduceReplicate, ↓reduceIte]
    repeat (with_reducible refine And.intro (by first | omega | assumption | (constructor <;> assumption) | (simp; done) | (simp; omega) | (simp [*]; done) | ((repeat' refine And.intro ?_ ?_) <;> first | omega | assumption | (refine SlOk.so (n := ?_) ?_ ?_; rotate_left; assumption; omega) | (simp; done) | fail) | fail) ?_)
    repeat' (first
      | with_reducible refine And.intro (by first | omega | assumption | (constructor <;> assumption) | (simp; done) | (simp; omega) | (simp [*]; done) | ((repeat' refine And.intro ?_ ?_) <;> first | omega | assumption | (refine SlOk.so (n := ?_) ?_ ?_; rotate_left; assumption; omega) | (simp; done) | fail) | fail) ?_
      | simp (maxSteps := 4000000) (disch := omega) only [go_sem, Nat.reduceBEq, Nat.reduceAdd, Nat.reduceMul, Nat.reduceSub, Nat.reduceLT, Nat.reduceLeDiff, Int.reduceToNat, Int.reduceLT, Int.reduceLE, Int.reduceAdd, Int.reduceMul, Int.reduceSub, Int.reduceNeg, Int.reduceDiv, Int.reduceMod, Nat.reduceBNe, Nat.reduceGT, Int.reduceBEq, Int.reduceBNe, Int.reduceGT, Nat.reduceDiv, Nat.reduceMod, Nat.reducePow, Int.reducePow, gt_iff_lt, ge_iff_le, List.reduceReplicate, ↓reduceIte]
      | with_reducible refine roundS (next_of 1000 ?_)
      | with_reducible refine drawS_of mixed (by kernel_rfl) (dg_of 1000 ?_)
      | with_reducible refine endD_of (by kernel_rfl) (next_of 1000 ?_)
      | with_reducible refine next_of 1000 ?_
      | ((first | refine condS_split (fun h => ?_) (fun h => ?_) | refine testS_split (fun h => ?_) (fun h => ?_) | refine testD_split (fun h => ?_) (fun h => ?_)) <;> (try simp only [bne_iff_ne, ne_eq, beq_iff_eq, decide_eq_true_eq, decide_eq_false_iff_not, Bool.not_eq_true, Bool.not_eq_false, Bool.not_true, Bool.not_false, bne_eq_false_iff_eq, beq_eq_false_iff_ne, Bool.and_eq_true, Bool.or_eq_true, Bool.and_eq_false_imp, Bool.or_eq_false_iff, Bool.not_eq_true', Bool.not_eq_false', Int.not_lt, Int.not_le] at h) <;> (try (exfalso; omega))))
    rw [ints_congr (fun j hj => hz j hj (by omega))]
theorem nby_of {x i : Nat} (hi : i ≤ 32) (h1 : x < 256 ^ (32 - i)) (h2 : i = 32 ∨ 256 ^ (31 - i) ≤ x) : nby x = 32 - i := by
  have e : ∀ k, (256 : Nat) ^ k = 2 ^ (8 * k) := fun k => by rw [Nat.pow_mul]
  rw [e] at h1
  have b1 := blen_le.2 h1
  rcases h2 with h2 | h2
  · unfold nby; omega
  · rw [e] at h2
    have b2 := lt_blen.2 h2
    rcases Nat.lt_or_ge i 32 with h | h
    · unfold nby; omega
    · unfold nby; omega
theorem ints_drop (k : IntKind) (z : Nat → Int) (n a L : Nat) (h : a + L ≤ n) : ((ints k z n).drop a).take L = ints k (fun j => z (a + j)) L := by
  apply List.ext_getElem
  · simp [ints]; omega
  · intro i h1 h2
    simp [ints]
theorem rleast_fn (x : Nat) (hx : x < 115792089237316195423570985008687907853269984665640564039457584007913129639936) (B : Base) : Does Tryd.prog 73 [wE x] B (fun s : Option Addr × Nat => .raw (.slice s.1 (nby x) s.2)) (fun _ _ => True) := by
  refine fn_of en73 (fun s B B' hB hR => hR) Tryd.func73 rfl in73 (by simp [Tryd.f73]) (by simp [closeds, closed_wE]) (fun B0 hB0 => next_of 1000 ?_)
  have c1 := rbytes_p x hx
  repeat' (first
    | with_reducible refine And.intro (by first | omega | assumption | (constructor <;> assumption) | (simp; done) | (simp; omega) | (simp [*]; done) | ((repeat' refine And.intro ?_ ?_) <;> first | omega | assumption | (refine SlOk.so (n := ?_) ?_ ?_; rotate_left; assumption; omega) | (simp; done) | fail) | fail) ?_
    | simp (maxSteps := 4000000) (disch := omega) only [go_sem, Nat.reduceBEq, Nat.reduceAdd, Nat.reduceMul, Nat.reduceSub, Nat.reduceLT, Nat.reduceLeDiff, Int.reduceToNat, Int.reduceLT, Int.reduceLE, Int.reduceAdd, Int.reduceMul, Int.reduceSub, Int.reduceNeg, Int.reduceDiv, Int.reduceMod, Nat.reduceBNe, Nat.reduceGT, Int.reduceBEq, Int.reduceBNe, Int.reduceGT, Nat.reduceDiv, Nat.reduceMod, Nat.reducePow, Int.reducePow, gt_iff_lt, ge_iff_le, List.reduceReplicate, ↓reduceIte, Tryd.f73]
    | with_reducible refine roundS (next_of 1000 ?_)
    | with_reducible refine drawS_of mixed (by kernel_rfl) (dg_of 1000 ?_)
    | with_reducible refine endD_of (by kernel_rfl) (next_of 1000 ?_)
    | refine callS_p (c1) (next_of 1000 ?_)
    | refine callD_p (c1) (dg_of 1000 ?_)
    | with_reducible refine next_of 1000 ?_
    | ((first | refine condS_split (fun h => ?_) (fun h => ?_) | refine testS_split (fun h => ?_) (fun h => ?_) | refine testD_split (fun h => ?_) (fun h => ?_)) <;> (try simp only [bne_iff_ne, ne_eq, beq_iff_eq, decide_eq_true_eq, decide_eq_false_iff_not, Bool.not_eq_true, Bool.not_eq_false, Bool.not_true, Bool.not_false, bne_eq_false_iff_eq, beq_eq_false_iff_ne, Bool.and_eq_true, Bool.or_eq_true, Bool.and_eq_false_imp, Bool.or_eq_false_iff, Bool.not_eq_true', Bool.not_eq_false', Int.not_lt, Int.not_le] at h) <;> (try (exfalso; omega))))
  refine loopX (S := Nat) (S' := Nat) 0 rfl (fun i => i ≤ 32 ∧ x < 256 ^ (32 - i))
    (fun i => ⟨[(4, .int .i64 (i : Nat)), (3, .ptr 1 0), (2, .raw (.slice none 0 0)), (1, .ptr 0 0)], 2,
      [(1, some (.cells (ints .u8 (fun j => dig 256 x (31 - j)) 32) 103 (0, 0))), (0, some (.cells (wC x) 29 (0, 0)))], B0, []⟩)
    (fun i => 32 - i) (fun i => i ≤ 32 ∧ nby x = 32 - i)
    (fun i => ⟨[(4, .int .i64 (i : Nat)), (3, .ptr 1 0), (2, .raw (.slice none 0 0)), (1, .ptr 0 0)], 2,
      [(1, some (.cells (ints .u8 (fun j => dig 256 x (31 - j)) 32) 103 (0, 0))), (0, some (.cells (wC x) 29 (0, 0)))], B0, []⟩)
    0 ⟨by omega, Nat.lt_of_lt_of_le hx (by decide)⟩ (Weak.sub (weak_of (by simp [wσ, go_sem, closed, closeds, closeds_ints]) (by simp [whs, go_sem, EObj.closed, closed, closeds, closeds_ints]) (by simp [*]) rfl rfl (by simp))) ?_ ?_
  · intro i ⟨hi, hlt⟩
    refine next_of 1000 ?_
    repeat' (first
      | with_reducible refine And.intro (by first | omega | assumption | (constructor <;> assumption) | (simp; done) | (simp; omega) | (simp [*]; done) | ((repeat' refine And.intro ?_ ?_) <;> first | omega | assumption | (refine SlOk.so (n := ?_) ?_ ?_; rotate_left; assumption; omega) | (simp; done) | fail) | fail) ?_
      | simp (maxSteps := 4000000) (disch := omega) only [go_sem, Nat.reduceBEq, Nat.reduceAdd, Nat.reduceMul, Nat.reduceSub, Nat.reduceLT, Nat.reduceLeDiff, Int.reduceToNat, Int.reduceLT, Int.reduceLE, Int.reduceAdd, Int.reduceMul, Int.reduceSub, Int.reduceNeg, Int.reduceDiv, Int.reduceMod, Nat.reduceBNe, Nat.reduceGT, Int.reduceBEq, Int.reduceBNe, Int.reduceGT, Nat.reduceDiv, Nat.reduceMod, Nat.reducePow, Int.reducePow, gt_iff_lt, ge_iff_le, List.reduceReplicate, ↓reduceIte, Int.toNat_natCast]
      | with_reducible refine roundS (next_of 1000 ?_)
      | with_reducible refine drawS_of mixed (by kernel_rfl) (dg_of 1000 ?_)
      | with_reducible refine endD_of (by kernel_rfl) (next_of 1000 ?_)
      | with_reducible refine next_of 1000 ?_
      | ((first | refine condS_split (fun h => ?_) (fun h => ?_) | refine testS_split (fun h => ?_) (fun h => ?_) | refine testD_split (fun h => ?_) (fun h => ?_)) <;> (try simp only [bne_iff_ne, ne_eq, beq_iff_eq, decide_eq_true_eq, decide_eq_false_iff_not, Bool.not_eq_true, Bool.not_eq_false, Bool.not_true, Bool.not_false, bne_eq_false_iff_eq, beq_eq_false_iff_ne, Bool.and_eq_true, Bool.or_eq_true, Bool.and_eq_false_imp, Bool.or_eq_false_iff, Bool.not_eq_true', Bool.not_eq_false', Int.not_lt, Int.not_le] at h) <;> (try (exfalso; omega))))
    · rename_i h1
      have hi32 : i < 32 := by omega
      have hlt' : x < 256 ^ (32 - (i + 1)) := by
        have e : (256 : Nat) ^ (32 - i) = 256 ^ (32 - (i + 1)) * 256 := by rw [← Nat.pow_succ]; congr 1; omega
        rw [e] at hlt
        have h5 : x / 256 ^ (32 - (i + 1)) < 256 := Nat.div_lt_of_lt_mul hlt
        have h6 : x / 256 ^ (31 - i) % 256 = 0 := by unfold dig at h; omega
        rw [show 31 - i = 32 - (i + 1) by omega, Nat.mod_eq_of_lt h5] at h6
        exact Nat.lt_of_div_eq_zero (Nat.pow_pos (by omega)) h6
      exact ⟨i + 1, ⟨by omega, hlt'⟩, Weak.sub (weak_of (by simp [wσ, go_sem, closed, closeds, closeds_ints]) (by simp [whs, go_sem, EObj.closed, closed, closeds, closeds_ints]) (by simp [*]) rfl rfl (by simp)), by omega⟩
    · rename_i h1
      have h2 : 256 ^ (31 - i) ≤ x := by
        rcases Nat.lt_or_ge x (256 ^ (31 - i)) with h3 | h3
        · exfalso; apply h; unfold dig; rw [Nat.div_eq_of_lt h3]; rfl
        · exact h3
      exact ⟨i, ⟨hi, nby_of hi hlt (.inr h2)⟩, Weak.sub (weak_of (by simp [wσ, go_sem, closed, closeds, closeds_ints]) (by simp [whs, go_sem, EObj.closed, closed, closeds, closeds_ints]) (by simp [*]) rfl rfl (by simp))⟩
    · have hi32 : i = 32 := by omega
      exact ⟨i, ⟨hi, nby_of hi hlt (.inl hi32)⟩, Weak.sub (weak_of (by simp [wσ, go_sem, closed, closeds, closeds_ints]) (by simp [whs, go_sem, EObj.closed, closed, closeds, closeds_ints]) (by simp [*]) rfl rfl (by simp))⟩
  · intro i ⟨hi, hn⟩
    obtain ⟨o, ho, ho2⟩ : ∃ o, (if 32 = i then 0 else i) = o ∧ o + nby x ≤ 32 := by
      by_cases h0 : 32 = i
      · exact ⟨0, by rw [if_pos h0], by omega⟩
      · exact ⟨i, by rw [if_neg h0], by omega⟩
    have hL : nby x ≤ 32 := by omega
    refine next_of 1000 ?_
    repeat' (first
      | with_reducible refine And.intro (by first | omega | assumption | (constructor <;> assumption) | (simp; done) | (simp; omega) | (simp [*]; done) | ((repeat' refine And.intro ?_ ?_) <;> first | omega | assumption | (refine SlOk.so (n := ?_) ?_ ?_; rotate_left; assumption; omega) | (simp; done) | fail) | fail) ?_
      | simp (maxSteps := 4000000) (disch := omega) only [go_sem, Nat.reduceBEq, Nat.reduceAdd, Nat.reduceMul, Nat.reduceSub, Nat.reduceLT, Nat.reduceLeDiff, Int.reduceToNat, Int.reduceLT, Int.reduceLE, Int.reduceAdd, Int.reduceMul, Int.reduceSub, Int.reduceNeg, Int.reduceDiv, Int.reduceMod, Nat.reduceBNe, Nat.reduceGT, Int.reduceBEq, Int.reduceBNe, Int.reduceGT, Nat.reduceDiv, Nat.reduceMod, Nat.reducePow, Int.reducePow, gt_iff_lt, ge_iff_le, List.reduceReplicate, ↓reduceIte, Int.toNat_natCast, ho, ← hn]
      | with_reducible refine roundS (next_of 1000 ?_)
      | with_reducible refine drawS_of mixed (by kernel_rfl) (dg_of 1000 ?_)
      | with_reducible refine endD_of (by kernel_rfl) (next_of 1000 ?_)
      | with_reducible refine next_of 1000 ?_
      | ((first | refine condS_split (fun h => ?_) (fun h => ?_) | refine testS_split (fun h => ?_) (fun h => ?_) | refine testD_split (fun h => ?_) (fun h => ?_)) <;> (try simp only [bne_iff_ne, ne_eq, beq_iff_eq, decide_eq_true_eq, decide_eq_false_iff_not, Bool.not_eq_true, Bool.not_eq_false, Bool.not_true, Bool.not_false, bne_eq_false_iff_eq, beq_eq_false_iff_ne, Bool.and_eq_true, Bool.or_eq_true, Bool.and_eq_false_imp, Bool.or_eq_false_iff, Bool.not_eq_true', Bool.not_eq_false', Int.not_lt, Int.not_le] at h) <;> (try (exfalso; omega))))
    have hN : ints .u8 (fun j => dig 256 x (31 - (o + j))) (nby x) = ((List.range (nby x)).map fun j => UInt8.ofNat (dig 256 x (31 - (o + j))).toNat).map bE := by
      unfold ints
      rw [List.map_map]
      exact List.map_congr_left fun j _ => bE_of (dig_nn _ _ _) (dig_lt (b := 256) (by omega) _ _)
    refine appB (T := 5) (l := some (0, [])) (xs := []) 2 0 ((List.range (nby x)).map fun j => UInt8.ofNat (dig 256 x (31 - (o + j))).toNat) rfl Tryd.underlying41 (.inl ⟨_, Tryd.underlying41⟩) zr5 cz5 by5 rfl rfl rfl (by simp [lOk, maxLen]) ?_ (by simp; omega) (fun l' hl' => ?_)
    · rw [← hN, ← ints_drop .u8 (fun j => dig 256 x (31 - j)) 32 o (nby x) ho2]
      simp only [List.length_map, List.length_range]
      exact ⟨_, by simp only [srcOf, ev, tget, hget, Nat.reduceBEq, Nat.mul_one]; rfl, by simp [ints_len]; omega⟩
    · simp only [Nat.zero_add, List.nil_append] at hl' ⊢
      simp only [List.length_map, List.length_range] at hl' ⊢
      refine freezeB 3 (nby x) (T := 5) rfl (by simp) hl' (by simp) (fun b ad2 cap2 B2 hE hfz hby hc => next_of 1000 ?_)
      repeat' (first
        | with_reducible refine And.intro (by first | omega | assumption | (constructor <;> assumption) | (simp; done) | (simp; omega) | (simp [*]; done) | ((repeat' refine And.intro ?_ ?_) <;> first | omega | assumption | (refine SlOk.so (n := ?_) ?_ ?_; rotate_left; assumption; omega) | (simp; done) | fail) | fail) ?_
        | simp (maxSteps := 4000000) (disch := omega) only [go_sem, Nat.reduceBEq, Nat.reduceAdd, Nat.reduceMul, Nat.reduceSub, Nat.reduceLT, Nat.reduceLeDiff, Int.reduceToNat, Int.reduceLT, Int.reduceLE, Int.reduceAdd, Int.reduceMul, Int.reduceSub, Int.reduceNeg, Int.reduceDiv, Int.reduceMod, Nat.reduceBNe, Nat.reduceGT, Int.reduceBEq, Int.reduceBNe, Int.reduceGT, Nat.reduceDiv, Nat.reduceMod, Nat.reducePow, Int.reducePow, gt_iff_lt, ge_iff_le, List.reduceReplicate, ↓reduceIte, hfz]
        | with_reducible refine roundS (next_of 1000 ?_)
        | with_reducible refine drawS_of mixed (by kernel_rfl) (dg_of 1000 ?_)
        | with_reducible refine endD_of (by kernel_rfl) (next_of 1000 ?_)
        | with_reducible refine next_of 1000 ?_
        | ((first | refine condS_split (fun h => ?_) (fun h => ?_) | refine testS_split (fun h => ?_) (fun h => ?_) | refine testD_split (fun h => ?_) (fun h => ?_)) <;> (try simp only [bne_iff_ne, ne_eq, beq_iff_eq, decide_eq_true_eq, decide_eq_false_iff_not, Bool.not_eq_true, Bool.not_eq_false, Bool.not_true, Bool.not_false, bne_eq_false_iff_eq, beq_eq_false_iff_ne, Bool.and_eq_true, Bool.or_eq_true, Bool.and_eq_false_imp, Bool.or_eq_false_iff, Bool.not_eq_true', Bool.not_eq_false', Int.not_lt, Int.not_le] at h) <;> (try (exfalso; omega))))
      exact ⟨(ad2, cap2), rfl, trivial⟩
end Go.Proofs.YthknokcfmpahcaaDoor
