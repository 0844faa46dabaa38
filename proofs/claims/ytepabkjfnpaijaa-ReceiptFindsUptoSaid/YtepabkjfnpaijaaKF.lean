/- Part of a proof over the seat Ytepabkjfnpaijaa. -/
import Derived.Test.YtepabkjfnpaijaaKE
namespace Go.Proofs.Ytepabkjfnpaijaa
open Go RowKit Go.Ew
set_option maxRecDepth 100000
set_option linter.unusedSimpArgs false
set_option linter.unusedVariables false
set_option maxHeartbeats 4000000
theorem in93 : codeIn Try.f93.ntmps (Try.f93.body.getD .skip) = true := by kernel_rfl
def chX (b a : Nat → L64) (x y : Nat) : Nat → L64 := fun i => if i % 5 < x ∨ (i % 5 = x ∧ i / 5 < y) then chV b i else a i
theorem chX_step (b a : Nat → L64) {x y i : Nat} (hx : x < 5) : setL (chX b a x y) (x + 5 * y) (b (x + 5 * y) ^^^ (~~~ b ((x + 1) % 5 + 5 * y) &&& b ((x + 2) % 5 + 5 * y))) i = chX b a x (y + 1) i := by
  simp only [setL, chX]
  by_cases h : i = x + 5 * y
  · subst h
    rw [if_pos rfl, if_pos (by omega)]
    unfold chV
    rw [show (x + 5 * y) % 5 = x by omega, show (x + 5 * y) / 5 = y by omega]
  · rw [if_neg h]
    by_cases h2 : i % 5 < x ∨ i % 5 = x ∧ i / 5 < y
    · rw [if_pos h2, if_pos (by omega)]
    · rw [if_neg h2, if_neg (by omega)]
theorem chX_row (b a : Nat → L64) (x : Nat) {i : Nat} (hi : i < 25) : chX b a x 5 i = chX b a (x + 1) 0 i := by
  simp only [chX]
  by_cases h2 : i % 5 < x ∨ i % 5 = x ∧ i / 5 < 5
  · rw [if_pos h2, if_pos (by omega)]
  · rw [if_neg h2, if_neg (by omega)]
theorem chX_end (b a : Nat → L64) (i : Nat) : chX b a 5 0 i = chV b i := by
  simp only [chX]; rw [if_pos (by omega)]
theorem chX00 (b a : Nat → L64) : chX b a 0 0 = a := funext fun i => by simp only [chX]; rw [if_neg (by omega)]
theorem refpermute_p (a : Nat → L64) : Pure Try.prog 93 [.agg (ints .u64 (fL a) 25)] (.agg (ints .u64 (fL (kperm a 24)) 25)) := by
  refine pure_p (args := [.agg (ints .u64 (fL a) 25)]) en93 (by simp [closed, closeds, closed_wE, closeds_ints]) Try.func93 rfl in93 (by simp [Try.f93]) (by simp [closeds, closed, closed_wE, closeds_ints]) (fun w => next_of 1000 ?_)
  simp (maxSteps := 4000000) (disch := omega) only [go_sem, Nat.reduceBEq, Nat.reduceAdd, Nat.reduceMul, Nat.reduceSub, Nat.reduceLT, Nat.reduceLeDiff, Int.reduceToNat, Int.reduceLT, Int.reduceLE, Int.reduceAdd, Int.reduceMul, Int.reduceSub, Int.reduceNeg, Int.reduceDiv, Int.reduceMod, Nat.reduceBNe, Nat.reduceGT, Int.reduceBEq, Int.reduceBNe, Int.reduceGT, Nat.reduceDiv, Nat.reduceMod, Nat.reducePow, Int.reducePow, gt_iff_lt, ge_iff_le, List.reduceReplicate, ↓reduceIte, Try.f93]
  repeat (with_reducible refine And.intro (by first | omega | assumption | (constructor <;> assumption) | (simp; done) | (simp; omega) | (simp [*]; done) | ((repeat' refine And.intro ?_ ?_) <;> first | omega | assumption | (refine SlOk.so (n := ?_) ?_ ?_; rotate_left; assumption; omega) | (simp; done) | fail) | fail) ?_)
  repeat' (first | simp (maxSteps := 4000000) (disch := omega) only [go_sem, Nat.reduceBEq, Nat.reduceAdd, Nat.reduceMul, Nat.reduceSub, Nat.reduceLT, Nat.reduceLeDiff, Int.reduceToNat, Int.reduceLT, Int.reduceLE, Int.reduceAdd, Int.reduceMul, Int.reduceSub, Int.reduceNeg, Int.reduceDiv, Int.reduceMod, Nat.reduceBNe, Nat.reduceGT, Int.reduceBEq, Int.reduceBNe, Int.reduceGT, Nat.reduceDiv, Nat.reduceMod, Nat.reducePow, Int.reducePow, gt_iff_lt, ge_iff_le, List.reduceReplicate, ↓reduceIte] | refine callS_p (refconstants_p) (next_of 1000 ?_) | refine callS_p (turns_p) (next_of 1000 ?_))
  refine loopU (S := Nat) (fun k => k ≤ 24)
    (fun k => ⟨[(5, .int .i64 (k : Nat)), (4, .ptr 3 0), (3, .ptr 2 0), (2, .ptr 1 0), (1, .ptr 0 0)], 4, [(3, some (.cells (ints .i64 (turnF 24) 25) 135 (0, 0))), (2, some (.cells (ints .u64 (fL (rcF 168)) 24) 137 (0, 0))), (1, some (.cells (ints .u64 (fun _ => 0) 25) 141 (0, 0))), (0, some (.cells (ints .u64 (fL (kperm a k)) 25) 141 (0, 0)))], base w, []⟩)
    (fun k => 24 - k) 0 (by simp) (Weak.sub (weak_of (by simp [wσ, go_sem, closed, closeds, kperm, closeds_ints]) (by simp [whs, go_sem, EObj.closed, closed, closeds, kperm, closeds_ints]) (by simp [*]) rfl rfl (by simp))) ?_
  intro k hk
  refine next_of 1000 ?_
  simp (maxSteps := 4000000) (disch := omega) only [go_sem, Nat.reduceBEq, Nat.reduceAdd, Nat.reduceMul, Nat.reduceSub, Nat.reduceLT, Nat.reduceLeDiff, Int.reduceToNat, Int.reduceLT, Int.reduceLE, Int.reduceAdd, Int.reduceMul, Int.reduceSub, Int.reduceNeg, Int.reduceDiv, Int.reduceMod, Nat.reduceBNe, Nat.reduceGT, Int.reduceBEq, Int.reduceBNe, Int.reduceGT, Nat.reduceDiv, Nat.reduceMod, Nat.reducePow, Int.reducePow, gt_iff_lt, ge_iff_le, List.reduceReplicate, ↓reduceIte]
  repeat (with_reducible refine And.intro (by first | omega | assumption | (constructor <;> assumption) | (simp; done) | (simp; omega) | (simp [*]; done) | ((repeat' refine And.intro ?_ ?_) <;> first | omega | assumption | (refine SlOk.so (n := ?_) ?_ ?_; rotate_left; assumption; omega) | (simp; done) | fail) | fail) ?_)
  refine condS_split (fun h1 => ?_) (fun h1 => ?_)
  all_goals (try simp only [bne_iff_ne, ne_eq, beq_iff_eq, decide_eq_true_eq, decide_eq_false_iff_not, Bool.not_eq_true, Bool.not_eq_false, Bool.not_true, Bool.not_false, bne_eq_false_iff_eq, beq_eq_false_iff_ne, Bool.and_eq_true, Bool.or_eq_true, Bool.and_eq_false_imp, Bool.or_eq_false_iff, Bool.not_eq_true', Bool.not_eq_false', Int.not_lt, Int.not_le] at h1)
  · generalize hA : kperm a k = A
    simp (maxSteps := 4000000) (disch := omega) only [go_sem, Nat.reduceBEq, Nat.reduceAdd, Nat.reduceMul, Nat.reduceSub, Nat.reduceLT, Nat.reduceLeDiff, Int.reduceToNat, Int.reduceLT, Int.reduceLE, Int.reduceAdd, Int.reduceMul, Int.reduceSub, Int.reduceNeg, Int.reduceDiv, Int.reduceMod, Nat.reduceBNe, Nat.reduceGT, Int.reduceBEq, Int.reduceBNe, Int.reduceGT, Nat.reduceDiv, Nat.reduceMod, Nat.reducePow, Int.reducePow, gt_iff_lt, ge_iff_le, List.reduceReplicate, ↓reduceIte]
    repeat (with_reducible refine And.intro (by first | omega | assumption | (constructor <;> assumption) | (simp; done) | (simp; omega) | (simp [*]; done) | ((repeat' refine And.intro ?_ ?_) <;> first | omega | assumption | (refine SlOk.so (n := ?_) ?_ ?_; rotate_left; assumption; omega) | (simp; done) | fail) | fail) ?_)
    refine loopU (S := Nat × (Nat → L64)) (fun s => s.1 ≤ 5 ∧ ∀ j, j < s.1 → s.2 j = thC A j)
      (fun s => ⟨[(7, .int .i64 (s.1 : Nat)), (6, .ptr 4 0), (5, .int .i64 (k : Nat)), (4, .ptr 3 0), (3, .ptr 2 0), (2, .ptr 1 0), (1, .ptr 0 0)], 5, [(4, some (.cells (ints .u64 (fL s.2) 5) 163 (0, 0))), (3, some (.cells (ints .i64 (turnF 24) 25) 135 (0, 0))), (2, some (.cells (ints .u64 (fL (rcF 168)) 24) 137 (0, 0))), (1, some (.cells (ints .u64 (fun _ => 0) 25) 141 (0, 0))), (0, some (.cells (ints .u64 (fL A) 25) 141 (0, 0)))], base w, []⟩)
      (fun s => 5 - s.1) (0, fun _ => 0#64) ⟨by simp, fun j hj => absurd hj (Nat.not_lt_zero j)⟩ (Weak.sub (weak_of (by simp [wσ, go_sem, closed, closeds, hA, fL0, closeds_ints]) (by simp [whs, go_sem, EObj.closed, closed, closeds, hA, fL0, closeds_ints]) (by simp [*]) rfl rfl (by simp))) ?_
    rintro ⟨x, c⟩ ⟨hx, hc⟩
    simp only at hx hc
    refine next_of 1000 ?_
    simp (maxSteps := 4000000) (disch := omega) only [go_sem, Nat.reduceBEq, Nat.reduceAdd, Nat.reduceMul, Nat.reduceSub, Nat.reduceLT, Nat.reduceLeDiff, Int.reduceToNat, Int.reduceLT, Int.reduceLE, Int.reduceAdd, Int.reduceMul, Int.reduceSub, Int.reduceNeg, Int.reduceDiv, Int.reduceMod, Nat.reduceBNe, Nat.reduceGT, Int.reduceBEq, Int.reduceBNe, Int.reduceGT, Nat.reduceDiv, Nat.reduceMod, Nat.reducePow, Int.reducePow, gt_iff_lt, ge_iff_le, List.reduceReplicate, ↓reduceIte]
    repeat (with_reducible refine And.intro (by first | omega | assumption | (constructor <;> assumption) | (simp; done) | (simp; omega) | (simp [*]; done) | ((repeat' refine And.intro ?_ ?_) <;> first | omega | assumption | (refine SlOk.so (n := ?_) ?_ ?_; rotate_left; assumption; omega) | (simp; done) | fail) | fail) ?_)
    refine condS_split (fun h2 => ?_) (fun h2 => ?_)
    all_goals (try simp only [bne_iff_ne, ne_eq, beq_iff_eq, decide_eq_true_eq, decide_eq_false_iff_not, Bool.not_eq_true, Bool.not_eq_false, Bool.not_true, Bool.not_false, bne_eq_false_iff_eq, beq_eq_false_iff_ne, Bool.and_eq_true, Bool.or_eq_true, Bool.and_eq_false_imp, Bool.or_eq_false_iff, Bool.not_eq_true', Bool.not_eq_false', Int.not_lt, Int.not_le] at h2)
    · have t5 : ((x : Int) + 5).toNat = x + 5 := by omega
      have t10 : ((x : Int) + 10).toNat = x + 10 := by omega
      have t15 : ((x : Int) + 15).toNat = x + 15 := by omega
      have t20 : ((x : Int) + 20).toNat = x + 20 := by omega
      repeat' (first | with_reducible refine And.intro (by first | omega | assumption | (constructor <;> assumption) | (simp; done) | (simp; omega) | (simp [*]; done) | ((repeat' refine And.intro ?_ ?_) <;> first | omega | assumption | (refine SlOk.so (n := ?_) ?_ ?_; rotate_left; assumption; omega) | (simp; done) | fail) | fail) ?_ | simp (maxSteps := 4000000) (disch := omega) only [go_sem, Nat.reduceBEq, Nat.reduceAdd, Nat.reduceMul, Nat.reduceSub, Nat.reduceLT, Nat.reduceLeDiff, Int.reduceToNat, Int.reduceLT, Int.reduceLE, Int.reduceAdd, Int.reduceMul, Int.reduceSub, Int.reduceNeg, Int.reduceDiv, Int.reduceMod, Nat.reduceBNe, Nat.reduceGT, Int.reduceBEq, Int.reduceBNe, Int.reduceGT, Nat.reduceDiv, Nat.reduceMod, Nat.reducePow, Int.reducePow, gt_iff_lt, ge_iff_le, List.reduceReplicate, ↓reduceIte, Int.toNat_natCast, t5, t10, t15, t20, fL_ap, xor64, fL_set] | with_reducible refine drawS_of mixed (by kernel_rfl) (dg_of 1000 ?_) | with_reducible refine endD_of (by kernel_rfl) (next_of 1000 ?_))
      refine ⟨(x + 1, setL c x (thC A x)), ⟨by simp only; omega, fun j hj => ?_⟩, Weak.sub (weak_of (by simp [wσ, go_sem, closed, closeds, lE_closed, closeds_ints, thC] <;> omega) (by simp [whs, Go.Ew.hget, go_sem, EObj.closed, closed, closeds, lE_closed, closeds_ints, thC]) (by simp [*]) rfl rfl (by simp)), by simp only; omega⟩
      simp only [setL]
      split
      · rename_i e; rw [e]
      · exact hc j (by simp only at hj; omega)
    · obtain rfl : x = 5 := by omega
      clear hx h2
      refine next_of 1000 ?_
      repeat' (simp (maxSteps := 4000000) (disch := omega) only [go_sem, Nat.reduceBEq, Nat.reduceAdd, Nat.reduceMul, Nat.reduceSub, Nat.reduceLT, Nat.reduceLeDiff, Int.reduceToNat, Int.reduceLT, Int.reduceLE, Int.reduceAdd, Int.reduceMul, Int.reduceSub, Int.reduceNeg, Int.reduceDiv, Int.reduceMod, Nat.reduceBNe, Nat.reduceGT, Int.reduceBEq, Int.reduceBNe, Int.reduceGT, Nat.reduceDiv, Nat.reduceMod, Nat.reducePow, Int.reducePow, gt_iff_lt, ge_iff_le, List.reduceReplicate, ↓reduceIte, Int.toNat_natCast])
      obtain ⟨A1, hA1⟩ : ∃ A1, A1 = thA A 5 0 := ⟨_, rfl⟩
      -- theta, rho, pi
      refine loopU (S := Nat) (fun x => x ≤ 5)
        (fun x => ⟨[(9, .int .i64 (x : Nat)), (8, .ptr 5 0), (6, .ptr 4 0), (5, .int .i64 (k : Nat)), (4, .ptr 3 0), (3, .ptr 2 0), (2, .ptr 1 0), (1, .ptr 0 0)], 6, [(5, some (.cells (ints .u64 (fL (rpB A1 (fun _ => 0#64) x 0)) 25) 141 (0, 0))), (4, some (.cells (ints .u64 (fL c) 5) 163 (0, 0))), (3, some (.cells (ints .i64 (turnF 24) 25) 135 (0, 0))), (2, some (.cells (ints .u64 (fL (rcF 168)) 24) 137 (0, 0))), (1, some (.cells (ints .u64 (fun _ => 0) 25) 141 (0, 0))), (0, some (.cells (ints .u64 (fL A) 25) 141 (0, 0)))], base w, []⟩)
        (fun x => 5 - x) 0 (by simp) (Weak.sub (weak_of (by simp [wσ, go_sem, closed, closeds, rpB00, fL0, closeds_ints]) (by simp [whs, go_sem, EObj.closed, closed, closeds, rpB00, fL0, closeds_ints]) (by simp [*]) rfl rfl (by simp))) ?_
      intro x hx
      refine next_of 1000 ?_
      simp (maxSteps := 4000000) (disch := omega) only [go_sem, Nat.reduceBEq, Nat.reduceAdd, Nat.reduceMul, Nat.reduceSub, Nat.reduceLT, Nat.reduceLeDiff, Int.reduceToNat, Int.reduceLT, Int.reduceLE, Int.reduceAdd, Int.reduceMul, Int.reduceSub, Int.reduceNeg, Int.reduceDiv, Int.reduceMod, Nat.reduceBNe, Nat.reduceGT, Int.reduceBEq, Int.reduceBNe, Int.reduceGT, Nat.reduceDiv, Nat.reduceMod, Nat.reducePow, Int.reducePow, gt_iff_lt, ge_iff_le, List.reduceReplicate, ↓reduceIte]
      repeat (with_reducible refine And.intro (by first | omega | assumption | (constructor <;> assumption) | (simp; done) | (simp; omega) | (simp [*]; done) | ((repeat' refine And.intro ?_ ?_) <;> first | omega | assumption | (refine SlOk.so (n := ?_) ?_ ?_; rotate_left; assumption; omega) | (simp; done) | fail) | fail) ?_)
      refine condS_split (fun h2 => ?_) (fun h2 => ?_)
      all_goals (try simp only [bne_iff_ne, ne_eq, beq_iff_eq, decide_eq_true_eq, decide_eq_false_iff_not, Bool.not_eq_true, Bool.not_eq_false, Bool.not_true, Bool.not_false, bne_eq_false_iff_eq, beq_eq_false_iff_ne, Bool.and_eq_true, Bool.or_eq_true, Bool.and_eq_false_imp, Bool.or_eq_false_iff, Bool.not_eq_true', Bool.not_eq_false', Int.not_lt, Int.not_le] at h2)
      · repeat' (simp (maxSteps := 4000000) (disch := omega) only [go_sem, Nat.reduceBEq, Nat.reduceAdd, Nat.reduceMul, Nat.reduceSub, Nat.reduceLT, Nat.reduceLeDiff, Int.reduceToNat, Int.reduceLT, Int.reduceLE, Int.reduceAdd, Int.reduceMul, Int.reduceSub, Int.reduceNeg, Int.reduceDiv, Int.reduceMod, Nat.reduceBNe, Nat.reduceGT, Int.reduceBEq, Int.reduceBNe, Int.reduceGT, Nat.reduceDiv, Nat.reduceMod, Nat.reducePow, Int.reducePow, gt_iff_lt, ge_iff_le, List.reduceReplicate, ↓reduceIte, Int.toNat_natCast])
        refine loopU (S := Nat) (fun y => y ≤ 5)
          (fun y => ⟨[(10, .int .i64 (y : Nat)), (9, .int .i64 (x : Nat)), (8, .ptr 5 0), (6, .ptr 4 0), (5, .int .i64 (k : Nat)), (4, .ptr 3 0), (3, .ptr 2 0), (2, .ptr 1 0), (1, .ptr 0 0)], 6, [(5, some (.cells (ints .u64 (fL (rpB A1 (fun _ => 0#64) x y)) 25) 141 (0, 0))), (4, some (.cells (ints .u64 (fL c) 5) 163 (0, 0))), (3, some (.cells (ints .i64 (turnF 24) 25) 135 (0, 0))), (2, some (.cells (ints .u64 (fL (rcF 168)) 24) 137 (0, 0))), (1, some (.cells (ints .u64 (fun _ => 0) 25) 141 (0, 0))), (0, some (.cells (ints .u64 (fL A) 25) 141 (0, 0)))], base w, []⟩)
          (fun y => 5 - y) 0 (by simp) (Weak.sub (weak_of (by simp [wσ, go_sem, closed, closeds, closeds_ints]) (by simp [whs, go_sem, EObj.closed, closed, closeds, closeds_ints]) (by simp [*]) rfl rfl (by simp))) ?_
        intro y hy
        refine next_of 1000 ?_
        simp (maxSteps := 4000000) (disch := omega) only [go_sem, Nat.reduceBEq, Nat.reduceAdd, Nat.reduceMul, Nat.reduceSub, Nat.reduceLT, Nat.reduceLeDiff, Int.reduceToNat, Int.reduceLT, Int.reduceLE, Int.reduceAdd, Int.reduceMul, Int.reduceSub, Int.reduceNeg, Int.reduceDiv, Int.reduceMod, Nat.reduceBNe, Nat.reduceGT, Int.reduceBEq, Int.reduceBNe, Int.reduceGT, Nat.reduceDiv, Nat.reduceMod, Nat.reducePow, Int.reducePow, gt_iff_lt, ge_iff_le, List.reduceReplicate, ↓reduceIte]
        repeat (with_reducible refine And.intro (by first | omega | assumption | (constructor <;> assumption) | (simp; done) | (simp; omega) | (simp [*]; done) | ((repeat' refine And.intro ?_ ?_) <;> first | omega | assumption | (refine SlOk.so (n := ?_) ?_ ?_; rotate_left; assumption; omega) | (simp; done) | fail) | fail) ?_)
        refine condS_split (fun h3 => ?_) (fun h3 => ?_)
        all_goals (try simp only [bne_iff_ne, ne_eq, beq_iff_eq, decide_eq_true_eq, decide_eq_false_iff_not, Bool.not_eq_true, Bool.not_eq_false, Bool.not_true, Bool.not_false, bne_eq_false_iff_eq, beq_eq_false_iff_ne, Bool.and_eq_true, Bool.or_eq_true, Bool.and_eq_false_imp, Bool.or_eq_false_iff, Bool.not_eq_true', Bool.not_eq_false', Int.not_lt, Int.not_le] at h3)
        · have t1 : (((x : Int) + 1) % 5).toNat = (x + 1) % 5 := by omega
          have t4 : (((x : Int) + 4) % 5).toNat = (x + 4) % 5 := by omega
          have t7 : ((x : Int) + 5 * (y : Int)).toNat = x + 5 * y := by omega
          have t8 : ((y : Int) + 5 * ((2 * (x : Int) + 3 * (y : Int)) % 5)).toNat = y + 5 * ((2 * x + 3 * y) % 5) := by
            have q : ((2 * (x : Int) + 3 * (y : Int)) % 5) = (((2 * x + 3 * y) % 5 : Nat) : Int) := by push_cast; rfl
            rw [q]; omega
          have hc1 := hc ((x + 1) % 5) (by omega)
          have hc4 := hc ((x + 4) % 5) (by omega)
          have eV : A (x + 5 * y) ^^^ thC A ((x + 4) % 5) ^^^ rot (thC A ((x + 1) % 5)) 1 = A1 (x + 5 * y) := by
            rw [hA1]
            simp only [thA]
            rw [if_pos (by omega), show (x + 5 * y) % 5 = x by omega, BitVec.xor_assoc]; rfl
          have eT := trn_lt (show x + 5 * y < 25 by omega)
          have eC : ints .u64 (fL (setL (rpB A1 (fun _ => 0#64) x y) (y + 5 * ((2 * x + 3 * y) % 5)) (rot (A1 (x + 5 * y)) (trn (x + 5 * y))))) 25 = ints .u64 (fL (rpB A1 (fun _ => 0#64) x (y + 1))) 25 := ints_fL (fun i hi => rpB_step A1 _ (show x < 5 by omega) (show y < 5 by omega) hi)
          repeat' (first | with_reducible refine And.intro (by first | omega | assumption | (constructor <;> assumption) | (simp; done) | (simp; omega) | (simp [*]; done) | ((repeat' refine And.intro ?_ ?_) <;> first | omega | assumption | (refine SlOk.so (n := ?_) ?_ ?_; rotate_left; assumption; omega) | (simp; done) | fail) | fail) ?_ | simp (maxSteps := 4000000) (disch := omega) only [go_sem, Nat.reduceBEq, Nat.reduceAdd, Nat.reduceMul, Nat.reduceSub, Nat.reduceLT, Nat.reduceLeDiff, Int.reduceToNat, Int.reduceLT, Int.reduceLE, Int.reduceAdd, Int.reduceMul, Int.reduceSub, Int.reduceNeg, Int.reduceDiv, Int.reduceMod, Nat.reduceBNe, Nat.reduceGT, Int.reduceBEq, Int.reduceBNe, Int.reduceGT, Nat.reduceDiv, Nat.reduceMod, Nat.reducePow, Int.reducePow, gt_iff_lt, ge_iff_le, List.reduceReplicate, ↓reduceIte, Int.toNat_natCast, t1, t4, t7, t8, fL_ap, hc1, hc4, xor64, eV, eT.1, fL_set, eC] | with_reducible refine drawS_of mixed (by kernel_rfl) (dg_of 1000 ?_) | with_reducible refine endD_of (by kernel_rfl) (next_of 1000 ?_) | refine callD_p (left_p _ 1 (by omega)) (dg_of 1000 ?_) | refine callS_p (left_p _ _ eT.2) (next_of 1000 ?_))
          exact ⟨y + 1, by omega, Weak.sub (weak_of (by simp [wσ, go_sem, closed, closeds, lE_closed, closeds_ints] <;> omega) (by simp [whs, Go.Ew.hget, go_sem, EObj.closed, closed, closeds, lE_closed, closeds_ints]) (by simp [*]) rfl rfl (by simp)), by omega⟩
        · obtain rfl : y = 5 := by omega
          refine next_of 1000 ?_
          repeat' (simp (maxSteps := 4000000) (disch := omega) only [go_sem, Nat.reduceBEq, Nat.reduceAdd, Nat.reduceMul, Nat.reduceSub, Nat.reduceLT, Nat.reduceLeDiff, Int.reduceToNat, Int.reduceLT, Int.reduceLE, Int.reduceAdd, Int.reduceMul, Int.reduceSub, Int.reduceNeg, Int.reduceDiv, Int.reduceMod, Nat.reduceBNe, Nat.reduceGT, Int.reduceBEq, Int.reduceBNe, Int.reduceGT, Nat.reduceDiv, Nat.reduceMod, Nat.reducePow, Int.reducePow, gt_iff_lt, ge_iff_le, List.reduceReplicate, ↓reduceIte, Int.toNat_natCast])
          exact ⟨x + 1, by omega, Weak.sub (weak_of (by simp [wσ, go_sem, closed, closeds, lE_closed, ints_fL (fun i hi => rpB_row A1 (fun _ => 0#64) x i), closeds_ints] <;> omega) (by simp [whs, Go.Ew.hget, go_sem, EObj.closed, closed, closeds, lE_closed, ints_fL (fun i hi => rpB_row A1 (fun _ => 0#64) x i), closeds_ints]) (by simp [*]) rfl rfl (by simp)), by omega⟩
      · obtain rfl : x = 5 := by omega
        clear hx h2
        refine next_of 1000 ?_
        repeat' (simp (maxSteps := 4000000) (disch := omega) only [go_sem, Nat.reduceBEq, Nat.reduceAdd, Nat.reduceMul, Nat.reduceSub, Nat.reduceLT, Nat.reduceLeDiff, Int.reduceToNat, Int.reduceLT, Int.reduceLE, Int.reduceAdd, Int.reduceMul, Int.reduceSub, Int.reduceNeg, Int.reduceDiv, Int.reduceMod, Nat.reduceBNe, Nat.reduceGT, Int.reduceBEq, Int.reduceBNe, Int.reduceGT, Nat.reduceDiv, Nat.reduceMod, Nat.reducePow, Int.reducePow, gt_iff_lt, ge_iff_le, List.reduceReplicate, ↓reduceIte, Int.toNat_natCast])
        obtain ⟨B1, hB1⟩ : ∃ B1, B1 = rpB A1 (fun _ => 0#64) 5 0 := ⟨_, rfl⟩
        simp only [← hB1]
        -- chi
        refine loopU (S := Nat) (fun x => x ≤ 5)
          (fun x => ⟨[(12, .int .i64 (x : Nat)), (8, .ptr 5 0), (5, .int .i64 (k : Nat)), (4, .ptr 3 0), (3, .ptr 2 0), (2, .ptr 1 0), (1, .ptr 0 0)], 6, [(5, some (.cells (ints .u64 (fL B1) 25) 141 (0, 0))), (3, some (.cells (ints .i64 (turnF 24) 25) 135 (0, 0))), (2, some (.cells (ints .u64 (fL (rcF 168)) 24) 137 (0, 0))), (1, some (.cells (ints .u64 (fun _ => 0) 25) 141 (0, 0))), (0, some (.cells (ints .u64 (fL (chX B1 A x 0)) 25) 141 (0, 0)))], base w, []⟩)
          (fun x => 5 - x) 0 (by simp) (Weak.sub (weak_of (by simp [wσ, go_sem, closed, closeds, chX00, closeds_ints]) (by simp [whs, go_sem, EObj.closed, closed, closeds, chX00, closeds_ints]) (by simp [*]) rfl rfl (by simp))) ?_
        intro x hx
        refine next_of 1000 ?_
        simp (maxSteps := 4000000) (disch := omega) only [go_sem, Nat.reduceBEq, Nat.reduceAdd, Nat.reduceMul, Nat.reduceSub, Nat.reduceLT, Nat.reduceLeDiff, Int.reduceToNat, Int.reduceLT, Int.reduceLE, Int.reduceAdd, Int.reduceMul, Int.reduceSub, Int.reduceNeg, Int.reduceDiv, Int.reduceMod, Nat.reduceBNe, Nat.reduceGT, Int.reduceBEq, Int.reduceBNe, Int.reduceGT, Nat.reduceDiv, Nat.reduceMod, Nat.reducePow, Int.reducePow, gt_iff_lt, ge_iff_le, List.reduceReplicate, ↓reduceIte]
        repeat (with_reducible refine And.intro (by first | omega | assumption | (constructor <;> assumption) | (simp; done) | (simp; omega) | (simp [*]; done) | ((repeat' refine And.intro ?_ ?_) <;> first | omega | assumption | (refine SlOk.so (n := ?_) ?_ ?_; rotate_left; assumption; omega) | (simp; done) | fail) | fail) ?_)
        refine condS_split (fun h2 => ?_) (fun h2 => ?_)
        all_goals (try simp only [bne_iff_ne, ne_eq, beq_iff_eq, decide_eq_true_eq, decide_eq_false_iff_not, Bool.not_eq_true, Bool.not_eq_false, Bool.not_true, Bool.not_false, bne_eq_false_iff_eq, beq_eq_false_iff_ne, Bool.and_eq_true, Bool.or_eq_true, Bool.and_eq_false_imp, Bool.or_eq_false_iff, Bool.not_eq_true', Bool.not_eq_false', Int.not_lt, Int.not_le] at h2)
        · repeat' (simp (maxSteps := 4000000) (disch := omega) only [go_sem, Nat.reduceBEq, Nat.reduceAdd, Nat.reduceMul, Nat.reduceSub, Nat.reduceLT, Nat.reduceLeDiff, Int.reduceToNat, Int.reduceLT, Int.reduceLE, Int.reduceAdd, Int.reduceMul, Int.reduceSub, Int.reduceNeg, Int.reduceDiv, Int.reduceMod, Nat.reduceBNe, Nat.reduceGT, Int.reduceBEq, Int.reduceBNe, Int.reduceGT, Nat.reduceDiv, Nat.reduceMod, Nat.reducePow, Int.reducePow, gt_iff_lt, ge_iff_le, List.reduceReplicate, ↓reduceIte, Int.toNat_natCast])
          refine loopU (S := Nat) (fun y => y ≤ 5)
            (fun y => ⟨[(13, .int .i64 (y : Nat)), (12, .int .i64 (x : Nat)), (8, .ptr 5 0), (5, .int .i64 (k : Nat)), (4, .ptr 3 0), (3, .ptr 2 0), (2, .ptr 1 0), (1, .ptr 0 0)], 6, [(5, some (.cells (ints .u64 (fL B1) 25) 141 (0, 0))), (3, some (.cells (ints .i64 (turnF 24) 25) 135 (0, 0))), (2, some (.cells (ints .u64 (fL (rcF 168)) 24) 137 (0, 0))), (1, some (.cells (ints .u64 (fun _ => 0) 25) 141 (0, 0))), (0, some (.cells (ints .u64 (fL (chX B1 A x y)) 25) 141 (0, 0)))], base w, []⟩)
            (fun y => 5 - y) 0 (by simp) (Weak.sub (weak_of (by simp [wσ, go_sem, closed, closeds, closeds_ints]) (by simp [whs, go_sem, EObj.closed, closed, closeds, closeds_ints]) (by simp [*]) rfl rfl (by simp))) ?_
          intro y hy
          refine next_of 1000 ?_
          simp (maxSteps := 4000000) (disch := omega) only [go_sem, Nat.reduceBEq, Nat.reduceAdd, Nat.reduceMul, Nat.reduceSub, Nat.reduceLT, Nat.reduceLeDiff, Int.reduceToNat, Int.reduceLT, Int.reduceLE, Int.reduceAdd, Int.reduceMul, Int.reduceSub, Int.reduceNeg, Int.reduceDiv, Int.reduceMod, Nat.reduceBNe, Nat.reduceGT, Int.reduceBEq, Int.reduceBNe, Int.reduceGT, Nat.reduceDiv, Nat.reduceMod, Nat.reducePow, Int.reducePow, gt_iff_lt, ge_iff_le, List.reduceReplicate, ↓reduceIte]
          repeat (with_reducible refine And.intro (by first | omega | assumption | (constructor <;> assumption) | (simp; done) | (simp; omega) | (simp [*]; done) | ((repeat' refine And.intro ?_ ?_) <;> first | omega | assumption | (refine SlOk.so (n := ?_) ?_ ?_; rotate_left; assumption; omega) | (simp; done) | fail) | fail) ?_)
          refine condS_split (fun h3 => ?_) (fun h3 => ?_)
          all_goals (try simp only [bne_iff_ne, ne_eq, beq_iff_eq, decide_eq_true_eq, decide_eq_false_iff_not, Bool.not_eq_true, Bool.not_eq_false, Bool.not_true, Bool.not_false, bne_eq_false_iff_eq, beq_eq_false_iff_ne, Bool.and_eq_true, Bool.or_eq_true, Bool.and_eq_false_imp, Bool.or_eq_false_iff, Bool.not_eq_true', Bool.not_eq_false', Int.not_lt, Int.not_le] at h3)
          · have t7 : ((x : Int) + 5 * (y : Int)).toNat = x + 5 * y := by omega
            have t8 : (((x : Int) + 1) % 5 + 5 * (y : Int)).toNat = (x + 1) % 5 + 5 * y := by omega
            have t9 : (((x : Int) + 2) % 5 + 5 * (y : Int)).toNat = (x + 2) % 5 + 5 * y := by omega
            have eC : ints .u64 (fL (setL (chX B1 A x y) (x + 5 * y) (B1 (x + 5 * y) ^^^ (~~~ B1 ((x + 1) % 5 + 5 * y) &&& B1 ((x + 2) % 5 + 5 * y))))) 25 = ints .u64 (fL (chX B1 A x (y + 1))) 25 := ints_fL (fun i hi => chX_step B1 A (show x < 5 by omega))
            repeat' (first | with_reducible refine And.intro (by first | omega | assumption | (constructor <;> assumption) | (simp; done) | (simp; omega) | (simp [*]; done) | ((repeat' refine And.intro ?_ ?_) <;> first | omega | assumption | (refine SlOk.so (n := ?_) ?_ ?_; rotate_left; assumption; omega) | (simp; done) | fail) | fail) ?_ | simp (maxSteps := 4000000) (disch := omega) only [go_sem, Nat.reduceBEq, Nat.reduceAdd, Nat.reduceMul, Nat.reduceSub, Nat.reduceLT, Nat.reduceLeDiff, Int.reduceToNat, Int.reduceLT, Int.reduceLE, Int.reduceAdd, Int.reduceMul, Int.reduceSub, Int.reduceNeg, Int.reduceDiv, Int.reduceMod, Nat.reduceBNe, Nat.reduceGT, Int.reduceBEq, Int.reduceBNe, Int.reduceGT, Nat.reduceDiv, Nat.reduceMod, Nat.reducePow, Int.reducePow, gt_iff_lt, ge_iff_le, List.reduceReplicate, ↓reduceIte, Int.toNat_natCast, t7, t8, t9, fL_ap, xor64, and64, not64, not64', fL_set, eC] | with_reducible refine drawS_of mixed (by kernel_rfl) (dg_of 1000 ?_) | with_reducible refine endD_of (by kernel_rfl) (next_of 1000 ?_))
            exact ⟨y + 1, by omega, Weak.sub (weak_of (by simp [wσ, go_sem, closed, closeds, lE_closed, closeds_ints] <;> omega) (by simp [whs, Go.Ew.hget, go_sem, EObj.closed, closed, closeds, lE_closed, closeds_ints]) (by simp [*]) rfl rfl (by simp)), by omega⟩
          · obtain rfl : y = 5 := by omega
            refine next_of 1000 ?_
            repeat' (simp (maxSteps := 4000000) (disch := omega) only [go_sem, Nat.reduceBEq, Nat.reduceAdd, Nat.reduceMul, Nat.reduceSub, Nat.reduceLT, Nat.reduceLeDiff, Int.reduceToNat, Int.reduceLT, Int.reduceLE, Int.reduceAdd, Int.reduceMul, Int.reduceSub, Int.reduceNeg, Int.reduceDiv, Int.reduceMod, Nat.reduceBNe, Nat.reduceGT, Int.reduceBEq, Int.reduceBNe, Int.reduceGT, Nat.reduceDiv, Nat.reduceMod, Nat.reducePow, Int.reducePow, gt_iff_lt, ge_iff_le, List.reduceReplicate, ↓reduceIte, Int.toNat_natCast])
            exact ⟨x + 1, by omega, Weak.sub (weak_of (by simp [wσ, go_sem, closed, closeds, lE_closed, ints_fL (fun i hi => chX_row B1 A x hi), closeds_ints] <;> omega) (by simp [whs, Go.Ew.hget, go_sem, EObj.closed, closed, closeds, lE_closed, ints_fL (fun i hi => chX_row B1 A x hi), closeds_ints]) (by simp [*]) rfl rfl (by simp)), by omega⟩
        · obtain rfl : x = 5 := by omega
          clear hx h2
          refine next_of 1000 ?_
          repeat' (first | with_reducible refine And.intro (by first | omega | assumption | (constructor <;> assumption) | (simp; done) | (simp; omega) | (simp [*]; done) | ((repeat' refine And.intro ?_ ?_) <;> first | omega | assumption | (refine SlOk.so (n := ?_) ?_ ?_; rotate_left; assumption; omega) | (simp; done) | fail) | fail) ?_ | simp (maxSteps := 4000000) (disch := omega) only [go_sem, Nat.reduceBEq, Nat.reduceAdd, Nat.reduceMul, Nat.reduceSub, Nat.reduceLT, Nat.reduceLeDiff, Int.reduceToNat, Int.reduceLT, Int.reduceLE, Int.reduceAdd, Int.reduceMul, Int.reduceSub, Int.reduceNeg, Int.reduceDiv, Int.reduceMod, Nat.reduceBNe, Nat.reduceGT, Int.reduceBEq, Int.reduceBNe, Int.reduceGT, Nat.reduceDiv, Nat.reduceMod, Nat.reducePow, Int.reducePow, gt_iff_lt, ge_iff_le, List.reduceReplicate, ↓reduceIte, Int.toNat_natCast, fL_ap, xor64, fL_set] | with_reducible refine drawS_of mixed (by kernel_rfl) (dg_of 1000 ?_) | with_reducible refine endD_of (by kernel_rfl) (next_of 1000 ?_))
          have eK : ints .u64 (fL (setL (chX B1 A 5 0) 0 (chX B1 A 5 0 0 ^^^ rcF 168 k))) 25 = ints .u64 (fL (kperm a (k + 1))) 25 := by
            have e1 : ∀ i, i < 25 → chX B1 A 5 0 i = chV (rpV A1) i := fun i hi => by
              rw [chX_end B1 A i]
              exact chV_congr (fun j hj => by rw [hB1, rpB_end]) hi
            refine ints_fL (fun i hi => ?_)
            simp only [kperm, kround, hA, ← hA1, setL]
            split
            · rw [e1 0 (by omega)]
            · exact e1 i hi
          exact ⟨k + 1, by omega, Weak.sub (weak_of (by simp [wσ, go_sem, closed, closeds, lE_closed, eK, closeds_ints] <;> omega) (by simp [whs, Go.Ew.hget, go_sem, EObj.closed, closed, closeds, lE_closed, eK, closeds_ints]) (by simp [*]) rfl rfl (by simp)), by omega⟩
  · obtain rfl : k = 24 := by omega
    simp (maxSteps := 4000000) (disch := omega) only [go_sem, Nat.reduceBEq, Nat.reduceAdd, Nat.reduceMul, Nat.reduceSub, Nat.reduceLT, Nat.reduceLeDiff, Int.reduceToNat, Int.reduceLT, Int.reduceLE, Int.reduceAdd, Int.reduceMul, Int.reduceSub, Int.reduceNeg, Int.reduceDiv, Int.reduceMod, Nat.reduceBNe, Nat.reduceGT, Int.reduceBEq, Int.reduceBNe, Int.reduceGT, Nat.reduceDiv, Nat.reduceMod, Nat.reducePow, Int.reducePow, gt_iff_lt, ge_iff_le, List.reduceReplicate, ↓reduceIte]
    repeat (with_reducible refine And.intro (by first | omega | assumption | (constructor <;> assumption) | (simp; done) | (simp; omega) | (simp [*]; done) | ((repeat' refine And.intro ?_ ?_) <;> first | omega | assumption | (refine SlOk.so (n := ?_) ?_ ?_; rotate_left; assumption; omega) | (simp; done) | fail) | fail) ?_)
    refine next_of 1000 ?_
    simp (maxSteps := 4000000) (disch := omega) only [go_sem, Nat.reduceBEq, Nat.reduceAdd, Nat.reduceMul, Nat.reduceSub, Nat.reduceLT, Nat.reduceLeDiff, Int.reduceToNat, Int.reduceLT, Int.reduceLE, Int.reduceAdd, Int.reduceMul, Int.reduceSub, Int.reduceNeg, Int.reduceDiv, Int.reduceMod, Nat.reduceBNe, Nat.reduceGT, Int.reduceBEq, Int.reduceBNe, Int.reduceGT, Nat.reduceDiv, Nat.reduceMod, Nat.reducePow, Int.reducePow, gt_iff_lt, ge_iff_le, List.reduceReplicate, ↓reduceIte]
    repeat (with_reducible refine And.intro (by first | omega | assumption | (constructor <;> assumption) | (simp; done) | (simp; omega) | (simp [*]; done) | ((repeat' refine And.intro ?_ ?_) <;> first | omega | assumption | (refine SlOk.so (n := ?_) ?_ ?_; rotate_left; assumption; omega) | (simp; done) | fail) | fail) ?_)
end Go.Proofs.Ytepabkjfnpaijaa
