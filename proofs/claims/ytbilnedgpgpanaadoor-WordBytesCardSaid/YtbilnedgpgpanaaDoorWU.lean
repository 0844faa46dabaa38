/- Part of a proof over the seat YtbilnedgpgpanaaDoor. -/
import Derived.Test.YtbilnedgpgpanaaDoorWT
namespace Go.Proofs.YtbilnedgpgpanaaDoor
open Go Go.Ew
set_option maxRecDepth 100000
set_option linter.unusedSimpArgs false
set_option linter.unusedVariables false
set_option maxHeartbeats 1000000
theorem in21 : codeIn Tryd.f21.ntmps (Tryd.f21.body.getD .skip) = true := by kernel_rfl
theorem in90 : codeIn Tryd.f90.ntmps (Tryd.f90.body.getD .skip) = true := by kernel_rfl
theorem in96 : codeIn Tryd.f96.ntmps (Tryd.f96.body.getD .skip) = true := by kernel_rfl
theorem rof_p (n : Nat) (h : n < 18446744073709551616) : Pure Tryd.prog 21 [.int .u64 (n : Int)] (wE n) := by
  refine pure_p (args := [.int .u64 (n : Int)]) en21 (by simp [closed, closeds, closed_wE, closeds_ints]) Tryd.func21 rfl in21 (by simp [Tryd.f21]) (by simp [closeds, closed, closed_wE, closeds_ints]) (fun w => next_of 1000 ?_)
  simp (maxSteps := 4000000) (disch := omega) only [go_sem, Nat.reduceBEq, Nat.reduceAdd, Nat.reduceMul, Nat.reduceSub, Nat.reduceLT, Nat.reduceLeDiff, Int.reduceToNat, Int.reduceLT, Int.reduceLE, Int.reduceAdd, Int.reduceMul, Int.reduceSub, Int.reduceNeg, Int.reduceDiv, Int.reduceMod, Nat.reduceBNe, Nat.reduceGT, Int.reduceBEq, Int.reduceBNe, Int.reduceGT, Nat.reduceDiv, Nat.reduceMod, Nat.reducePow, Int.reducePow, gt_iff_lt, ge_iff_le, List.reduceReplicate, ↓reduceIte, Tryd.f21]
  repeat (with_reducible refine And.intro (by first | omega | assumption | (constructor <;> assumption) | (simp; done) | (simp; omega) | (simp [*]; done)) ?_)
  repeat' (first
    | with_reducible refine And.intro (by first | omega | assumption | (constructor <;> assumption) | (simp; done) | (simp; omega) | (simp [*]; done)) ?_
    | simp (maxSteps := 4000000) (disch := omega) only [go_sem, Nat.reduceBEq, Nat.reduceAdd, Nat.reduceMul, Nat.reduceSub, Nat.reduceLT, Nat.reduceLeDiff, Int.reduceToNat, Int.reduceLT, Int.reduceLE, Int.reduceAdd, Int.reduceMul, Int.reduceSub, Int.reduceNeg, Int.reduceDiv, Int.reduceMod, Nat.reduceBNe, Nat.reduceGT, Int.reduceBEq, Int.reduceBNe, Int.reduceGT, Nat.reduceDiv, Nat.reduceMod, Nat.reducePow, Int.reducePow, gt_iff_lt, ge_iff_le, List.reduceReplicate, ↓reduceIte]
    | with_reducible refine roundS (next_of 1000 ?_)
    | with_reducible refine drawS_of mixed (by kernel_rfl) (dg_of 1000 ?_)
    | with_reducible refine endD_of (by kernel_rfl) (next_of 1000 ?_)
    | with_reducible refine next_of 1000 ?_
    | ((first | refine condS_split (fun h => ?_) (fun h => ?_) | refine testS_split (fun h => ?_) (fun h => ?_) | refine testD_split (fun h => ?_) (fun h => ?_)) <;> (try simp only [bne_iff_ne, ne_eq, beq_iff_eq, decide_eq_true_eq, decide_eq_false_iff_not, Bool.not_eq_true, Bool.not_eq_false, Bool.not_true, Bool.not_false, bne_eq_false_iff_eq, beq_eq_false_iff_ne, Bool.and_eq_true, Bool.or_eq_true, Bool.and_eq_false_imp, Bool.or_eq_false_iff, Bool.not_eq_true', Bool.not_eq_false', Int.not_lt, Int.not_le] at h) <;> (try (exfalso; omega))))
  exact wE_of (by constructor <;> omega)
theorem rzero_p (x : Nat) (hx : x < 115792089237316195423570985008687907853269984665640564039457584007913129639936) : Pure Tryd.prog 90 [wE x] (.bool (decide (x = 0))) := by
  obtain ⟨a, b, c, d, hw, hl⟩ := wE_open x hx
  rw [hw]
  obtain ⟨a0, a1, b0, b1, c0, c1, d0, d1, v⟩ := hl
  refine pure_p (args := [.agg [.int .u64 a, .int .u64 b, .int .u64 c, .int .u64 d]]) en90 (by simp [closed, closeds, closed_wE, closeds_ints]) Tryd.func90 rfl in90 (by simp [Tryd.f90]) (by simp [closeds, closed, closed_wE, closeds_ints]) (fun w => next_of 1000 ?_)
  simp (maxSteps := 4000000) (disch := omega) only [go_sem, Nat.reduceBEq, Nat.reduceAdd, Nat.reduceMul, Nat.reduceSub, Nat.reduceLT, Nat.reduceLeDiff, Int.reduceToNat, Int.reduceLT, Int.reduceLE, Int.reduceAdd, Int.reduceMul, Int.reduceSub, Int.reduceNeg, Int.reduceDiv, Int.reduceMod, Nat.reduceBNe, Nat.reduceGT, Int.reduceBEq, Int.reduceBNe, Int.reduceGT, Nat.reduceDiv, Nat.reduceMod, Nat.reducePow, Int.reducePow, gt_iff_lt, ge_iff_le, List.reduceReplicate, ↓reduceIte, Tryd.f90]
  repeat (with_reducible refine And.intro (by first | omega | assumption | (constructor <;> assumption) | (simp; done) | (simp; omega) | (simp [*]; done)) ?_)
  repeat' (first
    | with_reducible refine And.intro (by first | omega | assumption | (constructor <;> assumption) | (simp; done) | (simp; omega) | (simp [*]; done)) ?_
    | simp (maxSteps := 4000000) (disch := omega) only [go_sem, Nat.reduceBEq, Nat.reduceAdd, Nat.reduceMul, Nat.reduceSub, Nat.reduceLT, Nat.reduceLeDiff, Int.reduceToNat, Int.reduceLT, Int.reduceLE, Int.reduceAdd, Int.reduceMul, Int.reduceSub, Int.reduceNeg, Int.reduceDiv, Int.reduceMod, Nat.reduceBNe, Nat.reduceGT, Int.reduceBEq, Int.reduceBNe, Int.reduceGT, Nat.reduceDiv, Nat.reduceMod, Nat.reducePow, Int.reducePow, gt_iff_lt, ge_iff_le, List.reduceReplicate, ↓reduceIte]
    | with_reducible refine roundS (next_of 1000 ?_)
    | with_reducible refine drawS_of mixed (by kernel_rfl) (dg_of 1000 ?_)
    | with_reducible refine endD_of (by kernel_rfl) (next_of 1000 ?_)
    | with_reducible refine next_of 1000 ?_
    | ((first | refine condS_split (fun h => ?_) (fun h => ?_) | refine testS_split (fun h => ?_) (fun h => ?_) | refine testD_split (fun h => ?_) (fun h => ?_)) <;> (try simp only [bne_iff_ne, ne_eq, beq_iff_eq, decide_eq_true_eq, decide_eq_false_iff_not, Bool.not_eq_true, Bool.not_eq_false, Bool.not_true, Bool.not_false, bne_eq_false_iff_eq, beq_eq_false_iff_ne, Bool.and_eq_true, Bool.or_eq_true, Bool.and_eq_false_imp, Bool.or_eq_false_iff, Bool.not_eq_true', Bool.not_eq_false', Int.not_lt, Int.not_le] at h) <;> (try (exfalso; omega))))
  all_goals (rw [evb, Bool.eq_iff_iff]; simp; omega)
theorem rbelow_p (x : Nat) (hx : x < 115792089237316195423570985008687907853269984665640564039457584007913129639936) : Pure Tryd.prog 96 [wE x] (.bool (decide (57896044618658097711785492504343953926634992332820282019728792003956564819968 ≤ x))) := by
  obtain ⟨a, b, c, d, hw, hl⟩ := wE_open x hx
  rw [hw]
  obtain ⟨a0, a1, b0, b1, c0, c1, d0, d1, v⟩ := hl
  refine pure_p (args := [.agg [.int .u64 a, .int .u64 b, .int .u64 c, .int .u64 d]]) en96 (by simp [closed, closeds, closed_wE, closeds_ints]) Tryd.func96 rfl in96 (by simp [Tryd.f96]) (by simp [closeds, closed, closed_wE, closeds_ints]) (fun w => next_of 1000 ?_)
  simp (maxSteps := 4000000) (disch := omega) only [go_sem, Nat.reduceBEq, Nat.reduceAdd, Nat.reduceMul, Nat.reduceSub, Nat.reduceLT, Nat.reduceLeDiff, Int.reduceToNat, Int.reduceLT, Int.reduceLE, Int.reduceAdd, Int.reduceMul, Int.reduceSub, Int.reduceNeg, Int.reduceDiv, Int.reduceMod, Nat.reduceBNe, Nat.reduceGT, Int.reduceBEq, Int.reduceBNe, Int.reduceGT, Nat.reduceDiv, Nat.reduceMod, Nat.reducePow, Int.reducePow, gt_iff_lt, ge_iff_le, List.reduceReplicate, ↓reduceIte, Tryd.f96]
  repeat (with_reducible refine And.intro (by first | omega | assumption | (constructor <;> assumption) | (simp; done) | (simp; omega) | (simp [*]; done)) ?_)
  repeat' (first
    | with_reducible refine And.intro (by first | omega | assumption | (constructor <;> assumption) | (simp; done) | (simp; omega) | (simp [*]; done)) ?_
    | simp (maxSteps := 4000000) (disch := omega) only [go_sem, Nat.reduceBEq, Nat.reduceAdd, Nat.reduceMul, Nat.reduceSub, Nat.reduceLT, Nat.reduceLeDiff, Int.reduceToNat, Int.reduceLT, Int.reduceLE, Int.reduceAdd, Int.reduceMul, Int.reduceSub, Int.reduceNeg, Int.reduceDiv, Int.reduceMod, Nat.reduceBNe, Nat.reduceGT, Int.reduceBEq, Int.reduceBNe, Int.reduceGT, Nat.reduceDiv, Nat.reduceMod, Nat.reducePow, Int.reducePow, gt_iff_lt, ge_iff_le, List.reduceReplicate, ↓reduceIte]
    | with_reducible refine roundS (next_of 1000 ?_)
    | with_reducible refine drawS_of mixed (by kernel_rfl) (dg_of 1000 ?_)
    | with_reducible refine endD_of (by kernel_rfl) (next_of 1000 ?_)
    | with_reducible refine next_of 1000 ?_
    | ((first | refine condS_split (fun h => ?_) (fun h => ?_) | refine testS_split (fun h => ?_) (fun h => ?_) | refine testD_split (fun h => ?_) (fun h => ?_)) <;> (try simp only [bne_iff_ne, ne_eq, beq_iff_eq, decide_eq_true_eq, decide_eq_false_iff_not, Bool.not_eq_true, Bool.not_eq_false, Bool.not_true, Bool.not_false, bne_eq_false_iff_eq, beq_eq_false_iff_ne, Bool.and_eq_true, Bool.or_eq_true, Bool.and_eq_false_imp, Bool.or_eq_false_iff, Bool.not_eq_true', Bool.not_eq_false', Int.not_lt, Int.not_le] at h) <;> (try (exfalso; omega))))
  rw [evb, Bool.eq_iff_iff, beq_iff_eq, decide_eq_true_eq]
  omega
end Go.Proofs.YtbilnedgpgpanaaDoor
