/- Part of a proof over the seat YthknokcfmpahcaaDoor. -/
import Derived.Test.YthknokcfmpahcaaDoorTG10
namespace Go.Proofs.YthknokcfmpahcaaDoor
open Go Go.Ew
set_option maxRecDepth 100000
set_option linter.unusedSimpArgs false
set_option linter.unusedVariables false
set_option maxHeartbeats 1000000
theorem refforward_calls (left : Int) (a : Nat → Int) (hl : 0 ≤ left ∧ left < 18446744073709551616) (ha : wIn a) (w : World) : Calls Tryd.prog 34 #[.int .u64 left, wV a] w (Ret (.int .u64 (fwdI left (wn a))) w) := by
  have a0 := ha 0 (by omega)
  have a1 := ha 1 (by omega)
  have a2 := ha 2 (by omega)
  have a3 := ha 3 (by omega)
  have hm : wIn (w1n (left - left / 64)) := w1n_in (by omega)
  have ho := ordI_neg (fromW a) (fromW (w1n (left - left / 64))) (fromW_in a ha) (fromW_in _ hm) 17
  rw [fromW_num, fromW_num, w1n_wn] at ho
  refine pure_calls [.int .u64 left, .agg [.int .u64 (a 0), .int .u64 (a 1), .int .u64 (a 2), .int .u64 (a 3)]] Tryd.func34 rfl in34 (by simp [Tryd.f34]) (by simp [closeds, closed]) ?_
  refine next_of 1000 ?_
  simp (maxSteps := 4000000) (disch := omega) only [go_sem, Nat.reduceBEq, Nat.reduceAdd, Nat.reduceMul, Nat.reduceSub, Nat.reduceLT, Nat.reduceLeDiff, Int.reduceToNat, Int.reduceLT, Int.reduceLE, Int.reduceAdd, Int.reduceMul, Int.reduceSub, Int.reduceNeg, Int.reduceDiv, Int.reduceMod, Nat.reduceBNe, Nat.reduceGT, Int.reduceBEq, Int.reduceBNe, Int.reduceGT, Nat.reduceDiv, Nat.reduceMod, Nat.reducePow, gt_iff_lt, ge_iff_le, List.reduceReplicate, Tryd.f34]
  repeat (with_reducible refine And.intro (by first | omega | (simp; done) | (simp [*]; done)) ?_)
  refine drawS_of mixed (by kernel_rfl) (dg_of 1000 ?_)
  simp (maxSteps := 4000000) (disch := omega) only [go_sem, Nat.reduceBEq, Nat.reduceAdd, Nat.reduceMul, Nat.reduceSub, Nat.reduceLT, Nat.reduceLeDiff, Int.reduceToNat, Int.reduceLT, Int.reduceLE, Int.reduceAdd, Int.reduceMul, Int.reduceSub, Int.reduceNeg, Int.reduceDiv, Int.reduceMod, Nat.reduceBNe, Nat.reduceGT, Int.reduceBEq, Int.reduceBNe, Int.reduceGT, Nat.reduceDiv, Nat.reduceMod, Nat.reducePow, gt_iff_lt, ge_iff_le, List.reduceReplicate]
  repeat (with_reducible refine And.intro (by first | omega | (simp; done) | (simp [*]; done)) ?_)
  refine callD_pure (.agg [.int .u64 (w1n (left - left / 64) 0), .int .u64 (w1n (left - left / 64) 1), .int .u64 (w1n (left - left / 64) 2), .int .u64 (w1n (left - left / 64) 3)]) [] en69 (by simp [closed, closeds]) (fun y bs w _ _ _ => of_calls _ w) (dg_of 1000 ?_)
  simp (maxSteps := 4000000) (disch := omega) only [go_sem, Nat.reduceBEq, Nat.reduceAdd, Nat.reduceMul, Nat.reduceSub, Nat.reduceLT, Nat.reduceLeDiff, Int.reduceToNat, Int.reduceLT, Int.reduceLE, Int.reduceAdd, Int.reduceMul, Int.reduceSub, Int.reduceNeg, Int.reduceDiv, Int.reduceMod, Nat.reduceBNe, Nat.reduceGT, Int.reduceBEq, Int.reduceBNe, Int.reduceGT, Nat.reduceDiv, Nat.reduceMod, Nat.reducePow, gt_iff_lt, ge_iff_le, List.reduceReplicate]
  repeat (with_reducible refine And.intro (by first | omega | (simp; done) | (simp [*]; done)) ?_)
  refine callD_pure (.int .i64 (ordI (fromW a) (fromW (w1n (left - left / 64))) 17)) [] en68 (by simp [closed]) (fun y bs w _ _ _ => cmp_calls a _ ha hm w) (dg_of 1000 ?_)
  simp (maxSteps := 4000000) (disch := omega) only [go_sem, Nat.reduceBEq, Nat.reduceAdd, Nat.reduceMul, Nat.reduceSub, Nat.reduceLT, Nat.reduceLeDiff, Int.reduceToNat, Int.reduceLT, Int.reduceLE, Int.reduceAdd, Int.reduceMul, Int.reduceSub, Int.reduceNeg, Int.reduceDiv, Int.reduceMod, Nat.reduceBNe, Nat.reduceGT, Int.reduceBEq, Int.reduceBNe, Int.reduceGT, Nat.reduceDiv, Nat.reduceMod, Nat.reducePow, gt_iff_lt, ge_iff_le, List.reduceReplicate]
  repeat (with_reducible refine And.intro (by first | omega | (simp; done) | (simp [*]; done)) ?_)
  refine endD_of (by kernel_rfl) (next_of 1000 ?_)
  simp (maxSteps := 4000000) (disch := omega) only [go_sem, Nat.reduceBEq, Nat.reduceAdd, Nat.reduceMul, Nat.reduceSub, Nat.reduceLT, Nat.reduceLeDiff, Int.reduceToNat, Int.reduceLT, Int.reduceLE, Int.reduceAdd, Int.reduceMul, Int.reduceSub, Int.reduceNeg, Int.reduceDiv, Int.reduceMod, Nat.reduceBNe, Nat.reduceGT, Int.reduceBEq, Int.reduceBNe, Int.reduceGT, Nat.reduceDiv, Nat.reduceMod, Nat.reducePow, gt_iff_lt, ge_iff_le, List.reduceReplicate]
  repeat (with_reducible refine And.intro (by first | omega | (simp; done) | (simp [*]; done)) ?_)
  refine condS_split (fun h => ?_) (fun h => ?_)
  all_goals simp only [bne_iff_ne, ne_eq, beq_iff_eq, decide_eq_true_eq, decide_eq_false_iff_not, Bool.not_eq_true, Bool.not_eq_false, Bool.not_true, Bool.not_false, bne_eq_false_iff_eq, beq_eq_false_iff_ne, Bool.and_eq_true, Bool.or_eq_true, Bool.and_eq_false_imp, Bool.or_eq_false_iff, Bool.not_eq_true', Bool.not_eq_false', Int.not_lt, Int.not_le] at h
  · rw [ho] at h
    simp (maxSteps := 4000000) (disch := omega) only [go_sem, Nat.reduceBEq, Nat.reduceAdd, Nat.reduceMul, Nat.reduceSub, Nat.reduceLT, Nat.reduceLeDiff, Int.reduceToNat, Int.reduceLT, Int.reduceLE, Int.reduceAdd, Int.reduceMul, Int.reduceSub, Int.reduceNeg, Int.reduceDiv, Int.reduceMod, Nat.reduceBNe, Nat.reduceGT, Int.reduceBEq, Int.reduceBNe, Int.reduceGT, Nat.reduceDiv, Nat.reduceMod, Nat.reducePow, gt_iff_lt, ge_iff_le, List.reduceReplicate]
    repeat (with_reducible refine And.intro (by first | omega | (simp; done) | (simp [*]; done)) ?_)
    refine int_eq ?_
    unfold fwdI; rw [if_pos h]; unfold wn at *; omega
  · have h' : ¬ wn a < left - left / 64 := by rw [← ho]; omega
    simp (maxSteps := 4000000) (disch := omega) only [go_sem, Nat.reduceBEq, Nat.reduceAdd, Nat.reduceMul, Nat.reduceSub, Nat.reduceLT, Nat.reduceLeDiff, Int.reduceToNat, Int.reduceLT, Int.reduceLE, Int.reduceAdd, Int.reduceMul, Int.reduceSub, Int.reduceNeg, Int.reduceDiv, Int.reduceMod, Nat.reduceBNe, Nat.reduceGT, Int.reduceBEq, Int.reduceBNe, Int.reduceGT, Nat.reduceDiv, Nat.reduceMod, Nat.reducePow, gt_iff_lt, ge_iff_le, List.reduceReplicate]
    repeat (with_reducible refine And.intro (by first | omega | (simp; done) | (simp [*]; done)) ?_)
    refine int_eq ?_
    unfold fwdI; rw [if_neg h']
theorem law_calls (p q r : Bool) (left : Int) (h1 : 0 ≤ left ∧ left < 18446744073709551616) (a : Nat → Int) (ha : wIn a) (n : Int) (hn : -9223372036854775808 ≤ n ∧ n < 9223372036854775808) (w : World) :
    Calls Tryd.prog 11 #[.bool p, .bool q, .bool r, .int .u64 left, wV a, .int .i64 n] w (Ret (.bool true) w) := by
  refine pure_calls [.bool p, .bool q, .bool r, .int .u64 left, .agg [.int .u64 (a 0), .int .u64 (a 1), .int .u64 (a 2), .int .u64 (a 3)], .int .i64 n] Tryd.func11 rfl in11 (by simp [Tryd.f11]) (by simp [closeds, closed]) ?_
  refine next_of 1000 ?_
  simp (maxSteps := 4000000) (disch := omega) only [go_sem, Nat.reduceBEq, Nat.reduceAdd, Nat.reduceMul, Nat.reduceSub, Nat.reduceLT, Nat.reduceLeDiff, Int.reduceToNat, Int.reduceLT, Int.reduceLE, Int.reduceAdd, Int.reduceMul, Int.reduceSub, Int.reduceNeg, Int.reduceDiv, Int.reduceMod, Nat.reduceBNe, Nat.reduceGT, Int.reduceBEq, Int.reduceBNe, Int.reduceGT, Nat.reduceDiv, Nat.reduceMod, Nat.reducePow, gt_iff_lt, ge_iff_le, List.reduceReplicate, Tryd.f11]
  repeat (with_reducible refine And.intro (by first | omega | (simp; done) | (simp [*]; done)) ?_)
  refine drawS_of mixed (by kernel_rfl) (dg_of 1000 ?_)
  simp (maxSteps := 4000000) (disch := omega) only [go_sem, Nat.reduceBEq, Nat.reduceAdd, Nat.reduceMul, Nat.reduceSub, Nat.reduceLT, Nat.reduceLeDiff, Int.reduceToNat, Int.reduceLT, Int.reduceLE, Int.reduceAdd, Int.reduceMul, Int.reduceSub, Int.reduceNeg, Int.reduceDiv, Int.reduceMod, Nat.reduceBNe, Nat.reduceGT, Int.reduceBEq, Int.reduceBNe, Int.reduceGT, Nat.reduceDiv, Nat.reduceMod, Nat.reducePow, gt_iff_lt, ge_iff_le, List.reduceReplicate]
  repeat (with_reducible refine And.intro (by first | omega | (simp; done) | (simp [*]; done)) ?_)
  refine callD_pure (.int .u64 (callI p q r)) [] en32 (by simp [closed]) (fun y bs w _ _ _ => call_calls p q r w) (dg_of 1000 ?_)
  simp (maxSteps := 4000000) (disch := omega) only [go_sem, Nat.reduceBEq, Nat.reduceAdd, Nat.reduceMul, Nat.reduceSub, Nat.reduceLT, Nat.reduceLeDiff, Int.reduceToNat, Int.reduceLT, Int.reduceLE, Int.reduceAdd, Int.reduceMul, Int.reduceSub, Int.reduceNeg, Int.reduceDiv, Int.reduceMod, Nat.reduceBNe, Nat.reduceGT, Int.reduceBEq, Int.reduceBNe, Int.reduceGT, Nat.reduceDiv, Nat.reduceMod, Nat.reducePow, gt_iff_lt, ge_iff_le, List.reduceReplicate]
  repeat (with_reducible refine And.intro (by first | omega | (simp; done) | (simp [*]; done)) ?_)
  refine callD_pure (.int .u64 (callI p q r)) [] en33 (by simp [closed]) (fun y bs w _ _ _ => refcall_calls p q r w) (dg_of 1000 ?_)
  simp (maxSteps := 4000000) (disch := omega) only [go_sem, Nat.reduceBEq, Nat.reduceAdd, Nat.reduceMul, Nat.reduceSub, Nat.reduceLT, Nat.reduceLeDiff, Int.reduceToNat, Int.reduceLT, Int.reduceLE, Int.reduceAdd, Int.reduceMul, Int.reduceSub, Int.reduceNeg, Int.reduceDiv, Int.reduceMod, Nat.reduceBNe, Nat.reduceGT, Int.reduceBEq, Int.reduceBNe, Int.reduceGT, Nat.reduceDiv, Nat.reduceMod, Nat.reducePow, gt_iff_lt, ge_iff_le, List.reduceReplicate]
  repeat (with_reducible refine And.intro (by first | omega | (simp; done) | (simp [*]; done)) ?_)
  refine callD_pure (.int .u64 (fwdI left (wn a))) [] en30 (by simp [closed]) (fun y bs w _ _ _ => forward_calls left a h1 ha w) (dg_of 1000 ?_)
  simp (maxSteps := 4000000) (disch := omega) only [go_sem, Nat.reduceBEq, Nat.reduceAdd, Nat.reduceMul, Nat.reduceSub, Nat.reduceLT, Nat.reduceLeDiff, Int.reduceToNat, Int.reduceLT, Int.reduceLE, Int.reduceAdd, Int.reduceMul, Int.reduceSub, Int.reduceNeg, Int.reduceDiv, Int.reduceMod, Nat.reduceBNe, Nat.reduceGT, Int.reduceBEq, Int.reduceBNe, Int.reduceGT, Nat.reduceDiv, Nat.reduceMod, Nat.reducePow, gt_iff_lt, ge_iff_le, List.reduceReplicate]
  repeat (with_reducible refine And.intro (by first | omega | (simp; done) | (simp [*]; done)) ?_)
  refine callD_pure (.int .u64 (fwdI left (wn a))) [] en34 (by simp [closed]) (fun y bs w _ _ _ => refforward_calls left a h1 ha w) (dg_of 1000 ?_)
  simp (maxSteps := 4000000) (disch := omega) only [go_sem, Nat.reduceBEq, Nat.reduceAdd, Nat.reduceMul, Nat.reduceSub, Nat.reduceLT, Nat.reduceLeDiff, Int.reduceToNat, Int.reduceLT, Int.reduceLE, Int.reduceAdd, Int.reduceMul, Int.reduceSub, Int.reduceNeg, Int.reduceDiv, Int.reduceMod, Nat.reduceBNe, Nat.reduceGT, Int.reduceBEq, Int.reduceBNe, Int.reduceGT, Nat.reduceDiv, Nat.reduceMod, Nat.reducePow, gt_iff_lt, ge_iff_le, List.reduceReplicate]
  repeat (with_reducible refine And.intro (by first | omega | (simp; done) | (simp [*]; done)) ?_)
  refine callD_pure (.int .u64 (refI left n)) [] en31 (by simp [closed]) (fun y bs w _ _ _ => refund_calls left n h1 hn w) (dg_of 1000 ?_)
  simp (maxSteps := 4000000) (disch := omega) only [go_sem, Nat.reduceBEq, Nat.reduceAdd, Nat.reduceMul, Nat.reduceSub, Nat.reduceLT, Nat.reduceLeDiff, Int.reduceToNat, Int.reduceLT, Int.reduceLE, Int.reduceAdd, Int.reduceMul, Int.reduceSub, Int.reduceNeg, Int.reduceDiv, Int.reduceMod, Nat.reduceBNe, Nat.reduceGT, Int.reduceBEq, Int.reduceBNe, Int.reduceGT, Nat.reduceDiv, Nat.reduceMod, Nat.reducePow, gt_iff_lt, ge_iff_le, List.reduceReplicate]
  repeat (with_reducible refine And.intro (by first | omega | (simp; done) | (simp [*]; done)) ?_)
  refine callD_pure (.int .u64 (refI left n)) [] en35 (by simp [closed]) (fun y bs w _ _ _ => refrefund_calls left n h1 hn w) (dg_of 1000 ?_)
  simp (maxSteps := 4000000) (disch := omega) only [go_sem, Nat.reduceBEq, Nat.reduceAdd, Nat.reduceMul, Nat.reduceSub, Nat.reduceLT, Nat.reduceLeDiff, Int.reduceToNat, Int.reduceLT, Int.reduceLE, Int.reduceAdd, Int.reduceMul, Int.reduceSub, Int.reduceNeg, Int.reduceDiv, Int.reduceMod, Nat.reduceBNe, Nat.reduceGT, Int.reduceBEq, Int.reduceBNe, Int.reduceGT, Nat.reduceDiv, Nat.reduceMod, Nat.reducePow, gt_iff_lt, ge_iff_le, List.reduceReplicate]
  repeat (with_reducible refine And.intro (by first | omega | (simp; done) | (simp [*]; done)) ?_)
  refine callD_pure (.bool true) [] en15 (by simp [closed]) (fun y bs w _ _ _ => awake_calls w) (dg_of 1000 ?_)
  simp (maxSteps := 4000000) (disch := omega) only [go_sem, Nat.reduceBEq, Nat.reduceAdd, Nat.reduceMul, Nat.reduceSub, Nat.reduceLT, Nat.reduceLeDiff, Int.reduceToNat, Int.reduceLT, Int.reduceLE, Int.reduceAdd, Int.reduceMul, Int.reduceSub, Int.reduceNeg, Int.reduceDiv, Int.reduceMod, Nat.reduceBNe, Nat.reduceGT, Int.reduceBEq, Int.reduceBNe, Int.reduceGT, Nat.reduceDiv, Nat.reduceMod, Nat.reducePow, gt_iff_lt, ge_iff_le, List.reduceReplicate]
  repeat (with_reducible refine And.intro (by first | omega | (simp; done) | (simp [*]; done)) ?_)
  refine endD_of (by kernel_rfl) (next_of 1000 ?_)
  simp (maxSteps := 4000000) (disch := omega) only [go_sem, Nat.reduceBEq, Nat.reduceAdd, Nat.reduceMul, Nat.reduceSub, Nat.reduceLT, Nat.reduceLeDiff, Int.reduceToNat, Int.reduceLT, Int.reduceLE, Int.reduceAdd, Int.reduceMul, Int.reduceSub, Int.reduceNeg, Int.reduceDiv, Int.reduceMod, Nat.reduceBNe, Nat.reduceGT, Int.reduceBEq, Int.reduceBNe, Int.reduceGT, Nat.reduceDiv, Nat.reduceMod, Nat.reducePow, gt_iff_lt, ge_iff_le, List.reduceReplicate]
  repeat (with_reducible refine And.intro (by first | omega | (simp; done) | (simp [*]; done)) ?_)
  intro bs; simp [real]
end Go.Proofs.YthknokcfmpahcaaDoor
