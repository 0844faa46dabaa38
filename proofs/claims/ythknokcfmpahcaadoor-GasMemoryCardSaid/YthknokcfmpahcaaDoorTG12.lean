/- Part of a proof over the seat YthknokcfmpahcaaDoor. -/
import Derived.Test.YthknokcfmpahcaaDoorTG9
namespace Go.Proofs.YthknokcfmpahcaaDoor
open Go Go.Ew
set_option maxRecDepth 100000
set_option linter.unusedSimpArgs false
set_option linter.unusedVariables false
set_option maxHeartbeats 1000000
theorem in17 : codeIn Tryd.f17.ntmps (Tryd.f17.body.getD .skip) = true := by kernel_rfl
theorem in19 : codeIn Tryd.f19.ntmps (Tryd.f19.body.getD .skip) = true := by kernel_rfl
theorem in21 : codeIn Tryd.f21.ntmps (Tryd.f21.body.getD .skip) = true := by kernel_rfl
theorem in64 : codeIn Tryd.f64.ntmps (Tryd.f64.body.getD .skip) = true := by kernel_rfl
theorem in76 : codeIn Tryd.f76.ntmps (Tryd.f76.body.getD .skip) = true := by kernel_rfl
theorem in63 : codeIn Tryd.f63.ntmps (Tryd.f63.body.getD .skip) = true := by kernel_rfl
theorem in65 : codeIn Tryd.f65.ntmps (Tryd.f65.body.getD .skip) = true := by kernel_rfl
theorem in4 : codeIn Tryd.f4.ntmps (Tryd.f4.body.getD .skip) = true := by kernel_rfl
theorem refwords_calls (n : Int) (h0 : 0 ≤ n) (h1 : n < 18446744073709551616) (w : World) : Calls Tryd.prog 19 #[.int .u64 n] w (Ret (.int .u64 (words n)) w) := by
  refine pure_calls [.int .u64 n] Tryd.func19 rfl in19 (by simp [Tryd.f19]) (by simp [closeds, closed]) ?_
  refine next_of 1000 ?_
  simp (maxSteps := 4000000) (disch := omega) only [go_sem, Nat.reduceBEq, Nat.reduceAdd, Nat.reduceMul, Nat.reduceSub, Nat.reduceLT, Nat.reduceLeDiff, Int.reduceToNat, Int.reduceLT, Int.reduceLE, Int.reduceAdd, Int.reduceMul, Int.reduceSub, Int.reduceNeg, Int.reduceDiv, Int.reduceMod, Nat.reduceBNe, Nat.reduceGT, Int.reduceBEq, Int.reduceBNe, Int.reduceGT, Nat.reduceDiv, Nat.reduceMod, Nat.reducePow, gt_iff_lt, ge_iff_le, List.reduceReplicate, Tryd.f19]
  repeat (with_reducible refine And.intro (by first | omega | (simp; done) | (simp [*]; done)) ?_)
  repeat' (first
    | with_reducible refine And.intro (by first | omega | (simp; done) | (simp [*]; done)) ?_
    | simp (maxSteps := 4000000) (disch := omega) only [go_sem, Nat.reduceBEq, Nat.reduceAdd, Nat.reduceMul, Nat.reduceSub, Nat.reduceLT, Nat.reduceLeDiff, Int.reduceToNat, Int.reduceLT, Int.reduceLE, Int.reduceAdd, Int.reduceMul, Int.reduceSub, Int.reduceNeg, Int.reduceDiv, Int.reduceMod, Nat.reduceBNe, Nat.reduceGT, Int.reduceBEq, Int.reduceBNe, Int.reduceGT, Nat.reduceDiv, Nat.reduceMod, Nat.reducePow, gt_iff_lt, ge_iff_le, List.reduceReplicate]
    | (refine condS_split (fun h => ?_) (fun h => ?_) <;> (try simp only [bne_iff_ne, ne_eq, beq_iff_eq, decide_eq_true_eq, decide_eq_false_iff_not, Bool.not_eq_true, Bool.not_eq_false, Bool.not_true, Bool.not_false, bne_eq_false_iff_eq, beq_eq_false_iff_ne, Bool.and_eq_true, Bool.or_eq_true, Bool.and_eq_false_imp, Bool.or_eq_false_iff, Bool.not_eq_true', Bool.not_eq_false', Int.not_lt, Int.not_le] at h) <;> (try (exfalso; omega)))
    | (refine testS_split (fun h => ?_) (fun h => ?_) <;> (try simp only [bne_iff_ne, ne_eq, beq_iff_eq, decide_eq_true_eq, decide_eq_false_iff_not, Bool.not_eq_true, Bool.not_eq_false, Bool.not_true, Bool.not_false, bne_eq_false_iff_eq, beq_eq_false_iff_ne, Bool.and_eq_true, Bool.or_eq_true, Bool.and_eq_false_imp, Bool.or_eq_false_iff, Bool.not_eq_true', Bool.not_eq_false', Int.not_lt, Int.not_le] at h) <;> (try (exfalso; omega))))
  all_goals (refine int_eq ?_; unfold words; omega)
theorem refmemory_calls (n : Int) (h0 : 0 ≤ n) (h1 : n < 18446744073709551616) (w : World) : Calls Tryd.prog 21 #[.int .u64 n] w (Ret (.int .u64 (memGas n)) w) := by
  refine pure_calls [.int .u64 n] Tryd.func21 rfl in21 (by simp [Tryd.f21]) (by simp [closeds, closed]) ?_
  refine next_of 1000 ?_
  simp (maxSteps := 4000000) (disch := omega) only [go_sem, Nat.reduceBEq, Nat.reduceAdd, Nat.reduceMul, Nat.reduceSub, Nat.reduceLT, Nat.reduceLeDiff, Int.reduceToNat, Int.reduceLT, Int.reduceLE, Int.reduceAdd, Int.reduceMul, Int.reduceSub, Int.reduceNeg, Int.reduceDiv, Int.reduceMod, Nat.reduceBNe, Nat.reduceGT, Int.reduceBEq, Int.reduceBNe, Int.reduceGT, Nat.reduceDiv, Nat.reduceMod, Nat.reducePow, gt_iff_lt, ge_iff_le, List.reduceReplicate, Tryd.f21]
  repeat (with_reducible refine And.intro (by first | omega | (simp; done) | (simp [*]; done)) ?_)
  refine condS_split (fun h => ?_) (fun h => ?_)
  all_goals simp only [bne_iff_ne, ne_eq, beq_iff_eq, decide_eq_true_eq, decide_eq_false_iff_not, Bool.not_eq_true, Bool.not_eq_false, Bool.not_true, Bool.not_false, bne_eq_false_iff_eq, beq_eq_false_iff_ne, Bool.and_eq_true, Bool.or_eq_true, Bool.and_eq_false_imp, Bool.or_eq_false_iff, Bool.not_eq_true', Bool.not_eq_false', Int.not_lt, Int.not_le] at h
  · simp (maxSteps := 4000000) (disch := omega) only [go_sem, Nat.reduceBEq, Nat.reduceAdd, Nat.reduceMul, Nat.reduceSub, Nat.reduceLT, Nat.reduceLeDiff, Int.reduceToNat, Int.reduceLT, Int.reduceLE, Int.reduceAdd, Int.reduceMul, Int.reduceSub, Int.reduceNeg, Int.reduceDiv, Int.reduceMod, Nat.reduceBNe, Nat.reduceGT, Int.reduceBEq, Int.reduceBNe, Int.reduceGT, Nat.reduceDiv, Nat.reduceMod, Nat.reducePow, gt_iff_lt, ge_iff_le, List.reduceReplicate]
    repeat (with_reducible refine And.intro (by first | omega | (simp; done) | (simp [*]; done)) ?_)
    refine int_eq ?_
    unfold memGas; rw [if_pos (by omega)]
  · simp (maxSteps := 4000000) (disch := omega) only [go_sem, Nat.reduceBEq, Nat.reduceAdd, Nat.reduceMul, Nat.reduceSub, Nat.reduceLT, Nat.reduceLeDiff, Int.reduceToNat, Int.reduceLT, Int.reduceLE, Int.reduceAdd, Int.reduceMul, Int.reduceSub, Int.reduceNeg, Int.reduceDiv, Int.reduceMod, Nat.reduceBNe, Nat.reduceGT, Int.reduceBEq, Int.reduceBNe, Int.reduceGT, Nat.reduceDiv, Nat.reduceMod, Nat.reducePow, gt_iff_lt, ge_iff_le, List.reduceReplicate]
    repeat (with_reducible refine And.intro (by first | omega | (simp; done) | (simp [*]; done)) ?_)
    refine callS_pure (.int .u64 (words n)) en19 (by simp [closed]) (fun bs w _ => refwords_calls n h0 h1 w) ?_
    have hw := words_le n (by omega) h0
    have hq : words n * words n ≤ 262144 * 262144 := Int.mul_le_mul hw.1 hw.1 hw.2 (by omega)
    have hq0 : 0 ≤ words n * words n := Int.mul_nonneg hw.2 hw.2
    refine next_of 1000 ?_
    simp (maxSteps := 4000000) (disch := omega) only [go_sem, Nat.reduceBEq, Nat.reduceAdd, Nat.reduceMul, Nat.reduceSub, Nat.reduceLT, Nat.reduceLeDiff, Int.reduceToNat, Int.reduceLT, Int.reduceLE, Int.reduceAdd, Int.reduceMul, Int.reduceSub, Int.reduceNeg, Int.reduceDiv, Int.reduceMod, Nat.reduceBNe, Nat.reduceGT, Int.reduceBEq, Int.reduceBNe, Int.reduceGT, Nat.reduceDiv, Nat.reduceMod, Nat.reducePow, gt_iff_lt, ge_iff_le, List.reduceReplicate]
    repeat (with_reducible refine And.intro (by first | omega | (simp; done) | (simp [*]; done)) ?_)
    refine int_eq ?_
    unfold memGas; rw [if_neg (by omega)]
theorem refzero_calls (a : Nat → Int) (ha : wIn a) (w : World) : Calls Tryd.prog 63 #[wV a] w (Ret (.bool (decide (wn a = 0))) w) := by
  have a0 := ha 0 (by omega)
  have a1 := ha 1 (by omega)
  have a2 := ha 2 (by omega)
  have a3 := ha 3 (by omega)
  refine pure_calls [.agg [.int .u64 (a 0), .int .u64 (a 1), .int .u64 (a 2), .int .u64 (a 3)]] Tryd.func63 rfl in63 (by simp [Tryd.f63]) (by simp [closeds, closed]) ?_
  refine next_of 1000 ?_
  simp (maxSteps := 4000000) (disch := omega) only [go_sem, Nat.reduceBEq, Nat.reduceAdd, Nat.reduceMul, Nat.reduceSub, Nat.reduceLT, Nat.reduceLeDiff, Int.reduceToNat, Int.reduceLT, Int.reduceLE, Int.reduceAdd, Int.reduceMul, Int.reduceSub, Int.reduceNeg, Int.reduceDiv, Int.reduceMod, Nat.reduceBNe, Nat.reduceGT, Int.reduceBEq, Int.reduceBNe, Int.reduceGT, Nat.reduceDiv, Nat.reduceMod, Nat.reducePow, gt_iff_lt, ge_iff_le, List.reduceReplicate, Tryd.f63]
  repeat (with_reducible refine And.intro (by first | omega | (simp; done) | (simp [*]; done)) ?_)
  repeat' (first
    | with_reducible refine And.intro (by first | omega | (simp; done) | (simp [*]; done)) ?_
    | simp (maxSteps := 4000000) (disch := omega) only [go_sem, Nat.reduceBEq, Nat.reduceAdd, Nat.reduceMul, Nat.reduceSub, Nat.reduceLT, Nat.reduceLeDiff, Int.reduceToNat, Int.reduceLT, Int.reduceLE, Int.reduceAdd, Int.reduceMul, Int.reduceSub, Int.reduceNeg, Int.reduceDiv, Int.reduceMod, Nat.reduceBNe, Nat.reduceGT, Int.reduceBEq, Int.reduceBNe, Int.reduceGT, Nat.reduceDiv, Nat.reduceMod, Nat.reducePow, gt_iff_lt, ge_iff_le, List.reduceReplicate]
    | (refine condS_split (fun h => ?_) (fun h => ?_) <;> (try simp only [bne_iff_ne, ne_eq, beq_iff_eq, decide_eq_true_eq, decide_eq_false_iff_not, Bool.not_eq_true, Bool.not_eq_false, Bool.not_true, Bool.not_false, bne_eq_false_iff_eq, beq_eq_false_iff_ne, Bool.and_eq_true, Bool.or_eq_true, Bool.and_eq_false_imp, Bool.or_eq_false_iff, Bool.not_eq_true', Bool.not_eq_false', Int.not_lt, Int.not_le] at h) <;> (try (exfalso; omega)))
    | (refine testS_split (fun h => ?_) (fun h => ?_) <;> (try simp only [bne_iff_ne, ne_eq, beq_iff_eq, decide_eq_true_eq, decide_eq_false_iff_not, Bool.not_eq_true, Bool.not_eq_false, Bool.not_true, Bool.not_false, bne_eq_false_iff_eq, beq_eq_false_iff_ne, Bool.and_eq_true, Bool.or_eq_true, Bool.and_eq_false_imp, Bool.or_eq_false_iff, Bool.not_eq_true', Bool.not_eq_false', Int.not_lt, Int.not_le] at h) <;> (try (exfalso; omega))))
  all_goals (intro bs; simp only [real]; congr 1; rw [Bool.eq_iff_iff]; simp only [beq_iff_eq, decide_eq_true_eq, Bool.false_eq_true, false_iff]; unfold wn; omega)
theorem refsmall_calls (a : Nat → Int) (ha : wIn a) (m : Int) (hm : 0 ≤ m ∧ m < 9223372036854775808) (w : World) : Calls Tryd.prog 76 #[wV a, .int .i64 m] w (Ret (.int .i64 (if wn a < m then wn a else m)) w) := by
  have a0 := ha 0 (by omega)
  have a1 := ha 1 (by omega)
  have a2 := ha 2 (by omega)
  have a3 := ha 3 (by omega)
  refine pure_calls [.agg [.int .u64 (a 0), .int .u64 (a 1), .int .u64 (a 2), .int .u64 (a 3)], .int .i64 m] Tryd.func76 rfl in76 (by simp [Tryd.f76]) (by simp [closeds, closed]) ?_
  refine next_of 1000 ?_
  simp (maxSteps := 4000000) (disch := omega) only [go_sem, Nat.reduceBEq, Nat.reduceAdd, Nat.reduceMul, Nat.reduceSub, Nat.reduceLT, Nat.reduceLeDiff, Int.reduceToNat, Int.reduceLT, Int.reduceLE, Int.reduceAdd, Int.reduceMul, Int.reduceSub, Int.reduceNeg, Int.reduceDiv, Int.reduceMod, Nat.reduceBNe, Nat.reduceGT, Int.reduceBEq, Int.reduceBNe, Int.reduceGT, Nat.reduceDiv, Nat.reduceMod, Nat.reducePow, gt_iff_lt, ge_iff_le, List.reduceReplicate, Tryd.f76]
  repeat (with_reducible refine And.intro (by first | omega | (simp; done) | (simp [*]; done)) ?_)
  repeat' (first
    | with_reducible refine And.intro (by first | omega | (simp; done) | (simp [*]; done)) ?_
    | simp (maxSteps := 4000000) (disch := omega) only [go_sem, Nat.reduceBEq, Nat.reduceAdd, Nat.reduceMul, Nat.reduceSub, Nat.reduceLT, Nat.reduceLeDiff, Int.reduceToNat, Int.reduceLT, Int.reduceLE, Int.reduceAdd, Int.reduceMul, Int.reduceSub, Int.reduceNeg, Int.reduceDiv, Int.reduceMod, Nat.reduceBNe, Nat.reduceGT, Int.reduceBEq, Int.reduceBNe, Int.reduceGT, Nat.reduceDiv, Nat.reduceMod, Nat.reducePow, gt_iff_lt, ge_iff_le, List.reduceReplicate]
    | (refine condS_split (fun h => ?_) (fun h => ?_) <;> (try simp only [bne_iff_ne, ne_eq, beq_iff_eq, decide_eq_true_eq, decide_eq_false_iff_not, Bool.not_eq_true, Bool.not_eq_false, Bool.not_true, Bool.not_false, bne_eq_false_iff_eq, beq_eq_false_iff_ne, Bool.and_eq_true, Bool.or_eq_true, Bool.and_eq_false_imp, Bool.or_eq_false_iff, Bool.not_eq_true', Bool.not_eq_false', Int.not_lt, Int.not_le] at h) <;> (try (exfalso; omega)))
    | (refine testS_split (fun h => ?_) (fun h => ?_) <;> (try simp only [bne_iff_ne, ne_eq, beq_iff_eq, decide_eq_true_eq, decide_eq_false_iff_not, Bool.not_eq_true, Bool.not_eq_false, Bool.not_true, Bool.not_false, bne_eq_false_iff_eq, beq_eq_false_iff_ne, Bool.and_eq_true, Bool.or_eq_true, Bool.and_eq_false_imp, Bool.or_eq_false_iff, Bool.not_eq_true', Bool.not_eq_false', Int.not_lt, Int.not_le] at h) <;> (try (exfalso; omega))))
  all_goals (refine int_eq ?_; unfold wn; split <;> omega)
def smI (A : Int) : Int := if A < 8388609 then A else 8388609
theorem sml_calls (a : Nat → Int) (ha : wIn a) (w : World) : Calls Tryd.prog 64 #[wV a] w (Ret (.int .u64 (smI (wn a))) w) := by
  have hn := wn_nn a ha
  have hb : 0 ≤ smI (wn a) ∧ smI (wn a) ≤ 8388609 := by unfold smI; split <;> omega
  refine pure_calls [.agg [.int .u64 (a 0), .int .u64 (a 1), .int .u64 (a 2), .int .u64 (a 3)]] Tryd.func64 rfl in64 (by simp [Tryd.f64]) (by simp [closeds, closed]) ?_
  refine next_of 1000 ?_
  simp (maxSteps := 4000000) (disch := omega) only [go_sem, Nat.reduceBEq, Nat.reduceAdd, Nat.reduceMul, Nat.reduceSub, Nat.reduceLT, Nat.reduceLeDiff, Int.reduceToNat, Int.reduceLT, Int.reduceLE, Int.reduceAdd, Int.reduceMul, Int.reduceSub, Int.reduceNeg, Int.reduceDiv, Int.reduceMod, Nat.reduceBNe, Nat.reduceGT, Int.reduceBEq, Int.reduceBNe, Int.reduceGT, Nat.reduceDiv, Nat.reduceMod, Nat.reducePow, gt_iff_lt, ge_iff_le, List.reduceReplicate, Tryd.f64]
  repeat (with_reducible refine And.intro (by first | omega | (simp; done) | (simp [*]; done)) ?_)
  refine callS_pure (.int .i64 (smI (wn a))) en76 (by simp [closed]) (fun bs w _ => refsmall_calls a ha 8388609 (by omega) w) ?_
  refine next_of 1000 ?_
  simp (maxSteps := 4000000) (disch := omega) only [go_sem, Nat.reduceBEq, Nat.reduceAdd, Nat.reduceMul, Nat.reduceSub, Nat.reduceLT, Nat.reduceLeDiff, Int.reduceToNat, Int.reduceLT, Int.reduceLE, Int.reduceAdd, Int.reduceMul, Int.reduceSub, Int.reduceNeg, Int.reduceDiv, Int.reduceMod, Nat.reduceBNe, Nat.reduceGT, Int.reduceBEq, Int.reduceBNe, Int.reduceGT, Nat.reduceDiv, Nat.reduceMod, Nat.reducePow, gt_iff_lt, ge_iff_le, List.reduceReplicate]
  repeat (with_reducible refine And.intro (by first | omega | (simp; done) | (simp [*]; done)) ?_)
  intro bs; simp [real]
theorem positive_calls (a b : Int) (ha : 0 ≤ a ∧ a < 18446744073709551616) (hb : 0 ≤ b ∧ b < 18446744073709551616) (w : World) : Calls Tryd.prog 65 #[.int .u64 a, .int .u64 b] w (Ret (.int .u64 (if a < b then 0 else a - b)) w) := by
  refine pure_calls [.int .u64 a, .int .u64 b] Tryd.func65 rfl in65 (by simp [Tryd.f65]) (by simp [closeds, closed]) ?_
  refine next_of 1000 ?_
  simp (maxSteps := 4000000) (disch := omega) only [go_sem, Nat.reduceBEq, Nat.reduceAdd, Nat.reduceMul, Nat.reduceSub, Nat.reduceLT, Nat.reduceLeDiff, Int.reduceToNat, Int.reduceLT, Int.reduceLE, Int.reduceAdd, Int.reduceMul, Int.reduceSub, Int.reduceNeg, Int.reduceDiv, Int.reduceMod, Nat.reduceBNe, Nat.reduceGT, Int.reduceBEq, Int.reduceBNe, Int.reduceGT, Nat.reduceDiv, Nat.reduceMod, Nat.reducePow, gt_iff_lt, ge_iff_le, List.reduceReplicate, Tryd.f65]
  repeat (with_reducible refine And.intro (by first | omega | (simp; done) | (simp [*]; done)) ?_)
  repeat' (first
    | with_reducible refine And.intro (by first | omega | (simp; done) | (simp [*]; done)) ?_
    | simp (maxSteps := 4000000) (disch := omega) only [go_sem, Nat.reduceBEq, Nat.reduceAdd, Nat.reduceMul, Nat.reduceSub, Nat.reduceLT, Nat.reduceLeDiff, Int.reduceToNat, Int.reduceLT, Int.reduceLE, Int.reduceAdd, Int.reduceMul, Int.reduceSub, Int.reduceNeg, Int.reduceDiv, Int.reduceMod, Nat.reduceBNe, Nat.reduceGT, Int.reduceBEq, Int.reduceBNe, Int.reduceGT, Nat.reduceDiv, Nat.reduceMod, Nat.reducePow, gt_iff_lt, ge_iff_le, List.reduceReplicate]
    | (refine condS_split (fun h => ?_) (fun h => ?_) <;> (try simp only [bne_iff_ne, ne_eq, beq_iff_eq, decide_eq_true_eq, decide_eq_false_iff_not, Bool.not_eq_true, Bool.not_eq_false, Bool.not_true, Bool.not_false, bne_eq_false_iff_eq, beq_eq_false_iff_ne, Bool.and_eq_true, Bool.or_eq_true, Bool.and_eq_false_imp, Bool.or_eq_false_iff, Bool.not_eq_true', Bool.not_eq_false', Int.not_lt, Int.not_le] at h) <;> (try (exfalso; omega)))
    | (refine testS_split (fun h => ?_) (fun h => ?_) <;> (try simp only [bne_iff_ne, ne_eq, beq_iff_eq, decide_eq_true_eq, decide_eq_false_iff_not, Bool.not_eq_true, Bool.not_eq_false, Bool.not_true, Bool.not_false, bne_eq_false_iff_eq, beq_eq_false_iff_ne, Bool.and_eq_true, Bool.or_eq_true, Bool.and_eq_false_imp, Bool.or_eq_false_iff, Bool.not_eq_true', Bool.not_eq_false', Int.not_lt, Int.not_le] at h) <;> (try (exfalso; omega))))
  all_goals (refine int_eq ?_; split <;> omega)
theorem refgrow_calls (s : Int) (a l : Nat → Int) (hs : 0 ≤ s ∧ s < 18446744073709551616) (ha : wIn a) (hl : wIn l) (w : World) : Calls Tryd.prog 17 #[.int .u64 s, wV a, wV l] w (Ret (growV s (wn a) (wn l)) w) := by
  have hA := wn_nn a ha
  have hL := wn_nn l hl
  have b1 : 0 ≤ smI (wn a) ∧ smI (wn a) ≤ 8388609 := by unfold smI; split <;> omega
  have b2 : 0 ≤ smI (wn l) ∧ smI (wn l) ≤ 8388609 := by unfold smI; split <;> omega
  have b3 : smI (wn a) + smI (wn l) ≤ 8388608 → smI (wn a) + smI (wn l) = wn a + wn l := by unfold smI; split <;> split <;> omega
  have b4 : 8388608 < smI (wn a) + smI (wn l) → 8388608 < wn a + wn l := by unfold smI; split <;> split <;> omega
  refine pure_calls [.int .u64 s, .agg [.int .u64 (a 0), .int .u64 (a 1), .int .u64 (a 2), .int .u64 (a 3)], .agg [.int .u64 (l 0), .int .u64 (l 1), .int .u64 (l 2), .int .u64 (l 3)]] Tryd.func17 rfl in17 (by simp [Tryd.f17]) (by simp [closeds, closed]) ?_
  refine next_of 1000 ?_
  simp (maxSteps := 4000000) (disch := omega) only [go_sem, Nat.reduceBEq, Nat.reduceAdd, Nat.reduceMul, Nat.reduceSub, Nat.reduceLT, Nat.reduceLeDiff, Int.reduceToNat, Int.reduceLT, Int.reduceLE, Int.reduceAdd, Int.reduceMul, Int.reduceSub, Int.reduceNeg, Int.reduceDiv, Int.reduceMod, Nat.reduceBNe, Nat.reduceGT, Int.reduceBEq, Int.reduceBNe, Int.reduceGT, Nat.reduceDiv, Nat.reduceMod, Nat.reducePow, gt_iff_lt, ge_iff_le, List.reduceReplicate, Tryd.f17]
  repeat (with_reducible refine And.intro (by first | omega | (simp; done) | (simp [*]; done)) ?_)
  refine callS_pure (.bool (decide (wn l = 0))) en63 (by simp [closed]) (fun bs w _ => refzero_calls l hl w) ?_
  refine next_of 1000 ?_
  simp (maxSteps := 4000000) (disch := omega) only [go_sem, Nat.reduceBEq, Nat.reduceAdd, Nat.reduceMul, Nat.reduceSub, Nat.reduceLT, Nat.reduceLeDiff, Int.reduceToNat, Int.reduceLT, Int.reduceLE, Int.reduceAdd, Int.reduceMul, Int.reduceSub, Int.reduceNeg, Int.reduceDiv, Int.reduceMod, Nat.reduceBNe, Nat.reduceGT, Int.reduceBEq, Int.reduceBNe, Int.reduceGT, Nat.reduceDiv, Nat.reduceMod, Nat.reducePow, gt_iff_lt, ge_iff_le, List.reduceReplicate]
  repeat (with_reducible refine And.intro (by first | omega | (simp; done) | (simp [*]; done)) ?_)
  refine condS_split (fun h => ?_) (fun h => ?_)
  all_goals simp only [bne_iff_ne, ne_eq, beq_iff_eq, decide_eq_true_eq, decide_eq_false_iff_not, Bool.not_eq_true, Bool.not_eq_false, Bool.not_true, Bool.not_false, bne_eq_false_iff_eq, beq_eq_false_iff_ne, Bool.and_eq_true, Bool.or_eq_true, Bool.and_eq_false_imp, Bool.or_eq_false_iff, Bool.not_eq_true', Bool.not_eq_false', Int.not_lt, Int.not_le] at h
  · simp (maxSteps := 4000000) (disch := omega) only [go_sem, Nat.reduceBEq, Nat.reduceAdd, Nat.reduceMul, Nat.reduceSub, Nat.reduceLT, Nat.reduceLeDiff, Int.reduceToNat, Int.reduceLT, Int.reduceLE, Int.reduceAdd, Int.reduceMul, Int.reduceSub, Int.reduceNeg, Int.reduceDiv, Int.reduceMod, Nat.reduceBNe, Nat.reduceGT, Int.reduceBEq, Int.reduceBNe, Int.reduceGT, Nat.reduceDiv, Nat.reduceMod, Nat.reducePow, gt_iff_lt, ge_iff_le, List.reduceReplicate]
    repeat (with_reducible refine And.intro (by first | omega | (simp; done) | (simp [*]; done)) ?_)
    intro bs; simp [real, reals, growV, growI, h]
  · simp (maxSteps := 4000000) (disch := omega) only [go_sem, Nat.reduceBEq, Nat.reduceAdd, Nat.reduceMul, Nat.reduceSub, Nat.reduceLT, Nat.reduceLeDiff, Int.reduceToNat, Int.reduceLT, Int.reduceLE, Int.reduceAdd, Int.reduceMul, Int.reduceSub, Int.reduceNeg, Int.reduceDiv, Int.reduceMod, Nat.reduceBNe, Nat.reduceGT, Int.reduceBEq, Int.reduceBNe, Int.reduceGT, Nat.reduceDiv, Nat.reduceMod, Nat.reducePow, gt_iff_lt, ge_iff_le, List.reduceReplicate]
    repeat (with_reducible refine And.intro (by first | omega | (simp; done) | (simp [*]; done)) ?_)
    refine drawS_of mixed (by kernel_rfl) (dg_of 1000 ?_)
    simp (maxSteps := 4000000) (disch := omega) only [go_sem, Nat.reduceBEq, Nat.reduceAdd, Nat.reduceMul, Nat.reduceSub, Nat.reduceLT, Nat.reduceLeDiff, Int.reduceToNat, Int.reduceLT, Int.reduceLE, Int.reduceAdd, Int.reduceMul, Int.reduceSub, Int.reduceNeg, Int.reduceDiv, Int.reduceMod, Nat.reduceBNe, Nat.reduceGT, Int.reduceBEq, Int.reduceBNe, Int.reduceGT, Nat.reduceDiv, Nat.reduceMod, Nat.reducePow, gt_iff_lt, ge_iff_le, List.reduceReplicate]
    repeat (with_reducible refine And.intro (by first | omega | (simp; done) | (simp [*]; done)) ?_)
    refine callD_pure (.int .u64 (smI (wn a))) [] en64 (by simp [closed]) (fun y bs w _ _ _ => sml_calls a ha w) (dg_of 1000 ?_)
    simp (maxSteps := 4000000) (disch := omega) only [go_sem, Nat.reduceBEq, Nat.reduceAdd, Nat.reduceMul, Nat.reduceSub, Nat.reduceLT, Nat.reduceLeDiff, Int.reduceToNat, Int.reduceLT, Int.reduceLE, Int.reduceAdd, Int.reduceMul, Int.reduceSub, Int.reduceNeg, Int.reduceDiv, Int.reduceMod, Nat.reduceBNe, Nat.reduceGT, Int.reduceBEq, Int.reduceBNe, Int.reduceGT, Nat.reduceDiv, Nat.reduceMod, Nat.reducePow, gt_iff_lt, ge_iff_le, List.reduceReplicate]
    repeat (with_reducible refine And.intro (by first | omega | (simp; done) | (simp [*]; done)) ?_)
    refine callD_pure (.int .u64 (smI (wn l))) [] en64 (by simp [closed]) (fun y bs w _ _ _ => sml_calls l hl w) (dg_of 1000 ?_)
    simp (maxSteps := 4000000) (disch := omega) only [go_sem, Nat.reduceBEq, Nat.reduceAdd, Nat.reduceMul, Nat.reduceSub, Nat.reduceLT, Nat.reduceLeDiff, Int.reduceToNat, Int.reduceLT, Int.reduceLE, Int.reduceAdd, Int.reduceMul, Int.reduceSub, Int.reduceNeg, Int.reduceDiv, Int.reduceMod, Nat.reduceBNe, Nat.reduceGT, Int.reduceBEq, Int.reduceBNe, Int.reduceGT, Nat.reduceDiv, Nat.reduceMod, Nat.reducePow, gt_iff_lt, ge_iff_le, List.reduceReplicate]
    repeat (with_reducible refine And.intro (by first | omega | (simp; done) | (simp [*]; done)) ?_)
    refine endD_of (by kernel_rfl) (next_of 1000 ?_)
    generalize he : smI (wn a) + smI (wn l) = t at b3 b4
    have ht : 0 ≤ t ∧ t ≤ 16777218 := by omega
    simp (maxSteps := 4000000) (disch := omega) only [go_sem, Nat.reduceBEq, Nat.reduceAdd, Nat.reduceMul, Nat.reduceSub, Nat.reduceLT, Nat.reduceLeDiff, Int.reduceToNat, Int.reduceLT, Int.reduceLE, Int.reduceAdd, Int.reduceMul, Int.reduceSub, Int.reduceNeg, Int.reduceDiv, Int.reduceMod, Nat.reduceBNe, Nat.reduceGT, Int.reduceBEq, Int.reduceBNe, Int.reduceGT, Nat.reduceDiv, Nat.reduceMod, Nat.reducePow, gt_iff_lt, ge_iff_le, List.reduceReplicate, he]
    repeat (with_reducible refine And.intro (by first | omega | (simp; done) | (simp [*]; done)) ?_)
    refine testS_split (fun h1 => ?_) (fun h1 => ?_)
    all_goals simp only [bne_iff_ne, ne_eq, beq_iff_eq, decide_eq_true_eq, decide_eq_false_iff_not, Bool.not_eq_true, Bool.not_eq_false, Bool.not_true, Bool.not_false, bne_eq_false_iff_eq, beq_eq_false_iff_ne, Bool.and_eq_true, Bool.or_eq_true, Bool.and_eq_false_imp, Bool.or_eq_false_iff, Bool.not_eq_true', Bool.not_eq_false', Int.not_lt, Int.not_le] at h1
    · simp (maxSteps := 4000000) (disch := omega) only [go_sem, Nat.reduceBEq, Nat.reduceAdd, Nat.reduceMul, Nat.reduceSub, Nat.reduceLT, Nat.reduceLeDiff, Int.reduceToNat, Int.reduceLT, Int.reduceLE, Int.reduceAdd, Int.reduceMul, Int.reduceSub, Int.reduceNeg, Int.reduceDiv, Int.reduceMod, Nat.reduceBNe, Nat.reduceGT, Int.reduceBEq, Int.reduceBNe, Int.reduceGT, Nat.reduceDiv, Nat.reduceMod, Nat.reducePow, gt_iff_lt, ge_iff_le, List.reduceReplicate, he]
      repeat (with_reducible refine And.intro (by first | omega | (simp; done) | (simp [*]; done)) ?_)
      refine condS_split (fun h2 => ?_) (fun h2 => ?_)
      all_goals simp only [bne_iff_ne, ne_eq, beq_iff_eq, decide_eq_true_eq, decide_eq_false_iff_not, Bool.not_eq_true, Bool.not_eq_false, Bool.not_true, Bool.not_false, bne_eq_false_iff_eq, beq_eq_false_iff_ne, Bool.and_eq_true, Bool.or_eq_true, Bool.and_eq_false_imp, Bool.or_eq_false_iff, Bool.not_eq_true', Bool.not_eq_false', Int.not_lt, Int.not_le] at h2
      · simp (maxSteps := 4000000) (disch := omega) only [go_sem, Nat.reduceBEq, Nat.reduceAdd, Nat.reduceMul, Nat.reduceSub, Nat.reduceLT, Nat.reduceLeDiff, Int.reduceToNat, Int.reduceLT, Int.reduceLE, Int.reduceAdd, Int.reduceMul, Int.reduceSub, Int.reduceNeg, Int.reduceDiv, Int.reduceMod, Nat.reduceBNe, Nat.reduceGT, Int.reduceBEq, Int.reduceBNe, Int.reduceGT, Nat.reduceDiv, Nat.reduceMod, Nat.reducePow, gt_iff_lt, ge_iff_le, List.reduceReplicate]
        repeat (with_reducible refine And.intro (by first | omega | (simp; done) | (simp [*]; done)) ?_)
        intro bs; simp [real, reals, growV, growI, h, h2]
      · have e := b3 h1
        have hw := words_le t h1 ht.1
        simp (maxSteps := 4000000) (disch := omega) only [go_sem, Nat.reduceBEq, Nat.reduceAdd, Nat.reduceMul, Nat.reduceSub, Nat.reduceLT, Nat.reduceLeDiff, Int.reduceToNat, Int.reduceLT, Int.reduceLE, Int.reduceAdd, Int.reduceMul, Int.reduceSub, Int.reduceNeg, Int.reduceDiv, Int.reduceMod, Nat.reduceBNe, Nat.reduceGT, Int.reduceBEq, Int.reduceBNe, Int.reduceGT, Nat.reduceDiv, Nat.reduceMod, Nat.reducePow, gt_iff_lt, ge_iff_le, List.reduceReplicate, he]
        repeat (with_reducible refine And.intro (by first | omega | (simp; done) | (simp [*]; done)) ?_)
        refine callS_pure (.int .u64 (words t)) en19 (by simp [closed]) (fun bs w _ => refwords_calls t (by omega) (by omega) w) ?_
        refine next_of 1000 ?_
        simp (maxSteps := 4000000) (disch := omega) only [go_sem, Nat.reduceBEq, Nat.reduceAdd, Nat.reduceMul, Nat.reduceSub, Nat.reduceLT, Nat.reduceLeDiff, Int.reduceToNat, Int.reduceLT, Int.reduceLE, Int.reduceAdd, Int.reduceMul, Int.reduceSub, Int.reduceNeg, Int.reduceDiv, Int.reduceMod, Nat.reduceBNe, Nat.reduceGT, Int.reduceBEq, Int.reduceBNe, Int.reduceGT, Nat.reduceDiv, Nat.reduceMod, Nat.reducePow, gt_iff_lt, ge_iff_le, List.reduceReplicate]
        repeat (with_reducible refine And.intro (by first | omega | (simp; done) | (simp [*]; done)) ?_)
        refine condS_split (fun h3 => ?_) (fun h3 => ?_)
        all_goals simp only [bne_iff_ne, ne_eq, beq_iff_eq, decide_eq_true_eq, decide_eq_false_iff_not, Bool.not_eq_true, Bool.not_eq_false, Bool.not_true, Bool.not_false, bne_eq_false_iff_eq, beq_eq_false_iff_ne, Bool.and_eq_true, Bool.or_eq_true, Bool.and_eq_false_imp, Bool.or_eq_false_iff, Bool.not_eq_true', Bool.not_eq_false', Int.not_lt, Int.not_le] at h3
        · simp (maxSteps := 4000000) (disch := omega) only [go_sem, Nat.reduceBEq, Nat.reduceAdd, Nat.reduceMul, Nat.reduceSub, Nat.reduceLT, Nat.reduceLeDiff, Int.reduceToNat, Int.reduceLT, Int.reduceLE, Int.reduceAdd, Int.reduceMul, Int.reduceSub, Int.reduceNeg, Int.reduceDiv, Int.reduceMod, Nat.reduceBNe, Nat.reduceGT, Int.reduceBEq, Int.reduceBNe, Int.reduceGT, Nat.reduceDiv, Nat.reduceMod, Nat.reducePow, gt_iff_lt, ge_iff_le, List.reduceReplicate]
          repeat (with_reducible refine And.intro (by first | omega | (simp; done) | (simp [*]; done)) ?_)
          intro bs; simp [real, reals, growV, growI, h, ← e, show ¬ (8388608 < t ∨ 8388608 < s) by omega, h3]
        · have hm := memGas_mono hs.1 (Int.le_of_lt h3) (by omega)
          have hm0 := memGas_mono (a := 32 * words t) (b := 32 * words t) (by omega) (Int.le_refl _) (by omega)
          simp (maxSteps := 4000000) (disch := omega) only [go_sem, Nat.reduceBEq, Nat.reduceAdd, Nat.reduceMul, Nat.reduceSub, Nat.reduceLT, Nat.reduceLeDiff, Int.reduceToNat, Int.reduceLT, Int.reduceLE, Int.reduceAdd, Int.reduceMul, Int.reduceSub, Int.reduceNeg, Int.reduceDiv, Int.reduceMod, Nat.reduceBNe, Nat.reduceGT, Int.reduceBEq, Int.reduceBNe, Int.reduceGT, Nat.reduceDiv, Nat.reduceMod, Nat.reducePow, gt_iff_lt, ge_iff_le, List.reduceReplicate, he]
          repeat (with_reducible refine And.intro (by first | omega | (simp; done) | (simp [*]; done)) ?_)
          refine callS_pure (.int .u64 (words t)) en19 (by simp [closed]) (fun bs w _ => refwords_calls t (by omega) (by omega) w) ?_
          refine next_of 1000 ?_
          simp (maxSteps := 4000000) (disch := omega) only [go_sem, Nat.reduceBEq, Nat.reduceAdd, Nat.reduceMul, Nat.reduceSub, Nat.reduceLT, Nat.reduceLeDiff, Int.reduceToNat, Int.reduceLT, Int.reduceLE, Int.reduceAdd, Int.reduceMul, Int.reduceSub, Int.reduceNeg, Int.reduceDiv, Int.reduceMod, Nat.reduceBNe, Nat.reduceGT, Int.reduceBEq, Int.reduceBNe, Int.reduceGT, Nat.reduceDiv, Nat.reduceMod, Nat.reducePow, gt_iff_lt, ge_iff_le, List.reduceReplicate, he]
          repeat (with_reducible refine And.intro (by first | omega | (simp; done) | (simp [*]; done)) ?_)
          refine callS_pure (.int .u64 (words t)) en19 (by simp [closed]) (fun bs w _ => refwords_calls t (by omega) (by omega) w) ?_
          refine next_of 1000 ?_
          simp (maxSteps := 4000000) (disch := omega) only [go_sem, Nat.reduceBEq, Nat.reduceAdd, Nat.reduceMul, Nat.reduceSub, Nat.reduceLT, Nat.reduceLeDiff, Int.reduceToNat, Int.reduceLT, Int.reduceLE, Int.reduceAdd, Int.reduceMul, Int.reduceSub, Int.reduceNeg, Int.reduceDiv, Int.reduceMod, Nat.reduceBNe, Nat.reduceGT, Int.reduceBEq, Int.reduceBNe, Int.reduceGT, Nat.reduceDiv, Nat.reduceMod, Nat.reducePow, gt_iff_lt, ge_iff_le, List.reduceReplicate]
          repeat (with_reducible refine And.intro (by first | omega | (simp; done) | (simp [*]; done)) ?_)
          refine callS_pure (.int .u64 (memGas (32 * words t))) en21 (by simp [closed]) (fun bs w _ => refmemory_calls _ (by omega) (by omega) w) ?_
          refine next_of 1000 ?_
          simp (maxSteps := 4000000) (disch := omega) only [go_sem, Nat.reduceBEq, Nat.reduceAdd, Nat.reduceMul, Nat.reduceSub, Nat.reduceLT, Nat.reduceLeDiff, Int.reduceToNat, Int.reduceLT, Int.reduceLE, Int.reduceAdd, Int.reduceMul, Int.reduceSub, Int.reduceNeg, Int.reduceDiv, Int.reduceMod, Nat.reduceBNe, Nat.reduceGT, Int.reduceBEq, Int.reduceBNe, Int.reduceGT, Nat.reduceDiv, Nat.reduceMod, Nat.reducePow, gt_iff_lt, ge_iff_le, List.reduceReplicate]
          repeat (with_reducible refine And.intro (by first | omega | (simp; done) | (simp [*]; done)) ?_)
          refine callS_pure (.int .u64 (memGas s)) en21 (by simp [closed]) (fun bs w _ => refmemory_calls _ (by omega) (by omega) w) ?_
          refine next_of 1000 ?_
          simp (maxSteps := 4000000) (disch := omega) only [go_sem, Nat.reduceBEq, Nat.reduceAdd, Nat.reduceMul, Nat.reduceSub, Nat.reduceLT, Nat.reduceLeDiff, Int.reduceToNat, Int.reduceLT, Int.reduceLE, Int.reduceAdd, Int.reduceMul, Int.reduceSub, Int.reduceNeg, Int.reduceDiv, Int.reduceMod, Nat.reduceBNe, Nat.reduceGT, Int.reduceBEq, Int.reduceBNe, Int.reduceGT, Nat.reduceDiv, Nat.reduceMod, Nat.reducePow, gt_iff_lt, ge_iff_le, List.reduceReplicate]
          repeat (with_reducible refine And.intro (by first | omega | (simp; done) | (simp [*]; done)) ?_)
          refine callS_pure (.int .u64 (if memGas (32 * words t) < memGas s then 0 else memGas (32 * words t) - memGas s)) en65 (by simp [closed]) (fun bs w _ => positive_calls _ _ (by omega) (by omega) w) ?_
          refine next_of 1000 ?_
          simp (maxSteps := 4000000) (disch := omega) only [go_sem, Nat.reduceBEq, Nat.reduceAdd, Nat.reduceMul, Nat.reduceSub, Nat.reduceLT, Nat.reduceLeDiff, Int.reduceToNat, Int.reduceLT, Int.reduceLE, Int.reduceAdd, Int.reduceMul, Int.reduceSub, Int.reduceNeg, Int.reduceDiv, Int.reduceMod, Nat.reduceBNe, Nat.reduceGT, Int.reduceBEq, Int.reduceBNe, Int.reduceGT, Nat.reduceDiv, Nat.reduceMod, Nat.reducePow, gt_iff_lt, ge_iff_le, List.reduceReplicate]
          repeat (with_reducible refine And.intro (by first | omega | (simp; done) | (simp [*]; done)) ?_)
          intro bs; simp [real, reals, growV, growI, h, ← e, show ¬ (8388608 < t ∨ 8388608 < s) by omega, show ¬ 32 * words t ≤ s by omega, show ¬ memGas (32 * words t) < memGas s by omega]
    · simp (maxSteps := 4000000) (disch := omega) only [go_sem, Nat.reduceBEq, Nat.reduceAdd, Nat.reduceMul, Nat.reduceSub, Nat.reduceLT, Nat.reduceLeDiff, Int.reduceToNat, Int.reduceLT, Int.reduceLE, Int.reduceAdd, Int.reduceMul, Int.reduceSub, Int.reduceNeg, Int.reduceDiv, Int.reduceMod, Nat.reduceBNe, Nat.reduceGT, Int.reduceBEq, Int.reduceBNe, Int.reduceGT, Nat.reduceDiv, Nat.reduceMod, Nat.reducePow, gt_iff_lt, ge_iff_le, List.reduceReplicate]
      repeat (with_reducible refine And.intro (by first | omega | (simp; done) | (simp [*]; done)) ?_)
      intro bs; simp [real, reals, growV, growI, h, b4 h1]
theorem law_memory (n : Int) (hn : 0 ≤ n ∧ n < 18446744073709551616) (s : Int) (hs : 0 ≤ s ∧ s < 18446744073709551616) (a : Nat → Int) (ha : wIn a) (l : Nat → Int) (hl : wIn l) (w : World) :
    Calls Tryd.prog 4 #[.int .u64 n, .int .u64 s, wV a, wV l] w (Ret (.bool true) w) := by
  obtain ⟨b, c, d, he⟩ : ∃ b c d : Int, growV s (wn a) (wn l) = .tuple #[.int .u64 b, .int .u64 c, .int .i64 d] := ⟨_, _, _, rfl⟩
  have g1 := fun w => grow_calls s a l hs ha hl w
  have g2 := fun w => refgrow_calls s a l hs ha hl w
  rw [he] at g1 g2
  refine pure_calls [.int .u64 n, .int .u64 s, .agg [.int .u64 (a 0), .int .u64 (a 1), .int .u64 (a 2), .int .u64 (a 3)], .agg [.int .u64 (l 0), .int .u64 (l 1), .int .u64 (l 2), .int .u64 (l 3)]] Tryd.func4 rfl in4 (by simp [Tryd.f4]) (by simp [closeds, closed]) ?_
  refine next_of 1000 ?_
  simp (maxSteps := 4000000) (disch := omega) only [go_sem, Nat.reduceBEq, Nat.reduceAdd, Nat.reduceMul, Nat.reduceSub, Nat.reduceLT, Nat.reduceLeDiff, Int.reduceToNat, Int.reduceLT, Int.reduceLE, Int.reduceAdd, Int.reduceMul, Int.reduceSub, Int.reduceNeg, Int.reduceDiv, Int.reduceMod, Nat.reduceBNe, Nat.reduceGT, Int.reduceBEq, Int.reduceBNe, Int.reduceGT, Nat.reduceDiv, Nat.reduceMod, Nat.reducePow, gt_iff_lt, ge_iff_le, List.reduceReplicate, Tryd.f4]
  repeat (with_reducible refine And.intro (by first | omega | (simp; done) | (simp [*]; done)) ?_)
  refine callS_pure (.tup [.int .u64 b, .int .u64 c, .int .i64 d]) en16 (by simp [closed, closeds]) (fun bs w _ => g1 w) ?_
  refine next_of 1000 ?_
  simp (maxSteps := 4000000) (disch := omega) only [go_sem, Nat.reduceBEq, Nat.reduceAdd, Nat.reduceMul, Nat.reduceSub, Nat.reduceLT, Nat.reduceLeDiff, Int.reduceToNat, Int.reduceLT, Int.reduceLE, Int.reduceAdd, Int.reduceMul, Int.reduceSub, Int.reduceNeg, Int.reduceDiv, Int.reduceMod, Nat.reduceBNe, Nat.reduceGT, Int.reduceBEq, Int.reduceBNe, Int.reduceGT, Nat.reduceDiv, Nat.reduceMod, Nat.reducePow, gt_iff_lt, ge_iff_le, List.reduceReplicate]
  repeat (with_reducible refine And.intro (by first | omega | (simp; done) | (simp [*]; done)) ?_)
  refine callS_pure (.tup [.int .u64 b, .int .u64 c, .int .i64 d]) en17 (by simp [closed, closeds]) (fun bs w _ => g2 w) ?_
  refine next_of 1000 ?_
  simp (maxSteps := 4000000) (disch := omega) only [go_sem, Nat.reduceBEq, Nat.reduceAdd, Nat.reduceMul, Nat.reduceSub, Nat.reduceLT, Nat.reduceLeDiff, Int.reduceToNat, Int.reduceLT, Int.reduceLE, Int.reduceAdd, Int.reduceMul, Int.reduceSub, Int.reduceNeg, Int.reduceDiv, Int.reduceMod, Nat.reduceBNe, Nat.reduceGT, Int.reduceBEq, Int.reduceBNe, Int.reduceGT, Nat.reduceDiv, Nat.reduceMod, Nat.reducePow, gt_iff_lt, ge_iff_le, List.reduceReplicate]
  repeat (with_reducible refine And.intro (by first | omega | (simp; done) | (simp [*]; done)) ?_)
  refine callS_pure (.int .u64 (words n)) en18 (by simp [closed]) (fun bs w _ => words_calls n hn.1 hn.2 w) ?_
  refine next_of 1000 ?_
  simp (maxSteps := 4000000) (disch := omega) only [go_sem, Nat.reduceBEq, Nat.reduceAdd, Nat.reduceMul, Nat.reduceSub, Nat.reduceLT, Nat.reduceLeDiff, Int.reduceToNat, Int.reduceLT, Int.reduceLE, Int.reduceAdd, Int.reduceMul, Int.reduceSub, Int.reduceNeg, Int.reduceDiv, Int.reduceMod, Nat.reduceBNe, Nat.reduceGT, Int.reduceBEq, Int.reduceBNe, Int.reduceGT, Nat.reduceDiv, Nat.reduceMod, Nat.reducePow, gt_iff_lt, ge_iff_le, List.reduceReplicate]
  repeat (with_reducible refine And.intro (by first | omega | (simp; done) | (simp [*]; done)) ?_)
  refine callS_pure (.int .u64 (words n)) en19 (by simp [closed]) (fun bs w _ => refwords_calls n hn.1 hn.2 w) ?_
  refine next_of 1000 ?_
  simp (maxSteps := 4000000) (disch := omega) only [go_sem, Nat.reduceBEq, Nat.reduceAdd, Nat.reduceMul, Nat.reduceSub, Nat.reduceLT, Nat.reduceLeDiff, Int.reduceToNat, Int.reduceLT, Int.reduceLE, Int.reduceAdd, Int.reduceMul, Int.reduceSub, Int.reduceNeg, Int.reduceDiv, Int.reduceMod, Nat.reduceBNe, Nat.reduceGT, Int.reduceBEq, Int.reduceBNe, Int.reduceGT, Nat.reduceDiv, Nat.reduceMod, Nat.reducePow, gt_iff_lt, ge_iff_le, List.reduceReplicate]
  repeat (with_reducible refine And.intro (by first | omega | (simp; done) | (simp [*]; done)) ?_)
  refine callS_pure (.int .u64 (memGas n)) en20 (by simp [closed]) (fun bs w _ => memory_calls n hn.1 hn.2 w) ?_
  refine next_of 1000 ?_
  simp (maxSteps := 4000000) (disch := omega) only [go_sem, Nat.reduceBEq, Nat.reduceAdd, Nat.reduceMul, Nat.reduceSub, Nat.reduceLT, Nat.reduceLeDiff, Int.reduceToNat, Int.reduceLT, Int.reduceLE, Int.reduceAdd, Int.reduceMul, Int.reduceSub, Int.reduceNeg, Int.reduceDiv, Int.reduceMod, Nat.reduceBNe, Nat.reduceGT, Int.reduceBEq, Int.reduceBNe, Int.reduceGT, Nat.reduceDiv, Nat.reduceMod, Nat.reducePow, gt_iff_lt, ge_iff_le, List.reduceReplicate]
  repeat (with_reducible refine And.intro (by first | omega | (simp; done) | (simp [*]; done)) ?_)
  refine callS_pure (.int .u64 (memGas n)) en21 (by simp [closed]) (fun bs w _ => refmemory_calls n hn.1 hn.2 w) ?_
  refine next_of 1000 ?_
  simp (maxSteps := 4000000) (disch := omega) only [go_sem, Nat.reduceBEq, Nat.reduceAdd, Nat.reduceMul, Nat.reduceSub, Nat.reduceLT, Nat.reduceLeDiff, Int.reduceToNat, Int.reduceLT, Int.reduceLE, Int.reduceAdd, Int.reduceMul, Int.reduceSub, Int.reduceNeg, Int.reduceDiv, Int.reduceMod, Nat.reduceBNe, Nat.reduceGT, Int.reduceBEq, Int.reduceBNe, Int.reduceGT, Nat.reduceDiv, Nat.reduceMod, Nat.reducePow, gt_iff_lt, ge_iff_le, List.reduceReplicate]
  repeat (with_reducible refine And.intro (by first | omega | (simp; done) | (simp [*]; done)) ?_)
  refine callS_pure (.bool true) en15 (by simp [closed]) (fun bs w _ => awake_calls w) ?_
  refine next_of 1000 ?_
  simp (maxSteps := 4000000) (disch := omega) only [go_sem, Nat.reduceBEq, Nat.reduceAdd, Nat.reduceMul, Nat.reduceSub, Nat.reduceLT, Nat.reduceLeDiff, Int.reduceToNat, Int.reduceLT, Int.reduceLE, Int.reduceAdd, Int.reduceMul, Int.reduceSub, Int.reduceNeg, Int.reduceDiv, Int.reduceMod, Nat.reduceBNe, Nat.reduceGT, Int.reduceBEq, Int.reduceBNe, Int.reduceGT, Nat.reduceDiv, Nat.reduceMod, Nat.reducePow, gt_iff_lt, ge_iff_le, List.reduceReplicate]
  repeat (with_reducible refine And.intro (by first | omega | (simp; done) | (simp [*]; done)) ?_)
  intro bs; simp [real]
end Go.Proofs.YthknokcfmpahcaaDoor
