/- Part of a proof over the seat YtbilnedgpgpanaaDoor. -/
import Derived.Test.YtbilnedgpgpanaaDoorXM
import Derived.Test.YtbilnedgpgpanaaDoorXG
namespace Go.Proofs.YtbilnedgpgpanaaDoor
open Go RowKit Go.Ew
set_option maxRecDepth 100000
set_option linter.unusedSimpArgs false
set_option linter.unusedVariables false
set_option maxHeartbeats 1000000
theorem in19 : codeIn Tryd.f19.ntmps (Tryd.f19.body.getD .skip) = true := by kernel_rfl
theorem in3 : codeIn Tryd.f3.ntmps (Tryd.f3.body.getD .skip) = true := by kernel_rfl
theorem same_p (x : Nat) : Pure Tryd.prog 19 [wE x, wE x] (.bool true) := by
  refine pure_p (args := [wE x, wE x]) en19 (by simp [closed, closeds, closed_wE, closeds_ints]) Tryd.func19 rfl in19 (by simp [Tryd.f19]) (by simp [closeds, closed, closed_wE, closeds_ints]) (fun w => next_of 1000 ?_)
  simp (maxSteps := 4000000) (disch := omega) only [go_sem, Nat.reduceBEq, Nat.reduceAdd, Nat.reduceMul, Nat.reduceSub, Nat.reduceLT, Nat.reduceLeDiff, Int.reduceToNat, Int.reduceLT, Int.reduceLE, Int.reduceAdd, Int.reduceMul, Int.reduceSub, Int.reduceNeg, Int.reduceDiv, Int.reduceMod, Nat.reduceBNe, Nat.reduceGT, Int.reduceBEq, Int.reduceBNe, Int.reduceGT, Nat.reduceDiv, Nat.reduceMod, Nat.reducePow, Int.reducePow, gt_iff_lt, ge_iff_le, List.reduceReplicate, ↓reduceIte, Tryd.f19]
  repeat (with_reducible refine And.intro (by first | omega | assumption | (constructor <;> assumption) | (simp; done) | (simp; omega) | (simp [*]; done)) ?_)
  repeat' (first
    | with_reducible refine And.intro (by first | omega | assumption | (constructor <;> assumption) | (simp; done) | (simp; omega) | (simp [*]; done)) ?_
    | simp (maxSteps := 4000000) (disch := omega) only [go_sem, Nat.reduceBEq, Nat.reduceAdd, Nat.reduceMul, Nat.reduceSub, Nat.reduceLT, Nat.reduceLeDiff, Int.reduceToNat, Int.reduceLT, Int.reduceLE, Int.reduceAdd, Int.reduceMul, Int.reduceSub, Int.reduceNeg, Int.reduceDiv, Int.reduceMod, Nat.reduceBNe, Nat.reduceGT, Int.reduceBEq, Int.reduceBNe, Int.reduceGT, Nat.reduceDiv, Nat.reduceMod, Nat.reducePow, Int.reducePow, gt_iff_lt, ge_iff_le, List.reduceReplicate, ↓reduceIte]
    | with_reducible refine roundS (next_of 1000 ?_)
    | with_reducible refine drawS_of mixed (by kernel_rfl) (dg_of 1000 ?_)
    | with_reducible refine endD_of (by kernel_rfl) (next_of 1000 ?_)
    | with_reducible refine next_of 1000 ?_
    | (refine condS_split (fun h => ?_) (fun h => ?_) <;> (try simp only [bne_iff_ne, ne_eq, beq_iff_eq, decide_eq_true_eq, decide_eq_false_iff_not, Bool.not_eq_true, Bool.not_eq_false, Bool.not_true, Bool.not_false, bne_eq_false_iff_eq, beq_eq_false_iff_ne, Bool.and_eq_true, Bool.or_eq_true, Bool.and_eq_false_imp, Bool.or_eq_false_iff, Bool.not_eq_true', Bool.not_eq_false', Int.not_lt, Int.not_le] at h) <;> (try (exfalso; omega)))
    | (refine testS_split (fun h => ?_) (fun h => ?_) <;> (try simp only [bne_iff_ne, ne_eq, beq_iff_eq, decide_eq_true_eq, decide_eq_false_iff_not, Bool.not_eq_true, Bool.not_eq_false, Bool.not_true, Bool.not_false, bne_eq_false_iff_eq, beq_eq_false_iff_ne, Bool.and_eq_true, Bool.or_eq_true, Bool.and_eq_false_imp, Bool.or_eq_false_iff, Bool.not_eq_true', Bool.not_eq_false', Int.not_lt, Int.not_le] at h) <;> (try (exfalso; omega)))
    | (refine testD_split (fun h => ?_) (fun h => ?_) <;> (try simp only [bne_iff_ne, ne_eq, beq_iff_eq, decide_eq_true_eq, decide_eq_false_iff_not, Bool.not_eq_true, Bool.not_eq_false, Bool.not_true, Bool.not_false, bne_eq_false_iff_eq, beq_eq_false_iff_ne, Bool.and_eq_true, Bool.or_eq_true, Bool.and_eq_false_imp, Bool.or_eq_false_iff, Bool.not_eq_true', Bool.not_eq_false', Int.not_lt, Int.not_le] at h) <;> (try (exfalso; omega))))
theorem lim_low {m : Nat} (hm : m < 18446744073709551616) : wE m = lim (m : Nat) 0 0 0 := by
  simp only [wE, wC, EV.agg.injEq, List.cons.injEq, EV.int.injEq, true_and, and_true]
  refine ⟨?_, ?_, ?_, ?_⟩ <;> omega
theorem sums_p (x y n : Nat) (hx : x < 115792089237316195423570985008687907853269984665640564039457584007913129639936) (hy : y < 115792089237316195423570985008687907853269984665640564039457584007913129639936) (hn : n < 18446744073709551616) : Pure Tryd.prog 3 [wE x, wE y, .int .u64 (n : Nat)] (.bool true) := by
  have hnW : n < 115792089237316195423570985008687907853269984665640564039457584007913129639936 := by omega
  have c1 := carry_p x y hx hy
  have c2 := borrow_p x y hx hy
  have c3 := small_p x hx
  have c4 : Pure Tryd.prog 18 [wE x, lim 18446744073709551615 0 0 0] (.int .i64 (cmpI x 18446744073709551615)) := rcmp_p x 18446744073709551615 hx (by decide)
  have c5 := of_p n hn
  have c6 := rof_p n hn
  have c8 := add_p x y hx hy
  have c9 := radd_p x y hx hy
  have c10 := sub_p x y hx hy
  have c11 := rsub_p x y hx hy
  have c12 := mul_p x y hx hy
  have c13 := rmul_p x y hx hy
  have c14 := rcarries_p x y hx hy
  have c15 := rcmp_p x y hx hy
  have c16 := wide_p x y hx hy
  have c17 := rwide_p x y hx hy
  have h15 : (decide (cmpI x y < 0)) = decide (x < y) := by
    rw [decide_eq_decide]
    unfold cmpI
    by_cases h : x < y
    · rw [if_pos (by omega)]; omega
    · rw [if_neg (by omega)]; split <;> omega
  obtain ⟨j, hj⟩ : ∃ j, j = cmpI (x : Int) (y : Int) := ⟨_, rfl⟩
  rw [← hj] at c15 h15
  obtain ⟨s, hs⟩ : ∃ s, s = (x + y) % 115792089237316195423570985008687907853269984665640564039457584007913129639936 := ⟨_, rfl⟩
  obtain ⟨d, hd⟩ : ∃ d, d = (x + 115792089237316195423570985008687907853269984665640564039457584007913129639936 - y) % 115792089237316195423570985008687907853269984665640564039457584007913129639936 := ⟨_, rfl⟩
  obtain ⟨m, hm⟩ : ∃ m, m = x * y % 115792089237316195423570985008687907853269984665640564039457584007913129639936 := ⟨_, rfl⟩
  obtain ⟨p, hp⟩ : ∃ p, p = x * y := ⟨_, rfl⟩
  rw [← hs] at c1 c8 c9
  rw [← hd] at c2 c10 c11
  rw [← hm] at c12 c13
  rw [← hp] at c16 c17
  obtain ⟨b1, hb1⟩ : ∃ b, b = decide (115792089237316195423570985008687907853269984665640564039457584007913129639936 ≤ x + y) := ⟨_, rfl⟩
  rw [← hb1] at c1 c14
  obtain ⟨b2, hb2⟩ : ∃ b, b = decide (x < y) := ⟨_, rfl⟩
  rw [← hb2] at c2 h15
  clear hs hd hm hp hb1 hb2 hj
  have hI : ∀ e ∈ ints .u64 (dig 18446744073709551616 p) 8, EV.isInt .u64 e = true := by
    intro e he
    simp only [ints, List.mem_map] at he
    obtain ⟨i, _, rfl⟩ := he
    rfl
  by_cases hsm : x < 18446744073709551616
  · rw [if_pos hsm, show decide (x < 18446744073709551616) = true by simp [hsm]] at c3
    have hc : cmpI (x : Int) 18446744073709551615 ≤ 0 := by
      unfold cmpI
      by_cases h : (x : Int) < 18446744073709551615
      · rw [if_pos h]; omega
      · rw [if_neg h, if_neg (by omega)]; omega
    obtain ⟨k, hk⟩ : ∃ k, k = cmpI (x : Int) 18446744073709551615 := ⟨_, rfl⟩
    rw [← hk] at c4 hc
    have e0 := lim_low hsm
    clear hk
    have hck : decide (k ≤ 0) = true := by simp [hc]
    clear hc
    simp only [e0] at c1 c2 c3 c4 c8 c9 c10 c11 c12 c13 c14 c15 c16 c17 ⊢
    refine pure_p (args := [lim (x : Nat) 0 0 0, wE y, .int .u64 (n : Nat)]) en3 (by simp [closed, closeds, closed_wE, closeds_ints]) Tryd.func3 rfl in3 (by simp [Tryd.f3]) (by simp [closeds, closed, closed_wE, closeds_ints]) (fun w => next_of 1000 ?_)
    simp (maxSteps := 4000000) (disch := omega) only [go_sem, Nat.reduceBEq, Nat.reduceAdd, Nat.reduceMul, Nat.reduceSub, Nat.reduceLT, Nat.reduceLeDiff, Int.reduceToNat, Int.reduceLT, Int.reduceLE, Int.reduceAdd, Int.reduceMul, Int.reduceSub, Int.reduceNeg, Int.reduceDiv, Int.reduceMod, Nat.reduceBNe, Nat.reduceGT, Int.reduceBEq, Int.reduceBNe, Int.reduceGT, Nat.reduceDiv, Nat.reduceMod, Nat.reducePow, Int.reducePow, gt_iff_lt, ge_iff_le, List.reduceReplicate, ↓reduceIte, Tryd.f3]
    repeat (with_reducible refine And.intro (by first | omega | assumption | (constructor <;> assumption) | (simp; done) | (simp; omega) | (simp [*]; done)) ?_)
    repeat' (first
      | with_reducible refine And.intro (by first | omega | assumption | (constructor <;> assumption) | (simp; done) | (simp; omega) | (simp [*]; done)) ?_
      | simp (maxSteps := 4000000) (disch := omega) only [go_sem, Nat.reduceBEq, Nat.reduceAdd, Nat.reduceMul, Nat.reduceSub, Nat.reduceLT, Nat.reduceLeDiff, Int.reduceToNat, Int.reduceLT, Int.reduceLE, Int.reduceAdd, Int.reduceMul, Int.reduceSub, Int.reduceNeg, Int.reduceDiv, Int.reduceMod, Nat.reduceBNe, Nat.reduceGT, Int.reduceBEq, Int.reduceBNe, Int.reduceGT, Nat.reduceDiv, Nat.reduceMod, Nat.reducePow, Int.reducePow, gt_iff_lt, ge_iff_le, List.reduceReplicate, ↓reduceIte, h15, hck]
      | with_reducible refine roundS (next_of 1000 ?_)
      | with_reducible refine drawS_of mixed (by kernel_rfl) (dg_of 1000 ?_)
      | with_reducible refine endD_of (by kernel_rfl) (next_of 1000 ?_)
      | refine callS_p (c1) (next_of 1000 ?_)
      | refine callD_p (c1) (dg_of 1000 ?_)
      | refine callS_p (c2) (next_of 1000 ?_)
      | refine callD_p (c2) (dg_of 1000 ?_)
      | refine callS_p (c3) (next_of 1000 ?_)
      | refine callD_p (c3) (dg_of 1000 ?_)
      | refine callS_p (c4) (next_of 1000 ?_)
      | refine callD_p (c4) (dg_of 1000 ?_)
      | refine callS_p (c5) (next_of 1000 ?_)
      | refine callD_p (c5) (dg_of 1000 ?_)
      | refine callS_p (c6) (next_of 1000 ?_)
      | refine callD_p (c6) (dg_of 1000 ?_)
      | refine callS_p (same_p s) (next_of 1000 ?_)
      | refine callD_p (same_p s) (dg_of 1000 ?_)
      | refine callS_p (same_p d) (next_of 1000 ?_)
      | refine callD_p (same_p d) (dg_of 1000 ?_)
      | refine callS_p (same_p m) (next_of 1000 ?_)
      | refine callD_p (same_p m) (dg_of 1000 ?_)
      | refine callS_p (same_p n) (next_of 1000 ?_)
      | refine callD_p (same_p n) (dg_of 1000 ?_)
      | refine callS_p (c8) (next_of 1000 ?_)
      | refine callD_p (c8) (dg_of 1000 ?_)
      | refine callS_p (c9) (next_of 1000 ?_)
      | refine callD_p (c9) (dg_of 1000 ?_)
      | refine callS_p (c10) (next_of 1000 ?_)
      | refine callD_p (c10) (dg_of 1000 ?_)
      | refine callS_p (c11) (next_of 1000 ?_)
      | refine callD_p (c11) (dg_of 1000 ?_)
      | refine callS_p (c12) (next_of 1000 ?_)
      | refine callD_p (c12) (dg_of 1000 ?_)
      | refine callS_p (c13) (next_of 1000 ?_)
      | refine callD_p (c13) (dg_of 1000 ?_)
      | refine callS_p (c14) (next_of 1000 ?_)
      | refine callD_p (c14) (dg_of 1000 ?_)
      | refine callS_p (c15) (next_of 1000 ?_)
      | refine callD_p (c15) (dg_of 1000 ?_)
      | refine callS_p (c16) (next_of 1000 ?_)
      | refine callD_p (c16) (dg_of 1000 ?_)
      | refine callS_p (c17) (next_of 1000 ?_)
      | refine callD_p (c17) (dg_of 1000 ?_)
      | refine callS_p (awake_p) (next_of 1000 ?_)
      | refine callD_p (awake_p) (dg_of 1000 ?_)
      | with_reducible refine next_of 1000 ?_
      | (refine condS_split (fun h => ?_) (fun h => ?_) <;> (try simp only [bne_iff_ne, ne_eq, beq_iff_eq, decide_eq_true_eq, decide_eq_false_iff_not, Bool.not_eq_true, Bool.not_eq_false, Bool.not_true, Bool.not_false, bne_eq_false_iff_eq, beq_eq_false_iff_ne, Bool.and_eq_true, Bool.or_eq_true, Bool.and_eq_false_imp, Bool.or_eq_false_iff, Bool.not_eq_true', Bool.not_eq_false', Int.not_lt, Int.not_le] at h) <;> (try (exfalso; omega)))
      | (refine testS_split (fun h => ?_) (fun h => ?_) <;> (try simp only [bne_iff_ne, ne_eq, beq_iff_eq, decide_eq_true_eq, decide_eq_false_iff_not, Bool.not_eq_true, Bool.not_eq_false, Bool.not_true, Bool.not_false, bne_eq_false_iff_eq, beq_eq_false_iff_ne, Bool.and_eq_true, Bool.or_eq_true, Bool.and_eq_false_imp, Bool.or_eq_false_iff, Bool.not_eq_true', Bool.not_eq_false', Int.not_lt, Int.not_le] at h) <;> (try (exfalso; omega)))
      | (refine testD_split (fun h => ?_) (fun h => ?_) <;> (try simp only [bne_iff_ne, ne_eq, beq_iff_eq, decide_eq_true_eq, decide_eq_false_iff_not, Bool.not_eq_true, Bool.not_eq_false, Bool.not_true, Bool.not_false, bne_eq_false_iff_eq, beq_eq_false_iff_ne, Bool.and_eq_true, Bool.or_eq_true, Bool.and_eq_false_imp, Bool.or_eq_false_iff, Bool.not_eq_true', Bool.not_eq_false', Int.not_lt, Int.not_le] at h) <;> (try (exfalso; omega))))
  · rw [if_neg hsm, show decide (x < 18446744073709551616) = false by simp [hsm]] at c3
    rw [show cmpI (x : Int) 18446744073709551615 = 1 by unfold cmpI; rw [if_neg (by omega), if_pos (by omega)]] at c4
    refine pure_p (args := [wE x, wE y, .int .u64 (n : Nat)]) en3 (by simp [closed, closeds, closed_wE, closeds_ints]) Tryd.func3 rfl in3 (by simp [Tryd.f3]) (by simp [closeds, closed, closed_wE, closeds_ints]) (fun w => next_of 1000 ?_)
    simp (maxSteps := 4000000) (disch := omega) only [go_sem, Nat.reduceBEq, Nat.reduceAdd, Nat.reduceMul, Nat.reduceSub, Nat.reduceLT, Nat.reduceLeDiff, Int.reduceToNat, Int.reduceLT, Int.reduceLE, Int.reduceAdd, Int.reduceMul, Int.reduceSub, Int.reduceNeg, Int.reduceDiv, Int.reduceMod, Nat.reduceBNe, Nat.reduceGT, Int.reduceBEq, Int.reduceBNe, Int.reduceGT, Nat.reduceDiv, Nat.reduceMod, Nat.reducePow, Int.reducePow, gt_iff_lt, ge_iff_le, List.reduceReplicate, ↓reduceIte, Tryd.f3]
    repeat (with_reducible refine And.intro (by first | omega | assumption | (constructor <;> assumption) | (simp; done) | (simp; omega) | (simp [*]; done)) ?_)
    repeat' (first
      | with_reducible refine And.intro (by first | omega | assumption | (constructor <;> assumption) | (simp; done) | (simp; omega) | (simp [*]; done)) ?_
      | simp (maxSteps := 4000000) (disch := omega) only [go_sem, Nat.reduceBEq, Nat.reduceAdd, Nat.reduceMul, Nat.reduceSub, Nat.reduceLT, Nat.reduceLeDiff, Int.reduceToNat, Int.reduceLT, Int.reduceLE, Int.reduceAdd, Int.reduceMul, Int.reduceSub, Int.reduceNeg, Int.reduceDiv, Int.reduceMod, Nat.reduceBNe, Nat.reduceGT, Int.reduceBEq, Int.reduceBNe, Int.reduceGT, Nat.reduceDiv, Nat.reduceMod, Nat.reducePow, Int.reducePow, gt_iff_lt, ge_iff_le, List.reduceReplicate, ↓reduceIte, h15]
      | with_reducible refine roundS (next_of 1000 ?_)
      | with_reducible refine drawS_of mixed (by kernel_rfl) (dg_of 1000 ?_)
      | with_reducible refine endD_of (by kernel_rfl) (next_of 1000 ?_)
      | refine callS_p (c1) (next_of 1000 ?_)
      | refine callD_p (c1) (dg_of 1000 ?_)
      | refine callS_p (c2) (next_of 1000 ?_)
      | refine callD_p (c2) (dg_of 1000 ?_)
      | refine callS_p (c3) (next_of 1000 ?_)
      | refine callD_p (c3) (dg_of 1000 ?_)
      | refine callS_p (c4) (next_of 1000 ?_)
      | refine callD_p (c4) (dg_of 1000 ?_)
      | refine callS_p (c5) (next_of 1000 ?_)
      | refine callD_p (c5) (dg_of 1000 ?_)
      | refine callS_p (c6) (next_of 1000 ?_)
      | refine callD_p (c6) (dg_of 1000 ?_)
      | refine callS_p (same_p s) (next_of 1000 ?_)
      | refine callD_p (same_p s) (dg_of 1000 ?_)
      | refine callS_p (same_p d) (next_of 1000 ?_)
      | refine callD_p (same_p d) (dg_of 1000 ?_)
      | refine callS_p (same_p m) (next_of 1000 ?_)
      | refine callD_p (same_p m) (dg_of 1000 ?_)
      | refine callS_p (same_p n) (next_of 1000 ?_)
      | refine callD_p (same_p n) (dg_of 1000 ?_)
      | refine callS_p (c8) (next_of 1000 ?_)
      | refine callD_p (c8) (dg_of 1000 ?_)
      | refine callS_p (c9) (next_of 1000 ?_)
      | refine callD_p (c9) (dg_of 1000 ?_)
      | refine callS_p (c10) (next_of 1000 ?_)
      | refine callD_p (c10) (dg_of 1000 ?_)
      | refine callS_p (c11) (next_of 1000 ?_)
      | refine callD_p (c11) (dg_of 1000 ?_)
      | refine callS_p (c12) (next_of 1000 ?_)
      | refine callD_p (c12) (dg_of 1000 ?_)
      | refine callS_p (c13) (next_of 1000 ?_)
      | refine callD_p (c13) (dg_of 1000 ?_)
      | refine callS_p (c14) (next_of 1000 ?_)
      | refine callD_p (c14) (dg_of 1000 ?_)
      | refine callS_p (c15) (next_of 1000 ?_)
      | refine callD_p (c15) (dg_of 1000 ?_)
      | refine callS_p (c16) (next_of 1000 ?_)
      | refine callD_p (c16) (dg_of 1000 ?_)
      | refine callS_p (c17) (next_of 1000 ?_)
      | refine callD_p (c17) (dg_of 1000 ?_)
      | refine callS_p (awake_p) (next_of 1000 ?_)
      | refine callD_p (awake_p) (dg_of 1000 ?_)
      | with_reducible refine next_of 1000 ?_
      | (refine condS_split (fun h => ?_) (fun h => ?_) <;> (try simp only [bne_iff_ne, ne_eq, beq_iff_eq, decide_eq_true_eq, decide_eq_false_iff_not, Bool.not_eq_true, Bool.not_eq_false, Bool.not_true, Bool.not_false, bne_eq_false_iff_eq, beq_eq_false_iff_ne, Bool.and_eq_true, Bool.or_eq_true, Bool.and_eq_false_imp, Bool.or_eq_false_iff, Bool.not_eq_true', Bool.not_eq_false', Int.not_lt, Int.not_le] at h) <;> (try (exfalso; omega)))
      | (refine testS_split (fun h => ?_) (fun h => ?_) <;> (try simp only [bne_iff_ne, ne_eq, beq_iff_eq, decide_eq_true_eq, decide_eq_false_iff_not, Bool.not_eq_true, Bool.not_eq_false, Bool.not_true, Bool.not_false, bne_eq_false_iff_eq, beq_eq_false_iff_ne, Bool.and_eq_true, Bool.or_eq_true, Bool.and_eq_false_imp, Bool.or_eq_false_iff, Bool.not_eq_true', Bool.not_eq_false', Int.not_lt, Int.not_le] at h) <;> (try (exfalso; omega)))
      | (refine testD_split (fun h => ?_) (fun h => ?_) <;> (try simp only [bne_iff_ne, ne_eq, beq_iff_eq, decide_eq_true_eq, decide_eq_false_iff_not, Bool.not_eq_true, Bool.not_eq_false, Bool.not_true, Bool.not_false, bne_eq_false_iff_eq, beq_eq_false_iff_ne, Bool.and_eq_true, Bool.or_eq_true, Bool.and_eq_false_imp, Bool.or_eq_false_iff, Bool.not_eq_true', Bool.not_eq_false', Int.not_lt, Int.not_le] at h) <;> (try (exfalso; omega))))
end Go.Proofs.YtbilnedgpgpanaaDoor
