/- Part of a proof over the seat YtbilnedgpgpanaaDoor. -/
import Derived.Test.YtbilnedgpgpanaaDoorXG
namespace Go.Proofs.YtbilnedgpgpanaaDoor
open Go RowKit Go.Ew
set_option maxRecDepth 100000
set_option linter.unusedSimpArgs false
set_option linter.unusedVariables false
set_option maxHeartbeats 1000000
theorem in11 : codeIn Tryd.f11.ntmps (Tryd.f11.body.getD .skip) = true := by kernel_rfl
theorem modulo_p (x y n : Nat) (hx : x < 115792089237316195423570985008687907853269984665640564039457584007913129639936) (hy : y < 115792089237316195423570985008687907853269984665640564039457584007913129639936) (hn : n < 115792089237316195423570985008687907853269984665640564039457584007913129639936) : Pure Tryd.prog 11 [wE x, wE y, wE n] (.bool true) := by
  have c1 := mulmod_p x y n hx hy hn
  have c2 := addmod_p x y n hx hy hn
  by_cases hn0 : n = 0
  · subst hn0
    rw [if_pos rfl] at c1 c2
    refine pure_p (args := [wE x, wE y, wE 0]) en11 (by simp [closed, closeds, closed_wE, closeds_ints]) Tryd.func11 rfl in11 (by simp [Tryd.f11]) (by simp [closeds, closed, closed_wE, closeds_ints]) (fun w => next_of 1000 ?_)
    simp (maxSteps := 4000000) (disch := omega) only [go_sem, Nat.reduceBEq, Nat.reduceAdd, Nat.reduceMul, Nat.reduceSub, Nat.reduceLT, Nat.reduceLeDiff, Int.reduceToNat, Int.reduceLT, Int.reduceLE, Int.reduceAdd, Int.reduceMul, Int.reduceSub, Int.reduceNeg, Int.reduceDiv, Int.reduceMod, Nat.reduceBNe, Nat.reduceGT, Int.reduceBEq, Int.reduceBNe, Int.reduceGT, Nat.reduceDiv, Nat.reduceMod, Nat.reducePow, Int.reducePow, gt_iff_lt, ge_iff_le, List.reduceReplicate, ↓reduceIte, Tryd.f11]
    repeat (with_reducible refine And.intro (by first | omega | assumption | (constructor <;> assumption) | (simp; done) | (simp; omega) | (simp [*]; done)) ?_)
    repeat' (first
      | with_reducible refine And.intro (by first | omega | assumption | (constructor <;> assumption) | (simp; done) | (simp; omega) | (simp [*]; done)) ?_
      | simp (maxSteps := 4000000) (disch := omega) only [go_sem, Nat.reduceBEq, Nat.reduceAdd, Nat.reduceMul, Nat.reduceSub, Nat.reduceLT, Nat.reduceLeDiff, Int.reduceToNat, Int.reduceLT, Int.reduceLE, Int.reduceAdd, Int.reduceMul, Int.reduceSub, Int.reduceNeg, Int.reduceDiv, Int.reduceMod, Nat.reduceBNe, Nat.reduceGT, Int.reduceBEq, Int.reduceBNe, Int.reduceGT, Nat.reduceDiv, Nat.reduceMod, Nat.reducePow, Int.reducePow, gt_iff_lt, ge_iff_le, List.reduceReplicate, ↓reduceIte, z4e]
      | with_reducible refine roundS (next_of 1000 ?_)
      | with_reducible refine drawN_of (id := 3) mixed (by kernel_rfl) (by simp; done) (dg_of 1000 ?_)
      | with_reducible refine endN_of (by kernel_rfl) rfl (by simp [nmRes, off_eq, offL, av, avs, EObj.av, sentE, avs_ints, avs_wC, hasEdge_eq, edgeL, Region.binds]) (next_of 1000 ?_)
      | with_reducible refine drawS_of mixed (by kernel_rfl) (dg_of 1000 ?_)
      | with_reducible refine endD_of (by kernel_rfl) (next_of 1000 ?_)
      | refine callS_p (c1) (next_of 1000 ?_)
      | refine callD_p (c1) (dg_of 1000 ?_)
      | refine callS_p (c2) (next_of 1000 ?_)
      | refine callD_p (c2) (dg_of 1000 ?_)
      | refine callS_p (awake_p) (next_of 1000 ?_)
      | refine callD_p (awake_p) (dg_of 1000 ?_)
      | with_reducible refine next_of 1000 ?_
      | (refine condS_split (fun h => ?_) (fun h => ?_) <;> (try simp only [bne_iff_ne, ne_eq, beq_iff_eq, decide_eq_true_eq, decide_eq_false_iff_not, Bool.not_eq_true, Bool.not_eq_false, Bool.not_true, Bool.not_false, bne_eq_false_iff_eq, beq_eq_false_iff_ne, Bool.and_eq_true, Bool.or_eq_true, Bool.and_eq_false_imp, Bool.or_eq_false_iff, Bool.not_eq_true', Bool.not_eq_false', Int.not_lt, Int.not_le] at h) <;> (try (exfalso; omega)))
      | (refine testS_split (fun h => ?_) (fun h => ?_) <;> (try simp only [bne_iff_ne, ne_eq, beq_iff_eq, decide_eq_true_eq, decide_eq_false_iff_not, Bool.not_eq_true, Bool.not_eq_false, Bool.not_true, Bool.not_false, bne_eq_false_iff_eq, beq_eq_false_iff_ne, Bool.and_eq_true, Bool.or_eq_true, Bool.and_eq_false_imp, Bool.or_eq_false_iff, Bool.not_eq_true', Bool.not_eq_false', Int.not_lt, Int.not_le] at h) <;> (try (exfalso; omega)))
      | (refine testD_split (fun h => ?_) (fun h => ?_) <;> (try simp only [bne_iff_ne, ne_eq, beq_iff_eq, decide_eq_true_eq, decide_eq_false_iff_not, Bool.not_eq_true, Bool.not_eq_false, Bool.not_true, Bool.not_false, bne_eq_false_iff_eq, beq_eq_false_iff_ne, Bool.and_eq_true, Bool.or_eq_true, Bool.and_eq_false_imp, Bool.or_eq_false_iff, Bool.not_eq_true', Bool.not_eq_false', Int.not_lt, Int.not_le] at h) <;> (try (exfalso; omega))))
  · rw [if_neg hn0] at c1 c2
    have hnp : 0 < n := Nat.pos_of_ne_zero hn0
    have ml : ∀ k, k % n < 115792089237316195423570985008687907853269984665640564039457584007913129639936 := fun k => Nat.lt_trans (Nat.mod_lt _ hnp) hn
    have c3 := mod_p x n hx hn
    have c4 := mod_p y n hy hn
    have c5 := cmp_p _ n (ml (x * y)) hn
    have c6 := cmp_p _ n (ml (x + y)) hn
    have c7 := mulmod_p _ _ n (ml x) (ml y) hn
    have c8 := addmod_p _ _ n (ml x) (ml y) hn
    have c9 := one_p
    have c10 := add_p y 1 hy (by decide)
    have c11 := mulmod_p x _ n hx (mW (y + 1)) hn
    have c12 := next_p _ _ n y (ml (x * y)) (ml x) hn hy
    have c13 := mulmod_p x 1 n hx (by decide) hn
    rw [if_neg hn0] at c3 c4 c7 c8 c11 c12 c13
    rw [cmpI_lt (Nat.mod_lt _ hnp)] at c5 c6
    rw [← Nat.mul_mod] at c7
    rw [← Nat.add_mod] at c8
    rw [Nat.mul_one] at c13
    rw [show x * ((y + 1) % 115792089237316195423570985008687907853269984665640564039457584007913129639936) % n = if y = 115792089237316195423570985008687907853269984665640564039457584007913129639936 - 1 then 0 else (x * y % n + x % n) % n by
      split
      · rename_i h
        rw [show (y + 1) % 115792089237316195423570985008687907853269984665640564039457584007913129639936 = 0 by omega]; simp
      · rename_i h
        rw [show (y + 1) % 115792089237316195423570985008687907853269984665640564039457584007913129639936 = y + 1 by omega, Nat.mul_add, Nat.mul_one, Nat.add_mod]] at c11
    obtain ⟨u, hu⟩ : ∃ u, u = x % n := ⟨_, rfl⟩
    obtain ⟨v, hv⟩ : ∃ v, v = y % n := ⟨_, rfl⟩
    obtain ⟨m, hm⟩ : ∃ m, m = x * y % n := ⟨_, rfl⟩
    obtain ⟨a, ha⟩ : ∃ a, a = (x + y) % n := ⟨_, rfl⟩
    obtain ⟨s, hs⟩ : ∃ s, s = (y + 1) % 115792089237316195423570985008687907853269984665640564039457584007913129639936 := ⟨_, rfl⟩
    rw [← hu] at c3 c7 c8 c11 c12 c13
    rw [← hv] at c4 c7 c8
    rw [← hm] at c1 c5 c7 c11 c12
    rw [← ha] at c2 c6 c8
    rw [← hs] at c10 c11
    generalize (if y = 115792089237316195423570985008687907853269984665640564039457584007913129639936 - 1 then 0 else (m + u) % n) = r at *
    clear hu hv hm ha hs
    refine pure_p (args := [wE x, wE y, wE n]) en11 (by simp [closed, closeds, closed_wE, closeds_ints]) Tryd.func11 rfl in11 (by simp [Tryd.f11]) (by simp [closeds, closed, closed_wE, closeds_ints]) (fun w => next_of 1000 ?_)
    simp (maxSteps := 4000000) (disch := omega) only [go_sem, Nat.reduceBEq, Nat.reduceAdd, Nat.reduceMul, Nat.reduceSub, Nat.reduceLT, Nat.reduceLeDiff, Int.reduceToNat, Int.reduceLT, Int.reduceLE, Int.reduceAdd, Int.reduceMul, Int.reduceSub, Int.reduceNeg, Int.reduceDiv, Int.reduceMod, Nat.reduceBNe, Nat.reduceGT, Int.reduceBEq, Int.reduceBNe, Int.reduceGT, Nat.reduceDiv, Nat.reduceMod, Nat.reducePow, Int.reducePow, gt_iff_lt, ge_iff_le, List.reduceReplicate, ↓reduceIte, Tryd.f11]
    repeat (with_reducible refine And.intro (by first | omega | assumption | (constructor <;> assumption) | (simp; done) | (simp; omega) | (simp [*]; done)) ?_)
    repeat' (first
      | with_reducible refine And.intro (by first | omega | assumption | (constructor <;> assumption) | (simp; done) | (simp; omega) | (simp [*]; done)) ?_
      | simp (maxSteps := 4000000) (disch := omega) only [go_sem, Nat.reduceBEq, Nat.reduceAdd, Nat.reduceMul, Nat.reduceSub, Nat.reduceLT, Nat.reduceLeDiff, Int.reduceToNat, Int.reduceLT, Int.reduceLE, Int.reduceAdd, Int.reduceMul, Int.reduceSub, Int.reduceNeg, Int.reduceDiv, Int.reduceMod, Nat.reduceBNe, Nat.reduceGT, Int.reduceBEq, Int.reduceBNe, Int.reduceGT, Nat.reduceDiv, Nat.reduceMod, Nat.reducePow, Int.reducePow, gt_iff_lt, ge_iff_le, List.reduceReplicate, ↓reduceIte, z4e]
      | with_reducible refine roundS (next_of 1000 ?_)
      | with_reducible refine drawN_of (id := 3) mixed (by kernel_rfl) (by simp; done) (dg_of 1000 ?_)
      | with_reducible refine endN_of (by kernel_rfl) rfl (by simp [nmRes, off_eq, offL, av, avs, EObj.av, sentE, avs_ints, avs_wC, hasEdge_eq, edgeL, Region.binds]) (next_of 1000 ?_)
      | refine callS_p (c1) (next_of 1000 ?_)
      | refine callD_p (c1) (dg_of 1000 ?_)
      | refine callS_p (c2) (next_of 1000 ?_)
      | refine callD_p (c2) (dg_of 1000 ?_)
      | refine callS_p (awake_p) (next_of 1000 ?_)
      | refine callD_p (awake_p) (dg_of 1000 ?_)
      | with_reducible refine next_of 1000 ?_
      | (refine condS_split (fun h => ?_) (fun h => ?_) <;> (try simp only [bne_iff_ne, ne_eq, beq_iff_eq, decide_eq_true_eq, decide_eq_false_iff_not, Bool.not_eq_true, Bool.not_eq_false, Bool.not_true, Bool.not_false, bne_eq_false_iff_eq, beq_eq_false_iff_ne, Bool.and_eq_true, Bool.or_eq_true, Bool.and_eq_false_imp, Bool.or_eq_false_iff, Bool.not_eq_true', Bool.not_eq_false', Int.not_lt, Int.not_le] at h) <;> (try (exfalso; omega)))
      | (refine testS_split (fun h => ?_) (fun h => ?_) <;> (try simp only [bne_iff_ne, ne_eq, beq_iff_eq, decide_eq_true_eq, decide_eq_false_iff_not, Bool.not_eq_true, Bool.not_eq_false, Bool.not_true, Bool.not_false, bne_eq_false_iff_eq, beq_eq_false_iff_ne, Bool.and_eq_true, Bool.or_eq_true, Bool.and_eq_false_imp, Bool.or_eq_false_iff, Bool.not_eq_true', Bool.not_eq_false', Int.not_lt, Int.not_le] at h) <;> (try (exfalso; omega)))
      | (refine testD_split (fun h => ?_) (fun h => ?_) <;> (try simp only [bne_iff_ne, ne_eq, beq_iff_eq, decide_eq_true_eq, decide_eq_false_iff_not, Bool.not_eq_true, Bool.not_eq_false, Bool.not_true, Bool.not_false, bne_eq_false_iff_eq, beq_eq_false_iff_ne, Bool.and_eq_true, Bool.or_eq_true, Bool.and_eq_false_imp, Bool.or_eq_false_iff, Bool.not_eq_true', Bool.not_eq_false', Int.not_lt, Int.not_le] at h) <;> (try (exfalso; omega))))
    refine reName (fun i => if i = 3 then 100007 else if i = 4 then 100008 else i) ⟨[(8, .ptr 4 0), (7, .ptr 3 0), (6, .bool false), (5, .ptr 2 0), (4, .ptr 1 0), (3, .ptr 0 0)], 5, [(4, some (.cells (wC a) 24 (0, 0))), (3, some (.cells (wC m) 24 (0, 0))), (2, some (.cells (wC n) 24 (0, 0))), (1, some (.cells (wC y) 24 (0, 0))), (0, some (.cells (wC x) 24 (0, 0)))], base w, []⟩ (by simp [wσR, ren, rens, rens_wC, closed, closeds, closeds_wC, go_sem]) (by simp [whsR, go_sem, EObj.ren, ren, rens, rens_wC, EObj.closed, closed, closeds, closeds_wC]) (by simp only [List.map_cons, List.map_nil]; decide) rfl rfl rfl rfl (next_of 1000 ?_)
    repeat' (first
      | with_reducible refine And.intro (by first | omega | assumption | (constructor <;> assumption) | (simp; done) | (simp; omega) | (simp [*]; done)) ?_
      | simp (maxSteps := 4000000) (disch := omega) only [go_sem, Nat.reduceBEq, Nat.reduceAdd, Nat.reduceMul, Nat.reduceSub, Nat.reduceLT, Nat.reduceLeDiff, Int.reduceToNat, Int.reduceLT, Int.reduceLE, Int.reduceAdd, Int.reduceMul, Int.reduceSub, Int.reduceNeg, Int.reduceDiv, Int.reduceMod, Nat.reduceBNe, Nat.reduceGT, Int.reduceBEq, Int.reduceBNe, Int.reduceGT, Nat.reduceDiv, Nat.reduceMod, Nat.reducePow, Int.reducePow, gt_iff_lt, ge_iff_le, List.reduceReplicate, ↓reduceIte, z4e]
      | with_reducible refine roundS (next_of 1000 ?_)
      | with_reducible refine drawN_of (id := 6) mixed (by kernel_rfl) (by simp; done) (dg_of 1000 ?_)
      | with_reducible refine endN_of (by kernel_rfl) rfl (by simp [nmRes, off_eq, offL, av, avs, EObj.av, sentE, avs_ints, avs_wC, hasEdge_eq, edgeL, Region.binds]) (next_of 1000 ?_)
      | with_reducible refine drawS_of mixed (by kernel_rfl) (dg_of 1000 ?_)
      | with_reducible refine endD_of (by kernel_rfl) (next_of 1000 ?_)
      | refine callS_p (c1) (next_of 1000 ?_)
      | refine callD_p (c1) (dg_of 1000 ?_)
      | refine callS_p (c2) (next_of 1000 ?_)
      | refine callD_p (c2) (dg_of 1000 ?_)
      | refine callS_p (c3) (next_of 1000 ?_)
      | refine callD_p (c3) (dg_of 1000 ?_)
      | refine callS_p (c4) (next_of 1000 ?_)
      | refine callD_p (c4) (dg_of 1000 ?_)
      | refine callS_p (c5) (next_of 1000 ?_)
      | refine callD_p (c5) (dg_of 1000 ?_)
      | refine callS_p (c6) (next_of 1000 ?_)
      | refine callD_p (c6) (dg_of 1000 ?_)
      | refine callS_p (c7) (next_of 1000 ?_)
      | refine callD_p (c7) (dg_of 1000 ?_)
      | refine callS_p (c8) (next_of 1000 ?_)
      | refine callD_p (c8) (dg_of 1000 ?_)
      | refine callS_p (c9) (next_of 1000 ?_)
      | refine callD_p (c9) (dg_of 1000 ?_)
      | refine callS_p (c10) (next_of 1000 ?_)
      | refine callD_p (c10) (dg_of 1000 ?_)
      | refine callS_p (c11) (next_of 1000 ?_)
      | refine callD_p (c11) (dg_of 1000 ?_)
      | refine callS_p (c12) (next_of 1000 ?_)
      | refine callD_p (c12) (dg_of 1000 ?_)
      | refine callS_p (c13) (next_of 1000 ?_)
      | refine callD_p (c13) (dg_of 1000 ?_)
      | refine callS_p (awake_p) (next_of 1000 ?_)
      | refine callD_p (awake_p) (dg_of 1000 ?_)
      | with_reducible refine next_of 1000 ?_
      | (refine condS_split (fun h => ?_) (fun h => ?_) <;> (try simp only [bne_iff_ne, ne_eq, beq_iff_eq, decide_eq_true_eq, decide_eq_false_iff_not, Bool.not_eq_true, Bool.not_eq_false, Bool.not_true, Bool.not_false, bne_eq_false_iff_eq, beq_eq_false_iff_ne, Bool.and_eq_true, Bool.or_eq_true, Bool.and_eq_false_imp, Bool.or_eq_false_iff, Bool.not_eq_true', Bool.not_eq_false', Int.not_lt, Int.not_le] at h) <;> (try (exfalso; omega)))
      | (refine testS_split (fun h => ?_) (fun h => ?_) <;> (try simp only [bne_iff_ne, ne_eq, beq_iff_eq, decide_eq_true_eq, decide_eq_false_iff_not, Bool.not_eq_true, Bool.not_eq_false, Bool.not_true, Bool.not_false, bne_eq_false_iff_eq, beq_eq_false_iff_ne, Bool.and_eq_true, Bool.or_eq_true, Bool.and_eq_false_imp, Bool.or_eq_false_iff, Bool.not_eq_true', Bool.not_eq_false', Int.not_lt, Int.not_le] at h) <;> (try (exfalso; omega)))
      | (refine testD_split (fun h => ?_) (fun h => ?_) <;> (try simp only [bne_iff_ne, ne_eq, beq_iff_eq, decide_eq_true_eq, decide_eq_false_iff_not, Bool.not_eq_true, Bool.not_eq_false, Bool.not_true, Bool.not_false, bne_eq_false_iff_eq, beq_eq_false_iff_ne, Bool.and_eq_true, Bool.or_eq_true, Bool.and_eq_false_imp, Bool.or_eq_false_iff, Bool.not_eq_true', Bool.not_eq_false', Int.not_lt, Int.not_le] at h) <;> (try (exfalso; omega))))
end Go.Proofs.YtbilnedgpgpanaaDoor
