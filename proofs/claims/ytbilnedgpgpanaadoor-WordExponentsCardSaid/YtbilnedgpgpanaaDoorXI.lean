/- Part of a proof over the seat YtbilnedgpgpanaaDoor. -/
import Derived.Test.YtbilnedgpgpanaaDoorXG
import Derived.Test.YtbilnedgpgpanaaDoorWE
namespace Go.Proofs.YtbilnedgpgpanaaDoor
open Go RowKit Go.Ew
set_option maxRecDepth 100000
set_option linter.unusedSimpArgs false
set_option linter.unusedVariables false
set_option maxHeartbeats 1000000
theorem in8 : codeIn Tryd.f8.ntmps (Tryd.f8.body.getD .skip) = true := by kernel_rfl
theorem exponents_p (x y z : Nat) (hx : x < 115792089237316195423570985008687907853269984665640564039457584007913129639936) (hy : y < 115792089237316195423570985008687907853269984665640564039457584007913129639936) (hz : z < 115792089237316195423570985008687907853269984665640564039457584007913129639936) : Pure Tryd.prog 8 [wE x, wE y, wE z] (.bool true) := by
  have c1 := carry_p y z hy hz
  have c2 := exp_p x _ hx (mW (y + z))
  have c3 := exp_p x y hx hy
  have c4 := exp_p x z hx hz
  have c5 := mul_p _ _ (mW (x ^ y)) (mW (x ^ z))
  have c6 := one_p
  have c7 := shr_p 1 y (by decide) hy
  rw [if_pos (by decide), Nat.pow_one] at c7
  have hh : y / 2 < 115792089237316195423570985008687907853269984665640564039457584007913129639936 := by omega
  have c8 := shl_p 1 _ (by decide) hh
  rw [if_pos (by decide), Nat.pow_one, Nat.mod_eq_of_lt (by omega : y / 2 * 2 < 115792089237316195423570985008687907853269984665640564039457584007913129639936)] at c8
  have c9 := exp_p x _ hx (by omega : y / 2 * 2 < 115792089237316195423570985008687907853269984665640564039457584007913129639936)
  have c10 := mul_p x x hx hx
  have c11 := exp_p _ _ (mW (x * x)) hh
  have c12 := exp_p x 1 hx (by decide)
  rw [Nat.pow_one, Nat.mod_eq_of_lt hx] at c12
  have c13 : Pure Tryd.prog 59 [wE x, wE 0] (wE 1) := exp_p x 0 hx (by decide)
  rw [show (x * x % 115792089237316195423570985008687907853269984665640564039457584007913129639936) ^ (y / 2) % 115792089237316195423570985008687907853269984665640564039457584007913129639936 = x ^ (y / 2 * 2) % 115792089237316195423570985008687907853269984665640564039457584007913129639936 by rw [← Nat.pow_mod, Nat.mul_comm (y / 2) 2, Nat.pow_mul, Nat.pow_two]] at c11
  obtain ⟨h, eh⟩ : ∃ h, h = y / 2 := ⟨_, rfl⟩
  rw [← eh] at c7 c8 c9 c11
  obtain ⟨d, ed⟩ : ∃ d, d = h * 2 := ⟨_, rfl⟩
  rw [← ed] at c8 c9 c11
  obtain ⟨p, ep⟩ : ∃ p, p = x ^ d % 115792089237316195423570985008687907853269984665640564039457584007913129639936 := ⟨_, rfl⟩
  rw [← ep] at c9 c11
  obtain ⟨q, eq⟩ : ∃ q, q = x * x % 115792089237316195423570985008687907853269984665640564039457584007913129639936 := ⟨_, rfl⟩
  rw [← eq] at c10 c11
  clear eh ed ep eq
  by_cases hc : 115792089237316195423570985008687907853269984665640564039457584007913129639936 ≤ y + z
  · rw [show decide (115792089237316195423570985008687907853269984665640564039457584007913129639936 ≤ y + z) = true by simp [hc]] at c1
    obtain ⟨s, es⟩ : ∃ s, s = (y + z) % 115792089237316195423570985008687907853269984665640564039457584007913129639936 := ⟨_, rfl⟩
    rw [← es] at c1
    refine pure_p (args := [wE x, wE y, wE z]) en8 (by simp [closed, closeds, closed_wE, closeds_ints]) Tryd.func8 rfl in8 (by simp [Tryd.f8]) (by simp [closeds, closed, closed_wE, closeds_ints]) (fun w => next_of 1000 ?_)
    simp (maxSteps := 4000000) (disch := omega) only [go_sem, Nat.reduceBEq, Nat.reduceAdd, Nat.reduceMul, Nat.reduceSub, Nat.reduceLT, Nat.reduceLeDiff, Int.reduceToNat, Int.reduceLT, Int.reduceLE, Int.reduceAdd, Int.reduceMul, Int.reduceSub, Int.reduceNeg, Int.reduceDiv, Int.reduceMod, Nat.reduceBNe, Nat.reduceGT, Int.reduceBEq, Int.reduceBNe, Int.reduceGT, Nat.reduceDiv, Nat.reduceMod, Nat.reducePow, Int.reducePow, gt_iff_lt, ge_iff_le, List.reduceReplicate, ↓reduceIte, Tryd.f8]
    repeat (with_reducible refine And.intro (by first | omega | assumption | (constructor <;> assumption) | (simp; done) | (simp; omega) | (simp [*]; done)) ?_)
    repeat' (first
      | with_reducible refine And.intro (by first | omega | assumption | (constructor <;> assumption) | (simp; done) | (simp; omega) | (simp [*]; done)) ?_
      | simp (maxSteps := 4000000) (disch := omega) only [go_sem, Nat.reduceBEq, Nat.reduceAdd, Nat.reduceMul, Nat.reduceSub, Nat.reduceLT, Nat.reduceLeDiff, Int.reduceToNat, Int.reduceLT, Int.reduceLE, Int.reduceAdd, Int.reduceMul, Int.reduceSub, Int.reduceNeg, Int.reduceDiv, Int.reduceMod, Nat.reduceBNe, Nat.reduceGT, Int.reduceBEq, Int.reduceBNe, Int.reduceGT, Nat.reduceDiv, Nat.reduceMod, Nat.reducePow, Int.reducePow, gt_iff_lt, ge_iff_le, List.reduceReplicate, ↓reduceIte, z4e]
      | with_reducible refine roundS (next_of 1000 ?_)
      | with_reducible refine drawS_of mixed (by kernel_rfl) (dg_of 1000 ?_)
      | with_reducible refine endD_of (by kernel_rfl) (next_of 1000 ?_)
      | refine callS_p (c1) (next_of 1000 ?_)
      | refine callD_p (c1) (dg_of 1000 ?_)
      | refine callS_p (c6) (next_of 1000 ?_)
      | refine callD_p (c6) (dg_of 1000 ?_)
      | refine callS_p (c7) (next_of 1000 ?_)
      | refine callD_p (c7) (dg_of 1000 ?_)
      | refine callS_p (c8) (next_of 1000 ?_)
      | refine callD_p (c8) (dg_of 1000 ?_)
      | refine callS_p (c9) (next_of 1000 ?_)
      | refine callD_p (c9) (dg_of 1000 ?_)
      | refine callS_p (c10) (next_of 1000 ?_)
      | refine callD_p (c10) (dg_of 1000 ?_)
      | refine callS_p (c11) (next_of 1000 ?_)
      | refine callD_p (c11) (dg_of 1000 ?_)
      | refine callS_p (c12) (next_of 1000 ?_)
      | refine callD_p (c12) (dg_of 1000 ?_)
      | refine callS_p (c13) (next_of 1000 ?_)
      | refine callD_p (c13) (dg_of 1000 ?_)
      | refine callS_p (awake_p) (next_of 1000 ?_)
      | refine callD_p (awake_p) (dg_of 1000 ?_)
      | with_reducible refine next_of 1000 ?_
      | (refine condS_split (fun h => ?_) (fun h => ?_) <;> (try simp only [bne_iff_ne, ne_eq, beq_iff_eq, decide_eq_true_eq, decide_eq_false_iff_not, Bool.not_eq_true, Bool.not_eq_false, Bool.not_true, Bool.not_false, bne_eq_false_iff_eq, beq_eq_false_iff_ne, Bool.and_eq_true, Bool.or_eq_true, Bool.and_eq_false_imp, Bool.or_eq_false_iff, Bool.not_eq_true', Bool.not_eq_false', Int.not_lt, Int.not_le] at h) <;> (try (exfalso; omega)))
      | (refine testS_split (fun h => ?_) (fun h => ?_) <;> (try simp only [bne_iff_ne, ne_eq, beq_iff_eq, decide_eq_true_eq, decide_eq_false_iff_not, Bool.not_eq_true, Bool.not_eq_false, Bool.not_true, Bool.not_false, bne_eq_false_iff_eq, beq_eq_false_iff_ne, Bool.and_eq_true, Bool.or_eq_true, Bool.and_eq_false_imp, Bool.or_eq_false_iff, Bool.not_eq_true', Bool.not_eq_false', Int.not_lt, Int.not_le] at h) <;> (try (exfalso; omega)))
      | (refine testD_split (fun h => ?_) (fun h => ?_) <;> (try simp only [bne_iff_ne, ne_eq, beq_iff_eq, decide_eq_true_eq, decide_eq_false_iff_not, Bool.not_eq_true, Bool.not_eq_false, Bool.not_true, Bool.not_false, bne_eq_false_iff_eq, beq_eq_false_iff_ne, Bool.and_eq_true, Bool.or_eq_true, Bool.and_eq_false_imp, Bool.or_eq_false_iff, Bool.not_eq_true', Bool.not_eq_false', Int.not_lt, Int.not_le] at h) <;> (try (exfalso; omega))))
  · rw [show decide (115792089237316195423570985008687907853269984665640564039457584007913129639936 ≤ y + z) = false by simp [hc]] at c1
    have e1 : (y + z) % 115792089237316195423570985008687907853269984665640564039457584007913129639936 = y + z := Nat.mod_eq_of_lt (by omega)
    rw [e1] at c1 c2
    rw [← Nat.mul_mod, ← Nat.pow_add] at c5
    obtain ⟨s, es⟩ : ∃ s, s = y + z := ⟨_, rfl⟩
    rw [← es] at c1 c2 c5
    obtain ⟨a, ea⟩ : ∃ a, a = x ^ s % 115792089237316195423570985008687907853269984665640564039457584007913129639936 := ⟨_, rfl⟩
    obtain ⟨b, eb⟩ : ∃ b, b = x ^ y % 115792089237316195423570985008687907853269984665640564039457584007913129639936 := ⟨_, rfl⟩
    obtain ⟨c, ec⟩ : ∃ c, c = x ^ z % 115792089237316195423570985008687907853269984665640564039457584007913129639936 := ⟨_, rfl⟩
    rw [← ea] at c2 c5
    rw [← eb] at c3 c5
    rw [← ec] at c4 c5
    clear es ea eb ec e1 hc
    refine pure_p (args := [wE x, wE y, wE z]) en8 (by simp [closed, closeds, closed_wE, closeds_ints]) Tryd.func8 rfl in8 (by simp [Tryd.f8]) (by simp [closeds, closed, closed_wE, closeds_ints]) (fun w => next_of 1000 ?_)
    simp (maxSteps := 4000000) (disch := omega) only [go_sem, Nat.reduceBEq, Nat.reduceAdd, Nat.reduceMul, Nat.reduceSub, Nat.reduceLT, Nat.reduceLeDiff, Int.reduceToNat, Int.reduceLT, Int.reduceLE, Int.reduceAdd, Int.reduceMul, Int.reduceSub, Int.reduceNeg, Int.reduceDiv, Int.reduceMod, Nat.reduceBNe, Nat.reduceGT, Int.reduceBEq, Int.reduceBNe, Int.reduceGT, Nat.reduceDiv, Nat.reduceMod, Nat.reducePow, Int.reducePow, gt_iff_lt, ge_iff_le, List.reduceReplicate, ↓reduceIte, Tryd.f8]
    repeat (with_reducible refine And.intro (by first | omega | assumption | (constructor <;> assumption) | (simp; done) | (simp; omega) | (simp [*]; done)) ?_)
    repeat' (first
      | with_reducible refine And.intro (by first | omega | assumption | (constructor <;> assumption) | (simp; done) | (simp; omega) | (simp [*]; done)) ?_
      | simp (maxSteps := 4000000) (disch := omega) only [go_sem, Nat.reduceBEq, Nat.reduceAdd, Nat.reduceMul, Nat.reduceSub, Nat.reduceLT, Nat.reduceLeDiff, Int.reduceToNat, Int.reduceLT, Int.reduceLE, Int.reduceAdd, Int.reduceMul, Int.reduceSub, Int.reduceNeg, Int.reduceDiv, Int.reduceMod, Nat.reduceBNe, Nat.reduceGT, Int.reduceBEq, Int.reduceBNe, Int.reduceGT, Nat.reduceDiv, Nat.reduceMod, Nat.reducePow, Int.reducePow, gt_iff_lt, ge_iff_le, List.reduceReplicate, ↓reduceIte, z4e]
      | with_reducible refine roundS (next_of 1000 ?_)
      | with_reducible refine drawS_of mixed (by kernel_rfl) (dg_of 1000 ?_)
      | with_reducible refine endD_of (by kernel_rfl) (next_of 1000 ?_)
      | refine callS_p (c1) (next_of 1000 ?_)
      | refine callD_p (c1) (dg_of 1000 ?_)
      | refine callS_p (c2) (next_of 1000 ?_)
      | refine callD_p (c2) (dg_of 1000 ?_)
      | refine callS_p (c3) (next_of 1000 ?_)
      | refine callD_p (c3) (dg_of 1000 ?_)
      | refine callS_p (c4) (next_of 1000 ?_)
      | refine callD_p (c4) (dg_of 1000 ?_)
      | refine callS_p (c5) (next_of 1000 ?_)
      | refine callD_p (c5) (dg_of 1000 ?_)
      | refine callS_p (c6) (next_of 1000 ?_)
      | refine callD_p (c6) (dg_of 1000 ?_)
      | refine callS_p (c7) (next_of 1000 ?_)
      | refine callD_p (c7) (dg_of 1000 ?_)
      | refine callS_p (c8) (next_of 1000 ?_)
      | refine callD_p (c8) (dg_of 1000 ?_)
      | refine callS_p (c9) (next_of 1000 ?_)
      | refine callD_p (c9) (dg_of 1000 ?_)
      | refine callS_p (c10) (next_of 1000 ?_)
      | refine callD_p (c10) (dg_of 1000 ?_)
      | refine callS_p (c11) (next_of 1000 ?_)
      | refine callD_p (c11) (dg_of 1000 ?_)
      | refine callS_p (c12) (next_of 1000 ?_)
      | refine callD_p (c12) (dg_of 1000 ?_)
      | refine callS_p (c13) (next_of 1000 ?_)
      | refine callD_p (c13) (dg_of 1000 ?_)
      | refine callS_p (awake_p) (next_of 1000 ?_)
      | refine callD_p (awake_p) (dg_of 1000 ?_)
      | with_reducible refine next_of 1000 ?_
      | (refine condS_split (fun h => ?_) (fun h => ?_) <;> (try simp only [bne_iff_ne, ne_eq, beq_iff_eq, decide_eq_true_eq, decide_eq_false_iff_not, Bool.not_eq_true, Bool.not_eq_false, Bool.not_true, Bool.not_false, bne_eq_false_iff_eq, beq_eq_false_iff_ne, Bool.and_eq_true, Bool.or_eq_true, Bool.and_eq_false_imp, Bool.or_eq_false_iff, Bool.not_eq_true', Bool.not_eq_false', Int.not_lt, Int.not_le] at h) <;> (try (exfalso; omega)))
      | (refine testS_split (fun h => ?_) (fun h => ?_) <;> (try simp only [bne_iff_ne, ne_eq, beq_iff_eq, decide_eq_true_eq, decide_eq_false_iff_not, Bool.not_eq_true, Bool.not_eq_false, Bool.not_true, Bool.not_false, bne_eq_false_iff_eq, beq_eq_false_iff_ne, Bool.and_eq_true, Bool.or_eq_true, Bool.and_eq_false_imp, Bool.or_eq_false_iff, Bool.not_eq_true', Bool.not_eq_false', Int.not_lt, Int.not_le] at h) <;> (try (exfalso; omega)))
      | (refine testD_split (fun h => ?_) (fun h => ?_) <;> (try simp only [bne_iff_ne, ne_eq, beq_iff_eq, decide_eq_true_eq, decide_eq_false_iff_not, Bool.not_eq_true, Bool.not_eq_false, Bool.not_true, Bool.not_false, bne_eq_false_iff_eq, beq_eq_false_iff_ne, Bool.and_eq_true, Bool.or_eq_true, Bool.and_eq_false_imp, Bool.or_eq_false_iff, Bool.not_eq_true', Bool.not_eq_false', Int.not_lt, Int.not_le] at h) <;> (try (exfalso; omega))))
end Go.Proofs.YtbilnedgpgpanaaDoor
