/- Part of a proof over the seat YtbilnedgpgpanaaDoor. -/
import Derived.Test.YtbilnedgpgpanaaDoorXE
import Derived.Test.YtbilnedgpgpanaaDoorWB
namespace Go.Proofs.YtbilnedgpgpanaaDoor
open Go RowKit Go.Ew
set_option maxRecDepth 100000
set_option linter.unusedSimpArgs false
set_option linter.unusedVariables false
set_option maxHeartbeats 1000000
theorem in33 : codeIn Tryd.f33.ntmps (Tryd.f33.body.getD .skip) = true := by kernel_rfl
theorem in34 : codeIn Tryd.f34.ntmps (Tryd.f34.body.getD .skip) = true := by kernel_rfl
theorem in4 : codeIn Tryd.f4.ntmps (Tryd.f4.body.getD .skip) = true := by kernel_rfl
theorem most_p : Pure Tryd.prog 33 [] (wE (115792089237316195423570985008687907853269984665640564039457584007913129639936 - 1)) := by
  rw [lim_1]
  refine pure_p (args := []) en33 (by simp [closed, closeds, closed_wE, closeds_ints]) Tryd.func33 rfl in33 (by simp [Tryd.f33]) (by simp [closeds, closed, closed_wE, closeds_ints]) (fun w => next_of 1000 ?_)
  simp (maxSteps := 4000000) (disch := omega) only [go_sem, Nat.reduceBEq, Nat.reduceAdd, Nat.reduceMul, Nat.reduceSub, Nat.reduceLT, Nat.reduceLeDiff, Int.reduceToNat, Int.reduceLT, Int.reduceLE, Int.reduceAdd, Int.reduceMul, Int.reduceSub, Int.reduceNeg, Int.reduceDiv, Int.reduceMod, Nat.reduceBNe, Nat.reduceGT, Int.reduceBEq, Int.reduceBNe, Int.reduceGT, Nat.reduceDiv, Nat.reduceMod, Nat.reducePow, Int.reducePow, gt_iff_lt, ge_iff_le, List.reduceReplicate, ↓reduceIte, Tryd.f33]
  repeat (with_reducible refine And.intro (by first | omega | assumption | (constructor <;> assumption) | (simp; done) | (simp; omega) | (simp [*]; done)) ?_)
theorem one_p : Pure Tryd.prog 34 [] (wE 1) := by
  rw [show wE 1 = lim 1 0 0 0 from rfl]
  refine pure_p (args := []) en34 (by simp [closed, closeds, closed_wE, closeds_ints]) Tryd.func34 rfl in34 (by simp [Tryd.f34]) (by simp [closeds, closed, closed_wE, closeds_ints]) (fun w => next_of 1000 ?_)
  simp (maxSteps := 4000000) (disch := omega) only [go_sem, Nat.reduceBEq, Nat.reduceAdd, Nat.reduceMul, Nat.reduceSub, Nat.reduceLT, Nat.reduceLeDiff, Int.reduceToNat, Int.reduceLT, Int.reduceLE, Int.reduceAdd, Int.reduceMul, Int.reduceSub, Int.reduceNeg, Int.reduceDiv, Int.reduceMod, Nat.reduceBNe, Nat.reduceGT, Int.reduceBEq, Int.reduceBNe, Int.reduceGT, Nat.reduceDiv, Nat.reduceMod, Nat.reducePow, Int.reducePow, gt_iff_lt, ge_iff_le, List.reduceReplicate, ↓reduceIte, Tryd.f34]
  repeat (with_reducible refine And.intro (by first | omega | assumption | (constructor <;> assumption) | (simp; done) | (simp; omega) | (simp [*]; done)) ?_)
theorem mW (n : Nat) : n % 115792089237316195423570985008687907853269984665640564039457584007913129639936 < 115792089237316195423570985008687907853269984665640564039457584007913129639936 := Nat.mod_lt _ (by decide)
theorem ring_p (x y z : Nat) (hx : x < 115792089237316195423570985008687907853269984665640564039457584007913129639936) (hy : y < 115792089237316195423570985008687907853269984665640564039457584007913129639936) (hz : z < 115792089237316195423570985008687907853269984665640564039457584007913129639936) : Pure Tryd.prog 4 [wE x, wE y, wE z] (.bool true) := by
  have h0 : Pure Tryd.prog 22 [wE x, lim 0 0 0 0] (wE x) := by
    have := add_p x 0 hx (by decide)
    rwa [Nat.add_zero, Nat.mod_eq_of_lt hx] at this
  have c1 := add_p x y hx hy
  have c2 := mul_p x y hx hy
  have c3 := add_p y x hy hx
  have c4 := mul_p y x hy hx
  have c5 := add_p _ z (mW (x + y)) hz
  have c6 := add_p y z hy hz
  have c7 := add_p x _ hx (mW (y + z))
  have c8 := mul_p _ z (mW (x * y)) hz
  have c9 := mul_p y z hy hz
  have c10 := mul_p x _ hx (mW (y * z))
  have c11 := mul_p x _ hx (mW (y + z))
  have c12 := mul_p x z hx hz
  have c13 := add_p _ _ (mW (x * y)) (mW (x * z))
  have c14 := sub_p _ y (mW (x + y)) hy
  have c15 := not_p x hx
  have c16 := sub_p (115792089237316195423570985008687907853269984665640564039457584007913129639936 - 1) x (by decide) hx
  have c17 := mul_p x 1 hx (by decide)
  rw [Nat.add_comm y x] at c3
  rw [Nat.mul_comm y x] at c4
  rw [show (x + (y + z) % 115792089237316195423570985008687907853269984665640564039457584007913129639936) % 115792089237316195423570985008687907853269984665640564039457584007913129639936 = ((x + y) % 115792089237316195423570985008687907853269984665640564039457584007913129639936 + z) % 115792089237316195423570985008687907853269984665640564039457584007913129639936 by omega] at c7
  rw [show x * (y * z % 115792089237316195423570985008687907853269984665640564039457584007913129639936) % 115792089237316195423570985008687907853269984665640564039457584007913129639936 = x * y % 115792089237316195423570985008687907853269984665640564039457584007913129639936 * z % 115792089237316195423570985008687907853269984665640564039457584007913129639936 by rw [Nat.mul_mod_mod, Nat.mod_mul_mod, Nat.mul_assoc]] at c10
  rw [show x * ((y + z) % 115792089237316195423570985008687907853269984665640564039457584007913129639936) % 115792089237316195423570985008687907853269984665640564039457584007913129639936 = (x * y % 115792089237316195423570985008687907853269984665640564039457584007913129639936 + x * z % 115792089237316195423570985008687907853269984665640564039457584007913129639936) % 115792089237316195423570985008687907853269984665640564039457584007913129639936 by rw [Nat.mul_mod_mod, Nat.mul_add, Nat.add_mod]] at c11
  rw [show ((x + y) % 115792089237316195423570985008687907853269984665640564039457584007913129639936 + 115792089237316195423570985008687907853269984665640564039457584007913129639936 - y) % 115792089237316195423570985008687907853269984665640564039457584007913129639936 = x by omega] at c14
  rw [show (115792089237316195423570985008687907853269984665640564039457584007913129639936 - 1 + 115792089237316195423570985008687907853269984665640564039457584007913129639936 - x) % 115792089237316195423570985008687907853269984665640564039457584007913129639936 = 115792089237316195423570985008687907853269984665640564039457584007913129639936 - 1 - x by omega] at c16
  rw [Nat.mul_one, Nat.mod_eq_of_lt hx] at c17
  obtain ⟨a, ha⟩ : ∃ a, a = (x + y) % 115792089237316195423570985008687907853269984665640564039457584007913129639936 := ⟨_, rfl⟩
  obtain ⟨b, hb⟩ : ∃ b, b = x * y % 115792089237316195423570985008687907853269984665640564039457584007913129639936 := ⟨_, rfl⟩
  obtain ⟨t, ht⟩ : ∃ t, t = (y + z) % 115792089237316195423570985008687907853269984665640564039457584007913129639936 := ⟨_, rfl⟩
  obtain ⟨v, hv⟩ : ∃ v, v = y * z % 115792089237316195423570985008687907853269984665640564039457584007913129639936 := ⟨_, rfl⟩
  obtain ⟨r, hr⟩ : ∃ r, r = x * z % 115792089237316195423570985008687907853269984665640564039457584007913129639936 := ⟨_, rfl⟩
  obtain ⟨o, ho⟩ : ∃ o, o = 115792089237316195423570985008687907853269984665640564039457584007913129639936 - 1 - x := ⟨_, rfl⟩
  rw [← ha] at c1 c3 c5 c7 c14
  rw [← hb] at c2 c4 c8 c10 c11 c13
  rw [← ht] at c6 c7 c11
  rw [← hv] at c9 c10
  rw [← hr] at c11 c12 c13
  rw [← ho] at c15 c16
  obtain ⟨s, hs⟩ : ∃ s, s = (a + z) % 115792089237316195423570985008687907853269984665640564039457584007913129639936 := ⟨_, rfl⟩
  obtain ⟨u, hu⟩ : ∃ u, u = b * z % 115792089237316195423570985008687907853269984665640564039457584007913129639936 := ⟨_, rfl⟩
  obtain ⟨q, hq⟩ : ∃ q, q = (b + r) % 115792089237316195423570985008687907853269984665640564039457584007913129639936 := ⟨_, rfl⟩
  rw [← hs] at c5 c7
  rw [← hu] at c8 c10
  rw [← hq] at c11 c13
  have c18 := most_p
  have c19 := one_p
  obtain ⟨k, hk⟩ : ∃ k, k = 115792089237316195423570985008687907853269984665640564039457584007913129639936 - 1 := ⟨_, rfl⟩
  rw [← hk] at c16 c18
  clear ha hb ht hv hr ho hs hu hq hk
  refine pure_p (args := [wE x, wE y, wE z]) en4 (by simp [closed, closeds, closed_wE, closeds_ints]) Tryd.func4 rfl in4 (by simp [Tryd.f4]) (by simp [closeds, closed, closed_wE, closeds_ints]) (fun w => next_of 1000 ?_)
  simp (maxSteps := 4000000) (disch := omega) only [go_sem, Nat.reduceBEq, Nat.reduceAdd, Nat.reduceMul, Nat.reduceSub, Nat.reduceLT, Nat.reduceLeDiff, Int.reduceToNat, Int.reduceLT, Int.reduceLE, Int.reduceAdd, Int.reduceMul, Int.reduceSub, Int.reduceNeg, Int.reduceDiv, Int.reduceMod, Nat.reduceBNe, Nat.reduceGT, Int.reduceBEq, Int.reduceBNe, Int.reduceGT, Nat.reduceDiv, Nat.reduceMod, Nat.reducePow, Int.reducePow, gt_iff_lt, ge_iff_le, List.reduceReplicate, ↓reduceIte, Tryd.f4]
  repeat (with_reducible refine And.intro (by first | omega | assumption | (constructor <;> assumption) | (simp; done) | (simp; omega) | (simp [*]; done)) ?_)
  repeat' (first
    | with_reducible refine And.intro (by first | omega | assumption | (constructor <;> assumption) | (simp; done) | (simp; omega) | (simp [*]; done)) ?_
    | simp (maxSteps := 4000000) (disch := omega) only [go_sem, Nat.reduceBEq, Nat.reduceAdd, Nat.reduceMul, Nat.reduceSub, Nat.reduceLT, Nat.reduceLeDiff, Int.reduceToNat, Int.reduceLT, Int.reduceLE, Int.reduceAdd, Int.reduceMul, Int.reduceSub, Int.reduceNeg, Int.reduceDiv, Int.reduceMod, Nat.reduceBNe, Nat.reduceGT, Int.reduceBEq, Int.reduceBNe, Int.reduceGT, Nat.reduceDiv, Nat.reduceMod, Nat.reducePow, Int.reducePow, gt_iff_lt, ge_iff_le, List.reduceReplicate, ↓reduceIte]
    | with_reducible refine roundS (next_of 1000 ?_)
    | with_reducible refine drawN_of (id := 1) mixed (by kernel_rfl) (by simp; done) (dg_of 1000 ?_)
    | with_reducible refine endN_of (by kernel_rfl) rfl (by simp [nmRes, off_eq, offL, av, avs, EObj.av, sentE, avs_ints, avs_wC, hasEdge_eq, edgeL, Region.binds]) (next_of 1000 ?_)
    | with_reducible refine drawS_of mixed (by kernel_rfl) (dg_of 1000 ?_)
    | with_reducible refine endD_of (by kernel_rfl) (next_of 1000 ?_)
    | refine callS_p (c1) (next_of 1000 ?_)
    | refine callD_p (c1) (dg_of 1000 ?_)
    | refine callS_p (c2) (next_of 1000 ?_)
    | refine callD_p (c2) (dg_of 1000 ?_)
    | refine callS_p (c3) (next_of 1000 ?_)
    | refine callD_p (c3) (dg_of 1000 ?_)
    | refine callS_p (c4) (next_of 1000 ?_)
    | refine callD_p (c4) (dg_of 1000 ?_)
    | refine callS_p (c5) (next_of 1000 ?_)
    | refine callD_p (c5) (dg_of 1000 ?_)
    | refine callS_p (c6) (next_of 1000 ?_)
    | refine callD_p (c6) (dg_of 1000 ?_)
    | refine callS_p (c7) (next_of 1000 ?_)
    | refine callD_p (c7) (dg_of 1000 ?_)
    | refine callS_p (c8) (next_of 1000 ?_)
    | refine callD_p (c8) (dg_of 1000 ?_)
    | refine callS_p (c9) (next_of 1000 ?_)
    | refine callD_p (c9) (dg_of 1000 ?_)
    | refine callS_p (c10) (next_of 1000 ?_)
    | refine callD_p (c10) (dg_of 1000 ?_)
    | refine callS_p (c11) (next_of 1000 ?_)
    | refine callD_p (c11) (dg_of 1000 ?_)
    | refine callS_p (c12) (next_of 1000 ?_)
    | refine callD_p (c12) (dg_of 1000 ?_)
    | refine callS_p (c13) (next_of 1000 ?_)
    | refine callD_p (c13) (dg_of 1000 ?_)
    | refine callS_p (c14) (next_of 1000 ?_)
    | refine callD_p (c14) (dg_of 1000 ?_)
    | refine callS_p (c15) (next_of 1000 ?_)
    | refine callD_p (c15) (dg_of 1000 ?_)
    | refine callS_p (c16) (next_of 1000 ?_)
    | refine callD_p (c16) (dg_of 1000 ?_)
    | refine callS_p (c17) (next_of 1000 ?_)
    | refine callD_p (c17) (dg_of 1000 ?_)
    | refine callS_p (c18) (next_of 1000 ?_)
    | refine callD_p (c18) (dg_of 1000 ?_)
    | refine callS_p (c19) (next_of 1000 ?_)
    | refine callD_p (c19) (dg_of 1000 ?_)
    | refine callS_p (h0) (next_of 1000 ?_)
    | refine callD_p (h0) (dg_of 1000 ?_)
    | refine callS_p (awake_p) (next_of 1000 ?_)
    | refine callD_p (awake_p) (dg_of 1000 ?_)
    | with_reducible refine next_of 1000 ?_
    | ((first | refine condS_split (fun h => ?_) (fun h => ?_) | refine testS_split (fun h => ?_) (fun h => ?_) | refine testD_split (fun h => ?_) (fun h => ?_)) <;> (try simp only [bne_iff_ne, ne_eq, beq_iff_eq, decide_eq_true_eq, decide_eq_false_iff_not, Bool.not_eq_true, Bool.not_eq_false, Bool.not_true, Bool.not_false, bne_eq_false_iff_eq, beq_eq_false_iff_ne, Bool.and_eq_true, Bool.or_eq_true, Bool.and_eq_false_imp, Bool.or_eq_false_iff, Bool.not_eq_true', Bool.not_eq_false', Int.not_lt, Int.not_le] at h) <;> (try (exfalso; omega))))
end Go.Proofs.YtbilnedgpgpanaaDoor
