/- Part of a proof over the seat YtbilnedgpgpanaaDoor. -/
import Derived.Test.YtbilnedgpgpanaaDoorXG
import Derived.Test.YtbilnedgpgpanaaDoorWE
namespace Go.Proofs.YtbilnedgpgpanaaDoor
open Go RowKit Go.Ew
set_option maxRecDepth 100000
set_option linter.unusedSimpArgs false
set_option linter.unusedVariables false
set_option maxHeartbeats 1000000
theorem in12 : codeIn Tryd.f12.ntmps (Tryd.f12.body.getD .skip) = true := by kernel_rfl
theorem small_wC {m : Nat} {z : Int} (hm : m < 18446744073709551616) (h : z = (m : Int)) : [EV.int .u64 z, EV.int .u64 0, EV.int .u64 0, EV.int .u64 0] = wC m := by
  subst h
  simp only [wC, List.cons.injEq, EV.int.injEq, true_and, and_true]
  refine ⟨?_, ?_, ?_, ?_⟩ <;> omega
theorem shifts_p (x n : Nat) (hx : x < 115792089237316195423570985008687907853269984665640564039457584007913129639936) (hn : n < 18446744073709551616) : Pure Tryd.prog 12 [wE x, .int .u64 (n : Nat)] (.bool true) := by
  obtain ⟨k, ek⟩ : ∃ k, k = n % 256 := ⟨_, rfl⟩
  have hk : k < 256 := by omega
  have hkW : k < 115792089237316195423570985008687907853269984665640564039457584007913129639936 := by omega
  have z1 := small_wC (m := k) (z := (n : Int) % 256) (by omega) (by omega)
  have hlt : 2 ^ k < 115792089237316195423570985008687907853269984665640564039457584007913129639936 := Nat.lt_of_lt_of_le (Nat.pow_lt_pow_right (by omega) hk) (by decide)
  have hpp : 0 < 2 ^ k := Nat.pow_pos (by omega)
  have c1 : Pure Tryd.prog 59 [lim 2 0 0 0, wE k] (wE (2 ^ k)) := by
    have := exp_p 2 k (by decide) hkW
    rwa [Nat.mod_eq_of_lt hlt] at this
  have c2 := shl_p k x hkW hx
  have c3 := mul_p x _ hx hlt
  have c4 := shr_p k x hkW hx
  have c5 := div_p x _ hx hlt
  rw [if_pos hk] at c2 c4
  have hd : x / 2 ^ k < 115792089237316195423570985008687907853269984665640564039457584007913129639936 := Nat.lt_of_le_of_lt (Nat.div_le_self _ _) hx
  have hm : x % 2 ^ k < 115792089237316195423570985008687907853269984665640564039457584007913129639936 := Nat.lt_of_le_of_lt (Nat.mod_le _ _) hx
  have c6 := shl_p k _ hkW hd
  have c7 := mod_p x _ hx hlt
  have c8 := sub_p x _ hx hm
  rw [if_pos hk] at c6
  rw [if_neg (by omega)] at c7
  have e1 := Nat.div_add_mod x (2 ^ k)
  have hle : x % 2 ^ k ≤ x := Nat.mod_le _ _
  rw [Nat.mul_comm] at e1
  rw [show x / 2 ^ k * 2 ^ k % 115792089237316195423570985008687907853269984665640564039457584007913129639936 = (x + 115792089237316195423570985008687907853269984665640564039457584007913129639936 - x % 2 ^ k) % 115792089237316195423570985008687907853269984665640564039457584007913129639936 by
    generalize x / 2 ^ k * 2 ^ k = p at *
    generalize x % 2 ^ k = r at *
    omega] at c6
  have c9 := below_p x hx
  have c10 := not_p x hx
  have hnx : 115792089237316195423570985008687907853269984665640564039457584007913129639936 - 1 - x < 115792089237316195423570985008687907853269984665640564039457584007913129639936 := by omega
  have c11 := shr_p k _ hkW hnx
  rw [if_pos hk] at c11
  have hd2 : (115792089237316195423570985008687907853269984665640564039457584007913129639936 - 1 - x) / 2 ^ k < 115792089237316195423570985008687907853269984665640564039457584007913129639936 := Nat.lt_of_le_of_lt (Nat.div_le_self _ _) hnx
  have c12 := not_p _ hd2
  have c13 := sar_p k x hkW hx
  unfold sarN at c13
  rw [if_pos hk, if_pos hk] at c13
  obtain ⟨v, hv, hv1, hv2⟩ : ∃ v : Nat, bOr .u64 (n : Int) 256 = (v : Int) ∧ 256 ≤ v ∧ v < 18446744073709551616 := by
    refine ⟨n ||| 256, ?_, Nat.right_le_or, Nat.or_lt_two_pow (n := 64) hn (by decide)⟩
    rw [bOr_u64 (by omega) (by omega) (by omega) (by omega)]
    rfl
  have z2 := small_wC (m := v) (z := bOr .u64 (n : Int) 256) hv2 hv
  have c14 := shl_p v x (by omega) hx
  rw [if_neg (by omega), show wE 0 = lim 0 0 0 0 from rfl] at c14
  obtain ⟨p, ep⟩ : ∃ p, p = 2 ^ k := ⟨_, rfl⟩
  rw [← ep] at c1 c2 c3 c4 c5 c6 c7 c8 c11 c12 c13
  obtain ⟨a, ea⟩ : ∃ a, a = x * p % 115792089237316195423570985008687907853269984665640564039457584007913129639936 := ⟨_, rfl⟩
  rw [← ea] at c2 c3
  obtain ⟨d, ed⟩ : ∃ d, d = x / p := ⟨_, rfl⟩
  rw [← ed] at c4 c5 c6 c13
  obtain ⟨r, er⟩ : ∃ r, r = x % p := ⟨_, rfl⟩
  rw [← er] at c6 c7 c8
  obtain ⟨s, es⟩ : ∃ s, s = (x + 115792089237316195423570985008687907853269984665640564039457584007913129639936 - r) % 115792089237316195423570985008687907853269984665640564039457584007913129639936 := ⟨_, rfl⟩
  rw [← es] at c6 c8
  obtain ⟨o, eo⟩ : ∃ o, o = 115792089237316195423570985008687907853269984665640564039457584007913129639936 - 1 - x := ⟨_, rfl⟩
  rw [← eo] at c10 c11 c12 c13
  obtain ⟨e, ee⟩ : ∃ e, e = o / p := ⟨_, rfl⟩
  rw [← ee] at c11 c12 c13
  obtain ⟨f, ef⟩ : ∃ f, f = 115792089237316195423570985008687907853269984665640564039457584007913129639936 - 1 - e := ⟨_, rfl⟩
  rw [← ef] at c12 c13
  clear ea ed er es eo ee ef ep e1 hle hlt hpp hnx hd2 hd hm
  by_cases hb : 57896044618658097711785492504343953926634992332820282019728792003956564819968 ≤ x
  · rw [if_pos hb] at c13
    rw [show decide (57896044618658097711785492504343953926634992332820282019728792003956564819968 ≤ x) = true by simp [hb]] at c9
    refine pure_p (args := [wE x, .int .u64 (n : Nat)]) en12 (by simp [closed, closeds, closed_wE, closeds_ints]) Tryd.func12 rfl in12 (by simp [Tryd.f12]) (by simp [closeds, closed, closed_wE, closeds_ints]) (fun w => next_of 1000 ?_)
    simp (maxSteps := 4000000) (disch := omega) only [go_sem, Nat.reduceBEq, Nat.reduceAdd, Nat.reduceMul, Nat.reduceSub, Nat.reduceLT, Nat.reduceLeDiff, Int.reduceToNat, Int.reduceLT, Int.reduceLE, Int.reduceAdd, Int.reduceMul, Int.reduceSub, Int.reduceNeg, Int.reduceDiv, Int.reduceMod, Nat.reduceBNe, Nat.reduceGT, Int.reduceBEq, Int.reduceBNe, Int.reduceGT, Nat.reduceDiv, Nat.reduceMod, Nat.reducePow, Int.reducePow, gt_iff_lt, ge_iff_le, List.reduceReplicate, ↓reduceIte, Tryd.f12]
    repeat (with_reducible refine And.intro (by first | omega | assumption | (constructor <;> assumption) | (simp; done) | (simp; omega) | (simp [*]; done)) ?_)
    repeat' (first
      | with_reducible refine And.intro (by first | omega | assumption | (constructor <;> assumption) | (simp; done) | (simp; omega) | (simp [*]; done)) ?_
      | simp (maxSteps := 4000000) (disch := omega) only [go_sem, Nat.reduceBEq, Nat.reduceAdd, Nat.reduceMul, Nat.reduceSub, Nat.reduceLT, Nat.reduceLeDiff, Int.reduceToNat, Int.reduceLT, Int.reduceLE, Int.reduceAdd, Int.reduceMul, Int.reduceSub, Int.reduceNeg, Int.reduceDiv, Int.reduceMod, Nat.reduceBNe, Nat.reduceGT, Int.reduceBEq, Int.reduceBNe, Int.reduceGT, Nat.reduceDiv, Nat.reduceMod, Nat.reducePow, Int.reducePow, gt_iff_lt, ge_iff_le, List.reduceReplicate, ↓reduceIte, z1, z2]
      | with_reducible refine roundS (next_of 1000 ?_)
      | with_reducible refine drawS_of mixed (by kernel_rfl) (dg_of 1000 ?_)
      | with_reducible refine endD_of (by kernel_rfl) (next_of 1000 ?_)
      | refine callS_p (c1) (next_of 1000 ?_)
      | refine callD_p (c1) (dg_of 1000 ?_)
      | refine callS_p (c2) (next_of 1000 ?_)
      | refine callD_p (c2) (dg_of 1000 ?_)
      | refine callS_p (c3) (next_of 1000 ?_)
      | refine callD_p (c3) (dg_of 1000 ?_)
      | refine callS_p (c4) (next_of 1000 ?_)
      | refine callD_p (c4) (dg_of 1000 ?_)
      | refine callS_p (c5) (next_of 1000 ?_)
      | refine callD_p (c5) (dg_of 1000 ?_)
      | refine callS_p (c6) (next_of 1000 ?_)
      | refine callD_p (c6) (dg_of 1000 ?_)
      | refine callS_p (c7) (next_of 1000 ?_)
      | refine callD_p (c7) (dg_of 1000 ?_)
      | refine callS_p (c8) (next_of 1000 ?_)
      | refine callD_p (c8) (dg_of 1000 ?_)
      | refine callS_p (c9) (next_of 1000 ?_)
      | refine callD_p (c9) (dg_of 1000 ?_)
      | refine callS_p (c10) (next_of 1000 ?_)
      | refine callD_p (c10) (dg_of 1000 ?_)
      | refine callS_p (c11) (next_of 1000 ?_)
      | refine callD_p (c11) (dg_of 1000 ?_)
      | refine callS_p (c12) (next_of 1000 ?_)
      | refine callD_p (c12) (dg_of 1000 ?_)
      | refine callS_p (c13) (next_of 1000 ?_)
      | refine callD_p (c13) (dg_of 1000 ?_)
      | refine callS_p (c14) (next_of 1000 ?_)
      | refine callD_p (c14) (dg_of 1000 ?_)
      | refine callS_p (awake_p) (next_of 1000 ?_)
      | refine callD_p (awake_p) (dg_of 1000 ?_)
      | with_reducible refine next_of 1000 ?_
      | (refine condS_split (fun h => ?_) (fun h => ?_) <;> (try simp only [bne_iff_ne, ne_eq, beq_iff_eq, decide_eq_true_eq, decide_eq_false_iff_not, Bool.not_eq_true, Bool.not_eq_false, Bool.not_true, Bool.not_false, bne_eq_false_iff_eq, beq_eq_false_iff_ne, Bool.and_eq_true, Bool.or_eq_true, Bool.and_eq_false_imp, Bool.or_eq_false_iff, Bool.not_eq_true', Bool.not_eq_false', Int.not_lt, Int.not_le] at h) <;> (try (exfalso; omega)))
      | (refine testS_split (fun h => ?_) (fun h => ?_) <;> (try simp only [bne_iff_ne, ne_eq, beq_iff_eq, decide_eq_true_eq, decide_eq_false_iff_not, Bool.not_eq_true, Bool.not_eq_false, Bool.not_true, Bool.not_false, bne_eq_false_iff_eq, beq_eq_false_iff_ne, Bool.and_eq_true, Bool.or_eq_true, Bool.and_eq_false_imp, Bool.or_eq_false_iff, Bool.not_eq_true', Bool.not_eq_false', Int.not_lt, Int.not_le] at h) <;> (try (exfalso; omega)))
      | (refine testD_split (fun h => ?_) (fun h => ?_) <;> (try simp only [bne_iff_ne, ne_eq, beq_iff_eq, decide_eq_true_eq, decide_eq_false_iff_not, Bool.not_eq_true, Bool.not_eq_false, Bool.not_true, Bool.not_false, bne_eq_false_iff_eq, beq_eq_false_iff_ne, Bool.and_eq_true, Bool.or_eq_true, Bool.and_eq_false_imp, Bool.or_eq_false_iff, Bool.not_eq_true', Bool.not_eq_false', Int.not_lt, Int.not_le] at h) <;> (try (exfalso; omega))))
  · rw [if_neg hb] at c13
    rw [show decide (57896044618658097711785492504343953926634992332820282019728792003956564819968 ≤ x) = false by simp [hb]] at c9
    refine pure_p (args := [wE x, .int .u64 (n : Nat)]) en12 (by simp [closed, closeds, closed_wE, closeds_ints]) Tryd.func12 rfl in12 (by simp [Tryd.f12]) (by simp [closeds, closed, closed_wE, closeds_ints]) (fun w => next_of 1000 ?_)
    simp (maxSteps := 4000000) (disch := omega) only [go_sem, Nat.reduceBEq, Nat.reduceAdd, Nat.reduceMul, Nat.reduceSub, Nat.reduceLT, Nat.reduceLeDiff, Int.reduceToNat, Int.reduceLT, Int.reduceLE, Int.reduceAdd, Int.reduceMul, Int.reduceSub, Int.reduceNeg, Int.reduceDiv, Int.reduceMod, Nat.reduceBNe, Nat.reduceGT, Int.reduceBEq, Int.reduceBNe, Int.reduceGT, Nat.reduceDiv, Nat.reduceMod, Nat.reducePow, Int.reducePow, gt_iff_lt, ge_iff_le, List.reduceReplicate, ↓reduceIte, Tryd.f12]
    repeat (with_reducible refine And.intro (by first | omega | assumption | (constructor <;> assumption) | (simp; done) | (simp; omega) | (simp [*]; done)) ?_)
    repeat' (first
      | with_reducible refine And.intro (by first | omega | assumption | (constructor <;> assumption) | (simp; done) | (simp; omega) | (simp [*]; done)) ?_
      | simp (maxSteps := 4000000) (disch := omega) only [go_sem, Nat.reduceBEq, Nat.reduceAdd, Nat.reduceMul, Nat.reduceSub, Nat.reduceLT, Nat.reduceLeDiff, Int.reduceToNat, Int.reduceLT, Int.reduceLE, Int.reduceAdd, Int.reduceMul, Int.reduceSub, Int.reduceNeg, Int.reduceDiv, Int.reduceMod, Nat.reduceBNe, Nat.reduceGT, Int.reduceBEq, Int.reduceBNe, Int.reduceGT, Nat.reduceDiv, Nat.reduceMod, Nat.reducePow, Int.reducePow, gt_iff_lt, ge_iff_le, List.reduceReplicate, ↓reduceIte, z1, z2]
      | with_reducible refine roundS (next_of 1000 ?_)
      | with_reducible refine drawS_of mixed (by kernel_rfl) (dg_of 1000 ?_)
      | with_reducible refine endD_of (by kernel_rfl) (next_of 1000 ?_)
      | refine callS_p (c1) (next_of 1000 ?_)
      | refine callD_p (c1) (dg_of 1000 ?_)
      | refine callS_p (c2) (next_of 1000 ?_)
      | refine callD_p (c2) (dg_of 1000 ?_)
      | refine callS_p (c3) (next_of 1000 ?_)
      | refine callD_p (c3) (dg_of 1000 ?_)
      | refine callS_p (c4) (next_of 1000 ?_)
      | refine callD_p (c4) (dg_of 1000 ?_)
      | refine callS_p (c5) (next_of 1000 ?_)
      | refine callD_p (c5) (dg_of 1000 ?_)
      | refine callS_p (c6) (next_of 1000 ?_)
      | refine callD_p (c6) (dg_of 1000 ?_)
      | refine callS_p (c7) (next_of 1000 ?_)
      | refine callD_p (c7) (dg_of 1000 ?_)
      | refine callS_p (c8) (next_of 1000 ?_)
      | refine callD_p (c8) (dg_of 1000 ?_)
      | refine callS_p (c9) (next_of 1000 ?_)
      | refine callD_p (c9) (dg_of 1000 ?_)
      | refine callS_p (c10) (next_of 1000 ?_)
      | refine callD_p (c10) (dg_of 1000 ?_)
      | refine callS_p (c11) (next_of 1000 ?_)
      | refine callD_p (c11) (dg_of 1000 ?_)
      | refine callS_p (c12) (next_of 1000 ?_)
      | refine callD_p (c12) (dg_of 1000 ?_)
      | refine callS_p (c13) (next_of 1000 ?_)
      | refine callD_p (c13) (dg_of 1000 ?_)
      | refine callS_p (c14) (next_of 1000 ?_)
      | refine callD_p (c14) (dg_of 1000 ?_)
      | refine callS_p (awake_p) (next_of 1000 ?_)
      | refine callD_p (awake_p) (dg_of 1000 ?_)
      | with_reducible refine next_of 1000 ?_
      | (refine condS_split (fun h => ?_) (fun h => ?_) <;> (try simp only [bne_iff_ne, ne_eq, beq_iff_eq, decide_eq_true_eq, decide_eq_false_iff_not, Bool.not_eq_true, Bool.not_eq_false, Bool.not_true, Bool.not_false, bne_eq_false_iff_eq, beq_eq_false_iff_ne, Bool.and_eq_true, Bool.or_eq_true, Bool.and_eq_false_imp, Bool.or_eq_false_iff, Bool.not_eq_true', Bool.not_eq_false', Int.not_lt, Int.not_le] at h) <;> (try (exfalso; omega)))
      | (refine testS_split (fun h => ?_) (fun h => ?_) <;> (try simp only [bne_iff_ne, ne_eq, beq_iff_eq, decide_eq_true_eq, decide_eq_false_iff_not, Bool.not_eq_true, Bool.not_eq_false, Bool.not_true, Bool.not_false, bne_eq_false_iff_eq, beq_eq_false_iff_ne, Bool.and_eq_true, Bool.or_eq_true, Bool.and_eq_false_imp, Bool.or_eq_false_iff, Bool.not_eq_true', Bool.not_eq_false', Int.not_lt, Int.not_le] at h) <;> (try (exfalso; omega)))
      | (refine testD_split (fun h => ?_) (fun h => ?_) <;> (try simp only [bne_iff_ne, ne_eq, beq_iff_eq, decide_eq_true_eq, decide_eq_false_iff_not, Bool.not_eq_true, Bool.not_eq_false, Bool.not_true, Bool.not_false, bne_eq_false_iff_eq, beq_eq_false_iff_ne, Bool.and_eq_true, Bool.or_eq_true, Bool.and_eq_false_imp, Bool.or_eq_false_iff, Bool.not_eq_true', Bool.not_eq_false', Int.not_lt, Int.not_le] at h) <;> (try (exfalso; omega))))
end Go.Proofs.YtbilnedgpgpanaaDoor
