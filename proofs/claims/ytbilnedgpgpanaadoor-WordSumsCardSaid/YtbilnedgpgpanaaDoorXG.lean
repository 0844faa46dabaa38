/- Part of a proof over the seat YtbilnedgpgpanaaDoor. -/
import Derived.Test.YtbilnedgpgpanaaDoorXF
namespace Go.Proofs.YtbilnedgpgpanaaDoor
open Go RowKit Go.Ew
set_option maxRecDepth 100000
set_option linter.unusedSimpArgs false
set_option linter.unusedVariables false
set_option maxHeartbeats 1000000
theorem in63 : codeIn Tryd.f63.ntmps (Tryd.f63.body.getD .skip) = true := by kernel_rfl
theorem in64 : codeIn Tryd.f64.ntmps (Tryd.f64.body.getD .skip) = true := by kernel_rfl
theorem in10 : codeIn Tryd.f10.ntmps (Tryd.f10.body.getD .skip) = true := by kernel_rfl
theorem below_p (x : Nat) (hx : x < 115792089237316195423570985008687907853269984665640564039457584007913129639936) : Pure Tryd.prog 63 [wE x] (.bool (decide (57896044618658097711785492504343953926634992332820282019728792003956564819968 ≤ x))) := by
  obtain ⟨a, b, c, d, hw, hl⟩ := wE_open x hx
  rw [hw]
  obtain ⟨a0, a1, b0, b1, c0, c1, d0, d1, v⟩ := hl
  refine pure_p (args := [.agg [.int .u64 a, .int .u64 b, .int .u64 c, .int .u64 d]]) en63 (by simp [closed, closeds, closed_wE, closeds_ints]) Tryd.func63 rfl in63 (by simp [Tryd.f63]) (by simp [closeds, closed, closed_wE, closeds_ints]) (fun w => next_of 1000 ?_)
  simp (maxSteps := 4000000) (disch := omega) only [go_sem, Nat.reduceBEq, Nat.reduceAdd, Nat.reduceMul, Nat.reduceSub, Nat.reduceLT, Nat.reduceLeDiff, Int.reduceToNat, Int.reduceLT, Int.reduceLE, Int.reduceAdd, Int.reduceMul, Int.reduceSub, Int.reduceNeg, Int.reduceDiv, Int.reduceMod, Nat.reduceBNe, Nat.reduceGT, Int.reduceBEq, Int.reduceBNe, Int.reduceGT, Nat.reduceDiv, Nat.reduceMod, Nat.reducePow, Int.reducePow, gt_iff_lt, ge_iff_le, List.reduceReplicate, ↓reduceIte, Tryd.f63]
  repeat (with_reducible refine And.intro (by first | omega | assumption | (constructor <;> assumption) | (simp; done) | (simp; omega) | (simp [*]; done)) ?_)
  repeat' (first
    | with_reducible refine And.intro (by first | omega | assumption | (constructor <;> assumption) | (simp; done) | (simp; omega) | (simp [*]; done)) ?_
    | simp (maxSteps := 4000000) (disch := omega) only [go_sem, Nat.reduceBEq, Nat.reduceAdd, Nat.reduceMul, Nat.reduceSub, Nat.reduceLT, Nat.reduceLeDiff, Int.reduceToNat, Int.reduceLT, Int.reduceLE, Int.reduceAdd, Int.reduceMul, Int.reduceSub, Int.reduceNeg, Int.reduceDiv, Int.reduceMod, Nat.reduceBNe, Nat.reduceGT, Int.reduceBEq, Int.reduceBNe, Int.reduceGT, Nat.reduceDiv, Nat.reduceMod, Nat.reducePow, Int.reducePow, gt_iff_lt, ge_iff_le, List.reduceReplicate, ↓reduceIte]
    | with_reducible refine roundS (next_of 1000 ?_)
    | with_reducible refine drawS_of mixed (by kernel_rfl) (dg_of 1000 ?_)
    | with_reducible refine endD_of (by kernel_rfl) (next_of 1000 ?_)
    | with_reducible refine next_of 1000 ?_
    | (refine condS_split (fun h => ?_) (fun h => ?_) <;> (try simp only [bne_iff_ne, ne_eq, beq_iff_eq, decide_eq_true_eq, decide_eq_false_iff_not, Bool.not_eq_true, Bool.not_eq_false, Bool.not_true, Bool.not_false, bne_eq_false_iff_eq, beq_eq_false_iff_ne, Bool.and_eq_true, Bool.or_eq_true, Bool.and_eq_false_imp, Bool.or_eq_false_iff, Bool.not_eq_true', Bool.not_eq_false', Int.not_lt, Int.not_le] at h) <;> (try (exfalso; omega)))
    | (refine testS_split (fun h => ?_) (fun h => ?_) <;> (try simp only [bne_iff_ne, ne_eq, beq_iff_eq, decide_eq_true_eq, decide_eq_false_iff_not, Bool.not_eq_true, Bool.not_eq_false, Bool.not_true, Bool.not_false, bne_eq_false_iff_eq, beq_eq_false_iff_ne, Bool.and_eq_true, Bool.or_eq_true, Bool.and_eq_false_imp, Bool.or_eq_false_iff, Bool.not_eq_true', Bool.not_eq_false', Int.not_lt, Int.not_le] at h) <;> (try (exfalso; omega)))
    | (refine testD_split (fun h => ?_) (fun h => ?_) <;> (try simp only [bne_iff_ne, ne_eq, beq_iff_eq, decide_eq_true_eq, decide_eq_false_iff_not, Bool.not_eq_true, Bool.not_eq_false, Bool.not_true, Bool.not_false, bne_eq_false_iff_eq, beq_eq_false_iff_ne, Bool.and_eq_true, Bool.or_eq_true, Bool.and_eq_false_imp, Bool.or_eq_false_iff, Bool.not_eq_true', Bool.not_eq_false', Int.not_lt, Int.not_le] at h) <;> (try (exfalso; omega))))
  rw [evb, Bool.eq_iff_iff, beq_iff_eq, decide_eq_true_eq]
  omega
theorem next_p (m u n y : Nat) (hm : m < 115792089237316195423570985008687907853269984665640564039457584007913129639936) (hu : u < 115792089237316195423570985008687907853269984665640564039457584007913129639936) (hn : n < 115792089237316195423570985008687907853269984665640564039457584007913129639936) (hy : y < 115792089237316195423570985008687907853269984665640564039457584007913129639936) : Pure Tryd.prog 64 [wE m, wE u, wE n, wE y] (wE (if y = 115792089237316195423570985008687907853269984665640564039457584007913129639936 - 1 then 0 else if n = 0 then 0 else (m + u) % n)) := by
  have c1 := most_p
  have c2 := addmod_p m u n hm hu hn
  obtain ⟨k, hk⟩ : ∃ k, k = 115792089237316195423570985008687907853269984665640564039457584007913129639936 - 1 := ⟨_, rfl⟩
  rw [← hk] at c1 ⊢
  generalize (if n = 0 then 0 else (m + u) % n) = r at *
  by_cases h : y = k
  · rw [if_pos h]
    refine pure_p (args := [wE m, wE u, wE n, wE y]) en64 (by simp [closed, closeds, closed_wE, closeds_ints]) Tryd.func64 rfl in64 (by simp [Tryd.f64]) (by simp [closeds, closed, closed_wE, closeds_ints]) (fun w => next_of 1000 ?_)
    simp (maxSteps := 4000000) (disch := omega) only [go_sem, Nat.reduceBEq, Nat.reduceAdd, Nat.reduceMul, Nat.reduceSub, Nat.reduceLT, Nat.reduceLeDiff, Int.reduceToNat, Int.reduceLT, Int.reduceLE, Int.reduceAdd, Int.reduceMul, Int.reduceSub, Int.reduceNeg, Int.reduceDiv, Int.reduceMod, Nat.reduceBNe, Nat.reduceGT, Int.reduceBEq, Int.reduceBNe, Int.reduceGT, Nat.reduceDiv, Nat.reduceMod, Nat.reducePow, Int.reducePow, gt_iff_lt, ge_iff_le, List.reduceReplicate, ↓reduceIte, Tryd.f64]
    repeat (with_reducible refine And.intro (by first | omega | assumption | (constructor <;> assumption) | (simp; done) | (simp; omega) | (simp [*]; done)) ?_)
    repeat' (first
      | with_reducible refine And.intro (by first | omega | assumption | (constructor <;> assumption) | (simp; done) | (simp; omega) | (simp [*]; done)) ?_
      | simp (maxSteps := 4000000) (disch := omega) only [go_sem, Nat.reduceBEq, Nat.reduceAdd, Nat.reduceMul, Nat.reduceSub, Nat.reduceLT, Nat.reduceLeDiff, Int.reduceToNat, Int.reduceLT, Int.reduceLE, Int.reduceAdd, Int.reduceMul, Int.reduceSub, Int.reduceNeg, Int.reduceDiv, Int.reduceMod, Nat.reduceBNe, Nat.reduceGT, Int.reduceBEq, Int.reduceBNe, Int.reduceGT, Nat.reduceDiv, Nat.reduceMod, Nat.reducePow, Int.reducePow, gt_iff_lt, ge_iff_le, List.reduceReplicate, ↓reduceIte, z4e]
      | with_reducible refine roundS (next_of 1000 ?_)
      | with_reducible refine drawS_of mixed (by kernel_rfl) (dg_of 1000 ?_)
      | with_reducible refine endD_of (by kernel_rfl) (next_of 1000 ?_)
      | refine callS_p (c1) (next_of 1000 ?_)
      | refine callD_p (c1) (dg_of 1000 ?_)
      | with_reducible refine next_of 1000 ?_
      | (refine condS_split (fun h => ?_) (fun h => ?_) <;> (try simp only [bne_iff_ne, ne_eq, beq_iff_eq, decide_eq_true_eq, decide_eq_false_iff_not, Bool.not_eq_true, Bool.not_eq_false, Bool.not_true, Bool.not_false, bne_eq_false_iff_eq, beq_eq_false_iff_ne, Bool.and_eq_true, Bool.or_eq_true, Bool.and_eq_false_imp, Bool.or_eq_false_iff, Bool.not_eq_true', Bool.not_eq_false', Int.not_lt, Int.not_le] at h) <;> (try (exfalso; omega)))
      | (refine testS_split (fun h => ?_) (fun h => ?_) <;> (try simp only [bne_iff_ne, ne_eq, beq_iff_eq, decide_eq_true_eq, decide_eq_false_iff_not, Bool.not_eq_true, Bool.not_eq_false, Bool.not_true, Bool.not_false, bne_eq_false_iff_eq, beq_eq_false_iff_ne, Bool.and_eq_true, Bool.or_eq_true, Bool.and_eq_false_imp, Bool.or_eq_false_iff, Bool.not_eq_true', Bool.not_eq_false', Int.not_lt, Int.not_le] at h) <;> (try (exfalso; omega)))
      | (refine testD_split (fun h => ?_) (fun h => ?_) <;> (try simp only [bne_iff_ne, ne_eq, beq_iff_eq, decide_eq_true_eq, decide_eq_false_iff_not, Bool.not_eq_true, Bool.not_eq_false, Bool.not_true, Bool.not_false, bne_eq_false_iff_eq, beq_eq_false_iff_ne, Bool.and_eq_true, Bool.or_eq_true, Bool.and_eq_false_imp, Bool.or_eq_false_iff, Bool.not_eq_true', Bool.not_eq_false', Int.not_lt, Int.not_le] at h) <;> (try (exfalso; omega))))
  · rw [if_neg h]
    refine pure_p (args := [wE m, wE u, wE n, wE y]) en64 (by simp [closed, closeds, closed_wE, closeds_ints]) Tryd.func64 rfl in64 (by simp [Tryd.f64]) (by simp [closeds, closed, closed_wE, closeds_ints]) (fun w => next_of 1000 ?_)
    simp (maxSteps := 4000000) (disch := omega) only [go_sem, Nat.reduceBEq, Nat.reduceAdd, Nat.reduceMul, Nat.reduceSub, Nat.reduceLT, Nat.reduceLeDiff, Int.reduceToNat, Int.reduceLT, Int.reduceLE, Int.reduceAdd, Int.reduceMul, Int.reduceSub, Int.reduceNeg, Int.reduceDiv, Int.reduceMod, Nat.reduceBNe, Nat.reduceGT, Int.reduceBEq, Int.reduceBNe, Int.reduceGT, Nat.reduceDiv, Nat.reduceMod, Nat.reducePow, Int.reducePow, gt_iff_lt, ge_iff_le, List.reduceReplicate, ↓reduceIte, Tryd.f64]
    repeat (with_reducible refine And.intro (by first | omega | assumption | (constructor <;> assumption) | (simp; done) | (simp; omega) | (simp [*]; done)) ?_)
    repeat' (first
      | with_reducible refine And.intro (by first | omega | assumption | (constructor <;> assumption) | (simp; done) | (simp; omega) | (simp [*]; done)) ?_
      | simp (maxSteps := 4000000) (disch := omega) only [go_sem, Nat.reduceBEq, Nat.reduceAdd, Nat.reduceMul, Nat.reduceSub, Nat.reduceLT, Nat.reduceLeDiff, Int.reduceToNat, Int.reduceLT, Int.reduceLE, Int.reduceAdd, Int.reduceMul, Int.reduceSub, Int.reduceNeg, Int.reduceDiv, Int.reduceMod, Nat.reduceBNe, Nat.reduceGT, Int.reduceBEq, Int.reduceBNe, Int.reduceGT, Nat.reduceDiv, Nat.reduceMod, Nat.reducePow, Int.reducePow, gt_iff_lt, ge_iff_le, List.reduceReplicate, ↓reduceIte, z4e]
      | with_reducible refine roundS (next_of 1000 ?_)
      | with_reducible refine drawS_of mixed (by kernel_rfl) (dg_of 1000 ?_)
      | with_reducible refine endD_of (by kernel_rfl) (next_of 1000 ?_)
      | refine callS_p (c1) (next_of 1000 ?_)
      | refine callD_p (c1) (dg_of 1000 ?_)
      | refine callS_p (c2) (next_of 1000 ?_)
      | refine callD_p (c2) (dg_of 1000 ?_)
      | with_reducible refine next_of 1000 ?_
      | (refine condS_split (fun h => ?_) (fun h => ?_) <;> (try simp only [bne_iff_ne, ne_eq, beq_iff_eq, decide_eq_true_eq, decide_eq_false_iff_not, Bool.not_eq_true, Bool.not_eq_false, Bool.not_true, Bool.not_false, bne_eq_false_iff_eq, beq_eq_false_iff_ne, Bool.and_eq_true, Bool.or_eq_true, Bool.and_eq_false_imp, Bool.or_eq_false_iff, Bool.not_eq_true', Bool.not_eq_false', Int.not_lt, Int.not_le] at h) <;> (try (exfalso; omega)))
      | (refine testS_split (fun h => ?_) (fun h => ?_) <;> (try simp only [bne_iff_ne, ne_eq, beq_iff_eq, decide_eq_true_eq, decide_eq_false_iff_not, Bool.not_eq_true, Bool.not_eq_false, Bool.not_true, Bool.not_false, bne_eq_false_iff_eq, beq_eq_false_iff_ne, Bool.and_eq_true, Bool.or_eq_true, Bool.and_eq_false_imp, Bool.or_eq_false_iff, Bool.not_eq_true', Bool.not_eq_false', Int.not_lt, Int.not_le] at h) <;> (try (exfalso; omega)))
      | (refine testD_split (fun h => ?_) (fun h => ?_) <;> (try simp only [bne_iff_ne, ne_eq, beq_iff_eq, decide_eq_true_eq, decide_eq_false_iff_not, Bool.not_eq_true, Bool.not_eq_false, Bool.not_true, Bool.not_false, bne_eq_false_iff_eq, beq_eq_false_iff_ne, Bool.and_eq_true, Bool.or_eq_true, Bool.and_eq_false_imp, Bool.or_eq_false_iff, Bool.not_eq_true', Bool.not_eq_false', Int.not_lt, Int.not_le] at h) <;> (try (exfalso; omega))))
theorem cmpI_lt {a b : Nat} (h : a < b) : cmpI (a : Int) (b : Int) = -1 := by unfold cmpI; rw [if_pos (by omega)]
theorem cmpI_le {a b : Nat} (h : a ≤ b) : cmpI (a : Int) (b : Int) = -1 ∨ cmpI (a : Int) (b : Int) = 0 := by unfold cmpI; split; left; rfl; right; rw [if_neg (by omega)]
theorem negmul {Q y : Nat} (hQ : Q < 115792089237316195423570985008687907853269984665640564039457584007913129639936) : ((115792089237316195423570985008687907853269984665640564039457584007913129639936 - Q) % 115792089237316195423570985008687907853269984665640564039457584007913129639936 * y + Q * y) % 115792089237316195423570985008687907853269984665640564039457584007913129639936 = 0 := by
  by_cases h : Q = 0
  · subst h; simp
  · have e : (115792089237316195423570985008687907853269984665640564039457584007913129639936 - Q) % 115792089237316195423570985008687907853269984665640564039457584007913129639936 = 115792089237316195423570985008687907853269984665640564039457584007913129639936 - Q := Nat.mod_eq_of_lt (by omega)
    rw [e, ← Nat.add_mul, show 115792089237316195423570985008687907853269984665640564039457584007913129639936 - Q + Q = 115792089237316195423570985008687907853269984665640564039457584007913129639936 by omega]
    exact Nat.mul_mod_right _ _
theorem mag_le {x : Nat} (hx : x < 115792089237316195423570985008687907853269984665640564039457584007913129639936) : mag x ≤ 57896044618658097711785492504343953926634992332820282019728792003956564819968 := by unfold mag; split <;> omega
theorem signed_back {x y : Nat} (hx : x < 115792089237316195423570985008687907853269984665640564039457584007913129639936) (hy : y < 115792089237316195423570985008687907853269984665640564039457584007913129639936) (hy0 : y ≠ 0) : (sdivN x y * y % 115792089237316195423570985008687907853269984665640564039457584007913129639936 + smodN x y) % 115792089237316195423570985008687907853269984665640564039457584007913129639936 = x := by
  have hb : mag y ≠ 0 := by unfold mag; split <;> omega
  have e := Nat.div_add_mod (mag x) (mag y)
  have hR : mag x % mag y < mag y := Nat.mod_lt _ (by omega)
  have hQ : mag x / mag y ≤ mag x := Nat.div_le_self _ _
  have hmx := mag_le hx
  have hmy := mag_le hy
  have hQl : mag x / mag y < 115792089237316195423570985008687907853269984665640564039457584007913129639936 := by omega
  have hn := negmul (y := y) hQl
  unfold sdivN smodN
  rw [if_neg hb]
  rw [Nat.mul_comm] at e
  generalize hQe : mag x / mag y = Q at *
  generalize hRe : mag x % mag y = R at *
  by_cases h1 : 57896044618658097711785492504343953926634992332820282019728792003956564819968 ≤ x
  · have e1 : mag x = 115792089237316195423570985008687907853269984665640564039457584007913129639936 - x := by unfold mag; rw [if_pos h1]
    by_cases h2 : 57896044618658097711785492504343953926634992332820282019728792003956564819968 ≤ y
    · have e2 : mag y = 115792089237316195423570985008687907853269984665640564039457584007913129639936 - y := by unfold mag; rw [if_pos h2]
      rw [if_pos (by simp [h1, h2]), if_pos h1]
      have e3 : Q * y + Q * mag y = Q * 115792089237316195423570985008687907853269984665640564039457584007913129639936 := by rw [← Nat.mul_add, e2]; congr 1; omega
      generalize Q * mag y = p at *
      generalize Q * y = p' at *
      omega
    · have e2 : mag y = y := by unfold mag; rw [if_neg h2]
      rw [if_neg (by simp [h1, h2]), if_pos h1]
      rw [e2] at e
      generalize (115792089237316195423570985008687907853269984665640564039457584007913129639936 - Q) % 115792089237316195423570985008687907853269984665640564039457584007913129639936 * y = p' at *
      generalize Q * y = p at *
      omega
  · have e1 : mag x = x := by unfold mag; rw [if_neg h1]
    by_cases h2 : 57896044618658097711785492504343953926634992332820282019728792003956564819968 ≤ y
    · have e2 : mag y = 115792089237316195423570985008687907853269984665640564039457584007913129639936 - y := by unfold mag; rw [if_pos h2]
      rw [if_neg (by simp [h1, h2]), if_neg h1]
      have e3 : Q * y + Q * mag y = Q * 115792089237316195423570985008687907853269984665640564039457584007913129639936 := by rw [← Nat.mul_add, e2]; congr 1; omega
      generalize (115792089237316195423570985008687907853269984665640564039457584007913129639936 - Q) % 115792089237316195423570985008687907853269984665640564039457584007913129639936 * y = p' at *
      generalize Q * mag y = p at *
      generalize Q * y = p'' at *
      omega
    · have e2 : mag y = y := by unfold mag; rw [if_neg h2]
      rw [if_pos (by simp [h1, h2]), if_neg h1]
      rw [e2] at e
      generalize Q * y = p at *
      omega
theorem smod_below {x y : Nat} (hx : x < 115792089237316195423570985008687907853269984665640564039457584007913129639936) (hy : y < 115792089237316195423570985008687907853269984665640564039457584007913129639936) (hy0 : y ≠ 0) (h : smodN x y ≠ 0) : (57896044618658097711785492504343953926634992332820282019728792003956564819968 ≤ smodN x y) ↔ (57896044618658097711785492504343953926634992332820282019728792003956564819968 ≤ x) := by
  have hb : mag y ≠ 0 := by unfold mag; split <;> omega
  have hR : mag x % mag y < mag y := Nat.mod_lt _ (by omega)
  have hmy := mag_le hy
  unfold smodN at *
  rw [if_neg hb] at *
  split at h
  · rename_i h1
    rw [if_pos h1]
    constructor
    · intro _; exact h1
    · intro _; omega
  · rename_i h1
    rw [if_neg h1]
    constructor
    · intro _; omega
    · intro h2; exact absurd h2 h1
theorem smodN_lt {x y : Nat} (hx : x < 115792089237316195423570985008687907853269984665640564039457584007913129639936) : smodN x y < 115792089237316195423570985008687907853269984665640564039457584007913129639936 := by
  unfold smodN
  split
  · exact mW _
  · split
    · decide
    · exact Nat.lt_of_le_of_lt (Nat.mod_le _ _) (mag_lt hx)
theorem sdivN_lt {x y : Nat} (hx : x < 115792089237316195423570985008687907853269984665640564039457584007913129639936) : sdivN x y < 115792089237316195423570985008687907853269984665640564039457584007913129639936 := by
  unfold sdivN
  split
  · exact Nat.lt_of_le_of_lt (Nat.div_le_self _ _) (mag_lt hx)
  · exact mW _
theorem division_p (x y : Nat) (hx : x < 115792089237316195423570985008687907853269984665640564039457584007913129639936) (hy : y < 115792089237316195423570985008687907853269984665640564039457584007913129639936) : Pure Tryd.prog 10 [wE x, wE y] (.bool true) := by
  have c1 := div_p x y hx hy
  have c2 := mod_p x y hx hy
  have c3 := sdiv_p x y hx hy
  have c4 := smod_p x y hx hy
  by_cases hy0 : y = 0
  · subst hy0
    rw [Nat.div_zero] at c1
    rw [if_pos rfl] at c2
    rw [show sdivN x 0 = 0 by unfold sdivN; simp [mag]] at c3
    rw [show smodN x 0 = 0 by unfold smodN; simp [mag]] at c4
    refine pure_p (args := [wE x, wE 0]) en10 (by simp [closed, closeds, closed_wE, closeds_ints]) Tryd.func10 rfl in10 (by simp [Tryd.f10]) (by simp [closeds, closed, closed_wE, closeds_ints]) (fun w => next_of 1000 ?_)
    simp (maxSteps := 4000000) (disch := omega) only [go_sem, Nat.reduceBEq, Nat.reduceAdd, Nat.reduceMul, Nat.reduceSub, Nat.reduceLT, Nat.reduceLeDiff, Int.reduceToNat, Int.reduceLT, Int.reduceLE, Int.reduceAdd, Int.reduceMul, Int.reduceSub, Int.reduceNeg, Int.reduceDiv, Int.reduceMod, Nat.reduceBNe, Nat.reduceGT, Int.reduceBEq, Int.reduceBNe, Int.reduceGT, Nat.reduceDiv, Nat.reduceMod, Nat.reducePow, Int.reducePow, gt_iff_lt, ge_iff_le, List.reduceReplicate, ↓reduceIte, Tryd.f10]
    repeat (with_reducible refine And.intro (by first | omega | assumption | (constructor <;> assumption) | (simp; done) | (simp; omega) | (simp [*]; done)) ?_)
    repeat' (first
      | with_reducible refine And.intro (by first | omega | assumption | (constructor <;> assumption) | (simp; done) | (simp; omega) | (simp [*]; done)) ?_
      | simp (maxSteps := 4000000) (disch := omega) only [go_sem, Nat.reduceBEq, Nat.reduceAdd, Nat.reduceMul, Nat.reduceSub, Nat.reduceLT, Nat.reduceLeDiff, Int.reduceToNat, Int.reduceLT, Int.reduceLE, Int.reduceAdd, Int.reduceMul, Int.reduceSub, Int.reduceNeg, Int.reduceDiv, Int.reduceMod, Nat.reduceBNe, Nat.reduceGT, Int.reduceBEq, Int.reduceBNe, Int.reduceGT, Nat.reduceDiv, Nat.reduceMod, Nat.reducePow, Int.reducePow, gt_iff_lt, ge_iff_le, List.reduceReplicate, ↓reduceIte, z4e]
      | with_reducible refine roundS (next_of 1000 ?_)
      | with_reducible refine drawN_of (id := 3) mixed (by kernel_rfl) (by simp; done) (dg_of 1000 ?_)
      | with_reducible refine endN_of (by kernel_rfl) rfl (by simp [nmRes, off_eq, offL, av, avs, EObj.av, sentE, avs_ints, avs_wC, hasEdge_eq, edgeL, Region.binds]) (next_of 1000 ?_)
      | with_reducible refine drawS_of mixed (by kernel_rfl) (dg_of 1000 ?_)
      | with_reducible refine endD_of (by kernel_rfl) (next_of 1000 ?_)
      | refine callS_p (c1) (next_of 1000 ?_)
      | refine callD_p (c1) (dg_of 1000 ?_)
      | refine callS_p (c2) (next_of 1000 ?_)
      | refine callD_p (c2) (dg_of 1000 ?_)
      | refine callS_p (c3) (next_of 1000 ?_)
      | refine callD_p (c3) (dg_of 1000 ?_)
      | refine callS_p (c4) (next_of 1000 ?_)
      | refine callD_p (c4) (dg_of 1000 ?_)
      | refine callS_p (awake_p) (next_of 1000 ?_)
      | refine callD_p (awake_p) (dg_of 1000 ?_)
      | with_reducible refine next_of 1000 ?_
      | (refine condS_split (fun h => ?_) (fun h => ?_) <;> (try simp only [bne_iff_ne, ne_eq, beq_iff_eq, decide_eq_true_eq, decide_eq_false_iff_not, Bool.not_eq_true, Bool.not_eq_false, Bool.not_true, Bool.not_false, bne_eq_false_iff_eq, beq_eq_false_iff_ne, Bool.and_eq_true, Bool.or_eq_true, Bool.and_eq_false_imp, Bool.or_eq_false_iff, Bool.not_eq_true', Bool.not_eq_false', Int.not_lt, Int.not_le] at h) <;> (try (exfalso; omega)))
      | (refine testS_split (fun h => ?_) (fun h => ?_) <;> (try simp only [bne_iff_ne, ne_eq, beq_iff_eq, decide_eq_true_eq, decide_eq_false_iff_not, Bool.not_eq_true, Bool.not_eq_false, Bool.not_true, Bool.not_false, bne_eq_false_iff_eq, beq_eq_false_iff_ne, Bool.and_eq_true, Bool.or_eq_true, Bool.and_eq_false_imp, Bool.or_eq_false_iff, Bool.not_eq_true', Bool.not_eq_false', Int.not_lt, Int.not_le] at h) <;> (try (exfalso; omega)))
      | (refine testD_split (fun h => ?_) (fun h => ?_) <;> (try simp only [bne_iff_ne, ne_eq, beq_iff_eq, decide_eq_true_eq, decide_eq_false_iff_not, Bool.not_eq_true, Bool.not_eq_false, Bool.not_true, Bool.not_false, bne_eq_false_iff_eq, beq_eq_false_iff_ne, Bool.and_eq_true, Bool.or_eq_true, Bool.and_eq_false_imp, Bool.or_eq_false_iff, Bool.not_eq_true', Bool.not_eq_false', Int.not_lt, Int.not_le] at h) <;> (try (exfalso; omega))))
  · rw [if_neg hy0] at c2
    have hyp : 0 < y := Nat.pos_of_ne_zero hy0
    have hq : x / y < 115792089237316195423570985008687907853269984665640564039457584007913129639936 := Nat.lt_of_le_of_lt (Nat.div_le_self _ _) hx
    have hr : x % y < 115792089237316195423570985008687907853269984665640564039457584007913129639936 := Nat.lt_of_le_of_lt (Nat.mod_le _ _) hx
    have hsl := sdivN_lt (y := y) hx
    have htl := smodN_lt (y := y) hx
    have c5 := mul_p _ y hq hy
    have c6 := add_p _ _ (mW (x / y * y)) hr
    have hle : x / y * y ≤ x := Nat.div_mul_le_self _ _
    rw [show (x / y * y % 115792089237316195423570985008687907853269984665640564039457584007913129639936 + x % y) % 115792089237316195423570985008687907853269984665640564039457584007913129639936 = x by
      rw [Nat.mod_eq_of_lt (by omega : x / y * y < 115792089237316195423570985008687907853269984665640564039457584007913129639936), Nat.mul_comm, Nat.div_add_mod, Nat.mod_eq_of_lt hx]] at c6
    have c7 := cmp_p _ y hr hy
    rw [cmpI_lt (Nat.mod_lt _ hyp)] at c7
    have c8 := cmp_p _ x hq hx
    have c9 := mul_p _ y hsl hy
    have c10 := add_p _ _ (mW (sdivN x y * y)) htl
    rw [signed_back hx hy hy0] at c10
    have c11 := below_p _ htl
    have c12 := below_p x hx
    have hsb := smod_below hx hy hy0
    have hc := cmpI_le (Nat.div_le_self x y)
    obtain ⟨q, eq⟩ : ∃ q, q = x / y := ⟨_, rfl⟩
    obtain ⟨r, er⟩ : ∃ r, r = x % y := ⟨_, rfl⟩
    obtain ⟨s, es⟩ : ∃ s, s = sdivN x y := ⟨_, rfl⟩
    obtain ⟨t, et⟩ : ∃ t, t = smodN x y := ⟨_, rfl⟩
    rw [← eq] at c1 c5 c6 c8 hc
    rw [← er] at c2 c6 c7
    rw [← es] at c3 c9 c10
    rw [← et] at c4 c10 c11 hsb
    obtain ⟨a, ea⟩ : ∃ a, a = q * y % 115792089237316195423570985008687907853269984665640564039457584007913129639936 := ⟨_, rfl⟩
    obtain ⟨b, eb⟩ : ∃ b, b = s * y % 115792089237316195423570985008687907853269984665640564039457584007913129639936 := ⟨_, rfl⟩
    obtain ⟨k, ek⟩ : ∃ k, k = cmpI (q : Int) (x : Int) := ⟨_, rfl⟩
    rw [← ea] at c5 c6
    rw [← eb] at c9 c10
    rw [← ek] at c8 hc
    clear eq er es et ea eb ek
    by_cases ht : t = 0
    · refine pure_p (args := [wE x, wE y]) en10 (by simp [closed, closeds, closed_wE, closeds_ints]) Tryd.func10 rfl in10 (by simp [Tryd.f10]) (by simp [closeds, closed, closed_wE, closeds_ints]) (fun w => next_of 1000 ?_)
      simp (maxSteps := 4000000) (disch := omega) only [go_sem, Nat.reduceBEq, Nat.reduceAdd, Nat.reduceMul, Nat.reduceSub, Nat.reduceLT, Nat.reduceLeDiff, Int.reduceToNat, Int.reduceLT, Int.reduceLE, Int.reduceAdd, Int.reduceMul, Int.reduceSub, Int.reduceNeg, Int.reduceDiv, Int.reduceMod, Nat.reduceBNe, Nat.reduceGT, Int.reduceBEq, Int.reduceBNe, Int.reduceGT, Nat.reduceDiv, Nat.reduceMod, Nat.reducePow, Int.reducePow, gt_iff_lt, ge_iff_le, List.reduceReplicate, ↓reduceIte, Tryd.f10]
      repeat (with_reducible refine And.intro (by first | omega | assumption | (constructor <;> assumption) | (simp; done) | (simp; omega) | (simp [*]; done)) ?_)
      repeat' (first
        | with_reducible refine And.intro (by first | omega | assumption | (constructor <;> assumption) | (simp; done) | (simp; omega) | (simp [*]; done)) ?_
        | simp (maxSteps := 4000000) (disch := omega) only [go_sem, Nat.reduceBEq, Nat.reduceAdd, Nat.reduceMul, Nat.reduceSub, Nat.reduceLT, Nat.reduceLeDiff, Int.reduceToNat, Int.reduceLT, Int.reduceLE, Int.reduceAdd, Int.reduceMul, Int.reduceSub, Int.reduceNeg, Int.reduceDiv, Int.reduceMod, Nat.reduceBNe, Nat.reduceGT, Int.reduceBEq, Int.reduceBNe, Int.reduceGT, Nat.reduceDiv, Nat.reduceMod, Nat.reducePow, Int.reducePow, gt_iff_lt, ge_iff_le, List.reduceReplicate, ↓reduceIte, z4e]
        | with_reducible refine roundS (next_of 1000 ?_)
        | with_reducible refine drawN_of (id := 3) mixed (by kernel_rfl) (by simp; done) (dg_of 1000 ?_)
        | with_reducible refine endN_of (by kernel_rfl) rfl (by simp [nmRes, off_eq, offL, av, avs, EObj.av, sentE, avs_ints, avs_wC, hasEdge_eq, edgeL, Region.binds]) (next_of 1000 ?_)
        | with_reducible refine drawS_of mixed (by kernel_rfl) (dg_of 1000 ?_)
        | with_reducible refine endD_of (by kernel_rfl) (next_of 1000 ?_)
        | refine callS_p (c1) (next_of 1000 ?_)
        | refine callD_p (c1) (dg_of 1000 ?_)
        | refine callS_p (c2) (next_of 1000 ?_)
        | refine callD_p (c2) (dg_of 1000 ?_)
        | refine callS_p (c3) (next_of 1000 ?_)
        | refine callD_p (c3) (dg_of 1000 ?_)
        | refine callS_p (c4) (next_of 1000 ?_)
        | refine callD_p (c4) (dg_of 1000 ?_)
        | refine callS_p (c5) (next_of 1000 ?_)
        | refine callD_p (c5) (dg_of 1000 ?_)
        | refine callS_p (c6) (next_of 1000 ?_)
        | refine callD_p (c6) (dg_of 1000 ?_)
        | refine callS_p (c7) (next_of 1000 ?_)
        | refine callD_p (c7) (dg_of 1000 ?_)
        | refine callS_p (c8) (next_of 1000 ?_)
        | refine callD_p (c8) (dg_of 1000 ?_)
        | refine callS_p (c9) (next_of 1000 ?_)
        | refine callD_p (c9) (dg_of 1000 ?_)
        | refine callS_p (c10) (next_of 1000 ?_)
        | refine callD_p (c10) (dg_of 1000 ?_)
        | refine callS_p (c11) (next_of 1000 ?_)
        | refine callD_p (c11) (dg_of 1000 ?_)
        | refine callS_p (c12) (next_of 1000 ?_)
        | refine callD_p (c12) (dg_of 1000 ?_)
        | refine callS_p (awake_p) (next_of 1000 ?_)
        | refine callD_p (awake_p) (dg_of 1000 ?_)
        | with_reducible refine next_of 1000 ?_
        | (refine condS_split (fun h => ?_) (fun h => ?_) <;> (try simp only [bne_iff_ne, ne_eq, beq_iff_eq, decide_eq_true_eq, decide_eq_false_iff_not, Bool.not_eq_true, Bool.not_eq_false, Bool.not_true, Bool.not_false, bne_eq_false_iff_eq, beq_eq_false_iff_ne, Bool.and_eq_true, Bool.or_eq_true, Bool.and_eq_false_imp, Bool.or_eq_false_iff, Bool.not_eq_true', Bool.not_eq_false', Int.not_lt, Int.not_le] at h) <;> (try (exfalso; omega)))
        | (refine testS_split (fun h => ?_) (fun h => ?_) <;> (try simp only [bne_iff_ne, ne_eq, beq_iff_eq, decide_eq_true_eq, decide_eq_false_iff_not, Bool.not_eq_true, Bool.not_eq_false, Bool.not_true, Bool.not_false, bne_eq_false_iff_eq, beq_eq_false_iff_ne, Bool.and_eq_true, Bool.or_eq_true, Bool.and_eq_false_imp, Bool.or_eq_false_iff, Bool.not_eq_true', Bool.not_eq_false', Int.not_lt, Int.not_le] at h) <;> (try (exfalso; omega)))
        | (refine testD_split (fun h => ?_) (fun h => ?_) <;> (try simp only [bne_iff_ne, ne_eq, beq_iff_eq, decide_eq_true_eq, decide_eq_false_iff_not, Bool.not_eq_true, Bool.not_eq_false, Bool.not_true, Bool.not_false, bne_eq_false_iff_eq, beq_eq_false_iff_ne, Bool.and_eq_true, Bool.or_eq_true, Bool.and_eq_false_imp, Bool.or_eq_false_iff, Bool.not_eq_true', Bool.not_eq_false', Int.not_lt, Int.not_le] at h) <;> (try (exfalso; omega))))
    · rw [show decide (57896044618658097711785492504343953926634992332820282019728792003956564819968 ≤ t) = decide (57896044618658097711785492504343953926634992332820282019728792003956564819968 ≤ x) by rw [decide_eq_decide]; exact hsb ht] at c11
      refine pure_p (args := [wE x, wE y]) en10 (by simp [closed, closeds, closed_wE, closeds_ints]) Tryd.func10 rfl in10 (by simp [Tryd.f10]) (by simp [closeds, closed, closed_wE, closeds_ints]) (fun w => next_of 1000 ?_)
      simp (maxSteps := 4000000) (disch := omega) only [go_sem, Nat.reduceBEq, Nat.reduceAdd, Nat.reduceMul, Nat.reduceSub, Nat.reduceLT, Nat.reduceLeDiff, Int.reduceToNat, Int.reduceLT, Int.reduceLE, Int.reduceAdd, Int.reduceMul, Int.reduceSub, Int.reduceNeg, Int.reduceDiv, Int.reduceMod, Nat.reduceBNe, Nat.reduceGT, Int.reduceBEq, Int.reduceBNe, Int.reduceGT, Nat.reduceDiv, Nat.reduceMod, Nat.reducePow, Int.reducePow, gt_iff_lt, ge_iff_le, List.reduceReplicate, ↓reduceIte, Tryd.f10]
      repeat (with_reducible refine And.intro (by first | omega | assumption | (constructor <;> assumption) | (simp; done) | (simp; omega) | (simp [*]; done)) ?_)
      repeat' (first
        | with_reducible refine And.intro (by first | omega | assumption | (constructor <;> assumption) | (simp; done) | (simp; omega) | (simp [*]; done)) ?_
        | simp (maxSteps := 4000000) (disch := omega) only [go_sem, Nat.reduceBEq, Nat.reduceAdd, Nat.reduceMul, Nat.reduceSub, Nat.reduceLT, Nat.reduceLeDiff, Int.reduceToNat, Int.reduceLT, Int.reduceLE, Int.reduceAdd, Int.reduceMul, Int.reduceSub, Int.reduceNeg, Int.reduceDiv, Int.reduceMod, Nat.reduceBNe, Nat.reduceGT, Int.reduceBEq, Int.reduceBNe, Int.reduceGT, Nat.reduceDiv, Nat.reduceMod, Nat.reducePow, Int.reducePow, gt_iff_lt, ge_iff_le, List.reduceReplicate, ↓reduceIte, z4e]
        | with_reducible refine roundS (next_of 1000 ?_)
        | with_reducible refine drawN_of (id := 3) mixed (by kernel_rfl) (by simp; done) (dg_of 1000 ?_)
        | with_reducible refine endN_of (by kernel_rfl) rfl (by simp [nmRes, off_eq, offL, av, avs, EObj.av, sentE, avs_ints, avs_wC, hasEdge_eq, edgeL, Region.binds]) (next_of 1000 ?_)
        | with_reducible refine drawS_of mixed (by kernel_rfl) (dg_of 1000 ?_)
        | with_reducible refine endD_of (by kernel_rfl) (next_of 1000 ?_)
        | refine callS_p (c1) (next_of 1000 ?_)
        | refine callD_p (c1) (dg_of 1000 ?_)
        | refine callS_p (c2) (next_of 1000 ?_)
        | refine callD_p (c2) (dg_of 1000 ?_)
        | refine callS_p (c3) (next_of 1000 ?_)
        | refine callD_p (c3) (dg_of 1000 ?_)
        | refine callS_p (c4) (next_of 1000 ?_)
        | refine callD_p (c4) (dg_of 1000 ?_)
        | refine callS_p (c5) (next_of 1000 ?_)
        | refine callD_p (c5) (dg_of 1000 ?_)
        | refine callS_p (c6) (next_of 1000 ?_)
        | refine callD_p (c6) (dg_of 1000 ?_)
        | refine callS_p (c7) (next_of 1000 ?_)
        | refine callD_p (c7) (dg_of 1000 ?_)
        | refine callS_p (c8) (next_of 1000 ?_)
        | refine callD_p (c8) (dg_of 1000 ?_)
        | refine callS_p (c9) (next_of 1000 ?_)
        | refine callD_p (c9) (dg_of 1000 ?_)
        | refine callS_p (c10) (next_of 1000 ?_)
        | refine callD_p (c10) (dg_of 1000 ?_)
        | refine callS_p (c11) (next_of 1000 ?_)
        | refine callD_p (c11) (dg_of 1000 ?_)
        | refine callS_p (c12) (next_of 1000 ?_)
        | refine callD_p (c12) (dg_of 1000 ?_)
        | refine callS_p (awake_p) (next_of 1000 ?_)
        | refine callD_p (awake_p) (dg_of 1000 ?_)
        | with_reducible refine next_of 1000 ?_
        | (refine condS_split (fun h => ?_) (fun h => ?_) <;> (try simp only [bne_iff_ne, ne_eq, beq_iff_eq, decide_eq_true_eq, decide_eq_false_iff_not, Bool.not_eq_true, Bool.not_eq_false, Bool.not_true, Bool.not_false, bne_eq_false_iff_eq, beq_eq_false_iff_ne, Bool.and_eq_true, Bool.or_eq_true, Bool.and_eq_false_imp, Bool.or_eq_false_iff, Bool.not_eq_true', Bool.not_eq_false', Int.not_lt, Int.not_le] at h) <;> (try (exfalso; omega)))
        | (refine testS_split (fun h => ?_) (fun h => ?_) <;> (try simp only [bne_iff_ne, ne_eq, beq_iff_eq, decide_eq_true_eq, decide_eq_false_iff_not, Bool.not_eq_true, Bool.not_eq_false, Bool.not_true, Bool.not_false, bne_eq_false_iff_eq, beq_eq_false_iff_ne, Bool.and_eq_true, Bool.or_eq_true, Bool.and_eq_false_imp, Bool.or_eq_false_iff, Bool.not_eq_true', Bool.not_eq_false', Int.not_lt, Int.not_le] at h) <;> (try (exfalso; omega)))
        | (refine testD_split (fun h => ?_) (fun h => ?_) <;> (try simp only [bne_iff_ne, ne_eq, beq_iff_eq, decide_eq_true_eq, decide_eq_false_iff_not, Bool.not_eq_true, Bool.not_eq_false, Bool.not_true, Bool.not_false, bne_eq_false_iff_eq, beq_eq_false_iff_ne, Bool.and_eq_true, Bool.or_eq_true, Bool.and_eq_false_imp, Bool.or_eq_false_iff, Bool.not_eq_true', Bool.not_eq_false', Int.not_lt, Int.not_le] at h) <;> (try (exfalso; omega))))
end Go.Proofs.YtbilnedgpgpanaaDoor
