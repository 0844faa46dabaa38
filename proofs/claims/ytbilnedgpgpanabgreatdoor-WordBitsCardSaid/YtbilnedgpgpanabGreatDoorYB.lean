/- Part of a proof over the seat YtbilnedgpgpanabGreatDoor. -/
import Derived.Test.YtbilnedgpgpanabGreatDoorYA
import Derived.Test.YtbilnedgpgpanabGreatDoorXM
namespace Go.Proofs.YtbilnedgpgpanabGreatDoor
open Go RowKit Go.Ew
set_option maxRecDepth 100000
set_option linter.unusedSimpArgs false
set_option linter.unusedVariables false
set_option maxHeartbeats 2000000
theorem in7 : codeIn Tryz.f7.ntmps (Tryz.f7.body.getD .skip) = true := by kernel_rfl
theorem in10 : codeIn Tryz.f10.ntmps (Tryz.f10.body.getD .skip) = true := by kernel_rfl
theorem in42 : codeIn Tryz.f42.ntmps (Tryz.f42.body.getD .skip) = true := by kernel_rfl
theorem in16 : codeIn Tryz.f16.ntmps (Tryz.f16.body.getD .skip) = true := by kernel_rfl
theorem in24 : codeIn Tryz.f24.ntmps (Tryz.f24.body.getD .skip) = true := by kernel_rfl
theorem cmpI_of {a b c d : Int} (h1 : a < b ↔ c < d) (h2 : b < a ↔ d < c) : cmpI a b = cmpI c d := by
  unfold cmpI
  simp only [h1, h2]
theorem rscmp_p (x y : Nat) (hx : x < 115792089237316195423570985008687907853269984665640564039457584007913129639936) (hy : y < 115792089237316195423570985008687907853269984665640564039457584007913129639936) : Pure Tryz.prog 7 [wE x, wE y] (.int .i64 (cmpI ((x + 57896044618658097711785492504343953926634992332820282019728792003956564819968) % 115792089237316195423570985008687907853269984665640564039457584007913129639936 : Nat) ((y + 57896044618658097711785492504343953926634992332820282019728792003956564819968) % 115792089237316195423570985008687907853269984665640564039457584007913129639936 : Nat))) := by
  have c1 := rbelow_p x hx
  have c2 := rbelow_p y hy
  have c3 := rcmp_p x y hx hy
  by_cases h1 : 57896044618658097711785492504343953926634992332820282019728792003956564819968 ≤ x
  · rw [show decide (57896044618658097711785492504343953926634992332820282019728792003956564819968 ≤ x) = true by simp [h1]] at c1
    by_cases h2 : 57896044618658097711785492504343953926634992332820282019728792003956564819968 ≤ y
    · rw [show decide (57896044618658097711785492504343953926634992332820282019728792003956564819968 ≤ y) = true by simp [h2]] at c2
      rw [show cmpI ((x + 57896044618658097711785492504343953926634992332820282019728792003956564819968) % 115792089237316195423570985008687907853269984665640564039457584007913129639936 : Nat) ((y + 57896044618658097711785492504343953926634992332820282019728792003956564819968) % 115792089237316195423570985008687907853269984665640564039457584007913129639936 : Nat) = cmpI (x : Int) (y : Int) from cmpI_of (by omega) (by omega)]
      generalize cmpI (x : Int) (y : Int) = r at *
      refine pure_p (args := [wE x, wE y]) en7 (by simp [closed, closeds, closed_wE, closeds_ints]) Tryz.func7 rfl in7 (by simp [Tryz.f7]) (by simp [closeds, closed, closed_wE, closeds_ints]) (fun w => next_of 1000 ?_)
      simp (maxSteps := 4000000) (disch := omega) only [go_sem, Nat.reduceBEq, Nat.reduceAdd, Nat.reduceMul, Nat.reduceSub, Nat.reduceLT, Nat.reduceLeDiff, Int.reduceToNat, Int.reduceLT, Int.reduceLE, Int.reduceAdd, Int.reduceMul, Int.reduceSub, Int.reduceNeg, Int.reduceDiv, Int.reduceMod, Nat.reduceBNe, Nat.reduceGT, Int.reduceBEq, Int.reduceBNe, Int.reduceGT, Nat.reduceDiv, Nat.reduceMod, Nat.reducePow, Int.reducePow, gt_iff_lt, ge_iff_le, List.reduceReplicate, ↓reduceIte, Tryz.f7]
      repeat (with_reducible refine And.intro (by first | omega | assumption | (constructor <;> assumption) | (simp; done) | (simp; omega) | (simp [*]; done)) ?_)
      repeat' (first
        | with_reducible refine And.intro (by first | omega | assumption | (constructor <;> assumption) | (simp; done) | (simp; omega) | (simp [*]; done)) ?_
        | simp (maxSteps := 4000000) (disch := omega) only [go_sem, Nat.reduceBEq, Nat.reduceAdd, Nat.reduceMul, Nat.reduceSub, Nat.reduceLT, Nat.reduceLeDiff, Int.reduceToNat, Int.reduceLT, Int.reduceLE, Int.reduceAdd, Int.reduceMul, Int.reduceSub, Int.reduceNeg, Int.reduceDiv, Int.reduceMod, Nat.reduceBNe, Nat.reduceGT, Int.reduceBEq, Int.reduceBNe, Int.reduceGT, Nat.reduceDiv, Nat.reduceMod, Nat.reducePow, Int.reducePow, gt_iff_lt, ge_iff_le, List.reduceReplicate, ↓reduceIte]
        | with_reducible refine roundS (next_of 1000 ?_)
        | with_reducible refine drawS_of mixed (by kernel_rfl) (dg_of 1000 ?_)
        | with_reducible refine endD_of (by kernel_rfl) (next_of 1000 ?_)
        | refine callS_p (c1) (next_of 1000 ?_)
        | refine callD_p (c1) (dg_of 1000 ?_)
        | refine callS_p (c2) (next_of 1000 ?_)
        | refine callD_p (c2) (dg_of 1000 ?_)
        | refine callS_p (c3) (next_of 1000 ?_)
        | refine callD_p (c3) (dg_of 1000 ?_)
        | with_reducible refine next_of 1000 ?_
        | ((first | refine condS_split (fun h => ?_) (fun h => ?_) | refine testS_split (fun h => ?_) (fun h => ?_) | refine testD_split (fun h => ?_) (fun h => ?_)) <;> (try simp only [bne_iff_ne, ne_eq, beq_iff_eq, decide_eq_true_eq, decide_eq_false_iff_not, Bool.not_eq_true, Bool.not_eq_false, Bool.not_true, Bool.not_false, bne_eq_false_iff_eq, beq_eq_false_iff_ne, Bool.and_eq_true, Bool.or_eq_true, Bool.and_eq_false_imp, Bool.or_eq_false_iff, Bool.not_eq_true', Bool.not_eq_false', Int.not_lt, Int.not_le] at h) <;> (try (exfalso; omega))))
    · rw [show decide (57896044618658097711785492504343953926634992332820282019728792003956564819968 ≤ y) = false by simp [h2]] at c2
      rw [show cmpI ((x + 57896044618658097711785492504343953926634992332820282019728792003956564819968) % 115792089237316195423570985008687907853269984665640564039457584007913129639936 : Nat) ((y + 57896044618658097711785492504343953926634992332820282019728792003956564819968) % 115792089237316195423570985008687907853269984665640564039457584007913129639936 : Nat) = -1 by unfold cmpI; rw [if_pos (by omega)]]
      refine pure_p (args := [wE x, wE y]) en7 (by simp [closed, closeds, closed_wE, closeds_ints]) Tryz.func7 rfl in7 (by simp [Tryz.f7]) (by simp [closeds, closed, closed_wE, closeds_ints]) (fun w => next_of 1000 ?_)
      simp (maxSteps := 4000000) (disch := omega) only [go_sem, Nat.reduceBEq, Nat.reduceAdd, Nat.reduceMul, Nat.reduceSub, Nat.reduceLT, Nat.reduceLeDiff, Int.reduceToNat, Int.reduceLT, Int.reduceLE, Int.reduceAdd, Int.reduceMul, Int.reduceSub, Int.reduceNeg, Int.reduceDiv, Int.reduceMod, Nat.reduceBNe, Nat.reduceGT, Int.reduceBEq, Int.reduceBNe, Int.reduceGT, Nat.reduceDiv, Nat.reduceMod, Nat.reducePow, Int.reducePow, gt_iff_lt, ge_iff_le, List.reduceReplicate, ↓reduceIte, Tryz.f7]
      repeat (with_reducible refine And.intro (by first | omega | assumption | (constructor <;> assumption) | (simp; done) | (simp; omega) | (simp [*]; done)) ?_)
      repeat' (first
        | with_reducible refine And.intro (by first | omega | assumption | (constructor <;> assumption) | (simp; done) | (simp; omega) | (simp [*]; done)) ?_
        | simp (maxSteps := 4000000) (disch := omega) only [go_sem, Nat.reduceBEq, Nat.reduceAdd, Nat.reduceMul, Nat.reduceSub, Nat.reduceLT, Nat.reduceLeDiff, Int.reduceToNat, Int.reduceLT, Int.reduceLE, Int.reduceAdd, Int.reduceMul, Int.reduceSub, Int.reduceNeg, Int.reduceDiv, Int.reduceMod, Nat.reduceBNe, Nat.reduceGT, Int.reduceBEq, Int.reduceBNe, Int.reduceGT, Nat.reduceDiv, Nat.reduceMod, Nat.reducePow, Int.reducePow, gt_iff_lt, ge_iff_le, List.reduceReplicate, ↓reduceIte]
        | with_reducible refine roundS (next_of 1000 ?_)
        | with_reducible refine drawS_of mixed (by kernel_rfl) (dg_of 1000 ?_)
        | with_reducible refine endD_of (by kernel_rfl) (next_of 1000 ?_)
        | refine callS_p (c1) (next_of 1000 ?_)
        | refine callD_p (c1) (dg_of 1000 ?_)
        | refine callS_p (c2) (next_of 1000 ?_)
        | refine callD_p (c2) (dg_of 1000 ?_)
        | refine callS_p (c3) (next_of 1000 ?_)
        | refine callD_p (c3) (dg_of 1000 ?_)
        | with_reducible refine next_of 1000 ?_
        | ((first | refine condS_split (fun h => ?_) (fun h => ?_) | refine testS_split (fun h => ?_) (fun h => ?_) | refine testD_split (fun h => ?_) (fun h => ?_)) <;> (try simp only [bne_iff_ne, ne_eq, beq_iff_eq, decide_eq_true_eq, decide_eq_false_iff_not, Bool.not_eq_true, Bool.not_eq_false, Bool.not_true, Bool.not_false, bne_eq_false_iff_eq, beq_eq_false_iff_ne, Bool.and_eq_true, Bool.or_eq_true, Bool.and_eq_false_imp, Bool.or_eq_false_iff, Bool.not_eq_true', Bool.not_eq_false', Int.not_lt, Int.not_le] at h) <;> (try (exfalso; omega))))
      all_goals (try contradiction)
  · rw [show decide (57896044618658097711785492504343953926634992332820282019728792003956564819968 ≤ x) = false by simp [h1]] at c1
    by_cases h2 : 57896044618658097711785492504343953926634992332820282019728792003956564819968 ≤ y
    · rw [show decide (57896044618658097711785492504343953926634992332820282019728792003956564819968 ≤ y) = true by simp [h2]] at c2
      rw [show cmpI ((x + 57896044618658097711785492504343953926634992332820282019728792003956564819968) % 115792089237316195423570985008687907853269984665640564039457584007913129639936 : Nat) ((y + 57896044618658097711785492504343953926634992332820282019728792003956564819968) % 115792089237316195423570985008687907853269984665640564039457584007913129639936 : Nat) = 1 by unfold cmpI; rw [if_neg (by omega), if_pos (by omega)]]
      refine pure_p (args := [wE x, wE y]) en7 (by simp [closed, closeds, closed_wE, closeds_ints]) Tryz.func7 rfl in7 (by simp [Tryz.f7]) (by simp [closeds, closed, closed_wE, closeds_ints]) (fun w => next_of 1000 ?_)
      simp (maxSteps := 4000000) (disch := omega) only [go_sem, Nat.reduceBEq, Nat.reduceAdd, Nat.reduceMul, Nat.reduceSub, Nat.reduceLT, Nat.reduceLeDiff, Int.reduceToNat, Int.reduceLT, Int.reduceLE, Int.reduceAdd, Int.reduceMul, Int.reduceSub, Int.reduceNeg, Int.reduceDiv, Int.reduceMod, Nat.reduceBNe, Nat.reduceGT, Int.reduceBEq, Int.reduceBNe, Int.reduceGT, Nat.reduceDiv, Nat.reduceMod, Nat.reducePow, Int.reducePow, gt_iff_lt, ge_iff_le, List.reduceReplicate, ↓reduceIte, Tryz.f7]
      repeat (with_reducible refine And.intro (by first | omega | assumption | (constructor <;> assumption) | (simp; done) | (simp; omega) | (simp [*]; done)) ?_)
      repeat' (first
        | with_reducible refine And.intro (by first | omega | assumption | (constructor <;> assumption) | (simp; done) | (simp; omega) | (simp [*]; done)) ?_
        | simp (maxSteps := 4000000) (disch := omega) only [go_sem, Nat.reduceBEq, Nat.reduceAdd, Nat.reduceMul, Nat.reduceSub, Nat.reduceLT, Nat.reduceLeDiff, Int.reduceToNat, Int.reduceLT, Int.reduceLE, Int.reduceAdd, Int.reduceMul, Int.reduceSub, Int.reduceNeg, Int.reduceDiv, Int.reduceMod, Nat.reduceBNe, Nat.reduceGT, Int.reduceBEq, Int.reduceBNe, Int.reduceGT, Nat.reduceDiv, Nat.reduceMod, Nat.reducePow, Int.reducePow, gt_iff_lt, ge_iff_le, List.reduceReplicate, ↓reduceIte]
        | with_reducible refine roundS (next_of 1000 ?_)
        | with_reducible refine drawS_of mixed (by kernel_rfl) (dg_of 1000 ?_)
        | with_reducible refine endD_of (by kernel_rfl) (next_of 1000 ?_)
        | refine callS_p (c1) (next_of 1000 ?_)
        | refine callD_p (c1) (dg_of 1000 ?_)
        | refine callS_p (c2) (next_of 1000 ?_)
        | refine callD_p (c2) (dg_of 1000 ?_)
        | refine callS_p (c3) (next_of 1000 ?_)
        | refine callD_p (c3) (dg_of 1000 ?_)
        | with_reducible refine next_of 1000 ?_
        | ((first | refine condS_split (fun h => ?_) (fun h => ?_) | refine testS_split (fun h => ?_) (fun h => ?_) | refine testD_split (fun h => ?_) (fun h => ?_)) <;> (try simp only [bne_iff_ne, ne_eq, beq_iff_eq, decide_eq_true_eq, decide_eq_false_iff_not, Bool.not_eq_true, Bool.not_eq_false, Bool.not_true, Bool.not_false, bne_eq_false_iff_eq, beq_eq_false_iff_ne, Bool.and_eq_true, Bool.or_eq_true, Bool.and_eq_false_imp, Bool.or_eq_false_iff, Bool.not_eq_true', Bool.not_eq_false', Int.not_lt, Int.not_le] at h) <;> (try (exfalso; omega))))
      all_goals (try contradiction)
    · rw [show decide (57896044618658097711785492504343953926634992332820282019728792003956564819968 ≤ y) = false by simp [h2]] at c2
      rw [show cmpI ((x + 57896044618658097711785492504343953926634992332820282019728792003956564819968) % 115792089237316195423570985008687907853269984665640564039457584007913129639936 : Nat) ((y + 57896044618658097711785492504343953926634992332820282019728792003956564819968) % 115792089237316195423570985008687907853269984665640564039457584007913129639936 : Nat) = cmpI (x : Int) (y : Int) from cmpI_of (by omega) (by omega)]
      generalize cmpI (x : Int) (y : Int) = r at *
      refine pure_p (args := [wE x, wE y]) en7 (by simp [closed, closeds, closed_wE, closeds_ints]) Tryz.func7 rfl in7 (by simp [Tryz.f7]) (by simp [closeds, closed, closed_wE, closeds_ints]) (fun w => next_of 1000 ?_)
      simp (maxSteps := 4000000) (disch := omega) only [go_sem, Nat.reduceBEq, Nat.reduceAdd, Nat.reduceMul, Nat.reduceSub, Nat.reduceLT, Nat.reduceLeDiff, Int.reduceToNat, Int.reduceLT, Int.reduceLE, Int.reduceAdd, Int.reduceMul, Int.reduceSub, Int.reduceNeg, Int.reduceDiv, Int.reduceMod, Nat.reduceBNe, Nat.reduceGT, Int.reduceBEq, Int.reduceBNe, Int.reduceGT, Nat.reduceDiv, Nat.reduceMod, Nat.reducePow, Int.reducePow, gt_iff_lt, ge_iff_le, List.reduceReplicate, ↓reduceIte, Tryz.f7]
      repeat (with_reducible refine And.intro (by first | omega | assumption | (constructor <;> assumption) | (simp; done) | (simp; omega) | (simp [*]; done)) ?_)
      repeat' (first
        | with_reducible refine And.intro (by first | omega | assumption | (constructor <;> assumption) | (simp; done) | (simp; omega) | (simp [*]; done)) ?_
        | simp (maxSteps := 4000000) (disch := omega) only [go_sem, Nat.reduceBEq, Nat.reduceAdd, Nat.reduceMul, Nat.reduceSub, Nat.reduceLT, Nat.reduceLeDiff, Int.reduceToNat, Int.reduceLT, Int.reduceLE, Int.reduceAdd, Int.reduceMul, Int.reduceSub, Int.reduceNeg, Int.reduceDiv, Int.reduceMod, Nat.reduceBNe, Nat.reduceGT, Int.reduceBEq, Int.reduceBNe, Int.reduceGT, Nat.reduceDiv, Nat.reduceMod, Nat.reducePow, Int.reducePow, gt_iff_lt, ge_iff_le, List.reduceReplicate, ↓reduceIte]
        | with_reducible refine roundS (next_of 1000 ?_)
        | with_reducible refine drawS_of mixed (by kernel_rfl) (dg_of 1000 ?_)
        | with_reducible refine endD_of (by kernel_rfl) (next_of 1000 ?_)
        | refine callS_p (c1) (next_of 1000 ?_)
        | refine callD_p (c1) (dg_of 1000 ?_)
        | refine callS_p (c2) (next_of 1000 ?_)
        | refine callD_p (c2) (dg_of 1000 ?_)
        | refine callS_p (c3) (next_of 1000 ?_)
        | refine callD_p (c3) (dg_of 1000 ?_)
        | with_reducible refine next_of 1000 ?_
        | ((first | refine condS_split (fun h => ?_) (fun h => ?_) | refine testS_split (fun h => ?_) (fun h => ?_) | refine testD_split (fun h => ?_) (fun h => ?_)) <;> (try simp only [bne_iff_ne, ne_eq, beq_iff_eq, decide_eq_true_eq, decide_eq_false_iff_not, Bool.not_eq_true, Bool.not_eq_false, Bool.not_true, Bool.not_false, bne_eq_false_iff_eq, beq_eq_false_iff_ne, Bool.and_eq_true, Bool.or_eq_true, Bool.and_eq_false_imp, Bool.or_eq_false_iff, Bool.not_eq_true', Bool.not_eq_false', Int.not_lt, Int.not_le] at h) <;> (try (exfalso; omega))))
def lg (k a b : Nat) : Nat := if k = 2 then (a + b) % 2 else if k = 1 then a + b - a * b else a * b
theorem bits01 (n : Nat) : n % 2 = 0 ∨ n % 2 = 1 := by omega
theorem lg_le {k a b : Nat} (ha : a = 0 ∨ a = 1) (hb : b = 0 ∨ b = 1) : lg k a b ≤ 1 := by
  unfold lg; rcases ha with rfl | rfl <;> rcases hb with rfl | rfl <;> (split <;> (try split) <;> omega)
theorem logic_p (x y k : Nat) (hx : x < 115792089237316195423570985008687907853269984665640564039457584007913129639936) (hy : y < 115792089237316195423570985008687907853269984665640564039457584007913129639936) (hk : k < 3) : Pure Tryz.prog 10 [wE x, wE y, .int .i64 (k : Nat)] (wE (bsum (fun j => lg k (x / 2 ^ j % 2) (y / 2 ^ j % 2)) 256)) := by
  have hle : ∀ j, lg k (x / 2 ^ j % 2) (y / 2 ^ j % 2) ≤ 1 := fun j => lg_le (bits01 _) (bits01 _)
  refine pure_p (args := [wE x, wE y, .int .i64 (k : Nat)]) en10 (by simp [closed, closeds, closed_wE, closeds_ints]) Tryz.func10 rfl in10 (by simp [Tryz.f10]) (by simp [closeds, closed, closed_wE, closeds_ints]) (fun w => next_of 1000 ?_)
  simp (maxSteps := 4000000) (disch := omega) only [go_sem, Nat.reduceBEq, Nat.reduceAdd, Nat.reduceMul, Nat.reduceSub, Nat.reduceLT, Nat.reduceLeDiff, Int.reduceToNat, Int.reduceLT, Int.reduceLE, Int.reduceAdd, Int.reduceMul, Int.reduceSub, Int.reduceNeg, Int.reduceDiv, Int.reduceMod, Nat.reduceBNe, Nat.reduceGT, Int.reduceBEq, Int.reduceBNe, Int.reduceGT, Nat.reduceDiv, Nat.reduceMod, Nat.reducePow, Int.reducePow, gt_iff_lt, ge_iff_le, List.reduceReplicate, ↓reduceIte, Tryz.f10]
  repeat (with_reducible refine And.intro (by first | omega | assumption | (constructor <;> assumption) | (simp; done) | (simp; omega) | (simp [*]; done)) ?_)
  repeat' (first
    | with_reducible refine And.intro (by first | omega | assumption | (constructor <;> assumption) | (simp; done) | (simp; omega) | (simp [*]; done)) ?_
    | simp (maxSteps := 4000000) (disch := omega) only [go_sem, Nat.reduceBEq, Nat.reduceAdd, Nat.reduceMul, Nat.reduceSub, Nat.reduceLT, Nat.reduceLeDiff, Int.reduceToNat, Int.reduceLT, Int.reduceLE, Int.reduceAdd, Int.reduceMul, Int.reduceSub, Int.reduceNeg, Int.reduceDiv, Int.reduceMod, Nat.reduceBNe, Nat.reduceGT, Int.reduceBEq, Int.reduceBNe, Int.reduceGT, Nat.reduceDiv, Nat.reduceMod, Nat.reducePow, Int.reducePow, gt_iff_lt, ge_iff_le, List.reduceReplicate, ↓reduceIte]
    | with_reducible refine roundS (next_of 1000 ?_)
    | with_reducible refine drawS_of mixed (by kernel_rfl) (dg_of 1000 ?_)
    | with_reducible refine endD_of (by kernel_rfl) (next_of 1000 ?_)
    | with_reducible refine next_of 1000 ?_
    | ((first | refine condS_split (fun h => ?_) (fun h => ?_) | refine testS_split (fun h => ?_) (fun h => ?_) | refine testD_split (fun h => ?_) (fun h => ?_)) <;> (try simp only [bne_iff_ne, ne_eq, beq_iff_eq, decide_eq_true_eq, decide_eq_false_iff_not, Bool.not_eq_true, Bool.not_eq_false, Bool.not_true, Bool.not_false, bne_eq_false_iff_eq, beq_eq_false_iff_ne, Bool.and_eq_true, Bool.or_eq_true, Bool.and_eq_false_imp, Bool.or_eq_false_iff, Bool.not_eq_true', Bool.not_eq_false', Int.not_lt, Int.not_le] at h) <;> (try (exfalso; omega))))
  refine loopU (S := Nat) (fun i => i ≤ 256)
    (fun i => ⟨[(8, .int .i64 (i : Nat)), (7, .ptr 3 0), (6, .ptr 2 0), (4, .ptr 1 0), (3, .ptr 0 0), (2, .int .i64 (k : Nat))], 4,
      [(3, some (.cells (wC (bsum (fun j => lg k (x / 2 ^ j % 2) (y / 2 ^ j % 2)) i)) 23 (0, 0))), (2, some (.cells (wC 0) 23 (0, 0))), (1, some (.cells (wC y) 23 (0, 0))), (0, some (.cells (wC x) 23 (0, 0)))], base w, []⟩)
    (fun i => 256 - i) 0 (by omega) (Weak.sub (weak_of (by simp [wσ, go_sem, closed, closeds, closeds_ints, z4, bsum]) (by simp [whs, go_sem, EObj.closed, closed, closeds, closeds_ints, z4, bsum]) (by simp [*]) rfl rfl (by simp))) ?_
  intro i hi
  refine next_of 1000 ?_
  simp (maxSteps := 4000000) (disch := omega) only [go_sem, Nat.reduceBEq, Nat.reduceAdd, Nat.reduceMul, Nat.reduceSub, Nat.reduceLT, Nat.reduceLeDiff, Int.reduceToNat, Int.reduceLT, Int.reduceLE, Int.reduceAdd, Int.reduceMul, Int.reduceSub, Int.reduceNeg, Int.reduceDiv, Int.reduceMod, Nat.reduceBNe, Nat.reduceGT, Int.reduceBEq, Int.reduceBNe, Int.reduceGT, Nat.reduceDiv, Nat.reduceMod, Nat.reducePow, Int.reducePow, gt_iff_lt, ge_iff_le, List.reduceReplicate, ↓reduceIte]
  repeat (with_reducible refine And.intro (by first | omega | assumption | (constructor <;> assumption) | (simp; done) | (simp; omega) | (simp [*]; done)) ?_)
  refine condS_split (fun h => ?_) (fun h => ?_)
  all_goals (try simp only [bne_iff_ne, ne_eq, beq_iff_eq, decide_eq_true_eq, decide_eq_false_iff_not, Bool.not_eq_true, Bool.not_eq_false, Bool.not_true, Bool.not_false, bne_eq_false_iff_eq, beq_eq_false_iff_ne, Bool.and_eq_true, Bool.or_eq_true, Bool.and_eq_false_imp, Bool.or_eq_false_iff, Bool.not_eq_true', Bool.not_eq_false', Int.not_lt, Int.not_le] at h)
  · have hlt := bsum_lt hle i
    have hi256 : i < 256 := by omega
    have c1 := rbit_p x i hx hi256
    have c2 := rbit_p y i hy hi256
    have c3 := rsetbit_p _ i (lg k (x / 2 ^ i % 2) (y / 2 ^ i % 2)) hlt hi256 (hle i)
    generalize hb : bsum (fun j => lg k (x / 2 ^ j % 2) (y / 2 ^ j % 2)) i = o at *
    have hbn : bsum (fun j => lg k (x / 2 ^ j % 2) (y / 2 ^ j % 2)) (i + 1) = o + lg k (x / 2 ^ i % 2) (y / 2 ^ i % 2) * 2 ^ i := by rw [bsum, hb]
    have ha := bits01 (x / 2 ^ i)
    have hb2 := bits01 (y / 2 ^ i)
    generalize x / 2 ^ i % 2 = a at *
    generalize y / 2 ^ i % 2 = b at *
    have h3 : k = 0 ∨ k = 1 ∨ k = 2 := by omega
    have fin : ∀ v : Nat, v = lg k a b → o + v * 2 ^ i = o + lg k a b * 2 ^ i := fun v hv => by rw [hv]
    generalize hv : lg k a b = v at *
    generalize hoo : o + v * 2 ^ i = o2 at *
    clear fin hlt hle hb
    unfold lg at hv
    rcases h3 with rfl | rfl | rfl <;> rcases ha with rfl | rfl <;> rcases hb2 with rfl | rfl <;> simp at hv <;> subst hv
    all_goals repeat' (first
                | with_reducible refine And.intro (by first | omega | assumption | (constructor <;> assumption) | (simp; done) | (simp; omega) | (simp [*]; done)) ?_
                | simp (maxSteps := 4000000) (disch := omega) only [go_sem, Nat.reduceBEq, Nat.reduceAdd, Nat.reduceMul, Nat.reduceSub, Nat.reduceLT, Nat.reduceLeDiff, Int.reduceToNat, Int.reduceLT, Int.reduceLE, Int.reduceAdd, Int.reduceMul, Int.reduceSub, Int.reduceNeg, Int.reduceDiv, Int.reduceMod, Nat.reduceBNe, Nat.reduceGT, Int.reduceBEq, Int.reduceBNe, Int.reduceGT, Nat.reduceDiv, Nat.reduceMod, Nat.reducePow, Int.reducePow, gt_iff_lt, ge_iff_le, List.reduceReplicate, ↓reduceIte]
                | with_reducible refine roundS (next_of 1000 ?_)
                | with_reducible refine drawS_of mixed (by kernel_rfl) (dg_of 1000 ?_)
                | with_reducible refine endD_of (by kernel_rfl) (next_of 1000 ?_)
                | refine callS_p (c1) (next_of 1000 ?_)
                | refine callD_p (c1) (dg_of 1000 ?_)
                | refine callS_p (c2) (next_of 1000 ?_)
                | refine callD_p (c2) (dg_of 1000 ?_)
                | refine callS_p (c3) (next_of 1000 ?_)
                | refine callD_p (c3) (dg_of 1000 ?_)
                | with_reducible refine next_of 1000 ?_
                | ((first | refine condS_split (fun h => ?_) (fun h => ?_) | refine testS_split (fun h => ?_) (fun h => ?_) | refine testD_split (fun h => ?_) (fun h => ?_)) <;> (try simp only [bne_iff_ne, ne_eq, beq_iff_eq, decide_eq_true_eq, decide_eq_false_iff_not, Bool.not_eq_true, Bool.not_eq_false, Bool.not_true, Bool.not_false, bne_eq_false_iff_eq, beq_eq_false_iff_ne, Bool.and_eq_true, Bool.or_eq_true, Bool.and_eq_false_imp, Bool.or_eq_false_iff, Bool.not_eq_true', Bool.not_eq_false', Int.not_lt, Int.not_le] at h) <;> (try (exfalso; omega))))
    all_goals exact ⟨i + 1, by omega, Weak.sub (weak_of (by simp [wσ, go_sem, closed, closeds, closeds_ints, hbn]) (by simp [whs, go_sem, EObj.closed, closed, closeds, closeds_ints, hbn]) (by simp [*]) rfl rfl (by simp)), by omega⟩
  · have hi : i = 256 := by omega
    subst hi
    simp (maxSteps := 4000000) (disch := omega) only [go_sem, Nat.reduceBEq, Nat.reduceAdd, Nat.reduceMul, Nat.reduceSub, Nat.reduceLT, Nat.reduceLeDiff, Int.reduceToNat, Int.reduceLT, Int.reduceLE, Int.reduceAdd, Int.reduceMul, Int.reduceSub, Int.reduceNeg, Int.reduceDiv, Int.reduceMod, Nat.reduceBNe, Nat.reduceGT, Int.reduceBEq, Int.reduceBNe, Int.reduceGT, Nat.reduceDiv, Nat.reduceMod, Nat.reducePow, Int.reducePow, gt_iff_lt, ge_iff_le, List.reduceReplicate, ↓reduceIte]
    repeat (with_reducible refine And.intro (by first | omega | assumption | (constructor <;> assumption) | (simp; done) | (simp; omega) | (simp [*]; done)) ?_)
    repeat' (first
      | with_reducible refine And.intro (by first | omega | assumption | (constructor <;> assumption) | (simp; done) | (simp; omega) | (simp [*]; done)) ?_
      | simp (maxSteps := 4000000) (disch := omega) only [go_sem, Nat.reduceBEq, Nat.reduceAdd, Nat.reduceMul, Nat.reduceSub, Nat.reduceLT, Nat.reduceLeDiff, Int.reduceToNat, Int.reduceLT, Int.reduceLE, Int.reduceAdd, Int.reduceMul, Int.reduceSub, Int.reduceNeg, Int.reduceDiv, Int.reduceMod, Nat.reduceBNe, Nat.reduceGT, Int.reduceBEq, Int.reduceBNe, Int.reduceGT, Nat.reduceDiv, Nat.reduceMod, Nat.reducePow, Int.reducePow, gt_iff_lt, ge_iff_le, List.reduceReplicate, ↓reduceIte]
      | with_reducible refine roundS (next_of 1000 ?_)
      | with_reducible refine drawS_of mixed (by kernel_rfl) (dg_of 1000 ?_)
      | with_reducible refine endD_of (by kernel_rfl) (next_of 1000 ?_)
      | with_reducible refine next_of 1000 ?_
      | ((first | refine condS_split (fun h => ?_) (fun h => ?_) | refine testS_split (fun h => ?_) (fun h => ?_) | refine testD_split (fun h => ?_) (fun h => ?_)) <;> (try simp only [bne_iff_ne, ne_eq, beq_iff_eq, decide_eq_true_eq, decide_eq_false_iff_not, Bool.not_eq_true, Bool.not_eq_false, Bool.not_true, Bool.not_false, bne_eq_false_iff_eq, beq_eq_false_iff_ne, Bool.and_eq_true, Bool.or_eq_true, Bool.and_eq_false_imp, Bool.or_eq_false_iff, Bool.not_eq_true', Bool.not_eq_false', Int.not_lt, Int.not_le] at h) <;> (try (exfalso; omega))))
theorem logic_word {k x y N : Nat} (hN : N < 115792089237316195423570985008687907853269984665640564039457584007913129639936) (h : ∀ j, lg k (x / 2 ^ j % 2) (y / 2 ^ j % 2) = N / 2 ^ j % 2) : bsum (fun j => lg k (x / 2 ^ j % 2) (y / 2 ^ j % 2)) 256 = N := bsum_word hN (fun j _ => h j)
theorem tb (n j : Nat) : n / 2 ^ j % 2 = (n.testBit j).toNat := by
  rw [Nat.testBit_eq_decide_div_mod_eq]
  rcases bits01 (n / 2 ^ j) with h | h <;> rw [h] <;> rfl
theorem lg_and (x y j : Nat) : lg 0 (x / 2 ^ j % 2) (y / 2 ^ j % 2) = (x &&& y) / 2 ^ j % 2 := by
  rw [tb, tb, tb, Nat.testBit_and]
  cases x.testBit j <;> cases y.testBit j <;> rfl
theorem lg_or (x y j : Nat) : lg 1 (x / 2 ^ j % 2) (y / 2 ^ j % 2) = (x ||| y) / 2 ^ j % 2 := by
  rw [tb, tb, tb, Nat.testBit_or]
  cases x.testBit j <;> cases y.testBit j <;> rfl
theorem lg_xor (x y j : Nat) : lg 2 (x / 2 ^ j % 2) (y / 2 ^ j % 2) = (x ^^^ y) / 2 ^ j % 2 := by
  rw [tb, tb, tb, Nat.testBit_xor]
  cases x.testBit j <;> cases y.testBit j <;> rfl
theorem rand_p (x y : Nat) (hx : x < 115792089237316195423570985008687907853269984665640564039457584007913129639936) (hy : y < 115792089237316195423570985008687907853269984665640564039457584007913129639936) : Pure Tryz.prog 10 [wE x, wE y, .int .i64 0] (wE (x &&& y)) := by
  have := logic_p x y 0 hx hy (by omega)
  rwa [logic_word (show x &&& y < 2 ^ 256 from Nat.and_lt_two_pow x hy) (lg_and x y)] at this
theorem ror_p (x y : Nat) (hx : x < 115792089237316195423570985008687907853269984665640564039457584007913129639936) (hy : y < 115792089237316195423570985008687907853269984665640564039457584007913129639936) : Pure Tryz.prog 10 [wE x, wE y, .int .i64 1] (wE (x ||| y)) := by
  have := logic_p x y 1 hx hy (by omega)
  rwa [logic_word (show x ||| y < 2 ^ 256 from Nat.or_lt_two_pow hx hy) (lg_or x y)] at this
theorem rxor_p (x y : Nat) (hx : x < 115792089237316195423570985008687907853269984665640564039457584007913129639936) (hy : y < 115792089237316195423570985008687907853269984665640564039457584007913129639936) : Pure Tryz.prog 10 [wE x, wE y, .int .i64 2] (wE (x ^^^ y)) := by
  have := logic_p x y 2 hx hy (by omega)
  rwa [logic_word (show x ^^^ y < 2 ^ 256 from Nat.xor_lt_two_pow hx hy) (lg_xor x y)] at this
theorem rbyteE (x i : Nat) (hi : i < 32) : IntKind.u8.wrap ((dig 18446744073709551616 x (i / 8) / 2 ^ (8 * (i % 8))).tmod 256) = dig 256 x i := by
  have h0 := dig_nn 18446744073709551616 x (i / 8)
  have hp : (0 : Int) ≤ 2 ^ (8 * (i % 8)) := Int.le_of_lt (Int.pow_pos (by omega))
  rw [Int.tmod_eq_emod_of_nonneg (Int.ediv_nonneg h0 hp), byte_of x i hi]
  have := dig_lt (b := 256) (by omega) x i
  have h2 := dig_nn 256 x i
  show dig 256 x i % 256 = _
  exact Int.emod_eq_of_lt h2 this
end Go.Proofs.YtbilnedgpgpanabGreatDoor
