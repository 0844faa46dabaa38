/- Part of a proof over the seat YtbilnedgpgpanaaDoor. -/
import Derived.Test.YtbilnedgpgpanaaDoorWM
namespace Go.Proofs.YtbilnedgpgpanaaDoor
open Go Go.Ew
set_option maxRecDepth 100000
set_option linter.unusedSimpArgs false
set_option linter.unusedVariables false
set_option maxHeartbeats 1000000
theorem in45 : codeIn Tryd.f45.ntmps (Tryd.f45.body.getD .skip) = true := by kernel_rfl
theorem in47 : codeIn Tryd.f47.ntmps (Tryd.f47.body.getD .skip) = true := by kernel_rfl
/-- The signed quotient. -/
def sdivN (x y : Nat) : Nat := if (57896044618658097711785492504343953926634992332820282019728792003956564819968 ≤ x) ↔ (57896044618658097711785492504343953926634992332820282019728792003956564819968 ≤ y) then mag x / mag y else (115792089237316195423570985008687907853269984665640564039457584007913129639936 - mag x / mag y) % 115792089237316195423570985008687907853269984665640564039457584007913129639936
theorem div_ltW {x : Nat} (hx : x < 115792089237316195423570985008687907853269984665640564039457584007913129639936) (y : Nat) : x / y < 115792089237316195423570985008687907853269984665640564039457584007913129639936 := Nat.lt_of_le_of_lt (Nat.div_le_self _ _) hx
theorem bne_dec (p q : Prop) [Decidable p] [Decidable q] : (decide p != decide q) = true ↔ ¬(p ↔ q) := by
  by_cases hp : p <;> by_cases hq : q <;> simp [hp, hq]
theorem sdiv_p (x y : Nat) (hx : x < 115792089237316195423570985008687907853269984665640564039457584007913129639936) (hy : y < 115792089237316195423570985008687907853269984665640564039457584007913129639936) : Pure Tryd.prog 45 [wE x, wE y] (wE (sdivN x y)) := by
  refine pure_p (args := [wE x, wE y]) en45 (by simp [closed, closeds, closed_wE, closeds_ints]) Tryd.func45 rfl in45 (by simp [Tryd.f45]) (by simp [closeds, closed, closed_wE, closeds_ints]) (fun w => next_of 1000 ?_)
  simp (maxSteps := 4000000) (disch := omega) only [go_sem, Nat.reduceBEq, Nat.reduceAdd, Nat.reduceMul, Nat.reduceSub, Nat.reduceLT, Nat.reduceLeDiff, Int.reduceToNat, Int.reduceLT, Int.reduceLE, Int.reduceAdd, Int.reduceMul, Int.reduceSub, Int.reduceNeg, Int.reduceDiv, Int.reduceMod, Nat.reduceBNe, Nat.reduceGT, Int.reduceBEq, Int.reduceBNe, Int.reduceGT, Nat.reduceDiv, Nat.reduceMod, Nat.reducePow, Int.reducePow, gt_iff_lt, ge_iff_le, List.reduceReplicate, ↓reduceIte, Tryd.f45]
  repeat (with_reducible refine And.intro (by first | omega | assumption | (constructor <;> assumption) | (simp; done) | (simp; omega) | (simp [*]; done)) ?_)
  repeat' (first
    | with_reducible refine And.intro (by first | omega | assumption | (constructor <;> assumption) | (simp; done) | (simp; omega) | (simp [*]; done)) ?_
    | simp (maxSteps := 4000000) (disch := omega) only [go_sem, Nat.reduceBEq, Nat.reduceAdd, Nat.reduceMul, Nat.reduceSub, Nat.reduceLT, Nat.reduceLeDiff, Int.reduceToNat, Int.reduceLT, Int.reduceLE, Int.reduceAdd, Int.reduceMul, Int.reduceSub, Int.reduceNeg, Int.reduceDiv, Int.reduceMod, Nat.reduceBNe, Nat.reduceGT, Int.reduceBEq, Int.reduceBNe, Int.reduceGT, Nat.reduceDiv, Nat.reduceMod, Nat.reducePow, Int.reducePow, gt_iff_lt, ge_iff_le, List.reduceReplicate, ↓reduceIte]
    | with_reducible refine roundS (next_of 1000 ?_)
    | with_reducible refine drawS_of mixed (by kernel_rfl) (dg_of 1000 ?_)
    | with_reducible refine endD_of (by kernel_rfl) (next_of 1000 ?_)
    | refine callS_p (size_p _ hx) (next_of 1000 ?_)
    | refine callD_p (size_p _ hx) (dg_of 1000 ?_)
    | refine callS_p (size_p _ hy) (next_of 1000 ?_)
    | refine callD_p (size_p _ hy) (dg_of 1000 ?_)
    | refine callS_p (div_p _ _ (mag_lt hx) (mag_lt hy)) (next_of 1000 ?_)
    | refine callD_p (div_p _ _ (mag_lt hx) (mag_lt hy)) (dg_of 1000 ?_)
    | refine callS_p (low_p _ hx) (next_of 1000 ?_)
    | refine callD_p (low_p _ hx) (dg_of 1000 ?_)
    | refine callS_p (low_p _ hy) (next_of 1000 ?_)
    | refine callD_p (low_p _ hy) (dg_of 1000 ?_)
    | refine callS_p (neg_p _ (div_ltW (mag_lt hx) _)) (next_of 1000 ?_)
    | refine callD_p (neg_p _ (div_ltW (mag_lt hx) _)) (dg_of 1000 ?_)
    | with_reducible refine next_of 1000 ?_
    | ((first | refine condS_split (fun h => ?_) (fun h => ?_) | refine testS_split (fun h => ?_) (fun h => ?_) | refine testD_split (fun h => ?_) (fun h => ?_)) <;> (try simp only [bne_iff_ne, ne_eq, beq_iff_eq, decide_eq_true_eq, decide_eq_false_iff_not, Bool.not_eq_true, Bool.not_eq_false, Bool.not_true, Bool.not_false, bne_eq_false_iff_eq, beq_eq_false_iff_ne, Bool.and_eq_true, Bool.or_eq_true, Bool.and_eq_false_imp, Bool.or_eq_false_iff, Bool.not_eq_true', Bool.not_eq_false', Int.not_lt, Int.not_le] at h) <;> (try (exfalso; omega))))
  · have h' : ¬((57896044618658097711785492504343953926634992332820282019728792003956564819968 ≤ x) ↔ (57896044618658097711785492504343953926634992332820282019728792003956564819968 ≤ y)) := by rwa [← decide_eq_decide]
    unfold sdivN; rw [if_neg h']
  · have h' : (57896044618658097711785492504343953926634992332820282019728792003956564819968 ≤ x) ↔ (57896044618658097711785492504343953926634992332820282019728792003956564819968 ≤ y) := by rwa [← decide_eq_decide]
    unfold sdivN; rw [if_pos h']
def smodN (x y : Nat) : Nat := if 57896044618658097711785492504343953926634992332820282019728792003956564819968 ≤ x then (115792089237316195423570985008687907853269984665640564039457584007913129639936 - (if mag y = 0 then 0 else mag x % mag y)) % 115792089237316195423570985008687907853269984665640564039457584007913129639936 else (if mag y = 0 then 0 else mag x % mag y)
theorem mod_ltW {x : Nat} (hx : x < 115792089237316195423570985008687907853269984665640564039457584007913129639936) (y : Nat) : (if y = 0 then 0 else x % y) < 115792089237316195423570985008687907853269984665640564039457584007913129639936 := by
  split
  · omega
  · exact Nat.lt_of_le_of_lt (Nat.mod_le _ _) hx
theorem smod_p (x y : Nat) (hx : x < 115792089237316195423570985008687907853269984665640564039457584007913129639936) (hy : y < 115792089237316195423570985008687907853269984665640564039457584007913129639936) : Pure Tryd.prog 47 [wE x, wE y] (wE (smodN x y)) := by
  refine pure_p (args := [wE x, wE y]) en47 (by simp [closed, closeds, closed_wE, closeds_ints]) Tryd.func47 rfl in47 (by simp [Tryd.f47]) (by simp [closeds, closed, closed_wE, closeds_ints]) (fun w => next_of 1000 ?_)
  simp (maxSteps := 4000000) (disch := omega) only [go_sem, Nat.reduceBEq, Nat.reduceAdd, Nat.reduceMul, Nat.reduceSub, Nat.reduceLT, Nat.reduceLeDiff, Int.reduceToNat, Int.reduceLT, Int.reduceLE, Int.reduceAdd, Int.reduceMul, Int.reduceSub, Int.reduceNeg, Int.reduceDiv, Int.reduceMod, Nat.reduceBNe, Nat.reduceGT, Int.reduceBEq, Int.reduceBNe, Int.reduceGT, Nat.reduceDiv, Nat.reduceMod, Nat.reducePow, Int.reducePow, gt_iff_lt, ge_iff_le, List.reduceReplicate, ↓reduceIte, Tryd.f47]
  repeat (with_reducible refine And.intro (by first | omega | assumption | (constructor <;> assumption) | (simp; done) | (simp; omega) | (simp [*]; done)) ?_)
  repeat' (first
    | with_reducible refine And.intro (by first | omega | assumption | (constructor <;> assumption) | (simp; done) | (simp; omega) | (simp [*]; done)) ?_
    | simp (maxSteps := 4000000) (disch := omega) only [go_sem, Nat.reduceBEq, Nat.reduceAdd, Nat.reduceMul, Nat.reduceSub, Nat.reduceLT, Nat.reduceLeDiff, Int.reduceToNat, Int.reduceLT, Int.reduceLE, Int.reduceAdd, Int.reduceMul, Int.reduceSub, Int.reduceNeg, Int.reduceDiv, Int.reduceMod, Nat.reduceBNe, Nat.reduceGT, Int.reduceBEq, Int.reduceBNe, Int.reduceGT, Nat.reduceDiv, Nat.reduceMod, Nat.reducePow, Int.reducePow, gt_iff_lt, ge_iff_le, List.reduceReplicate, ↓reduceIte]
    | with_reducible refine roundS (next_of 1000 ?_)
    | with_reducible refine drawS_of mixed (by kernel_rfl) (dg_of 1000 ?_)
    | with_reducible refine endD_of (by kernel_rfl) (next_of 1000 ?_)
    | refine callS_p (size_p _ hx) (next_of 1000 ?_)
    | refine callD_p (size_p _ hx) (dg_of 1000 ?_)
    | refine callS_p (size_p _ hy) (next_of 1000 ?_)
    | refine callD_p (size_p _ hy) (dg_of 1000 ?_)
    | refine callS_p (mod_p _ _ (mag_lt hx) (mag_lt hy)) (next_of 1000 ?_)
    | refine callD_p (mod_p _ _ (mag_lt hx) (mag_lt hy)) (dg_of 1000 ?_)
    | refine callS_p (low_p _ hx) (next_of 1000 ?_)
    | refine callD_p (low_p _ hx) (dg_of 1000 ?_)
    | refine callS_p (low_p _ hy) (next_of 1000 ?_)
    | refine callD_p (low_p _ hy) (dg_of 1000 ?_)
    | refine callS_p (neg_p _ (mod_ltW (mag_lt hx) _)) (next_of 1000 ?_)
    | refine callD_p (neg_p _ (mod_ltW (mag_lt hx) _)) (dg_of 1000 ?_)
    | with_reducible refine next_of 1000 ?_
    | ((first | refine condS_split (fun h => ?_) (fun h => ?_) | refine testS_split (fun h => ?_) (fun h => ?_) | refine testD_split (fun h => ?_) (fun h => ?_)) <;> (try simp only [bne_iff_ne, ne_eq, beq_iff_eq, decide_eq_true_eq, decide_eq_false_iff_not, Bool.not_eq_true, Bool.not_eq_false, Bool.not_true, Bool.not_false, bne_eq_false_iff_eq, beq_eq_false_iff_ne, Bool.and_eq_true, Bool.or_eq_true, Bool.and_eq_false_imp, Bool.or_eq_false_iff, Bool.not_eq_true', Bool.not_eq_false', Int.not_lt, Int.not_le] at h) <;> (try (exfalso; omega))))
  · have hh : 57896044618658097711785492504343953926634992332820282019728792003956564819968 ≤ x := by omega
    unfold smodN; rw [if_pos hh]
  · have hh : ¬ 57896044618658097711785492504343953926634992332820282019728792003956564819968 ≤ x := by omega
    unfold smodN; rw [if_neg hh]
end Go.Proofs.YtbilnedgpgpanaaDoor
