/- Part of a proof over the seat YtbilnedgpgpanabGreatDoor. -/
import Derived.Test.YtbilnedgpgpanabGreatDoorYC
namespace Go.Proofs.YtbilnedgpgpanabGreatDoor
open Go RowKit Go.Ew
set_option maxRecDepth 100000
set_option linter.unusedSimpArgs false
set_option linter.unusedVariables false
set_option maxHeartbeats 4000000
theorem in3 : codeIn Tryz.f3.ntmps (Tryz.f3.body.getD .skip) = true := by kernel_rfl
theorem wordbits_p (x y : Nat) (hx : x < 115792089237316195423570985008687907853269984665640564039457584007913129639936) (hy : y < 115792089237316195423570985008687907853269984665640564039457584007913129639936) : Pure Tryz.prog 3 [wE x, wE y] (.bool true) := by
  have hs : ∀ n, Pure Tryz.prog 8 [wE n, wE n] (.bool true) := fun n => by
    refine pure_p (args := [wE n, wE n]) en8 (by simp [closed, closeds, closed_wE, closeds_ints]) Tryz.func8 rfl in8 (by simp [Tryz.f8]) (by simp [closeds, closed, closed_wE, closeds_ints]) (fun w => next_of 1000 ?_)
    simp (maxSteps := 4000000) (disch := omega) only [go_sem, Nat.reduceBEq, Nat.reduceAdd, Nat.reduceMul, Nat.reduceSub, Nat.reduceLT, Nat.reduceLeDiff, Int.reduceToNat, Int.reduceLT, Int.reduceLE, Int.reduceAdd, Int.reduceMul, Int.reduceSub, Int.reduceNeg, Int.reduceDiv, Int.reduceMod, Nat.reduceBNe, Nat.reduceGT, Int.reduceBEq, Int.reduceBNe, Int.reduceGT, Nat.reduceDiv, Nat.reduceMod, Nat.reducePow, Int.reducePow, gt_iff_lt, ge_iff_le, List.reduceReplicate, ↓reduceIte, Tryz.f8]
    repeat (with_reducible refine And.intro (by first | omega | assumption | (constructor <;> assumption) | (simp; done) | (simp; omega) | (simp [*]; done)) ?_)
    repeat' (first
      | with_reducible refine And.intro (by first | omega | assumption | (constructor <;> assumption) | (simp; done) | (simp; omega) | (simp [*]; done)) ?_
      | simp (maxSteps := 4000000) (disch := omega) only [go_sem, Nat.reduceBEq, Nat.reduceAdd, Nat.reduceMul, Nat.reduceSub, Nat.reduceLT, Nat.reduceLeDiff, Int.reduceToNat, Int.reduceLT, Int.reduceLE, Int.reduceAdd, Int.reduceMul, Int.reduceSub, Int.reduceNeg, Int.reduceDiv, Int.reduceMod, Nat.reduceBNe, Nat.reduceGT, Int.reduceBEq, Int.reduceBNe, Int.reduceGT, Nat.reduceDiv, Nat.reduceMod, Nat.reducePow, Int.reducePow, gt_iff_lt, ge_iff_le, List.reduceReplicate, ↓reduceIte]
      | with_reducible refine roundS (next_of 1000 ?_)
      | with_reducible refine drawS_of mixed (by kernel_rfl) (dg_of 1000 ?_)
      | with_reducible refine endD_of (by kernel_rfl) (next_of 1000 ?_)
      | with_reducible refine next_of 1000 ?_
      | ((first | refine condS_split (fun h => ?_) (fun h => ?_) | refine testS_split (fun h => ?_) (fun h => ?_) | refine testD_split (fun h => ?_) (fun h => ?_)) <;> (try simp only [bne_iff_ne, ne_eq, beq_iff_eq, decide_eq_true_eq, decide_eq_false_iff_not, Bool.not_eq_true, Bool.not_eq_false, Bool.not_true, Bool.not_false, bne_eq_false_iff_eq, beq_eq_false_iff_ne, Bool.and_eq_true, Bool.or_eq_true, Bool.and_eq_false_imp, Bool.or_eq_false_iff, Bool.not_eq_true', Bool.not_eq_false', Int.not_lt, Int.not_le] at h) <;> (try (exfalso; omega))))
  have c1 := cmp_p x y hx hy
  have r1 := rcmp_p x y hx hy
  have c2 := scmp_p x y hx hy
  have r2 := rscmp_p x y hx hy
  have c3 := and_p x y hx hy
  have r3 := rand_p x y hx hy
  have c4 := or_p x y hx hy
  have r4 := ror_p x y hx hy
  have c5 := xor_p x y hx hy
  have r5 := rxor_p x y hx hy
  have c6 := not_p x hx
  have r6 := rnot_p x hx
  have c7 := byte_p y x hy hx
  have r7 := rbyte_p y x hy hx
  have c8 := shl_p y x hy hx
  have r8 := rshl_p y x hy hx
  have c9 := shr_p y x hy hx
  have r9 := rshr_p y x hy hx
  have c10 := sar_p y x hy hx
  have r10 := rsar_p y x hy hx
  have c11 := bits_p x hx
  have r11 := rbits_p x hx
  generalize cmpI (x : Int) (y : Int) = k1 at *
  generalize cmpI ((x + 57896044618658097711785492504343953926634992332820282019728792003956564819968) % 115792089237316195423570985008687907853269984665640564039457584007913129639936 : Nat) ((y + 57896044618658097711785492504343953926634992332820282019728792003956564819968) % 115792089237316195423570985008687907853269984665640564039457584007913129639936 : Nat) = k2 at *
  generalize x &&& y = k3 at *
  generalize x ||| y = k4 at *
  generalize x ^^^ y = k5 at *
  generalize 115792089237316195423570985008687907853269984665640564039457584007913129639936 - 1 - x = k6 at *
  generalize byteN y x = k7 at *
  generalize (if y < 256 then x * 2 ^ y % 115792089237316195423570985008687907853269984665640564039457584007913129639936 else 0) = k8 at *
  generalize (if y < 256 then x / 2 ^ y else 0) = k9 at *
  generalize sarN y x = k10 at *
  generalize blen x = k11 at *
  refine pure_p (args := [wE x, wE y]) en3 (by simp [closed, closeds, closed_wE, closeds_ints]) Tryz.func3 rfl in3 (by simp [Tryz.f3]) (by simp [closeds, closed, closed_wE, closeds_ints]) (fun w => next_of 1000 ?_)
  simp (maxSteps := 4000000) (disch := omega) only [go_sem, Nat.reduceBEq, Nat.reduceAdd, Nat.reduceMul, Nat.reduceSub, Nat.reduceLT, Nat.reduceLeDiff, Int.reduceToNat, Int.reduceLT, Int.reduceLE, Int.reduceAdd, Int.reduceMul, Int.reduceSub, Int.reduceNeg, Int.reduceDiv, Int.reduceMod, Nat.reduceBNe, Nat.reduceGT, Int.reduceBEq, Int.reduceBNe, Int.reduceGT, Nat.reduceDiv, Nat.reduceMod, Nat.reducePow, Int.reducePow, gt_iff_lt, ge_iff_le, List.reduceReplicate, ↓reduceIte, Tryz.f3]
  repeat (with_reducible refine And.intro (by first | omega | assumption | (constructor <;> assumption) | (simp; done) | (simp; omega) | (simp [*]; done)) ?_)
  repeat' (first
    | with_reducible refine And.intro (by first | omega | assumption | (constructor <;> assumption) | (simp; done) | (simp; omega) | (simp [*]; done)) ?_
    | simp (maxSteps := 4000000) (disch := omega) only [go_sem, Nat.reduceBEq, Nat.reduceAdd, Nat.reduceMul, Nat.reduceSub, Nat.reduceLT, Nat.reduceLeDiff, Int.reduceToNat, Int.reduceLT, Int.reduceLE, Int.reduceAdd, Int.reduceMul, Int.reduceSub, Int.reduceNeg, Int.reduceDiv, Int.reduceMod, Nat.reduceBNe, Nat.reduceGT, Int.reduceBEq, Int.reduceBNe, Int.reduceGT, Nat.reduceDiv, Nat.reduceMod, Nat.reducePow, Int.reducePow, gt_iff_lt, ge_iff_le, List.reduceReplicate, ↓reduceIte]
    | with_reducible refine roundS (next_of 1000 ?_)
    | with_reducible refine drawS_of mixed (by kernel_rfl) (dg_of 1000 ?_)
    | with_reducible refine endD_of (by kernel_rfl) (next_of 1000 ?_)
    | refine callS_p (c1) (next_of 1000 ?_)
    | refine callD_p (c1) (dg_of 1000 ?_)
    | refine callS_p (r1) (next_of 1000 ?_)
    | refine callD_p (r1) (dg_of 1000 ?_)
    | refine callS_p (c2) (next_of 1000 ?_)
    | refine callD_p (c2) (dg_of 1000 ?_)
    | refine callS_p (r2) (next_of 1000 ?_)
    | refine callD_p (r2) (dg_of 1000 ?_)
    | refine callS_p (c3) (next_of 1000 ?_)
    | refine callD_p (c3) (dg_of 1000 ?_)
    | refine callS_p (r3) (next_of 1000 ?_)
    | refine callD_p (r3) (dg_of 1000 ?_)
    | refine callS_p (hs k3) (next_of 1000 ?_)
    | refine callD_p (hs k3) (dg_of 1000 ?_)
    | refine callS_p (c4) (next_of 1000 ?_)
    | refine callD_p (c4) (dg_of 1000 ?_)
    | refine callS_p (r4) (next_of 1000 ?_)
    | refine callD_p (r4) (dg_of 1000 ?_)
    | refine callS_p (hs k4) (next_of 1000 ?_)
    | refine callD_p (hs k4) (dg_of 1000 ?_)
    | refine callS_p (c5) (next_of 1000 ?_)
    | refine callD_p (c5) (dg_of 1000 ?_)
    | refine callS_p (r5) (next_of 1000 ?_)
    | refine callD_p (r5) (dg_of 1000 ?_)
    | refine callS_p (hs k5) (next_of 1000 ?_)
    | refine callD_p (hs k5) (dg_of 1000 ?_)
    | refine callS_p (c6) (next_of 1000 ?_)
    | refine callD_p (c6) (dg_of 1000 ?_)
    | refine callS_p (r6) (next_of 1000 ?_)
    | refine callD_p (r6) (dg_of 1000 ?_)
    | refine callS_p (hs k6) (next_of 1000 ?_)
    | refine callD_p (hs k6) (dg_of 1000 ?_)
    | refine callS_p (c7) (next_of 1000 ?_)
    | refine callD_p (c7) (dg_of 1000 ?_)
    | refine callS_p (r7) (next_of 1000 ?_)
    | refine callD_p (r7) (dg_of 1000 ?_)
    | refine callS_p (hs k7) (next_of 1000 ?_)
    | refine callD_p (hs k7) (dg_of 1000 ?_)
    | refine callS_p (c8) (next_of 1000 ?_)
    | refine callD_p (c8) (dg_of 1000 ?_)
    | refine callS_p (r8) (next_of 1000 ?_)
    | refine callD_p (r8) (dg_of 1000 ?_)
    | refine callS_p (hs k8) (next_of 1000 ?_)
    | refine callD_p (hs k8) (dg_of 1000 ?_)
    | refine callS_p (c9) (next_of 1000 ?_)
    | refine callD_p (c9) (dg_of 1000 ?_)
    | refine callS_p (r9) (next_of 1000 ?_)
    | refine callD_p (r9) (dg_of 1000 ?_)
    | refine callS_p (hs k9) (next_of 1000 ?_)
    | refine callD_p (hs k9) (dg_of 1000 ?_)
    | refine callS_p (c10) (next_of 1000 ?_)
    | refine callD_p (c10) (dg_of 1000 ?_)
    | refine callS_p (r10) (next_of 1000 ?_)
    | refine callD_p (r10) (dg_of 1000 ?_)
    | refine callS_p (hs k10) (next_of 1000 ?_)
    | refine callD_p (hs k10) (dg_of 1000 ?_)
    | refine callS_p (c11) (next_of 1000 ?_)
    | refine callD_p (c11) (dg_of 1000 ?_)
    | refine callS_p (r11) (next_of 1000 ?_)
    | refine callD_p (r11) (dg_of 1000 ?_)
    | refine callS_p (awake_p) (next_of 1000 ?_)
    | refine callD_p (awake_p) (dg_of 1000 ?_)
    | with_reducible refine next_of 1000 ?_
    | ((first | refine condS_split (fun h => ?_) (fun h => ?_) | refine testS_split (fun h => ?_) (fun h => ?_) | refine testD_split (fun h => ?_) (fun h => ?_)) <;> (try simp only [bne_iff_ne, ne_eq, beq_iff_eq, decide_eq_true_eq, decide_eq_false_iff_not, Bool.not_eq_true, Bool.not_eq_false, Bool.not_true, Bool.not_false, bne_eq_false_iff_eq, beq_eq_false_iff_ne, Bool.and_eq_true, Bool.or_eq_true, Bool.and_eq_false_imp, Bool.or_eq_false_iff, Bool.not_eq_true', Bool.not_eq_false', Int.not_lt, Int.not_le] at h) <;> (try (exfalso; omega))))
end Go.Proofs.YtbilnedgpgpanabGreatDoor
