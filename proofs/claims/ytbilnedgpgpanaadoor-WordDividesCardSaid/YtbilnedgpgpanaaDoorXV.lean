/- Part of a proof over the seat YtbilnedgpgpanaaDoor. -/
import Derived.Test.YtbilnedgpgpanaaDoorXU
import Derived.Test.YtbilnedgpgpanaaDoorXE
namespace Go.Proofs.YtbilnedgpgpanaaDoor
open Go RowKit Go.Ew
set_option maxRecDepth 100000
set_option linter.unusedSimpArgs false
set_option linter.unusedVariables false
set_option maxHeartbeats 2000000
theorem in6 : codeIn Tryd.f6.ntmps (Tryd.f6.body.getD .skip) = true := by kernel_rfl
theorem in19 : codeIn Tryd.f19.ntmps (Tryd.f19.body.getD .skip) = true := by kernel_rfl
theorem divides_p (x y n : Nat) (hx : x < 115792089237316195423570985008687907853269984665640564039457584007913129639936) (hy : y < 115792089237316195423570985008687907853269984665640564039457584007913129639936) (hn : n < 115792089237316195423570985008687907853269984665640564039457584007913129639936) : Pure Tryd.prog 6 [wE x, wE y, wE n] (.bool true) := by
  have hs : ∀ n, Pure Tryd.prog 19 [wE n, wE n] (.bool true) := fun n => by
    refine pure_p (args := [wE n, wE n]) en19 (by simp [closed, closeds, closed_wE, closeds_ints]) Tryd.func19 rfl in19 (by simp [Tryd.f19]) (by simp [closeds, closed, closed_wE, closeds_ints]) (fun w => next_of 1000 ?_)
    simp (maxSteps := 4000000) (disch := omega) only [go_sem, Nat.reduceBEq, Nat.reduceAdd, Nat.reduceMul, Nat.reduceSub, Nat.reduceLT, Nat.reduceLeDiff, Int.reduceToNat, Int.reduceLT, Int.reduceLE, Int.reduceAdd, Int.reduceMul, Int.reduceSub, Int.reduceNeg, Int.reduceDiv, Int.reduceMod, Nat.reduceBNe, Nat.reduceGT, Int.reduceBEq, Int.reduceBNe, Int.reduceGT, Nat.reduceDiv, Nat.reduceMod, Nat.reducePow, Int.reducePow, gt_iff_lt, ge_iff_le, List.reduceReplicate, ↓reduceIte, Tryd.f19]
    repeat (with_reducible refine And.intro (by first | omega | assumption | (constructor <;> assumption) | (simp; done) | (simp; omega) | (simp [*]; done)) ?_)
    repeat' (first
      | with_reducible refine And.intro (by first | omega | assumption | (constructor <;> assumption) | (simp; done) | (simp; omega) | (simp [*]; done)) ?_
      | simp (maxSteps := 4000000) (disch := omega) only [go_sem, Nat.reduceBEq, Nat.reduceAdd, Nat.reduceMul, Nat.reduceSub, Nat.reduceLT, Nat.reduceLeDiff, Int.reduceToNat, Int.reduceLT, Int.reduceLE, Int.reduceAdd, Int.reduceMul, Int.reduceSub, Int.reduceNeg, Int.reduceDiv, Int.reduceMod, Nat.reduceBNe, Nat.reduceGT, Int.reduceBEq, Int.reduceBNe, Int.reduceGT, Nat.reduceDiv, Nat.reduceMod, Nat.reducePow, Int.reducePow, gt_iff_lt, ge_iff_le, List.reduceReplicate, ↓reduceIte]
      | with_reducible refine roundS (next_of 1000 ?_)
      | with_reducible refine drawS_of mixed (by kernel_rfl) (dg_of 1000 ?_)
      | with_reducible refine endD_of (by kernel_rfl) (next_of 1000 ?_)
      | with_reducible refine next_of 1000 ?_
      | (refine condS_split (fun h => ?_) (fun h => ?_) <;> (try simp only [bne_iff_ne, ne_eq, beq_iff_eq, decide_eq_true_eq, decide_eq_false_iff_not, Bool.not_eq_true, Bool.not_eq_false, Bool.not_true, Bool.not_false, bne_eq_false_iff_eq, beq_eq_false_iff_ne, Bool.and_eq_true, Bool.or_eq_true, Bool.and_eq_false_imp, Bool.or_eq_false_iff, Bool.not_eq_true', Bool.not_eq_false', Int.not_lt, Int.not_le] at h) <;> (try (exfalso; omega)))
      | (refine testS_split (fun h => ?_) (fun h => ?_) <;> (try simp only [bne_iff_ne, ne_eq, beq_iff_eq, decide_eq_true_eq, decide_eq_false_iff_not, Bool.not_eq_true, Bool.not_eq_false, Bool.not_true, Bool.not_false, bne_eq_false_iff_eq, beq_eq_false_iff_ne, Bool.and_eq_true, Bool.or_eq_true, Bool.and_eq_false_imp, Bool.or_eq_false_iff, Bool.not_eq_true', Bool.not_eq_false', Int.not_lt, Int.not_le] at h) <;> (try (exfalso; omega)))
      | (refine testD_split (fun h => ?_) (fun h => ?_) <;> (try simp only [bne_iff_ne, ne_eq, beq_iff_eq, decide_eq_true_eq, decide_eq_false_iff_not, Bool.not_eq_true, Bool.not_eq_false, Bool.not_true, Bool.not_false, bne_eq_false_iff_eq, beq_eq_false_iff_ne, Bool.and_eq_true, Bool.or_eq_true, Bool.and_eq_false_imp, Bool.or_eq_false_iff, Bool.not_eq_true', Bool.not_eq_false', Int.not_lt, Int.not_le] at h) <;> (try (exfalso; omega))))
  have c1 := div_p x y hx hy
  have c2 := mod_p x y hx hy
  have c3 := sdiv_p x y hx hy
  have c4 := smod_p x y hx hy
  have c5 := addmod_p x y n hx hy hn
  have c6 := mulmod_p x y n hx hy hn
  have r1 := rdiv_p x y hx hy
  have r2 := rmod_p x y hx hy
  have r3 := rsdiv_p x y hx hy
  have r4 := rsmod_p x y hx hy
  have r5 := raddmod_p x y n hx hy hn
  have r6 := rmulmod_p x y n hx hy hn
  generalize x / y = k1 at *
  generalize (if y = 0 then 0 else x % y) = k2 at *
  generalize sdivN x y = k3 at *
  generalize smodN x y = k4 at *
  generalize (if n = 0 then 0 else (x + y) % n) = k5 at *
  generalize (if n = 0 then 0 else (x * y) % n) = k6 at *
  have s1 := hs k1
  have s2 := hs k2
  have s3 := hs k3
  have s4 := hs k4
  have s5 := hs k5
  have s6 := hs k6
  refine pure_p (args := [wE x, wE y, wE n]) en6 (by simp [closed, closeds, closed_wE, closeds_ints]) Tryd.func6 rfl in6 (by simp [Tryd.f6]) (by simp [closeds, closed, closed_wE, closeds_ints]) (fun w => next_of 1000 ?_)
  simp (maxSteps := 4000000) (disch := omega) only [go_sem, Nat.reduceBEq, Nat.reduceAdd, Nat.reduceMul, Nat.reduceSub, Nat.reduceLT, Nat.reduceLeDiff, Int.reduceToNat, Int.reduceLT, Int.reduceLE, Int.reduceAdd, Int.reduceMul, Int.reduceSub, Int.reduceNeg, Int.reduceDiv, Int.reduceMod, Nat.reduceBNe, Nat.reduceGT, Int.reduceBEq, Int.reduceBNe, Int.reduceGT, Nat.reduceDiv, Nat.reduceMod, Nat.reducePow, Int.reducePow, gt_iff_lt, ge_iff_le, List.reduceReplicate, ↓reduceIte, Tryd.f6]
  repeat (with_reducible refine And.intro (by first | omega | assumption | (constructor <;> assumption) | (simp; done) | (simp; omega) | (simp [*]; done)) ?_)
  repeat' (first
    | with_reducible refine And.intro (by first | omega | assumption | (constructor <;> assumption) | (simp; done) | (simp; omega) | (simp [*]; done)) ?_
    | simp (maxSteps := 4000000) (disch := omega) only [go_sem, Nat.reduceBEq, Nat.reduceAdd, Nat.reduceMul, Nat.reduceSub, Nat.reduceLT, Nat.reduceLeDiff, Int.reduceToNat, Int.reduceLT, Int.reduceLE, Int.reduceAdd, Int.reduceMul, Int.reduceSub, Int.reduceNeg, Int.reduceDiv, Int.reduceMod, Nat.reduceBNe, Nat.reduceGT, Int.reduceBEq, Int.reduceBNe, Int.reduceGT, Nat.reduceDiv, Nat.reduceMod, Nat.reducePow, Int.reducePow, gt_iff_lt, ge_iff_le, List.reduceReplicate, ↓reduceIte]
    | with_reducible refine roundS (next_of 1000 ?_)
    | with_reducible refine drawS_of mixed (by kernel_rfl) (dg_of 1000 ?_)
    | with_reducible refine endD_of (by kernel_rfl) (next_of 1000 ?_)
    | refine callS_p (c1) (next_of 1000 ?_)
    | refine callD_p (c1) (dg_of 1000 ?_)
    | refine callS_p (c2) (next_of 1000 ?_)
    | refine callD_p (c2) (dg_of 1000 ?_)
    | refine callS_p (c3) (next_of 1000 ?_)
    | refine callD_p (c3) (dg_of 1000 ?_)
    | refine callS_p (c4) (next_of 1000 ?_)
    | refine callD_p (c4) (dg_of 1000 ?_)
    | refine callS_p (c5) (next_of 1000 ?_)
    | refine callD_p (c5) (dg_of 1000 ?_)
    | refine callS_p (c6) (next_of 1000 ?_)
    | refine callD_p (c6) (dg_of 1000 ?_)
    | refine callS_p (r1) (next_of 1000 ?_)
    | refine callD_p (r1) (dg_of 1000 ?_)
    | refine callS_p (r2) (next_of 1000 ?_)
    | refine callD_p (r2) (dg_of 1000 ?_)
    | refine callS_p (r3) (next_of 1000 ?_)
    | refine callD_p (r3) (dg_of 1000 ?_)
    | refine callS_p (r4) (next_of 1000 ?_)
    | refine callD_p (r4) (dg_of 1000 ?_)
    | refine callS_p (r5) (next_of 1000 ?_)
    | refine callD_p (r5) (dg_of 1000 ?_)
    | refine callS_p (r6) (next_of 1000 ?_)
    | refine callD_p (r6) (dg_of 1000 ?_)
    | refine callS_p (s1) (next_of 1000 ?_)
    | refine callD_p (s1) (dg_of 1000 ?_)
    | refine callS_p (s2) (next_of 1000 ?_)
    | refine callD_p (s2) (dg_of 1000 ?_)
    | refine callS_p (s3) (next_of 1000 ?_)
    | refine callD_p (s3) (dg_of 1000 ?_)
    | refine callS_p (s4) (next_of 1000 ?_)
    | refine callD_p (s4) (dg_of 1000 ?_)
    | refine callS_p (s5) (next_of 1000 ?_)
    | refine callD_p (s5) (dg_of 1000 ?_)
    | refine callS_p (s6) (next_of 1000 ?_)
    | refine callD_p (s6) (dg_of 1000 ?_)
    | refine callS_p (awake_p) (next_of 1000 ?_)
    | refine callD_p (awake_p) (dg_of 1000 ?_)
    | with_reducible refine next_of 1000 ?_
    | (refine condS_split (fun h => ?_) (fun h => ?_) <;> (try simp only [bne_iff_ne, ne_eq, beq_iff_eq, decide_eq_true_eq, decide_eq_false_iff_not, Bool.not_eq_true, Bool.not_eq_false, Bool.not_true, Bool.not_false, bne_eq_false_iff_eq, beq_eq_false_iff_ne, Bool.and_eq_true, Bool.or_eq_true, Bool.and_eq_false_imp, Bool.or_eq_false_iff, Bool.not_eq_true', Bool.not_eq_false', Int.not_lt, Int.not_le] at h) <;> (try (exfalso; omega)))
    | (refine testS_split (fun h => ?_) (fun h => ?_) <;> (try simp only [bne_iff_ne, ne_eq, beq_iff_eq, decide_eq_true_eq, decide_eq_false_iff_not, Bool.not_eq_true, Bool.not_eq_false, Bool.not_true, Bool.not_false, bne_eq_false_iff_eq, beq_eq_false_iff_ne, Bool.and_eq_true, Bool.or_eq_true, Bool.and_eq_false_imp, Bool.or_eq_false_iff, Bool.not_eq_true', Bool.not_eq_false', Int.not_lt, Int.not_le] at h) <;> (try (exfalso; omega)))
    | (refine testD_split (fun h => ?_) (fun h => ?_) <;> (try simp only [bne_iff_ne, ne_eq, beq_iff_eq, decide_eq_true_eq, decide_eq_false_iff_not, Bool.not_eq_true, Bool.not_eq_false, Bool.not_true, Bool.not_false, bne_eq_false_iff_eq, beq_eq_false_iff_ne, Bool.and_eq_true, Bool.or_eq_true, Bool.and_eq_false_imp, Bool.or_eq_false_iff, Bool.not_eq_true', Bool.not_eq_false', Int.not_lt, Int.not_le] at h) <;> (try (exfalso; omega))))
end Go.Proofs.YtbilnedgpgpanaaDoor
