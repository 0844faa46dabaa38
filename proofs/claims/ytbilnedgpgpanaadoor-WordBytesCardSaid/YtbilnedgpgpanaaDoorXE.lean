/- Part of a proof over the seat YtbilnedgpgpanaaDoor. -/
import Derived.Test.YtbilnedgpgpanaaDoorXD
import Derived.Test.YtbilnedgpgpanaaDoorWN
import Derived.Test.YtbilnedgpgpanaaDoorWO
namespace Go.Proofs.YtbilnedgpgpanaaDoor
open Go RowKit Go.Ew
set_option maxRecDepth 100000
set_option linter.unusedSimpArgs false
set_option linter.unusedVariables false
set_option maxHeartbeats 1000000
theorem in31 : codeIn Tryd.f31.ntmps (Tryd.f31.body.getD .skip) = true := by kernel_rfl
theorem z4e : [EV.int .u64 0, EV.int .u64 0, EV.int .u64 0, EV.int .u64 0] = wC 0 := rfl
abbrev lim (a b c d : Int) : EV := .agg [.int .u64 a, .int .u64 b, .int .u64 c, .int .u64 d]
theorem lim_1 : wE (115792089237316195423570985008687907853269984665640564039457584007913129639936 - 1) = lim 18446744073709551615 18446744073709551615 18446744073709551615 18446744073709551615 := by simp [wE, wC]
theorem lim_7 : wE (115792089237316195423570985008687907853269984665640564039457584007913129639936 - 7) = lim 18446744073709551609 18446744073709551615 18446744073709551615 18446744073709551615 := by simp [wE, wC]
theorem lim_3 : wE (115792089237316195423570985008687907853269984665640564039457584007913129639936 - 3) = lim 18446744073709551613 18446744073709551615 18446744073709551615 18446744073709551615 := by simp [wE, wC]
theorem sdiv_72 : sdivN (115792089237316195423570985008687907853269984665640564039457584007913129639936 - 7) 2 = 115792089237316195423570985008687907853269984665640564039457584007913129639936 - 3 := by decide
theorem awake_p : Pure Tryd.prog 31 [] (.bool true) := by
  have hP : Pure Tryd.prog 35 [.str ⟨#[48, 120, 70, 102]⟩] (.tup [lim 255 0 0 0, .int .i64 0]) := parse_ascii ⟨#[48, 120, 70, 102]⟩ (by decide) (by decide)
  have hH := hex_p 255 (by decide)
  rw [show txtL 16 255 = [102, 102] by rw [txtL, nd_eq (k := 2) (by decide) (by decide) (by decide) (by decide)]; rfl] at hH
  have hH : Pure Tryd.prog 37 [lim 255 0 0 0] (.str ⟨#[48, 120, 102, 102]⟩) := hH
  have h1 : Pure Tryd.prog 22 [lim 18446744073709551615 18446744073709551615 18446744073709551615 18446744073709551615, lim 1 0 0 0] (lim 0 0 0 0) := by
    have := add_p (115792089237316195423570985008687907853269984665640564039457584007913129639936 - 1) 1 (by decide) (by decide)
    rwa [lim_1] at this
  have h2 : Pure Tryd.prog 24 [lim 0 0 0 0, lim 7 0 0 0] (lim 18446744073709551609 18446744073709551615 18446744073709551615 18446744073709551615) := sub_p 0 7 (by decide) (by decide)
  have h3 : Pure Tryd.prog 45 [lim 18446744073709551609 18446744073709551615 18446744073709551615 18446744073709551615, lim 2 0 0 0] (lim 18446744073709551613 18446744073709551615 18446744073709551615 18446744073709551615) := by
    have := sdiv_p (115792089237316195423570985008687907853269984665640564039457584007913129639936 - 7) 2 (by decide) (by decide)
    rwa [lim_7, sdiv_72, lim_3] at this
  have h4 : Pure Tryd.prog 24 [lim 0 0 0 0, lim 3 0 0 0] (lim 18446744073709551613 18446744073709551615 18446744073709551615 18446744073709551615) := sub_p 0 3 (by decide) (by decide)
  have h5 : Pure Tryd.prog 51 [lim 18446744073709551615 18446744073709551615 18446744073709551615 18446744073709551615, lim 18446744073709551615 18446744073709551615 18446744073709551615 18446744073709551615, lim 12 0 0 0] (lim 9 0 0 0) := by
    have := mulmod_p (115792089237316195423570985008687907853269984665640564039457584007913129639936 - 1) (115792089237316195423570985008687907853269984665640564039457584007913129639936 - 1) 12 (by decide) (by decide) (by decide)
    rwa [lim_1] at this
  have h6 : Pure Tryd.prog 59 [lim 3 0 0 0, lim 5 0 0 0] (lim 243 0 0 0) := exp_p 3 5 (by decide) (by decide)
  refine pure_p (args := []) en31 (by simp [closed, closeds, closed_wE, closeds_ints]) Tryd.func31 rfl in31 (by simp [Tryd.f31]) (by simp [closeds, closed, closed_wE, closeds_ints]) (fun w => next_of 1000 ?_)
  simp (maxSteps := 4000000) (disch := omega) only [go_sem, Nat.reduceBEq, Nat.reduceAdd, Nat.reduceMul, Nat.reduceSub, Nat.reduceLT, Nat.reduceLeDiff, Int.reduceToNat, Int.reduceLT, Int.reduceLE, Int.reduceAdd, Int.reduceMul, Int.reduceSub, Int.reduceNeg, Int.reduceDiv, Int.reduceMod, Nat.reduceBNe, Nat.reduceGT, Int.reduceBEq, Int.reduceBNe, Int.reduceGT, Nat.reduceDiv, Nat.reduceMod, Nat.reducePow, Int.reducePow, gt_iff_lt, ge_iff_le, List.reduceReplicate, ↓reduceIte, Tryd.f31]
  repeat (with_reducible refine And.intro (by first | omega | assumption | (constructor <;> assumption) | (simp; done) | (simp; omega) | (simp [*]; done)) ?_)
  repeat' (first
    | with_reducible refine And.intro (by first | omega | assumption | (constructor <;> assumption) | (simp; done) | (simp; omega) | (simp [*]; done)) ?_
    | simp (maxSteps := 4000000) (disch := omega) only [go_sem, Nat.reduceBEq, Nat.reduceAdd, Nat.reduceMul, Nat.reduceSub, Nat.reduceLT, Nat.reduceLeDiff, Int.reduceToNat, Int.reduceLT, Int.reduceLE, Int.reduceAdd, Int.reduceMul, Int.reduceSub, Int.reduceNeg, Int.reduceDiv, Int.reduceMod, Nat.reduceBNe, Nat.reduceGT, Int.reduceBEq, Int.reduceBNe, Int.reduceGT, Nat.reduceDiv, Nat.reduceMod, Nat.reducePow, Int.reducePow, gt_iff_lt, ge_iff_le, List.reduceReplicate, ↓reduceIte]
    | with_reducible refine roundS (next_of 1000 ?_)
    | with_reducible refine drawS_of mixed (by kernel_rfl) (dg_of 1000 ?_)
    | with_reducible refine endD_of (by kernel_rfl) (next_of 1000 ?_)
    | refine callS_p (hP) (next_of 1000 ?_)
    | refine callD_p (hP) (dg_of 1000 ?_)
    | refine callS_p (h1) (next_of 1000 ?_)
    | refine callD_p (h1) (dg_of 1000 ?_)
    | refine callS_p (h2) (next_of 1000 ?_)
    | refine callD_p (h2) (dg_of 1000 ?_)
    | refine callS_p (h3) (next_of 1000 ?_)
    | refine callD_p (h3) (dg_of 1000 ?_)
    | refine callS_p (h4) (next_of 1000 ?_)
    | refine callD_p (h4) (dg_of 1000 ?_)
    | refine callS_p (h5) (next_of 1000 ?_)
    | refine callD_p (h5) (dg_of 1000 ?_)
    | refine callS_p (h6) (next_of 1000 ?_)
    | refine callD_p (h6) (dg_of 1000 ?_)
    | refine callS_p (hH) (next_of 1000 ?_)
    | refine callD_p (hH) (dg_of 1000 ?_)
    | with_reducible refine next_of 1000 ?_
    | ((first | refine condS_split (fun h => ?_) (fun h => ?_) | refine testS_split (fun h => ?_) (fun h => ?_) | refine testD_split (fun h => ?_) (fun h => ?_)) <;> (try simp only [bne_iff_ne, ne_eq, beq_iff_eq, decide_eq_true_eq, decide_eq_false_iff_not, Bool.not_eq_true, Bool.not_eq_false, Bool.not_true, Bool.not_false, bne_eq_false_iff_eq, beq_eq_false_iff_ne, Bool.and_eq_true, Bool.or_eq_true, Bool.and_eq_false_imp, Bool.or_eq_false_iff, Bool.not_eq_true', Bool.not_eq_false', Int.not_lt, Int.not_le] at h) <;> (try (exfalso; omega))))
end Go.Proofs.YtbilnedgpgpanaaDoor
