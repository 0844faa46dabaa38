/- Part of a proof over the seat Ytepabkjfnpaijaa. -/
import Derived.Test.YtepabkjfnpaijaaND
import Derived.Test.YtepabkjfnpaijaaPH
namespace Go.Proofs.Ytepabkjfnpaijaa
open Go RowKit Go.Ew
set_option maxRecDepth 100000
set_option linter.unusedSimpArgs false
set_option linter.unusedVariables false
set_option maxHeartbeats 4000000
theorem in23 : codeIn Try.f23.ntmps (Try.f23.body.getD .skip) = true := by kernel_rfl
theorem same_fn {B : Base} (a b : RcV) (ha : LogsAt B a.lA a.L) (hb : LogsAt B b.lA b.L) (h : a.body = b.body) :
    Does Try.prog 23 [.agg (rcE a), .agg (rcE b)] B (fun _ : Unit => .bool true) (fun _ _ => True) := by
  refine fn_of en23 (fun s B B' hB hR => hR) Try.func23 rfl in23 (by simp [Try.f23]) ⟨rc_closed 0 a, rc_closed 0 b, trivial⟩ (fun B0 hB0 => next_of 1000 ?_)
  replace ha := ha.ext hB0
  replace hb := hb.ext hB0
  simp only [RcV.body, RcB.mk.injEq] at h
  obtain ⟨h1, h2, h3, h4, h5⟩ := h
  have hsm := samelogs_fn a.L b.L _ _ a.lA b.lA a.lc b.lc ha hb h5 rfl rfl
  have hF : ints .u8 (fB b.F) 256 = ints .u8 (fB a.F) 256 := by rw [← blB_bE, ← blB_bE, h4]
  have hcl : ∀ n r, closeds n (rcE r) := fun n r => rc_closed n r
  repeat' (first | with_reducible refine And.intro (by first | omega | assumption | (constructor <;> assumption) | (simp; done) | (simp; omega) | (simp [*]; done) | ((repeat' refine And.intro ?_ ?_) <;> first | omega | assumption | (refine SlOk.so (n := ?_) ?_ ?_; rotate_left; assumption; omega) | (simp; done) | fail) | fail) ?_ | simp (maxSteps := 4000000) (disch := omega) only [go_sem, Nat.reduceBEq, Nat.reduceAdd, Nat.reduceMul, Nat.reduceSub, Nat.reduceLT, Nat.reduceLeDiff, Int.reduceToNat, Int.reduceLT, Int.reduceLE, Int.reduceAdd, Int.reduceMul, Int.reduceSub, Int.reduceNeg, Int.reduceDiv, Int.reduceMod, Nat.reduceBNe, Nat.reduceGT, Int.reduceBEq, Int.reduceBNe, Int.reduceGT, Nat.reduceDiv, Nat.reduceMod, Nat.reducePow, Int.reducePow, gt_iff_lt, ge_iff_le, List.reduceReplicate, ↓reduceIte, Try.f23, rc_len, rc_0, rc_1, rc_2, rc_259, rc_all, rc_one, rc_bl, hF, h1, h2, h3, hcl, ints_isInt, beq_self_eq_true] | refine callS_fp (hsm) (by simp [closed, closeds, closeds_ints, closed_wE]) (next_of 1000 ?_))
  exact ⟨BExt.refl _, (), trivial⟩
end Go.Proofs.Ytepabkjfnpaijaa

