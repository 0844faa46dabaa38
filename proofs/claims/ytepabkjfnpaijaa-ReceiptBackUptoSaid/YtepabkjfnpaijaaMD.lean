/- Part of a proof over the seat Ytepabkjfnpaijaa. -/
import Derived.Test.YtepabkjfnpaijaaMC
namespace Go.Proofs.Ytepabkjfnpaijaa
open Go RowKit Go.Ew
set_option maxRecDepth 100000
set_option linter.unusedSimpArgs false
set_option linter.unusedVariables false
set_option maxHeartbeats 4000000
theorem in7 : codeIn Try.f7.ntmps (Try.f7.body.getD .skip) = true := by kernel_rfl
def r0 : RcV := ⟨0, 1, 21000, zB, none, 0, []⟩
theorem r0_may : mayR r0 = true := by kernel_rfl
theorem r0_len : (encR r0).length = 267 := by kernel_rfl
theorem r0_f : (form (recI r0)).length = 267 := by kernel_rfl
theorem r0_0 : (encR r0).getD 0 0 = 249 := by kernel_rfl
theorem r0_3 : (encR r0).getD 3 0 = 1 := by kernel_rfl
theorem r0_266 : (encR r0).getD 266 0 = 192 := by kernel_rfl
theorem callS_cast {C : Cx} {Q : Exit → X → Prop} {f : FuncId} {args args' : List EV} {dst : Option Tmp} {st : List It} {x : X} (h : args = args') (k : callS C Q f args' dst st x) : callS C Q f args dst st x := by rw [h]; exact k
theorem awake_fn (B : Base) : Does Try.prog 7 [] B (fun _ : Unit => .bool true) (fun _ _ => True) := by
  refine fn_of en7 (fun s B B' hB hR => hR) Try.func7 rfl in7 (by simp [Try.f7]) (by simp [closeds]) (fun B0 hB0 => next_of 1000 ?_)
  repeat' (simp (maxSteps := 4000000) (disch := omega) only [go_sem, Nat.reduceBEq, Nat.reduceAdd, Nat.reduceMul, Nat.reduceSub, Nat.reduceLT, Nat.reduceLeDiff, Int.reduceToNat, Int.reduceLT, Int.reduceLE, Int.reduceAdd, Int.reduceMul, Int.reduceSub, Int.reduceNeg, Int.reduceDiv, Int.reduceMod, Nat.reduceBNe, Nat.reduceGT, Int.reduceBEq, Int.reduceBNe, Int.reduceGT, Nat.reduceDiv, Nat.reduceMod, Nat.reducePow, Int.reducePow, gt_iff_lt, ge_iff_le, List.reduceReplicate, ↓reduceIte, Try.f7])
  refine callS_cast (args' := [.agg (rcE r0)]) (by kernel_rfl) ?_
  have hL : LogsAt B0 r0.lA r0.L := ⟨CellsAt.nil _, by simp [r0], by simp [r0]⟩
  refine callS_f (encr_fn hL r0_may (by decide) (by rw [r0_f]; decide)) (fun _ => by simp [closed, closeds]) (fun s B2 hB2 hR => next_of 1000 ?_)
  change BExt B0 B2 at hB2
  obtain ⟨hb, hcap⟩ := hR
  have a0 := hb.ld 0 (by rw [r0_len]; decide)
  have a3 := hb.ld 3 (by rw [r0_len]; decide)
  have a266 := hb.ld 266 (by rw [r0_len]; decide)
  have b0 := hb.lS 0 (by rw [r0_len]; decide)
  have b3 := hb.lS 3 (by rw [r0_len]; decide)
  have b266 := hb.lS 266 (by rw [r0_len]; decide)
  have hd0 := hb.lD (by rw [r0_len]; decide)
  have hso := hb.ok.so (by rw [r0_len]; decide)
  rw [r0_0] at a0
  rw [r0_3] at a3
  rw [r0_266] at a266
  simp only [r0_len, bE, UInt8.reduceToNat] at *
  have hof : Does Try.prog 9 [.raw (.slice none 0 0)] B2 (fun _ : Unit => .agg (ints .u8 (fun _ => 0) 256)) (fun _ _ => True) := of_fn [] 0 B2 none 0 ⟨CellsAt.nil _, by simp, by simp⟩ rfl
  have c0 : ((249 : Nat) : Int) = 249 := rfl
  have c1 : ((1 : Nat) : Int) = 1 := rfl
  have c2 : ((192 : Nat) : Int) = 192 := rfl
  rw [c0] at a0
  rw [c1] at a3
  rw [c2] at a266
  repeat' (first | with_reducible refine And.intro (by first | omega | assumption | (constructor <;> assumption) | (simp; done) | (simp; omega) | (simp [*]; done) | ((repeat' refine And.intro ?_ ?_) <;> first | omega | assumption | (refine SlOk.so (n := ?_) ?_ ?_; rotate_left; assumption; omega) | (simp; done) | fail) | fail) ?_ | simp (maxSteps := 4000000) (disch := omega) only [go_sem, Nat.reduceBEq, Nat.reduceAdd, Nat.reduceMul, Nat.reduceSub, Nat.reduceLT, Nat.reduceLeDiff, Int.reduceToNat, Int.reduceLT, Int.reduceLE, Int.reduceAdd, Int.reduceMul, Int.reduceSub, Int.reduceNeg, Int.reduceDiv, Int.reduceMod, Nat.reduceBNe, Nat.reduceGT, Int.reduceBEq, Int.reduceBNe, Int.reduceGT, Nat.reduceDiv, Nat.reduceMod, Nat.reducePow, Int.reducePow, gt_iff_lt, ge_iff_le, List.reduceReplicate, ↓reduceIte, a0, a3, a266, ints_isInt, beq_self_eq_true] | refine callS_fp (hof) (by simp [closed, closeds, closeds_ints, closed_wE]) (next_of 1000 ?_))
  exact ⟨(), trivial⟩
end Go.Proofs.Ytepabkjfnpaijaa

