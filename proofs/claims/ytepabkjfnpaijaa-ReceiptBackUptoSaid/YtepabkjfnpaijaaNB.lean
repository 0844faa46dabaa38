/- Part of a proof over the seat Ytepabkjfnpaijaa. -/
import Derived.Test.YtepabkjfnpaijaaME
import Derived.Test.YtepabkjfnpaijaaEng2
import Derived.WideKeyArr
namespace Go.Proofs.Ytepabkjfnpaijaa
open Go RowKit Go.Ew
set_option maxRecDepth 100000
set_option linter.unusedSimpArgs false
set_option linter.unusedVariables false
set_option maxHeartbeats 4000000
theorem numEq (a b : List UInt8) : (List.map EV.num (a.map bE) == List.map EV.num (b.map bE)) = decide (a = b) := by
  have e : ∀ l : List UInt8, List.map EV.num (l.map bE) = l.map (fun x => (x.toNat : Int)) := fun l => by simp [bE, EV.num, Function.comp_def]
  rw [Bool.eq_iff_iff, beq_iff_eq, decide_eq_true_eq, e, e]
  refine ⟨fun h => ?_, fun h => by rw [h]⟩
  exact (List.map_inj_right (fun x y h => UInt8.toNat_inj.1 (Int.ofNat_inj.1 h))).1 h
theorem bE_isInt (l : List UInt8) : (l.map bE).all (EV.isInt .u8) = true := by simp [bE, EV.isInt]
end Go.Proofs.Ytepabkjfnpaijaa

