/- Part of a proof over the seat Ytepabkjfnpaijaa. -/
import Derived.Test.YtepabkjfnpaijaaMD
import Derived.Test.YtepabkjfnpaijaaEng2
namespace Go.Proofs.Ytepabkjfnpaijaa
open Go RowKit Go.Ew
set_option maxRecDepth 100000
set_option linter.unusedSimpArgs false
set_option linter.unusedVariables false
set_option maxHeartbeats 4000000
theorem marks_body (L L' : List LogV) (h : L'.map LogV.body = L.map LogV.body) : marksL L' = marksL L := by
  have e : ∀ M : List LogV, marksL M = (M.map LogV.body).flatMap (fun b => b.1 :: (List.range b.2.1).map (fun k => (b.2.2.1.drop (32 * k)).take 32)) := fun M => by
    rw [List.flatMap_map]
    rfl
  rw [e, e, h]
end Go.Proofs.Ytepabkjfnpaijaa

