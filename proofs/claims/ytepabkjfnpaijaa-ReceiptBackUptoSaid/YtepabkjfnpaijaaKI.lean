/- Part of a proof over the seat Ytepabkjfnpaijaa. -/
import Derived.Test.YtepabkjfnpaijaaKH
namespace Go.Proofs.Ytepabkjfnpaijaa
open Go RowKit Go.Ew
set_option maxRecDepth 100000
set_option linter.unusedSimpArgs false
set_option linter.unusedVariables false
set_option maxHeartbeats 4000000
def hQ (a : Nat → L64) (i : Nat) : Nat → Int := fun j => if j < i then hF a j else 0
end Go.Proofs.Ytepabkjfnpaijaa

