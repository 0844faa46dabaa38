/- Part of a proof over the seat YtbilnedgpgpanabGreatDoor. -/
import Derived.Test.YtbilnedgpgpanabGreatDoorWS
namespace Go.Proofs.YtbilnedgpgpanabGreatDoor
open Go Go.Ew
set_option maxRecDepth 100000
set_option linter.unusedSimpArgs false
set_option linter.unusedVariables false
set_option maxHeartbeats 1000000
end Go.Proofs.YtbilnedgpgpanabGreatDoor
