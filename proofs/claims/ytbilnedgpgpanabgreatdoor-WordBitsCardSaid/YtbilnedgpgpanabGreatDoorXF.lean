/- Part of a proof over the seat YtbilnedgpgpanabGreatDoor. -/
import Derived.Test.YtbilnedgpgpanabGreatDoorXE
import Derived.Test.YtbilnedgpgpanabGreatDoorWB
namespace Go.Proofs.YtbilnedgpgpanabGreatDoor
open Go RowKit Go.Ew
set_option maxRecDepth 100000
set_option linter.unusedSimpArgs false
set_option linter.unusedVariables false
set_option maxHeartbeats 1000000
theorem mW (n : Nat) : n % 115792089237316195423570985008687907853269984665640564039457584007913129639936 < 115792089237316195423570985008687907853269984665640564039457584007913129639936 := Nat.mod_lt _ (by decide)
end Go.Proofs.YtbilnedgpgpanabGreatDoor
