/- Part of a proof over the seat YthknokcfmpahcaaDoor. -/
import Derived.Test.YthknokcfmpahcaaDoorTP1
import Derived.Test.YthknokcfmpahcaaDoorTO6
namespace Go.Proofs.YthknokcfmpahcaaDoor
open Go Go.Ew
theorem law_tiles (c : List Int) (ad : Option Addr) (b off cap : Nat) (w : World) (h : CodeAt w c ad b off) : Calls Tryd.prog 9 #[.slice ad c.length cap] w (Ret (.bool true) w) :=
  tiles_calls c ad b off cap w h (fun n w hn => op_calls n hn w)
end Go.Proofs.YthknokcfmpahcaaDoor
