/- Part of a proof over the seat YthknokcfmpahcaaDoor. -/
import Derived.Test.YthknokcfmpahcaaDoorTO3
import Derived.Test.YthknokcfmpahcaaDoorTO5
namespace Go.Proofs.YthknokcfmpahcaaDoor
open Go Go.Ew
theorem op_calls (n : Int) (hn : 0 ≤ n ∧ n < 256) (w : World) : Calls Tryd.prog 13 #[.int .u8 n] w (Ret (real (fun _ => 0) (opE n)) w) :=
  op_calls' n hn (fun h w => arith_calls n ⟨hn.1, h⟩ w) (fun h w => around_calls n h w) (fun h w => memo_calls n h w) (fun h w => callz_calls n ⟨h, by omega⟩ w) (fun s g p q w => info_calls s g p q w) w
theorem law_ops (n : Int) (hn : 0 ≤ n ∧ n < 256) (w : World) : Calls Tryd.prog 3 #[.int .u8 n] w (Ret (.bool true) w) := law_ops' n hn (fun w => op_calls n hn w) w
end Go.Proofs.YthknokcfmpahcaaDoor
