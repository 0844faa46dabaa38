/-
  No cell of these rows narrows 'for every input' (looked for: loops, veiled, ifaces, maps, wideKeys, modest, calm, conditions, laid).
  DERIVED. THE GIVEN ROWS OF THIS SEAT. 4 by the template 'for every input the law returns true; each argument reads behind the call as it read before'; 0 by the template 'total and deterministic' (their statements: YtepabkjfnpaijaaTotals.lean).
  GIVEN WITH THE SEED: the statements are not yours to turn. If you find one false, say at which input.
  Laid BY PROGRAM, IN A SANDBOX (cutbox-rows.mjs): the forced cells as the released guide's own fill.sh prints them over the translation f4e3d0754deda290… (all of the seat's roots in one cut). By AI agents, Wed Nov 11 2026. No macro, syntax, notation, axiom, sorry.
-/
import Derived.Test.YtepabkjfnpaijaaChecked
import GoSem.Claim
import GoSem.ClaimJoined
import GoSem.ClaimMapViews
import Derived.JoinedTies
import Derived.KernelRfl
namespace Go.Proofs.Ytepabkjfnpaijaa
/- THE CELL 'sum', in the pinned program and in every row, IS THE sha256 OF THE DUMP (.gsa) THAT YtepabkjfnpaijaaProg.lean LOADS. Nothing in Lean hashes anything: it is a label: what it is worth is what the hold of that sum in a sandbox is worth. -/
noncomputable def Try.pinned : Pinned := { name := "ytepabkjfnpaijaa", sum := "f4e3d0754deda2902f539d77dd4a38524abd2be56563d8fa5d86f35ae6e1a213", checked := Try.checked }
namespace Rows
def none {H : Type} : Left H := { results := [], args := [] }

/-- 'cairnlaw19.ReceiptFilters': WHATEVER THE INPUT: true; the input reads as it did. -/
def receiptFiltersSpec : ChangeSpec := { name := "receiptFilters", fn := fun _ => fun
  | [d1, d2, d3] => { results := [.lit (.bool true)], args := [d1, d2, d3] }
  | _ => none }
def receiptFiltersRow : OpenClaim := { program := "ytepabkjfnpaijaa", sum := "f4e3d0754deda2902f539d77dd4a38524abd2be56563d8fa5d86f35ae6e1a213", func := "cairn/cairnlaw19.ReceiptFilters", spec := "receiptFilters", unfollowed := true, recurses := true, plainKeys := false, apart := false }
def ReceiptFiltersSaid : Prop := receiptFiltersRow.holds Try.pinned (OpenSpec.ofChange receiptFiltersSpec)

/-- ITS FALSE NEIGHBOUR: 'it returns false'. Refute it at one input. -/
def receiptFiltersWrong : ChangeSpec := { name := "receiptFilters", fn := fun _ => fun
  | [d1, d2, d3] => { results := [.lit (.bool false)], args := [d1, d2, d3] }
  | _ => none }
def ReceiptFiltersWrongFalsely : Prop := receiptFiltersRow.holds Try.pinned (OpenSpec.ofChange receiptFiltersWrong)

/-- 'cairnlaw19.ReceiptFinds': WHATEVER THE INPUT: true; the input reads as it did. -/
def receiptFindsSpec : ChangeSpec := { name := "receiptFinds", fn := fun _ => fun
  | [d1, d2, d3] => { results := [.lit (.bool true)], args := [d1, d2, d3] }
  | _ => none }
def receiptFindsRow : OpenClaim := { program := "ytepabkjfnpaijaa", sum := "f4e3d0754deda2902f539d77dd4a38524abd2be56563d8fa5d86f35ae6e1a213", func := "cairn/cairnlaw19.ReceiptFinds", spec := "receiptFinds", unfollowed := true, recurses := true, plainKeys := false, apart := false }
def ReceiptFindsSaid : Prop := receiptFindsRow.holds Try.pinned (OpenSpec.ofChange receiptFindsSpec)

/-- ITS FALSE NEIGHBOUR: 'it returns false'. Refute it at one input. -/
def receiptFindsWrong : ChangeSpec := { name := "receiptFinds", fn := fun _ => fun
  | [d1, d2, d3] => { results := [.lit (.bool false)], args := [d1, d2, d3] }
  | _ => none }
def ReceiptFindsWrongFalsely : Prop := receiptFindsRow.holds Try.pinned (OpenSpec.ofChange receiptFindsWrong)

/-- 'cairnlaw19.ReceiptBytes': WHATEVER THE INPUT: true; the input reads as it did. -/
def receiptBytesSpec : ChangeSpec := { name := "receiptBytes", fn := fun _ => fun
  | [d1, d2] => { results := [.lit (.bool true)], args := [d1, d2] }
  | _ => none }
def receiptBytesRow : OpenClaim := { program := "ytepabkjfnpaijaa", sum := "f4e3d0754deda2902f539d77dd4a38524abd2be56563d8fa5d86f35ae6e1a213", func := "cairn/cairnlaw19.ReceiptBytes", spec := "receiptBytes", unfollowed := true, recurses := true, plainKeys := false, apart := false }
def ReceiptBytesSaid : Prop := receiptBytesRow.holds Try.pinned (OpenSpec.ofChange receiptBytesSpec)

/-- ITS FALSE NEIGHBOUR: 'it returns false'. Refute it at one input. -/
def receiptBytesWrong : ChangeSpec := { name := "receiptBytes", fn := fun _ => fun
  | [d1, d2] => { results := [.lit (.bool false)], args := [d1, d2] }
  | _ => none }
def ReceiptBytesWrongFalsely : Prop := receiptBytesRow.holds Try.pinned (OpenSpec.ofChange receiptBytesWrong)

/-- 'cairnlaw19.ReceiptBack': WHATEVER THE INPUT: true; the input reads as it did. -/
def receiptBackSpec : ChangeSpec := { name := "receiptBack", fn := fun _ => fun
  | [d1, d2] => { results := [.lit (.bool true)], args := [d1, d2] }
  | _ => none }
def receiptBackRow : OpenClaim := { program := "ytepabkjfnpaijaa", sum := "f4e3d0754deda2902f539d77dd4a38524abd2be56563d8fa5d86f35ae6e1a213", func := "cairn/cairnlaw19.ReceiptBack", spec := "receiptBack", unfollowed := true, recurses := true, plainKeys := false, apart := false }
def ReceiptBackSaid : Prop := receiptBackRow.holds Try.pinned (OpenSpec.ofChange receiptBackSpec)

/-- ITS FALSE NEIGHBOUR: 'it returns false'. Refute it at one input. -/
def receiptBackWrong : ChangeSpec := { name := "receiptBack", fn := fun _ => fun
  | [d1, d2] => { results := [.lit (.bool false)], args := [d1, d2] }
  | _ => none }
def ReceiptBackWrongFalsely : Prop := receiptBackRow.holds Try.pinned (OpenSpec.ofChange receiptBackWrong)

/- THE SECOND FORM. 'bulk': how many values and letters a reading holds, each counted each time it is reached (what is shared counts as often as it is met; a slice's spare places count too). A statement '..UptoSaid' is the law's where the arguments, and the package variables that the reading takes, are together of bulk at most 1048576: NARROWER than '..Said'. Prove '..Said' where nothing that the law and all that it calls make is longer than what came in: it says more and counts as full. Else prove '..UptoSaid'. A law counts once. -/
mutual
def uptoBulk {H : Type} : DataW H → Nat
  | .lit (.string bytes) => bytes.length + 1
  | .lit _ => 1
  | .nil => 1
  | .ptr d => uptoBulk d + 1
  | .slice elems spare => uptoBulkAll elems + uptoBulkAll spare + 1
  | .agg parts => uptoBulkAll parts + 1
  | .iface _ d => uptoBulk d + 1
  | .map entries => uptoBulkEntries entries + 1
  | .held _ => 1
def uptoBulkAll {H : Type} : List (DataW H) → Nat
  | [] => 0
  | d :: r => uptoBulk d + uptoBulkAll r
def uptoBulkEntries {H : Type} : List (Lit × DataW H) → Nat
  | [] => 0
  | x :: r => uptoBulkEntry x + uptoBulkEntries r
def uptoBulkEntry {H : Type} : Lit × DataW H → Nat
  | (.string bytes, d) => bytes.length + uptoBulk d + 1
  | (_, d) => uptoBulk d + 1
 end
def uptoSmall : (H : Type) → List (DataW H) → Bool := fun _ ds => decide (uptoBulkAll ds ≤ 1048576)
def OpenSpec.upto (s : _root_.Go.ChangeSpec) : _root_.Go.OpenSpec := { _root_.Go.OpenSpec.ofChange s with cond := some uptoSmall }

/-- 'cairnlaw19.ReceiptFilters', WHERE WHAT IT READS IS OF BULK AT MOST 1048576: true; the input reads as it did. -/
def receiptFiltersUptoRow : OpenClaim := { program := "ytepabkjfnpaijaa", sum := "f4e3d0754deda2902f539d77dd4a38524abd2be56563d8fa5d86f35ae6e1a213", func := "cairn/cairnlaw19.ReceiptFilters", spec := "receiptFilters", unfollowed := true, recurses := true, plainKeys := false, apart := false, narrowed := true }
def ReceiptFiltersUptoSaid : Prop := receiptFiltersUptoRow.holds Try.pinned (OpenSpec.upto receiptFiltersSpec)

/-- 'cairnlaw19.ReceiptFinds', WHERE WHAT IT READS IS OF BULK AT MOST 1048576: true; the input reads as it did. -/
def receiptFindsUptoRow : OpenClaim := { program := "ytepabkjfnpaijaa", sum := "f4e3d0754deda2902f539d77dd4a38524abd2be56563d8fa5d86f35ae6e1a213", func := "cairn/cairnlaw19.ReceiptFinds", spec := "receiptFinds", unfollowed := true, recurses := true, plainKeys := false, apart := false, narrowed := true }
def ReceiptFindsUptoSaid : Prop := receiptFindsUptoRow.holds Try.pinned (OpenSpec.upto receiptFindsSpec)

/-- 'cairnlaw19.ReceiptBytes', WHERE WHAT IT READS IS OF BULK AT MOST 1048576: true; the input reads as it did. -/
def receiptBytesUptoRow : OpenClaim := { program := "ytepabkjfnpaijaa", sum := "f4e3d0754deda2902f539d77dd4a38524abd2be56563d8fa5d86f35ae6e1a213", func := "cairn/cairnlaw19.ReceiptBytes", spec := "receiptBytes", unfollowed := true, recurses := true, plainKeys := false, apart := false, narrowed := true }
def ReceiptBytesUptoSaid : Prop := receiptBytesUptoRow.holds Try.pinned (OpenSpec.upto receiptBytesSpec)

/-- 'cairnlaw19.ReceiptBack', WHERE WHAT IT READS IS OF BULK AT MOST 1048576: true; the input reads as it did. -/
def receiptBackUptoRow : OpenClaim := { program := "ytepabkjfnpaijaa", sum := "f4e3d0754deda2902f539d77dd4a38524abd2be56563d8fa5d86f35ae6e1a213", func := "cairn/cairnlaw19.ReceiptBack", spec := "receiptBack", unfollowed := true, recurses := true, plainKeys := false, apart := false, narrowed := true }
def ReceiptBackUptoSaid : Prop := receiptBackUptoRow.holds Try.pinned (OpenSpec.upto receiptBackSpec)

end Rows
end Go.Proofs.Ytepabkjfnpaijaa
