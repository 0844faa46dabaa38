/-
  NARROWER THAN 'FOR EVERY INPUT', by the rows' own cells (each row's printed sentence says how): GasOps: laid · GasMemory: laid · GasStores: laid · GasCode: laid · GasGrows: laid · GasRefunds: laid · GasTiles: laid · GasRest: laid · GasCalls: laid · GasPrices: laid.
  DERIVED. THE GIVEN ROWS OF THIS SEAT. 10 by the template 'for every input the law returns true; each argument reads behind the call as it read before'; 0 by the template 'total and deterministic' (their statements: YthknokcfmpahcaaDoorTotals.lean).
  GIVEN WITH THE SEED: the statements are not yours to turn. If you find one false, say at which input.
  Laid BY PROGRAM, IN A SANDBOX (cutbox-rows.mjs): the forced cells as the released guide's own fill.sh prints them over the translation 85fdb1fe60313137… (all of the seat's roots in one cut). By AI agents, Wed Nov 11 2026. No macro, syntax, notation, axiom, sorry.
-/
import Derived.Test.YthknokcfmpahcaaDoorChecked
import GoSem.Claim
import GoSem.ClaimJoined
import GoSem.ClaimMapViews
import Derived.JoinedTies
import Derived.KernelRfl
namespace Go.Proofs.YthknokcfmpahcaaDoor
/- THE CELL 'sum', in the pinned program and in every row, IS THE sha256 OF THE DUMP (.gsa) THAT YthknokcfmpahcaaDoorProg.lean LOADS. Nothing in Lean hashes anything: it is a label: what it is worth is what the hold of that sum in a sandbox is worth. -/
noncomputable def Tryd.pinned : Pinned := { name := "ythknokcfmpahcaadoor", sum := "85fdb1fe60313137895b8e8ca2ad4f6f32ebf5349f49381877f88f9d33a7b978", checked := Tryd.checked }
namespace Rows
def none {H : Type} : Left H := { results := [], args := [] }

/- WHAT THE LISTED PACKAGE-LEVEL VARIABLES READ AS WHEN THE CALL BEGINS. Each datum BY PROGRAM (the guide's laid-datum.mjs) off the statement by which the dump's own 'gosem.cut.vars' lays the variable. In a bare row this is a premise. The card (YthknokcfmpahcaaDoorCards.lean) ties it to the program's text. -/
def laid_math_bits_deBruijn32tab {H : Type} : DataW H := .agg [.lit (.int .u8 0), .lit (.int .u8 1), .lit (.int .u8 28), .lit (.int .u8 2), .lit (.int .u8 29), .lit (.int .u8 14), .lit (.int .u8 24), .lit (.int .u8 3), .lit (.int .u8 30), .lit (.int .u8 22), .lit (.int .u8 20), .lit (.int .u8 15), .lit (.int .u8 25), .lit (.int .u8 17), .lit (.int .u8 4), .lit (.int .u8 8), .lit (.int .u8 31), .lit (.int .u8 27), .lit (.int .u8 13), .lit (.int .u8 23), .lit (.int .u8 21), .lit (.int .u8 19), .lit (.int .u8 16), .lit (.int .u8 7), .lit (.int .u8 26), .lit (.int .u8 12), .lit (.int .u8 18), .lit (.int .u8 6), .lit (.int .u8 11), .lit (.int .u8 5), .lit (.int .u8 10), .lit (.int .u8 9)]
def laid_math_bits_deBruijn64tab {H : Type} : DataW H := .agg [.lit (.int .u8 0), .lit (.int .u8 1), .lit (.int .u8 56), .lit (.int .u8 2), .lit (.int .u8 57), .lit (.int .u8 49), .lit (.int .u8 28), .lit (.int .u8 3), .lit (.int .u8 61), .lit (.int .u8 58), .lit (.int .u8 42), .lit (.int .u8 50), .lit (.int .u8 38), .lit (.int .u8 29), .lit (.int .u8 17), .lit (.int .u8 4), .lit (.int .u8 62), .lit (.int .u8 47), .lit (.int .u8 59), .lit (.int .u8 36), .lit (.int .u8 45), .lit (.int .u8 43), .lit (.int .u8 51), .lit (.int .u8 22), .lit (.int .u8 53), .lit (.int .u8 39), .lit (.int .u8 33), .lit (.int .u8 30), .lit (.int .u8 24), .lit (.int .u8 18), .lit (.int .u8 12), .lit (.int .u8 5), .lit (.int .u8 63), .lit (.int .u8 55), .lit (.int .u8 48), .lit (.int .u8 27), .lit (.int .u8 60), .lit (.int .u8 41), .lit (.int .u8 37), .lit (.int .u8 16), .lit (.int .u8 46), .lit (.int .u8 35), .lit (.int .u8 44), .lit (.int .u8 21), .lit (.int .u8 52), .lit (.int .u8 32), .lit (.int .u8 23), .lit (.int .u8 11), .lit (.int .u8 54), .lit (.int .u8 26), .lit (.int .u8 40), .lit (.int .u8 15), .lit (.int .u8 34), .lit (.int .u8 20), .lit (.int .u8 31), .lit (.int .u8 10), .lit (.int .u8 25), .lit (.int .u8 14), .lit (.int .u8 19), .lit (.int .u8 9), .lit (.int .u8 13), .lit (.int .u8 8), .lit (.int .u8 7), .lit (.int .u8 6)]
def laid_internal_strconv_uint64pow10 {H : Type} : DataW H := .agg [.lit (.int .u64 1), .lit (.int .u64 10), .lit (.int .u64 100), .lit (.int .u64 1000), .lit (.int .u64 10000), .lit (.int .u64 100000), .lit (.int .u64 1000000), .lit (.int .u64 10000000), .lit (.int .u64 100000000), .lit (.int .u64 1000000000), .lit (.int .u64 10000000000), .lit (.int .u64 100000000000), .lit (.int .u64 1000000000000), .lit (.int .u64 10000000000000), .lit (.int .u64 100000000000000), .lit (.int .u64 1000000000000000), .lit (.int .u64 10000000000000000), .lit (.int .u64 100000000000000000), .lit (.int .u64 1000000000000000000), .lit (.int .u64 10000000000000000000)]

/-- 'cairnlaw14.GasOps': WHATEVER THE INPUT: true; the input reads as it did. -/
def gasOpsSpec : ChangeSpec := { name := "gasOps", fn := fun _ => fun
  | [d] => { results := [.lit (.bool true)], args := [d] }
  | _ => none }
def gasOpsRow : OpenClaim := { program := "ythknokcfmpahcaadoor", sum := "85fdb1fe60313137895b8e8ca2ad4f6f32ebf5349f49381877f88f9d33a7b978", func := "cairn/cairnlaw14.GasOps", spec := "gasOps", inPlace := ["math/bits.Add64"], unfollowed := true, recurses := true, named := ["internal/strconv.uint64pow10", "math/bits.deBruijn32tab", "math/bits.deBruijn64tab"], apart := false, laid := [("math/bits.deBruijn32tab", laid_math_bits_deBruijn32tab), ("math/bits.deBruijn64tab", laid_math_bits_deBruijn64tab), ("internal/strconv.uint64pow10", laid_internal_strconv_uint64pow10)] }
def GasOpsSaid : Prop := gasOpsRow.holds Tryd.pinned (OpenSpec.ofChange gasOpsSpec)

/-- ITS FALSE NEIGHBOUR: 'it returns false'. Refute it at one input. -/
def gasOpsWrong : ChangeSpec := { name := "gasOps", fn := fun _ => fun
  | [d] => { results := [.lit (.bool false)], args := [d] }
  | _ => none }
def GasOpsWrongFalsely : Prop := gasOpsRow.holds Tryd.pinned (OpenSpec.ofChange gasOpsWrong)

/-- 'cairnlaw14.GasMemory': WHATEVER THE INPUT: true; the input reads as it did. -/
def gasMemorySpec : ChangeSpec := { name := "gasMemory", fn := fun _ => fun
  | [d1, d2, d3, d4] => { results := [.lit (.bool true)], args := [d1, d2, d3, d4] }
  | _ => none }
def gasMemoryRow : OpenClaim := { program := "ythknokcfmpahcaadoor", sum := "85fdb1fe60313137895b8e8ca2ad4f6f32ebf5349f49381877f88f9d33a7b978", func := "cairn/cairnlaw14.GasMemory", spec := "gasMemory", inPlace := ["math/bits.Add64"], unfollowed := true, recurses := true, named := ["internal/strconv.uint64pow10", "math/bits.deBruijn32tab", "math/bits.deBruijn64tab"], apart := false, laid := [("math/bits.deBruijn32tab", laid_math_bits_deBruijn32tab), ("math/bits.deBruijn64tab", laid_math_bits_deBruijn64tab), ("internal/strconv.uint64pow10", laid_internal_strconv_uint64pow10)] }
def GasMemorySaid : Prop := gasMemoryRow.holds Tryd.pinned (OpenSpec.ofChange gasMemorySpec)

/-- ITS FALSE NEIGHBOUR: 'it returns false'. Refute it at one input. -/
def gasMemoryWrong : ChangeSpec := { name := "gasMemory", fn := fun _ => fun
  | [d1, d2, d3, d4] => { results := [.lit (.bool false)], args := [d1, d2, d3, d4] }
  | _ => none }
def GasMemoryWrongFalsely : Prop := gasMemoryRow.holds Tryd.pinned (OpenSpec.ofChange gasMemoryWrong)

/-- 'cairnlaw14.GasStores': WHATEVER THE INPUT: true; the input reads as it did. -/
def gasStoresSpec : ChangeSpec := { name := "gasStores", fn := fun _ => fun
  | [d1, d2, d3, d4] => { results := [.lit (.bool true)], args := [d1, d2, d3, d4] }
  | _ => none }
def gasStoresRow : OpenClaim := { program := "ythknokcfmpahcaadoor", sum := "85fdb1fe60313137895b8e8ca2ad4f6f32ebf5349f49381877f88f9d33a7b978", func := "cairn/cairnlaw14.GasStores", spec := "gasStores", inPlace := ["math/bits.Add64"], unfollowed := true, recurses := true, named := ["internal/strconv.uint64pow10", "math/bits.deBruijn32tab", "math/bits.deBruijn64tab"], apart := false, laid := [("math/bits.deBruijn32tab", laid_math_bits_deBruijn32tab), ("math/bits.deBruijn64tab", laid_math_bits_deBruijn64tab), ("internal/strconv.uint64pow10", laid_internal_strconv_uint64pow10)] }
def GasStoresSaid : Prop := gasStoresRow.holds Tryd.pinned (OpenSpec.ofChange gasStoresSpec)

/-- ITS FALSE NEIGHBOUR: 'it returns false'. Refute it at one input. -/
def gasStoresWrong : ChangeSpec := { name := "gasStores", fn := fun _ => fun
  | [d1, d2, d3, d4] => { results := [.lit (.bool false)], args := [d1, d2, d3, d4] }
  | _ => none }
def GasStoresWrongFalsely : Prop := gasStoresRow.holds Tryd.pinned (OpenSpec.ofChange gasStoresWrong)

/-- 'cairnlaw14.GasCode': WHATEVER THE INPUT: true; the input reads as it did. -/
def gasCodeSpec : ChangeSpec := { name := "gasCode", fn := fun _ => fun
  | [d1, d2, d3] => { results := [.lit (.bool true)], args := [d1, d2, d3] }
  | _ => none }
def gasCodeRow : OpenClaim := { program := "ythknokcfmpahcaadoor", sum := "85fdb1fe60313137895b8e8ca2ad4f6f32ebf5349f49381877f88f9d33a7b978", func := "cairn/cairnlaw14.GasCode", spec := "gasCode", inPlace := ["math/bits.Add64"], unfollowed := true, recurses := true, named := ["internal/strconv.uint64pow10", "math/bits.deBruijn32tab", "math/bits.deBruijn64tab"], apart := false, laid := [("math/bits.deBruijn32tab", laid_math_bits_deBruijn32tab), ("math/bits.deBruijn64tab", laid_math_bits_deBruijn64tab), ("internal/strconv.uint64pow10", laid_internal_strconv_uint64pow10)] }
def GasCodeSaid : Prop := gasCodeRow.holds Tryd.pinned (OpenSpec.ofChange gasCodeSpec)

/-- ITS FALSE NEIGHBOUR: 'it returns false'. Refute it at one input. -/
def gasCodeWrong : ChangeSpec := { name := "gasCode", fn := fun _ => fun
  | [d1, d2, d3] => { results := [.lit (.bool false)], args := [d1, d2, d3] }
  | _ => none }
def GasCodeWrongFalsely : Prop := gasCodeRow.holds Tryd.pinned (OpenSpec.ofChange gasCodeWrong)

/-- 'cairnlaw14.GasGrows': WHATEVER THE INPUT: true; the input reads as it did. -/
def gasGrowsSpec : ChangeSpec := { name := "gasGrows", fn := fun _ => fun
  | [d1, d2, d3, d4] => { results := [.lit (.bool true)], args := [d1, d2, d3, d4] }
  | _ => none }
def gasGrowsRow : OpenClaim := { program := "ythknokcfmpahcaadoor", sum := "85fdb1fe60313137895b8e8ca2ad4f6f32ebf5349f49381877f88f9d33a7b978", func := "cairn/cairnlaw14.GasGrows", spec := "gasGrows", inPlace := ["math/bits.Add64"], unfollowed := true, recurses := true, named := ["internal/strconv.uint64pow10", "math/bits.deBruijn32tab", "math/bits.deBruijn64tab"], apart := false, laid := [("math/bits.deBruijn32tab", laid_math_bits_deBruijn32tab), ("math/bits.deBruijn64tab", laid_math_bits_deBruijn64tab), ("internal/strconv.uint64pow10", laid_internal_strconv_uint64pow10)] }
def GasGrowsSaid : Prop := gasGrowsRow.holds Tryd.pinned (OpenSpec.ofChange gasGrowsSpec)

/-- ITS FALSE NEIGHBOUR: 'it returns false'. Refute it at one input. -/
def gasGrowsWrong : ChangeSpec := { name := "gasGrows", fn := fun _ => fun
  | [d1, d2, d3, d4] => { results := [.lit (.bool false)], args := [d1, d2, d3, d4] }
  | _ => none }
def GasGrowsWrongFalsely : Prop := gasGrowsRow.holds Tryd.pinned (OpenSpec.ofChange gasGrowsWrong)

/-- 'cairnlaw14.GasRefunds': WHATEVER THE INPUT: true; the input reads as it did. -/
def gasRefundsSpec : ChangeSpec := { name := "gasRefunds", fn := fun _ => fun
  | [d1, d2] => { results := [.lit (.bool true)], args := [d1, d2] }
  | _ => none }
def gasRefundsRow : OpenClaim := { program := "ythknokcfmpahcaadoor", sum := "85fdb1fe60313137895b8e8ca2ad4f6f32ebf5349f49381877f88f9d33a7b978", func := "cairn/cairnlaw14.GasRefunds", spec := "gasRefunds", inPlace := ["math/bits.Add64"], unfollowed := true, recurses := true, named := ["internal/strconv.uint64pow10", "math/bits.deBruijn32tab", "math/bits.deBruijn64tab"], apart := false, laid := [("math/bits.deBruijn32tab", laid_math_bits_deBruijn32tab), ("math/bits.deBruijn64tab", laid_math_bits_deBruijn64tab), ("internal/strconv.uint64pow10", laid_internal_strconv_uint64pow10)] }
def GasRefundsSaid : Prop := gasRefundsRow.holds Tryd.pinned (OpenSpec.ofChange gasRefundsSpec)

/-- ITS FALSE NEIGHBOUR: 'it returns false'. Refute it at one input. -/
def gasRefundsWrong : ChangeSpec := { name := "gasRefunds", fn := fun _ => fun
  | [d1, d2] => { results := [.lit (.bool false)], args := [d1, d2] }
  | _ => none }
def GasRefundsWrongFalsely : Prop := gasRefundsRow.holds Tryd.pinned (OpenSpec.ofChange gasRefundsWrong)

/-- 'cairnlaw14.GasTiles': WHATEVER THE INPUT: true; the input reads as it did. -/
def gasTilesSpec : ChangeSpec := { name := "gasTiles", fn := fun _ => fun
  | [d] => { results := [.lit (.bool true)], args := [d] }
  | _ => none }
def gasTilesRow : OpenClaim := { program := "ythknokcfmpahcaadoor", sum := "85fdb1fe60313137895b8e8ca2ad4f6f32ebf5349f49381877f88f9d33a7b978", func := "cairn/cairnlaw14.GasTiles", spec := "gasTiles", inPlace := ["math/bits.Add64"], unfollowed := true, recurses := true, named := ["internal/strconv.uint64pow10", "math/bits.deBruijn32tab", "math/bits.deBruijn64tab"], apart := false, laid := [("math/bits.deBruijn32tab", laid_math_bits_deBruijn32tab), ("math/bits.deBruijn64tab", laid_math_bits_deBruijn64tab), ("internal/strconv.uint64pow10", laid_internal_strconv_uint64pow10)] }
def GasTilesSaid : Prop := gasTilesRow.holds Tryd.pinned (OpenSpec.ofChange gasTilesSpec)

/-- ITS FALSE NEIGHBOUR: 'it returns false'. Refute it at one input. -/
def gasTilesWrong : ChangeSpec := { name := "gasTiles", fn := fun _ => fun
  | [d] => { results := [.lit (.bool false)], args := [d] }
  | _ => none }
def GasTilesWrongFalsely : Prop := gasTilesRow.holds Tryd.pinned (OpenSpec.ofChange gasTilesWrong)

/-- 'cairnlaw14.GasRest': WHATEVER THE INPUT: true; the input reads as it did. -/
def gasRestSpec : ChangeSpec := { name := "gasRest", fn := fun _ => fun
  | [d1, d2, d3] => { results := [.lit (.bool true)], args := [d1, d2, d3] }
  | _ => none }
def gasRestRow : OpenClaim := { program := "ythknokcfmpahcaadoor", sum := "85fdb1fe60313137895b8e8ca2ad4f6f32ebf5349f49381877f88f9d33a7b978", func := "cairn/cairnlaw14.GasRest", spec := "gasRest", inPlace := ["math/bits.Add64"], unfollowed := true, recurses := true, named := ["internal/strconv.uint64pow10", "math/bits.deBruijn32tab", "math/bits.deBruijn64tab"], apart := false, laid := [("math/bits.deBruijn32tab", laid_math_bits_deBruijn32tab), ("math/bits.deBruijn64tab", laid_math_bits_deBruijn64tab), ("internal/strconv.uint64pow10", laid_internal_strconv_uint64pow10)] }
def GasRestSaid : Prop := gasRestRow.holds Tryd.pinned (OpenSpec.ofChange gasRestSpec)

/-- ITS FALSE NEIGHBOUR: 'it returns false'. Refute it at one input. -/
def gasRestWrong : ChangeSpec := { name := "gasRest", fn := fun _ => fun
  | [d1, d2, d3] => { results := [.lit (.bool false)], args := [d1, d2, d3] }
  | _ => none }
def GasRestWrongFalsely : Prop := gasRestRow.holds Tryd.pinned (OpenSpec.ofChange gasRestWrong)

/-- 'cairnlaw14.GasCalls': WHATEVER THE INPUT: true; the input reads as it did. -/
def gasCallsSpec : ChangeSpec := { name := "gasCalls", fn := fun _ => fun
  | [d1, d2, d3, d4, d5, d6] => { results := [.lit (.bool true)], args := [d1, d2, d3, d4, d5, d6] }
  | _ => none }
def gasCallsRow : OpenClaim := { program := "ythknokcfmpahcaadoor", sum := "85fdb1fe60313137895b8e8ca2ad4f6f32ebf5349f49381877f88f9d33a7b978", func := "cairn/cairnlaw14.GasCalls", spec := "gasCalls", inPlace := ["math/bits.Add64"], unfollowed := true, recurses := true, named := ["internal/strconv.uint64pow10", "math/bits.deBruijn32tab", "math/bits.deBruijn64tab"], apart := false, laid := [("math/bits.deBruijn32tab", laid_math_bits_deBruijn32tab), ("math/bits.deBruijn64tab", laid_math_bits_deBruijn64tab), ("internal/strconv.uint64pow10", laid_internal_strconv_uint64pow10)] }
def GasCallsSaid : Prop := gasCallsRow.holds Tryd.pinned (OpenSpec.ofChange gasCallsSpec)

/-- ITS FALSE NEIGHBOUR: 'it returns false'. Refute it at one input. -/
def gasCallsWrong : ChangeSpec := { name := "gasCalls", fn := fun _ => fun
  | [d1, d2, d3, d4, d5, d6] => { results := [.lit (.bool false)], args := [d1, d2, d3, d4, d5, d6] }
  | _ => none }
def GasCallsWrongFalsely : Prop := gasCallsRow.holds Tryd.pinned (OpenSpec.ofChange gasCallsWrong)

/-- 'cairnlaw14.GasPrices': WHATEVER THE INPUT: true; the input reads as it did. -/
def gasPricesSpec : ChangeSpec := { name := "gasPrices", fn := fun _ => fun
  | [d1, d2, d3, d4, d5] => { results := [.lit (.bool true)], args := [d1, d2, d3, d4, d5] }
  | _ => none }
def gasPricesRow : OpenClaim := { program := "ythknokcfmpahcaadoor", sum := "85fdb1fe60313137895b8e8ca2ad4f6f32ebf5349f49381877f88f9d33a7b978", func := "cairn/cairnlaw14.GasPrices", spec := "gasPrices", inPlace := ["math/bits.Add64"], unfollowed := true, recurses := true, named := ["internal/strconv.uint64pow10", "math/bits.deBruijn32tab", "math/bits.deBruijn64tab"], apart := false, laid := [("math/bits.deBruijn32tab", laid_math_bits_deBruijn32tab), ("math/bits.deBruijn64tab", laid_math_bits_deBruijn64tab), ("internal/strconv.uint64pow10", laid_internal_strconv_uint64pow10)] }
def GasPricesSaid : Prop := gasPricesRow.holds Tryd.pinned (OpenSpec.ofChange gasPricesSpec)

/-- ITS FALSE NEIGHBOUR: 'it returns false'. Refute it at one input. -/
def gasPricesWrong : ChangeSpec := { name := "gasPrices", fn := fun _ => fun
  | [d1, d2, d3, d4, d5] => { results := [.lit (.bool false)], args := [d1, d2, d3, d4, d5] }
  | _ => none }
def GasPricesWrongFalsely : Prop := gasPricesRow.holds Tryd.pinned (OpenSpec.ofChange gasPricesWrong)

/- THE SECOND FORM. 'bulk': how many values and letters a reading holds, each counted each time it is reached (what is shared counts as often as it is met; a slice's spare places count too). A statement '..UptoSaid' is the law's where the arguments, and the package variables that the reading takes, are together of bulk at most 1048576: NARROWER than '..Said'. Prove '..Said' where nothing that the law and all that it calls make is longer than what came in: it says more and counts as full. Else prove '..UptoSaid'. A law counts once. -/
mutual
def uptoBulk {H : Type} : DataW H → Nat
  | .lit (.string bytes) => bytes.length + 1
  | .lit _ => 1
  | .nil => 1
  | .ptr d => uptoBulk d + 1
  | .slice elems spare => uptoBulkAll elems + uptoBulkAll spare + 1
  | .agg parts => uptoBulkAll parts + 1
  | .iface _ d => uptoBulk d + 1
  | .map entries => uptoBulkEntries entries + 1
  | .held _ => 1
def uptoBulkAll {H : Type} : List (DataW H) → Nat
  | [] => 0
  | d :: r => uptoBulk d + uptoBulkAll r
def uptoBulkEntries {H : Type} : List (Lit × DataW H) → Nat
  | [] => 0
  | x :: r => uptoBulkEntry x + uptoBulkEntries r
def uptoBulkEntry {H : Type} : Lit × DataW H → Nat
  | (.string bytes, d) => bytes.length + uptoBulk d + 1
  | (_, d) => uptoBulk d + 1
 end
def uptoSmall : (H : Type) → List (DataW H) → Bool := fun _ ds => decide (uptoBulkAll ds ≤ 1048576)
def OpenSpec.upto (s : _root_.Go.ChangeSpec) : _root_.Go.OpenSpec := { _root_.Go.OpenSpec.ofChange s with cond := some uptoSmall }

/-- 'cairnlaw14.GasOps', WHERE WHAT IT READS IS OF BULK AT MOST 1048576: true; the input reads as it did. -/
def gasOpsUptoRow : OpenClaim := { program := "ythknokcfmpahcaadoor", sum := "85fdb1fe60313137895b8e8ca2ad4f6f32ebf5349f49381877f88f9d33a7b978", func := "cairn/cairnlaw14.GasOps", spec := "gasOps", inPlace := ["math/bits.Add64"], unfollowed := true, recurses := true, named := ["internal/strconv.uint64pow10", "math/bits.deBruijn32tab", "math/bits.deBruijn64tab"], apart := false, laid := [("math/bits.deBruijn32tab", laid_math_bits_deBruijn32tab), ("math/bits.deBruijn64tab", laid_math_bits_deBruijn64tab), ("internal/strconv.uint64pow10", laid_internal_strconv_uint64pow10)], narrowed := true }
def GasOpsUptoSaid : Prop := gasOpsUptoRow.holds Tryd.pinned (OpenSpec.upto gasOpsSpec)

/-- 'cairnlaw14.GasMemory', WHERE WHAT IT READS IS OF BULK AT MOST 1048576: true; the input reads as it did. -/
def gasMemoryUptoRow : OpenClaim := { program := "ythknokcfmpahcaadoor", sum := "85fdb1fe60313137895b8e8ca2ad4f6f32ebf5349f49381877f88f9d33a7b978", func := "cairn/cairnlaw14.GasMemory", spec := "gasMemory", inPlace := ["math/bits.Add64"], unfollowed := true, recurses := true, named := ["internal/strconv.uint64pow10", "math/bits.deBruijn32tab", "math/bits.deBruijn64tab"], apart := false, laid := [("math/bits.deBruijn32tab", laid_math_bits_deBruijn32tab), ("math/bits.deBruijn64tab", laid_math_bits_deBruijn64tab), ("internal/strconv.uint64pow10", laid_internal_strconv_uint64pow10)], narrowed := true }
def GasMemoryUptoSaid : Prop := gasMemoryUptoRow.holds Tryd.pinned (OpenSpec.upto gasMemorySpec)

/-- 'cairnlaw14.GasStores', WHERE WHAT IT READS IS OF BULK AT MOST 1048576: true; the input reads as it did. -/
def gasStoresUptoRow : OpenClaim := { program := "ythknokcfmpahcaadoor", sum := "85fdb1fe60313137895b8e8ca2ad4f6f32ebf5349f49381877f88f9d33a7b978", func := "cairn/cairnlaw14.GasStores", spec := "gasStores", inPlace := ["math/bits.Add64"], unfollowed := true, recurses := true, named := ["internal/strconv.uint64pow10", "math/bits.deBruijn32tab", "math/bits.deBruijn64tab"], apart := false, laid := [("math/bits.deBruijn32tab", laid_math_bits_deBruijn32tab), ("math/bits.deBruijn64tab", laid_math_bits_deBruijn64tab), ("internal/strconv.uint64pow10", laid_internal_strconv_uint64pow10)], narrowed := true }
def GasStoresUptoSaid : Prop := gasStoresUptoRow.holds Tryd.pinned (OpenSpec.upto gasStoresSpec)

/-- 'cairnlaw14.GasCode', WHERE WHAT IT READS IS OF BULK AT MOST 1048576: true; the input reads as it did. -/
def gasCodeUptoRow : OpenClaim := { program := "ythknokcfmpahcaadoor", sum := "85fdb1fe60313137895b8e8ca2ad4f6f32ebf5349f49381877f88f9d33a7b978", func := "cairn/cairnlaw14.GasCode", spec := "gasCode", inPlace := ["math/bits.Add64"], unfollowed := true, recurses := true, named := ["internal/strconv.uint64pow10", "math/bits.deBruijn32tab", "math/bits.deBruijn64tab"], apart := false, laid := [("math/bits.deBruijn32tab", laid_math_bits_deBruijn32tab), ("math/bits.deBruijn64tab", laid_math_bits_deBruijn64tab), ("internal/strconv.uint64pow10", laid_internal_strconv_uint64pow10)], narrowed := true }
def GasCodeUptoSaid : Prop := gasCodeUptoRow.holds Tryd.pinned (OpenSpec.upto gasCodeSpec)

/-- 'cairnlaw14.GasGrows', WHERE WHAT IT READS IS OF BULK AT MOST 1048576: true; the input reads as it did. -/
def gasGrowsUptoRow : OpenClaim := { program := "ythknokcfmpahcaadoor", sum := "85fdb1fe60313137895b8e8ca2ad4f6f32ebf5349f49381877f88f9d33a7b978", func := "cairn/cairnlaw14.GasGrows", spec := "gasGrows", inPlace := ["math/bits.Add64"], unfollowed := true, recurses := true, named := ["internal/strconv.uint64pow10", "math/bits.deBruijn32tab", "math/bits.deBruijn64tab"], apart := false, laid := [("math/bits.deBruijn32tab", laid_math_bits_deBruijn32tab), ("math/bits.deBruijn64tab", laid_math_bits_deBruijn64tab), ("internal/strconv.uint64pow10", laid_internal_strconv_uint64pow10)], narrowed := true }
def GasGrowsUptoSaid : Prop := gasGrowsUptoRow.holds Tryd.pinned (OpenSpec.upto gasGrowsSpec)

/-- 'cairnlaw14.GasRefunds', WHERE WHAT IT READS IS OF BULK AT MOST 1048576: true; the input reads as it did. -/
def gasRefundsUptoRow : OpenClaim := { program := "ythknokcfmpahcaadoor", sum := "85fdb1fe60313137895b8e8ca2ad4f6f32ebf5349f49381877f88f9d33a7b978", func := "cairn/cairnlaw14.GasRefunds", spec := "gasRefunds", inPlace := ["math/bits.Add64"], unfollowed := true, recurses := true, named := ["internal/strconv.uint64pow10", "math/bits.deBruijn32tab", "math/bits.deBruijn64tab"], apart := false, laid := [("math/bits.deBruijn32tab", laid_math_bits_deBruijn32tab), ("math/bits.deBruijn64tab", laid_math_bits_deBruijn64tab), ("internal/strconv.uint64pow10", laid_internal_strconv_uint64pow10)], narrowed := true }
def GasRefundsUptoSaid : Prop := gasRefundsUptoRow.holds Tryd.pinned (OpenSpec.upto gasRefundsSpec)

/-- 'cairnlaw14.GasTiles', WHERE WHAT IT READS IS OF BULK AT MOST 1048576: true; the input reads as it did. -/
def gasTilesUptoRow : OpenClaim := { program := "ythknokcfmpahcaadoor", sum := "85fdb1fe60313137895b8e8ca2ad4f6f32ebf5349f49381877f88f9d33a7b978", func := "cairn/cairnlaw14.GasTiles", spec := "gasTiles", inPlace := ["math/bits.Add64"], unfollowed := true, recurses := true, named := ["internal/strconv.uint64pow10", "math/bits.deBruijn32tab", "math/bits.deBruijn64tab"], apart := false, laid := [("math/bits.deBruijn32tab", laid_math_bits_deBruijn32tab), ("math/bits.deBruijn64tab", laid_math_bits_deBruijn64tab), ("internal/strconv.uint64pow10", laid_internal_strconv_uint64pow10)], narrowed := true }
def GasTilesUptoSaid : Prop := gasTilesUptoRow.holds Tryd.pinned (OpenSpec.upto gasTilesSpec)

/-- 'cairnlaw14.GasRest', WHERE WHAT IT READS IS OF BULK AT MOST 1048576: true; the input reads as it did. -/
def gasRestUptoRow : OpenClaim := { program := "ythknokcfmpahcaadoor", sum := "85fdb1fe60313137895b8e8ca2ad4f6f32ebf5349f49381877f88f9d33a7b978", func := "cairn/cairnlaw14.GasRest", spec := "gasRest", inPlace := ["math/bits.Add64"], unfollowed := true, recurses := true, named := ["internal/strconv.uint64pow10", "math/bits.deBruijn32tab", "math/bits.deBruijn64tab"], apart := false, laid := [("math/bits.deBruijn32tab", laid_math_bits_deBruijn32tab), ("math/bits.deBruijn64tab", laid_math_bits_deBruijn64tab), ("internal/strconv.uint64pow10", laid_internal_strconv_uint64pow10)], narrowed := true }
def GasRestUptoSaid : Prop := gasRestUptoRow.holds Tryd.pinned (OpenSpec.upto gasRestSpec)

/-- 'cairnlaw14.GasCalls', WHERE WHAT IT READS IS OF BULK AT MOST 1048576: true; the input reads as it did. -/
def gasCallsUptoRow : OpenClaim := { program := "ythknokcfmpahcaadoor", sum := "85fdb1fe60313137895b8e8ca2ad4f6f32ebf5349f49381877f88f9d33a7b978", func := "cairn/cairnlaw14.GasCalls", spec := "gasCalls", inPlace := ["math/bits.Add64"], unfollowed := true, recurses := true, named := ["internal/strconv.uint64pow10", "math/bits.deBruijn32tab", "math/bits.deBruijn64tab"], apart := false, laid := [("math/bits.deBruijn32tab", laid_math_bits_deBruijn32tab), ("math/bits.deBruijn64tab", laid_math_bits_deBruijn64tab), ("internal/strconv.uint64pow10", laid_internal_strconv_uint64pow10)], narrowed := true }
def GasCallsUptoSaid : Prop := gasCallsUptoRow.holds Tryd.pinned (OpenSpec.upto gasCallsSpec)

/-- 'cairnlaw14.GasPrices', WHERE WHAT IT READS IS OF BULK AT MOST 1048576: true; the input reads as it did. -/
def gasPricesUptoRow : OpenClaim := { program := "ythknokcfmpahcaadoor", sum := "85fdb1fe60313137895b8e8ca2ad4f6f32ebf5349f49381877f88f9d33a7b978", func := "cairn/cairnlaw14.GasPrices", spec := "gasPrices", inPlace := ["math/bits.Add64"], unfollowed := true, recurses := true, named := ["internal/strconv.uint64pow10", "math/bits.deBruijn32tab", "math/bits.deBruijn64tab"], apart := false, laid := [("math/bits.deBruijn32tab", laid_math_bits_deBruijn32tab), ("math/bits.deBruijn64tab", laid_math_bits_deBruijn64tab), ("internal/strconv.uint64pow10", laid_internal_strconv_uint64pow10)], narrowed := true }
def GasPricesUptoSaid : Prop := gasPricesUptoRow.holds Tryd.pinned (OpenSpec.upto gasPricesSpec)

end Rows
end Go.Proofs.YthknokcfmpahcaaDoor
