/-
  No cell of these rows narrows 'for every input' (looked for: loops, veiled, ifaces, maps, wideKeys, modest, calm, conditions, laid).
  DERIVED. THE GIVEN ROWS OF THIS SEAT. 5 by the template 'for every input the law returns true; each argument reads behind the call as it read before'; 0 by the template 'total and deterministic' (their statements: YtncjbfkkgdepoaaTotals.lean).
  GIVEN WITH THE SEED: the statements are not yours to turn. If you find one false, say at which input.
  Laid BY PROGRAM, IN A SANDBOX (cutbox-rows.mjs): the forced cells as the released guide's own fill.sh prints them over the translation 3c07b91296020c58… (all of the seat's roots in one cut). By AI agents, Wed Nov 11 2026. No macro, syntax, notation, axiom, sorry.
-/
import Derived.Test.YtncjbfkkgdepoaaChecked
import GoSem.Claim
import GoSem.ClaimJoined
import GoSem.ClaimMapViews
import Derived.JoinedTies
import Derived.KernelRfl
namespace Go.Proofs.Ytncjbfkkgdepoaa
/- THE CELL 'sum', in the pinned program and in every row, IS THE sha256 OF THE DUMP (.gsa) THAT YtncjbfkkgdepoaaProg.lean LOADS. Nothing in Lean hashes anything: it is a label: what it is worth is what the hold of that sum in a sandbox is worth. -/
noncomputable def Try.pinned : Pinned := { name := "ytncjbfkkgdepoaa", sum := "3c07b91296020c58b96e3c4534f707e2aafcdfcbe99a4e8e32c40984df0b08f9", checked := Try.checked }
namespace Rows
def none {H : Type} : Left H := { results := [], args := [] }

/-- 'cairnlaw12.TriePrefixes': WHATEVER THE INPUT: true; the input reads as it did. -/
def triePrefixesSpec : ChangeSpec := { name := "triePrefixes", fn := fun _ => fun
  | [d1, d2] => { results := [.lit (.bool true)], args := [d1, d2] }
  | _ => none }
def triePrefixesRow : OpenClaim := { program := "ytncjbfkkgdepoaa", sum := "3c07b91296020c58b96e3c4534f707e2aafcdfcbe99a4e8e32c40984df0b08f9", func := "cairn/cairnlaw12.TriePrefixes", spec := "triePrefixes", unfollowed := true, recurses := true, plainKeys := false, apart := false }
def TriePrefixesSaid : Prop := triePrefixesRow.holds Try.pinned (OpenSpec.ofChange triePrefixesSpec)

/-- ITS FALSE NEIGHBOUR: 'it returns false'. Refute it at one input. -/
def triePrefixesWrong : ChangeSpec := { name := "triePrefixes", fn := fun _ => fun
  | [d1, d2] => { results := [.lit (.bool false)], args := [d1, d2] }
  | _ => none }
def TriePrefixesWrongFalsely : Prop := triePrefixesRow.holds Try.pinned (OpenSpec.ofChange triePrefixesWrong)

/-- 'cairnlaw12.TrieHistory': WHATEVER THE INPUT: true; the input reads as it did. -/
def trieHistorySpec : ChangeSpec := { name := "trieHistory", fn := fun _ => fun
  | [d1, d2, d3] => { results := [.lit (.bool true)], args := [d1, d2, d3] }
  | _ => none }
def trieHistoryRow : OpenClaim := { program := "ytncjbfkkgdepoaa", sum := "3c07b91296020c58b96e3c4534f707e2aafcdfcbe99a4e8e32c40984df0b08f9", func := "cairn/cairnlaw12.TrieHistory", spec := "trieHistory", unfollowed := true, recurses := true, plainKeys := false, apart := false }
def TrieHistorySaid : Prop := trieHistoryRow.holds Try.pinned (OpenSpec.ofChange trieHistorySpec)

/-- ITS FALSE NEIGHBOUR: 'it returns false'. Refute it at one input. -/
def trieHistoryWrong : ChangeSpec := { name := "trieHistory", fn := fun _ => fun
  | [d1, d2, d3] => { results := [.lit (.bool false)], args := [d1, d2, d3] }
  | _ => none }
def TrieHistoryWrongFalsely : Prop := trieHistoryRow.holds Try.pinned (OpenSpec.ofChange trieHistoryWrong)

/-- 'cairnlaw12.TrieUnlike': WHATEVER THE INPUT: true; the input reads as it did. -/
def trieUnlikeSpec : ChangeSpec := { name := "trieUnlike", fn := fun _ => fun
  | [d1, d2] => { results := [.lit (.bool true)], args := [d1, d2] }
  | _ => none }
def trieUnlikeRow : OpenClaim := { program := "ytncjbfkkgdepoaa", sum := "3c07b91296020c58b96e3c4534f707e2aafcdfcbe99a4e8e32c40984df0b08f9", func := "cairn/cairnlaw12.TrieUnlike", spec := "trieUnlike", unfollowed := true, recurses := true, plainKeys := false, apart := false }
def TrieUnlikeSaid : Prop := trieUnlikeRow.holds Try.pinned (OpenSpec.ofChange trieUnlikeSpec)

/-- ITS FALSE NEIGHBOUR: 'it returns false'. Refute it at one input. -/
def trieUnlikeWrong : ChangeSpec := { name := "trieUnlike", fn := fun _ => fun
  | [d1, d2] => { results := [.lit (.bool false)], args := [d1, d2] }
  | _ => none }
def TrieUnlikeWrongFalsely : Prop := trieUnlikeRow.holds Try.pinned (OpenSpec.ofChange trieUnlikeWrong)

/-- 'cairnlaw12.TriePacked': WHATEVER THE INPUT: true; the input reads as it did. -/
def triePackedSpec : ChangeSpec := { name := "triePacked", fn := fun _ => fun
  | [d1, d2, d3, d4] => { results := [.lit (.bool true)], args := [d1, d2, d3, d4] }
  | _ => none }
def triePackedRow : OpenClaim := { program := "ytncjbfkkgdepoaa", sum := "3c07b91296020c58b96e3c4534f707e2aafcdfcbe99a4e8e32c40984df0b08f9", func := "cairn/cairnlaw12.TriePacked", spec := "triePacked", unfollowed := true, recurses := true, plainKeys := false, apart := false }
def TriePackedSaid : Prop := triePackedRow.holds Try.pinned (OpenSpec.ofChange triePackedSpec)

/-- ITS FALSE NEIGHBOUR: 'it returns false'. Refute it at one input. -/
def triePackedWrong : ChangeSpec := { name := "triePacked", fn := fun _ => fun
  | [d1, d2, d3, d4] => { results := [.lit (.bool false)], args := [d1, d2, d3, d4] }
  | _ => none }
def TriePackedWrongFalsely : Prop := triePackedRow.holds Try.pinned (OpenSpec.ofChange triePackedWrong)

/-- 'cairnlaw26.ProofVerifies': WHATEVER THE INPUT: true; the input reads as it did. -/
def proofVerifiesSpec : ChangeSpec := { name := "proofVerifies", fn := fun _ => fun
  | [d1, d2, d3] => { results := [.lit (.bool true)], args := [d1, d2, d3] }
  | _ => none }
def proofVerifiesRow : OpenClaim := { program := "ytncjbfkkgdepoaa", sum := "3c07b91296020c58b96e3c4534f707e2aafcdfcbe99a4e8e32c40984df0b08f9", func := "cairn/cairnlaw26.ProofVerifies", spec := "proofVerifies", unfollowed := true, recurses := true, plainKeys := false, apart := false }
def ProofVerifiesSaid : Prop := proofVerifiesRow.holds Try.pinned (OpenSpec.ofChange proofVerifiesSpec)

/-- ITS FALSE NEIGHBOUR: 'it returns false'. Refute it at one input. -/
def proofVerifiesWrong : ChangeSpec := { name := "proofVerifies", fn := fun _ => fun
  | [d1, d2, d3] => { results := [.lit (.bool false)], args := [d1, d2, d3] }
  | _ => none }
def ProofVerifiesWrongFalsely : Prop := proofVerifiesRow.holds Try.pinned (OpenSpec.ofChange proofVerifiesWrong)

/- THE SECOND FORM. 'bulk': how many values and letters a reading holds, each counted each time it is reached (what is shared counts as often as it is met; a slice's spare places count too). A statement '..UptoSaid' is the law's where the arguments, and the package variables that the reading takes, are together of bulk at most 1048576: NARROWER than '..Said'. Prove '..Said' where nothing that the law and all that it calls make is longer than what came in: it says more and counts as full. Else prove '..UptoSaid'. A law counts once. -/
mutual
def uptoBulk {H : Type} : DataW H → Nat
  | .lit (.string bytes) => bytes.length + 1
  | .lit _ => 1
  | .nil => 1
  | .ptr d => uptoBulk d + 1
  | .slice elems spare => uptoBulkAll elems + uptoBulkAll spare + 1
  | .agg parts => uptoBulkAll parts + 1
  | .iface _ d => uptoBulk d + 1
  | .map entries => uptoBulkEntries entries + 1
  | .held _ => 1
def uptoBulkAll {H : Type} : List (DataW H) → Nat
  | [] => 0
  | d :: r => uptoBulk d + uptoBulkAll r
def uptoBulkEntries {H : Type} : List (Lit × DataW H) → Nat
  | [] => 0
  | x :: r => uptoBulkEntry x + uptoBulkEntries r
def uptoBulkEntry {H : Type} : Lit × DataW H → Nat
  | (.string bytes, d) => bytes.length + uptoBulk d + 1
  | (_, d) => uptoBulk d + 1
 end
def uptoSmall : (H : Type) → List (DataW H) → Bool := fun _ ds => decide (uptoBulkAll ds ≤ 1048576)
def OpenSpec.upto (s : _root_.Go.ChangeSpec) : _root_.Go.OpenSpec := { _root_.Go.OpenSpec.ofChange s with cond := some uptoSmall }

/-- 'cairnlaw12.TriePrefixes', WHERE WHAT IT READS IS OF BULK AT MOST 1048576: true; the input reads as it did. -/
def triePrefixesUptoRow : OpenClaim := { program := "ytncjbfkkgdepoaa", sum := "3c07b91296020c58b96e3c4534f707e2aafcdfcbe99a4e8e32c40984df0b08f9", func := "cairn/cairnlaw12.TriePrefixes", spec := "triePrefixes", unfollowed := true, recurses := true, plainKeys := false, apart := false, narrowed := true }
def TriePrefixesUptoSaid : Prop := triePrefixesUptoRow.holds Try.pinned (OpenSpec.upto triePrefixesSpec)

/-- 'cairnlaw12.TrieHistory', WHERE WHAT IT READS IS OF BULK AT MOST 1048576: true; the input reads as it did. -/
def trieHistoryUptoRow : OpenClaim := { program := "ytncjbfkkgdepoaa", sum := "3c07b91296020c58b96e3c4534f707e2aafcdfcbe99a4e8e32c40984df0b08f9", func := "cairn/cairnlaw12.TrieHistory", spec := "trieHistory", unfollowed := true, recurses := true, plainKeys := false, apart := false, narrowed := true }
def TrieHistoryUptoSaid : Prop := trieHistoryUptoRow.holds Try.pinned (OpenSpec.upto trieHistorySpec)

/-- 'cairnlaw12.TrieUnlike', WHERE WHAT IT READS IS OF BULK AT MOST 1048576: true; the input reads as it did. -/
def trieUnlikeUptoRow : OpenClaim := { program := "ytncjbfkkgdepoaa", sum := "3c07b91296020c58b96e3c4534f707e2aafcdfcbe99a4e8e32c40984df0b08f9", func := "cairn/cairnlaw12.TrieUnlike", spec := "trieUnlike", unfollowed := true, recurses := true, plainKeys := false, apart := false, narrowed := true }
def TrieUnlikeUptoSaid : Prop := trieUnlikeUptoRow.holds Try.pinned (OpenSpec.upto trieUnlikeSpec)

/-- 'cairnlaw12.TriePacked', WHERE WHAT IT READS IS OF BULK AT MOST 1048576: true; the input reads as it did. -/
def triePackedUptoRow : OpenClaim := { program := "ytncjbfkkgdepoaa", sum := "3c07b91296020c58b96e3c4534f707e2aafcdfcbe99a4e8e32c40984df0b08f9", func := "cairn/cairnlaw12.TriePacked", spec := "triePacked", unfollowed := true, recurses := true, plainKeys := false, apart := false, narrowed := true }
def TriePackedUptoSaid : Prop := triePackedUptoRow.holds Try.pinned (OpenSpec.upto triePackedSpec)

/-- 'cairnlaw26.ProofVerifies', WHERE WHAT IT READS IS OF BULK AT MOST 1048576: true; the input reads as it did. -/
def proofVerifiesUptoRow : OpenClaim := { program := "ytncjbfkkgdepoaa", sum := "3c07b91296020c58b96e3c4534f707e2aafcdfcbe99a4e8e32c40984df0b08f9", func := "cairn/cairnlaw26.ProofVerifies", spec := "proofVerifies", unfollowed := true, recurses := true, plainKeys := false, apart := false, narrowed := true }
def ProofVerifiesUptoSaid : Prop := proofVerifiesUptoRow.holds Try.pinned (OpenSpec.upto proofVerifiesSpec)

end Rows
end Go.Proofs.Ytncjbfkkgdepoaa
