/- The library's contract of strings.ToLower beyond ASCII text, at this dump: one application. -/
import Derived.Test.YtbilnedgpgpanaaDoorShelf
import Derived.Shelf.Strings.CaseAny
namespace Go.Proofs
open Go.Shelf Go.RowKit Go.Lib
theorem Tryd.strings_ToLower_beyond (s : ByteArray) (w : World) (hs : s.size < 35184372088832) (hhigh : ∃ (j : Nat) (b : UInt8), s.data.toList[j]? = some b ∧ 128 ≤ b.toNat) (hV : CaseVar 0 caseA w) (hT : Lib.Utf8Tabs 2 3 w) :
    Calls Tryd.prog 84 #[.string s] w fun e w' => e = .returned (.string ⟨(Lib.toLowerD s.data.toList).toArray⟩) ∧ Below w.heap.size w w' := Any.strings_ToLower_beyond Tryd.lays159 Tryd.Builder_Extra_159 s w hs hhigh hV hT
end Go.Proofs
