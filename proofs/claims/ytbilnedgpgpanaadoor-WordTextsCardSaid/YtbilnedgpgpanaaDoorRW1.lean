/- Part of a proof over the seat YtbilnedgpgpanaaDoor. -/
import Derived.Test.YtbilnedgpgpanaaDoorRW0
import Derived.Lib.LaidCase
import Derived.Lib.LaidU8
import Derived.PinnedBridge
import Derived.MakeChecks
import Derived.Test.YtbilnedgpgpanaaDoorShelf2
namespace Go.Proofs.YtbilnedgpgpanaaDoor
open Go Go.Ew Go.ChangeShapes Go.WideShapes Go.ChangeAt Go.RowKit
set_option maxRecDepth 100000
set_option linter.unusedSimpArgs false
set_option linter.unusedVariables false
theorem w_case {w : World} (h : laidMet Tryd.prog laidW w) : Lib.CaseVar 0 Lib.caseA w := by
  have hr := Go.Lib.laidMet.reads h (n := "unicode.CaseRanges") (d := Rows.laid_unicode_CaseRanges) (by simp [laidW])
  have hr2 : Go.Lib.VarReads Tryd.prog w "unicode.CaseRanges" Go.Lib.caseData := by rw [← Go.Pinned.caseRanges_eq]; exact hr
  exact Go.Proofs.caseVar_of_reads (ρ := Tryd.lays159_ren) { Tryd.lays159 with } (by kernel_rfl) ⟨by kernel_rfl, by kernel_rfl, by kernel_rfl, by kernel_rfl, by kernel_rfl, by kernel_rfl⟩ hr2
theorem w_utf8 {w : World} (h : laidMet Tryd.prog laidW w) : Lib.Utf8Tabs 2 3 w := by
  have h3 := Go.Lib.laidMet.reads h (n := "unicode/utf8.first") (d := Rows.laid_unicode_utf8_first) (by simp [laidW])
  have h4 := Go.Lib.laidMet.reads h (n := "unicode/utf8.acceptRanges") (d := Rows.laid_unicode_utf8_acceptRanges) (by simp [laidW])
  have r3 : Go.Lib.VarReads Tryd.prog w "unicode/utf8.first" Go.Lib.firstData := by rw [← Go.Pinned.utf8First_eq]; exact h3
  have r4 : Go.Lib.VarReads Tryd.prog w "unicode/utf8.acceptRanges" Go.Lib.acceptData := by
    rw [show (Go.Lib.acceptData : DataW Unit) = Rows.laid_unicode_utf8_acceptRanges by kernel_rfl]; exact h4
  exact Go.Proofs.utf8Tabs_of_reads (ρ := Tryd.lays159_ren) { Tryd.lays159 with } ⟨by kernel_rfl, by kernel_rfl, by kernel_rfl, by kernel_rfl, by kernel_rfl, by kernel_rfl, by kernel_rfl⟩ r3 r4
end Go.Proofs.YtbilnedgpgpanaaDoor
