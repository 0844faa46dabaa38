/- Part of a proof over the seat Ytepabkjfnpaijaa. -/
import Derived.Test.YtepabkjfnpaijaaKL
namespace Go.Proofs.Ytepabkjfnpaijaa
open Go RowKit Go.Ew
set_option maxRecDepth 100000
set_option linter.unusedSimpArgs false
set_option linter.unusedVariables false
set_option maxHeartbeats 4000000
theorem bitsF_ap (p : List UInt8) (i : Nat) : bitsF p i = (bitN p i : Int) := rfl
theorem ints_isInt (k : IntKind) (f : Nat → Int) (n : Nat) : (ints k f n).all (EV.isInt k) = true := by
  simp [ints, EV.isInt]
theorem ints_num (k : IntKind) (f : Nat → Int) (n : Nat) : (ints k f n).map EV.num = (List.range n).map f := by
  simp [ints, EV.num, Function.comp_def]
/-- Whether two filters are one. -/
def eqB (F G : Blm) : Bool := (List.range 256).all fun i => decide (F i = G i)
theorem eqB_iff (F G : Blm) : eqB F G = true ↔ ∀ i, i < 256 → F i = G i := by simp [eqB]
theorem map_eq_iff {f g : Nat → Int} {n : Nat} : (List.range n).map f = (List.range n).map g ↔ ∀ i, i < n → f i = g i := by
  constructor
  · intro h i hi
    have := congrArg (fun l => l[i]?) h
    simpa [hi] using this
  · intro h
    apply List.map_congr_left
    intro a ha
    exact h a (by simpa using ha)
theorem eq8 (F G : Blm) : (List.map EV.num (ints .u8 (fB F) 256) == List.map EV.num (ints .u8 (fB G) 256)) = eqB F G := by
  rw [ints_num, ints_num, Bool.eq_iff_iff, eqB_iff, beq_iff_eq, map_eq_iff]
  constructor
  · intro h i hi; exact n8_inj (h i hi)
  · intro h i hi; simp only [fB]; rw [h i hi]
end Go.Proofs.Ytepabkjfnpaijaa

