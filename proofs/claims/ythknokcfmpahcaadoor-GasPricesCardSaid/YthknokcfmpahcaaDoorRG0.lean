/- Part of a proof over the seat YthknokcfmpahcaaDoor. -/
import Derived.Test.YthknokcfmpahcaaDoorTG8
import Derived.Test.YthknokcfmpahcaaDoorCards
import Derived.Test.YthknokcfmpahcaaDoorTie
import Derived.WalkKit
import Derived.ProofKit
import Derived.OpenShut
import Derived.ShutString
import Derived.Below
import Derived.Deep.DeepHandedRow
import Derived.Lib.LaidTab
namespace Go.Proofs.YthknokcfmpahcaaDoor
open Go Go.Ew Go.ChangeShapes Go.WideShapes Go.ChangeAt Go.RowKit
set_option maxRecDepth 100000
set_option linter.unusedSimpArgs false
set_option linter.unusedVariables false
theorem own : ownKnob Tryd.prog.godebug = none := by kernel_rfl
theorem laidOut : laidOutB Tryd.prog = true := by kernel_rfl
theorem u64_wf {n : Int} (h : (Lit.int .u64 n).wf = true) : 0 ≤ n ∧ n < 18446744073709551616 := by
  simp [Lit.wf, IntKind.min, IntKind.max, IntKind.signed, IntKind.bits] at h; omega
theorem u8_wf {n : Int} (h : (Lit.int .u8 n).wf = true) : 0 ≤ n ∧ n < 256 := by
  simp [Lit.wf, IntKind.min, IntKind.max, IntKind.signed, IntKind.bits] at h; omega
theorem i64_wf {n : Int} (h : (Lit.int .i64 n).wf = true) : -9223372036854775808 ≤ n ∧ n < 9223372036854775808 := by
  simp [Lit.wf, IntKind.min, IntKind.max, IntKind.signed, IntKind.bits] at h; omega
/-- A word that came in. -/
theorem open_word {H : Type} {enc : TypeId × Value → H} {W : World} {r : Reach} {base : Nat} {v : Value} {d : DataW H} {p : List MemPlace} (hval : Value.okWide Tryd.prog W r base 30 v)
    (h : DataW.Trod enc Tryd.prog W 0 (fun _ => true) true 30 v d p) : ∃ f : Nat → Int, v = wV f ∧ wIn f := by
  have hval' := hval
  unfold Value.okWide at hval'
  rw [Tryd.underlying30] at hval'
  obtain ⟨cs, rfl, hsz, _⟩ := hval'
  obtain ⟨fuel, hf⟩ := h
  obtain ⟨xs, m, rfl, _, hl, hxl, hx⟩ := DataW.trod_array Tryd.underlying30 hf
  rw [cz22] at hx
  rw [cz30] at hsz hl
  obtain ⟨l, rfl⟩ : ∃ l, cs = List.toArray l := ⟨cs.toList, by simp⟩
  have hcl : (Value.agg l.toArray).cells.toList = l := by simp [Value.cells]
  rw [hcl] at hx
  have get : ∀ i, i < 4 → ∃ n : Int, l[i]? = some (.int .u64 n) ∧ 0 ≤ n ∧ n < 18446744073709551616 := by
    intro i hi
    have h1 := hx i hi
    rw [List.getElem?_eq_getElem (by omega)] at h1
    obtain ⟨n, h2, _, h3⟩ := DataW.trod_int Tryd.underlying22 h1
    refine ⟨n, ?_, u64_wf h3⟩
    have := congrArg (fun l => l[0]?) h2
    simpa using this
  refine ⟨fun i => match l[i]? with
    | some (.int _ n) => n
    | _ => 0, ?_, ?_⟩
  · obtain ⟨n0, g0, _⟩ := get 0 (by omega)
    obtain ⟨n1, g1, _⟩ := get 1 (by omega)
    obtain ⟨n2, g2, _⟩ := get 2 (by omega)
    obtain ⟨n3, g3, _⟩ := get 3 (by omega)
    have e : l = [.int .u64 n0, .int .u64 n1, .int .u64 n2, .int .u64 n3] := by
      apply List.ext_getElem?
      intro i
      match i with
      | 0 => simpa using g0
      | 1 => simpa using g1
      | 2 => simpa using g2
      | 3 => simpa using g3
      | i + 4 => rw [List.getElem?_eq_none (by simp at hsz; omega), List.getElem?_eq_none (by simp)]
    subst e
    simp [wV]
  · intro i hi
    obtain ⟨n, g, h⟩ := get i hi
    simp only [g]; exact h
/-- A WORLD FOR THE WITNESSES: the settled one, the three tables (blocks 0 to 2) holding what their initialisers lay. -/
def lay (zs : List Int) (k : IntKind) : Obj → Obj
  | .cells _ t frozen => .cells (zs.map (Value.int k)).toArray t frozen
  | o => o
noncomputable def laidWorld (os : Os) : World :=
  { World.holding Tryd.prog os ⟨#[], #[], []⟩ with heap := (((World.holding Tryd.prog os ⟨#[], #[], []⟩).heap.modify 0 (lay [1, 10, 100, 1000, 10000, 100000, 1000000, 10000000, 100000000, 1000000000, 10000000000, 100000000000, 1000000000000, 10000000000000, 100000000000000, 1000000000000000, 10000000000000000, 100000000000000000, 1000000000000000000, 10000000000000000000] .u64)).modify 1 (lay [0, 1, 28, 2, 29, 14, 24, 3, 30, 22, 20, 15, 25, 17, 4, 8, 31, 27, 13, 23, 21, 19, 16, 7, 26, 12, 18, 6, 11, 5, 10, 9] .u8)).modify 2 (lay [0, 1, 56, 2, 57, 49, 28, 3, 61, 58, 42, 50, 38, 29, 17, 4, 62, 47, 59, 36, 45, 43, 51, 22, 53, 39, 33, 30, 24, 18, 12, 5, 63, 55, 48, 27, 60, 41, 37, 16, 46, 35, 44, 21, 52, 32, 23, 11, 54, 26, 40, 15, 34, 20, 31, 10, 25, 14, 19, 9, 13, 8, 7, 6] .u8) }
end Go.Proofs.YthknokcfmpahcaaDoor
