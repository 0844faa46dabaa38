/- Rows of numbers, by a function. -/
import Derived.Test.YthknokcfmpahcaaDoorEwQ
set_option linter.unusedSimpArgs false
set_option linter.unusedVariables false
namespace Go.Ew
open Go
/-- n cells of kind k. -/
def ints (k : IntKind) (x : Nat → Int) (n : Nat) : List EV := (List.range n).map fun i => EV.int k (x i)
def intsV (k : IntKind) (x : Nat → Int) (n : Nat) : List Value := (List.range n).map fun i => Value.int k (x i)
def setF (x : Nat → Int) (i : Nat) (v : Int) : Nat → Int := fun j => if j = i then v else x j
theorem ints_len (k : IntKind) (x : Nat → Int) (n : Nat) : (ints k x n).length = n := by simp [ints]
theorem intsV_len (k : IntKind) (x : Nat → Int) (n : Nat) : (intsV k x n).length = n := by simp [intsV]
theorem ints_get {k : IntKind} {x : Nat → Int} {n i : Nat} (h : i < n) : (ints k x n).getD i .any = .int k (x i) := by
  simp [ints, List.getD_eq_getElem?_getD, h]
theorem ints_set (k : IntKind) (x : Nat → Int) (n i : Nat) (v : Int) : (ints k x n).set i (.int k v) = ints k (setF x i v) n := by
  apply List.ext_getElem?
  intro j
  simp only [ints, List.getElem?_set, List.getElem?_map, List.length_map, List.length_range, setF]
  by_cases e : i = j
  · subst e
    by_cases h : i < n <;> simp [h]
  · simp only [e, if_false]
    by_cases h : j < n
    · simp [h, show ¬ j = i from fun h => e h.symm]
    · simp [h]
theorem ints_take (k : IntKind) (x : Nat → Int) (n : Nat) : (ints k x n).take n = ints k x n := List.take_of_length_le (by simp [ints])
theorem oneAll_ints (k : IntKind) (x : Nat → Int) (n : Nat) : oneAll (ints k x n) = true := by
  have : ∀ l : List Nat, oneAll (l.map fun i => EV.int k (x i)) = true := by
    intro l; induction l with
    | nil => rfl
    | cons a l ih => simp [oneAll, EV.one, ih]
  exact this _
theorem reals_ints (bs : Nat → Nat) (k : IntKind) (x : Nat → Int) (n : Nat) : reals bs (ints k x n) = intsV k x n := by
  rw [reals_eq]; simp [ints, intsV, Function.comp_def, real]
theorem closeds_ints (m : Nat) (k : IntKind) (x : Nat → Int) (n : Nat) : closeds m (ints k x n) := by
  rw [closeds_iff]; intro v hv
  obtain ⟨i, _, rfl⟩ := List.mem_map.1 hv
  trivial
theorem intsV_congr {k : IntKind} {x y : Nat → Int} {n : Nat} (h : ∀ i, i < n → x i = y i) : intsV k x n = intsV k y n :=
  List.map_congr_left fun i hi => by rw [h i (by simpa using hi)]
theorem ints_congr {k : IntKind} {x y : Nat → Int} {n : Nat} (h : ∀ i, i < n → x i = y i) : ints k x n = ints k y n :=
  List.map_congr_left fun i hi => by rw [h i (by simpa using hi)]
theorem splice_ints (k : IntKind) (x y : Nat → Int) (n : Nat) : splice (ints k x n) 0 (ints k y n) = ints k y n := by
  unfold splice
  split
  · rename_i v he
    have hn : n = 1 := by have := congrArg List.length he; simpa [ints] using this
    subst hn
    simp only [ints, List.range_one, List.map_cons, List.map_nil, List.cons.injEq] at he ⊢
    simp [he.1]
  · simp [ints, List.drop_eq_nil_of_le]
attribute [go_sem] ints_len ints_get ints_set ints_take oneAll_ints
attribute [go_sem] splice_ints
end Go.Ew
attribute [go_sem] List.append_eq
