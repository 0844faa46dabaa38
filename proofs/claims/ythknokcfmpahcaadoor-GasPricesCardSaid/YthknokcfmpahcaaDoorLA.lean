/- Part of a proof over the seat YthknokcfmpahcaaDoor. -/
import Derived.Test.YthknokcfmpahcaaDoorEng3
set_option linter.unusedSimpArgs false
set_option linter.unusedVariables false
namespace Go.Ew
open Go RowKit
/-! ### lists that grow by append, told in the form that a loop needs -/
/-- Cells that are numbers. -/
def allInt (l : List EV) : Prop := ∀ v ∈ l, ∃ k n, v = EV.int k n
theorem allInt_nil : allInt [] := fun v h => by simp at h
theorem allInt_append {a b : List EV} : allInt (a ++ b) ↔ allInt a ∧ allInt b := by
  unfold allInt; simp only [List.mem_append]
  exact ⟨fun h => ⟨fun v hv => h v (.inl hv), fun v hv => h v (.inr hv)⟩, fun h v hv => hv.elim (h.1 v) (h.2 v)⟩
theorem allInt_cons {v : EV} {b : List EV} : allInt (v :: b) ↔ (∃ k n, v = EV.int k n) ∧ allInt b := by
  unfold allInt; simp only [List.mem_cons]
  exact ⟨fun h => ⟨h v (.inl rfl), fun u hu => h u (.inr hu)⟩, fun h u hu => by rcases hu with rfl | hu; exact h.1; exact h.2 u hu⟩
theorem allInt_flat {α : Type} {f : α → List EV} (hf : ∀ a, allInt (f a)) (l : List α) : allInt (l.flatMap f) := by
  intro v hv; obtain ⟨a, _, ha⟩ := List.mem_flatMap.1 hv; exact hf a v ha
theorem allInt_ints (k : IntKind) (z : Nat → Int) (n : Nat) : allInt (ints k z n) := by
  intro v hv; simp [ints] at hv; obtain ⟨q, _, rfl⟩ := hv; exact ⟨_, _, rfl⟩
theorem closeds_allInt {n : Nat} {l : List EV} (h : allInt l) : closeds n l := by
  rw [closeds_iff]; intro v hv; obtain ⟨k, m, rfl⟩ := h v hv; simp [closed]
theorem rens_map {ρ : Nat → Nat} : ∀ (l : List EV), rens ρ l = l.map (ren ρ)
  | [] => rfl
  | v :: l => by simp [rens, rens_map l]
theorem rens_allInt {ρ : Nat → Nat} {l : List EV} (h : allInt l) : rens ρ l = l := by
  rw [rens_map]
  conv => rhs; rw [← List.map_id l]
  refine List.map_congr_left fun v hv => ?_
  obtain ⟨k, m, rfl⟩ := h v hv
  simp [ren]
theorem one_allInt {l : List EV} (h : allInt l) : oneAll l = true := by
  induction l with
  | nil => rfl
  | cons v l ih =>
    obtain ⟨⟨k, n, rfl⟩, h2⟩ := allInt_cons.1 h
    simp [oneAll, ih h2, EV.one]
/-- A list of len elements (its cells xs, len * |zs| of them) in block r: not there yet, or with its room and what lies behind. -/
abbrev Lst := Option (Nat × List EV)
def lE (r len : Nat) : Lst → EV
  | none => .raw (.slice none 0 0)
  | some (cap, _) => .sl r 0 len cap
def lO (T : TypeId) (xs : List EV) : Lst → Option EObj
  | none => none
  | some (_, rest) => some (.cells (xs ++ rest) T (0, 0))
def lOk (zs : List EV) (len : Nat) : Lst → Prop
  | none => len = 0
  | some (cap, rest) => len ≤ cap ∧ cap ≤ maxLen ∧ rest.length = (cap - len) * zs.length ∧ ∀ v ∈ rest, v ∈ zs
theorem own_lst {n r len : Nat} {T : TypeId} {zs xs : List EV} {e : EV} {oo : Option EObj} (h : Own n T zs r e oo len xs) : ∃ l : Lst, e = lE r len l ∧ oo = lO T xs l ∧ lOk zs len l ∧ xs.length = len * zs.length ∧ closeds n xs := by
  obtain ⟨h1, ⟨rfl, rfl, h3⟩ | ⟨cap, rest, rfl, h4, h5, ⟨h6, h7⟩, rfl, h8⟩⟩ := h
  · refine ⟨none, rfl, rfl, h3, h1, ?_⟩
    have : xs = [] := List.eq_nil_of_length_eq_zero (by rw [h1, h3]; simp)
    subst this; simp [closeds]
  · exact ⟨some (cap, rest), rfl, rfl, ⟨h4, h5, h6, h7⟩, h1, (closeds_append.1 h8).1⟩
theorem lst_own {n r len : Nat} {T : TypeId} {zs xs : List EV} {l : Lst} (h : lOk zs len l) (hx : xs.length = len * zs.length) (hc : closeds n xs) (hz : closeds n zs) : Own n T zs r (lE r len l) (lO T xs l) len xs := by
  cases l with
  | none => exact ⟨hx, .inl ⟨rfl, rfl, h⟩⟩
  | some p =>
    obtain ⟨cap, rest⟩ := p
    refine ⟨hx, .inr ⟨cap, rest, rfl, h.1, h.2.1, h.2.2, rfl, closeds_append.2 ⟨hc, ?_⟩⟩⟩
    rw [closeds_iff] at hz ⊢
    exact fun v hv => hz v (h.2.2.2 v hv)
theorem allInt_rest {zs : List EV} (hz : allInt zs) {rest : List EV} (h : ∀ v ∈ rest, v ∈ zs) : allInt rest := fun v hv => hz v (h v hv)
end Go.Ew
