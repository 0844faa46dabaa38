/- Part of a proof over the seat YthknokcfmpahcaaDoor. -/
import Derived.Test.YthknokcfmpahcaaDoorLG
set_option linter.unusedSimpArgs false
set_option linter.unusedVariables false
namespace Go.Ew
open Go RowKit
/-! ### bytes -/
def bE (x : UInt8) : EV := .int .u8 (x.toNat : Int)
def bV (x : UInt8) : Value := .int .u8 (x.toNat : Int)
theorem real_bE (bs : Nat → Nat) (x : UInt8) : real bs (bE x) = bV x := rfl
theorem reals_bE (bs : Nat → Nat) (l : List UInt8) : reals bs (l.map bE) = l.map bV := by rw [reals_eq, List.map_map]; rfl
theorem closeds_bE (n : Nat) (l : List UInt8) : closeds n (l.map bE) := by
  rw [closeds_iff]; intro v hv; obtain ⟨p, _, rfl⟩ := List.mem_map.1 hv; simp [bE, closed]
theorem oneAll_bE (l : List UInt8) : oneAll (l.map bE) = true := by
  induction l with
  | nil => rfl
  | cons x l ih => simp [oneAll, ih, bE, EV.one]
theorem bE_of {v : Int} (h0 : 0 ≤ v) (h1 : v < 256) : EV.int .u8 v = bE (UInt8.ofNat v.toNat) := by
  unfold bE; rw [UInt8.toNat_ofNat_of_lt' (by simp [UInt8.size]; omega)]; congr 1; omega
/-- The bytes of a slice. -/
def BytesAt (B : Base) (ad : Option Addr) (l : List UInt8) : Prop := CellsAt B ad (l.map bV)
theorem BytesAt.ext {B B' : Base} {ad : Option Addr} {l : List UInt8} (h : BytesAt B ad l) (e : BExt B B') : BytesAt B' ad l := CellsAt.ext h e
theorem BytesAt.ok {B : Base} {ad : Option Addr} {l : List UInt8} (h : BytesAt B ad l) : SlOk ad l.length := by have := CellsAt.so h; simpa using this
theorem BytesAt.lD {B : Base} {ad : Option Addr} {l : List UInt8} (h : BytesAt B ad l) (hj : 0 < l.length) : B.D (adr ad).block := by have := CellsAt.lD h (j := 0) (by simpa using hj); rwa [adrAt_block] at this
theorem BytesAt.lc {B : Base} {ad : Option Addr} {l : List UInt8} (h : BytesAt B ad l) (j : Nat) (hj : j < l.length) : B.w.cell? (adrAt ad j) = some (bV (l.getD j 0)) := by
  rw [CellsAt.cell h j (by simpa using hj), List.getElem?_map, List.getD_eq_getElem?_getD, List.getElem?_eq_getElem hj]; rfl
theorem BytesAt.lS {B : Base} {ad : Option Addr} {l : List UInt8} (h : BytesAt B ad l) (j : Nat) (hj : j < l.length) : (B.w.cell? (adrAt ad j)).isSome = true := by rw [h.lc j hj]; rfl
theorem BytesAt.ld {B : Base} {ad : Option Addr} {l : List UInt8} (h : BytesAt B ad l) (j : Nat) (hj : j < l.length) : rawCell B (adrAt ad j) = bE (l.getD j 0) := by
  simp only [rawCell, h.lc j hj, Option.getD_some, ofScalar]; rfl
theorem BytesAt.src {B : Base} {ad : Option Addr} {l : List UInt8} {cap : Nat} (h : BytesAt B ad l) (hs : List (Nat × Option EObj)) : ∃ c, srcOf B hs 1 (.raw (.slice ad l.length cap)) = some (l.length, l.map bE, c) ∧ c := by
  have := CellsAt.src (n := l.length) (cap := cap) (sz := 1) h (by omega) (by simp) hs
  rw [List.map_map] at this
  exact this
theorem BytesAt.nil (B : Base) : BytesAt B none [] := CellsAt.nil B
/-- From a place on. -/
theorem BytesAt.drop {B : Base} {ad : Option Addr} {l : List UInt8} (h : BytesAt B ad l) (k : Nat) : BytesAt B (ad.map (·.add k)) (l.drop k) := by
  refine ⟨fun a ha => ?_, fun h0 => ?_, fun j hj => ?_⟩
  · obtain ⟨a', ha', rfl⟩ := Option.map_eq_some_iff.1 ha
    rw [addr_add_block]; exact CellsAt.D h a' ha'
  · simp only [List.length_map, List.length_drop] at h0
    have := h.ok (by omega)
    rw [Option.isSome_map]; exact this
  · simp only [List.length_map, List.length_drop] at hj
    obtain ⟨a, ha⟩ := Option.isSome_iff_exists.1 (h.ok (by omega))
    have e := CellsAt.cell h (k + j) (by simp; omega)
    rw [ha] at e ⊢
    rw [Option.map_some, adrAt_some, add_add, List.getElem?_map, List.getElem?_drop, ← List.getElem?_map]
    exact e
theorem BytesAt.take {B : Base} {ad : Option Addr} {l : List UInt8} (h : BytesAt B ad l) (k : Nat) : BytesAt B ad (l.take k) := by
  refine ⟨CellsAt.D h, fun h0 => ?_, fun j hj => ?_⟩
  · simp only [List.length_map, List.length_take] at h0
    exact h.ok (by omega)
  · simp only [List.length_map, List.length_take] at hj
    rw [CellsAt.cell h j (by simp; omega), List.getElem?_map, List.getElem?_map, List.getElem?_take_of_lt (by omega)]
theorem bytesAt_frz {B : Base} {ad : Option Addr} {b : Nat} {l : List UInt8} (hD : ∀ a, ad = some a → a = ⟨b, 0, none⟩ ∧ B.D b) (hso : 0 < l.length → ad.isSome = true)
    (hc : ∀ j, j < (l.map bE).length → B.w.cell? (adrAt ad j) = some (real (fun _ => 0) ((l.map bE).getD j .any))) : BytesAt B ad l :=
  cellsAt_frz hD hso (fun h => by rw [List.length_eq_zero_iff.1 h]; rfl) hc (reals_bE _ _)
end Go.Ew
