/- Part of a proof over the seat Ytepabkjfnpaijaa. -/
import Derived.Test.YtepabkjfnpaijaaKN
namespace Go.Proofs.Ytepabkjfnpaijaa
open Go RowKit Go.Ew
set_option maxRecDepth 100000
set_option linter.unusedSimpArgs false
set_option linter.unusedVariables false
set_option maxHeartbeats 4000000
theorem bytes_lds {B : Base} {ad : Option Addr} {l : List UInt8} (h : BytesAt B ad l) {o n : Nat} (hn : o + n ≤ l.length) (h0 : 0 < n) :
    rawCells B (adrAt ad o) n = ((l.drop o).take n).map bE ∧ B.D (adr ad).block ∧ LiveAt B (adrAt ad o) n ∧ ad.isSome = true := by
  have e : ∀ j, (adrAt ad o).add j = adrAt ad (o + j) := fun j => by unfold adrAt; rw [add_add]
  refine ⟨?_, h.lD (by omega), fun j hj => by rw [e]; exact h.lS _ (by omega), h.ok.so (by omega)⟩
  unfold rawCells
  apply List.ext_getElem
  · simp; omega
  · intro j h1 h2
    simp only [List.length_map, List.length_range] at h1
    simp only [List.getElem_map, List.getElem_range, e, List.getElem_take, List.getElem_drop]
    rw [h.ld _ (by omega), List.getD_eq_getElem?_getD, List.getElem?_eq_getElem (by omega)]; rfl
theorem bE_one (l : List UInt8) : oneAll (l.map bE) = true := by
  induction l with
  | nil => rfl
  | cons a l ih => simp only [List.map_cons, oneAll, Bool.and_eq_true]; exact ⟨rfl, ih⟩
theorem bE_splice {l : List UInt8} {n : Nat} (h : l.length = n) (h2 : 1 < n) (f : Nat → Int) : splice (ints .u8 f n) 0 (l.map bE) = l.map bE :=
  splice_all (by simp [ints_len, h]) (by simp; omega)
theorem bE_all {l : List UInt8} {n : Nat} (h : l.length = n) : ((l.map bE).drop 0).take n = l.map bE := by
  rw [List.drop_zero, List.take_of_length_le (by simp; omega)]
theorem logE_ad {ad : List UInt8} {u v : EV} (h : ad.length = 20) : ((logE ad u v).drop 0).take 20 = ad.map bE := by
  rw [List.drop_zero, logE, List.take_append_of_le_length (by simp; omega), List.take_of_length_le (by simp; omega)]
/-- A log's topics, and all its texts. -/
def LogV.top (g : LogV) (k : Nat) : List UInt8 := (g.tp.drop (32 * k)).take 32
def LogV.tops (g : LogV) : List (List UInt8) := (List.range g.tn).map g.top
def LogV.marks (g : LogV) : List (List UInt8) := g.ad :: g.tops
def marksL (L : List LogV) : List (List UInt8) := L.flatMap LogV.marks
theorem top_len {B : Base} {g : LogV} (h : g.Ok B) {k : Nat} (hk : k < g.tn) : (g.top k).length = 32 := by
  have := h.ht
  simp [LogV.top]; omega
theorem tops_len (g : LogV) : g.tops.length = g.tn := by simp [LogV.tops]
theorem tops_get {g : LogV} {k : Nat} (hk : k < g.tn) : g.tops[k]'(by rw [tops_len]; exact hk) = g.top k := by simp [LogV.tops]
theorem allB_append (F : Blm) (ps qs : List (List UInt8)) : allB F (ps ++ qs) = allB (allB F ps) qs := List.foldl_append
theorem allB_one (F : Blm) (p : List UInt8) : allB F [p] = withP F p := rfl
theorem LogV.Ok.ldT {B : Base} {g : LogV} (h : g.Ok B) {k : Nat} (hk : k < g.tn) :
    rawCells B (adrAt g.tA (k * 32)) 32 = (g.top k).map bE ∧ B.D (adr g.tA).block ∧ LiveAt B (adrAt g.tA (k * 32)) 32 ∧ g.tA.isSome = true := by
  have := h.ht
  have := bytes_lds h.tB (o := k * 32) (n := 32) (by omega) (by omega)
  rwa [Nat.mul_comm k 32] at this ⊢
end Go.Proofs.Ytepabkjfnpaijaa

