/- Part of a proof over the seat YthknokcfmpahcaaDoor. -/
import Derived.Test.YthknokcfmpahcaaDoorTP1
import Derived.Test.YthknokcfmpahcaaDoorRG0
import Derived.ChangeSlices
import Derived.SizedLaws
namespace Go.Proofs.YthknokcfmpahcaaDoor
open Go Go.Ew Go.ChangeShapes Go.WideShapes Go.ChangeAt Go.RowKit
set_option maxRecDepth 100000
set_option linter.unusedSimpArgs false
set_option linter.unusedVariables false
/-- Code that came in. -/
theorem open_code {H : Type} {enc : TypeId × Value → H} {W : World} {r : Reach} {base : Nat} {v : Value} {d : DataW H} {p : List MemPlace} (hval : Value.okWide Tryd.prog W r base 41 v)
    (h : DataW.Trod enc Tryd.prog W 0 (fun _ => true) true 41 v d p) (hs : ∀ elems spare, d = .slice elems spare → (elems.length + spare.length) * Tryd.prog.bytesOf 5 ≤ reachBytes) :
    ∃ (c : List Int) (ad : Option Addr) (b off cap : Nat), v = .slice ad c.length cap ∧ CodeAt W c ad b off := by
  have hval' := hval
  obtain ⟨a, n, cap, rfl⟩ := okWide_slice Tryd.underlying41 hval
  obtain ⟨fuel, hf⟩ := h
  have h1 : Tryd.prog.cellsOf 5 = 1 := by kernel_rfl
  have hb : Tryd.prog.bytesOf 5 = 1 := by kernel_rfl
  rcases open_ints Tryd.underlying41 Tryd.underlying5 h1 hf with ⟨hcs, _⟩ | ⟨a', n', cap', zs, hcs, _, hl, hm, hlen, hd, hcell, hwf⟩
  · simp [Value.cells] at hcs
    obtain ⟨rfl, rfl, rfl⟩ := hcs
    exact ⟨[], none, 0, 0, 0, rfl, ⟨fun h => absurd h (by simp), fun i hi => absurd hi (by simp), fun i hi => absurd hi (by simp), by simp, fun h => absurd h (by simp)⟩⟩
  · simp [Value.cells] at hcs
    obtain ⟨rfl, rfl, rfl⟩ := hcs
    simp only [if_true] at hlen
    have hd1 := congrArg Prod.fst hd
    simp only at hd1
    have hsz := hs _ _ hd1
    have hspot : a'.spot = none := by
      simp only [Value.okWide, Tryd.underlying41, Cell.okWide, Cell.ok, World.has] at hval'
      obtain ⟨_, _, _, h, _⟩ := hval'
      exact h
    have hblk : a'.block < W.heap.size := by
      simp only [Value.okWide, Tryd.underlying41, Cell.okWide, Cell.ok, World.has] at hval'
      obtain ⟨_, _, _, _, row, cells, hsh, _⟩ := hval'
      unfold World.shape? at hsh
      cases hk : W.heap[a'.block]? with
      | none => rw [hk] at hsh; simp at hsh
      | some o => exact (Array.getElem?_eq_some_iff.1 hk).1
    obtain ⟨b, off, spot⟩ := a'
    simp only at hspot hblk
    subst hspot
    have hlt : (zs.take n).length = n := by rw [List.length_take]; omega
    have hget : ∀ i, i < n → (zs.take n).getD i 0 = zs.getD i 0 := fun i hi => by
      rw [List.getD_eq_getElem?_getD, List.getD_eq_getElem?_getD, List.getElem?_take_of_lt hi]
    refine ⟨zs.take n, some ⟨b, off, none⟩, b, off, cap, by rw [hlt], ⟨fun _ => rfl, ?_, ?_, ?_, fun _ => hblk⟩⟩
    · intro i hi
      rw [hlt] at hi
      have hc := hcell i (by omega)
      rw [add_spot] at hc
      rw [hget i hi]; exact hc
    · intro i hi
      rw [hlt] at hi
      rw [hget i hi]
      exact u8_wf (hwf _ (by rw [List.getD_eq_getElem?_getD, List.getElem?_eq_getElem (show i < zs.length by omega)]; simp))
    · rw [hlt]
      have e1 : (lits (H := H) .u8 (zs.take n)).length = n := by simp [lits]; omega
      rw [e1, hb] at hsz
      have := reachBytes_lt
      have e2 : (2 : Nat) ^ 47 = 140737488355328 := by decide
      omega
end Go.Proofs.YthknokcfmpahcaaDoor
