/- Part of a proof over the seat YthknokcfmpahcaaDoor. -/
import Derived.Test.YthknokcfmpahcaaDoorTC0
import Derived.Test.YthknokcfmpahcaaDoorRG0
import Derived.ChangeSlices
import Derived.SizedLaws
namespace Go.Proofs.YthknokcfmpahcaaDoor
open Go Go.Ew Go.ChangeShapes Go.WideShapes Go.ChangeAt Go.RowKit
set_option maxRecDepth 100000
set_option linter.unusedSimpArgs false
set_option linter.unusedVariables false
/-! what a bound on bulk gives -/
theorem bulk_pos {H : Type} (d : DataW H) : 1 ≤ Rows.uptoBulk d := by
  cases d with
  | lit l => cases l <;> simp [Rows.uptoBulk]
  | _ => simp [Rows.uptoBulk]
theorem bulk_mem {H : Type} {d : DataW H} : ∀ {l : List (DataW H)}, d ∈ l → Rows.uptoBulk d ≤ Rows.uptoBulkAll l
  | x :: r, h => by
    simp only [Rows.uptoBulkAll]
    rcases List.mem_cons.1 h with rfl | h
    · omega
    · have := bulk_mem h; omega
theorem bulk_len {H : Type} : ∀ (l : List (DataW H)), l.length ≤ Rows.uptoBulkAll l
  | [] => by simp [Rows.uptoBulkAll]
  | x :: r => by have := bulk_pos x; have := bulk_len r; simp only [Rows.uptoBulkAll, List.length_cons]; omega
theorem bulk_bound {H : Type} {l : List (DataW H)} (hk : Rows.uptoSmall H l = true) : Rows.uptoBulkAll l ≤ 1048576 := of_decide_eq_true hk
/-- Bytes that came in. -/
theorem open_u8s {H : Type} {enc : TypeId × Value → H} {W : World} {r : Reach} {bs : Nat} {v : Value} {d : DataW H} {p : List MemPlace} (hval : Value.okWide Tryd.prog W r bs 41 v)
    (h : DataW.Trod enc Tryd.prog W 0 (fun _ => true) true 41 v d p) :
    ∃ (c : List Int) (ad : Option Addr) (cap : Nat), v = .slice ad c.length cap ∧ IntsAt (base W) .u8 ad c ∧ (∀ i, i < c.length → 0 ≤ c.getD i 0 ∧ c.getD i 0 < 256) ∧ c.length ≤ Rows.uptoBulk d := by
  have hval' := hval
  obtain ⟨a, n, cap, rfl⟩ := okWide_slice Tryd.underlying41 hval
  obtain ⟨fuel, hf⟩ := h
  have h1 : Tryd.prog.cellsOf 5 = 1 := by kernel_rfl
  rcases open_ints Tryd.underlying41 Tryd.underlying5 h1 hf with ⟨hcs, _⟩ | ⟨a', n', cap', zs, hcs, _, hl, hm, hlen, hd, hcell, hwf⟩
  · simp [Value.cells] at hcs
    obtain ⟨rfl, rfl, rfl⟩ := hcs
    exact ⟨[], none, 0, rfl, CellsAt.nil _, fun i hi => absurd hi (by simp), by simp⟩
  · simp [Value.cells] at hcs
    obtain ⟨rfl, rfl, rfl⟩ := hcs
    simp only [if_true] at hlen
    have hd1 := congrArg Prod.fst hd
    simp only at hd1
    have hblk : a'.block < W.heap.size := by
      simp only [Value.okWide, Tryd.underlying41, Cell.okWide, Cell.ok, World.has] at hval'
      obtain ⟨_, _, _, _, row, cells, hsh, _⟩ := hval'
      unfold World.shape? at hsh
      cases hk : W.heap[a'.block]? with
      | none => rw [hk] at hsh; simp at hsh
      | some o => exact (Array.getElem?_eq_some_iff.1 hk).1
    have hlt : (zs.take n).length = n := by rw [List.length_take]; omega
    have hget : ∀ i, i < n → (zs.take n).getD i 0 = zs.getD i 0 := fun i hi => by
      rw [List.getD_eq_getElem?_getD, List.getD_eq_getElem?_getD, List.getElem?_take_of_lt hi]
    refine ⟨zs.take n, some a', cap, by rw [hlt], ⟨fun a ha => by cases ha; exact hblk, fun _ => rfl, fun j hj => ?_⟩, fun i hi => ?_, ?_⟩
    · rw [List.length_map, hlt] at hj
      have hc := hcell j (by omega)
      rw [adrAt_some]
      have e : ((zs.take n).map (Value.int .u8))[j]? = some (.int .u8 (zs.getD j 0)) := by
        rw [List.getElem?_map, List.getElem?_take_of_lt hj, List.getElem?_eq_getElem (by omega), List.getD_eq_getElem?_getD, List.getElem?_eq_getElem (by omega)]; rfl
      rw [e]; exact hc
    · rw [hlt] at hi
      rw [hget i hi]
      exact u8_wf (hwf _ (by rw [List.getD_eq_getElem?_getD, List.getElem?_eq_getElem (show i < zs.length by omega)]; simp))
    · rw [hlt, hd1]
      have e1 : (lits (H := H) .u8 (zs.take n)).length = n := by simp [lits]; omega
      have := bulk_len (lits (H := H) .u8 (zs.take n))
      simp only [Rows.uptoBulk]; omega
end Go.Proofs.YthknokcfmpahcaaDoor
