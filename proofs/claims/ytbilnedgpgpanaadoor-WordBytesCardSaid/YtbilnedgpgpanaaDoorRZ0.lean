/- Part of a proof over the seat YtbilnedgpgpanaaDoor. -/
import Derived.Test.YtbilnedgpgpanaaDoorZE
import Derived.Test.YtbilnedgpgpanaaDoorRW0
import Derived.ChangeSlices
import Derived.SizedLaws
namespace Go.Proofs.YtbilnedgpgpanaaDoor
open Go Go.Ew Go.ChangeShapes Go.WideShapes Go.ChangeAt Go.RowKit
set_option maxRecDepth 100000
set_option linter.unusedSimpArgs false
set_option linter.unusedVariables false
/-- A slice of bytes that came in. -/
theorem open_bytes {H : Type} {enc : TypeId × Value → H} {W : World} {r : Reach} {base : Nat} {v : Value} {d : DataW H} {p : List MemPlace} (hval : Value.okWide Tryd.prog W r base 54 v)
    (h : DataW.Trod enc Tryd.prog W 0 (fun _ => true) true 54 v d p) (hs : ∀ elems spare, d = .slice elems spare → (elems.length + spare.length) * Tryd.prog.bytesOf 5 ≤ reachBytes) :
    ∃ a L cap z, v = .slice a L cap ∧ (∀ j, 0 ≤ z j ∧ z j < 256) ∧ (∀ j, L ≤ j → z j = 0) ∧ BytesIn W a L z ∧ L ≤ 140737488355328 := by
  have hval' := hval
  obtain ⟨a, n, cap, rfl⟩ := okWide_slice Tryd.underlying54 hval
  obtain ⟨fuel, hf⟩ := h
  have h1 : Tryd.prog.cellsOf 5 = 1 := by kernel_rfl
  have hb : Tryd.prog.bytesOf 5 = 1 := by kernel_rfl
  rcases open_ints Tryd.underlying54 Tryd.underlying5 h1 hf with ⟨hcs, _⟩ | ⟨a', n', cap', zs, hcs, _, hl, hm, hlen, hd, hcell, hwf⟩
  · simp [Value.cells] at hcs
    obtain ⟨rfl, rfl, rfl⟩ := hcs
    exact ⟨none, 0, 0, fun _ => 0, rfl, fun j => ⟨by simp, by simp⟩, fun _ _ => rfl, rfl, by omega⟩
  · simp [Value.cells] at hcs
    obtain ⟨rfl, rfl, rfl⟩ := hcs
    simp only [if_true] at hlen
    have hd1 := congrArg Prod.fst hd
    simp only at hd1
    have hsz := hs _ _ hd1
    have hwb : ∀ i, i < zs.length → 0 ≤ zs.getD i 0 ∧ zs.getD i 0 < 256 := fun i hi => u8_wf (hwf _ (by rw [List.getD_eq_getElem?_getD, List.getElem?_eq_getElem hi]; simp))
    have hblk : a'.block < W.heap.size := by
      simp only [Value.okWide, Tryd.underlying54, Cell.okWide, Cell.ok, World.has] at hval'
      obtain ⟨_, _, _, _, row, cells, hsh, _⟩ := hval'
      unfold World.shape? at hsh
      cases hk : W.heap[a'.block]? with
      | none => rw [hk] at hsh; simp at hsh
      | some o => exact (Array.getElem?_eq_some_iff.1 hk).1
    refine ⟨some a', n, cap, fun j => if j < n then zs.getD j 0 else 0, rfl, ?_, ?_, ⟨hblk, ?_⟩, ?_⟩
    · intro j
      simp only
      split
      · exact hwb j (by omega)
      · omega
    · intro j hj
      simp only
      rw [if_neg (by omega)]
    · intro j hj
      have hc := hcell j (by omega)
      simp only [if_pos hj]
      refine ⟨?_, by rw [hc]; rfl⟩
      unfold rawCell
      simp only [Go.Ew.base, hc]
      rfl
    · have e1 : (lits (H := H) .u8 (zs.take n)).length = n := by simp [lits]; omega
      rw [e1, hb] at hsz
      have := reachBytes_lt
      have e2 : (2 : Nat) ^ 47 = 140737488355328 := by decide
      omega
end Go.Proofs.YtbilnedgpgpanaaDoor
