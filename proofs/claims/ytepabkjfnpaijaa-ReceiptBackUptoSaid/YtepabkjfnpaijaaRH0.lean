/- Part of a proof over the seat Ytepabkjfnpaijaa. -/
import Derived.Test.YtepabkjfnpaijaaME
import Derived.Test.YtepabkjfnpaijaaRows
import Derived.WalkKit
import Derived.ProofKit
import Derived.OpenShut
import Derived.Below
import Derived.JoinedCond
import Derived.ChangeSlices
import Derived.SizedLaws
namespace Go.Proofs.Ytepabkjfnpaijaa
open Go Go.Ew Go.ChangeShapes Go.WideShapes Go.ChangeAt Go.RowKit
set_option maxRecDepth 100000
set_option linter.unusedSimpArgs false
set_option linter.unusedVariables false
theorem own : ownKnob Try.prog.godebug = none := by kernel_rfl
theorem laidOut : laidOutB Try.prog = true := by kernel_rfl
theorem u8_wf {n : Int} (h : (Lit.int .u8 n).wf = true) : 0 ≤ n ∧ n < 256 := by
  simp [Lit.wf, IntKind.min, IntKind.max, IntKind.signed, IntKind.bits] at h; omega
theorem bulk_pos {H : Type} (d : DataW H) : 1 ≤ Rows.uptoBulk d := by
  cases d with
  | lit l => cases l <;> simp [Rows.uptoBulk]
  | _ => simp [Rows.uptoBulk]
theorem bulk_mem {H : Type} {d : DataW H} : ∀ {l : List (DataW H)}, d ∈ l → Rows.uptoBulk d ≤ Rows.uptoBulkAll l
  | x :: r, h => by
    simp only [Rows.uptoBulkAll]
    rcases List.mem_cons.1 h with rfl | h
    · omega
    · have := bulk_mem h; omega
theorem bulk_len {H : Type} : ∀ (l : List (DataW H)), l.length ≤ Rows.uptoBulkAll l
  | [] => by simp [Rows.uptoBulkAll]
  | x :: r => by have := bulk_pos x; have := bulk_len r; simp only [Rows.uptoBulkAll, List.length_cons]; omega
theorem bulk_bound {H : Type} {l : List (DataW H)} (hk : Rows.uptoSmall H l = true) : Rows.uptoBulkAll l ≤ 1048576 := of_decide_eq_true hk
theorem cell_block {w : World} {a : Addr} {v : Value} (h : w.cell? a = some v) : a.block < w.heap.size := by
  unfold World.cell? at h
  split at h
  · rename_i h1
    exact (Array.getElem?_eq_some_iff.1 h1).1
  · cases h
theorem bytes_at {W : World} {a : Addr} {m : Nat} (h : ∀ j, j < m → ∃ z : Int, W.cell? (a.add j) = some (.int .u8 z) ∧ 0 ≤ z ∧ z < 256) : ∃ l : List UInt8, l.length = m ∧ BytesAt (base W) (some a) l := by
  refine ⟨(List.range m).map fun j => match W.cell? (a.add j) with
    | some (.int _ z) => UInt8.ofNat z.toNat
    | _ => 0, by simp, fun b hb h0 => ?_, fun _ => rfl, fun j hj => ?_⟩
  · cases hb
    simp only [List.length_map, List.length_range] at h0
    obtain ⟨z, hz, _⟩ := h 0 h0
    have := cell_block hz
    rwa [addr_add_block] at this
  · simp only [List.length_map, List.length_range] at hj
    obtain ⟨z, hz, h1, h2⟩ := h j hj
    rw [adrAt_some]
    show W.cell? (a.add j) = _
    rw [hz]
    simp only [List.getElem?_map, List.getElem?_range hj, Option.map_some, hz, bV]
    rw [UInt8.toNat_ofNat_of_lt' (by simp; omega)]
    congr 2
    omega
section
variable {H : Type} {enc : TypeId × Value → H} {W : World} {fuel : Nat} {cs : List Value} {x : DataW H × List MemPlace}
theorem in_bytes (h : DataW.trod enc Try.prog W 0 (fun _ => true) true fuel 23 cs = some x) :
    ∃ (ad : Option Addr) (n cap : Nat) (l : List UInt8), cs = [.slice ad n cap] ∧ BytesAt (base W) ad l ∧ l.length = n ∧ n ≤ Rows.uptoBulk x.1 := by
  rcases open_ints Try.underlying23 Try.underlying5 cz5 h with ⟨rfl, rfl⟩ | ⟨a, n, cap, zs, rfl, _, hl, hm, hlen, rfl, hcell, hwf⟩
  · exact ⟨none, 0, 0, [], rfl, BytesAt.nil _, rfl, by simp⟩
  · simp only [if_true] at hlen
    obtain ⟨l, h1, h2⟩ := bytes_at (W := W) (a := a) (m := n) (fun j hj => ⟨zs.getD j 0, hcell j (by omega), u8_wf (hwf _ (by rw [List.getD_eq_getElem?_getD, List.getElem?_eq_getElem (show j < zs.length by omega)]; simp))⟩)
    refine ⟨some a, n, cap, l, rfl, h2, h1, ?_⟩
    have e1 : (lits (H := H) .u8 (zs.take n)).length = n := by simp [lits]; omega
    have := bulk_len (lits (H := H) .u8 (zs.take n))
    simp only [Rows.uptoBulk]; omega
theorem in_arr {t m : Nat} (ht : Try.prog.underlying t = some (.array m 5)) (hc : Try.prog.cellsOf t = m) (h : DataW.trod enc Try.prog W 0 (fun _ => true) true fuel t cs = some x) :
    ∃ l : List UInt8, l.length = m ∧ cs = l.map bV := by
  obtain ⟨xs, m', rfl, rfl, hl, hx, hi⟩ := DataW.trod_array ht h
  rw [hc] at hl
  have hz : ∀ i, i < m → ∃ z : Int, cs[i]? = some (.int .u8 z) ∧ 0 ≤ z ∧ z < 256 := fun i h0 => by
    have h1 := hi i h0
    rw [List.getElem?_eq_getElem (by omega)] at h1
    obtain ⟨z, h2, _, h3⟩ := DataW.trod_int Try.underlying5 h1
    rw [cz5, Nat.mul_one] at h2
    refine ⟨z, ?_, u8_wf h3⟩
    have := congrArg (fun l => l[0]?) h2
    simpa using this
  refine ⟨(List.range m).map fun j => match cs[j]? with
    | some (Value.int _ z) => UInt8.ofNat z.toNat
    | _ => 0, by simp, ?_⟩
  apply List.ext_getElem?
  intro j
  rcases Nat.lt_or_ge j m with hj | hj
  · obtain ⟨z, h1, h2, h3⟩ := hz j hj
    simp only [List.getElem?_map, List.getElem?_range hj, Option.map_some, h1, bV]
    rw [UInt8.toNat_ofNat_of_lt' (by simp; omega)]
    congr 2
    omega
  · rw [List.getElem?_eq_none (by omega), List.getElem?_eq_none (by simp; omega)]
theorem in_topics (h : DataW.trod enc Try.prog W 0 (fun _ => true) true fuel 34 cs = some x) :
    ∃ (ad : Option Addr) (n cap : Nat) (l : List UInt8), cs = [.slice ad n cap] ∧ BytesAt (base W) ad l ∧ l.length = 32 * n ∧ n ≤ Rows.uptoBulk x.1 := by
  rcases DataW.trod_slice Try.underlying34 h with ⟨rfl, rfl⟩ | ⟨a, n, cap, elems, rest, m, _, rfl, rfl, _, hl, hm, hlen, hel, _, _⟩
  · exact ⟨none, 0, 0, [], rfl, BytesAt.nil _, rfl, by simp⟩
  · have hz : ∀ j, j < 32 * n → ∃ z : Int, W.cell? (a.add j) = some (.int .u8 z) ∧ 0 ≤ z ∧ z < 256 := fun j hj => by
      have hi : j / 32 < n := by omega
      have h1 := hel (j / 32) hi
      rw [List.getElem?_eq_getElem (by omega), Option.bind_eq_some_iff] at h1
      obtain ⟨cs', hc, ht⟩ := h1
      rw [cz38] at hc
      obtain ⟨_, hcl, hce⟩ := World.cells?_some hc
      obtain ⟨l, hl1, rfl⟩ := in_arr Try.underlying38 cz38 ht
      have h2 := hce (j % 32) (by omega)
      rw [add_add, show j / 32 * 32 + j % 32 = j by omega, List.getElem?_map, List.getElem?_eq_getElem (by omega)] at h2
      refine ⟨_, h2, ?_⟩
      have := (l[j % 32]'(by omega)).toNat_lt
      omega
    obtain ⟨l, h1, h2⟩ := bytes_at hz
    refine ⟨some a, n, cap, l, rfl, h2, h1, ?_⟩
    have := bulk_len (elems.map (·.1))
    simp only [List.length_map] at this
    simp only [Rows.uptoBulk]; omega
theorem in_log (h : DataW.trod enc Try.prog W 0 (fun _ => true) true fuel 36 cs = some x) (hb : Rows.uptoBulk x.1 ≤ 1048576) : ∃ g : LogV, cs = g.cells ∧ g.Ok (base W) := by
  obtain ⟨xs, n, rfl, rfl, hl, hxl, hf⟩ := DataW.trod_struct Try.underlying36 h
  rw [cz36] at hl
  have hx3 : xs.length = 3 := hxl
  obtain ⟨x0, x1, x2, rfl⟩ : ∃ a b c, xs = [a, b, c] := by
    match xs, hx3 with
    | [a, b, c], _ => exact ⟨a, b, c, rfl⟩
  have f0 := hf 0 _ rfl
  have f1 := hf 1 _ rfl
  have f2 := hf 2 _ rfl
  change DataW.trod _ _ _ _ _ _ _ 33 ((cs.drop 0).take (Try.prog.cellsOf 33)) = some x0 at f0
  change DataW.trod _ _ _ _ _ _ _ 34 ((cs.drop 20).take (Try.prog.cellsOf 34)) = some x1 at f1
  change DataW.trod _ _ _ _ _ _ _ 23 ((cs.drop 21).take (Try.prog.cellsOf 23)) = some x2 at f2
  rw [cz33] at f0
  rw [cz34] at f1
  rw [cz23] at f2
  obtain ⟨l0, hl0, e0⟩ := in_arr Try.underlying33 cz33 f0
  obtain ⟨ad1, n1, c1, l1, e1, b1, hl1, k1⟩ := in_topics f1
  obtain ⟨ad2, n2, c2, l2, e2, b2, hl2, k2⟩ := in_bytes f2
  simp only [Rows.uptoBulk, List.map_cons, List.map_nil, Rows.uptoBulkAll] at hb
  refine ⟨⟨l0, ad1, n1, c1, l1, ad2, n2, c2, l2⟩, ?_, hl0, hl1, hl2, b1, b2, by simp only; omega, by simp only; omega⟩
  have hcs : cs = (cs.drop 0).take 20 ++ ((cs.drop 20).take 1 ++ (cs.drop 21).take 1) := by
    have a1 : (cs.drop 21).take 1 = cs.drop 21 := List.take_of_length_le (by simp; omega)
    have a2 : (cs.drop 20).take 1 ++ cs.drop 21 = cs.drop 20 := by
      have := List.take_append_drop 1 (cs.drop 20)
      rwa [List.drop_drop] at this
    rw [a1, a2, List.drop_zero, List.take_append_drop]
  rw [hcs, e0, e1, e2]
  rfl
theorem list_of {α : Type} {P : Nat → α → Prop} : ∀ (n : Nat), (∀ i, i < n → ∃ a, P i a) → ∃ l : List α, l.length = n ∧ ∀ i (hi : i < l.length), P i l[i]
  | 0, _ => ⟨[], rfl, fun i hi => by simp at hi⟩
  | n + 1, h => by
    obtain ⟨l, h1, h2⟩ := list_of n (fun i hi => h i (by omega))
    obtain ⟨a, ha⟩ := h n (by omega)
    refine ⟨l ++ [a], by simp [h1], fun i hi => ?_⟩
    rcases Nat.lt_or_ge i l.length with h3 | h3
    · rw [List.getElem_append_left h3]; exact h2 i h3
    · simp only [List.length_append, List.length_singleton] at hi
      obtain rfl : i = l.length := by omega
      rw [List.getElem_append_right (by omega)]
      simp only [Nat.sub_self, List.getElem_cons_zero]
      rw [h1]; exact ha
theorem in_logs (h : DataW.trod enc Try.prog W 0 (fun _ => true) true fuel 22 cs = some x) (hb : Rows.uptoBulk x.1 ≤ 1048576) :
    ∃ (ad : Option Addr) (cap : Nat) (L : List LogV), cs = [.slice ad L.length cap] ∧ LogsAt (base W) ad L := by
  rcases DataW.trod_slice Try.underlying22 h with ⟨rfl, rfl⟩ | ⟨a, n, cap, elems, rest, m, _, rfl, rfl, _, hl, hm, hlen, hel, _, _⟩
  · exact ⟨none, 0, [], rfl, CellsAt.nil _, by simp, by simp⟩
  · have hbl := bulk_len (elems.map (·.1))
    simp only [List.length_map] at hbl
    simp only [Rows.uptoBulk] at hb
    obtain ⟨L, hL, hP⟩ := list_of (P := fun i (g : LogV) => W.cells? 0 (a.add (i * 22)) 22 = some g.cells ∧ g.Ok (base W)) n (fun i hi => by
      have h1 := hel i hi
      rw [List.getElem?_eq_getElem (by omega), Option.bind_eq_some_iff] at h1
      obtain ⟨cs', hc, ht⟩ := h1
      rw [cz36] at hc
      have hm := bulk_mem (d := (elems[i]'(by omega)).1) (l := elems.map (·.1)) (List.mem_map_of_mem (List.getElem_mem _))
      obtain ⟨g, rfl, hg⟩ := in_log ht (by omega)
      exact ⟨g, hc, hg⟩)
    have hok : ∀ g ∈ L, g.Ok (base W) := fun g hg => by
      obtain ⟨i, hi, rfl⟩ := List.getElem_of_mem hg
      exact (hP i hi).2
    have hfl : (L.flatMap LogV.cells).length = 22 * L.length := flat_len (k := 22) (fun g hg => LogV.cells_len (hok g hg).ha)
    have hcell : ∀ j, j < (L.flatMap LogV.cells).length → W.cell? (a.add j) = (L.flatMap LogV.cells)[j]? := fun j hj => by
      rw [hfl] at hj
      have hi : j / 22 < L.length := by omega
      obtain ⟨_, _, hce⟩ := World.cells?_some (hP _ hi).1
      have h2 := hce (j % 22) (by omega)
      rw [add_add, show j / 22 * 22 + j % 22 = j by omega] at h2
      have h3 := flat_get (f := LogV.cells) (k := 22) (l := L) (fun g hg => LogV.cells_len (hok g hg).ha) hi (j := j % 22) (by omega)
      rw [show j / 22 * 22 + j % 22 = j by omega] at h3
      rw [h2, h3]
    refine ⟨some a, cap, L, by rw [hL], ⟨⟨fun b hb2 h0 => ?_, fun _ => rfl, fun j hj => by rw [adrAt_some]; exact hcell j hj⟩, hok, by omega⟩⟩
    cases hb2
    have := hcell 0 h0
    rw [List.getElem?_eq_getElem h0] at this
    have := cell_block this
    rwa [addr_add_block] at this
end
end Go.Proofs.Ytepabkjfnpaijaa

