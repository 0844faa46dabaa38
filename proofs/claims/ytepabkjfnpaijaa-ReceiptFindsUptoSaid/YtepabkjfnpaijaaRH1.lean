/- Part of a proof over the seat Ytepabkjfnpaijaa. -/
import Derived.Test.YtepabkjfnpaijaaNG
import Derived.Test.YtepabkjfnpaijaaRH0
namespace Go.Proofs.Ytepabkjfnpaijaa
open Go Go.Ew Go.ChangeShapes Go.WideShapes Go.ChangeAt Go.RowKit
set_option maxRecDepth 100000
set_option linter.unusedSimpArgs false
set_option linter.unusedVariables false
section
variable {H : Type} {enc : TypeId × Value → H} {W : World} {fuel : Nat} {cs : List Value} {x : DataW H × List MemPlace}
theorem in_keys {t tk m : Nat} (htk : Try.prog.underlying tk = some (.slice t)) (ht : Try.prog.underlying t = some (.array m 5)) (hcm : Try.prog.cellsOf t = m) (h0 : 0 < m) (h : DataW.trod enc Try.prog W 0 (fun _ => true) true fuel tk cs = some x) (hb : Rows.uptoBulk x.1 ≤ 1048576) :
    ∃ (ad : Option Addr) (cap : Nat) (L : List (List UInt8)), cs = [.slice ad L.length cap] ∧ KeysAt (base W) m ad L := by
  rcases DataW.trod_slice htk h with ⟨rfl, rfl⟩ | ⟨a, n, cap, elems, rest, m', _, rfl, rfl, _, hl, hm, hlen, hel, _, _⟩
  · exact ⟨none, 0, [], rfl, CellsAt.nil _, by simp, by simp⟩
  · have hbl := bulk_len (elems.map (·.1))
    simp only [List.length_map] at hbl
    simp only [Rows.uptoBulk] at hb
    obtain ⟨L, hL, hP⟩ := list_of (P := fun i (g : List UInt8) => W.cells? 0 (a.add (i * m)) m = some (g.map bV) ∧ g.length = m) n (fun i hi => by
      have h1 := hel i hi
      rw [List.getElem?_eq_getElem (by omega), Option.bind_eq_some_iff] at h1
      obtain ⟨cs', hc, ht'⟩ := h1
      rw [hcm] at hc
      obtain ⟨g, hg, rfl⟩ := in_arr ht hcm ht'
      exact ⟨g, hc, hg⟩)
    have hok : ∀ g ∈ L, g.length = m := fun g hg => by
      obtain ⟨i, hi, rfl⟩ := List.getElem_of_mem hg
      exact (hP i hi).2
    have hokV : ∀ g ∈ L, (g.map bV).length = m := fun g hg => by rw [List.length_map]; exact hok g hg
    have hfl : (L.flatMap (fun k => k.map bV)).length = m * L.length := flat_len (k := m) hokV
    have hcell : ∀ j, j < (L.flatMap (fun k => k.map bV)).length → W.cell? (a.add j) = (L.flatMap (fun k => k.map bV))[j]? := fun j hj => by
      rw [hfl] at hj
      have hi : j / m < L.length := Nat.div_lt_of_lt_mul hj
      obtain ⟨_, _, hce⟩ := World.cells?_some (hP _ hi).1
      have hjm : j / m * m + j % m = j := by rw [Nat.mul_comm]; exact Nat.div_add_mod j m
      have hjl : j % m < m := Nat.mod_lt _ h0
      have h2 := hce (j % m) (by have := (hP _ hi).2; simp; omega)
      rw [add_add, hjm] at h2
      have h3 := flat_get (f := fun k : List UInt8 => k.map bV) (k := m) (l := L) hokV hi (j := j % m) hjl
      rw [hjm] at h3
      rw [h2, h3]
    refine ⟨some a, cap, L, by rw [hL], ⟨⟨fun b hb2 h0 => ?_, fun _ => rfl, fun j hj => by rw [adrAt_some]; exact hcell j hj⟩, hok, by omega⟩⟩
    cases hb2
    have := hcell 0 h0
    rw [List.getElem?_eq_getElem h0] at this
    have := cell_block this
    rwa [addr_add_block] at this
theorem in_tops (h : DataW.trod enc Try.prog W 0 (fun _ => true) true fuel 42 cs = some x) (hb : Rows.uptoBulk x.1 ≤ 1048576) :
    ∃ (ad : Option Addr) (cap : Nat) (T : List KsV), cs = [.slice ad T.length cap] ∧ TopsAt (base W) ad T := by
  rcases DataW.trod_slice Try.underlying42 h with ⟨rfl, rfl⟩ | ⟨a, n, cap, elems, rest, m', _, rfl, rfl, _, hl, hm, hlen, hel, _, _⟩
  · exact ⟨none, 0, [], rfl, CellsAt.nil _, by simp, by simp⟩
  · have hbl := bulk_len (elems.map (·.1))
    simp only [List.length_map] at hbl
    simp only [Rows.uptoBulk] at hb
    obtain ⟨L, hL, hP⟩ := list_of (P := fun i (g : KsV) => W.cells? 0 (a.add (i * 1)) 1 = some [.slice g.ad g.l.length g.c] ∧ KeysAt (base W) 32 g.ad g.l) n (fun i hi => by
      have h1 := hel i hi
      rw [List.getElem?_eq_getElem (by omega), Option.bind_eq_some_iff] at h1
      obtain ⟨cs', hc, ht'⟩ := h1
      rw [cz34] at hc
      have hm := bulk_mem (d := (elems[i]'(by omega)).1) (l := elems.map (·.1)) (List.mem_map_of_mem (List.getElem_mem _))
      obtain ⟨ad, c, l, rfl, hk⟩ := in_keys Try.underlying34 Try.underlying38 cz38 (by omega) ht' (by omega)
      exact ⟨⟨ad, c, l⟩, hc, hk⟩)
    have hok : ∀ g ∈ L, KeysAt (base W) 32 g.ad g.l := fun g hg => by
      obtain ⟨i, hi, rfl⟩ := List.getElem_of_mem hg
      exact (hP i hi).2
    have hcell : ∀ j, j < (L.map fun t => Value.slice t.ad t.l.length t.c).length → W.cell? (a.add j) = (L.map fun t => Value.slice t.ad t.l.length t.c)[j]? := fun j hj => by
      rw [List.length_map] at hj
      obtain ⟨_, _, hce⟩ := World.cells?_some (hP _ hj).1
      have h2 := hce 0 (by simp)
      rw [add_add, Nat.mul_one, Nat.add_zero] at h2
      rw [h2, List.getElem?_map, List.getElem?_eq_getElem hj]
      rfl
    refine ⟨some a, cap, L, by rw [hL], ⟨⟨fun b hb2 h0 => ?_, fun _ => rfl, fun j hj => by rw [adrAt_some]; exact hcell j hj⟩, hok, by omega⟩⟩
    cases hb2
    have := hcell 0 h0
    rw [List.getElem?_eq_getElem h0] at this
    have := cell_block this
    rwa [addr_add_block] at this
def blmOf (l : List UInt8) : Blm := fun i => BitVec.ofNat 8 (l.getD i 0).toNat
theorem blmOf_bytes {l : List UInt8} (h : l.length = 256) : blB (blmOf l) = l := by
  apply List.ext_getElem (by simp [blB, h])
  intro j h1 h2
  simp only [blB, List.getElem_map, List.getElem_range, blmOf, List.getD_eq_getElem?_getD, List.getElem?_eq_getElem h2, Option.getD_some, BitVec.toNat_ofNat]
  have := (l[j]).toNat_lt
  rw [Nat.mod_eq_of_lt (by omega)]
  exact UInt8.toNat_inj.1 (by rw [UInt8.toNat_ofNat_of_lt' (by simpa using this)])
theorem in_receipt (h : DataW.trod enc Try.prog W 0 (fun _ => true) true fuel 45 cs = some x) (hb : Rows.uptoBulk x.1 ≤ 1048576) : ∃ r : RcV, cs = rcC r ∧ LogsAt (base W) r.lA r.L ∧ r.gas < 18446744073709551616 := by
  obtain ⟨xs, n, rfl, rfl, hl, hxl, hf⟩ := DataW.trod_struct Try.underlying45 h
  rw [cz45] at hl
  have hx5 : xs.length = 5 := hxl
  obtain ⟨x0, x1, x2, x3, x4, rfl⟩ : ∃ a b c d e, xs = [a, b, c, d, e] := by
    match xs, hx5 with
    | [a, b, c, d, e], _ => exact ⟨a, b, c, d, e, rfl⟩
  have f0 := hf 0 _ rfl
  have f1 := hf 1 _ rfl
  have f2 := hf 2 _ rfl
  have f3 := hf 3 _ rfl
  have f4 := hf 4 _ rfl
  change DataW.trod _ _ _ _ _ _ _ 5 ((cs.drop 0).take (Try.prog.cellsOf 5)) = some x0 at f0
  change DataW.trod _ _ _ _ _ _ _ 3 ((cs.drop 1).take (Try.prog.cellsOf 3)) = some x1 at f1
  change DataW.trod _ _ _ _ _ _ _ 43 ((cs.drop 2).take (Try.prog.cellsOf 43)) = some x2 at f2
  change DataW.trod _ _ _ _ _ _ _ 27 ((cs.drop 3).take (Try.prog.cellsOf 27)) = some x3 at f3
  change DataW.trod _ _ _ _ _ _ _ 22 ((cs.drop 259).take (Try.prog.cellsOf 22)) = some x4 at f4
  rw [cz5] at f0
  rw [cz3] at f1
  rw [cz43] at f2
  rw [cz27] at f3
  rw [cz22] at f4
  obtain ⟨z0, e0, _, w0⟩ := DataW.trod_int Try.underlying5 f0
  obtain ⟨z1, e1, _, w1⟩ := DataW.trod_int Try.underlying3 f1
  obtain ⟨z2, e2, _, w2⟩ := DataW.trod_int Try.underlying43 f2
  obtain ⟨l3, hl3, e3⟩ := in_arr Try.underlying27 cz27 f3
  simp only [Rows.uptoBulk, List.map_cons, List.map_nil, Rows.uptoBulkAll] at hb
  obtain ⟨lA, lc, L, e4, hL⟩ := in_logs f4 (by omega)
  have g0 := u8_wf w0
  have g2 : 0 ≤ z2 ∧ z2 < 18446744073709551616 := by
    simp [Lit.wf, IntKind.min, IntKind.max, IntKind.signed, IntKind.bits] at w2; omega
  refine ⟨⟨UInt8.ofNat z0.toNat, z1, z2.toNat, blmOf l3, lA, lc, L⟩, ?_, hL, by simp only; omega⟩
  have hcs : cs = (cs.drop 0).take 1 ++ ((cs.drop 1).take 1 ++ ((cs.drop 2).take 1 ++ ((cs.drop 3).take 256 ++ (cs.drop 259).take 1))) := by
    have a1 : (cs.drop 259).take 1 = cs.drop 259 := List.take_of_length_le (by simp; omega)
    have a2 : (cs.drop 3).take 256 ++ cs.drop 259 = cs.drop 3 := by
      have := List.take_append_drop 256 (cs.drop 3)
      rwa [List.drop_drop] at this
    have a3 : (cs.drop 2).take 1 ++ cs.drop 3 = cs.drop 2 := by
      have := List.take_append_drop 1 (cs.drop 2)
      rwa [List.drop_drop] at this
    have a4 : (cs.drop 1).take 1 ++ cs.drop 2 = cs.drop 1 := by
      have := List.take_append_drop 1 (cs.drop 1)
      rwa [List.drop_drop] at this
    rw [a1, a2, a3, a4, List.drop_zero, List.take_append_drop]
  rw [hcs, e0, e1, e2, e3, e4, rcC, blmOf_bytes hl3]
  simp only [List.cons_append, List.nil_append]
  rw [UInt8.toNat_ofNat_of_lt' (by simp; omega)]
  congr 2
  · omega
  · congr 2
    · omega
theorem in_receipts (h : DataW.trod enc Try.prog W 0 (fun _ => true) true fuel 40 cs = some x) (hb : Rows.uptoBulk x.1 ≤ 1048576) :
    ∃ (ad : Option Addr) (cap : Nat) (L : List RcV), cs = [.slice ad L.length cap] ∧ RcsAt (base W) ad L ∧ ∀ r ∈ L, r.gas < 18446744073709551616 := by
  rcases DataW.trod_slice Try.underlying40 h with ⟨rfl, rfl⟩ | ⟨a, n, cap, elems, rest, m, _, rfl, rfl, _, hl, hm, hlen, hel, _, _⟩
  · exact ⟨none, 0, [], rfl, ⟨CellsAt.nil _, by simp, by simp⟩, by simp⟩
  · have hbl := bulk_len (elems.map (·.1))
    simp only [List.length_map] at hbl
    simp only [Rows.uptoBulk] at hb
    obtain ⟨L, hL, hP⟩ := list_of (P := fun i (g : RcV) => W.cells? 0 (a.add (i * 260)) 260 = some (rcC g) ∧ LogsAt (base W) g.lA g.L ∧ g.gas < 18446744073709551616) n (fun i hi => by
      have h1 := hel i hi
      rw [List.getElem?_eq_getElem (by omega), Option.bind_eq_some_iff] at h1
      obtain ⟨cs', hc, ht⟩ := h1
      rw [cz45] at hc
      have hm := bulk_mem (d := (elems[i]'(by omega)).1) (l := elems.map (·.1)) (List.mem_map_of_mem (List.getElem_mem _))
      obtain ⟨g, rfl, hg⟩ := in_receipt ht (by omega)
      exact ⟨g, hc, hg⟩)
    have hok : ∀ g ∈ L, LogsAt (base W) g.lA g.L ∧ g.gas < 18446744073709551616 := fun g hg => by
      obtain ⟨i, hi, rfl⟩ := List.getElem_of_mem hg
      exact (hP i hi).2
    have hfl : (L.flatMap rcC).length = 260 * L.length := flat_len (k := 260) (fun g hg => rcC_len g)
    have hcell : ∀ j, j < (L.flatMap rcC).length → W.cell? (a.add j) = (L.flatMap rcC)[j]? := fun j hj => by
      rw [hfl] at hj
      have hi : j / 260 < L.length := by omega
      obtain ⟨_, _, hce⟩ := World.cells?_some (hP _ hi).1
      have h2 := hce (j % 260) (by omega)
      rw [add_add, show j / 260 * 260 + j % 260 = j by omega] at h2
      have h3 := flat_get (f := rcC) (k := 260) (l := L) (fun g hg => rcC_len g) hi (j := j % 260) (by omega)
      rw [show j / 260 * 260 + j % 260 = j by omega] at h3
      rw [h2, h3]
    refine ⟨some a, cap, L, by rw [hL], ⟨⟨fun b hb2 h0 => ?_, fun _ => rfl, fun j hj => by rw [adrAt_some]; exact hcell j hj⟩, fun r hr => (hok r hr).1, by omega⟩, fun r hr => (hok r hr).2⟩
    cases hb2
    have := hcell 0 h0
    rw [List.getElem?_eq_getElem h0] at this
    have := cell_block this
    rwa [addr_add_block] at this
end
/-- A slice that came in, opened. -/
theorem arg_sl {H : Type} {enc : TypeId × Value → H} {W : World} {r : Reach} {bs : Nat} {t e : TypeId} {v : Value} {d : DataW H} {p : List MemPlace} (ht : Try.prog.underlying t = some (.slice e)) (hval : Value.okWide Try.prog W r bs t v)
    (h : DataW.Trod enc Try.prog W 0 (fun _ => true) true t v d p) : ∃ ad n cap fuel, v = .slice ad n cap ∧ DataW.trod enc Try.prog W 0 (fun _ => true) true fuel t [.slice ad n cap] = some (d, p) := by
  obtain ⟨a, n, cap, rfl⟩ := okWide_slice ht hval
  obtain ⟨fuel, hf⟩ := h
  exact ⟨a, n, cap, fuel, rfl, by simpa [Value.cells] using hf⟩
end Go.Proofs.Ytepabkjfnpaijaa
