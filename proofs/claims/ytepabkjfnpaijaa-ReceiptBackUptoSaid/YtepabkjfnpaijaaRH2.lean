/- Part of a proof over the seat Ytepabkjfnpaijaa. -/
import Derived.Test.YtepabkjfnpaijaaRH0
import Derived.Test.YtepabkjfnpaijaaPH
namespace Go.Proofs.Ytepabkjfnpaijaa
open Go Go.Ew Go.ChangeShapes Go.WideShapes Go.ChangeAt Go.RowKit
set_option maxRecDepth 100000
set_option linter.unusedSimpArgs false
set_option linter.unusedVariables false
section
variable {H : Type} {enc : TypeId × Value → H} {W : World} {fuel : Nat} {cs : List Value} {x : DataW H × List MemPlace}
theorem in_receipt (h : DataW.trod enc Try.prog W 0 (fun _ => true) true fuel 45 cs = some x) (hb : Rows.uptoBulk x.1 ≤ 1048576) : ∃ r : RcV, cs = rcC r ∧ LogsAt (base W) r.lA r.L ∧ r.gas < 18446744073709551616 := by
  obtain ⟨xs, n, rfl, rfl, hl, hxl, hf⟩ := DataW.trod_struct Try.underlying45 h
  rw [cz45] at hl
  have hx5 : xs.length = 5 := hxl
  obtain ⟨x0, x1, x2, x3, x4, rfl⟩ : ∃ a b c d e, xs = [a, b, c, d, e] := by
    match xs, hx5 with
    | [a, b, c, d, e], _ => exact ⟨a, b, c, d, e, rfl⟩
  have f0 := hf 0 _ rfl
  have f1 := hf 1 _ rfl
  have f2 := hf 2 _ rfl
  have f3 := hf 3 _ rfl
  have f4 := hf 4 _ rfl
  change DataW.trod _ _ _ _ _ _ _ 5 ((cs.drop 0).take (Try.prog.cellsOf 5)) = some x0 at f0
  change DataW.trod _ _ _ _ _ _ _ 3 ((cs.drop 1).take (Try.prog.cellsOf 3)) = some x1 at f1
  change DataW.trod _ _ _ _ _ _ _ 43 ((cs.drop 2).take (Try.prog.cellsOf 43)) = some x2 at f2
  change DataW.trod _ _ _ _ _ _ _ 27 ((cs.drop 3).take (Try.prog.cellsOf 27)) = some x3 at f3
  change DataW.trod _ _ _ _ _ _ _ 22 ((cs.drop 259).take (Try.prog.cellsOf 22)) = some x4 at f4
  rw [cz5] at f0
  rw [cz3] at f1
  rw [cz43] at f2
  rw [cz27] at f3
  rw [cz22] at f4
  obtain ⟨z0, e0, _, w0⟩ := DataW.trod_int Try.underlying5 f0
  obtain ⟨z1, e1, _, w1⟩ := DataW.trod_int Try.underlying3 f1
  obtain ⟨z2, e2, _, w2⟩ := DataW.trod_int Try.underlying43 f2
  obtain ⟨l3, hl3, e3⟩ := in_arr Try.underlying27 cz27 f3
  simp only [Rows.uptoBulk, List.map_cons, List.map_nil, Rows.uptoBulkAll] at hb
  obtain ⟨lA, lc, L, e4, hL⟩ := in_logs f4 (by omega)
  have g0 := u8_wf w0
  have g2 : 0 ≤ z2 ∧ z2 < 18446744073709551616 := by
    simp [Lit.wf, IntKind.min, IntKind.max, IntKind.signed, IntKind.bits] at w2; omega
  refine ⟨⟨UInt8.ofNat z0.toNat, z1, z2.toNat, blmOf l3, lA, lc, L⟩, ?_, hL, by simp only; omega⟩
  have hcs : cs = (cs.drop 0).take 1 ++ ((cs.drop 1).take 1 ++ ((cs.drop 2).take 1 ++ ((cs.drop 3).take 256 ++ (cs.drop 259).take 1))) := by
    have a1 : (cs.drop 259).take 1 = cs.drop 259 := List.take_of_length_le (by simp; omega)
    have a2 : (cs.drop 3).take 256 ++ cs.drop 259 = cs.drop 3 := by
      have := List.take_append_drop 256 (cs.drop 3)
      rwa [List.drop_drop] at this
    have a3 : (cs.drop 2).take 1 ++ cs.drop 3 = cs.drop 2 := by
      have := List.take_append_drop 1 (cs.drop 2)
      rwa [List.drop_drop] at this
    have a4 : (cs.drop 1).take 1 ++ cs.drop 2 = cs.drop 1 := by
      have := List.take_append_drop 1 (cs.drop 1)
      rwa [List.drop_drop] at this
    rw [a1, a2, a3, a4, List.drop_zero, List.take_append_drop]
  rw [hcs, e0, e1, e2, e3, e4, rcC, blmOf_bytes hl3]
  simp only [List.cons_append, List.nil_append]
  rw [UInt8.toNat_ofNat_of_lt' (by simp; omega)]
  congr 2
  · omega
  · congr 2
    · omega
end
/-- A slice that came in, opened. -/
theorem arg_sl {H : Type} {enc : TypeId × Value → H} {W : World} {r : Reach} {bs : Nat} {t e : TypeId} {v : Value} {d : DataW H} {p : List MemPlace} (ht : Try.prog.underlying t = some (.slice e)) (hval : Value.okWide Try.prog W r bs t v)
    (h : DataW.Trod enc Try.prog W 0 (fun _ => true) true t v d p) : ∃ ad n cap fuel, v = .slice ad n cap ∧ DataW.trod enc Try.prog W 0 (fun _ => true) true fuel t [.slice ad n cap] = some (d, p) := by
  obtain ⟨a, n, cap, rfl⟩ := okWide_slice ht hval
  obtain ⟨fuel, hf⟩ := h
  exact ⟨a, n, cap, fuel, rfl, by simpa [Value.cells] using hf⟩
/-- Bytes that came in, opened. -/
theorem in_bytesL {H : Type} {enc : TypeId × Value → H} {W : World} {fuel : Nat} {cs : List Value} {x : DataW H × List MemPlace} (h : DataW.trod enc Try.prog W 0 (fun _ => true) true fuel 23 cs = some x) (hb : Rows.uptoBulk x.1 ≤ 1048576) :
    ∃ (ad : Option Addr) (cap : Nat) (l : List UInt8), cs = [.slice ad l.length cap] ∧ BytesAt (base W) ad l ∧ l.length ≤ cap ∧ l.length ≤ 1048576 := by
  rcases open_ints Try.underlying23 Try.underlying5 cz5 h with ⟨rfl, rfl⟩ | ⟨a, n, cap, zs, rfl, _, hl, hm, hlen, rfl, hcell, hwf⟩
  · exact ⟨none, 0, [], rfl, BytesAt.nil _, by simp, by simp⟩
  · simp only [if_true] at hlen
    obtain ⟨l, h1, h2⟩ := bytes_at (W := W) (a := a) (m := n) (fun j hj => ⟨zs.getD j 0, hcell j (by omega), u8_wf (hwf _ (by rw [List.getD_eq_getElem?_getD, List.getElem?_eq_getElem (show j < zs.length by omega)]; simp))⟩)
    have e1 : (lits (H := H) .u8 (zs.take n)).length = n := by simp [lits]; omega
    have e2 := bulk_len (lits (H := H) .u8 (zs.take n))
    simp only [Rows.uptoBulk] at hb
    exact ⟨some a, cap, l, by rw [h1], h2, by omega, by omega⟩
/-- A receipt that came in, opened. -/
theorem arg_rc {H : Type} {enc : TypeId × Value → H} {W : World} {r : Reach} {bs : Nat} {v : Value} {d : DataW H} {p : List MemPlace} (hval : Value.okWide Try.prog W r bs 45 v)
    (h : DataW.Trod enc Try.prog W 0 (fun _ => true) true 45 v d p) (hb : Rows.uptoBulk d ≤ 1048576) : ∃ r : RcV, v = .agg (rcC r).toArray ∧ LogsAt (base W) r.lA r.L ∧ r.gas < 18446744073709551616 := by
  obtain ⟨cs, rfl, hsz⟩ := okWide_struct Try.underlying45 hval
  obtain ⟨fuel, hf⟩ := h
  obtain ⟨l, rfl⟩ : ∃ l, cs = List.toArray l := ⟨cs.toList, by simp⟩
  have hcl : (Value.agg l.toArray).cells.toList = l := by simp [Value.cells]
  rw [hcl] at hf
  obtain ⟨r, rfl, h1, h2⟩ := in_receipt hf hb
  exact ⟨r, rfl, h1, h2⟩
end Go.Proofs.Ytepabkjfnpaijaa

