/- Part of a proof over the seat Ytepabkjfnpaijaa. -/
import Derived.Test.YtepabkjfnpaijaaG11
import Derived.Test.YtepabkjfnpaijaaRows
import Derived.WalkKit
import Derived.ProofKit
import Derived.OpenShut
import Derived.Below
import Derived.JoinedCond
import Derived.ChangeSlices
import Derived.SizedLaws
import Derived.Test.YtepabkjfnpaijaaEng2
set_option linter.unusedSimpArgs false
set_option linter.unusedVariables false
set_option maxRecDepth 100000
namespace Go.Proofs.Ytepabkjfnpaijaa
open Go Go.Ew Go.ChangeShapes Go.WideShapes Go.ChangeAt Go.RowKit
theorem own : ownKnob Try.prog.godebug = none := by kernel_rfl
theorem laidOut : laidOutB Try.prog = true := by kernel_rfl
theorem u8_wf {n : Int} (h : (Lit.int .u8 n).wf = true) : 0 ≤ n ∧ n < 256 := by
 simp [Lit.wf, IntKind.min, IntKind.max, IntKind.signed, IntKind.bits] at h; omega
theorem bulk_pos {H : Type} (d : DataW H) : 1 ≤ Rows.uptoBulk d := by
 cases d with
 | lit l => cases l <;> simp [Rows.uptoBulk]
 | _ => simp [Rows.uptoBulk]
theorem bulk_mem {H : Type} {d : DataW H} : ∀ {l : List (DataW H)}, d ∈ l → Rows.uptoBulk d ≤ Rows.uptoBulkAll l
 | x :: r, h => by
  simp only [Rows.uptoBulkAll]
  rcases List.mem_cons.1 h with rfl | h
  ·omega
  ·have := bulk_mem h; omega
theorem bulk_len {H : Type} : ∀ (l : List (DataW H)), l.length ≤ Rows.uptoBulkAll l
 | [] => by simp [Rows.uptoBulkAll]
 | x :: r => by have := bulk_pos x; have := bulk_len r; simp only [Rows.uptoBulkAll, List.length_cons]; omega
theorem bulk_bound {H : Type} {l : List (DataW H)} (hk : Rows.uptoSmall H l = true) : Rows.uptoBulkAll l ≤ 1048576 := of_decide_eq_true hk
theorem cell_block {w : World} {a : Addr} {v : Value} (h : w.cell? a = some v) : a.block < w.heap.size := by
 unfold World.cell? at h
 split at h
 ·rename_i h1
  exact (Array.getElem?_eq_some_iff.1 h1).1
 ·cases h
theorem bytes_at {W : World} {a : Addr} {m : Nat} (h : ∀ j, j < m → ∃ z : Int, W.cell? (a.add j) = some (.int .u8 z) ∧ 0 ≤ z ∧ z < 256) : ∃ l : List UInt8, l.length = m ∧ BytesAt (base W) (some a) l := by
 refine ⟨(List.range m).map fun j => match W.cell? (a.add j) with
  | some (.int _ z) => UInt8.ofNat z.toNat
  | _ => 0, by simp, fun b hb h0 => ?_, fun _ => rfl, fun j hj => ?_⟩
 ·cases hb
  simp only [List.length_map, List.length_range] at h0
  obtain ⟨z, hz, _⟩ := h 0 h0
  have := cell_block hz
  rwa [addr_add_block] at this
 ·simp only [List.length_map, List.length_range] at hj
  obtain ⟨z, hz, h1, h2⟩ := h j hj
  rw [adrAt_some]
  show W.cell? (a.add j) = _
  rw [hz]
  simp only [List.getElem?_map, List.getElem?_range hj, Option.map_some, hz, bV]
  rw [UInt8.toNat_ofNat_of_lt' (by simp; omega)]
  congr 2
  omega
section
variable {H : Type} {enc : TypeId × Value → H} {W : World} {fuel : Nat} {cs : List Value} {x : DataW H × List MemPlace}
theorem in_bytes (h : DataW.trod enc Try.prog W 0 (fun _ => true) true fuel 23 cs = some x) :
  ∃ (ad : Option Addr) (n cap : Nat) (l : List UInt8), cs = [.slice ad n cap] ∧ BytesAt (base W) ad l ∧ l.length = n ∧ n ≤ Rows.uptoBulk x.1 := by
 rcases open_ints Try.underlying23 Try.underlying5 cz5 h with ⟨rfl, rfl⟩ | ⟨a, n, cap, zs, rfl, _, hl, hm, hlen, rfl, hcell, hwf⟩
 ·exact ⟨none, 0, 0, [], rfl, BytesAt.nil _, rfl, by simp⟩
 ·simp only [if_true] at hlen
  obtain ⟨l, h1, h2⟩ := bytes_at (W := W) (a := a) (m := n) (fun j hj => ⟨zs.getD j 0, hcell j (by omega), u8_wf (hwf _ (by rw [List.getD_eq_getElem?_getD, List.getElem?_eq_getElem (show j < zs.length by omega)]; simp))⟩)
  refine ⟨some a, n, cap, l, rfl, h2, h1, ?_⟩
  have e1 : (lits (H := H) .u8 (zs.take n)).length = n := by simp [lits]; omega
  have := bulk_len (lits (H := H) .u8 (zs.take n))
  simp only [Rows.uptoBulk]; omega
theorem in_arr {t m : Nat} (ht : Try.prog.underlying t = some (.array m 5)) (hc : Try.prog.cellsOf t = m) (h : DataW.trod enc Try.prog W 0 (fun _ => true) true fuel t cs = some x) :
  ∃ l : List UInt8, l.length = m ∧ cs = l.map bV := by
 obtain ⟨xs, m', rfl, rfl, hl, hx, hi⟩ := DataW.trod_array ht h
 rw [hc] at hl
 have hz : ∀ i, i < m → ∃ z : Int, cs[i]? = some (.int .u8 z) ∧ 0 ≤ z ∧ z < 256 := fun i h0 => by
  have h1 := hi i h0
  rw [List.getElem?_eq_getElem (by omega)] at h1
  obtain ⟨z, h2, _, h3⟩ := DataW.trod_int Try.underlying5 h1
  rw [cz5, Nat.mul_one] at h2
  refine ⟨z, ?_, u8_wf h3⟩
  have := congrArg (fun l => l[0]?) h2
  simpa using this
 refine ⟨(List.range m).map fun j => match cs[j]? with
  | some (Value.int _ z) => UInt8.ofNat z.toNat
  | _ => 0, by simp, ?_⟩
 apply List.ext_getElem?
 intro j
 rcases Nat.lt_or_ge j m with hj | hj
 ·obtain ⟨z, h1, h2, h3⟩ := hz j hj
  simp only [List.getElem?_map, List.getElem?_range hj, Option.map_some, h1, bV]
  rw [UInt8.toNat_ofNat_of_lt' (by simp; omega)]
  congr 2
  omega
 ·rw [List.getElem?_eq_none (by omega), List.getElem?_eq_none (by simp; omega)]
theorem in_topics (h : DataW.trod enc Try.prog W 0 (fun _ => true) true fuel 34 cs = some x) :
  ∃ (ad : Option Addr) (n cap : Nat) (l : List UInt8), cs = [.slice ad n cap] ∧ BytesAt (base W) ad l ∧ l.length = 32 * n ∧ n ≤ Rows.uptoBulk x.1 := by
 rcases DataW.trod_slice Try.underlying34 h with ⟨rfl, rfl⟩ | ⟨a, n, cap, elems, rest, m, _, rfl, rfl, _, hl, hm, hlen, hel, _, _⟩
 ·exact ⟨none, 0, 0, [], rfl, BytesAt.nil _, rfl, by simp⟩
 ·have hz : ∀ j, j < 32 * n → ∃ z : Int, W.cell? (a.add j) = some (.int .u8 z) ∧ 0 ≤ z ∧ z < 256 := fun j hj => by
   have hi : j / 32 < n := by omega
   have h1 := hel (j / 32) hi
   rw [List.getElem?_eq_getElem (by omega), Option.bind_eq_some_iff] at h1
   obtain ⟨cs', hc, ht⟩ := h1
   rw [cz38] at hc
   obtain ⟨_, hcl, hce⟩ := World.cells?_some hc
   obtain ⟨l, hl1, rfl⟩ := in_arr Try.underlying38 cz38 ht
   have h2 := hce (j % 32) (by omega)
   rw [add_add, show j / 32 * 32 + j % 32 = j by omega, List.getElem?_map, List.getElem?_eq_getElem (by omega)] at h2
   refine ⟨_, h2, ?_⟩
   have := (l[j % 32]'(by omega)).toNat_lt
   omega
  obtain ⟨l, h1, h2⟩ := bytes_at hz
  refine ⟨some a, n, cap, l, rfl, h2, h1, ?_⟩
  have := bulk_len (elems.map (·.1))
  simp only [List.length_map] at this
  simp only [Rows.uptoBulk]; omega
theorem in_log (h : DataW.trod enc Try.prog W 0 (fun _ => true) true fuel 36 cs = some x) (hb : Rows.uptoBulk x.1 ≤ 1048576) : ∃ g : LogV, cs = g.cells ∧ g.Ok (base W) := by
 obtain ⟨xs, n, rfl, rfl, hl, hxl, hf⟩ := DataW.trod_struct Try.underlying36 h
 rw [cz36] at hl
 have hx3 : xs.length = 3 := hxl
 obtain ⟨x0, x1, x2, rfl⟩ : ∃ a b c, xs = [a, b, c] := by
  match xs, hx3 with
  | [a, b, c], _ => exact ⟨a, b, c, rfl⟩
 have f0 := hf 0 _ rfl
 have f1 := hf 1 _ rfl
 have f2 := hf 2 _ rfl
 change DataW.trod _ _ _ _ _ _ _ 33 ((cs.drop 0).take (Try.prog.cellsOf 33)) = some x0 at f0
 change DataW.trod _ _ _ _ _ _ _ 34 ((cs.drop 20).take (Try.prog.cellsOf 34)) = some x1 at f1
 change DataW.trod _ _ _ _ _ _ _ 23 ((cs.drop 21).take (Try.prog.cellsOf 23)) = some x2 at f2
 rw [cz33] at f0
 rw [cz34] at f1
 rw [cz23] at f2
 obtain ⟨l0, hl0, e0⟩ := in_arr Try.underlying33 cz33 f0
 obtain ⟨ad1, n1, c1, l1, e1, b1, hl1, k1⟩ := in_topics f1
 obtain ⟨ad2, n2, c2, l2, e2, b2, hl2, k2⟩ := in_bytes f2
 simp only [Rows.uptoBulk, List.map_cons, List.map_nil, Rows.uptoBulkAll] at hb
 refine ⟨⟨l0, ad1, n1, c1, l1, ad2, n2, c2, l2⟩, ?_, hl0, hl1, hl2, b1, b2, by simp only; omega, by simp only; omega⟩
 have hcs : cs = (cs.drop 0).take 20 ++ ((cs.drop 20).take 1 ++ (cs.drop 21).take 1) := by
  have a1 : (cs.drop 21).take 1 = cs.drop 21 := List.take_of_length_le (by simp; omega)
  have a2 : (cs.drop 20).take 1 ++ cs.drop 21 = cs.drop 20 := by
   have := List.take_append_drop 1 (cs.drop 20)
   rwa [List.drop_drop] at this
  rw [a1, a2, List.drop_zero, List.take_append_drop]
 rw [hcs, e0, e1, e2]
 rfl
theorem list_of {α : Type} {P : Nat → α → Prop} : ∀ (n : Nat), (∀ i, i < n → ∃ a, P i a) → ∃ l : List α, l.length = n ∧ ∀ i (hi : i < l.length), P i l[i]
 | 0, _ => ⟨[], rfl, fun i hi => by simp at hi⟩
 | n + 1, h => by
  obtain ⟨l, h1, h2⟩ := list_of n (fun i hi => h i (by omega))
  obtain ⟨a, ha⟩ := h n (by omega)
  refine ⟨l ++ [a], by simp [h1], fun i hi => ?_⟩
  rcases Nat.lt_or_ge i l.length with h3 | h3
  ·rw [List.getElem_append_left h3]; exact h2 i h3
  ·simp only [List.length_append, List.length_singleton] at hi
   obtain rfl : i = l.length := by omega
   rw [List.getElem_append_right (by omega)]
   simp only [Nat.sub_self, List.getElem_cons_zero]
   rw [h1]; exact ha
theorem in_logs (h : DataW.trod enc Try.prog W 0 (fun _ => true) true fuel 22 cs = some x) (hb : Rows.uptoBulk x.1 ≤ 1048576) :
  ∃ (ad : Option Addr) (cap : Nat) (L : List LogV), cs = [.slice ad L.length cap] ∧ LogsAt (base W) ad L := by
 rcases DataW.trod_slice Try.underlying22 h with ⟨rfl, rfl⟩ | ⟨a, n, cap, elems, rest, m, _, rfl, rfl, _, hl, hm, hlen, hel, _, _⟩
 ·exact ⟨none, 0, [], rfl, CellsAt.nil _, by simp, by simp⟩
 ·have hbl := bulk_len (elems.map (·.1))
  simp only [List.length_map] at hbl
  simp only [Rows.uptoBulk] at hb
  obtain ⟨L, hL, hP⟩ := list_of (P := fun i (g : LogV) => W.cells? 0 (a.add (i * 22)) 22 = some g.cells ∧ g.Ok (base W)) n (fun i hi => by
   have h1 := hel i hi
   rw [List.getElem?_eq_getElem (by omega), Option.bind_eq_some_iff] at h1
   obtain ⟨cs', hc, ht⟩ := h1
   rw [cz36] at hc
   have hm := bulk_mem (d := (elems[i]'(by omega)).1) (l := elems.map (·.1)) (List.mem_map_of_mem (List.getElem_mem _))
   obtain ⟨g, rfl, hg⟩ := in_log ht (by omega)
   exact ⟨g, hc, hg⟩)
  have hok : ∀ g ∈ L, g.Ok (base W) := fun g hg => by
   obtain ⟨i, hi, rfl⟩ := List.getElem_of_mem hg
   exact (hP i hi).2
  have hfl : (L.flatMap LogV.cells).length = 22 * L.length := flat_len (k := 22) (fun g hg => LogV.cells_len (hok g hg).ha)
  have hcell : ∀ j, j < (L.flatMap LogV.cells).length → W.cell? (a.add j) = (L.flatMap LogV.cells)[j]? := fun j hj => by
   rw [hfl] at hj
   have hi : j / 22 < L.length := by omega
   obtain ⟨_, _, hce⟩ := World.cells?_some (hP _ hi).1
   have h2 := hce (j % 22) (by omega)
   rw [add_add, show j / 22 * 22 + j % 22 = j by omega] at h2
   have h3 := flat_get (f := LogV.cells) (k := 22) (l := L) (fun g hg => LogV.cells_len (hok g hg).ha) hi (j := j % 22) (by omega)
   rw [show j / 22 * 22 + j % 22 = j by omega] at h3
   rw [h2, h3]
  refine ⟨some a, cap, L, by rw [hL], ⟨⟨fun b hb2 h0 => ?_, fun _ => rfl, fun j hj => by rw [adrAt_some]; exact hcell j hj⟩, hok, by omega⟩⟩
  cases hb2
  have := hcell 0 h0
  rw [List.getElem?_eq_getElem h0] at this
  have := cell_block this
  rwa [addr_add_block] at this
end
end Go.Proofs.Ytepabkjfnpaijaa
namespace Go.Proofs.Ytepabkjfnpaijaa
open Go RowKit Go.Ew
set_option maxHeartbeats 4000000
theorem in98 : codeIn Try.f98.ntmps (Try.f98.body.getD .skip) = true := by kernel_rfl
theorem in104 : codeIn Try.f104.ntmps (Try.f104.body.getD .skip) = true := by kernel_rfl
theorem in97 : codeIn Try.f97.ntmps (Try.f97.body.getD .skip) = true := by kernel_rfl
theorem bOr_comm (a b : Int) : bOr .u64 a b = bOr .u64 b a := by simp only [bOr, BitVec.or_comm]
theorem pow_256 (i : Nat) : 256 ^ i = 18446744073709551616 ^ (i / 8) * 2 ^ (8 * (i % 8)) := by
 have e : (18446744073709551616 : Nat) = 2 ^ 64 := by decide
 have e8 : (256 : Nat) = 2 ^ 8 := by decide
 rw [e, e8, ← Nat.pow_mul, ← Nat.pow_mul, ← Nat.pow_add]; congr 1; omega
theorem two_le56 {s : Nat} (hs : s ≤ 56) : 2 ^ s ≤ 72057594037927936 := Nat.le_trans (Nat.pow_le_pow_right (by omega) hs) (by decide)
theorem dig_big {N i : Nat} (h : N < 18446744073709551616 ^ i) : dig 18446744073709551616 N i = 0 := by
 unfold dig; rw [Nat.div_eq_of_lt h]; rfl
theorem read_digit {N c i : Nat} (hN : N < 256 ^ i) (hc : c < 256) (q : Nat) :
  dig 18446744073709551616 (N + c * 256 ^ i) q = if q = i / 8 then bOr .u64 (dig 18446744073709551616 N q) (bShl .u64 (c : Int) (8 * ((i : Int) % 8))) else dig 18446744073709551616 N q := by
 rw [pow_256] at hN ⊢
 obtain ⟨s, hs⟩ : ∃ s, s = 8 * (i % 8) := ⟨_, rfl⟩
 have hsi : (8 * ((i : Int) % 8)).toNat = s := by omega
 have hs56 : s ≤ 56 := by omega
 have h2 := two_le56 hs56
 rw [← hs] at hN ⊢
 generalize i / 8 = q0 at *
 have hP : 0 < 18446744073709551616 ^ q0 := Nat.pow_pos (by omega)
 split
 ·rename_i e; subst e
  have a1 : N / 18446744073709551616 ^ q < 2 ^ s := Nat.div_lt_of_lt_mul hN
  have a2 : (N + c * (18446744073709551616 ^ q * 2 ^ s)) / 18446744073709551616 ^ q = N / 18446744073709551616 ^ q + c * 2 ^ s := by
   rw [show c * (18446744073709551616 ^ q * 2 ^ s) = 18446744073709551616 ^ q * (c * 2 ^ s) by rw [Nat.mul_left_comm], Nat.add_mul_div_left _ _ hP]
  have a3 : c * 2 ^ s ≤ 255 * 2 ^ s := Nat.mul_le_mul_right _ (by omega)
  rw [dig, dig, a2]
  generalize N / 18446744073709551616 ^ q = N1 at *
  generalize hK : c * 2 ^ s = K at *
  have b1 : (N1 + K) % 18446744073709551616 = N1 + K := Nat.mod_eq_of_lt (by omega)
  have b2 : N1 % 18446744073709551616 = N1 := Nat.mod_eq_of_lt (by omega)
  have a4 : ((c : Int) * 2 ^ s) % 18446744073709551616 = (K : Int) := by
   rw [show ((c : Int) * 2 ^ s) = (K : Int) by rw [← hK]; simp]
   exact Int.emod_eq_of_lt (by omega) (by omega)
  have a5 : (K : Int) % ((2 ^ s : Nat) : Int) = 0 := by rw [← hK, ← Int.natCast_emod, Nat.mul_mod_left]; rfl
  rw [b1, b2, bShl_u64 (by omega) (by omega), hsi, a4, bOr_comm, bOr_add (s := s) (by omega) (by omega) (by omega) (by omega) a5 (by omega)]
  omega
 ·rename_i hne
  rcases Nat.lt_or_ge q q0 with h | h
  ·obtain ⟨d, hd⟩ : ∃ d, q0 = q + 1 + d := ⟨q0 - q - 1, by omega⟩
   have hQ : 0 < 18446744073709551616 ^ q := Nat.pow_pos (by omega)
   have e : c * (18446744073709551616 ^ q0 * 2 ^ s) = 18446744073709551616 ^ q * (18446744073709551616 * (18446744073709551616 ^ d * 2 ^ s * c)) := by
    rw [hd, Nat.pow_add, Nat.pow_succ]; grind
   rw [dig, dig, e, Nat.add_mul_div_left _ _ hQ, Nat.add_mul_mod_self_left]
  ·have hlt : q0 + 1 ≤ q := by omega
   have e1 : 18446744073709551616 ^ (q0 + 1) ≤ 18446744073709551616 ^ q := Nat.pow_le_pow_right (by omega) hlt
   have e2 : 18446744073709551616 ^ q0 * 2 ^ s * 256 ≤ 18446744073709551616 ^ (q0 + 1) := by
    rw [Nat.pow_succ, Nat.mul_assoc]; exact Nat.mul_le_mul_left _ (by omega)
   have e3 : c * (18446744073709551616 ^ q0 * 2 ^ s) ≤ 255 * (18446744073709551616 ^ q0 * 2 ^ s) := Nat.mul_le_mul_right _ (by omega)
   rw [dig_big (by omega), dig_big (by omega)]
theorem z4z : ints .u64 (fun _ => 0) 4 = [.int .u64 0, .int .u64 0, .int .u64 0, .int .u64 0] := rfl
/-- The number that bytes are, the highest first. -/
def bvN : List UInt8 → Nat
 | [] => 0
 | c :: l => c.toNat * 256 ^ l.length + bvN l
theorem bvN_lt : ∀ l : List UInt8, bvN l < 256 ^ l.length
 | [] => by simp [bvN]
 | c :: l => by
  have h1 := bvN_lt l
  have h2 := c.toNat_lt
  have h3 : c.toNat * 256 ^ l.length ≤ 255 * 256 ^ l.length := Nat.mul_le_mul_right _ (by omega)
  simp only [bvN, List.length_cons, Nat.pow_succ]
  omega
theorem bvN_drop {l : List UInt8} {i : Nat} (hi : i < l.length) : bvN (l.drop (l.length - (i + 1))) = bvN (l.drop (l.length - i)) + (l.getD (l.length - 1 - i) 0).toNat * 256 ^ i := by
 have e : l.length - (i + 1) < l.length := by omega
 rw [List.drop_eq_getElem_cons e, bvN, show l.length - (i + 1) + 1 = l.length - i by omega, List.getD_eq_getElem?_getD, List.getElem?_eq_getElem (by omega), Option.getD_some]
 have e1 : (l.drop (l.length - i)).length = i := by simp; omega
 have e2 : l.length - 1 - i = l.length - (i + 1) := by omega
 rw [e1]
 simp only [e2]
 omega
theorem bvN_8 {l : List UInt8} (h : l.length ≤ 8) : bvN l < 18446744073709551616 := by
 have h1 := bvN_lt l
 have h2 : 256 ^ l.length ≤ 256 ^ 8 := Nat.pow_le_pow_right (by omega) h
 have h3 : (256 : Nat) ^ 8 = 18446744073709551616 := by decide
 omega
theorem bvN_32 {l : List UInt8} (h : l.length ≤ 32) : bvN l < 115792089237316195423570985008687907853269984665640564039457584007913129639936 := by
 have h1 := bvN_lt l
 have h2 : 256 ^ l.length ≤ 256 ^ 32 := Nat.pow_le_pow_right (by omega) h
 have h3 : (256 : Nat) ^ 32 = 115792089237316195423570985008687907853269984665640564039457584007913129639936 := by decide
 omega
theorem z4i : ints .u64 (dig 18446744073709551616 0) 4 = [.int .u64 0, .int .u64 0, .int .u64 0, .int .u64 0] := by with_unfolding_all rfl
theorem read_fn (l : List UInt8) (n : Nat) (B : Base) (ad : Option Addr) (cap : Nat) (hl : BytesAt B ad l) (hn : l.length = n) (h32 : n ≤ 32) :
  Does Try.prog 98 [.raw (.slice ad n cap)] B (fun _ : Unit => .tup [wE (bvN l), .int .i64 0]) (fun _ _ => True) := by
 subst hn
 refine fn_of en98 (fun s B B' hB hR => hR) Try.func98 rfl in98 (by simp [Try.f98]) (by simp [closeds, closed]) (fun B0 hB0 => next_of 1000 ?_)
 replace hl := hl.ext hB0
 repeat' (first | simp (maxSteps := 4000000) (disch := omega) only [go_sem, ↓reduceIte, Try.f98] | ((first | refine condS_split (fun h => ?_) (fun h => ?_) | refine testS_split (fun h => ?_) (fun h => ?_) | refine testT_split (fun h => ?_) (fun h => ?_)) <;> (try simp only [bne_iff_ne, ne_eq, beq_iff_eq, decide_eq_true_eq, decide_eq_false_iff_not, Bool.not_eq_true, Bool.not_eq_false, Bool.not_true, Bool.not_false, bne_eq_false_iff_eq, beq_eq_false_iff_ne, Bool.and_eq_true, Bool.or_eq_true, Bool.and_eq_false_imp, Bool.or_eq_false_iff, Bool.not_eq_true', Bool.not_eq_false', Int.not_lt, Int.not_le] at h) <;> (try (exfalso; omega))))
 refine loopU (S := Nat) (fun i => i ≤ l.length)
  (fun i => ⟨[(12, .int .i64 (i : Nat)), (11, .int .i64 (l.length : Nat)), (4, .ptr 1 0), (3, .int .i64 0), (2, .ptr 0 0), (0, .raw (.slice ad l.length cap))], 2,
   [(1, some (.cells (ints .u64 (dig 18446744073709551616 (bvN (l.drop (l.length - i)))) 4) 131 (0, 0))), (0, some (.cells (ints .u64 (fun _ => 0) 4) 131 (0, 0)))], B0, []⟩)
  (fun i => l.length - i) 0 (by omega) (Weak.sub (weak_of (by simp [wσ, go_sem, closed, closeds, lE_closed, closeds_ints, bvN, Nat.sub_zero, List.drop_length, z4i, z4z] <;> omega) (by simp [whs, Go.Ew.hget, go_sem, EObj.closed, closed, closeds, lE_closed, closeds_ints, bvN, Nat.sub_zero, List.drop_length, z4i, z4z]) (by simp [*]) rfl rfl (by simp))) ?_
 intro i hi
 rcases Nat.lt_or_ge i l.length with hi2 | hi2
 ·refine next_of 1000 ?_
  simp (maxSteps := 4000000) (disch := omega) only [go_sem, ↓reduceIte]
  repeat (with_reducible refine And.intro (by first | omega | assumption | (constructor <;> assumption) | (simp; done) | (simp; omega) | (simp [*]; done) | ((repeat' refine And.intro ?_ ?_) <;> first | omega | assumption | (refine SlOk.so (n := ?_) ?_ ?_; rotate_left; assumption; omega) | (simp; done) | fail) | fail) ?_)
  refine condS_split (fun h2 => ?_) (fun h2 => by simp at h2; omega)
  have e1 : (((l.length : Int) - 1) - (i : Int)).toNat = l.length - 1 - i := by omega
  have e2 : ((i : Int) / 8).toNat = i / 8 := by omega
  have m1 := hl.ld (l.length - 1 - i) (by omega)
  have m2 := hl.lS (l.length - 1 - i) (by omega)
  have m3 := hl.lD (by omega)
  have m4 := hl.ok.so (by omega)
  have hb := bvN_drop hi2
  obtain ⟨c, hc⟩ : ∃ c, c = l.getD (l.length - 1 - i) 0 := ⟨_, rfl⟩
  rw [← hc] at m1 hb
  have hc2 := c.toNat_lt
  have hN : bvN (l.drop (l.length - i)) < 256 ^ i := by
   have := bvN_lt (l.drop (l.length - i))
   rwa [show (l.drop (l.length - i)).length = i by simp; omega] at this
  obtain ⟨N, hN0⟩ : ∃ N, N = bvN (l.drop (l.length - i)) := ⟨_, rfl⟩
  rw [← hN0] at hb hN ⊢
  repeat' (first | with_reducible refine And.intro (by first | omega | assumption | (constructor <;> assumption) | (simp; done) | (simp; omega) | (simp [*]; done) | ((repeat' refine And.intro ?_ ?_) <;> first | omega | assumption | (refine SlOk.so (n := ?_) ?_ ?_; rotate_left; assumption; omega) | (simp; done) | fail) | fail) ?_ | simp (maxSteps := 4000000) (disch := omega) only [go_sem, ↓reduceIte, e1, e2, m1, bE] | with_reducible refine drawT_of (id := 7) [0, 1, 2, 3, 4, 5, 6, 7, 8, 9, 10, 11, 12, 13, 14, 15, 16, 17, 18, 19] mixed (by kernel_rfl) (by simp) (fun hin => dt_of 1000 hin ?_) | with_reducible refine endT_of (by kernel_rfl) (nmT_of (by kernel_rfl)) (next_of 1000 ?_))
  have he : setF (dig 18446744073709551616 N) (i / 8) (bOr .u64 (dig 18446744073709551616 N (i / 8)) ((c.toNat : Int) * 2 ^ (8 * ((i : Int) % 8)).toNat % 18446744073709551616)) = dig 18446744073709551616 (bvN (l.drop (l.length - (i + 1)))) := by
   funext q
   rw [hb, read_digit hN (by omega), bShl_u64 (by omega) (by omega)]
   simp only [setF]
   split
   ·rename_i e; subst e; simp
   ·rfl
  rw [he]
  exact ⟨i + 1, hi2, Weak.sub (weak_of (by simp [wσ, go_sem, closed, closeds, lE_closed, closeds_ints] <;> omega) (by simp [whs, Go.Ew.hget, go_sem, EObj.closed, closed, closeds, lE_closed, closeds_ints]) (by simp [*]) rfl rfl (by simp)), by omega⟩
 ·obtain rfl : i = l.length := by omega
  refine next_of 1000 ?_
  simp (maxSteps := 4000000) (disch := omega) only [go_sem, ↓reduceIte]
  repeat (with_reducible refine And.intro (by first | omega | assumption | (constructor <;> assumption) | (simp; done) | (simp; omega) | (simp [*]; done) | ((repeat' refine And.intro ?_ ?_) <;> first | omega | assumption | (refine SlOk.so (n := ?_) ?_ ?_; rotate_left; assumption; omega) | (simp; done) | fail) | fail) ?_)
  refine condS_split (fun h2 => by simp at h2) (fun h2 => ?_)
  repeat' (first | simp (maxSteps := 4000000) (disch := omega) only [go_sem, ↓reduceIte] | with_reducible refine next_of 1000 ?_)
  rw [Nat.sub_self, List.drop_zero]
  have he := wE_ints (bvN l)
  rw [wE_eq, EV.agg.injEq] at he
  rw [he]
  exact ⟨BExt.refl _, (), rfl, by simp [closed, closeds, closeds_ints]⟩
theorem small_p (n : Nat) (h : n < 18446744073709551616) : Pure Try.prog 104 [wE n] (.tup [.int .u64 (n : Int), .bool true]) := by
 have e : wE n = .agg [.int .u64 (n : Int), .int .u64 0, .int .u64 0, .int .u64 0] := (wE_of (by constructor <;> omega)).symm
 rw [e]
 refine pure_p (args := [.agg [.int .u64 (n : Int), .int .u64 0, .int .u64 0, .int .u64 0]]) en104 (by simp [closed, closeds, closed_wE, closeds_ints]) Try.func104 rfl in104 (by simp [Try.f104]) (by simp [closeds, closed, closed_wE, closeds_ints]) (fun w => next_of 1000 ?_)
 simp (maxSteps := 4000000) (disch := omega) only [go_sem, ↓reduceIte, Try.f104]
 repeat (with_reducible refine And.intro (by first | omega | assumption | (constructor <;> assumption) | (simp; done) | (simp; omega) | (simp [*]; done) | ((repeat' refine And.intro ?_ ?_) <;> first | omega | assumption | (refine SlOk.so (n := ?_) ?_ ?_; rotate_left; assumption; omega) | (simp; done) | fail) | fail) ?_)
 have o1 : bOr .u64 0 0 = 0 := by decide
 repeat' (simp (maxSteps := 4000000) (disch := omega) only [go_sem, ↓reduceIte, o1])
/-- A length of k bytes: it, or why not. -/
def longM (l : List UInt8) (k : Nat) : Nat × Nat :=
 if l.length < k then (0, 41) else if l.getD 0 0 = 0 then (0, 42) else if bvN (l.take k) ≤ 55 ∨ 1099511627776 < bvN (l.take k) then (0, 42) else (bvN (l.take k), 0)
theorem longM_le (l : List UInt8) (k : Nat) : (longM l k).1 ≤ 1099511627776 := by
 unfold longM
 split
 ·simp
 ·split
  ·simp
  ·split
   ·simp
   ·simp only; omega
theorem long_fn (l : List UInt8) (k n : Nat) (B : Base) (ad : Option Addr) (cap : Nat) (hl : BytesAt B ad l) (hn : l.length = n) (hk : 1 ≤ k) (hk8 : k ≤ 8) (hcap : n ≤ cap) (hc : n ≤ 9223372036854775807) :
  Does Try.prog 97 [.raw (.slice ad n cap), .int .i64 (k : Int)] B (fun _ : Unit => .tup [.int .i64 ((longM l k).1 : Int), .int .i64 ((longM l k).2 : Int)]) (fun _ _ => True) := by
 subst hn
 refine fn_of en97 (fun s B B' hB hR => hR) Try.func97 rfl in97 (by simp [Try.f97]) (by simp [closeds, closed]) (fun B0 hB0 => next_of 1000 ?_)
 replace hl := hl.ext hB0
 rcases Nat.lt_or_ge l.length k with h1 | h1
 ·have e1 : longM l k = (0, 41) := by rw [longM, if_pos h1]
  have c1 : decide ((l.length : Int) < (k : Int)) = true := decide_eq_true (by omega)
  rw [e1]
  repeat' (simp (maxSteps := 4000000) (disch := omega) only [go_sem, ↓reduceIte, Try.f97, c1])
  exact ⟨BExt.refl _, (), by simp [closed, closeds]⟩
 ·have c1 : decide ((l.length : Int) < (k : Int)) = false := decide_eq_false (by omega)
  have m1 := hl.ld 0 (by omega)
  have m2 := hl.lS 0 (by omega)
  have m3 := hl.lD (by omega)
  have m4 := hl.ok.so (by omega)
  by_cases h2 : l.getD 0 0 = 0
  ·have e1 : longM l k = (0, 42) := by rw [longM, if_neg (by omega), if_pos h2]
   rw [h2] at m1
   rw [e1]
   have m5 : rawCell B0 (adrAt ad 0) = .int .u8 0 := m1
   repeat' (first | with_reducible refine And.intro (by first | omega | assumption | (constructor <;> assumption) | (simp; done) | (simp; omega) | (simp [*]; done) | ((repeat' refine And.intro ?_ ?_) <;> first | omega | assumption | (refine SlOk.so (n := ?_) ?_ ?_; rotate_left; assumption; omega) | (simp; done) | fail) | fail) ?_ | simp (maxSteps := 4000000) (disch := omega) only [go_sem, ↓reduceIte, Try.f97, c1, m5])
   exact ⟨BExt.refl _, (), by simp [closed, closeds]⟩
  ·have hz : ((l.getD 0 0).toNat : Int) ≠ 0 := fun h => h2 (UInt8.toNat_inj.1 (by rw [UInt8.toNat_zero]; omega))
   have c2 : ((((l.getD 0 0).toNat : Nat) : Int) == 0) = false := by simpa using hz
   obtain ⟨z, hz0⟩ : ∃ z : Int, z = ((l.getD 0 0).toNat : Int) := ⟨_, rfl⟩
   have m5 : rawCell B0 (adrAt ad 0) = .int .u8 z := by rw [m1, bE, hz0]
   rw [← hz0] at c2
   have g1 : (if cap = 0 then ad else Option.map (fun x => x) ad) = ad := by split <;> simp
   have hv8 : bvN (l.take k) < 18446744073709551616 := bvN_8 (by simp; omega)
   repeat' (first | with_reducible refine And.intro (by first | omega | assumption | (constructor <;> assumption) | (simp; done) | (simp; omega) | (simp [*]; done) | ((repeat' refine And.intro ?_ ?_) <;> first | omega | assumption | (refine SlOk.so (n := ?_) ?_ ?_; rotate_left; assumption; omega) | (simp; done) | fail) | fail) ?_ | simp (maxSteps := 4000000) (disch := omega) only [go_sem, ↓reduceIte, Try.f97, c1, m5, c2, g1, Nat.sub_zero, Int.toNat_natCast])
   refine callS_f (read_fn (l.take k) k B0 ad cap (hl.take k) (by simp; omega) (by omega)) (fun _ => by simp [closed, closeds, closed_wE]) (fun s1 B1 hB1 hR1 => next_of 1000 ?_)
   change BExt B0 B1 at hB1
   have hsm := small_p (bvN (l.take k)) hv8
   have w1 : (wE (bvN (l.take k))).cells.length = 4 := rfl
   repeat' (first | with_reducible refine And.intro (by first | omega | assumption | (constructor <;> assumption) | (simp; done) | (simp; omega) | (simp [*]; done) | ((repeat' refine And.intro ?_ ?_) <;> first | omega | assumption | (refine SlOk.so (n := ?_) ?_ ?_; rotate_left; assumption; omega) | (simp; done) | fail) | fail) ?_ | simp (maxSteps := 4000000) (disch := omega) only [go_sem, ↓reduceIte] | refine callS_p (hsm) (next_of 1000 ?_) | ((first | refine condS_split (fun h => ?_) (fun h => ?_) | refine testS_split (fun h => ?_) (fun h => ?_) | refine testT_split (fun h => ?_) (fun h => ?_)) <;> (try simp only [bne_iff_ne, ne_eq, beq_iff_eq, decide_eq_true_eq, decide_eq_false_iff_not, Bool.not_eq_true, Bool.not_eq_false, Bool.not_true, Bool.not_false, bne_eq_false_iff_eq, beq_eq_false_iff_ne, Bool.and_eq_true, Bool.or_eq_true, Bool.and_eq_false_imp, Bool.or_eq_false_iff, Bool.not_eq_true', Bool.not_eq_false', Int.not_lt, Int.not_le] at h) <;> (try (exfalso; omega))))
   ·have e1 : longM l k = (0, 42) := by rw [longM, if_neg (by omega), if_neg h2, if_pos (by omega)]
    rw [e1]
    exact ⟨(), by simp [closed, closeds]⟩
   ·have e1 : longM l k = (bvN (l.take k), 0) := by rw [longM, if_neg (by omega), if_neg h2, if_neg (by omega)]
    rw [e1]
    exact ⟨(), by simp [closed, closeds]⟩
   ·have e1 : longM l k = (0, 42) := by rw [longM, if_neg (by omega), if_neg h2, if_pos (by omega)]
    rw [e1]
    exact ⟨(), by simp [closed, closeds]⟩
end Go.Proofs.Ytepabkjfnpaijaa
