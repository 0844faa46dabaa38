/- The statement of TriePacked: unpacking undoes packing, and packed nibbles tell what was packed. -/
import Derived.Test.YtncjbfkkgdepoaaG18
import Derived.HandedShaped
import Derived.JoinedOf
set_option linter.unusedSimpArgs false
set_option linter.unusedVariables false
set_option maxRecDepth 100000
namespace Go.Proofs.Ytncjbfkkgdepoaa.triePacked
open Go Go.Ew Go.ChangeShapes Go.WideShapes Go.ChangeAt Go.RowKit
/-- Bytes that came in, with what bounds them. -/
theorem Cf6 {H : Type} {enc : TypeId × Value → H} {W : World} {fuel : Nat} {cs : List Value} {x : DataW H × List MemPlace} (h : DataW.trod enc Try.prog W 0 (fun _ => true) true fuel 22 cs = some x) :
  ∃ q : Bs, cs = [q.v] ∧ BytesAt (base W) q.ad q.l ∧ (q.l = [] ∨ ∃ elems spare, x.1 = .slice elems spare ∧ elems.length = q.l.length) := by
 rcases DataW.trod_slice Try.underlying22 h with ⟨rfl, rfl⟩ | ⟨a, n, cap, elems, rest, m, _, rfl, rfl, _, hl, hm, hlen, hel, _, _⟩
 ·exact ⟨⟨[], none, 0⟩, rfl, BytesAt.nil _, .inl rfl⟩
 ·have hz : ∀ j, j < n → ∃ z : Int, W.cell? (a.add j) = some (.int .u8 z) ∧ 0 ≤ z ∧ z < 256 := fun j hj => by
   have h1 := hel j hj
   rw [List.getElem?_eq_getElem (by omega), Option.bind_eq_some_iff] at h1
   obtain ⟨cs', hc, ht⟩ := h1
   rw [cz5] at hc
   obtain ⟨_, hcl, hce⟩ := World.cells?_some hc
   obtain ⟨z, h2, _, h3⟩ := DataW.trod_int Try.underlying5 ht
   have h4 := hce 0 (by omega)
   rw [Al4, Nat.mul_one, Nat.add_zero, h2] at h4
   exact ⟨z, h4, Cv1 h3⟩
  obtain ⟨l, h1, h2⟩ := Cd1 hz
  exact ⟨⟨l, some a, cap⟩, by simp [Bs.v, h1], h2, .inr ⟨_, _, rfl, by rw [List.length_map]; simp only; omega⟩⟩
/-- What the walk gives, at every world that lets the arguments in. -/
theorem At2 (H : Type) (enc : TypeId × Value → H) (W : World) (base' : Nat) (args : Array Value) (ds gs : List (DataW H)) (before : List MemPlace)
  (hval : ∀ (j : Nat) t v, Try.f6.params[j]? = some t → args[j]? = some v → Value.okWide Try.prog W .any base' t v)
  (hW : DataW.Whole enc Try.prog Try.f6.params.toList Rows.triePackedSpec.vars false W args.toList ds gs before)
  (hzz : (DataW.weightsEach Try.prog (Try.f6.params.toList ++ Rows.triePackedSpec.plain.varTypes Try.prog) (ds ++ gs)).all (· ≤ reachBytes) = true) :
  Calls Try.prog 6 args W fun e W' => ∃ v, e = .returned v ∧ Rows.triePackedSpec.post enc Try.prog Try.f6 false true false false W args v W' := by
 have hW' := hW
 obtain ⟨p, q, hA0, hV, rfl, hfz, hnd⟩ := hW
 have hA : DataW.TrodAll enc Try.prog W 0 (fun _ => true) true Try.f6.params.toList args.toList ds p := hA0
 rw [Try.params6] at hA hval hzz
 obtain ⟨v0, vs0, d0, ds0, p0, q0, hargs, rfl, rfl, h0, r0⟩ := trodAll_cons hA
 obtain ⟨v1, vs1, d1, ds1, p1, q1, rfl, rfl, rfl, h1, r1⟩ := trodAll_cons r0
 obtain ⟨v2, vs2, d2, ds2, p2, q2, rfl, rfl, rfl, h2, r2⟩ := trodAll_cons r1
 obtain ⟨v3, vs3, d3, ds3, p3, q3, rfl, rfl, rfl, h3, r3⟩ := trodAll_cons r2
 obtain ⟨rfl, rfl, rfl⟩ := trodAll_nil r3
 obtain rfl : args = #[v0, v1, v2, v3] := by cases args; simp_all
 obtain ⟨rfl, rfl⟩ := trodVars_none hV
 have k0 := h0
 have k1 := h1
 have k2 := h2
 have k3 := h3
 have lt0 : ∀ x ∈ p0, x.block < W.heap.size := by obtain ⟨m, hm⟩ := k0; exact DataW.trod_lt m _ _ _ hm
 have lt1 : ∀ x ∈ p1, x.block < W.heap.size := by obtain ⟨m, hm⟩ := k1; exact DataW.trod_lt m _ _ _ hm
 have lt2 : ∀ x ∈ p2, x.block < W.heap.size := by obtain ⟨m, hm⟩ := k2; exact DataW.trod_lt m _ _ _ hm
 have lt3 : ∀ x ∈ p3, x.block < W.heap.size := by obtain ⟨m, hm⟩ := k3; exact DataW.trod_lt m _ _ _ hm
 obtain ⟨a0, n0, c0, f0, rfl, g0⟩ := Cg6 Try.underlying22 (hval 0 22 v0 rfl rfl) h0
 obtain ⟨a1, n1, c1, f1, rfl, g1⟩ := Cg6 Try.underlying22 (hval 1 22 v1 rfl rfl) h1
 obtain ⟨t2, rfl⟩ := okWide_bool Try.underlying4 (hval 2 4 v2 rfl rfl)
 obtain ⟨t3, rfl⟩ := okWide_bool Try.underlying4 (hval 3 4 v3 rfl rfl)
 obtain ⟨Q0, e0, w0, z0⟩ := Cf6 g0
 obtain ⟨Q1, e1, w1, z1⟩ := Cf6 g1
 have hrb : reachBytes = 140737488351232 := by decide +kernel
 have u0 : Q0.l.length ≤ 140737488351232 := by
  rcases z0 with h | ⟨el, sp, h, hl⟩
  ·rw [h]; simp
  ·have := sized_slice hzz (j := 0) rfl (by simp only at h; rw [h]; rfl) Try.underlying22
   rw [show Try.prog.bytesOf 5 = 1 from by5, hrb] at this
   omega
 have u1 : Q1.l.length ≤ 140737488351232 := by
  rcases z1 with h | ⟨el, sp, h, hl⟩
  ·rw [h]; simp
  ·have := sized_slice hzz (j := 1) rfl (by simp only at h; rw [h]; rfl) Try.underlying22
   rw [show Try.prog.bytesOf 5 = 1 from by5, hrb] at this
   omega
 simp only [Bs.v, List.cons.injEq, Value.slice.injEq, and_true] at e0 e1
 obtain ⟨rfl, rfl, rfl⟩ := e0
 obtain ⟨rfl, rfl, rfl⟩ := e1
 clear hA0
 refine (Cc1 (Bl6 (base W) Q0.l Q1.l t2 t3 Q0.l.length Q1.l.length Q0.ad Q1.ad Q0.c Q1.c w0 w1 rfl rfl u0 u1)).mono fun e W' ⟨he, bel⟩ => ?_
 subst he
 exact ⟨_, rfl, _, _, _, [], _, [], hW', trodAll_mk1 (shut_bool Try.underlying4 _), (trodAll_cons_mk (Below.trod Ar3 (by kernel_rfl) (of_decide_eq_true (by kernel_rfl)) k0 bel lt0) (trodAll_cons_mk (Below.trod Ar3 (by kernel_rfl) (of_decide_eq_true (by kernel_rfl)) k1 bel lt1) (trodAll_cons_mk (Below.trod Ar3 (by kernel_rfl) (of_decide_eq_true (by kernel_rfl)) k2 bel lt2) (trodAll_cons_mk (Below.trod Ar3 (by kernel_rfl) (of_decide_eq_true (by kernel_rfl)) k3 bel lt3) trodAll_mk0)))), rfl, bel.frame _, fun h => by cases h⟩
set_option maxRecDepth 100000 in
theorem Cp6 (os : Os) (started : os.Started) (H : Type) (enc : TypeId × Value → H) :
  ReturnsInHanded {} Try.checked os 6 .any (Rows.triePackedSpec.pre6 enc Try.prog Try.f6 Rows.triePackedRow.domain false) (Rows.triePackedSpec.post enc Try.prog Try.f6 false true false false) := by
 refine returnsInHanded_of_change_shaped (C := Try.checked) own started (by kernel_rfl) Try.func6
  (ChangeSpec.witness6 (enc := enc) (C := Try.checked) (s := Rows.triePackedSpec) false ⟨#[], #[.slice none 0 0, .slice none 0 0, .bool false, .bool false], []⟩ 8 (by kernel_rfl) (by kernel_rfl) (by kernel_rfl) (by kernel_rfl)) ?_
 intro W base' args ds gs before hval hW _ hzz _ _
 exact At2 H enc W base' args ds gs before hval hW hzz
/-- The statement of TriePacked. -/
theorem said : Rows.TriePackedSaid :=
 OpenClaim.holds_of_wide 6 Try.f6 rfl rfl rfl rfl rfl rfl rfl ⟨rfl, rfl, rfl, rfl, rfl⟩ rfl rfl rfl rfl rfl (by kernel_rfl) Try.func6 (by kernel_rfl)
  (of_decide_eq_true (by kernel_rfl)) (by unfold Func.isWrapper; first | (rw [if_pos (by decide +kernel)]; kernel_rfl) | (rw [if_neg (by decide +kernel)]; exact ⟨rfl, rfl⟩))
  (fun os started H enc _ => Cp6 os started H enc)
end Go.Proofs.Ytncjbfkkgdepoaa.triePacked
