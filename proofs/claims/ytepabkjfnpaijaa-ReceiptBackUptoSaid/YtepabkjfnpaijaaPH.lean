/- Part of a proof over the seat Ytepabkjfnpaijaa. -/
import Derived.Test.YtepabkjfnpaijaaPG
namespace Go.Proofs.Ytepabkjfnpaijaa
open Go RowKit Go.Ew
set_option maxRecDepth 100000
set_option linter.unusedSimpArgs false
set_option linter.unusedVariables false
set_option maxHeartbeats 8000000
theorem in21 : codeIn Try.f21.ntmps (Try.f21.body.getD .skip) = true := by kernel_rfl
/-- A receipt's cells. -/
def rcX (a b c : EV) (bl : List UInt8) (v : EV) : List EV := a :: b :: c :: (bl.map bE ++ [v])
def zbl : List UInt8 := List.replicate 256 0
theorem zbl_len : zbl.length = 256 := by simp [zbl]
theorem zrR : zeroOf Try.prog 45 = some (rcX (.int .u8 0) (.int .i64 0) (.int .u64 0) zbl (.raw (.slice none 0 0))) := by kernel_rfl
section
variable (a b c v : EV) {bl : List UInt8} (h : bl.length = 256)
include h
theorem rcX_len : (rcX a b c bl v).length = 260 := by simp [rcX, h]
theorem rcX_set259 (x : EV) : (rcX a b c bl v).set 259 x = rcX a b c bl x := by
  simp only [rcX, List.set_cons_succ]
  rw [List.set_append_right _ _ (by simp [h])]
  simp [h, rcX]
theorem rcX_259 (d : EV) : (rcX a b c bl v).getD 259 d = v := by
  have : (rcX a b c bl v)[259]? = some v := by
    show (bl.map bE ++ [v])[256]? = _
    rw [List.getElem?_append_right (by simp [h])]; simp [h]
  rw [List.getD_eq_getElem?_getD, this]; rfl
theorem rcX_take : List.take 260 (rcX a b c bl v) = rcX a b c bl v := List.take_of_length_le (by rw [rcX_len a b c v h]; omega)
theorem rcX_splice (a' b' c' v' : EV) {bl' : List UInt8} (h' : bl'.length = 256) : splice (rcX a b c bl v) 0 (rcX a' b' c' bl' v') = rcX a' b' c' bl' v' := splice_all (by rw [rcX_len _ _ _ _ h, rcX_len _ _ _ _ h']) (by rw [rcX_len _ _ _ _ h']; omega)
theorem rcX_bloom (t : Itm) (h0 : bl = zbl) : List.take 3 (rcX a b c bl v) ++ List.take (min (asB t 256 256).1.length 256) ((asB t 256 256).1.map bE) ++ List.drop (3 + min (asB t 256 256).1.length 256) (rcX a b c bl v) = rcX a b c (fixB 256 t) v := by
  subst h0
  have hf := fixB_copy 256 t (zbl.map bE) rfl
  have e : rcX a b c zbl v = [a, b, c] ++ (zbl.map bE ++ [v]) := rfl
  rw [e, List.take_append_of_le_length (by simp), List.take_of_length_le (by simp), List.drop_append, List.drop_append_of_le_length (by simp [zbl]; omega)]
  simp only [List.length_cons, List.length_nil, Nat.zero_add, Nat.reduceAdd, Nat.add_sub_cancel_left]
  rw [List.drop_of_length_le (by simp), List.nil_append, List.append_assoc, ← List.append_assoc (List.take _ _), hf]
  rfl
end
theorem rcX_one (a b c v : EV) (bl : List UInt8) : oneAll (rcX a b c bl v) = (a.one && (b.one && (c.one && v.one))) := by
  simp only [rcX, oneAll, oneAll_append, oneAll_bE, Bool.true_and, Bool.and_true]
theorem rcX_closed {n : Nat} {a b c v : EV} {bl : List UInt8} (ha : closed n a) (hb : closed n b) (hc : closed n c) (hv : closed n v) : closeds n (rcX a b c bl v) := ⟨ha, hb, hc, closeds_append.2 ⟨closeds_bE _ _, hv, trivial⟩⟩
theorem rcX_okCs (ks : List Nat) (k : Nat) (a b c v : EV) (bl : List UInt8) : okCs ks k (rcX a b c bl v) = (okC ks k a && (okC ks k b && (okC ks k c && okC ks k v))) := by
  have h : ∀ l : List UInt8, okCs ks k (l.map bE ++ [v]) = okC ks k v := fun l => by
    induction l with
    | nil => simp [okCs]
    | cons x l ih => simp only [List.map_cons, List.cons_append, okCs, ih]; simp [bE, okC]
  simp only [rcX, okCs, h]
theorem rcX_rens (ρ : Nat → Nat) (a b c v : EV) (bl : List UInt8) : rens ρ (rcX a b c bl v) = rcX (ren ρ a) (ren ρ b) (ren ρ c) bl (ren ρ v) := by
  simp only [rcX, rens_map, List.map_cons, List.map_append, List.map_nil, List.map_map]
  congr 4
theorem rcX_frzs (i k : Nat) (a b c v : EV) (bl : List UInt8) : frzs i k (rcX a b c bl v) = rcX (frz i k a) (frz i k b) (frz i k c) bl (frz i k v) := by
  have h : ∀ l : List UInt8, frzs i k (l.map bE ++ [v]) = l.map bE ++ [frz i k v] := fun l => by
    induction l with
    | nil => rfl
    | cons x l ih => simp only [List.map_cons, List.cons_append, frzs, ih]; rfl
  simp only [rcX, frzs, h]
theorem rcX_set0 (a b c v x : EV) (bl : List UInt8) : (rcX a b c bl v).set 0 x = rcX x b c bl v := rfl
theorem rcX_set1 (a b c v x : EV) (bl : List UInt8) : (rcX a b c bl v).set 1 x = rcX a x c bl v := rfl
theorem rcX_set2 (a b c v x : EV) (bl : List UInt8) : (rcX a b c bl v).set 2 x = rcX a b x bl v := rfl
theorem rcX_get0 (a b c v d : EV) (bl : List UInt8) : (rcX a b c bl v).getD 0 d = a := rfl
def blmOf (l : List UInt8) : Blm := fun i => BitVec.ofNat 8 (l.getD i 0).toNat
theorem blmOf_bytes {l : List UInt8} (h : l.length = 256) : blB (blmOf l) = l := by
  apply List.ext_getElem (by simp [blB, h])
  intro j h1 h2
  simp only [blB, List.getElem_map, List.getElem_range, blmOf, List.getD_eq_getElem?_getD, List.getElem?_eq_getElem h2, Option.getD_some, BitVec.toNat_ofNat]
  have := (l[j]).toNat_lt
  rw [Nat.mod_eq_of_lt (by omega)]
  exact UInt8.toNat_inj.1 (by rw [UInt8.toNat_ofNat_of_lt' (by simpa using this)])
theorem rcX_rc (ty : UInt8) (ok : Int) (gas : Nat) {bl : List UInt8} (h : bl.length = 256) (lA : Option Addr) (lc : Nat) (L : List LogV) : rcX (.int .u8 (ty.toNat : Int)) (.int .i64 ok) (.int .u64 (gas : Int)) bl (.raw (.slice lA L.length lc)) = rcE ⟨ty, ok, gas, blmOf bl, lA, lc, L⟩ := by
  simp only [rcX, rcE, ← blB_bE, blmOf_bytes h]
theorem twenty {l : List UInt8} (h : l.length = 20) : ∃ a0 a1 a2 a3 a4 a5 a6 a7 a8 a9 a10 a11 a12 a13 a14 a15 a16 a17 a18 a19, l = [a0, a1, a2, a3, a4, a5, a6, a7, a8, a9, a10, a11, a12, a13, a14, a15, a16, a17, a18, a19] := by
  match l, h with
  | [a0, a1, a2, a3, a4, a5, a6, a7, a8, a9, a10, a11, a12, a13, a14, a15, a16, a17, a18, a19], _ => exact ⟨a0, a1, a2, a3, a4, a5, a6, a7, a8, a9, a10, a11, a12, a13, a14, a15, a16, a17, a18, a19, rfl⟩
/-- A receipt without its places. -/
structure RcB where
  ty : UInt8
  ok : Int
  gas : Nat
  bl : List UInt8
  L : List (List UInt8 × Nat × List UInt8 × List UInt8)
def RcV.body (r : RcV) : RcB := ⟨r.ty, r.ok, r.gas, blB r.F, r.L.map LogV.body⟩
def zRc : RcB := ⟨0, 0, 0, zbl, []⟩
def logOf (p : List UInt8 × Nat × List UInt8 × List UInt8) : LogV := ⟨p.1, none, p.2.1, 0, p.2.2.1, none, p.2.2.2.length, 0, p.2.2.2⟩
def mayM (r : RcB) : Bool := mayR ⟨r.ty, r.ok, r.gas, blmOf r.bl, none, 0, r.L.map logOf⟩
def errL (ts : List Itm) (e : Nat) : Nat := ts.foldl (fun e t => kp e (logT t).2) e
theorem errL_take {ts : List Itm} {i : Nat} (hi : i < ts.length) (e : Nat) : errL (ts.take (i + 1)) e = kp (errL (ts.take i) e) (logT ts[i]).2 := by
  rw [List.take_succ_eq_append_getElem hi, errL, List.foldl_append]; rfl
theorem kp_eq0 {a b : Nat} : kp a b = 0 ↔ a = 0 ∧ b = 0 := by unfold kp; by_cases h : a = 0 <;> simp [h]
/-- An item taken as a receipt of a kind. -/
def recB (ty : UInt8) (k0 k1 k2 k3 : Itm) : RcB := ⟨ty, ((min (asN k0).1 2 : Nat) : Int), (asN k1).1, fixB 256 k2, (asL k3 0 many).1.map (fun t => (logT t).1)⟩
def recE (k0 k1 k2 k3 : Itm) : Nat := errL (asL k3 0 many).1 (kp (kp (kp (asN k0).2 (asN k1).2) (asB k2 256 256).2) (asL k3 0 many).2)
def recT (ty : UInt8) (bare : Bool) (t : Itm) : RcB × Nat :=
  if (asL t 4 4).2 ≠ 0 then (zRc, (asL t 4 4).2) else match t.kids with
    | [k0, k1, k2, k3] => if recE k0 k1 k2 k3 ≠ 0 then (zRc, recE k0 k1 k2 k3) else if !mayM (recB ty k0 k1 k2 k3) || (!bare && decide (ty = 0)) then (zRc, 190) else (recB ty k0 k1 k2 k3, 0)
    | _ => (zRc, 0)
def recP (ty : UInt8) (bare : Bool) (p : List UInt8) : RcB × Nat := if (DecM p).2 ≠ 0 then (zRc, (DecM p).2) else recT ty bare (DecM p).1
/-- Bytes as a receipt. -/
def recD (b : List UInt8) : RcB × Nat :=
  if b ≠ [] ∧ (b.getD 0 0).toNat < 128 then recP (b.getD 0 0) false (b.drop 1) else recP 0 true b
theorem four_of {α : Type} {l : List α} (h : l.length = 4) : ∃ a b c d, l = [a, b, c, d] := by
  match l, h with
  | [a, b, c, d], _ => exact ⟨a, b, c, d, rfl⟩
theorem marks_logOf (L : List LogV) : marksL ((L.map LogV.body).map logOf) = marksL L := marks_body _ _ (by
  rw [List.map_map, List.map_map]
  exact List.map_congr_left fun g _ => rfl)
theorem mayR_body (r : RcV) : mayR r = mayM r.body := by
  have e1 : eqB r.F (allB zB (marksL r.L)) = eqB (blmOf (blB r.F)) (allB zB (marksL ((r.L.map LogV.body).map logOf))) := by
    rw [marks_logOf, Bool.eq_iff_iff, eqB_iff, eqB_iff]
    have hF : ∀ i, i < 256 → blmOf (blB r.F) i = r.F i := fun i hi => by
      simp only [blmOf, blB, List.getD_eq_getElem?_getD, List.getElem?_map, List.getElem?_range hi, Option.map_some, Option.getD_some]
      have := (r.F i).isLt
      rw [UInt8.toNat_ofNat_of_lt' (by simpa using this)]
      exact BitVec.eq_of_toNat_eq (by simp)
    exact ⟨fun h i hi => by rw [hF i hi]; exact h i hi, fun h i hi => by rw [← hF i hi]; exact h i hi⟩
  have e2 : (r.L.all fun g => decide (g.tn ≤ 4)) = (((r.L.map LogV.body).map logOf).all fun g => decide (g.tn ≤ 4)) := by
    rw [List.map_map, List.all_map]; rfl
  simp only [mayM, mayR, RcV.body, e1, e2]
  rfl
theorem payM_lt {b : List UInt8} : (payM b).length ≤ b.length := by rw [payM, List.length_drop, List.length_take]; omega
theorem txt_sm {n : Nat} {p : List UInt8} (h : p.length ≤ n) : Sm n (txt p) := .mk 0 p [] h (by simp) (by simp)
theorem zI_sm (n : Nat) : Sm n zI := .mk 0 [] [] (by simp) (by simp) (by simp)
theorem kidsL_sm {f : List UInt8 → Itm × Nat × Nat} {N : Nat} (hf : ∀ p, p.length ≤ N → Sm N (f p).1 ∧ ((f p).2.2 = 0 → 1 ≤ (f p).2.1)) : ∀ (n : Nat) (p : List UInt8) (acc : List Itm), p.length ≤ N → acc.length + p.length ≤ N → (∀ k ∈ acc, Sm N k) →
    (kidsL f n p acc).1.length ≤ N ∧ ∀ k ∈ (kidsL f n p acc).1, Sm N k
  | 0, p, acc, h1, h2, h3 => by simp only [kidsL]; exact ⟨by omega, h3⟩
  | n + 1, p, acc, h1, h2, h3 => by
    rw [kidsL]
    split
    · exact ⟨by simp only; omega, h3⟩
    · rename_i hp
      split
      · simp
      · rename_i he
        obtain ⟨a1, a2⟩ := hf p h1
        have hpl : p.length ≠ 0 := fun h => hp (List.length_eq_zero_iff.1 h)
        have := a2 (by omega)
        refine kidsL_sm hf n _ _ (by simp; omega) (by simp; omega) (fun k hk => ?_)
        rcases List.mem_append.1 hk with hk | hk
        · exact h3 k hk
        · obtain rfl := List.mem_singleton.1 hk
          exact a1
theorem decB_sm {F : List UInt8 → List Itm × Nat} {N : Nat} (hF : ∀ p, p.length ≤ N → (F p).1.length ≤ N ∧ ∀ k ∈ (F p).1, Sm N k) (b : List UInt8) (h : b.length ≤ N) : Sm N (decB F b).1 := by
  have hp := Nat.le_trans (payM_lt (b := b)) h
  unfold decB
  split
  · exact zI_sm _
  · split
    · exact txt_sm hp
    · split
      · exact zI_sm _
      · exact .mk 1 [] _ (by simp) (hF _ hp).1 (hF _ hp).2
theorem decM_sm : ∀ (m : Nat) (b : List UInt8) (N : Nat), b.length ≤ N → Sm N (decM m b).1
  | 0, b, N, h => decB_sm (fun _ _ => by simp) b h
  | m + 1, b, N, h => decB_sm (fun p hp => kidsL_sm (fun q hq => ⟨decM_sm m q N hq, fun h0 => (decM_to h0).1⟩) _ _ _ hp (by simpa using hp) (by simp)) b h
theorem DecM_sm {b : List UInt8} {N : Nat} (h : b.length ≤ N) : Sm N (DecM b).1 := by
  unfold DecM
  split
  · exact zI_sm _
  · split
    · exact zI_sm _
    · exact decM_sm _ _ _ h
end Go.Proofs.Ytepabkjfnpaijaa

