/- Part of a proof over the seat YtepabkjfnpaijaaGreat. -/
import Derived.Test.YtepabkjfnpaijaaGreatG22
import Derived.Test.YtepabkjfnpaijaaGreatEng3
set_option linter.unusedSimpArgs false
set_option linter.unusedVariables false
set_option maxRecDepth 100000
namespace Go.Proofs.YtepabkjfnpaijaaGreat
open Go RowKit Go.Ew
set_option maxHeartbeats 16000000
theorem Eg1 : D5 Tryz.f78.ntmps (Tryz.f78.body.getD .skip) = true := by kernel_rfl
theorem Ei3 : D5 Tryz.f54.ntmps (Tryz.f54.body.getD .skip) = true := by kernel_rfl
structure Nv where
 h : List UInt8
 b : Bs
def Nv.E (q : Nv) : List EV := q.h.map bE ++ [.raw q.b.v]
def Nv.C (q : Nv) : List Value := q.h.map bV ++ [q.b.v]
def Nv.nd (q : Nv) : KV := (q.h, q.b.l)
def zN : List EV := List.replicate 32 (.int .u8 0) ++ [.raw (.slice none 0 0)]
theorem D9 : A0 0 zN := by simp [zN, A0, closed, List.replicate]
theorem X6 (n : Nat) (q : Nv) : A0 n q.E := closeds_append.2 ⟨A9 n _, trivial, trivial⟩
theorem E4 (n : Nat) (ns : List Nv) : A0 n (ns.flatMap Nv.E) := by
 induction ns with
 | nil => trivial
 | cons q qs ih => exact closeds_append.2 ⟨X6 n q, ih⟩
theorem Ac3 (q : Nv) : F7 q.E = true := by
 rw [Nv.E, J2, As0]; rfl
theorem Z8 {ns : List Nv} (h : ∀ q ∈ ns, q.h.length = 32) : (ns.flatMap Nv.E).length = ns.length * 33 := by
 rw [L5 (k := 33) (fun q hq => by simp [Nv.E, h q hq])]; omega
def Ce2 (t : Itm) : List KV := if (H5 t).length < 32 then [] else [(Ao9 (H5 t), H5 t)]
theorem Ac1 {B : Base} {t : Itm} {s : Plc} (h : ItAt B t s) (hok : chk t 0 = 0) (hf : (H5 t).length ≤ 1099511627776) (ns : List Nv) (n : Nat) (hn : ns.length = n) (hns : ∀ q ∈ ns, q.h.length = 32) (l : Lst) (hl : lOk zN n l) (hmax : n < 1099511627776) :
  Bld Tryz.prog 78 110 114 zN [.agg (itE t s)] B n l (ns.flatMap Nv.E) (fun u : Plc × List Nv × Lst => .agg (itE (M8 t) u.1)) (fun u => (ns ++ u.2.1).length) (fun u => u.2.2) (fun u => (ns ++ u.2.1).flatMap Nv.E)
   (fun u B' => ItAt B' (M8 t) u.1 ∧ u.2.1.map Nv.nd = Ce2 t ∧ ∀ q ∈ u.2.1, q.h.length = 32 ∧ q.b.Ok B') := by
 subst hn
 refine Cq4 En5 (fun s B B' hB hR => ⟨hR.1.ext hB, hR.2.1, fun q hq => ⟨(hR.2.2 q hq).1, (hR.2.2 q hq).2.ext hB⟩⟩) Tryz.func78 rfl Eg1 (by simp [Tryz.f78]) (by simp [A0, closed]) hl (E4 0 _) D9 (fun B0 hB0 olds hol => A3 1000 ?_)
 replace h := h.ext hB0
 have hen := Bb9 h hok (by omega)
 obtain ⟨p, hp⟩ : ∃ p, p = H5 t := ⟨_, rfl⟩
 have hrf : Ce2 t = if p.length < 32 then [] else [(Ao9 p, p)] := by rw [hp]; rfl
 have hri : M8 t = if p.length < 32 then t else txt (Ao9 p) := by rw [hp]; rfl
 rw [← hp] at hen hf
 repeat' (simp (maxSteps := 4000000) (disch := omega) only [go_sem, ↓reduceIte, Tryz.f78, bO])
 refine F9 hen (fun _ => by simp [closed, A0]) (fun s1 B1 hB1 hR1 => A3 1000 ?_)
 change BExt B0 B1 at hB1
 by_cases hlt : p.length < 32
 ·have cA : decide ((p.length : Int) < 32) = true := decide_eq_true (by omega)
  rw [if_pos hlt] at hrf hri
  rw [hri, hrf]
  repeat' (simp (maxSteps := 4000000) (disch := omega) only [go_sem, ↓reduceIte, cA])
  exact ⟨hB1, (s, [], l), 2, rfl, by simp [closed, A0], by simp only [List.append_nil]; rfl, by simp only [List.append_nil]; rfl, by decide, ⟨h.ext hB1, rfl, fun q hq => by simp at hq⟩, by simp only [List.append_nil]; exact hl, E4 0 _⟩
 ·have cA : decide ((p.length : Int) < 32) = false := decide_eq_false (by omega)
  rw [if_neg hlt] at hrf hri
  rw [hri, hrf]
  repeat' (simp (maxSteps := 4000000) (disch := omega) only [go_sem, ↓reduceIte, cA])
  refine F9 (Bq9 p _ _ s1.1 s1.2 hR1.1 rfl (by omega)) (fun _ => A2 _ _ _ _) (fun s2 B2 hB2 hR2 => A3 1000 ?_)
  change BExt B1 B2 at hB2
  have hsp : I3 (D4 .u8 (fun _ => 0) 32) 0 (D4 .u8 (K0 p) 32) = D4 .u8 (K0 p) 32 := by rw [← O6]; exact J6 (K6 _) (by omega) _
  obtain ⟨N, hN⟩ : ∃ N : Nv, N = ⟨Ao9 p, ⟨p, s1.1, s1.2⟩⟩ := ⟨_, rfl⟩
  have hNh : N.h.length = 32 := by rw [hN]; exact K6 p
  have hNb : N.b.Ok B2 := by rw [hN]; exact ⟨hR1.1.ext hB2, hR1.2, hf⟩
  have hNd : [N].map Nv.nd = [(Ao9 p, p)] := by rw [hN]; rfl
  have hNE : N.E = D4 .u8 (K0 p) 32 ++ [.raw (.slice s1.1 p.length s1.2)] := by rw [hN, ← O6]; rfl
  have hs33 : I3 [EV.int IntKind.u8 0, EV.int IntKind.u8 0, EV.int IntKind.u8 0, EV.int IntKind.u8 0, EV.int IntKind.u8 0, EV.int IntKind.u8 0, EV.int IntKind.u8 0, EV.int IntKind.u8 0, EV.int IntKind.u8 0, EV.int IntKind.u8 0, EV.int IntKind.u8 0, EV.int IntKind.u8 0, EV.int IntKind.u8 0, EV.int IntKind.u8 0, EV.int IntKind.u8 0, EV.int IntKind.u8 0, EV.int IntKind.u8 0, EV.int IntKind.u8 0, EV.int IntKind.u8 0, EV.int IntKind.u8 0, EV.int IntKind.u8 0, EV.int IntKind.u8 0, EV.int IntKind.u8 0, EV.int IntKind.u8 0, EV.int IntKind.u8 0, EV.int IntKind.u8 0, EV.int IntKind.u8 0, EV.int IntKind.u8 0, EV.int IntKind.u8 0, EV.int IntKind.u8 0, EV.int IntKind.u8 0, EV.int IntKind.u8 0, EV.raw (Value.slice none 0 0)] 0 (D4 .u8 (K0 p) 32) = D4 .u8 (K0 p) 32 ++ [.raw (.slice none 0 0)] := by rfl
  have hl33 : ∀ v, (D4 .u8 (K0 p) 32 ++ [v]).length = 33 := fun v => by simp [D4]
  have ht33 : (D4 .u8 (K0 p) 32 ++ [EV.raw (.slice none 0 0)]).set 32 (.raw (.slice s1.1 p.length s1.2)) = (D4 .u8 (K0 p) 32 ++ [EV.raw (.slice s1.1 p.length s1.2)]) := by rfl
  have hNl : (D4 .u8 (K0 p) 32 ++ [EV.raw (.slice s1.1 p.length s1.2)]).length = 33 := hl33 _
  have hNl2 : N.E.length = 33 := by rw [hNE]; exact hNl
  have hNc : ∀ n, A0 n (D4 .u8 (K0 p) 32 ++ [EV.raw (.slice s1.1 p.length s1.2)]) := fun n => by rw [← hNE]; exact X6 n N
  have hNo : F7 (D4 .u8 (K0 p) 32 ++ [EV.raw (.slice s1.1 p.length s1.2)]) = true := by rw [← hNE]; exact Ac3 N
  have hcl : ∀ n, A0 n (D4 .u8 (K0 p) 32) := fun n => A2 _ _ _ _
  have hsN : I3 [EV.int IntKind.u8 0, EV.int IntKind.u8 0, EV.int IntKind.u8 0, EV.int IntKind.u8 0, EV.int IntKind.u8 0, EV.int IntKind.u8 0, EV.int IntKind.u8 0, EV.int IntKind.u8 0, EV.int IntKind.u8 0, EV.int IntKind.u8 0, EV.int IntKind.u8 0, EV.int IntKind.u8 0, EV.int IntKind.u8 0, EV.int IntKind.u8 0, EV.int IntKind.u8 0, EV.int IntKind.u8 0, EV.int IntKind.u8 0, EV.int IntKind.u8 0, EV.int IntKind.u8 0, EV.int IntKind.u8 0, EV.int IntKind.u8 0, EV.int IntKind.u8 0, EV.int IntKind.u8 0, EV.int IntKind.u8 0, EV.int IntKind.u8 0, EV.int IntKind.u8 0, EV.int IntKind.u8 0, EV.int IntKind.u8 0, EV.int IntKind.u8 0, EV.int IntKind.u8 0, EV.int IntKind.u8 0, EV.int IntKind.u8 0, EV.raw (Value.slice none 0 0)] 0 (D4 .u8 (K0 p) 32 ++ [EV.raw (.slice s1.1 p.length s1.2)]) = (D4 .u8 (K0 p) 32 ++ [EV.raw (.slice s1.1 p.length s1.2)]) := by rfl
  have havN : avs 100027 (D4 .u8 (K0 p) 32 ++ [EV.raw (.slice s1.1 p.length s1.2)]) := L4 _ (hNc 0)
  have hln : (ns ++ [N]).length = ns.length + 1 := by simp
  have hfl : (ns ++ [N]).flatMap Nv.E = ns.flatMap Nv.E ++ (D4 .u8 (K0 p) 32 ++ [EV.raw (.slice s1.1 p.length s1.2)]) := by rw [← hNE]; simp
  have hxl : (ns.flatMap Nv.E).length = ns.length * zN.length := by rw [Z8 hns]; rfl
  rcases l with _ | ⟨cp0, rest0⟩
  ·repeat' (first | with_reducible refine And.intro (by first | omega | ((repeat' refine And.intro ?_ ?_) <;> first | omega | assumption | (refine SlOk.so (n := ?_) ?_ ?_; rotate_left; assumption; omega) | (simp; done) | fail)) ?_ | simp (maxSteps := 4000000) (disch := omega) only [go_sem, ↓reduceIte, hsp, hs33, hl33, ht33, hNl, hsN] | with_reducible refine C9 (id := 5) [0, 1, 2, 3, 4, 5, 6, 7, 8, 9, 10, 11, 12] mixed (by kernel_rfl) (by simp) (fun hin => C8 1000 hin ?_))
   refine Av1 (d := 28) (r := 2) (len := ns.length) (l := none) (xs := ns.flatMap Nv.E) (m := 1) (b' := .sl 100027 0 1 1) (news := (D4 .u8 (K0 p) 32 ++ [EV.raw (.slice s1.1 p.length s1.2)])) (zs := zN) (c := True) (T := 114) [100027] rfl rfl Tryz.underlying75 (.inl ⟨_, Tryz.underlying75⟩) Ba8 Be1 (by simp [zN]) D9 rfl rfl rfl hl hxl (E4 0 _) (fun B hs hB hfb => ⟨_, F3 (m := 1) (by rw [hfb 100027 (by simp)]; rfl) (by rw [List.drop_zero, List.take_of_length_le (by rw [hNl]; decide)]), by rw [hNl]; decide⟩) hNo (hNc 0) (by simp only [maxLen]; omega) (by rw [show Tryz.prog.bytesOf 114 = 56 from Be9]; omega) (by show olds.length ≤ _; omega) (by kernel_rfl) (F1 (by kernel_rfl) (C1 (by kernel_rfl))) (fun l3 hl3 => C8 1000 (by assumption) ?_)
   have hl3' := hl3
   obtain ⟨cp, rest, rfl, -⟩ := D8 hl3 (by omega)
   simp only [A6]
   repeat' (first | with_reducible refine And.intro (by first | omega | (simp; done)) ?_ | simp (maxSteps := 4000000) (disch := omega) only [go_sem, ↓reduceIte] | with_reducible refine D7 (by kernel_rfl) (C1 (by kernel_rfl)) (A3 1000 ?_))
   refine Y5 (vf := fun s : Plc => .agg (itE (txt (Ao9 p)) s)) 5 0 32 32 [] (Ao9 p) Ds6 (by simp [A0]) rfl rfl (by rw [O6]; rfl) (fun s => by simp [closed, A0]) (fun B ad cap hB hb => N1 (Ao9 p) 32 B ad cap hb (K6 p) (by omega)) (fun s3 B3 hB3 hR3 => A3 1000 ?_)
   change BExt B2 B3 at hB3
   repeat' (simp (maxSteps := 4000000) (disch := omega) only [go_sem, ↓reduceIte])
   have hBX := hB1.trans (hB2.trans hB3)
   exact ⟨hBX, (s3, [N], some (cp, rest)), 100028, rfl, by simp [closed, A0], by simp only [hln]; rfl, by simp only [hfl]; rfl, by decide, ⟨hR3, hNd, fun q hq => by
    obtain rfl := List.mem_singleton.1 hq
    exact ⟨hNh, hNb.ext hB3⟩⟩, by simp only [hln]; exact hl3', E4 0 _⟩
  ·repeat' (first | with_reducible refine And.intro (by first | omega | ((repeat' refine And.intro ?_ ?_) <;> first | omega | assumption | (refine SlOk.so (n := ?_) ?_ ?_; rotate_left; assumption; omega) | (simp; done) | fail)) ?_ | simp (maxSteps := 4000000) (disch := omega) only [go_sem, ↓reduceIte, hsp, hs33, hl33, ht33, hNl, hsN] | with_reducible refine C9 (id := 5) [0, 1, 2, 3, 4, 5, 6, 7, 8, 9, 10, 11, 12] mixed (by kernel_rfl) (by simp) (fun hin => C8 1000 hin ?_))
   refine Av1 (d := 28) (r := 2) (len := ns.length) (l := some (cp0, rest0)) (xs := ns.flatMap Nv.E) (m := 1) (b' := .sl 100027 0 1 1) (news := (D4 .u8 (K0 p) 32 ++ [EV.raw (.slice s1.1 p.length s1.2)])) (zs := zN) (c := True) (T := 114) [100027] rfl rfl Tryz.underlying75 (.inl ⟨_, Tryz.underlying75⟩) Ba8 Be1 (by simp [zN]) D9 rfl rfl rfl hl hxl (E4 0 _) (fun B hs hB hfb => ⟨_, F3 (m := 1) (by rw [hfb 100027 (by simp)]; rfl) (by rw [List.drop_zero, List.take_of_length_le (by rw [hNl]; decide)]), by rw [hNl]; decide⟩) hNo (hNc 0) (by simp only [maxLen]; omega) (by rw [show Tryz.prog.bytesOf 114 = 56 from Be9]; omega) (by show olds.length ≤ _; omega) (by kernel_rfl) (F1 (by kernel_rfl) (C1 (by kernel_rfl))) (fun l3 hl3 => C8 1000 (by assumption) ?_)
   have hl3' := hl3
   obtain ⟨cp, rest, rfl, -⟩ := D8 hl3 (by omega)
   simp only [A6]
   repeat' (first | with_reducible refine And.intro (by first | omega | (simp; done)) ?_ | simp (maxSteps := 4000000) (disch := omega) only [go_sem, ↓reduceIte] | with_reducible refine D7 (by kernel_rfl) (C1 (by kernel_rfl)) (A3 1000 ?_))
   refine Y5 (vf := fun s : Plc => .agg (itE (txt (Ao9 p)) s)) 5 0 32 32 [] (Ao9 p) Ds6 (by simp [A0]) rfl rfl (by rw [O6]; rfl) (fun s => by simp [closed, A0]) (fun B ad cap hB hb => N1 (Ao9 p) 32 B ad cap hb (K6 p) (by omega)) (fun s3 B3 hB3 hR3 => A3 1000 ?_)
   change BExt B2 B3 at hB3
   repeat' (simp (maxSteps := 4000000) (disch := omega) only [go_sem, ↓reduceIte])
   have hBX := hB1.trans (hB2.trans hB3)
   exact ⟨hBX, (s3, [N], some (cp, rest)), 100028, rfl, by simp [closed, A0], by simp only [hln]; rfl, by simp only [hfl]; rfl, by decide, ⟨hR3, hNd, fun q hq => by
    obtain rfl := List.mem_singleton.1 hq
    exact ⟨hNh, hNb.ext hB3⟩⟩, by simp only [hln]; exact hl3', E4 0 _⟩
end Go.Proofs.YtepabkjfnpaijaaGreat
namespace Go.Proofs.YtepabkjfnpaijaaGreat
open Go RowKit Go.Ew
set_option maxHeartbeats 32000000
mutual
def Bc4 : Nd → List KV
 | .nil => []
 | .leaf _ _ => []
 | .ext _ k => Bc4 k ++ Ce2 (E3 k)
 | .br ks _ => Bp5 ks
def Bp5 : List Nd → List KV
 | [] => []
 | k :: ks => (Bc4 k ++ Ce2 (E3 k)) ++ Bp5 ks
end
theorem Bv8 : ∀ a b : List Nd, Bp5 (a ++ b) = Bp5 a ++ Bp5 b
 | [], b => by simp [Bp5]
 | k :: a, b => by simp only [List.cons_append, Bp5, Bv8 a b, List.append_assoc]
mutual
def Aw9 : Nd → Nat
 | .nil => 0
 | .leaf _ _ => 1
 | .ext _ k => 1 + Aw9 k
 | .br ks _ => 1 + Az7 ks
def Az7 : List Nd → Nat
 | [] => 0
 | k :: ks => Aw9 k + Az7 ks
end
theorem Bc1 (t : Itm) : (Ce2 t).length ≤ 1 := by unfold Ce2; split <;> simp
theorem Bu6 : Ce2 (E3 .nil) = [] := by
 have : (H5 (E3 .nil)).length < 32 := by decide
 rw [Ce2, if_pos this]
mutual
theorem As4 : ∀ t : Nd, (Bc4 t ++ Ce2 (E3 t)).length ≤ Aw9 t
 | .nil => by rw [Bu6]; simp [Bc4, Aw9]
 | .leaf r v => by
  have := Bc1 (E3 (.leaf r v))
  rw [Bc4, Aw9, List.nil_append]; exact this
 | .ext r k => by
  have h1 := Bc1 (E3 (.ext r k))
  have h2 := As4 k
  rw [Bc4, Aw9, List.length_append]; omega
 | .br ks v => by
  have h1 := Bc1 (E3 (.br ks v))
  have h2 := Bc5 ks
  rw [Bc4, Aw9, List.length_append]; omega
theorem Bc5 : ∀ ks : List Nd, (Bp5 ks).length ≤ Az7 ks
 | [] => by simp [Bp5, Az7]
 | k :: ks => by
  have h1 := As4 k
  have h2 := Bc5 ks
  rw [Bp5, Az7, List.length_append]; omega
end
theorem Ap9 : ∀ a b : List Nd, Az7 (a ++ b) = Az7 a + Az7 b
 | [], b => by simp [Az7]
 | k :: a, b => by rw [List.cons_append, Az7, Az7, Ap9 a b, Nat.add_assoc]
/-- How large a node's own parts are. -/
def smN : Nd → Prop
 | .nil => True
 | .leaf r v => r.length ≤ 1073741824 ∧ v.length ≤ 1073741824
 | .ext r _ => r.length ≤ 1073741824
 | .br ks v => ks.length = 16 ∧ v.length ≤ 1073741824
theorem Br0 {nd : Nd} (h : smN nd) : (H5 (E3 nd)).length ≤ 4294967296 := by
 cases nd with
 | nil => show (H5 (txt [])).length ≤ _; decide
 | leaf r v =>
  obtain ⟨h1, h2⟩ := h
  have e1 := Ay3 r true
  have e2 := K4 (p := pfx r true) (by omega)
  have e3 := K4 (p := v) (by omega)
  have e4 : (E7 [txt (pfx r true), txt v]).length = (H5 (txt (pfx r true))).length + (H5 (txt v)).length := by simp [E7]
  have := P5 (ks := [txt (pfx r true), txt v]) (by omega)
  rw [E3]; omega
 | ext r k =>
  have h1 : r.length ≤ 1073741824 := h
  have e1 := Ay3 r false
  have e2 := K4 (p := pfx r false) (by omega)
  have e3 := At1 (E3 k)
  have e4 : (E7 [txt (pfx r false), M8 (E3 k)]).length = (H5 (txt (pfx r false))).length + (H5 (M8 (E3 k))).length := by simp [E7]
  have := P5 (ks := [txt (pfx r false), M8 (E3 k)]) (by omega)
  rw [E3]; omega
 | br ks v =>
  obtain ⟨h1, h2⟩ := h
  have e2 := Az2 ks
  have e3 := K4 (p := v) (by omega)
  have e4 : (E7 (Af4 ks ++ [txt v])).length = (E7 (Af4 ks)).length + (H5 (txt v)).length := by rw [W3, List.length_append]; simp [E7]
  rw [h1] at e2
  have := P5 (ks := Af4 ks ++ [txt v]) (by omega)
  rw [E3]; omega
/-- Keys and values side by side. -/
def Am9 (ks vs : List Bs) : List KV := List.zipWith (fun k v => (k.l, v.l)) ks vs
theorem Bt6 {ks vs : List Bs} (h : ks.length = vs.length) : (Am9 ks vs).length = ks.length := by simp [Am9, h]
theorem Ct1 {ks vs : List Bs} (h : ks.length = vs.length) : (Am9 ks vs).map Prod.fst = ks.map Bs.l := by
 induction ks generalizing vs with
 | nil => rfl
 | cons k ks ih =>
  cases vs with
  | nil => simp at h
  | cons v vs => simp only [Am9, List.zipWith_cons_cons, List.map_cons]; rw [← ih (by simpa using h)]; rfl
theorem Ct0 {ks vs : List Bs} (h : ks.length = vs.length) : (Am9 ks vs).map Prod.snd = vs.map Bs.l := by
 induction ks generalizing vs with
 | nil => cases vs with
  | nil => rfl
  | cons v vs => simp at h
 | cons k ks ih =>
  cases vs with
  | nil => simp at h
  | cons v vs => simp only [Am9, List.zipWith_cons_cons, List.map_cons]; rw [← ih (by simpa using h)]; rfl
theorem Ba9 {ks vs : List Bs} {j : Nat} (h1 : j < ks.length) (h2 : j < vs.length) : (Am9 ks vs)[j]? = some ((ks[j]).l, (vs[j]).l) := by
 simp [Am9, List.getElem?_zipWith, h1, h2]
theorem Bx8 (f : Nat) (m : List KV) (i : Nat) (h : ∀ p ∈ m, p.1.length ≤ 1073741824 ∧ p.2.length ≤ 1073741824) : smN (Ae7 f m i) := by
 cases f with
 | zero => trivial
 | succ f =>
  have hh : (hdK (m.map Prod.fst)).length ≤ 1073741824 := by
   cases m with
   | nil => simp [hdK]
   | cons p m => exact (h p (by simp)).1
  rw [Ae7]
  split
  ·refine ⟨by rw [List.length_drop]; omega, ?_⟩
   cases m with
   | nil => simp
   | cons p m => exact (h p (by simp)).2
  ·split
   ·show (List.take _ _).length ≤ _
    rw [List.length_take, List.length_drop]; omega
   ·refine ⟨by simp, ?_⟩
    rcases Aq8 m i [] with ⟨q, hq, _, h3⟩ | ⟨_, h3⟩
    ·rw [Bz9, h3]; exact (h q hq).2
    ·rw [Bz9, h3]; simp
theorem Dp1 {m : List KV} {i d : Nat} (h : ∀ p ∈ m, p.1.length ≤ 1073741824 ∧ p.2.length ≤ 1073741824) : ∀ p ∈ T0 m i d, p.1.length ≤ 1073741824 ∧ p.2.length ≤ 1073741824 := fun p hp => h p (mem_subM.1 hp).1
theorem Da4 {g : Nat → Nd} {c : Nat → Nat} {n : Nat} (h : ∀ d, d < n → Aw9 (g d) ≤ c d) : Az7 ((List.range n).map g) ≤ ((List.range n).map c).sum := by
 induction n with
 | zero => simp [Az7]
 | succ n ih =>
  rw [List.range_succ, List.map_append, List.map_append, Ap9, List.sum_append]
  have := ih fun d hd => h d (by omega)
  have := h n (by omega)
  simp [Az7]; omega
theorem Dh4 (m : List KV) (i : Nat) : ∀ n, ((List.range n).map fun d => (T0 m i d).length).sum ≤ m.length := by
 intro n
 have key : ∀ m : List KV, ((List.range n).map fun d => (T0 m i d).length).sum ≤ m.length := by
  intro m
  induction m with
  | nil =>
   have : ∀ l : List Nat, (l.map fun d => (T0 [] i d).length).sum = 0 := fun l => by
    induction l with
    | nil => rfl
    | cons d l ih => rw [List.map_cons, List.sum_cons, ih]; rfl
   rw [this]; omega
  | cons p m ih =>
   have e : ∀ d, (T0 (p :: m) i d).length = (if p.1.length ≠ i ∧ (p.1.getD i 0).toNat = d then 1 else 0) + (T0 m i d).length := fun d => by
    rw [T0, List.filter_cons]
    split
    ·rename_i h
     rw [if_pos (by simpa using h), List.length_cons, ← T0]; omega
    ·rename_i h
     rw [if_neg (by simpa using h), ← T0]; omega
   have e2 : ((List.range n).map fun d => (T0 (p :: m) i d).length).sum = ((List.range n).map fun d => if p.1.length ≠ i ∧ (p.1.getD i 0).toNat = d then 1 else 0).sum + ((List.range n).map fun d => (T0 m i d).length).sum := by
    have : ∀ l : List Nat, (l.map fun d => (T0 (p :: m) i d).length).sum = (l.map fun d => if p.1.length ≠ i ∧ (p.1.getD i 0).toNat = d then 1 else 0).sum + (l.map fun d => (T0 m i d).length).sum := fun l => by
     induction l with
     | nil => rfl
     | cons d l ih => rw [List.map_cons, List.map_cons, List.map_cons, List.sum_cons, List.sum_cons, List.sum_cons, ih, e]; omega
    exact this _
   have e3 : ∀ n, ((List.range n).map fun d => if p.1.length ≠ i ∧ (p.1.getD i 0).toNat = d then 1 else 0).sum ≤ 1 ∧ ((p.1.getD i 0).toNat ≥ n → ((List.range n).map fun d => if p.1.length ≠ i ∧ (p.1.getD i 0).toNat = d then 1 else 0).sum = 0) := fun n => by
    induction n with
    | zero => simp
    | succ n ih =>
     rw [List.range_succ, List.map_append, List.sum_append]
     simp only [List.map_cons, List.map_nil, List.sum_cons, List.sum_nil, Nat.add_zero]
     by_cases h : (p.1.getD i 0).toNat = n
     ·have := ih.2 (by omega)
      refine ⟨?_, fun h2 => by omega⟩
      split <;> omega
     ·rw [if_neg (fun hh => h hh.2)]
      exact ⟨by omega, fun h2 => by have := ih.2 (by omega); omega⟩
   rw [e2, List.length_cons]
   have := (e3 n).1
   omega
 exact key m
theorem Bs4 : ∀ (f : Nat) (m : List KV) (i : Nat), m ≠ [] → Aw9 (Ae7 f m i) ≤ m.length * f
 | 0, m, i, _ => by simp [Ae7, Aw9]
 | f + 1, m, i, h0 => by
  have h00 : 0 < m.length := List.length_pos_iff.2 h0
  rw [Ae7]
  split
  ·rename_i h; rw [Aw9, h]; omega
  ·rename_i h1
   split
   ·rename_i hn
    have := Bs4 f m (i + cmn (m.map Prod.fst) i) h0
    rw [Aw9, Nat.mul_succ]; omega
   ·rw [Aw9]
    have h2 := Da4 (g := fun d => if T0 m i d = [] then Nd.nil else Ae7 f (T0 m i d) (i + 1)) (c := fun d => (T0 m i d).length * f) (n := 16) (fun d _ => by
     show Aw9 (if T0 m i d = [] then Nd.nil else Ae7 f (T0 m i d) (i + 1)) ≤ (T0 m i d).length * f
     split
     ·simp [Aw9]
     ·rename_i hd; exact Bs4 f _ _ hd)
    have h3 := Dh4 m i 16
    have h4 : ((List.range 16).map fun d => (T0 m i d).length * f).sum = ((List.range 16).map fun d => (T0 m i d).length).sum * f := by
     have : ∀ l : List Nat, (l.map fun d => (T0 m i d).length * f).sum = (l.map fun d => (T0 m i d).length).sum * f := fun l => by
      induction l with
      | nil => simp
      | cons d l ih => rw [List.map_cons, List.map_cons, List.sum_cons, List.sum_cons, ih, Nat.add_mul]
     exact this _
    have h5 := Nat.mul_le_mul_right f h3
    rw [Nat.mul_succ]; omega
end Go.Proofs.YtepabkjfnpaijaaGreat
namespace Go.Proofs.YtepabkjfnpaijaaGreat
open Go RowKit Go.Ew
set_option maxHeartbeats 8000000
def bsE (q : Bs) : EV := .raw q.v
def zS : List EV := [.raw (.slice none 0 0)]
theorem H3 : A0 0 zS := by simp [zS, A0, closed]
theorem G3 (n : Nat) (qs : List Bs) : A0 n (qs.map bsE) := by
 induction qs with
 | nil => trivial
 | cons q qs ih => exact ⟨trivial, ih⟩
theorem Dl6 (qs : List Bs) : F7 (qs.map bsE) = true := by
 induction qs with
 | nil => rfl
 | cons q qs ih => rw [List.map_cons, F7, ih]; rfl
theorem Cx1 (bs : Nat → Nat) (qs : List Bs) : C5 bs (qs.map bsE) = qs.map Bs.v := by
 simp [C4, bsE, real, Function.comp_def]
theorem Dn6 {C : Cx} {Q : Exit → X → Prop} {o : Oper} {st : List It} {x : X} {a b : Operand} (hC : C.P = Tryz.prog) (r n : Nat) {l : Lst} {xs : List Bs} (ys : List Bs) (m : Nat)
  (hop : o.op = .call { callee := .builtin .append, args := #[a, b], argTypes := #[48, 48] })
  (hn : xs.length = n) (hm : ys.length = m) (ha : ev x.σ a = lE r n l) (hg : hget x.hs r = lO 39 (xs.map bsE) l) (hl : lOk zS n l)
  (hsrc : ∃ c, Q1 x.B x.hs 1 (ev x.σ b) = some (m, ys.map bsE, c) ∧ c) (hmax : n + m ≤ 4398046511104)
  (hk : ∀ l', lOk zS (n + m) l' → Go.Ew.Next C Q st { σ := put x.σ o.dst (lE x.n (n + m) l'), n := x.n + 1, hs := (x.n, lO 39 ((xs ++ ys).map bsE) l') :: (r, none) :: x.hs, B := x.B, ms := x.ms }) : opS C Q o st x := by
 obtain ⟨c, h1, h2⟩ := hsrc
 subst hm
 refine Aa8 (zs := zS) (xs := xs.map bsE) (news := ys.map bsE) (m := ys.length) r n hop (by rw [hC]; exact Tryz.underlying48) (.inl ⟨_, by rw [hC]; exact Tryz.underlying48⟩) (by rw [hC]; exact Eb1) (by rw [hC]; exact Dz5) (by simp [zS]) H3 ha rfl hg hl (by simp [hn, zS]) (G3 0 _) h1 h2 (Dl6 _) (by simp only [maxLen]; omega) (by rw [hC, show Tryz.prog.bytesOf 39 = 24 from Ed5]; omega) (fun l' hl' => ?_)
 have := hk l' hl'
 rwa [List.map_append] at this
theorem Am2 {C : Cx} {Q : Exit → X → Prop} {st : List It} {x : X} (r n : Nat) {l : Lst} {xs : List Bs} {T : TypeId} (hg : hget x.hs r = lO T (xs.map bsE) l) (hn : xs.length = n) (hl : lOk zS n l) (hms : r ∉ x.ms)
  (hk : ∀ b ad cap B', BExt x.B B' → frz r b (lE r n l) = .raw (.slice ad n cap) → CellsAt B' ad (xs.map Bs.v) → n ≤ cap → Go.Ew.Next C Q st ⟨frzσ r b x.σ, x.n, Aw5 r b x.hs, B', x.ms⟩) : Go.Ew.Next C Q st x := by
 subst hn
 refine R5 r xs.length hg hl (by simp [zS]) (G3 0 _) H3 hms (fun b ad cap B' hE hf hD hso hc => ?_)
 refine hk b ad cap B' hE hf (J1 hD hso (fun h0 => by rw [List.length_eq_zero_iff.1 h0]; rfl) hc (Cx1 _ _)) ?_
 cases l with
 | none => simp only [lE, frz] at hf; have := hl; simp only [lOk] at this; injection hf with hf; injection hf with _ h1 h2; omega
 | some q => obtain ⟨c, z⟩ := q; simp only [lE, frz, ↓reduceIte] at hf; have := hl.1; injection hf with hf; injection hf with _ h1 h2; omega
theorem Ed6 {C : Cx} {Q : Exit → X → Prop} {o : Oper} {st : List It} {x : X} {a b : Operand} (hC : C.P = Tryz.prog) (r n : Nat) {l : Lst} {xs : List (Itm × Plc)} (ys : List (Itm × Plc)) (m : Nat)
  (hop : o.op = .call { callee := .builtin .append, args := #[a, b], argTypes := #[53, 53] })
  (hn : xs.length = n) (hm : ys.length = m) (ha : ev x.σ a = lE r n l) (hg : hget x.hs r = lO 55 (xs.flatMap itQ) l) (hl : lOk z3 n l)
  (hsrc : ∃ c, Q1 x.B x.hs 3 (ev x.σ b) = some (m, ys.flatMap itQ, c) ∧ c) (hmax : n + m ≤ 2199023255552)
  (hk : ∀ l', lOk z3 (n + m) l' → Go.Ew.Next C Q st { σ := put x.σ o.dst (lE x.n (n + m) l'), n := x.n + 1, hs := (x.n, lO 55 ((xs ++ ys).flatMap itQ) l') :: (r, none) :: x.hs, B := x.B, ms := x.ms }) : opS C Q o st x := by
 obtain ⟨c, h1, h2⟩ := hsrc
 subst hm
 refine Aa8 (zs := z3) (xs := xs.flatMap itQ) (news := ys.flatMap itQ) (m := ys.length) r n hop (by rw [hC]; exact Tryz.underlying53) (.inl ⟨_, by rw [hC]; exact Tryz.underlying53⟩) (by rw [hC]; exact Av7) (by rw [hC]; exact Aw7) (by simp [z3]) C0 ha rfl hg hl (by rw [G6, hn]; rfl) (A7 0 _) h1 h2 (Bw2 _) (by simp only [maxLen]; omega) (by rw [hC, show Tryz.prog.bytesOf 55 = 56 from Ax2]; omega) (fun l' hl' => ?_)
 have := hk l' hl'
 rwa [List.flatMap_append] at this
theorem Dk2 {C : Cx} {Q : Exit → X → Prop} {st : List It} {x : X} (r n : Nat) {l : Lst} {xs : List (Itm × Plc)} {T : TypeId} (hg : hget x.hs r = lO T (xs.flatMap itQ) l) (hn : xs.length = n) (hl : lOk z3 n l) (hms : r ∉ x.ms)
  (hk : ∀ b ad cap B', BExt x.B B' → frz r b (lE r n l) = .raw (.slice ad n cap) → CellsAt B' ad (xs.flatMap itC) → n ≤ cap → Go.Ew.Next C Q st ⟨frzσ r b x.σ, x.n, Aw5 r b x.hs, B', x.ms⟩) : Go.Ew.Next C Q st x := by
 subst hn
 refine R5 r xs.length hg hl (by rw [G6]; rfl) (A7 0 _) C0 hms (fun b ad cap B' hE hf hD hso hc => ?_)
 refine hk b ad cap B' hE hf (J1 hD hso (fun h0 => by rw [List.length_eq_zero_iff.1 h0]; rfl) hc (S6 _ _)) ?_
 cases l with
 | none => simp only [lE, frz] at hf; have := hl; simp only [lOk] at this; injection hf with hf; injection hf with _ h1 h2; omega
 | some q => obtain ⟨c, z⟩ := q; simp only [lE, frz, ↓reduceIte] at hf; have := hl.1; injection hf with hf; injection hf with _ h1 h2; omega
def prd (i d : Nat) (p : Bs × Bs) : Bool := decide (p.1.l.length ≠ i) && ((p.1.l.getD i 0).toNat == d)
def Cg3 (ks vs : List Bs) (i d j : Nat) : List (Bs × Bs) := ((ks.zip vs).take j).filter (prd i d)
theorem Cg2 {ks vs : List Bs} {i d j : Nat} (h1 : j < ks.length) (h2 : j < vs.length) : Cg3 ks vs i d (j + 1) = Cg3 ks vs i d j ++ (if prd i d (ks[j], vs[j]) then [(ks[j], vs[j])] else []) := by
 rw [Cg3, List.take_succ_eq_append_getElem (by simp; omega), List.filter_append, ← Cg3]
 congr 1
 rw [List.getElem_zip]
 simp [List.filter_cons]
theorem Bu3 {ks vs : List Bs} {i d j : Nat} {p : Bs × Bs} (h : p ∈ Cg3 ks vs i d j) : p.1 ∈ ks ∧ p.2 ∈ vs := by
 have h1 := List.mem_of_mem_take (List.mem_filter.1 h).1
 obtain ⟨a, b⟩ := p
 exact List.of_mem_zip h1
theorem Cv8 (ks vs : List Bs) (i d j : Nat) : (Cg3 ks vs i d j).length ≤ ks.length := by
 have h1 := List.length_filter_le (prd i d) ((ks.zip vs).take j)
 have h2 : ((ks.zip vs).take j).length ≤ ks.length := by rw [List.length_take, List.length_zip]; omega
 exact Nat.le_trans h1 h2
def Aw1 (ks vs : List Bs) (i d j : Nat) : List Bs := (Cg3 ks vs i d j).map Prod.fst
def Ce1 (ks vs : List Bs) (i d j : Nat) : List Bs := (Cg3 ks vs i d j).map Prod.snd
theorem Bh1 (ks vs : List Bs) (i d : Nat) : Aw1 ks vs i d 0 = [] := rfl
theorem Bh0 (ks vs : List Bs) (i d : Nat) : Ce1 ks vs i d 0 = [] := rfl
theorem Cv7 (ks vs : List Bs) (i d j : Nat) : (Ce1 ks vs i d j).length = (Aw1 ks vs i d j).length := by simp [Aw1, Ce1]
theorem Cw0 (ks vs : List Bs) (i d j : Nat) : (Aw1 ks vs i d j).length ≤ ks.length := by rw [Aw1, List.length_map]; exact Cv8 ks vs i d j
theorem Cv5 {ks vs : List Bs} {i d j : Nat} {k v : Bs} (h1 : j < ks.length) (h2 : j < vs.length) (hk : k = ks[j]) (hv : v = vs[j]) :
  Aw1 ks vs i d (j + 1) = Aw1 ks vs i d j ++ (if prd i d (k, v) then [k] else []) ∧ Ce1 ks vs i d (j + 1) = Ce1 ks vs i d j ++ (if prd i d (k, v) then [v] else []) := by
 rw [Aw1, Ce1, Cg2 h1 h2, ← hk, ← hv, List.map_append, List.map_append, ← Aw1, ← Ce1]
 split <;> exact ⟨rfl, rfl⟩
theorem Cv9 {ks vs : List Bs} {i d j : Nat} {k : Bs} (h : k ∈ Aw1 ks vs i d j) : k ∈ ks := by
 obtain ⟨p, hp, rfl⟩ := List.mem_map.1 h
 exact (Bu3 hp).1
theorem Cv6 {ks vs : List Bs} {i d j : Nat} {k : Bs} (h : k ∈ Ce1 ks vs i d j) : k ∈ vs := by
 obtain ⟨p, hp, rfl⟩ := List.mem_map.1 h
 exact (Bu3 hp).2
theorem Cs9 (ks vs : List Bs) : Am9 ks vs = (ks.zip vs).map fun p => (p.1.l, p.2.l) := by
 simp [Am9, List.zip, List.map_zipWith]
theorem Dg2 (l : List (Bs × Bs)) : Am9 (l.map Prod.fst) (l.map Prod.snd) = l.map fun p => (p.1.l, p.2.l) := by
 induction l with
 | nil => rfl
 | cons p l ih => simp only [List.map_cons, Am9, List.zipWith_cons_cons]; rw [← ih]; rfl
theorem Dh9 {ks vs : List Bs} (h : ks.length = vs.length) (i d : Nat) : Am9 (Aw1 ks vs i d ks.length) (Ce1 ks vs i d ks.length) = T0 (Am9 ks vs) i d := by
 show Am9 ((Cg3 ks vs i d ks.length).map Prod.fst) ((Cg3 ks vs i d ks.length).map Prod.snd) = T0 (Am9 ks vs) i d
 rw [Dg2, Cs9 ks vs, Cg3, List.take_of_length_le (by rw [List.length_zip]; omega), T0, List.filter_map]
 rfl
def Dm3 (m : List KV) (i j : Nat) (w : List UInt8) : List UInt8 := (m.take j).foldl (fun a p => if p.1.length = i then p.2 else a) w
theorem Cf1 {m : List KV} {i j : Nat} {w : List UInt8} {p : KV} (h : m[j]? = some p) : Dm3 m i (j + 1) w = if p.1.length = i then p.2 else Dm3 m i j w := by
 obtain ⟨hj, he⟩ := List.getElem?_eq_some_iff.1 h
 rw [Dm3, List.take_succ_eq_append_getElem hj, List.foldl_append, he]; rfl
theorem Ct7 {m : List KV} {i : Nat} {w : List UInt8} (h : w = [] ∨ w = Bz9 m i) : Dm3 m i m.length w = Bz9 m i := by
 rw [Dm3, List.take_length]
 rcases h with rfl | rfl
 ·rfl
 ·have key : ∀ (m : List KV) (a b : List UInt8), (∃ p ∈ m, p.1.length = i) → m.foldl (fun a p => if p.1.length = i then p.2 else a) a = m.foldl (fun a p => if p.1.length = i then p.2 else a) b := by
   intro m
   induction m with
   | nil => intro a b ⟨p, hp, _⟩; simp at hp
   | cons q m ih =>
    intro a b ⟨p, hp, hpl⟩
    simp only [List.foldl_cons]
    by_cases e : q.1.length = i
    ·rw [if_pos e, if_pos e]
    ·rcases List.mem_cons.1 hp with rfl | hp
     ·exact absurd hpl e
     ·exact ih _ _ ⟨p, hp, hpl⟩
  by_cases h : ∃ p ∈ m, p.1.length = i
  ·exact key m _ _ h
  ·rcases Aq8 m i (Bz9 m i) with ⟨p, hp, h1, _⟩ | ⟨_, h2⟩
   ·exact absurd ⟨p, hp, h1⟩ h
   ·exact h2
end Go.Proofs.YtepabkjfnpaijaaGreat
