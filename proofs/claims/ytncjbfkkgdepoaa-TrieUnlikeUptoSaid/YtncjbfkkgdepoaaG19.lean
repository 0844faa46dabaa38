/- Part of a proof over the seat Ytncjbfkkgdepoaa. -/
import Derived.Test.YtncjbfkkgdepoaaG18
import Derived.Test.YtncjbfkkgdepoaaEng3
set_option linter.unusedSimpArgs false
set_option linter.unusedVariables false
set_option maxRecDepth 100000
namespace Go.Proofs.Ytncjbfkkgdepoaa
open Go RowKit Go.Ew
set_option maxHeartbeats 16000000
theorem Dy9 : D0 Try.f67.ntmps (Try.f67.body.getD .skip) = true := by kernel_rfl
theorem Ea8 : D0 Try.f40.ntmps (Try.f40.body.getD .skip) = true := by kernel_rfl
structure Nv where
 h : List UInt8
 b : Bs
def Nv.E (q : Nv) : List EV := q.h.map bE ++ [.raw q.b.v]
def Nv.C (q : Nv) : List Value := q.h.map bV ++ [q.b.v]
def Nv.nd (q : Nv) : KV := (q.h, q.b.l)
def zN : List EV := List.replicate 32 (.int .u8 0) ++ [.raw (.slice none 0 0)]
theorem C9 : A0 0 zN := by simp [zN, A0, closed, List.replicate]
theorem V7 (n : Nat) (q : Nv) : A0 n q.E := closeds_append.2 ⟨A7 n _, trivial, trivial⟩
theorem E3 (n : Nat) (ns : List Nv) : A0 n (ns.flatMap Nv.E) := by
 induction ns with
 | nil => trivial
 | cons q qs ih => exact closeds_append.2 ⟨V7 n q, ih⟩
theorem Z5 (q : Nv) : G2 q.E = true := by
 rw [Nv.E, J2, Ao1]; rfl
theorem X5 {ns : List Nv} (h : ∀ q ∈ ns, q.h.length = 32) : (ns.flatMap Nv.E).length = ns.length * 33 := by
 rw [N1 (k := 33) (fun q hq => by simp [Nv.E, h q hq])]; omega
def Bz2 (t : Itm) : List KV := if (H6 t).length < 32 then [] else [(Ae7 (H6 t), H6 t)]
theorem Z2 {B : Base} {t : Itm} {s : Plc} (h : ItAt B t s) (hok : chk t 0 = 0) (hf : (H6 t).length ≤ 1099511627776) (ns : List Nv) (n : Nat) (hn : ns.length = n) (hns : ∀ q ∈ ns, q.h.length = 32) (l : Lst) (hl : lOk zN n l) (hmax : n < 1099511627776) :
  Bld Try.prog 67 86 95 zN [.agg (itE t s)] B n l (ns.flatMap Nv.E) (fun u : Plc × List Nv × Lst => .agg (itE (J8 t) u.1)) (fun u => (ns ++ u.2.1).length) (fun u => u.2.2) (fun u => (ns ++ u.2.1).flatMap Nv.E)
   (fun u B' => ItAt B' (J8 t) u.1 ∧ u.2.1.map Nv.nd = Bz2 t ∧ ∀ q ∈ u.2.1, q.h.length = 32 ∧ q.b.Ok B') := by
 subst hn
 refine Ck1 Ed8 (fun s B B' hB hR => ⟨hR.1.ext hB, hR.2.1, fun q hq => ⟨(hR.2.2 q hq).1, (hR.2.2 q hq).2.ext hB⟩⟩) Try.func67 rfl Dy9 (by simp [Try.f67]) (by simp [A0, closed]) hl (E3 0 _) C9 (fun B0 hB0 olds hol => A2 1000 ?_)
 replace h := h.ext hB0
 have hen := Cc2 h hok (by omega)
 obtain ⟨p, hp⟩ : ∃ p, p = H6 t := ⟨_, rfl⟩
 have hrf : Bz2 t = if p.length < 32 then [] else [(Ae7 p, p)] := by rw [hp]; rfl
 have hri : J8 t = if p.length < 32 then t else txt (Ae7 p) := by rw [hp]; rfl
 rw [← hp] at hen hf
 repeat' (simp (maxSteps := 4000000) (disch := omega) only [go_sem, ↓reduceIte, Try.f67, bO])
 refine F8 hen (fun _ => by simp [closed, A0]) (fun s1 B1 hB1 hR1 => A2 1000 ?_)
 change BExt B0 B1 at hB1
 by_cases hlt : p.length < 32
 ·have cA : decide ((p.length : Int) < 32) = true := decide_eq_true (by omega)
  rw [if_pos hlt] at hrf hri
  rw [hri, hrf]
  repeat' (simp (maxSteps := 4000000) (disch := omega) only [go_sem, ↓reduceIte, cA])
  exact ⟨hB1, (s, [], l), 2, rfl, by simp [closed, A0], by simp only [List.append_nil]; rfl, by simp only [List.append_nil]; rfl, by decide, ⟨h.ext hB1, rfl, fun q hq => by simp at hq⟩, by simp only [List.append_nil]; exact hl, E3 0 _⟩
 ·have cA : decide ((p.length : Int) < 32) = false := decide_eq_false (by omega)
  rw [if_neg hlt] at hrf hri
  rw [hri, hrf]
  repeat' (simp (maxSteps := 4000000) (disch := omega) only [go_sem, ↓reduceIte, cA])
  refine F8 (Bm5 p _ _ s1.1 s1.2 hR1.1 rfl (by omega)) (fun _ => A3 _ _ _ _) (fun s2 B2 hB2 hR2 => A2 1000 ?_)
  change BExt B1 B2 at hB2
  have hsp : H5 (D5 .u8 (fun _ => 0) 32) 0 (D5 .u8 (J1 p) 32) = D5 .u8 (J1 p) 32 := by rw [← O9]; exact N8 (K5 _) (by omega) _
  obtain ⟨N, hN⟩ : ∃ N : Nv, N = ⟨Ae7 p, ⟨p, s1.1, s1.2⟩⟩ := ⟨_, rfl⟩
  have hNh : N.h.length = 32 := by rw [hN]; exact K5 p
  have hNb : N.b.Ok B2 := by rw [hN]; exact ⟨hR1.1.ext hB2, hR1.2, hf⟩
  have hNd : [N].map Nv.nd = [(Ae7 p, p)] := by rw [hN]; rfl
  have hNE : N.E = D5 .u8 (J1 p) 32 ++ [.raw (.slice s1.1 p.length s1.2)] := by rw [hN, ← O9]; rfl
  have hs33 : H5 [EV.int IntKind.u8 0, EV.int IntKind.u8 0, EV.int IntKind.u8 0, EV.int IntKind.u8 0, EV.int IntKind.u8 0, EV.int IntKind.u8 0, EV.int IntKind.u8 0, EV.int IntKind.u8 0, EV.int IntKind.u8 0, EV.int IntKind.u8 0, EV.int IntKind.u8 0, EV.int IntKind.u8 0, EV.int IntKind.u8 0, EV.int IntKind.u8 0, EV.int IntKind.u8 0, EV.int IntKind.u8 0, EV.int IntKind.u8 0, EV.int IntKind.u8 0, EV.int IntKind.u8 0, EV.int IntKind.u8 0, EV.int IntKind.u8 0, EV.int IntKind.u8 0, EV.int IntKind.u8 0, EV.int IntKind.u8 0, EV.int IntKind.u8 0, EV.int IntKind.u8 0, EV.int IntKind.u8 0, EV.int IntKind.u8 0, EV.int IntKind.u8 0, EV.int IntKind.u8 0, EV.int IntKind.u8 0, EV.int IntKind.u8 0, EV.raw (Value.slice none 0 0)] 0 (D5 .u8 (J1 p) 32) = D5 .u8 (J1 p) 32 ++ [.raw (.slice none 0 0)] := by rfl
  have hl33 : ∀ v, (D5 .u8 (J1 p) 32 ++ [v]).length = 33 := fun v => by simp [D5]
  have ht33 : (D5 .u8 (J1 p) 32 ++ [EV.raw (.slice none 0 0)]).set 32 (.raw (.slice s1.1 p.length s1.2)) = (D5 .u8 (J1 p) 32 ++ [EV.raw (.slice s1.1 p.length s1.2)]) := by rfl
  have hNl : (D5 .u8 (J1 p) 32 ++ [EV.raw (.slice s1.1 p.length s1.2)]).length = 33 := hl33 _
  have hNl2 : N.E.length = 33 := by rw [hNE]; exact hNl
  have hNc : ∀ n, A0 n (D5 .u8 (J1 p) 32 ++ [EV.raw (.slice s1.1 p.length s1.2)]) := fun n => by rw [← hNE]; exact V7 n N
  have hNo : G2 (D5 .u8 (J1 p) 32 ++ [EV.raw (.slice s1.1 p.length s1.2)]) = true := by rw [← hNE]; exact Z5 N
  have hcl : ∀ n, A0 n (D5 .u8 (J1 p) 32) := fun n => A3 _ _ _ _
  have hsN : H5 [EV.int IntKind.u8 0, EV.int IntKind.u8 0, EV.int IntKind.u8 0, EV.int IntKind.u8 0, EV.int IntKind.u8 0, EV.int IntKind.u8 0, EV.int IntKind.u8 0, EV.int IntKind.u8 0, EV.int IntKind.u8 0, EV.int IntKind.u8 0, EV.int IntKind.u8 0, EV.int IntKind.u8 0, EV.int IntKind.u8 0, EV.int IntKind.u8 0, EV.int IntKind.u8 0, EV.int IntKind.u8 0, EV.int IntKind.u8 0, EV.int IntKind.u8 0, EV.int IntKind.u8 0, EV.int IntKind.u8 0, EV.int IntKind.u8 0, EV.int IntKind.u8 0, EV.int IntKind.u8 0, EV.int IntKind.u8 0, EV.int IntKind.u8 0, EV.int IntKind.u8 0, EV.int IntKind.u8 0, EV.int IntKind.u8 0, EV.int IntKind.u8 0, EV.int IntKind.u8 0, EV.int IntKind.u8 0, EV.int IntKind.u8 0, EV.raw (Value.slice none 0 0)] 0 (D5 .u8 (J1 p) 32 ++ [EV.raw (.slice s1.1 p.length s1.2)]) = (D5 .u8 (J1 p) 32 ++ [EV.raw (.slice s1.1 p.length s1.2)]) := by rfl
  have havN : avs 100027 (D5 .u8 (J1 p) 32 ++ [EV.raw (.slice s1.1 p.length s1.2)]) := K3 _ (hNc 0)
  have hln : (ns ++ [N]).length = ns.length + 1 := by simp
  have hfl : (ns ++ [N]).flatMap Nv.E = ns.flatMap Nv.E ++ (D5 .u8 (J1 p) 32 ++ [EV.raw (.slice s1.1 p.length s1.2)]) := by rw [← hNE]; simp
  have hxl : (ns.flatMap Nv.E).length = ns.length * zN.length := by rw [X5 hns]; rfl
  rcases l with _ | ⟨cp0, rest0⟩
  ·repeat' (first | with_reducible refine And.intro (by first | omega | ((repeat' refine And.intro ?_ ?_) <;> first | omega | assumption | (refine SlOk.so (n := ?_) ?_ ?_; rotate_left; assumption; omega) | (simp; done) | fail)) ?_ | simp (maxSteps := 4000000) (disch := omega) only [go_sem, ↓reduceIte, hsp, hs33, hl33, ht33, hNl, hsN] | with_reducible refine C8 (id := 5) [0, 1, 2, 3, 4, 5, 6, 7, 8, 9, 10, 11, 12] mixed (by kernel_rfl) (by simp) (fun hin => D7 1000 hin ?_))
   refine Bb8 (d := 28) (r := 2) (len := ns.length) (l := none) (xs := ns.flatMap Nv.E) (m := 1) (b' := .sl 100027 0 1 1) (news := (D5 .u8 (J1 p) 32 ++ [EV.raw (.slice s1.1 p.length s1.2)])) (zs := zN) (c := True) (T := 95) [100027] rfl rfl Try.underlying50 (.inl ⟨_, Try.underlying50⟩) Cl9 Cs4 (by simp [zN]) C9 rfl rfl rfl hl hxl (E3 0 _) (fun B hs hB hfb => ⟨_, F3 (m := 1) (by rw [hfb 100027 (by simp)]; rfl) (by rw [List.drop_zero, List.take_of_length_le (by rw [hNl]; decide)]), by rw [hNl]; decide⟩) hNo (hNc 0) (by simp only [maxLen]; omega) (by rw [show Try.prog.bytesOf 95 = 56 from Ct8]; omega) (by show olds.length ≤ _; omega) (by kernel_rfl) (F6 (by kernel_rfl) (C4 (by kernel_rfl))) (fun l3 hl3 => D7 1000 (by assumption) ?_)
   have hl3' := hl3
   obtain ⟨cp, rest, rfl, -⟩ := D8 hl3 (by omega)
   simp only [A5]
   repeat' (first | with_reducible refine And.intro (by first | omega | (simp; done)) ?_ | simp (maxSteps := 4000000) (disch := omega) only [go_sem, ↓reduceIte] | with_reducible refine E1 (by kernel_rfl) (C4 (by kernel_rfl)) (A2 1000 ?_))
   refine W3 (vf := fun s : Plc => .agg (itE (txt (Ae7 p)) s)) 5 0 32 32 [] (Ae7 p) Dq8 (by simp [A0]) rfl rfl (by rw [O9]; rfl) (fun s => by simp [closed, A0]) (fun B ad cap hB hb => Aa9 (Ae7 p) 32 B ad cap hb (K5 p) (by omega)) (fun s3 B3 hB3 hR3 => A2 1000 ?_)
   change BExt B2 B3 at hB3
   repeat' (simp (maxSteps := 4000000) (disch := omega) only [go_sem, ↓reduceIte])
   have hBX := hB1.trans (hB2.trans hB3)
   exact ⟨hBX, (s3, [N], some (cp, rest)), 100028, rfl, by simp [closed, A0], by simp only [hln]; rfl, by simp only [hfl]; rfl, by decide, ⟨hR3, hNd, fun q hq => by
    obtain rfl := List.mem_singleton.1 hq
    exact ⟨hNh, hNb.ext hB3⟩⟩, by simp only [hln]; exact hl3', E3 0 _⟩
  ·repeat' (first | with_reducible refine And.intro (by first | omega | ((repeat' refine And.intro ?_ ?_) <;> first | omega | assumption | (refine SlOk.so (n := ?_) ?_ ?_; rotate_left; assumption; omega) | (simp; done) | fail)) ?_ | simp (maxSteps := 4000000) (disch := omega) only [go_sem, ↓reduceIte, hsp, hs33, hl33, ht33, hNl, hsN] | with_reducible refine C8 (id := 5) [0, 1, 2, 3, 4, 5, 6, 7, 8, 9, 10, 11, 12] mixed (by kernel_rfl) (by simp) (fun hin => D7 1000 hin ?_))
   refine Bb8 (d := 28) (r := 2) (len := ns.length) (l := some (cp0, rest0)) (xs := ns.flatMap Nv.E) (m := 1) (b' := .sl 100027 0 1 1) (news := (D5 .u8 (J1 p) 32 ++ [EV.raw (.slice s1.1 p.length s1.2)])) (zs := zN) (c := True) (T := 95) [100027] rfl rfl Try.underlying50 (.inl ⟨_, Try.underlying50⟩) Cl9 Cs4 (by simp [zN]) C9 rfl rfl rfl hl hxl (E3 0 _) (fun B hs hB hfb => ⟨_, F3 (m := 1) (by rw [hfb 100027 (by simp)]; rfl) (by rw [List.drop_zero, List.take_of_length_le (by rw [hNl]; decide)]), by rw [hNl]; decide⟩) hNo (hNc 0) (by simp only [maxLen]; omega) (by rw [show Try.prog.bytesOf 95 = 56 from Ct8]; omega) (by show olds.length ≤ _; omega) (by kernel_rfl) (F6 (by kernel_rfl) (C4 (by kernel_rfl))) (fun l3 hl3 => D7 1000 (by assumption) ?_)
   have hl3' := hl3
   obtain ⟨cp, rest, rfl, -⟩ := D8 hl3 (by omega)
   simp only [A5]
   repeat' (first | with_reducible refine And.intro (by first | omega | (simp; done)) ?_ | simp (maxSteps := 4000000) (disch := omega) only [go_sem, ↓reduceIte] | with_reducible refine E1 (by kernel_rfl) (C4 (by kernel_rfl)) (A2 1000 ?_))
   refine W3 (vf := fun s : Plc => .agg (itE (txt (Ae7 p)) s)) 5 0 32 32 [] (Ae7 p) Dq8 (by simp [A0]) rfl rfl (by rw [O9]; rfl) (fun s => by simp [closed, A0]) (fun B ad cap hB hb => Aa9 (Ae7 p) 32 B ad cap hb (K5 p) (by omega)) (fun s3 B3 hB3 hR3 => A2 1000 ?_)
   change BExt B2 B3 at hB3
   repeat' (simp (maxSteps := 4000000) (disch := omega) only [go_sem, ↓reduceIte])
   have hBX := hB1.trans (hB2.trans hB3)
   exact ⟨hBX, (s3, [N], some (cp, rest)), 100028, rfl, by simp [closed, A0], by simp only [hln]; rfl, by simp only [hfl]; rfl, by decide, ⟨hR3, hNd, fun q hq => by
    obtain rfl := List.mem_singleton.1 hq
    exact ⟨hNh, hNb.ext hB3⟩⟩, by simp only [hln]; exact hl3', E3 0 _⟩
end Go.Proofs.Ytncjbfkkgdepoaa
namespace Go.Proofs.Ytncjbfkkgdepoaa
open Go RowKit Go.Ew
set_option maxHeartbeats 32000000
mutual
def Az1 : Nd → List KV
 | .nil => []
 | .leaf _ _ => []
 | .ext _ k => Az1 k ++ Bz2 (D6 k)
 | .br ks _ => Bl4 ks
def Bl4 : List Nd → List KV
 | [] => []
 | k :: ks => (Az1 k ++ Bz2 (D6 k)) ++ Bl4 ks
end
theorem Bq5 : ∀ a b : List Nd, Bl4 (a ++ b) = Bl4 a ++ Bl4 b
 | [], b => by simp [Bl4]
 | k :: a, b => by simp only [List.cons_append, Bl4, Bq5 a b, List.append_assoc]
mutual
def At0 : Nd → Nat
 | .nil => 0
 | .leaf _ _ => 1
 | .ext _ k => 1 + At0 k
 | .br ks _ => 1 + Av7 ks
def Av7 : List Nd → Nat
 | [] => 0
 | k :: ks => At0 k + Av7 ks
end
theorem Ay6 (t : Itm) : (Bz2 t).length ≤ 1 := by unfold Bz2; split <;> simp
theorem Bp5 : Bz2 (D6 .nil) = [] := by
 have : (H6 (D6 .nil)).length < 32 := by decide
 rw [Bz2, if_pos this]
mutual
theorem Ao4 : ∀ t : Nd, (Az1 t ++ Bz2 (D6 t)).length ≤ At0 t
 | .nil => by rw [Bp5]; simp [Az1, At0]
 | .leaf r v => by
  have := Ay6 (D6 (.leaf r v))
  rw [Az1, At0, List.nil_append]; exact this
 | .ext r k => by
  have h1 := Ay6 (D6 (.ext r k))
  have h2 := Ao4 k
  rw [Az1, At0, List.length_append]; omega
 | .br ks v => by
  have h1 := Ay6 (D6 (.br ks v))
  have h2 := Az2 ks
  rw [Az1, At0, List.length_append]; omega
theorem Az2 : ∀ ks : List Nd, (Bl4 ks).length ≤ Av7 ks
 | [] => by simp [Bl4, Av7]
 | k :: ks => by
  have h1 := Ao4 k
  have h2 := Az2 ks
  rw [Bl4, Av7, List.length_append]; omega
end
theorem Am1 : ∀ a b : List Nd, Av7 (a ++ b) = Av7 a + Av7 b
 | [], b => by simp [Av7]
 | k :: a, b => by rw [List.cons_append, Av7, Av7, Am1 a b, Nat.add_assoc]
/-- How large a node's own parts are. -/
def smN : Nd → Prop
 | .nil => True
 | .leaf r v => r.length ≤ 1073741824 ∧ v.length ≤ 1073741824
 | .ext r _ => r.length ≤ 1073741824
 | .br ks v => ks.length = 16 ∧ v.length ≤ 1073741824
theorem Bm6 {nd : Nd} (h : smN nd) : (H6 (D6 nd)).length ≤ 4294967296 := by
 cases nd with
 | nil => show (H6 (txt [])).length ≤ _; decide
 | leaf r v =>
  obtain ⟨h1, h2⟩ := h
  have e1 := Au3 r true
  have e2 := K1 (p := pfx r true) (by omega)
  have e3 := K1 (p := v) (by omega)
  have e4 : (E6 [txt (pfx r true), txt v]).length = (H6 (txt (pfx r true))).length + (H6 (txt v)).length := by simp [E6]
  have := O4 (ks := [txt (pfx r true), txt v]) (by omega)
  rw [D6]; omega
 | ext r k =>
  have h1 : r.length ≤ 1073741824 := h
  have e1 := Au3 r false
  have e2 := K1 (p := pfx r false) (by omega)
  have e3 := Ap2 (D6 k)
  have e4 : (E6 [txt (pfx r false), J8 (D6 k)]).length = (H6 (txt (pfx r false))).length + (H6 (J8 (D6 k))).length := by simp [E6]
  have := O4 (ks := [txt (pfx r false), J8 (D6 k)]) (by omega)
  rw [D6]; omega
 | br ks v =>
  obtain ⟨h1, h2⟩ := h
  have e2 := Av2 ks
  have e3 := K1 (p := v) (by omega)
  have e4 : (E6 (Y7 ks ++ [txt v])).length = (E6 (Y7 ks)).length + (H6 (txt v)).length := by rw [U5, List.length_append]; simp [E6]
  rw [h1] at e2
  have := O4 (ks := Y7 ks ++ [txt v]) (by omega)
  rw [D6]; omega
/-- Keys and values side by side. -/
def Aj7 (ks vs : List Bs) : List KV := List.zipWith (fun k v => (k.l, v.l)) ks vs
theorem Bo5 {ks vs : List Bs} (h : ks.length = vs.length) : (Aj7 ks vs).length = ks.length := by simp [Aj7, h]
theorem Cm2 {ks vs : List Bs} (h : ks.length = vs.length) : (Aj7 ks vs).map Prod.fst = ks.map Bs.l := by
 induction ks generalizing vs with
 | nil => rfl
 | cons k ks ih =>
  cases vs with
  | nil => simp at h
  | cons v vs => simp only [Aj7, List.zipWith_cons_cons, List.map_cons]; rw [← ih (by simpa using h)]; rfl
theorem Cm1 {ks vs : List Bs} (h : ks.length = vs.length) : (Aj7 ks vs).map Prod.snd = vs.map Bs.l := by
 induction ks generalizing vs with
 | nil => cases vs with
  | nil => rfl
  | cons v vs => simp at h
 | cons k ks ih =>
  cases vs with
  | nil => simp at h
  | cons v vs => simp only [Aj7, List.zipWith_cons_cons, List.map_cons]; rw [← ih (by simpa using h)]; rfl
theorem Ax1 {ks vs : List Bs} {j : Nat} (h1 : j < ks.length) (h2 : j < vs.length) : (Aj7 ks vs)[j]? = some ((ks[j]).l, (vs[j]).l) := by
 simp [Aj7, List.getElem?_zipWith, h1, h2]
theorem Bs6 (f : Nat) (m : List KV) (i : Nat) (h : ∀ p ∈ m, p.1.length ≤ 1073741824 ∧ p.2.length ≤ 1073741824) : smN (Ac1 f m i) := by
 cases f with
 | zero => trivial
 | succ f =>
  have hh : (hdK (m.map Prod.fst)).length ≤ 1073741824 := by
   cases m with
   | nil => simp [hdK]
   | cons p m => exact (h p (by simp)).1
  rw [Ac1]
  split
  ·refine ⟨by rw [List.length_drop]; omega, ?_⟩
   cases m with
   | nil => simp
   | cons p m => exact (h p (by simp)).2
  ·split
   ·show (List.take _ _).length ≤ _
    rw [List.length_take, List.length_drop]; omega
   ·refine ⟨by simp, ?_⟩
    rcases An0 m i [] with ⟨q, hq, _, h3⟩ | ⟨_, h3⟩
    ·rw [Bu6, h3]; exact (h q hq).2
    ·rw [Bu6, h3]; simp
theorem Dg1 {m : List KV} {i d : Nat} (h : ∀ p ∈ m, p.1.length ≤ 1073741824 ∧ p.2.length ≤ 1073741824) : ∀ p ∈ R2 m i d, p.1.length ≤ 1073741824 ∧ p.2.length ≤ 1073741824 := fun p hp => h p (mem_subM.1 hp).1
theorem Cs6 {g : Nat → Nd} {c : Nat → Nat} {n : Nat} (h : ∀ d, d < n → At0 (g d) ≤ c d) : Av7 ((List.range n).map g) ≤ ((List.range n).map c).sum := by
 induction n with
 | zero => simp [Av7]
 | succ n ih =>
  rw [List.range_succ, List.map_append, List.map_append, Am1, List.sum_append]
  have := ih fun d hd => h d (by omega)
  have := h n (by omega)
  simp [Av7]; omega
theorem Cz1 (m : List KV) (i : Nat) : ∀ n, ((List.range n).map fun d => (R2 m i d).length).sum ≤ m.length := by
 intro n
 have key : ∀ m : List KV, ((List.range n).map fun d => (R2 m i d).length).sum ≤ m.length := by
  intro m
  induction m with
  | nil =>
   have : ∀ l : List Nat, (l.map fun d => (R2 [] i d).length).sum = 0 := fun l => by
    induction l with
    | nil => rfl
    | cons d l ih => rw [List.map_cons, List.sum_cons, ih]; rfl
   rw [this]; omega
  | cons p m ih =>
   have e : ∀ d, (R2 (p :: m) i d).length = (if p.1.length ≠ i ∧ (p.1.getD i 0).toNat = d then 1 else 0) + (R2 m i d).length := fun d => by
    rw [R2, List.filter_cons]
    split
    ·rename_i h
     rw [if_pos (by simpa using h), List.length_cons, ← R2]; omega
    ·rename_i h
     rw [if_neg (by simpa using h), ← R2]; omega
   have e2 : ((List.range n).map fun d => (R2 (p :: m) i d).length).sum = ((List.range n).map fun d => if p.1.length ≠ i ∧ (p.1.getD i 0).toNat = d then 1 else 0).sum + ((List.range n).map fun d => (R2 m i d).length).sum := by
    have : ∀ l : List Nat, (l.map fun d => (R2 (p :: m) i d).length).sum = (l.map fun d => if p.1.length ≠ i ∧ (p.1.getD i 0).toNat = d then 1 else 0).sum + (l.map fun d => (R2 m i d).length).sum := fun l => by
     induction l with
     | nil => rfl
     | cons d l ih => rw [List.map_cons, List.map_cons, List.map_cons, List.sum_cons, List.sum_cons, List.sum_cons, ih, e]; omega
    exact this _
   have e3 : ∀ n, ((List.range n).map fun d => if p.1.length ≠ i ∧ (p.1.getD i 0).toNat = d then 1 else 0).sum ≤ 1 ∧ ((p.1.getD i 0).toNat ≥ n → ((List.range n).map fun d => if p.1.length ≠ i ∧ (p.1.getD i 0).toNat = d then 1 else 0).sum = 0) := fun n => by
    induction n with
    | zero => simp
    | succ n ih =>
     rw [List.range_succ, List.map_append, List.sum_append]
     simp only [List.map_cons, List.map_nil, List.sum_cons, List.sum_nil, Nat.add_zero]
     by_cases h : (p.1.getD i 0).toNat = n
     ·have := ih.2 (by omega)
      refine ⟨?_, fun h2 => by omega⟩
      split <;> omega
     ·rw [if_neg (fun hh => h hh.2)]
      exact ⟨by omega, fun h2 => by have := ih.2 (by omega); omega⟩
   rw [e2, List.length_cons]
   have := (e3 n).1
   omega
 exact key m
theorem Bn5 : ∀ (f : Nat) (m : List KV) (i : Nat), m ≠ [] → At0 (Ac1 f m i) ≤ m.length * f
 | 0, m, i, _ => by simp [Ac1, At0]
 | f + 1, m, i, h0 => by
  have h00 : 0 < m.length := List.length_pos_iff.2 h0
  rw [Ac1]
  split
  ·rename_i h; rw [At0, h]; omega
  ·rename_i h1
   split
   ·rename_i hn
    have := Bn5 f m (i + cmn (m.map Prod.fst) i) h0
    rw [At0, Nat.mul_succ]; omega
   ·rw [At0]
    have h2 := Cs6 (g := fun d => if R2 m i d = [] then Nd.nil else Ac1 f (R2 m i d) (i + 1)) (c := fun d => (R2 m i d).length * f) (n := 16) (fun d _ => by
     show At0 (if R2 m i d = [] then Nd.nil else Ac1 f (R2 m i d) (i + 1)) ≤ (R2 m i d).length * f
     split
     ·simp [At0]
     ·rename_i hd; exact Bn5 f _ _ hd)
    have h3 := Cz1 m i 16
    have h4 : ((List.range 16).map fun d => (R2 m i d).length * f).sum = ((List.range 16).map fun d => (R2 m i d).length).sum * f := by
     have : ∀ l : List Nat, (l.map fun d => (R2 m i d).length * f).sum = (l.map fun d => (R2 m i d).length).sum * f := fun l => by
      induction l with
      | nil => simp
      | cons d l ih => rw [List.map_cons, List.map_cons, List.sum_cons, List.sum_cons, ih, Nat.add_mul]
     exact this _
    have h5 := Nat.mul_le_mul_right f h3
    rw [Nat.mul_succ]; omega
end Go.Proofs.Ytncjbfkkgdepoaa
namespace Go.Proofs.Ytncjbfkkgdepoaa
open Go RowKit Go.Ew
set_option maxHeartbeats 8000000
def bsE (q : Bs) : EV := .raw q.v
def zS : List EV := [.raw (.slice none 0 0)]
theorem H9 : A0 0 zS := by simp [zS, A0, closed]
theorem G9 (n : Nat) (qs : List Bs) : A0 n (qs.map bsE) := by
 induction qs with
 | nil => trivial
 | cons q qs ih => exact ⟨trivial, ih⟩
theorem Dd2 (qs : List Bs) : G2 (qs.map bsE) = true := by
 induction qs with
 | nil => rfl
 | cons q qs ih => rw [List.map_cons, G2, ih]; rfl
theorem Cp7 (bs : Nat → Nat) (qs : List Bs) : C2 bs (qs.map bsE) = qs.map Bs.v := by
 simp [C3, bsE, real, Function.comp_def]
theorem Dl7 {C : Cx} {Q : Exit → X → Prop} {o : Oper} {st : List It} {x : X} {a b : Operand} (hC : C.P = Try.prog) (r n : Nat) {l : Lst} {xs : List Bs} (ys : List Bs) (m : Nat)
  (hop : o.op = .call { callee := .builtin .append, args := #[a, b], argTypes := #[55, 55] })
  (hn : xs.length = n) (hm : ys.length = m) (ha : ev x.σ a = lE r n l) (hg : hget x.hs r = lO 22 (xs.map bsE) l) (hl : lOk zS n l)
  (hsrc : ∃ c, O6 x.B x.hs 1 (ev x.σ b) = some (m, ys.map bsE, c) ∧ c) (hmax : n + m ≤ 4398046511104)
  (hk : ∀ l', lOk zS (n + m) l' → Go.Ew.Next C Q st { σ := put x.σ o.dst (lE x.n (n + m) l'), n := x.n + 1, hs := (x.n, lO 22 ((xs ++ ys).map bsE) l') :: (r, none) :: x.hs, B := x.B, ms := x.ms }) : opS C Q o st x := by
 obtain ⟨c, h1, h2⟩ := hsrc
 subst hm
 refine Ae3 (zs := zS) (xs := xs.map bsE) (news := ys.map bsE) (m := ys.length) r n hop (by rw [hC]; exact Try.underlying55) (.inl ⟨_, by rw [hC]; exact Try.underlying55⟩) (by rw [hC]; exact Dv0) (by rw [hC]; exact Dt0) (by simp [zS]) H9 ha rfl hg hl (by simp [hn, zS]) (G9 0 _) h1 h2 (Dd2 _) (by simp only [maxLen]; omega) (by rw [hC, show Try.prog.bytesOf 22 = 24 from Dw9]; omega) (fun l' hl' => ?_)
 have := hk l' hl'
 rwa [List.map_append] at this
theorem Ba0 {C : Cx} {Q : Exit → X → Prop} {st : List It} {x : X} (r n : Nat) {l : Lst} {xs : List Bs} {T : TypeId} (hg : hget x.hs r = lO T (xs.map bsE) l) (hn : xs.length = n) (hl : lOk zS n l) (hms : r ∉ x.ms)
  (hk : ∀ b ad cap B', BExt x.B B' → frz r b (lE r n l) = .raw (.slice ad n cap) → CellsAt B' ad (xs.map Bs.v) → n ≤ cap → Go.Ew.Next C Q st ⟨frzσ r b x.σ, x.n, As0 r b x.hs, B', x.ms⟩) : Go.Ew.Next C Q st x := by
 subst hn
 refine X8 r xs.length hg hl (by simp [zS]) (G9 0 _) H9 hms (fun b ad cap B' hE hf hD hso hc => ?_)
 refine hk b ad cap B' hE hf (L7 hD hso (fun h0 => by rw [List.length_eq_zero_iff.1 h0]; rfl) hc (Cp7 _ _)) ?_
 cases l with
 | none => simp only [lE, frz] at hf; have := hl; simp only [lOk] at this; injection hf with hf; injection hf with _ h1 h2; omega
 | some q => obtain ⟨c, z⟩ := q; simp only [lE, frz, ↓reduceIte] at hf; have := hl.1; injection hf with hf; injection hf with _ h1 h2; omega
theorem Dx0 {C : Cx} {Q : Exit → X → Prop} {o : Oper} {st : List It} {x : X} {a b : Operand} (hC : C.P = Try.prog) (r n : Nat) {l : Lst} {xs : List (Itm × Plc)} (ys : List (Itm × Plc)) (m : Nat)
  (hop : o.op = .call { callee := .builtin .append, args := #[a, b], argTypes := #[89, 89] })
  (hn : xs.length = n) (hm : ys.length = m) (ha : ev x.σ a = lE r n l) (hg : hget x.hs r = lO 91 (xs.flatMap itQ) l) (hl : lOk z3 n l)
  (hsrc : ∃ c, O6 x.B x.hs 3 (ev x.σ b) = some (m, ys.flatMap itQ, c) ∧ c) (hmax : n + m ≤ 2199023255552)
  (hk : ∀ l', lOk z3 (n + m) l' → Go.Ew.Next C Q st { σ := put x.σ o.dst (lE x.n (n + m) l'), n := x.n + 1, hs := (x.n, lO 91 ((xs ++ ys).flatMap itQ) l') :: (r, none) :: x.hs, B := x.B, ms := x.ms }) : opS C Q o st x := by
 obtain ⟨c, h1, h2⟩ := hsrc
 subst hm
 refine Ae3 (zs := z3) (xs := xs.flatMap itQ) (news := ys.flatMap itQ) (m := ys.length) r n hop (by rw [hC]; exact Try.underlying89) (.inl ⟨_, by rw [hC]; exact Try.underlying89⟩) (by rw [hC]; exact Bj5) (by rw [hC]; exact Bn1) (by simp [z3]) C7 ha rfl hg hl (by rw [H8, hn]; rfl) (C1 0 _) h1 h2 (Bq8 _) (by simp only [maxLen]; omega) (by rw [hC, show Try.prog.bytesOf 91 = 56 from Bn7]; omega) (fun l' hl' => ?_)
 have := hk l' hl'
 rwa [List.flatMap_append] at this
theorem Dc0 {C : Cx} {Q : Exit → X → Prop} {st : List It} {x : X} (r n : Nat) {l : Lst} {xs : List (Itm × Plc)} {T : TypeId} (hg : hget x.hs r = lO T (xs.flatMap itQ) l) (hn : xs.length = n) (hl : lOk z3 n l) (hms : r ∉ x.ms)
  (hk : ∀ b ad cap B', BExt x.B B' → frz r b (lE r n l) = .raw (.slice ad n cap) → CellsAt B' ad (xs.flatMap itC) → n ≤ cap → Go.Ew.Next C Q st ⟨frzσ r b x.σ, x.n, As0 r b x.hs, B', x.ms⟩) : Go.Ew.Next C Q st x := by
 subst hn
 refine X8 r xs.length hg hl (by rw [H8]; rfl) (C1 0 _) C7 hms (fun b ad cap B' hE hf hD hso hc => ?_)
 refine hk b ad cap B' hE hf (L7 hD hso (fun h0 => by rw [List.length_eq_zero_iff.1 h0]; rfl) hc (Af6 _ _)) ?_
 cases l with
 | none => simp only [lE, frz] at hf; have := hl; simp only [lOk] at this; injection hf with hf; injection hf with _ h1 h2; omega
 | some q => obtain ⟨c, z⟩ := q; simp only [lE, frz, ↓reduceIte] at hf; have := hl.1; injection hf with hf; injection hf with _ h1 h2; omega
def prd (i d : Nat) (p : Bs × Bs) : Bool := decide (p.1.l.length ≠ i) && ((p.1.l.getD i 0).toNat == d)
def Cb2 (ks vs : List Bs) (i d j : Nat) : List (Bs × Bs) := ((ks.zip vs).take j).filter (prd i d)
theorem Cb1 {ks vs : List Bs} {i d j : Nat} (h1 : j < ks.length) (h2 : j < vs.length) : Cb2 ks vs i d (j + 1) = Cb2 ks vs i d j ++ (if prd i d (ks[j], vs[j]) then [(ks[j], vs[j])] else []) := by
 rw [Cb2, List.take_succ_eq_append_getElem (by simp; omega), List.filter_append, ← Cb2]
 congr 1
 rw [List.getElem_zip]
 simp [List.filter_cons]
theorem Bp3 {ks vs : List Bs} {i d j : Nat} {p : Bs × Bs} (h : p ∈ Cb2 ks vs i d j) : p.1 ∈ ks ∧ p.2 ∈ vs := by
 have h1 := List.mem_of_mem_take (List.mem_filter.1 h).1
 obtain ⟨a, b⟩ := p
 exact List.of_mem_zip h1
theorem Co6 (ks vs : List Bs) (i d j : Nat) : (Cb2 ks vs i d j).length ≤ ks.length := by
 have h1 := List.length_filter_le (prd i d) ((ks.zip vs).take j)
 have h2 : ((ks.zip vs).take j).length ≤ ks.length := by rw [List.length_take, List.length_zip]; omega
 exact Nat.le_trans h1 h2
def As4 (ks vs : List Bs) (i d j : Nat) : List Bs := (Cb2 ks vs i d j).map Prod.fst
def Bz1 (ks vs : List Bs) (i d j : Nat) : List Bs := (Cb2 ks vs i d j).map Prod.snd
theorem Bd5 (ks vs : List Bs) (i d : Nat) : As4 ks vs i d 0 = [] := rfl
theorem Bd4 (ks vs : List Bs) (i d : Nat) : Bz1 ks vs i d 0 = [] := rfl
theorem Co5 (ks vs : List Bs) (i d j : Nat) : (Bz1 ks vs i d j).length = (As4 ks vs i d j).length := by simp [As4, Bz1]
theorem Co8 (ks vs : List Bs) (i d j : Nat) : (As4 ks vs i d j).length ≤ ks.length := by rw [As4, List.length_map]; exact Co6 ks vs i d j
theorem Co3 {ks vs : List Bs} {i d j : Nat} {k v : Bs} (h1 : j < ks.length) (h2 : j < vs.length) (hk : k = ks[j]) (hv : v = vs[j]) :
  As4 ks vs i d (j + 1) = As4 ks vs i d j ++ (if prd i d (k, v) then [k] else []) ∧ Bz1 ks vs i d (j + 1) = Bz1 ks vs i d j ++ (if prd i d (k, v) then [v] else []) := by
 rw [As4, Bz1, Cb1 h1 h2, ← hk, ← hv, List.map_append, List.map_append, ← As4, ← Bz1]
 split <;> exact ⟨rfl, rfl⟩
theorem Co7 {ks vs : List Bs} {i d j : Nat} {k : Bs} (h : k ∈ As4 ks vs i d j) : k ∈ ks := by
 obtain ⟨p, hp, rfl⟩ := List.mem_map.1 h
 exact (Bp3 hp).1
theorem Co4 {ks vs : List Bs} {i d j : Nat} {k : Bs} (h : k ∈ Bz1 ks vs i d j) : k ∈ vs := by
 obtain ⟨p, hp, rfl⟩ := List.mem_map.1 h
 exact (Bp3 hp).2
theorem Cm0 (ks vs : List Bs) : Aj7 ks vs = (ks.zip vs).map fun p => (p.1.l, p.2.l) := by
 simp [Aj7, List.zip, List.map_zipWith]
theorem Cy2 (l : List (Bs × Bs)) : Aj7 (l.map Prod.fst) (l.map Prod.snd) = l.map fun p => (p.1.l, p.2.l) := by
 induction l with
 | nil => rfl
 | cons p l ih => simp only [List.map_cons, Aj7, List.zipWith_cons_cons]; rw [← ih]; rfl
theorem Cz4 {ks vs : List Bs} (h : ks.length = vs.length) (i d : Nat) : Aj7 (As4 ks vs i d ks.length) (Bz1 ks vs i d ks.length) = R2 (Aj7 ks vs) i d := by
 show Aj7 ((Cb2 ks vs i d ks.length).map Prod.fst) ((Cb2 ks vs i d ks.length).map Prod.snd) = R2 (Aj7 ks vs) i d
 rw [Cy2, Cm0 ks vs, Cb2, List.take_of_length_le (by rw [List.length_zip]; omega), R2, List.filter_map]
 rfl
def Dd8 (m : List KV) (i j : Nat) (w : List UInt8) : List UInt8 := (m.take j).foldl (fun a p => if p.1.length = i then p.2 else a) w
theorem Ca0 {m : List KV} {i j : Nat} {w : List UInt8} {p : KV} (h : m[j]? = some p) : Dd8 m i (j + 1) w = if p.1.length = i then p.2 else Dd8 m i j w := by
 obtain ⟨hj, he⟩ := List.getElem?_eq_some_iff.1 h
 rw [Dd8, List.take_succ_eq_append_getElem hj, List.foldl_append, he]; rfl
theorem Cm6 {m : List KV} {i : Nat} {w : List UInt8} (h : w = [] ∨ w = Bu6 m i) : Dd8 m i m.length w = Bu6 m i := by
 rw [Dd8, List.take_length]
 rcases h with rfl | rfl
 ·rfl
 ·have key : ∀ (m : List KV) (a b : List UInt8), (∃ p ∈ m, p.1.length = i) → m.foldl (fun a p => if p.1.length = i then p.2 else a) a = m.foldl (fun a p => if p.1.length = i then p.2 else a) b := by
   intro m
   induction m with
   | nil => intro a b ⟨p, hp, _⟩; simp at hp
   | cons q m ih =>
    intro a b ⟨p, hp, hpl⟩
    simp only [List.foldl_cons]
    by_cases e : q.1.length = i
    ·rw [if_pos e, if_pos e]
    ·rcases List.mem_cons.1 hp with rfl | hp
     ·exact absurd hpl e
     ·exact ih _ _ ⟨p, hp, hpl⟩
  by_cases h : ∃ p ∈ m, p.1.length = i
  ·exact key m _ _ h
  ·rcases An0 m i (Bu6 m i) with ⟨p, hp, h1, _⟩ | ⟨_, h2⟩
   ·exact absurd ⟨p, hp, h1⟩ h
   ·exact h2
end Go.Proofs.Ytncjbfkkgdepoaa
