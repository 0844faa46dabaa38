/- Part of a proof over the seat Ytncjbfkkgdepoaa. -/
import Derived.Test.YtncjbfkkgdepoaaG12
import Derived.Test.YtncjbfkkgdepoaaTD
set_option linter.unusedSimpArgs false
set_option linter.unusedVariables false
set_option maxRecDepth 100000
namespace Go.Proofs.Ytncjbfkkgdepoaa
open Go RowKit Go.Ew
set_option maxHeartbeats 8000000
theorem Dh2 : C5 Try.f31.ntmps (Try.f31.body.getD .skip) = true := by kernel_rfl
theorem Dh3 : C5 Try.f30.ntmps (Try.f30.body.getD .skip) = true := by kernel_rfl
theorem Dg8 : C5 Try.f35.ntmps (Try.f35.body.getD .skip) = true := by kernel_rfl
theorem Dh0 : C5 Try.f33.ntmps (Try.f33.body.getD .skip) = true := by kernel_rfl
theorem Dh6 : C5 Try.f21.ntmps (Try.f21.body.getD .skip) = true := by kernel_rfl
theorem Ah7 {α : Type} {f : α → List EV} {k : Nat} (hk : 1 < k) {l : List α} {i : Nat} {a : α} (h : ∀ a, (f a).length = k) (hi : i < l.length) : H7 (l.flatMap f) (i * k) (f a) = (l.set i a).flatMap f := by
 have hl : (l.flatMap f).length = l.length * k := by rw [R0 (k := k) (fun a _ => h a)]; exact Nat.mul_comm _ _
 have hik : i * k + k ≤ l.length * k := by
  have : (i + 1) * k ≤ l.length * k := Nat.mul_le_mul_right k hi
  rw [Nat.succ_mul] at this; exact this
 rw [Aa6 _ _ _ (by rw [h, hl]; exact hik), h]
 have e1 : l = l.take i ++ l[i] :: l.drop (i + 1) := by rw [← List.drop_eq_getElem_cons hi, List.take_append_drop]
 have e2 : l.set i a = l.take i ++ a :: l.drop (i + 1) := by
  rw [List.set_eq_take_append_cons_drop]; simp [hi]
 have e3 : ((l.take i).flatMap f).length = i * k := by
  rw [R0 (k := k) (fun a _ => h a), List.length_take, Nat.min_eq_left (by omega)]; exact Nat.mul_comm _ _
 have e4 : l.flatMap f = (l.take i).flatMap f ++ (f l[i] ++ (l.drop (i + 1)).flatMap f) := by
  conv => lhs; rw [e1]
  rw [List.flatMap_append, List.flatMap_cons]
 rw [e2, List.flatMap_append, List.flatMap_cons, e4, List.take_left' e3, ← List.drop_drop, List.drop_left' e3, List.drop_left' (h _), List.append_assoc]
theorem Bf8 {B : Base} {nd : Nd} {v : Value} (h : NdAt B nd v)
  (hi : ∀ T b, v = .iface T (.pointer (some ⟨b, 0, none⟩)) → Does Try.prog (itF T) [.raw (.pointer (some ⟨b, 0, none⟩))] B (fun s : Plc => .agg (itE (E4 nd) s)) (fun s B' => ItAt B' (E4 nd) s)) (hok : chk (E4 nd) 0 = 0) (hf : (J2 (E4 nd)).length < 35184372088832) :
  Does Try.prog 149 [.raw v] B (fun s : Plc => .agg (itE (Q2 (E4 nd)) s)) (fun s B' => ItAt B' (Q2 (E4 nd)) s) := by
 refine J9 Cy5 (fun s B B' hB hR => hR.ext hB) Try.func149 rfl Cw3 (by simp [Try.f149]) (by simp [A0, closed]) (fun B0 hB0 => A3 1000 ?_)
 replace h := h.ext' hB0
 rcases h.cases' with ⟨rfl, rfl⟩ | ⟨hkn, T, a, rfl⟩
 ·repeat' (simp (maxSteps := 4000000) (disch := omega) only [go_sem, ↓reduceIte, Try.f149])
  refine As8 rfl Try.underlying71 rfl (A3 1000 ?_)
  repeat' (simp (maxSteps := 4000000) (disch := omega) only [go_sem, ↓reduceIte])
  refine F4 (Ac6 [] 0 B0 none 0 (S7 _) rfl (by omega)) (fun _ => by simp [closed, A0]) (fun s1 B1 hB1 hR1 => A3 1000 ?_)
  change BExt B0 B1 at hB1
  rw [Ca0]
  repeat' (first | with_reducible refine And.intro (by omega) ?_ | simp (maxSteps := 4000000) (disch := omega) only [go_sem, ↓reduceIte])
  first | exact ⟨hB1, s1, rfl, by simp [closed, A0], hR1⟩ | exact ⟨s1, rfl, by simp [closed, A0], hR1⟩
 ·replace hi := N5 (hi T a rfl) hB0
  have hTn := Bg6 h
  obtain ⟨t, ht⟩ : ∃ t, t = E4 nd := ⟨_, rfl⟩
  have hfm := Bu1 h hi hok hf
  have hinv := fun w => Cf5 h w
  rw [← ht] at hi hok hf hfm ⊢
  repeat' (simp (maxSteps := 4000000) (disch := omega) only [go_sem, ↓reduceIte, Try.f149])
  refine Ab8 rfl Try.underlying71 rfl (A3 1000 ?_)
  repeat' (simp (maxSteps := 4000000) (disch := omega) only [go_sem, ↓reduceIte])
  refine Am6 rfl Try.underlying78 Ag9 rfl hTn (A3 1000 ?_)
  repeat' (simp (maxSteps := 4000000) (disch := omega) only [go_sem, ↓reduceIte])
  refine F4 hfm (fun _ => by simp [closed, A0]) (fun s1 B1 hB1 hR1 => A3 1000 ?_)
  change BExt B0 B1 at hB1
  by_cases hlt : (J2 t).length < 32
  ·have hr : Q2 t = t := by rw [Q2, if_pos hlt]
   have cA : decide (((J2 t).length : Int) < 32) = true := decide_eq_true (by omega)
   rw [hr]
   repeat' (simp (maxSteps := 4000000) (disch := omega) only [go_sem, ↓reduceIte, cA])
   refine Dc4 rfl rfl hinv ?_
   refine F4 (N5 hi hB1) (fun _ => by simp [closed, A0]) (fun s2 B2 hB2 hR2 => A3 1000 ?_)
   change BExt B1 B2 at hB2
   repeat' (simp (maxSteps := 4000000) (disch := omega) only [go_sem, ↓reduceIte])
   first | exact ⟨hB1.trans hB2, s2, rfl, by simp [closed, A0], hR2⟩ | exact ⟨s2, rfl, by simp [closed, A0], hR2⟩
  ·have hr : Q2 t = txt (Bh1 (J2 t)) := by rw [Q2, if_neg hlt]
   have cA : decide (((J2 t).length : Int) < 32) = false := decide_eq_false (by omega)
   rw [hr]
   have hlk := O8 (J2 t)
   repeat' (simp (maxSteps := 4000000) (disch := omega) only [go_sem, ↓reduceIte, cA])
   refine F4 (Ai9 (J2 t) _ _ s1.1 s1.2 hR1.1 rfl (by omega)) (fun _ => A2 _ _ _ _) (fun s2 B2 hB2 hR2 => A3 1000 ?_)
   change BExt B1 B2 at hB2
   have hbe := Z3 (J2 t)
   have hcl : ∀ n, A0 n (C8 .u8 (O5 (J2 t)) 32) := fun n => A2 _ _ _ _
   have hsp : H7 (C8 .u8 (fun _ => 0) 32) 0 (C8 .u8 (O5 (J2 t)) 32) = C8 .u8 (O5 (J2 t)) 32 := by rw [← hbe]; exact P9 hlk (by omega) _
   repeat' (first | with_reducible refine And.intro (by first | omega | (simp; done)) ?_ | simp (maxSteps := 4000000) (disch := omega) only [go_sem, ↓reduceIte, hsp])
   refine Ac2 1 0 32 32 [] (Bh1 (J2 t)) Cq9 (by simp [A0]) rfl rfl (by rw [hbe]; rfl) (fun s => by simp [closed, A0]) (fun B ad cap hB hb => Ac6 (Bh1 (J2 t)) 32 B ad cap hb hlk (by omega)) (fun s3 B3 hB3 hR3 => A3 1000 ?_)
   change BExt B2 B3 at hB3
   repeat' (simp (maxSteps := 4000000) (disch := omega) only [go_sem, ↓reduceIte])
   have hBX := hB1.trans (hB2.trans hB3)
   first | exact ⟨hBX, s3, rfl, by simp [closed, A0], hR3⟩ | exact ⟨s3, rfl, by simp [closed, A0], hR3⟩
mutual
def Ay2 : Itm → Nat
 | .mk l b ks => if l = 1 then 1 + Bd7 ks else 0
def Bd7 : List Itm → Nat
 | [] => 0
 | k :: ks => max (Ay2 k) (Bd7 ks)
end
mutual
theorem Bu9 : ∀ (t : Itm) (d : Nat), okI t = true → d + Ay2 t ≤ 64 → chk t d = 0
 | .mk l b ks, d, h, hd => by
  simp only [okI, Bool.and_eq_true, Bool.or_eq_true, beq_iff_eq, List.isEmpty_iff] at h
  obtain ⟨h1, h2⟩ := h
  rw [chk]
  rcases h1 with ⟨rfl, rfl⟩ | ⟨rfl, rfl⟩
  ·simp [Ba4]
  ·simp only [Ay2, if_true] at hd
   rw [if_neg (by omega), if_neg (by simp)]
   exact Bi4 ks (d + 1) h2 (by omega)
theorem Bi4 : ∀ (ks : List Itm) (d : Nat), okL ks = true → d + Bd7 ks ≤ 64 → Ba4 ks d = 0
 | [], _, _, _ => rfl
 | k :: ks, d, h, hd => by
  simp only [okL, Bool.and_eq_true] at h
  simp only [Bd7] at hd
  rw [Ba4, if_pos (Bu9 k d h.1 (by omega))]
  exact Bi4 ks d h.2 (by omega)
end
theorem Cq5 (base n : Nat) : 1 ≤ (hd base n).length := by
 rw [Bh4]; split <;> omega
mutual
theorem Bi1 : ∀ (t : Itm), Ay2 t ≤ (J2 t).length
 | .mk l b ks => by
  rw [Ay2, J2]
  split
  ·rw [List.length_append]
   have h1 := Cq5 192 (E2 ks).length
   have h2 := Ay1 ks
   omega
  ·omega
theorem Ay1 : ∀ (ks : List Itm), Bd7 ks ≤ (E2 ks).length
 | [] => by simp [Bd7]
 | k :: ks => by
  rw [Bd7, E2, List.length_append]
  have h1 := Bi1 k
  have h2 := Ay1 ks
  omega
end
theorem Cj3 (p : List UInt8) : okI (txt p) = true := rfl
theorem Bg4 {t : Itm} (h : okI t = true) : okI (Q2 t) = true := by
 unfold Q2
 split
 ·exact h
 ·rfl
theorem Bi0 (t : Itm) : Ay2 (Q2 t) ≤ 31 := by
 unfold Q2
 split
 ·have := Bi1 t; omega
 ·show Ay2 (.mk 0 _ _) ≤ 31
  simp [Ay2]
theorem Cj2 {a b : List Itm} (h1 : okL a = true) (h2 : okL b = true) : okL (a ++ b) = true := by
 rw [okL_iff] at *
 intro k hk
 rcases List.mem_append.1 hk with h | h
 ·exact h1 k h
 ·exact h2 k h
mutual
theorem okN : ∀ nd : Nd, okI (E4 nd) = true
 | .nil => rfl
 | .leaf r v => rfl
 | .ext r k => by
  have := Bg4 (okN k)
  simp [E4, lst, okI, okL, this, Cj3]
 | .br ks v => by
  have h1 := Dc2 ks
  have h2 : okL (Ae7 ks ++ [txt v]) = true := Cj2 h1 rfl
  rw [E4, lst, okI, h2]; rfl
theorem Dc2 : ∀ ks : List Nd, okL (Ae7 ks) = true
 | [] => rfl
 | k :: ks => by rw [Ae7, okL, Bg4 (okN k), Dc2 ks]; rfl
end
theorem Ck8 {ks : List Itm} {n : Nat} (h : ∀ k ∈ ks, Ay2 k ≤ n) : Bd7 ks ≤ n := by
 induction ks with
 | nil => simp [Bd7]
 | cons k ks ih =>
  rw [Bd7]
  have h1 := h k (by simp)
  have h2 := ih fun a ha => h a (by simp [ha])
  omega
theorem Dk8 (nd : Nd) : Ay2 (E4 nd) ≤ 33 := by
 cases nd with
 | nil => simp [E4, txt, Ay2]
 | leaf r v => simp [E4, lst, txt, Ay2, Bd7]
 | ext r k =>
  have := Bi0 (E4 k)
  rw [E4, lst, Ay2, if_pos rfl, Bd7, Bd7, Bd7]
  have h2 : Ay2 (txt (pfx r false)) = 0 := by simp [txt, Ay2]
  omega
 | br ks v =>
  have : Bd7 (Ae7 ks ++ [txt v]) ≤ 31 := Ck8 fun k hk => by
   rcases List.mem_append.1 hk with h | h
   ·rw [Aa7] at h
    obtain ⟨q, _, rfl⟩ := List.mem_map.1 h
    exact Bi0 _
   ·simp at h; subst h; simp [txt, Ay2]
  rw [E4, lst, Ay2, if_pos rfl]
  omega
theorem Da7 (nd : Nd) : chk (E4 nd) 0 = 0 := Bu9 _ 0 (okN nd) (by have := Dk8 nd; omega)
theorem O0 {p : List UInt8} (h : p.length < 4611686018427387904) : (J2 (txt p)).length ≤ 9 + p.length := by
 rw [txt, J2, if_neg (by omega)]
 split
 ·omega
 ·rw [List.length_append]; have := (Ar9 (base := 128) h).2; omega
theorem Ax7 (t : Itm) : (J2 (Q2 t)).length ≤ 41 := by
 unfold Q2
 split
 ·omega
 ·have := O0 (p := Bh1 (J2 t)) (by rw [O8]; omega)
  rw [O8] at this; exact this
theorem Bl9 (ks : List Nd) : (E2 (Ae7 ks)).length ≤ 41 * ks.length := by
 induction ks with
 | nil => simp [Ae7, E2]
 | cons k ks ih =>
  rw [Ae7, E2, List.length_append, List.length_cons]
  have := Ax7 (E4 k)
  omega
theorem V2 {ks : List Itm} (h : (E2 ks).length < 4611686018427387904) : (J2 (lst ks)).length ≤ 9 + (E2 ks).length := by
 rw [lst, J2, if_pos rfl, List.length_append]; have := (Ar9 (base := 192) h).2; omega
theorem Ce8 (r : List UInt8) (b : Bool) : (pfx r b).length ≤ r.length + 2 := by
 rw [pfx, R9]; split <;> simp <;> omega
theorem Cb4 {B : Base} {nd : Nd} {v : Value} (h : NdAt B nd v) : (J2 (E4 nd)).length < 35184372088832 := by
 cases h with
 | nil => show (J2 (txt [])).length < _; decide
 | leaf r v b rA vA rc vc hc hr hv h1 h2 h3 =>
  have e1 := Ce8 r true
  have e2 := O0 (p := pfx r true) (by omega)
  have e3 := O0 (p := v) (by omega)
  have e4 : (E2 [txt (pfx r true), txt v]).length = (J2 (txt (pfx r true))).length + (J2 (txt v)).length := by simp [E2]
  have := V2 (ks := [txt (pfx r true), txt v]) (by omega)
  rw [E4]; omega
 | ext r k b rA rc kv hc hr h1 h2 hk =>
  have e1 := Ce8 r false
  have e2 := O0 (p := pfx r false) (by omega)
  have e3 := Ax7 (E4 k)
  have e4 : (E2 [txt (pfx r false), Q2 (E4 k)]).length = (J2 (txt (pfx r false))).length + (J2 (Q2 (E4 k))).length := by simp [E2]
  have := V2 (ks := [txt (pfx r false), Q2 (E4 k)]) (by omega)
  rw [E4]; omega
 | br qs v b vA vc hc hq hk hv h3 =>
  have e2 := Bl9 (qs.map Prod.fst)
  have e3 := O0 (p := v) (by omega)
  have e4 : (E2 (Ae7 (qs.map Prod.fst) ++ [txt v])).length = (E2 (Ae7 (qs.map Prod.fst))).length + (J2 (txt v)).length := by rw [V7, List.length_append]; simp [E2]
  rw [List.length_map, hq] at e2
  have := V2 (ks := Ae7 (qs.map Prod.fst) ++ [txt v]) (by omega)
  rw [E4]; omega
end Go.Proofs.Ytncjbfkkgdepoaa
namespace Go.Proofs.Ytncjbfkkgdepoaa
open Go RowKit Go.Ew
set_option maxHeartbeats 8000000
/-- No item yet. -/
def zQ : Itm × Plc := (txt [], ⟨none, 0, none, 0⟩)
theorem Cu7 (B : Base) : ItAt B zQ.1 zQ.2 := Ce1 (S7 none) (by simp)
theorem Bw1 {B : Base} {ks : List Nd} {v : List UInt8} {b : Nat} (h : NdAt B (.br ks v) (.iface 119 (.pointer (some ⟨b, 0, none⟩))))
  (hrf : ∀ k ∈ ks, ∀ B' kv, BExt B B' → NdAt B' k kv → Does Try.prog 149 [.raw kv] B' (fun s : Plc => .agg (itE (Q2 (E4 k)) s)) (fun s B' => ItAt B' (Q2 (E4 k)) s)) :
  Does Try.prog 150 [.raw (.pointer (some ⟨b, 0, none⟩))] B (fun s : Plc => .agg (itE (E4 (.br ks v)) s)) (fun s B' => ItAt B' (E4 (.br ks v)) s) := by
 refine J9 Cy4 (fun s B B' hB hR => hR.ext hB) Try.func150 rfl Cw2 (by simp [Try.f150]) (by simp [A0, closed]) (fun B0 hB0 => A3 1000 ?_)
 replace h := h.ext' hB0
 cases h with
 | br qs w _ wA wc hc hq hkk hwv e3 =>
  obtain ⟨l1, l2, l3, _⟩ := Ak5 hc (o := 0) (n := 16) (by simp [hq]) (by omega)
  have e : I0 (some (⟨b, 0, none⟩ : Addr)) 0 = ⟨b, 0, none⟩ := rfl
  rw [e] at l1 l3
  have l5 : ((qs.map Prod.snd ++ [Value.slice wA v.length wc]).drop 0).take 16 = qs.map Prod.snd := by
   rw [List.drop_zero, List.take_left' (by simp [hq])]
  rw [l5] at l1
  have l6 : (qs.map Prod.snd).map C9 = qs.map fun q => .raw q.2 := by
   rw [List.map_map]; exact List.map_congr_left fun q hm => (hkk q hm).ofS
  rw [l6] at l1
  have qD : B0.D b := l2
  obtain ⟨q1, q1d, q1s⟩ := hc.raw (j := 16) (v := .slice wA v.length wc) (by simp [hq])
  simp only [E8, Addr.add, ↓reduceIte, Nat.reduceAdd, Nat.reduceEqDiff, C9, if_false, Nat.zero_add, Nat.one_ne_zero] at q1 q1s
  have hone : H8 (qs.map fun q => EV.raw q.2) = true := by
   have : ∀ l : List (Nd × Value), (∀ q ∈ l, NdAt B0 q.1 q.2) → H8 (l.map fun q => EV.raw q.2) = true := fun l => by
    induction l with
    | nil => intro _; rfl
    | cons q l ih =>
     intro hl
     have h1 : (EV.raw q.2).one = true := by
      have := hl q (by simp)
      generalize q.1 = k, q.2 = kv at this
      cases this <;> rfl
     simp only [List.map_cons, H8, h1, Bool.true_and]
     exact ih fun q hq => hl q (by simp [hq])
   exact this qs hkk
  obtain ⟨L, hL⟩ : ∃ L, L = qs.map fun q => EV.raw q.2 := ⟨_, rfl⟩
  have hLl : L.length = 16 := by rw [hL]; simp [hq]
  rw [← hL] at l1 hone
  have hLc : ∀ n, A0 n L := fun n => by
   rw [hL]
   have : ∀ l : List (Nd × Value), A0 n (l.map fun q => EV.raw q.2) := fun l => by
    induction l with
    | nil => trivial
    | cons a l ih => exact ⟨trivial, ih⟩
   exact this qs
  repeat' (first | with_reducible refine And.intro (by first | omega | (constructor <;> assumption) | (simp; done)) ?_ | simp (maxSteps := 4000000) (disch := omega) only [go_sem, ↓reduceIte, Try.f150, l1, hone, hLl])
  obtain ⟨Z, hZ⟩ : ∃ Z, Z = List.replicate 17 zQ := ⟨_, rfl⟩
  have hzr : rep 17 [EV.int .i64 0, .raw (.slice none 0 0), .raw (.slice none 0 0)] = Z.flatMap itQ := by rw [hZ]; rfl
  have hzc : ∀ n, A0 n (Z.flatMap itQ) := fun n => F1 n Z
  refine G1 (S := Nat × List (Itm × Plc) × Base) (fun s => s.1 ≤ 16 ∧ s.2.1.length = 17 ∧ BExt B0 s.2.2 ∧ (∀ q ∈ s.2.1, ItAt s.2.2 q.1 q.2) ∧ s.2.1.map Prod.fst = Ae7 ((qs.map Prod.fst).take s.1) ++ List.replicate (17 - s.1) (txt []))
   (fun s => ⟨[(11, .int .i64 (s.1 : Nat)), (10, .agg L), (3, .sl 1 0 17 17), (2, .ptr 0 0), (0, .raw (.pointer (some ⟨b, 0, none⟩)))], 2, [(1, some (.cells (s.2.1.flatMap itQ) 91 (0, 0))), (0, some (.cells [.int .i64 0, .raw (.slice none 0 0), .raw (.slice none 0 0)] 91 (0, 0)))], s.2.2, []⟩)
   (fun s => 16 - s.1) (0, Z, B0) ⟨Nat.zero_le _, by simp [hZ], BExt.refl _, fun q hq => by
    simp only [hZ] at hq
    obtain rfl := List.eq_of_mem_replicate hq
    exact Cu7 _, by simp [hZ, zQ, Ae7]⟩ (Weak.sub (A5 (by simp [wσ, go_sem, closed, A0, A4, hzr, hLc, hzc] <;> omega) (by simp [whs, Go.Ew.hget, go_sem, EObj.closed, closed, A0, A4, hzr, hLc, hzc]) (by first | (simp [*]; done) | (simp only [cxG]; omega)) rfl rfl (by simp))) ?_
  rintro ⟨i, ps, B2⟩ ⟨hi, hpl, hB2, hok, hps⟩
  simp only at hi hpl hB2 hok hps ⊢
  rcases Nat.lt_or_ge i 16 with hi2 | hi2
  ·have cA : decide ((i : Int) < 16) = true := decide_eq_true (by omega)
   have hiq : i < qs.length := by omega
   have hLi : L[i]? = some (.raw (qs[i]).2) := by rw [hL]; simp [hiq]
   have hLi' : L.getD i .any = .raw (qs[i]).2 := by rw [List.getD_eq_getElem?_getD, hLi]; rfl
   refine A3 1000 ?_
   repeat' (first | with_reducible refine And.intro (by omega) ?_ | simp (maxSteps := 4000000) (disch := omega) only [go_sem, ↓reduceIte, cA, hLi, hLi', hLl, Int.toNat_natCast, L6, hpl])
   have hki : qs[i].1 ∈ qs.map Prod.fst := List.mem_map.2 ⟨_, List.getElem_mem hiq, rfl⟩
   refine F4 (hrf qs[i].1 hki B2 qs[i].2 (hB0.trans hB2) ((hkk _ (List.getElem_mem hiq)).ext' hB2)) (fun _ => by simp [closed, A0]) (fun s3 B3 hB3 hR3 => A3 1000 ?_)
   change BExt B2 B3 at hB3
   have hst : H7 (ps.flatMap itQ) (i * 3) (itE (Q2 (E4 qs[i].1)) s3) = (ps.set i (Q2 (E4 qs[i].1), s3)).flatMap itQ := Ah7 (f := itQ) (k := 3) (a := (Q2 (E4 qs[i].1), s3)) (by omega) (fun _ => rfl) (by omega)
   repeat' (first | with_reducible refine And.intro (by omega) ?_ | simp (maxSteps := 4000000) (disch := omega) only [go_sem, ↓reduceIte, hst, L6, hpl, Int.toNat_natCast])
   have hc2 : ∀ n, A0 n ((ps.set i (Q2 (E4 qs[i].1), s3)).flatMap itQ) := fun n => F1 n _
   refine ⟨(i + 1, ps.set i (Q2 (E4 qs[i].1), s3), B3), ⟨by simp only; omega, by simp [hpl], hB2.trans hB3, fun q hq => ?_, ?_⟩, Weak.sub (A5 (by simp [wσ, go_sem, closed, A0, A4, hLc, hc2] <;> omega) (by simp [whs, Go.Ew.hget, go_sem, EObj.closed, closed, A0, A4, hLc, hc2]) (by first | (simp [*]; done) | (simp only [cxG]; omega)) rfl rfl (by simp)), by simp only; omega⟩
   ·rcases List.mem_or_eq_of_mem_set hq with hq | rfl
    ·exact (hok q hq).ext hB3
    ·exact hR3
   ·simp only
    rw [List.map_set, hps, List.take_succ_eq_append_getElem (by simpa using hiq), Aa7, Aa7, List.map_append, List.set_append_right _ _ (by simp; omega)]
    have e1 : i - (List.map (fun k => Q2 (E4 k)) (List.take i (List.map Prod.fst qs))).length = 0 := by simp; omega
    have e2 : 17 - i = (17 - (i + 1)) + 1 := by omega
    rw [e1, e2, List.replicate_succ, List.set_cons_zero, List.append_assoc]
    simp
  ·obtain rfl : i = 16 := by omega
   have l7 : Ae7 ((qs.map Prod.fst).take 16) = Ae7 (qs.map Prod.fst) := by rw [List.take_of_length_le (by simp [hq])]
   have hBt := hB2
   replace hwv := hwv.ext hB2
   obtain ⟨q1, q1d, q1s⟩ := (hc.ext hB2).raw (j := 16) (v := .slice wA v.length wc) (by simp [hq])
   simp only [E8, Addr.add, ↓reduceIte, Nat.reduceAdd, Nat.reduceEqDiff, C9, if_false, Nat.zero_add, Nat.one_ne_zero] at q1 q1s
   have qD2 : B2.D b := q1d
   refine A3 1000 ?_
   repeat' (first | with_reducible refine And.intro (by first | omega | (constructor <;> assumption)) ?_ | simp (maxSteps := 4000000) (disch := omega) only [go_sem, ↓reduceIte, q1, L6, hpl] | with_reducible refine A3 1000 ?_)
   refine F4 (Ac6 v _ _ wA wc hwv rfl e3) (fun _ => by simp [closed, A0]) (fun s3 B3 hB3 hR3 => A3 1000 ?_)
   change BExt B2 B3 at hB3
   have hst : H7 (ps.flatMap itQ) 48 (itE (txt v) s3) = (ps.set 16 (txt v, s3)).flatMap itQ := Ah7 (f := itQ) (k := 3) (i := 16) (a := (txt v, s3)) (by omega) (fun _ => rfl) (by omega)
   repeat' (simp (maxSteps := 4000000) (disch := omega) only [go_sem, ↓reduceIte, hst, L6, hpl])
   obtain ⟨ps2, hps2⟩ : ∃ ps2, ps2 = ps.set 16 (txt v, s3) := ⟨_, rfl⟩
   have hpl2 : ps2.length = 17 := by rw [hps2]; simp [hpl]
   have hok2 : ∀ q ∈ ps2, ItAt B3 q.1 q.2 := fun q hq => by
    rw [hps2] at hq
    rcases List.mem_or_eq_of_mem_set hq with hq | rfl
    ·exact (hok q hq).ext hB3
    ·exact hR3
   have hfst : ps2.map Prod.fst = Ae7 (qs.map Prod.fst) ++ [txt v] := by
    rw [hps2, List.map_set, hps, l7, List.set_append_right _ _ (by rw [Aa7]; simp [hq])]
    have e1 : 16 - (Ae7 (qs.map Prod.fst)).length = 0 := by rw [Aa7]; simp [hq]
    rw [e1]; rfl
   rw [← hps2]
   have hmo : (ps2.flatMap itC).map C9 = ps2.flatMap itQ := by rw [List.map_flatMap]; rfl
   have hcl2 : (ps2.flatMap itC).length = 51 := by rw [R0 (k := 3) (fun q _ => rfl), hpl2]
   have hql2 : (ps2.flatMap itQ).length = 51 := by rw [L6, hpl2]
   refine Az2 1 0 17 17 [] (ps2.flatMap itC) Cb6 rfl rfl (by rw [hmo, hcl2, List.drop_zero, List.take_of_length_le (by rw [hql2]; omega)]) (fun s => by simp [closed, A0]) (fun B ad cap hB hc3 => Bc7 ps2 17 B ad cap hc3 (by omega) (fun q hq => (hok2 q hq).ext hB) hpl2) (fun s8 B8 hB8 hR8 => A3 1000 ?_)
   change BExt B3 B8 at hB8
   rw [hfst] at hR8
   simp only [hfst]
   repeat' (simp (maxSteps := 4000000) (disch := omega) only [go_sem, ↓reduceIte])
   have hBX := hBt.trans (hB3.trans hB8)
   first | exact ⟨hBX, s8, rfl, by simp [closed, A0], hR8⟩ | exact ⟨s8, rfl, by simp [closed, A0], hR8⟩
mutual
/-- Every node's item. -/
theorem Bd1 : ∀ (nd : Nd) {B : Base} {v : Value}, NdAt B nd v → ∀ (T : TypeId) (b : Nat), v = .iface T (.pointer (some ⟨b, 0, none⟩)) → Does Try.prog (itF T) [.raw (.pointer (some ⟨b, 0, none⟩))] B (fun s : Plc => .agg (itE (E4 nd) s)) (fun s B' => ItAt B' (E4 nd) s)
 | .nil, B, v, h, T, b, hv => by subst hv; cases h
 | .leaf r w, B, v, h, T, b, hv => by
  have hT : T = 112 := by subst hv; cases h; rfl
  subst hT hv
  exact Bc9 h
 | .ext r k, B, v, h, T, b, hv => by
  have hT : T = 116 := by subst hv; cases h; rfl
  subst hT hv
  exact Bm0 h (fun B' kv hB hk => Bf8 hk (fun T b e => Bd1 k hk T b e) (Da7 k) (Cb4 hk))
 | .br ks w, B, v, h, T, b, hv => by
  have hT : T = 119 := by subst hv; cases h; rfl
  subst hT hv
  exact Bw1 h (fun k hk B' kv hB hkv => Bf8 hkv (fun T b e => Bh2 ks k hk hkv T b e) (Da7 k) (Cb4 hkv))
theorem Bh2 : ∀ (ks : List Nd) (k : Nd), k ∈ ks → ∀ {B : Base} {v : Value}, NdAt B k v → ∀ (T : TypeId) (b : Nat), v = .iface T (.pointer (some ⟨b, 0, none⟩)) → Does Try.prog (itF T) [.raw (.pointer (some ⟨b, 0, none⟩))] B (fun s : Plc => .agg (itE (E4 k) s)) (fun s B' => ItAt B' (E4 k) s)
 | [], k, hk, _, _, _, _, _, _ => by simp at hk
 | k' :: ks, k, hk, B, v, h, T, b, hv => by
  rcases List.mem_cons.1 hk with h1 | h1
  ·rw [h1] at h ⊢
   exact Bd1 k' h T b hv
  ·exact Bh2 ks k h1 h T b hv
end
end Go.Proofs.Ytncjbfkkgdepoaa
namespace Go.Proofs.Ytncjbfkkgdepoaa
open Go RowKit Go.Ew
mutual
def S3 : Nd → List UInt8 → List UInt8
 | .nil, _ => []
 | .leaf r v, q => if r = q then v else []
 | .ext r k, q => if r <+: q then S3 k (q.drop r.length) else []
 | .br ks v, q => if q = [] then v else Cm5 ks (q.getD 0 0).toNat (q.drop 1)
def Cm5 : List Nd → Nat → List UInt8 → List UInt8
 | [], _, _ => []
 | k :: _, 0, q => S3 k q
 | _ :: ks, n + 1, q => Cm5 ks n q
end
theorem Bt6 : ∀ (ks : List Nd) (i : Nat) (q : List UInt8), Cm5 ks i q = S3 (ks.getD i .nil) q
 | [], i, q => by simp [Cm5, S3]
 | k :: ks, 0, q => by simp [Cm5]
 | k :: ks, i + 1, q => by rw [Cm5, Bt6 ks i q]; simp
theorem L2 (ks : List Nd) (v : List UInt8) : S3 (.br ks v) [] = v := by simp [S3]
theorem H9 (ks : List Nd) (v : List UInt8) (x : UInt8) (q : List UInt8) : S3 (.br ks v) (x :: q) = S3 (ks.getD x.toNat .nil) q := by simp [S3, Bt6]
theorem Cb2 (q : List UInt8) : S3 .nil q = [] := rfl
theorem N9 (r v q : List UInt8) : S3 (.leaf r v) q = if r = q then v else [] := by rw [S3]
theorem Bh6 (r : List UInt8) (k : Nd) (q : List UInt8) : S3 (.ext r k) (r ++ q) = S3 k q := by
 rw [S3, if_pos (List.prefix_append _ _), List.drop_left]
theorem Aj3 {r : List UInt8} {k : Nd} {q : List UInt8} (h : ¬ r <+: q) : S3 (.ext r k) q = [] := by rw [S3, if_neg h]
/-- What a branch has at a place: a value, or a kid. -/
def Cb0 (ks : List Nd) (v : List UInt8) : Option Nat → Prop
 | none => v ≠ []
 | some i => ks.getD i .nil ≠ .nil
def two (ks : List Nd) (v : List UInt8) : Prop := ∃ a b, a ≠ b ∧ Cb0 ks v a ∧ Cb0 ks v b
inductive Canon : Nd → Prop
 | leaf (r v : List UInt8) (hv : v ≠ []) (h : ∀ x ∈ r, x.toNat < 16) : Canon (.leaf r v)
 | ext (r : List UInt8) (ks : List Nd) (v : List UInt8) (h0 : r ≠ []) (h : ∀ x ∈ r, x.toNat < 16) (hk : Canon (.br ks v)) : Canon (.ext r (.br ks v))
 | br (ks : List Nd) (v : List UInt8) (hl : ks.length = 16) (hk : ∀ k ∈ ks, k ≠ .nil → Canon k) (h2 : two ks v) : Canon (.br ks v)
theorem Cc8 {t : Nd} (h : Canon t) : t ≠ .nil := by cases h <;> simp
theorem Cc7 {t : Nd} (h : Canon t) : Wf t := by
 induction h with
 | leaf r v hv h => exact .leaf r v h
 | ext r ks v h0 h hk ih => exact .ext r _ h h0 ih
 | br ks v hl hk h2 ih =>
  refine .br ks v fun k hm => ?_
  by_cases e : k = .nil
  ·rw [e]; exact .nil
  ·exact ih k hm e
theorem As1 {ks : List Nd} {i : Nat} (h : ks.getD i .nil ≠ .nil) : ks.getD i .nil ∈ ks ∧ i < ks.length := by
 rcases Nat.lt_or_ge i ks.length with hi | hi
 ·refine ⟨?_, hi⟩
  rw [List.getD_eq_getElem?_getD, List.getElem?_eq_getElem hi]
  exact List.getElem_mem hi
 ·rw [List.getD_eq_getElem?_getD, List.getElem?_eq_none hi] at h
  exact absurd rfl h
/-- A key's first step. -/
def Ah6 (q : List UInt8) : Option Nat := q.head?.map (·.toNat)
theorem Cj9 {r v q : List UInt8} (h : S3 (.leaf r v) q ≠ []) : r = q := by
 by_cases h1 : r = q
 ·exact h1
 ·rw [N9, if_neg h1] at h; exact absurd rfl h
end Go.Proofs.Ytncjbfkkgdepoaa
namespace Go.Proofs.Ytncjbfkkgdepoaa
open Go RowKit Go.Ew
theorem Ar5 {α : Type} {p q : Prop} [Decidable p] [Decidable q] (h : p ↔ q) (a b : α) : (if p then a else b) = if q then a else b := by
 by_cases hp : p
 ·rw [if_pos hp, if_pos (h.1 hp)]
 ·rw [if_neg hp, if_neg fun hq => hp (h.2 hq)]
theorem Ab5 (p : List UInt8) (n : Nd) (q : List UInt8) : S3 (Au4 p n) q = if p <+: q then S3 n (q.drop p.length) else [] := by
 unfold Au4
 split
 ·rename_i h; subst h; simp
 ·rw [S3]
instance decNil : (k : Nd) → Decidable (k = .nil)
 | .nil => isTrue rfl
 | .leaf _ _ => isFalse (by simp)
 | .ext _ _ => isFalse (by simp)
 | .br _ _ => isFalse (by simp)
/-- What is behind some nibbles: a leaf's rest and value, or a kid. -/
def An8 (r : List UInt8) (kid : Nd) (w : List UInt8) : Nd := if kid = .nil then .leaf r w else Au4 r kid
theorem Bp9 (p r : List UInt8) (kid : Nd) (w q : List UInt8) : S3 (An8 (p ++ r) kid w) (p ++ q) = S3 (An8 r kid w) q := by
 unfold An8
 split
 ·rw [N9, N9]; exact Ar5 (by rw [List.append_cancel_left_eq]) _ _
 ·rw [Ab5, Ab5, Ar5 (List.prefix_append_right_inj p), List.length_append, ← List.drop_drop, List.drop_left]
theorem Cp0 {p r : List UInt8} {kid : Nd} {w q : List UInt8} (h : ¬ p <+: q) : S3 (An8 (p ++ r) kid w) q = [] := by
 have h2 : ¬ p ++ r <+: q := fun h2 => h ((List.prefix_append _ _).trans h2)
 unfold An8
 split
 ·rw [N9, if_neg]
  rintro rfl
  exact h (List.prefix_append _ _)
 ·rw [Ab5, if_neg h2]
theorem Ca5 (x : UInt8) (s : List UInt8) (kid : Nd) (v q : List UInt8) : S3 (Z9 (x :: s) kid v) q = S3 (An8 s kid v) q := by
 by_cases hk : kid = .nil
 ·subst hk; rw [An8, if_pos rfl]; rfl
 ·have e : Z9 (x :: s) kid v = if 0 < s.length then .ext s kid else kid := by
   cases kid with
   | nil => exact absurd rfl hk
   | leaf => simp [Z9]
   | ext => simp [Z9]
   | br => simp [Z9]
  rw [e, An8, if_neg hk]
  unfold Au4
  cases s with
  | nil => simp
  | cons => simp
theorem Bs9 (rest : List UInt8) (kid : Nd) (v : List UInt8) : Z9 rest kid v ≠ .nil := by
 cases kid with
 | nil => simp [Z9]
 | leaf => simp only [Z9]; split <;> simp
 | ext => simp only [Z9]; split <;> simp
 | br => simp only [Z9]; split <;> simp
theorem Bg3 {r : List UInt8} {kid : Nd} {w q : List UInt8} (hk : kid ≠ .nil → r ≠ []) (h : S3 (An8 r kid w) q ≠ []) : r.head? = q.head? := by
 unfold An8 at h
 split at h
 ·rw [Cj9 h]
 ·rename_i hn
  rw [Ab5] at h
  split at h
  ·rename_i hp
   obtain ⟨u, rfl⟩ := hp
   cases r with
   | nil => exact absurd rfl (hk hn)
   | cons x r => rfl
  ·exact absurd rfl h
theorem Bf3 (ks : List Nd) (w rest : List UInt8) (kid : Nd) (v : List UInt8) : (Q4 ks w rest kid v).1.length = ks.length := by
 unfold Q4; split <;> simp
theorem Bf5 {ks : List Nd} {w rest : List UInt8} {kid : Nd} {v : List UInt8} (hl : ks.length = 16) (h16 : ∀ x ∈ rest, x.toNat < 16) (hk : kid ≠ .nil → rest ≠ []) (q : List UInt8) :
  S3 (.br (Q4 ks w rest kid v).1 (Q4 ks w rest kid v).2) q = if rest.head? = q.head? then S3 (An8 rest kid v) q else S3 (.br ks w) q := by
 unfold Q4
 cases rest with
 | nil =>
  have hkn : kid = .nil := Classical.byContradiction fun h => hk h rfl
  subst hkn
  rw [if_pos rfl]
  cases q with
  | nil => rw [if_pos rfl, L2, An8, if_pos rfl, N9, if_pos rfl]
  | cons y q => rw [if_neg (by simp), H9, H9]
 | cons x s =>
  rw [if_neg (by simp)]
  have hx := h16 x (by simp)
  cases q with
  | nil => rw [if_neg (by simp), L2, L2]
  | cons y q =>
   simp only [List.head?_cons, Option.some.injEq, List.getD_cons_zero]
   rw [H9]
   by_cases e : x = y
   ·subst e
    rw [if_pos rfl]
    have : (ks.set x.toNat (Z9 (x :: s) kid v)).getD x.toNat .nil = Z9 (x :: s) kid v := by
     simp [List.getD, hl, hx]
    rw [this, Ca5]
    exact (Bp9 [x] s kid v q).symm
   ·rw [if_neg e, H9]
    have hne : x.toNat ≠ y.toNat := fun h => e (UInt8.toNat_inj.1 h)
    congr 1
    simp [List.getD, List.getElem?_set_ne hne]
theorem Bf4 {ks : List Nd} {w rest : List UInt8} {kid : Nd} {v : List UInt8} (hl : ks.length = 16) (h16 : ∀ x ∈ rest, x.toNat < 16) (hv : rest = [] → v ≠ []) : Cb0 (Q4 ks w rest kid v).1 (Q4 ks w rest kid v).2 (Ah6 rest) := by
 unfold Q4
 cases rest with
 | nil => rw [if_pos rfl]; exact hv rfl
 | cons x s =>
  rw [if_neg (by simp)]
  have hx := h16 x (by simp)
  show (ks.set x.toNat (Z9 (x :: s) kid v)).getD x.toNat .nil ≠ .nil
  have : (ks.set x.toNat (Z9 (x :: s) kid v)).getD x.toNat .nil = Z9 (x :: s) kid v := by
   simp [List.getD, hl, hx]
  rw [this]
  exact Bs9 _ _ _
theorem Bp1 {ks : List Nd} {w rest : List UInt8} {kid : Nd} {v : List UInt8} {a : Option Nat} (h : Cb0 ks w a) (hv : a = Ah6 rest → rest = [] → v ≠ []) : Cb0 (Q4 ks w rest kid v).1 (Q4 ks w rest kid v).2 a := by
 unfold Q4
 cases rest with
 | nil =>
  rw [if_pos rfl]
  cases a with
  | none => exact hv rfl rfl
  | some i => exact h
 | cons x s =>
  rw [if_neg (by simp)]
  cases a with
  | none => exact h
  | some i =>
   have h' : ks.getD i .nil ≠ .nil := h
   show (ks.set x.toNat (Z9 (x :: s) kid v)).getD i .nil ≠ .nil
   obtain ⟨_, hi⟩ := As1 h'
   rw [List.getD_eq_getElem?_getD, List.getElem?_set]
   split
   ·rw [if_pos (by omega)]; exact Bs9 _ _ _
   ·rwa [List.getD_eq_getElem?_getD] at h'
def Cm4 : Nd → Prop
 | .br _ _ => True
 | _ => False
theorem Bl7 {rest : List UInt8} {kid : Nd} {v : List UInt8} (h16 : ∀ x ∈ rest, x.toNat < 16) (h1 : kid = .nil → v ≠ []) (h2 : kid ≠ .nil → Cm4 kid ∧ Canon kid) : Canon (Z9 rest kid v) := by
 have hd : ∀ x ∈ rest.drop 1, x.toNat < 16 := fun x hx => h16 x (List.mem_of_mem_drop hx)
 by_cases hk : kid = .nil
 ·subst hk; exact .leaf _ _ (h1 rfl) hd
 ·obtain ⟨hb, hc⟩ := h2 hk
  cases kid with
  | br ks w =>
   simp only [Z9]
   split
   ·rename_i hl
    refine .ext _ _ _ ?_ hd hc
    intro h
    have := congrArg List.length h
    simp at this; omega
   ·exact hc
  | _ => exact absurd hb (by simp [Cm4])
theorem An0 {ks : List Nd} {w rest : List UInt8} {kid : Nd} {v : List UInt8} (hk : ∀ k ∈ ks, k ≠ .nil → Canon k) (h16 : ∀ x ∈ rest, x.toNat < 16) (h1 : kid = .nil → rest ≠ [] → v ≠ []) (h2 : kid ≠ .nil → Cm4 kid ∧ Canon kid) : ∀ k ∈ (Q4 ks w rest kid v).1, k ≠ .nil → Canon k := by
 unfold Q4
 split
 ·exact hk
 ·rename_i h0
  intro k hm hn
  rcases List.mem_or_eq_of_mem_set hm with h | rfl
  ·exact hk k h hn
  ·exact Bl7 h16 (fun h => h1 h h0) h2
theorem At3 : ∀ l m : List UInt8, l.take (com l m) = m.take (com l m)
 | a :: l, b :: m => by
  rw [com]
  split
  ·rename_i e; rw [e, List.take_succ_cons, List.take_succ_cons, At3 l m]
  ·rfl
 | [], m => by simp [com]
 | _ :: _, [] => by simp [com]
theorem Ay6 : ∀ l m : List UInt8, l ≠ m → (l.drop (com l m)).head? ≠ (m.drop (com l m)).head?
 | a :: l, b :: m, h => by
  rw [com]
  split
  ·rename_i e
   rw [List.drop_succ_cons, List.drop_succ_cons]
   exact Ay6 l m fun h2 => h (by rw [e, h2])
  ·rename_i e; simpa using e
 | [], [], h => absurd rfl h
 | [], b :: m, _ => by simp [com]
 | a :: l, [], _ => by simp [com]
theorem Ai6 : nil16.length = 16 := by simp [nil16]
theorem Bq5 (q : List UInt8) : S3 (.br nil16 []) q = [] := by
 cases q with
 | nil => exact L2 _ _
 | cons x q =>
  rw [H9]
  have : nil16.getD x.toNat .nil = .nil := by
   rw [List.getD_eq_getElem?_getD, nil16, List.getElem?_replicate]; split <;> rfl
  rw [this]; rfl
theorem Bk2 {p q : List UInt8} (h : Ah6 p = Ah6 q) : p.head? = q.head? := by
 cases p <;> cases q <;> simp_all [Ah6]
 exact UInt8.toNat_inj.1 h
/-- What is parted: what was there, and what comes. -/
theorem Av2 {r rest : List UInt8} {kid : Nd} {w v : List UInt8} (hne : r ≠ rest) (h1 : ∀ x ∈ r, x.toNat < 16) (h2 : ∀ x ∈ rest, x.toNat < 16) (hv : v ≠ [])
  (hn : kid = .nil → w ≠ []) (hb : kid ≠ .nil → Cm4 kid ∧ Canon kid ∧ com r rest < r.length) : Canon (Aa5 r rest kid w v) ∧ ∀ q, S3 (Aa5 r rest kid w v) q = if q = rest then v else S3 (An8 r kid w) q := by
 have hh := Ay6 r rest hne
 have ht := At3 r rest
 obtain ⟨k, hk⟩ : ∃ k, k = com r rest := ⟨_, rfl⟩
 have hsp : Aa5 r rest kid w v = Au4 (rest.take k) (.br (Q4 (Q4 nil16 [] (r.drop k) kid w).1 (Q4 nil16 [] (r.drop k) kid w).2 (rest.drop k) .nil v).1 (Q4 (Q4 nil16 [] (r.drop k) kid w).1 (Q4 nil16 [] (r.drop k) kid w).2 (rest.drop k) .nil v).2) := by rw [hk]; rfl
 rw [← hk] at hh ht hb
 have er : r = rest.take k ++ r.drop k := by rw [← ht, List.take_append_drop]
 have es : rest = rest.take k ++ rest.drop k := by rw [List.take_append_drop]
 have hr16 : ∀ x ∈ r.drop k, x.toNat < 16 := fun x hx => h1 x (List.mem_of_mem_drop hx)
 have hs16 : ∀ x ∈ rest.drop k, x.toNat < 16 := fun x hx => h2 x (List.mem_of_mem_drop hx)
 have hp16 : ∀ x ∈ rest.take k, x.toNat < 16 := fun x hx => h2 x (List.mem_of_mem_take hx)
 have hkr : kid ≠ .nil → r.drop k ≠ [] := fun h e => by
  have := (hb h).2.2
  have := congrArg List.length e
  simp at this; omega
 obtain ⟨p, hp⟩ : ∃ p, p = rest.take k := ⟨_, rfl⟩
 obtain ⟨r', hr'⟩ : ∃ r', r' = r.drop k := ⟨_, rfl⟩
 obtain ⟨s', hs'⟩ : ∃ s', s' = rest.drop k := ⟨_, rfl⟩
 rw [hsp]
 rw [← hp, ← hr'] at er
 rw [← hp, ← hs'] at es
 rw [← hr', ← hs'] at hh
 rw [← hr'] at hr16 hkr
 rw [← hs'] at hs16
 rw [← hp] at hp16
 rw [← hp, ← hr', ← hs']
 have hl1 : (Q4 nil16 [] r' kid w).1.length = 16 := by rw [Bf3, Ai6]
 have hbr : Canon (.br (Q4 (Q4 nil16 [] r' kid w).1 (Q4 nil16 [] r' kid w).2 s' .nil v).1 (Q4 (Q4 nil16 [] r' kid w).1 (Q4 nil16 [] r' kid w).2 s' .nil v).2) := by
  refine .br _ _ (by rw [Bf3, hl1]) ?_ ?_
  ·refine An0 (An0 (fun k hm hkn => absurd (List.eq_of_mem_replicate hm) hkn) hr16 (fun h _ => hn h) (fun h => ⟨(hb h).1, (hb h).2.1⟩)) hs16 (fun _ _ => hv) (fun h => absurd rfl h)
  ·refine ⟨Ah6 r', Ah6 s', fun h => hh (Bk2 h), ?_, Bf4 hl1 hs16 (fun _ => hv)⟩
   exact Bp1 (Bf4 Ai6 hr16 (fun h => by
    by_cases hkn : kid = .nil
    ·exact hn hkn
    ·exact absurd h (hkr hkn))) (fun _ _ => hv)
 refine ⟨?_, fun q => ?_⟩
 ·unfold Au4
  split
  ·exact hbr
  ·rename_i h0
   exact .ext _ _ _ h0 hp16 hbr
 ·rw [Ab5]
  by_cases hpq : p <+: q
  ·obtain ⟨q', rfl⟩ := hpq
   rw [if_pos (List.prefix_append _ _), List.drop_left]
   have e1 : S3 (An8 r kid w) (p ++ q') = S3 (An8 r' kid w) q' := by
    conv => lhs; rw [er]
    rw [Bp9]
   have e2 : (p ++ q' = rest) = (q' = s') := by rw [es, List.append_cancel_left_eq]
   rw [e1, Ar5 (iff_of_eq e2), Bf5 hl1 hs16 (fun h => absurd rfl h), Bf5 Ai6 hr16 hkr]
   by_cases c1 : s'.head? = q'.head?
   ·rw [if_pos c1, An8, if_pos rfl, N9]
    by_cases c2 : q' = s'
    ·rw [if_pos c2, if_pos c2.symm]
    ·rw [if_neg c2, if_neg (Ne.symm c2)]
     by_cases c3 : S3 (An8 r' kid w) q' = []
     ·exact c3.symm
     ·exact absurd ((Bg3 hkr c3).trans c1.symm) hh
   ·have c4 : q' ≠ s' := fun h => c1 (by rw [h])
    rw [if_neg c1, if_neg c4]
    by_cases c2 : r'.head? = q'.head?
    ·rw [if_pos c2]
    ·rw [if_neg c2, Bq5]
     by_cases c3 : S3 (An8 r' kid w) q' = []
     ·exact c3.symm
     ·exact absurd (Bg3 hkr c3) c2
  ·rw [if_neg hpq, if_neg (fun h => hpq (by rw [h, es]; exact List.prefix_append _ _)), er, Cp0 hpq]
theorem Ca6 (f : Nat) (ks : List Nd) (w rest v : List UInt8) : Cm4 (Q5 f (.br ks w) rest v) := by
 cases f with
 | zero => trivial
 | succ f => rw [Q5]; split <;> trivial
/-- The law of putting. -/
theorem Ci6 : ∀ (f : Nat) (t : Nd) (rest v : List UInt8), (t = .nil ∨ Canon t) → rest.length < f → (∀ x ∈ rest, x.toNat < 16) → v ≠ [] → Canon (Q5 f t rest v) ∧ ∀ q, S3 (Q5 f t rest v) q = if q = rest then v else S3 t q := by
 intro f
 induction f with
 | zero => intro t rest v ht hf; omega
 | succ f ih =>
  intro t rest v ht hf h16 hv
  have hleaf : Canon (.leaf rest v) := .leaf _ _ hv h16
  have hlg : ∀ q, S3 (.leaf rest v) q = if q = rest then v else [] := fun q => by rw [N9]; simp only [eq_comm]
  rcases ht with rfl | ht
  ·exact ⟨hleaf, hlg⟩
  ·cases ht with
   | leaf r w hw hr =>
    rw [Q5]
    by_cases e : r = rest
    ·rw [if_pos e]
     refine ⟨hleaf, fun q => ?_⟩
     rw [hlg, N9]
     by_cases c : q = rest
     ·rw [if_pos c, if_pos c]
     ·rw [if_neg c, if_neg c, if_neg (by rw [e]; exact Ne.symm c)]
    ·rw [if_neg e]
     obtain ⟨h1, h2⟩ := Av2 (kid := .nil) (w := w) e hr h16 hv (fun _ => hw) (fun h => absurd rfl h)
     exact ⟨h1, fun q => by rw [h2, An8, if_pos rfl]⟩
   | ext r ks w h0 hr hk =>
    have hrl : 0 < r.length := List.length_pos_iff.2 h0
    have hle := Ao6 r rest
    rw [Q5]
    by_cases e : com r rest = r.length
    ·rw [if_pos e]
     have ht := At3 r rest
     rw [e, List.take_length] at ht
     have es : rest = r ++ rest.drop r.length := by
      conv => lhs; rw [← List.take_append_drop r.length rest]
      rw [← ht]
     obtain ⟨h1, h2⟩ := ih (.br ks w) (rest.drop (com r rest)) v (.inr hk) (by rw [List.length_drop]; omega) (fun x hx => h16 x (List.mem_of_mem_drop hx)) hv
     rw [e] at h1 h2 ⊢
     have hbr := Ca6 f ks w (rest.drop r.length) v
     refine ⟨?_, fun q => ?_⟩
     ·generalize Q5 f (.br ks w) (rest.drop r.length) v = t at h1 hbr
      cases t with
      | br ks' w' => exact .ext _ _ _ h0 hr h1
      | _ => exact absurd hbr (by simp [Cm4])
     ·by_cases hp : r <+: q
      ·obtain ⟨q', rfl⟩ := hp
       have : (r ++ q' = rest) = (q' = rest.drop r.length) := by
        conv => lhs; rw [es]
        rw [List.append_cancel_left_eq]
       rw [Bh6, Bh6, h2, Ar5 (iff_of_eq this)]
      ·rw [Aj3 hp, Aj3 hp, if_neg]
       intro h
       exact hp (by rw [h, es]; exact List.prefix_append _ _)
    ·rw [if_neg e]
     have hne : r ≠ rest := by
      rintro rfl
      apply e
      have : ∀ l : List UInt8, com l l = l.length := fun l => by
       induction l with
       | nil => rfl
       | cons a l ih => rw [com, if_pos rfl, ih]; rfl
      exact this _
     obtain ⟨h1, h2⟩ := Av2 (kid := .br ks w) (w := []) hne hr h16 hv (fun h => by cases h) (fun _ => ⟨trivial, hk, by omega⟩)
     refine ⟨h1, fun q => ?_⟩
     have hbn : (Nd.br ks w) ≠ .nil := by simp
     rw [h2, An8, if_neg hbn, Au4, if_neg h0]
   | br ks w hl hk h2 =>
    rw [Q5]
    by_cases e : rest = []
    ·rw [if_pos e]
     refine ⟨.br _ _ hl hk ?_, fun q => ?_⟩
     ·obtain ⟨a, b, hab, ha, hb⟩ := h2
      have key : ∀ a, Cb0 ks w a → Cb0 ks v a := fun a ha => by
       cases a with
       | none => exact hv
       | some i => exact ha
      exact ⟨a, b, hab, key a ha, key b hb⟩
     ·cases q with
      | nil => rw [L2, if_pos e.symm]
      | cons x q => rw [H9, H9, if_neg (by rw [e]; simp)]
    ·rw [if_neg e]
     cases rest with
     | nil => exact absurd rfl e
     | cons x s =>
      simp only [List.getD_cons_zero, List.drop_succ_cons, List.drop_zero]
      have hx := h16 x (by simp)
      have hkx : ks.getD x.toNat .nil = .nil ∨ Canon (ks.getD x.toNat .nil) := by
       by_cases h : ks.getD x.toNat .nil = .nil
       ·exact .inl h
       ·exact .inr (hk _ (As1 h).1 h)
      obtain ⟨g1, g2⟩ := ih (ks.getD x.toNat .nil) s v hkx (by simp at hf; omega) (fun y hy => h16 y (by simp [hy])) hv
      refine ⟨.br _ _ (by simp [hl]) (fun k hm hn => ?_) ?_, fun q => ?_⟩
      ·rcases List.mem_or_eq_of_mem_set hm with h | rfl
       ·exact hk k h hn
       ·exact g1
      ·obtain ⟨a, b, hab, ha, hb⟩ := h2
       have key : ∀ a, Cb0 ks w a → Cb0 (ks.set x.toNat (Q5 f (ks.getD x.toNat .nil) s v)) w a := fun a ha => by
        cases a with
        | none => exact ha
        | some i =>
         have h' : ks.getD i .nil ≠ .nil := ha
         show (ks.set x.toNat _).getD i .nil ≠ .nil
         obtain ⟨_, hi⟩ := As1 h'
         rw [List.getD_eq_getElem?_getD, List.getElem?_set]
         split
         ·rw [if_pos (by omega)]; exact Cc8 g1
         ·rwa [List.getD_eq_getElem?_getD] at h'
       exact ⟨a, b, hab, key a ha, key b hb⟩
      ·cases q with
       | nil => rw [L2, L2, if_neg (by simp)]
       | cons y q =>
        rw [H9, H9]
        by_cases c : x = y
        ·subst c
         have : (ks.set x.toNat (Q5 f (ks.getD x.toNat .nil) s v)).getD x.toNat .nil = Q5 f (ks.getD x.toNat .nil) s v := by
          simp [List.getD, hl, hx]
         rw [this, g2]
         simp only [List.cons.injEq, true_and]
        ·have hne : x.toNat ≠ y.toNat := fun h => c (UInt8.toNat_inj.1 h)
         rw [if_neg (by simp; intro h; exact absurd h.symm c)]
         congr 1
         simp [List.getD, List.getElem?_set_ne hne]
end Go.Proofs.Ytncjbfkkgdepoaa
namespace Go.Proofs.Ytncjbfkkgdepoaa
open Go RowKit Go.Ew
abbrev KV := List UInt8 × List UInt8
end Go.Proofs.Ytncjbfkkgdepoaa
