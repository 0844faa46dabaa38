/- Part of a proof over the seat Ytncjbfkkgdepoaa. -/
import Derived.Test.YtncjbfkkgdepoaaG12
import Derived.Test.YtncjbfkkgdepoaaTD
set_option linter.unusedSimpArgs false
set_option linter.unusedVariables false
set_option maxRecDepth 100000
namespace Go.Proofs.Ytncjbfkkgdepoaa
open Go RowKit Go.Ew
set_option maxHeartbeats 8000000
theorem Df8 : C4 Try.f31.ntmps (Try.f31.body.getD .skip) = true := by kernel_rfl
theorem Df9 : C4 Try.f30.ntmps (Try.f30.body.getD .skip) = true := by kernel_rfl
theorem Df4 : C4 Try.f35.ntmps (Try.f35.body.getD .skip) = true := by kernel_rfl
theorem Df6 : C4 Try.f33.ntmps (Try.f33.body.getD .skip) = true := by kernel_rfl
theorem Dg2 : C4 Try.f21.ntmps (Try.f21.body.getD .skip) = true := by kernel_rfl
theorem Ah3 {α : Type} {f : α → List EV} {k : Nat} (hk : 1 < k) {l : List α} {i : Nat} {a : α} (h : ∀ a, (f a).length = k) (hi : i < l.length) : H8 (l.flatMap f) (i * k) (f a) = (l.set i a).flatMap f := by
 have hl : (l.flatMap f).length = l.length * k := by rw [Q7 (k := k) (fun a _ => h a)]; exact Nat.mul_comm _ _
 have hik : i * k + k ≤ l.length * k := by
  have : (i + 1) * k ≤ l.length * k := Nat.mul_le_mul_right k hi
  rw [Nat.succ_mul] at this; exact this
 rw [Aa2 _ _ _ (by rw [h, hl]; exact hik), h]
 have e1 : l = l.take i ++ l[i] :: l.drop (i + 1) := by rw [← List.drop_eq_getElem_cons hi, List.take_append_drop]
 have e2 : l.set i a = l.take i ++ a :: l.drop (i + 1) := by
  rw [List.set_eq_take_append_cons_drop]; simp [hi]
 have e3 : ((l.take i).flatMap f).length = i * k := by
  rw [Q7 (k := k) (fun a _ => h a), List.length_take, Nat.min_eq_left (by omega)]; exact Nat.mul_comm _ _
 have e4 : l.flatMap f = (l.take i).flatMap f ++ (f l[i] ++ (l.drop (i + 1)).flatMap f) := by
  conv => lhs; rw [e1]
  rw [List.flatMap_append, List.flatMap_cons]
 rw [e2, List.flatMap_append, List.flatMap_cons, e4, List.take_left' e3, ← List.drop_drop, List.drop_left' e3, List.drop_left' (h _), List.append_assoc]
theorem Bf3 {B : Base} {nd : Nd} {v : Value} (h : NdAt B nd v)
  (hi : ∀ T b, v = .iface T (.pointer (some ⟨b, 0, none⟩)) → Does Try.prog (itF T) [.raw (.pointer (some ⟨b, 0, none⟩))] B (fun s : Plc => .agg (itE (E6 nd) s)) (fun s B' => ItAt B' (E6 nd) s)) (hok : chk (E6 nd) 0 = 0) (hf : (J1 (E6 nd)).length < 35184372088832) :
  Does Try.prog 149 [.raw v] B (fun s : Plc => .agg (itE (P5 (E6 nd)) s)) (fun s B' => ItAt B' (P5 (E6 nd)) s) := by
 refine K0 Cx4 (fun s B B' hB hR => hR.ext hB) Try.func149 rfl Cv2 (by simp [Try.f149]) (by simp [A0, closed]) (fun B0 hB0 => A3 1000 ?_)
 replace h := h.ext' hB0
 rcases h.cases' with ⟨rfl, rfl⟩ | ⟨hkn, T, a, rfl⟩
 ·repeat' (simp (maxSteps := 4000000) (disch := omega) only [go_sem, ↓reduceIte, Try.f149])
  refine As3 rfl Try.underlying71 rfl (A3 1000 ?_)
  repeat' (simp (maxSteps := 4000000) (disch := omega) only [go_sem, ↓reduceIte])
  refine F4 (Ac2 [] 0 B0 none 0 (S6 _) rfl (by omega)) (fun _ => by simp [closed, A0]) (fun s1 B1 hB1 hR1 => A3 1000 ?_)
  change BExt B0 B1 at hB1
  rw [Bz1]
  repeat' (first | with_reducible refine And.intro (by omega) ?_ | simp (maxSteps := 4000000) (disch := omega) only [go_sem, ↓reduceIte])
  first | exact ⟨hB1, s1, rfl, by simp [closed, A0], hR1⟩ | exact ⟨s1, rfl, by simp [closed, A0], hR1⟩
 ·replace hi := M9 (hi T a rfl) hB0
  have hTn := Bg0 h
  obtain ⟨t, ht⟩ : ∃ t, t = E6 nd := ⟨_, rfl⟩
  have hfm := Bt4 h hi hok hf
  have hinv := fun w => Cf0 h w
  rw [← ht] at hi hok hf hfm ⊢
  repeat' (simp (maxSteps := 4000000) (disch := omega) only [go_sem, ↓reduceIte, Try.f149])
  refine Ab5 rfl Try.underlying71 rfl (A3 1000 ?_)
  repeat' (simp (maxSteps := 4000000) (disch := omega) only [go_sem, ↓reduceIte])
  refine Am3 rfl Try.underlying78 Ag5 rfl hTn (A3 1000 ?_)
  repeat' (simp (maxSteps := 4000000) (disch := omega) only [go_sem, ↓reduceIte])
  refine F4 hfm (fun _ => by simp [closed, A0]) (fun s1 B1 hB1 hR1 => A3 1000 ?_)
  change BExt B0 B1 at hB1
  by_cases hlt : (J1 t).length < 32
  ·have hr : P5 t = t := by rw [P5, if_pos hlt]
   have cA : decide (((J1 t).length : Int) < 32) = true := decide_eq_true (by omega)
   rw [hr]
   repeat' (simp (maxSteps := 4000000) (disch := omega) only [go_sem, ↓reduceIte, cA])
   refine Db3 rfl rfl hinv ?_
   refine F4 (M9 hi hB1) (fun _ => by simp [closed, A0]) (fun s2 B2 hB2 hR2 => A3 1000 ?_)
   change BExt B1 B2 at hB2
   repeat' (simp (maxSteps := 4000000) (disch := omega) only [go_sem, ↓reduceIte])
   first | exact ⟨hB1.trans hB2, s2, rfl, by simp [closed, A0], hR2⟩ | exact ⟨s2, rfl, by simp [closed, A0], hR2⟩
  ·have hr : P5 t = txt (Bg4 (J1 t)) := by rw [P5, if_neg hlt]
   have cA : decide (((J1 t).length : Int) < 32) = false := decide_eq_false (by omega)
   rw [hr]
   have hlk := O0 (J1 t)
   repeat' (simp (maxSteps := 4000000) (disch := omega) only [go_sem, ↓reduceIte, cA])
   refine F4 (Ai6 (J1 t) _ _ s1.1 s1.2 hR1.1 rfl (by omega)) (fun _ => A2 _ _ _ _) (fun s2 B2 hB2 hR2 => A3 1000 ?_)
   change BExt B1 B2 at hB2
   have hbe := Z0 (J1 t)
   have hcl : ∀ n, A0 n (C9 .u8 (N9 (J1 t)) 32) := fun n => A2 _ _ _ _
   have hsp : H8 (C9 .u8 (fun _ => 0) 32) 0 (C9 .u8 (N9 (J1 t)) 32) = C9 .u8 (N9 (J1 t)) 32 := by rw [← hbe]; exact P3 hlk (by omega) _
   repeat' (first | with_reducible refine And.intro (by first | omega | (simp; done)) ?_ | simp (maxSteps := 4000000) (disch := omega) only [go_sem, ↓reduceIte, hsp])
   refine Ab9 1 0 32 32 [] (Bg4 (J1 t)) Cp6 (by simp [A0]) rfl rfl (by rw [hbe]; rfl) (fun s => by simp [closed, A0]) (fun B ad cap hB hb => Ac2 (Bg4 (J1 t)) 32 B ad cap hb hlk (by omega)) (fun s3 B3 hB3 hR3 => A3 1000 ?_)
   change BExt B2 B3 at hB3
   repeat' (simp (maxSteps := 4000000) (disch := omega) only [go_sem, ↓reduceIte])
   have hBX := hB1.trans (hB2.trans hB3)
   first | exact ⟨hBX, s3, rfl, by simp [closed, A0], hR3⟩ | exact ⟨s3, rfl, by simp [closed, A0], hR3⟩
mutual
def Ax6 : Itm → Nat
 | .mk l b ks => if l = 1 then 1 + Bd0 ks else 0
def Bd0 : List Itm → Nat
 | [] => 0
 | k :: ks => max (Ax6 k) (Bd0 ks)
end
mutual
theorem Bu1 : ∀ (t : Itm) (d : Nat), okI t = true → d + Ax6 t ≤ 64 → chk t d = 0
 | .mk l b ks, d, h, hd => by
  simp only [okI, Bool.and_eq_true, Bool.or_eq_true, beq_iff_eq, List.isEmpty_iff] at h
  obtain ⟨h1, h2⟩ := h
  rw [chk]
  rcases h1 with ⟨rfl, rfl⟩ | ⟨rfl, rfl⟩
  ·simp [Az7]
  ·simp only [Ax6, if_true] at hd
   rw [if_neg (by omega), if_neg (by simp)]
   exact Bh8 ks (d + 1) h2 (by omega)
theorem Bh8 : ∀ (ks : List Itm) (d : Nat), okL ks = true → d + Bd0 ks ≤ 64 → Az7 ks d = 0
 | [], _, _, _ => rfl
 | k :: ks, d, h, hd => by
  simp only [okL, Bool.and_eq_true] at h
  simp only [Bd0] at hd
  rw [Az7, if_pos (Bu1 k d h.1 (by omega))]
  exact Bh8 ks d h.2 (by omega)
end
theorem Cp0 (base n : Nat) : 1 ≤ (hd base n).length := by
 rw [Bg7]; split <;> omega
mutual
theorem Bh5 : ∀ (t : Itm), Ax6 t ≤ (J1 t).length
 | .mk l b ks => by
  rw [Ax6, J1]
  split
  ·rw [List.length_append]
   have h1 := Cp0 192 (E4 ks).length
   have h2 := Ax5 ks
   omega
  ·omega
theorem Ax5 : ∀ (ks : List Itm), Bd0 ks ≤ (E4 ks).length
 | [] => by simp [Bd0]
 | k :: ks => by
  rw [Bd0, E4, List.length_append]
  have h1 := Bh5 k
  have h2 := Ax5 ks
  omega
end
theorem Ci1 (p : List UInt8) : okI (txt p) = true := rfl
theorem Bf8 {t : Itm} (h : okI t = true) : okI (P5 t) = true := by
 unfold P5
 split
 ·exact h
 ·rfl
theorem Bh4 (t : Itm) : Ax6 (P5 t) ≤ 31 := by
 unfold P5
 split
 ·have := Bh5 t; omega
 ·show Ax6 (.mk 0 _ _) ≤ 31
  simp [Ax6]
theorem Ci0 {a b : List Itm} (h1 : okL a = true) (h2 : okL b = true) : okL (a ++ b) = true := by
 rw [okL_iff] at *
 intro k hk
 rcases List.mem_append.1 hk with h | h
 ·exact h1 k h
 ·exact h2 k h
mutual
theorem okN : ∀ nd : Nd, okI (E6 nd) = true
 | .nil => rfl
 | .leaf r v => rfl
 | .ext r k => by
  have := Bf8 (okN k)
  simp [E6, lst, okI, okL, this, Ci1]
 | .br ks v => by
  have h1 := Db1 ks
  have h2 : okL (Ae3 ks ++ [txt v]) = true := Ci0 h1 rfl
  rw [E6, lst, okI, h2]; rfl
theorem Db1 : ∀ ks : List Nd, okL (Ae3 ks) = true
 | [] => rfl
 | k :: ks => by rw [Ae3, okL, Bf8 (okN k), Db1 ks]; rfl
end
theorem Cj5 {ks : List Itm} {n : Nat} (h : ∀ k ∈ ks, Ax6 k ≤ n) : Bd0 ks ≤ n := by
 induction ks with
 | nil => simp [Bd0]
 | cons k ks ih =>
  rw [Bd0]
  have h1 := h k (by simp)
  have h2 := ih fun a ha => h a (by simp [ha])
  omega
theorem Dk1 (nd : Nd) : Ax6 (E6 nd) ≤ 33 := by
 cases nd with
 | nil => simp [E6, txt, Ax6]
 | leaf r v => simp [E6, lst, txt, Ax6, Bd0]
 | ext r k =>
  have := Bh4 (E6 k)
  rw [E6, lst, Ax6, if_pos rfl, Bd0, Bd0, Bd0]
  have h2 : Ax6 (txt (pfx r false)) = 0 := by simp [txt, Ax6]
  omega
 | br ks v =>
  have : Bd0 (Ae3 ks ++ [txt v]) ≤ 31 := Cj5 fun k hk => by
   rcases List.mem_append.1 hk with h | h
   ·rw [Aa3] at h
    obtain ⟨q, _, rfl⟩ := List.mem_map.1 h
    exact Bh4 _
   ·simp at h; subst h; simp [txt, Ax6]
  rw [E6, lst, Ax6, if_pos rfl]
  omega
theorem Cz5 (nd : Nd) : chk (E6 nd) 0 = 0 := Bu1 _ 0 (okN nd) (by have := Dk1 nd; omega)
theorem N5 {p : List UInt8} (h : p.length < 4611686018427387904) : (J1 (txt p)).length ≤ 9 + p.length := by
 rw [txt, J1, if_neg (by omega)]
 split
 ·omega
 ·rw [List.length_append]; have := (Ar5 (base := 128) h).2; omega
theorem Ax1 (t : Itm) : (J1 (P5 t)).length ≤ 41 := by
 unfold P5
 split
 ·omega
 ·have := N5 (p := Bg4 (J1 t)) (by rw [O0]; omega)
  rw [O0] at this; exact this
theorem Bl5 (ks : List Nd) : (E4 (Ae3 ks)).length ≤ 41 * ks.length := by
 induction ks with
 | nil => simp [Ae3, E4]
 | cons k ks ih =>
  rw [Ae3, E4, List.length_append, List.length_cons]
  have := Ax1 (E6 k)
  omega
theorem U9 {ks : List Itm} (h : (E4 ks).length < 4611686018427387904) : (J1 (lst ks)).length ≤ 9 + (E4 ks).length := by
 rw [lst, J1, if_pos rfl, List.length_append]; have := (Ar5 (base := 192) h).2; omega
theorem Ce3 (r : List UInt8) (b : Bool) : (pfx r b).length ≤ r.length + 2 := by
 rw [pfx, I5]; split <;> simp <;> omega
theorem Ca7 {B : Base} {nd : Nd} {v : Value} (h : NdAt B nd v) : (J1 (E6 nd)).length < 35184372088832 := by
 cases h with
 | nil => show (J1 (txt [])).length < _; decide
 | leaf r v b rA vA rc vc hc hr hv h1 h2 h3 =>
  have e1 := Ce3 r true
  have e2 := N5 (p := pfx r true) (by omega)
  have e3 := N5 (p := v) (by omega)
  have e4 : (E4 [txt (pfx r true), txt v]).length = (J1 (txt (pfx r true))).length + (J1 (txt v)).length := by simp [E4]
  have := U9 (ks := [txt (pfx r true), txt v]) (by omega)
  rw [E6]; omega
 | ext r k b rA rc kv hc hr h1 h2 hk =>
  have e1 := Ce3 r false
  have e2 := N5 (p := pfx r false) (by omega)
  have e3 := Ax1 (E6 k)
  have e4 : (E4 [txt (pfx r false), P5 (E6 k)]).length = (J1 (txt (pfx r false))).length + (J1 (P5 (E6 k))).length := by simp [E4]
  have := U9 (ks := [txt (pfx r false), P5 (E6 k)]) (by omega)
  rw [E6]; omega
 | br qs v b vA vc hc hq hk hv h3 =>
  have e2 := Bl5 (qs.map Prod.fst)
  have e3 := N5 (p := v) (by omega)
  have e4 : (E4 (Ae3 (qs.map Prod.fst) ++ [txt v])).length = (E4 (Ae3 (qs.map Prod.fst))).length + (J1 (txt v)).length := by rw [V4, List.length_append]; simp [E4]
  rw [List.length_map, hq] at e2
  have := U9 (ks := Ae3 (qs.map Prod.fst) ++ [txt v]) (by omega)
  rw [E6]; omega
end Go.Proofs.Ytncjbfkkgdepoaa
namespace Go.Proofs.Ytncjbfkkgdepoaa
open Go RowKit Go.Ew
set_option maxHeartbeats 8000000
/-- No item yet. -/
def zQ : Itm × Plc := (txt [], ⟨none, 0, none, 0⟩)
theorem Ct7 (B : Base) : ItAt B zQ.1 zQ.2 := Cd7 (S6 none) (by simp)
theorem Bv2 {B : Base} {ks : List Nd} {v : List UInt8} {b : Nat} (h : NdAt B (.br ks v) (.iface 119 (.pointer (some ⟨b, 0, none⟩))))
  (hrf : ∀ k ∈ ks, ∀ B' kv, BExt B B' → NdAt B' k kv → Does Try.prog 149 [.raw kv] B' (fun s : Plc => .agg (itE (P5 (E6 k)) s)) (fun s B' => ItAt B' (P5 (E6 k)) s)) :
  Does Try.prog 150 [.raw (.pointer (some ⟨b, 0, none⟩))] B (fun s : Plc => .agg (itE (E6 (.br ks v)) s)) (fun s B' => ItAt B' (E6 (.br ks v)) s) := by
 refine K0 Cx3 (fun s B B' hB hR => hR.ext hB) Try.func150 rfl Cv1 (by simp [Try.f150]) (by simp [A0, closed]) (fun B0 hB0 => A3 1000 ?_)
 replace h := h.ext' hB0
 cases h with
 | br qs w _ wA wc hc hq hkk hwv e3 =>
  obtain ⟨l1, l2, l3, _⟩ := Ak3 hc (o := 0) (n := 16) (by simp [hq]) (by omega)
  have e : I2 (some (⟨b, 0, none⟩ : Addr)) 0 = ⟨b, 0, none⟩ := rfl
  rw [e] at l1 l3
  have l5 : ((qs.map Prod.snd ++ [Value.slice wA v.length wc]).drop 0).take 16 = qs.map Prod.snd := by
   rw [List.drop_zero, List.take_left' (by simp [hq])]
  rw [l5] at l1
  have l6 : (qs.map Prod.snd).map D0 = qs.map fun q => .raw q.2 := by
   rw [List.map_map]; exact List.map_congr_left fun q hm => (hkk q hm).ofS
  rw [l6] at l1
  have qD : B0.D b := l2
  obtain ⟨q1, q1d, q1s⟩ := hc.raw (j := 16) (v := .slice wA v.length wc) (by simp [hq])
  simp only [F1, Addr.add, ↓reduceIte, Nat.reduceAdd, Nat.reduceEqDiff, D0, if_false, Nat.zero_add, Nat.one_ne_zero] at q1 q1s
  have hone : I0 (qs.map fun q => EV.raw q.2) = true := by
   have : ∀ l : List (Nd × Value), (∀ q ∈ l, NdAt B0 q.1 q.2) → I0 (l.map fun q => EV.raw q.2) = true := fun l => by
    induction l with
    | nil => intro _; rfl
    | cons q l ih =>
     intro hl
     have h1 : (EV.raw q.2).one = true := by
      have := hl q (by simp)
      generalize q.1 = k, q.2 = kv at this
      cases this <;> rfl
     simp only [List.map_cons, I0, h1, Bool.true_and]
     exact ih fun q hq => hl q (by simp [hq])
   exact this qs hkk
  obtain ⟨L, hL⟩ : ∃ L, L = qs.map fun q => EV.raw q.2 := ⟨_, rfl⟩
  have hLl : L.length = 16 := by rw [hL]; simp [hq]
  rw [← hL] at l1 hone
  have hLc : ∀ n, A0 n L := fun n => by
   rw [hL]
   have : ∀ l : List (Nd × Value), A0 n (l.map fun q => EV.raw q.2) := fun l => by
    induction l with
    | nil => trivial
    | cons a l ih => exact ⟨trivial, ih⟩
   exact this qs
  repeat' (first | with_reducible refine And.intro (by first | omega | (constructor <;> assumption) | (simp; done)) ?_ | simp (maxSteps := 4000000) (disch := omega) only [go_sem, ↓reduceIte, Try.f150, l1, hone, hLl])
  obtain ⟨Z, hZ⟩ : ∃ Z, Z = List.replicate 17 zQ := ⟨_, rfl⟩
  have hzr : rep 17 [EV.int .i64 0, .raw (.slice none 0 0), .raw (.slice none 0 0)] = Z.flatMap itQ := by rw [hZ]; rfl
  have hzc : ∀ n, A0 n (Z.flatMap itQ) := fun n => F3 n Z
  refine H1 (S := Nat × List (Itm × Plc) × Base) (fun s => s.1 ≤ 16 ∧ s.2.1.length = 17 ∧ BExt B0 s.2.2 ∧ (∀ q ∈ s.2.1, ItAt s.2.2 q.1 q.2) ∧ s.2.1.map Prod.fst = Ae3 ((qs.map Prod.fst).take s.1) ++ List.replicate (17 - s.1) (txt []))
   (fun s => ⟨[(11, .int .i64 (s.1 : Nat)), (10, .agg L), (3, .sl 1 0 17 17), (2, .ptr 0 0), (0, .raw (.pointer (some ⟨b, 0, none⟩)))], 2, [(1, some (.cells (s.2.1.flatMap itQ) 91 (0, 0))), (0, some (.cells [.int .i64 0, .raw (.slice none 0 0), .raw (.slice none 0 0)] 91 (0, 0)))], s.2.2, []⟩)
   (fun s => 16 - s.1) (0, Z, B0) ⟨Nat.zero_le _, by simp [hZ], BExt.refl _, fun q hq => by
    simp only [hZ] at hq
    obtain rfl := List.eq_of_mem_replicate hq
    exact Ct7 _, by simp [hZ, zQ, Ae3]⟩ (Weak.sub (A7 (by simp [wσ, go_sem, closed, A0, A4, hzr, hLc, hzc] <;> omega) (by simp [whs, Go.Ew.hget, go_sem, EObj.closed, closed, A0, A4, hzr, hLc, hzc]) (by first | (simp [*]; done) | (simp only [cxG]; omega)) rfl rfl (by simp))) ?_
  rintro ⟨i, ps, B2⟩ ⟨hi, hpl, hB2, hok, hps⟩
  simp only at hi hpl hB2 hok hps ⊢
  rcases Nat.lt_or_ge i 16 with hi2 | hi2
  ·have cA : decide ((i : Int) < 16) = true := decide_eq_true (by omega)
   have hiq : i < qs.length := by omega
   have hLi : L[i]? = some (.raw (qs[i]).2) := by rw [hL]; simp [hiq]
   have hLi' : L.getD i .any = .raw (qs[i]).2 := by rw [List.getD_eq_getElem?_getD, hLi]; rfl
   refine A3 1000 ?_
   repeat' (first | with_reducible refine And.intro (by omega) ?_ | simp (maxSteps := 4000000) (disch := omega) only [go_sem, ↓reduceIte, cA, hLi, hLi', hLl, Int.toNat_natCast, L5, hpl])
   have hki : qs[i].1 ∈ qs.map Prod.fst := List.mem_map.2 ⟨_, List.getElem_mem hiq, rfl⟩
   refine F4 (hrf qs[i].1 hki B2 qs[i].2 (hB0.trans hB2) ((hkk _ (List.getElem_mem hiq)).ext' hB2)) (fun _ => by simp [closed, A0]) (fun s3 B3 hB3 hR3 => A3 1000 ?_)
   change BExt B2 B3 at hB3
   have hst : H8 (ps.flatMap itQ) (i * 3) (itE (P5 (E6 qs[i].1)) s3) = (ps.set i (P5 (E6 qs[i].1), s3)).flatMap itQ := Ah3 (f := itQ) (k := 3) (a := (P5 (E6 qs[i].1), s3)) (by omega) (fun _ => rfl) (by omega)
   repeat' (first | with_reducible refine And.intro (by omega) ?_ | simp (maxSteps := 4000000) (disch := omega) only [go_sem, ↓reduceIte, hst, L5, hpl, Int.toNat_natCast])
   have hc2 : ∀ n, A0 n ((ps.set i (P5 (E6 qs[i].1), s3)).flatMap itQ) := fun n => F3 n _
   refine ⟨(i + 1, ps.set i (P5 (E6 qs[i].1), s3), B3), ⟨by simp only; omega, by simp [hpl], hB2.trans hB3, fun q hq => ?_, ?_⟩, Weak.sub (A7 (by simp [wσ, go_sem, closed, A0, A4, hLc, hc2] <;> omega) (by simp [whs, Go.Ew.hget, go_sem, EObj.closed, closed, A0, A4, hLc, hc2]) (by first | (simp [*]; done) | (simp only [cxG]; omega)) rfl rfl (by simp)), by simp only; omega⟩
   ·rcases List.mem_or_eq_of_mem_set hq with hq | rfl
    ·exact (hok q hq).ext hB3
    ·exact hR3
   ·simp only
    rw [List.map_set, hps, List.take_succ_eq_append_getElem (by simpa using hiq), Aa3, Aa3, List.map_append, List.set_append_right _ _ (by simp; omega)]
    have e1 : i - (List.map (fun k => P5 (E6 k)) (List.take i (List.map Prod.fst qs))).length = 0 := by simp; omega
    have e2 : 17 - i = (17 - (i + 1)) + 1 := by omega
    rw [e1, e2, List.replicate_succ, List.set_cons_zero, List.append_assoc]
    simp
  ·obtain rfl : i = 16 := by omega
   have l7 : Ae3 ((qs.map Prod.fst).take 16) = Ae3 (qs.map Prod.fst) := by rw [List.take_of_length_le (by simp [hq])]
   have hBt := hB2
   replace hwv := hwv.ext hB2
   obtain ⟨q1, q1d, q1s⟩ := (hc.ext hB2).raw (j := 16) (v := .slice wA v.length wc) (by simp [hq])
   simp only [F1, Addr.add, ↓reduceIte, Nat.reduceAdd, Nat.reduceEqDiff, D0, if_false, Nat.zero_add, Nat.one_ne_zero] at q1 q1s
   have qD2 : B2.D b := q1d
   refine A3 1000 ?_
   repeat' (first | with_reducible refine And.intro (by first | omega | (constructor <;> assumption)) ?_ | simp (maxSteps := 4000000) (disch := omega) only [go_sem, ↓reduceIte, q1, L5, hpl] | with_reducible refine A3 1000 ?_)
   refine F4 (Ac2 v _ _ wA wc hwv rfl e3) (fun _ => by simp [closed, A0]) (fun s3 B3 hB3 hR3 => A3 1000 ?_)
   change BExt B2 B3 at hB3
   have hst : H8 (ps.flatMap itQ) 48 (itE (txt v) s3) = (ps.set 16 (txt v, s3)).flatMap itQ := Ah3 (f := itQ) (k := 3) (i := 16) (a := (txt v, s3)) (by omega) (fun _ => rfl) (by omega)
   repeat' (simp (maxSteps := 4000000) (disch := omega) only [go_sem, ↓reduceIte, hst, L5, hpl])
   obtain ⟨ps2, hps2⟩ : ∃ ps2, ps2 = ps.set 16 (txt v, s3) := ⟨_, rfl⟩
   have hpl2 : ps2.length = 17 := by rw [hps2]; simp [hpl]
   have hok2 : ∀ q ∈ ps2, ItAt B3 q.1 q.2 := fun q hq => by
    rw [hps2] at hq
    rcases List.mem_or_eq_of_mem_set hq with hq | rfl
    ·exact (hok q hq).ext hB3
    ·exact hR3
   have hfst : ps2.map Prod.fst = Ae3 (qs.map Prod.fst) ++ [txt v] := by
    rw [hps2, List.map_set, hps, l7, List.set_append_right _ _ (by rw [Aa3]; simp [hq])]
    have e1 : 16 - (Ae3 (qs.map Prod.fst)).length = 0 := by rw [Aa3]; simp [hq]
    rw [e1]; rfl
   rw [← hps2]
   have hmo : (ps2.flatMap itC).map D0 = ps2.flatMap itQ := by rw [List.map_flatMap]; rfl
   have hcl2 : (ps2.flatMap itC).length = 51 := by rw [Q7 (k := 3) (fun q _ => rfl), hpl2]
   have hql2 : (ps2.flatMap itQ).length = 51 := by rw [L5, hpl2]
   refine Ay6 1 0 17 17 [] (ps2.flatMap itC) Ca9 rfl rfl (by rw [hmo, hcl2, List.drop_zero, List.take_of_length_le (by rw [hql2]; omega)]) (fun s => by simp [closed, A0]) (fun B ad cap hB hc3 => Bc0 ps2 17 B ad cap hc3 (by omega) (fun q hq => (hok2 q hq).ext hB) hpl2) (fun s8 B8 hB8 hR8 => A3 1000 ?_)
   change BExt B3 B8 at hB8
   rw [hfst] at hR8
   simp only [hfst]
   repeat' (simp (maxSteps := 4000000) (disch := omega) only [go_sem, ↓reduceIte])
   have hBX := hBt.trans (hB3.trans hB8)
   first | exact ⟨hBX, s8, rfl, by simp [closed, A0], hR8⟩ | exact ⟨s8, rfl, by simp [closed, A0], hR8⟩
mutual
/-- Every node's item. -/
theorem Bc4 : ∀ (nd : Nd) {B : Base} {v : Value}, NdAt B nd v → ∀ (T : TypeId) (b : Nat), v = .iface T (.pointer (some ⟨b, 0, none⟩)) → Does Try.prog (itF T) [.raw (.pointer (some ⟨b, 0, none⟩))] B (fun s : Plc => .agg (itE (E6 nd) s)) (fun s B' => ItAt B' (E6 nd) s)
 | .nil, B, v, h, T, b, hv => by subst hv; cases h
 | .leaf r w, B, v, h, T, b, hv => by
  have hT : T = 112 := by subst hv; cases h; rfl
  subst hT hv
  exact Bc2 h
 | .ext r k, B, v, h, T, b, hv => by
  have hT : T = 116 := by subst hv; cases h; rfl
  subst hT hv
  exact Bl6 h (fun B' kv hB hk => Bf3 hk (fun T b e => Bc4 k hk T b e) (Cz5 k) (Ca7 hk))
 | .br ks w, B, v, h, T, b, hv => by
  have hT : T = 119 := by subst hv; cases h; rfl
  subst hT hv
  exact Bv2 h (fun k hk B' kv hB hkv => Bf3 hkv (fun T b e => Bg5 ks k hk hkv T b e) (Cz5 k) (Ca7 hkv))
theorem Bg5 : ∀ (ks : List Nd) (k : Nd), k ∈ ks → ∀ {B : Base} {v : Value}, NdAt B k v → ∀ (T : TypeId) (b : Nat), v = .iface T (.pointer (some ⟨b, 0, none⟩)) → Does Try.prog (itF T) [.raw (.pointer (some ⟨b, 0, none⟩))] B (fun s : Plc => .agg (itE (E6 k) s)) (fun s B' => ItAt B' (E6 k) s)
 | [], k, hk, _, _, _, _, _, _ => by simp at hk
 | k' :: ks, k, hk, B, v, h, T, b, hv => by
  rcases List.mem_cons.1 hk with h1 | h1
  ·rw [h1] at h ⊢
   exact Bc4 k' h T b hv
  ·exact Bg5 ks k h1 h T b hv
end
end Go.Proofs.Ytncjbfkkgdepoaa
namespace Go.Proofs.Ytncjbfkkgdepoaa
open Go RowKit Go.Ew
mutual
def S2 : Nd → List UInt8 → List UInt8
 | .nil, _ => []
 | .leaf r v, q => if r = q then v else []
 | .ext r k, q => if r <+: q then S2 k (q.drop r.length) else []
 | .br ks v, q => if q = [] then v else Cl2 ks (q.getD 0 0).toNat (q.drop 1)
def Cl2 : List Nd → Nat → List UInt8 → List UInt8
 | [], _, _ => []
 | k :: _, 0, q => S2 k q
 | _ :: ks, n + 1, q => Cl2 ks n q
end
theorem Bt0 : ∀ (ks : List Nd) (i : Nat) (q : List UInt8), Cl2 ks i q = S2 (ks.getD i .nil) q
 | [], i, q => by simp [Cl2, S2]
 | k :: ks, 0, q => by simp [Cl2]
 | k :: ks, i + 1, q => by rw [Cl2, Bt0 ks i q]; simp
theorem L0 (ks : List Nd) (v : List UInt8) : S2 (.br ks v) [] = v := by simp [S2]
theorem I1 (ks : List Nd) (v : List UInt8) (x : UInt8) (q : List UInt8) : S2 (.br ks v) (x :: q) = S2 (ks.getD x.toNat .nil) q := by simp [S2, Bt0]
theorem Ca4 (q : List UInt8) : S2 .nil q = [] := rfl
theorem N4 (r v q : List UInt8) : S2 (.leaf r v) q = if r = q then v else [] := by rw [S2]
theorem Bg9 (r : List UInt8) (k : Nd) (q : List UInt8) : S2 (.ext r k) (r ++ q) = S2 k q := by
 rw [S2, if_pos (List.prefix_append _ _), List.drop_left]
theorem Aj1 {r : List UInt8} {k : Nd} {q : List UInt8} (h : ¬ r <+: q) : S2 (.ext r k) q = [] := by rw [S2, if_neg h]
/-- What a branch has at a place: a value, or a kid. -/
def Ca2 (ks : List Nd) (v : List UInt8) : Option Nat → Prop
 | none => v ≠ []
 | some i => ks.getD i .nil ≠ .nil
def two (ks : List Nd) (v : List UInt8) : Prop := ∃ a b, a ≠ b ∧ Ca2 ks v a ∧ Ca2 ks v b
inductive Canon : Nd → Prop
 | leaf (r v : List UInt8) (hv : v ≠ []) (h : ∀ x ∈ r, x.toNat < 16) : Canon (.leaf r v)
 | ext (r : List UInt8) (ks : List Nd) (v : List UInt8) (h0 : r ≠ []) (h : ∀ x ∈ r, x.toNat < 16) (hk : Canon (.br ks v)) : Canon (.ext r (.br ks v))
 | br (ks : List Nd) (v : List UInt8) (hl : ks.length = 16) (hk : ∀ k ∈ ks, k ≠ .nil → Canon k) (h2 : two ks v) : Canon (.br ks v)
theorem Cc1 {t : Nd} (h : Canon t) : t ≠ .nil := by cases h <;> simp
theorem Cc0 {t : Nd} (h : Canon t) : Wf t := by
 induction h with
 | leaf r v hv h => exact .leaf r v h
 | ext r ks v h0 h hk ih => exact .ext r _ h h0 ih
 | br ks v hl hk h2 ih =>
  refine .br ks v fun k hm => ?_
  by_cases e : k = .nil
  ·rw [e]; exact .nil
  ·exact ih k hm e
theorem Ar7 {ks : List Nd} {i : Nat} (h : ks.getD i .nil ≠ .nil) : ks.getD i .nil ∈ ks ∧ i < ks.length := by
 rcases Nat.lt_or_ge i ks.length with hi | hi
 ·refine ⟨?_, hi⟩
  rw [List.getD_eq_getElem?_getD, List.getElem?_eq_getElem hi]
  exact List.getElem_mem hi
 ·rw [List.getD_eq_getElem?_getD, List.getElem?_eq_none hi] at h
  exact absurd rfl h
/-- A key's first step. -/
def Ah2 (q : List UInt8) : Option Nat := q.head?.map (·.toNat)
theorem Ci7 {r v q : List UInt8} (h : S2 (.leaf r v) q ≠ []) : r = q := by
 by_cases h1 : r = q
 ·exact h1
 ·rw [N4, if_neg h1] at h; exact absurd rfl h
end Go.Proofs.Ytncjbfkkgdepoaa
namespace Go.Proofs.Ytncjbfkkgdepoaa
open Go RowKit Go.Ew
theorem Ar1 {α : Type} {p q : Prop} [Decidable p] [Decidable q] (h : p ↔ q) (a b : α) : (if p then a else b) = if q then a else b := by
 by_cases hp : p
 ·rw [if_pos hp, if_pos (h.1 hp)]
 ·rw [if_neg hp, if_neg fun hq => hp (h.2 hq)]
theorem Ab2 (p : List UInt8) (n : Nd) (q : List UInt8) : S2 (At7 p n) q = if p <+: q then S2 n (q.drop p.length) else [] := by
 unfold At7
 split
 ·rename_i h; subst h; simp
 ·rw [S2]
instance decNil : (k : Nd) → Decidable (k = .nil)
 | .nil => isTrue rfl
 | .leaf _ _ => isFalse (by simp)
 | .ext _ _ => isFalse (by simp)
 | .br _ _ => isFalse (by simp)
/-- What is behind some nibbles: a leaf's rest and value, or a kid. -/
def An4 (r : List UInt8) (kid : Nd) (w : List UInt8) : Nd := if kid = .nil then .leaf r w else At7 r kid
theorem Bp6 (p r : List UInt8) (kid : Nd) (w q : List UInt8) : S2 (An4 (p ++ r) kid w) (p ++ q) = S2 (An4 r kid w) q := by
 unfold An4
 split
 ·rw [N4, N4]; exact Ar1 (by rw [List.append_cancel_left_eq]) _ _
 ·rw [Ab2, Ab2, Ar1 (List.prefix_append_right_inj p), List.length_append, ← List.drop_drop, List.drop_left]
theorem Cn7 {p r : List UInt8} {kid : Nd} {w q : List UInt8} (h : ¬ p <+: q) : S2 (An4 (p ++ r) kid w) q = [] := by
 have h2 : ¬ p ++ r <+: q := fun h2 => h ((List.prefix_append _ _).trans h2)
 unfold An4
 split
 ·rw [N4, if_neg]
  rintro rfl
  exact h (List.prefix_append _ _)
 ·rw [Ab2, if_neg h2]
theorem Bz7 (x : UInt8) (s : List UInt8) (kid : Nd) (v q : List UInt8) : S2 (Z7 (x :: s) kid v) q = S2 (An4 s kid v) q := by
 by_cases hk : kid = .nil
 ·subst hk; rw [An4, if_pos rfl]; rfl
 ·have e : Z7 (x :: s) kid v = if 0 < s.length then .ext s kid else kid := by
   cases kid with
   | nil => exact absurd rfl hk
   | leaf => simp [Z7]
   | ext => simp [Z7]
   | br => simp [Z7]
  rw [e, An4, if_neg hk]
  unfold At7
  cases s with
  | nil => simp
  | cons => simp
theorem Bs3 (rest : List UInt8) (kid : Nd) (v : List UInt8) : Z7 rest kid v ≠ .nil := by
 cases kid with
 | nil => simp [Z7]
 | leaf => simp only [Z7]; split <;> simp
 | ext => simp only [Z7]; split <;> simp
 | br => simp only [Z7]; split <;> simp
theorem Bf7 {r : List UInt8} {kid : Nd} {w q : List UInt8} (hk : kid ≠ .nil → r ≠ []) (h : S2 (An4 r kid w) q ≠ []) : r.head? = q.head? := by
 unfold An4 at h
 split at h
 ·rw [Ci7 h]
 ·rename_i hn
  rw [Ab2] at h
  split at h
  ·rename_i hp
   obtain ⟨u, rfl⟩ := hp
   cases r with
   | nil => exact absurd rfl (hk hn)
   | cons x r => rfl
  ·exact absurd rfl h
theorem Be8 (ks : List Nd) (w rest : List UInt8) (kid : Nd) (v : List UInt8) : (P7 ks w rest kid v).1.length = ks.length := by
 unfold P7; split <;> simp
theorem Bf0 {ks : List Nd} {w rest : List UInt8} {kid : Nd} {v : List UInt8} (hl : ks.length = 16) (h16 : ∀ x ∈ rest, x.toNat < 16) (hk : kid ≠ .nil → rest ≠ []) (q : List UInt8) :
  S2 (.br (P7 ks w rest kid v).1 (P7 ks w rest kid v).2) q = if rest.head? = q.head? then S2 (An4 rest kid v) q else S2 (.br ks w) q := by
 unfold P7
 cases rest with
 | nil =>
  have hkn : kid = .nil := Classical.byContradiction fun h => hk h rfl
  subst hkn
  rw [if_pos rfl]
  cases q with
  | nil => rw [if_pos rfl, L0, An4, if_pos rfl, N4, if_pos rfl]
  | cons y q => rw [if_neg (by simp), I1, I1]
 | cons x s =>
  rw [if_neg (by simp)]
  have hx := h16 x (by simp)
  cases q with
  | nil => rw [if_neg (by simp), L0, L0]
  | cons y q =>
   simp only [List.head?_cons, Option.some.injEq, List.getD_cons_zero]
   rw [I1]
   by_cases e : x = y
   ·subst e
    rw [if_pos rfl]
    have : (ks.set x.toNat (Z7 (x :: s) kid v)).getD x.toNat .nil = Z7 (x :: s) kid v := by
     simp [List.getD, hl, hx]
    rw [this, Bz7]
    exact (Bp6 [x] s kid v q).symm
   ·rw [if_neg e, I1]
    have hne : x.toNat ≠ y.toNat := fun h => e (UInt8.toNat_inj.1 h)
    congr 1
    simp [List.getD, List.getElem?_set_ne hne]
theorem Be9 {ks : List Nd} {w rest : List UInt8} {kid : Nd} {v : List UInt8} (hl : ks.length = 16) (h16 : ∀ x ∈ rest, x.toNat < 16) (hv : rest = [] → v ≠ []) : Ca2 (P7 ks w rest kid v).1 (P7 ks w rest kid v).2 (Ah2 rest) := by
 unfold P7
 cases rest with
 | nil => rw [if_pos rfl]; exact hv rfl
 | cons x s =>
  rw [if_neg (by simp)]
  have hx := h16 x (by simp)
  show (ks.set x.toNat (Z7 (x :: s) kid v)).getD x.toNat .nil ≠ .nil
  have : (ks.set x.toNat (Z7 (x :: s) kid v)).getD x.toNat .nil = Z7 (x :: s) kid v := by
   simp [List.getD, hl, hx]
  rw [this]
  exact Bs3 _ _ _
theorem Bo8 {ks : List Nd} {w rest : List UInt8} {kid : Nd} {v : List UInt8} {a : Option Nat} (h : Ca2 ks w a) (hv : a = Ah2 rest → rest = [] → v ≠ []) : Ca2 (P7 ks w rest kid v).1 (P7 ks w rest kid v).2 a := by
 unfold P7
 cases rest with
 | nil =>
  rw [if_pos rfl]
  cases a with
  | none => exact hv rfl rfl
  | some i => exact h
 | cons x s =>
  rw [if_neg (by simp)]
  cases a with
  | none => exact h
  | some i =>
   have h' : ks.getD i .nil ≠ .nil := h
   show (ks.set x.toNat (Z7 (x :: s) kid v)).getD i .nil ≠ .nil
   obtain ⟨_, hi⟩ := Ar7 h'
   rw [List.getD_eq_getElem?_getD, List.getElem?_set]
   split
   ·rw [if_pos (by omega)]; exact Bs3 _ _ _
   ·rwa [List.getD_eq_getElem?_getD] at h'
def Cl1 : Nd → Prop
 | .br _ _ => True
 | _ => False
theorem Bl3 {rest : List UInt8} {kid : Nd} {v : List UInt8} (h16 : ∀ x ∈ rest, x.toNat < 16) (h1 : kid = .nil → v ≠ []) (h2 : kid ≠ .nil → Cl1 kid ∧ Canon kid) : Canon (Z7 rest kid v) := by
 have hd : ∀ x ∈ rest.drop 1, x.toNat < 16 := fun x hx => h16 x (List.mem_of_mem_drop hx)
 by_cases hk : kid = .nil
 ·subst hk; exact .leaf _ _ (h1 rfl) hd
 ·obtain ⟨hb, hc⟩ := h2 hk
  cases kid with
  | br ks w =>
   simp only [Z7]
   split
   ·rename_i hl
    refine .ext _ _ _ ?_ hd hc
    intro h
    have := congrArg List.length h
    simp at this; omega
   ·exact hc
  | _ => exact absurd hb (by simp [Cl1])
theorem Am7 {ks : List Nd} {w rest : List UInt8} {kid : Nd} {v : List UInt8} (hk : ∀ k ∈ ks, k ≠ .nil → Canon k) (h16 : ∀ x ∈ rest, x.toNat < 16) (h1 : kid = .nil → rest ≠ [] → v ≠ []) (h2 : kid ≠ .nil → Cl1 kid ∧ Canon kid) : ∀ k ∈ (P7 ks w rest kid v).1, k ≠ .nil → Canon k := by
 unfold P7
 split
 ·exact hk
 ·rename_i h0
  intro k hm hn
  rcases List.mem_or_eq_of_mem_set hm with h | rfl
  ·exact hk k h hn
  ·exact Bl3 h16 (fun h => h1 h h0) h2
theorem As8 : ∀ l m : List UInt8, l.take (com l m) = m.take (com l m)
 | a :: l, b :: m => by
  rw [com]
  split
  ·rename_i e; rw [e, List.take_succ_cons, List.take_succ_cons, As8 l m]
  ·rfl
 | [], m => by simp [com]
 | _ :: _, [] => by simp [com]
theorem Ay0 : ∀ l m : List UInt8, l ≠ m → (l.drop (com l m)).head? ≠ (m.drop (com l m)).head?
 | a :: l, b :: m, h => by
  rw [com]
  split
  ·rename_i e
   rw [List.drop_succ_cons, List.drop_succ_cons]
   exact Ay0 l m fun h2 => h (by rw [e, h2])
  ·rename_i e; simpa using e
 | [], [], h => absurd rfl h
 | [], b :: m, _ => by simp [com]
 | a :: l, [], _ => by simp [com]
theorem Ai4 : nil16.length = 16 := by simp [nil16]
theorem Bq2 (q : List UInt8) : S2 (.br nil16 []) q = [] := by
 cases q with
 | nil => exact L0 _ _
 | cons x q =>
  rw [I1]
  have : nil16.getD x.toNat .nil = .nil := by
   rw [List.getD_eq_getElem?_getD, nil16, List.getElem?_replicate]; split <;> rfl
  rw [this]; rfl
theorem Bj9 {p q : List UInt8} (h : Ah2 p = Ah2 q) : p.head? = q.head? := by
 cases p <;> cases q <;> simp_all [Ah2]
 exact UInt8.toNat_inj.1 h
/-- What is parted: what was there, and what comes. -/
theorem Au5 {r rest : List UInt8} {kid : Nd} {w v : List UInt8} (hne : r ≠ rest) (h1 : ∀ x ∈ r, x.toNat < 16) (h2 : ∀ x ∈ rest, x.toNat < 16) (hv : v ≠ [])
  (hn : kid = .nil → w ≠ []) (hb : kid ≠ .nil → Cl1 kid ∧ Canon kid ∧ com r rest < r.length) : Canon (Aa1 r rest kid w v) ∧ ∀ q, S2 (Aa1 r rest kid w v) q = if q = rest then v else S2 (An4 r kid w) q := by
 have hh := Ay0 r rest hne
 have ht := As8 r rest
 obtain ⟨k, hk⟩ : ∃ k, k = com r rest := ⟨_, rfl⟩
 have hsp : Aa1 r rest kid w v = At7 (rest.take k) (.br (P7 (P7 nil16 [] (r.drop k) kid w).1 (P7 nil16 [] (r.drop k) kid w).2 (rest.drop k) .nil v).1 (P7 (P7 nil16 [] (r.drop k) kid w).1 (P7 nil16 [] (r.drop k) kid w).2 (rest.drop k) .nil v).2) := by rw [hk]; rfl
 rw [← hk] at hh ht hb
 have er : r = rest.take k ++ r.drop k := by rw [← ht, List.take_append_drop]
 have es : rest = rest.take k ++ rest.drop k := by rw [List.take_append_drop]
 have hr16 : ∀ x ∈ r.drop k, x.toNat < 16 := fun x hx => h1 x (List.mem_of_mem_drop hx)
 have hs16 : ∀ x ∈ rest.drop k, x.toNat < 16 := fun x hx => h2 x (List.mem_of_mem_drop hx)
 have hp16 : ∀ x ∈ rest.take k, x.toNat < 16 := fun x hx => h2 x (List.mem_of_mem_take hx)
 have hkr : kid ≠ .nil → r.drop k ≠ [] := fun h e => by
  have := (hb h).2.2
  have := congrArg List.length e
  simp at this; omega
 obtain ⟨p, hp⟩ : ∃ p, p = rest.take k := ⟨_, rfl⟩
 obtain ⟨r', hr'⟩ : ∃ r', r' = r.drop k := ⟨_, rfl⟩
 obtain ⟨s', hs'⟩ : ∃ s', s' = rest.drop k := ⟨_, rfl⟩
 rw [hsp]
 rw [← hp, ← hr'] at er
 rw [← hp, ← hs'] at es
 rw [← hr', ← hs'] at hh
 rw [← hr'] at hr16 hkr
 rw [← hs'] at hs16
 rw [← hp] at hp16
 rw [← hp, ← hr', ← hs']
 have hl1 : (P7 nil16 [] r' kid w).1.length = 16 := by rw [Be8, Ai4]
 have hbr : Canon (.br (P7 (P7 nil16 [] r' kid w).1 (P7 nil16 [] r' kid w).2 s' .nil v).1 (P7 (P7 nil16 [] r' kid w).1 (P7 nil16 [] r' kid w).2 s' .nil v).2) := by
  refine .br _ _ (by rw [Be8, hl1]) ?_ ?_
  ·refine Am7 (Am7 (fun k hm hkn => absurd (List.eq_of_mem_replicate hm) hkn) hr16 (fun h _ => hn h) (fun h => ⟨(hb h).1, (hb h).2.1⟩)) hs16 (fun _ _ => hv) (fun h => absurd rfl h)
  ·refine ⟨Ah2 r', Ah2 s', fun h => hh (Bj9 h), ?_, Be9 hl1 hs16 (fun _ => hv)⟩
   exact Bo8 (Be9 Ai4 hr16 (fun h => by
    by_cases hkn : kid = .nil
    ·exact hn hkn
    ·exact absurd h (hkr hkn))) (fun _ _ => hv)
 refine ⟨?_, fun q => ?_⟩
 ·unfold At7
  split
  ·exact hbr
  ·rename_i h0
   exact .ext _ _ _ h0 hp16 hbr
 ·rw [Ab2]
  by_cases hpq : p <+: q
  ·obtain ⟨q', rfl⟩ := hpq
   rw [if_pos (List.prefix_append _ _), List.drop_left]
   have e1 : S2 (An4 r kid w) (p ++ q') = S2 (An4 r' kid w) q' := by
    conv => lhs; rw [er]
    rw [Bp6]
   have e2 : (p ++ q' = rest) = (q' = s') := by rw [es, List.append_cancel_left_eq]
   rw [e1, Ar1 (iff_of_eq e2), Bf0 hl1 hs16 (fun h => absurd rfl h), Bf0 Ai4 hr16 hkr]
   by_cases c1 : s'.head? = q'.head?
   ·rw [if_pos c1, An4, if_pos rfl, N4]
    by_cases c2 : q' = s'
    ·rw [if_pos c2, if_pos c2.symm]
    ·rw [if_neg c2, if_neg (Ne.symm c2)]
     by_cases c3 : S2 (An4 r' kid w) q' = []
     ·exact c3.symm
     ·exact absurd ((Bf7 hkr c3).trans c1.symm) hh
   ·have c4 : q' ≠ s' := fun h => c1 (by rw [h])
    rw [if_neg c1, if_neg c4]
    by_cases c2 : r'.head? = q'.head?
    ·rw [if_pos c2]
    ·rw [if_neg c2, Bq2]
     by_cases c3 : S2 (An4 r' kid w) q' = []
     ·exact c3.symm
     ·exact absurd (Bf7 hkr c3) c2
  ·rw [if_neg hpq, if_neg (fun h => hpq (by rw [h, es]; exact List.prefix_append _ _)), er, Cn7 hpq]
theorem Bz8 (f : Nat) (ks : List Nd) (w rest v : List UInt8) : Cl1 (P8 f (.br ks w) rest v) := by
 cases f with
 | zero => trivial
 | succ f => rw [P8]; split <;> trivial
/-- The law of putting. -/
theorem Ch7 : ∀ (f : Nat) (t : Nd) (rest v : List UInt8), (t = .nil ∨ Canon t) → rest.length < f → (∀ x ∈ rest, x.toNat < 16) → v ≠ [] → Canon (P8 f t rest v) ∧ ∀ q, S2 (P8 f t rest v) q = if q = rest then v else S2 t q := by
 intro f
 induction f with
 | zero => intro t rest v ht hf; omega
 | succ f ih =>
  intro t rest v ht hf h16 hv
  have hleaf : Canon (.leaf rest v) := .leaf _ _ hv h16
  have hlg : ∀ q, S2 (.leaf rest v) q = if q = rest then v else [] := fun q => by rw [N4]; simp only [eq_comm]
  rcases ht with rfl | ht
  ·exact ⟨hleaf, hlg⟩
  ·cases ht with
   | leaf r w hw hr =>
    rw [P8]
    by_cases e : r = rest
    ·rw [if_pos e]
     refine ⟨hleaf, fun q => ?_⟩
     rw [hlg, N4]
     by_cases c : q = rest
     ·rw [if_pos c, if_pos c]
     ·rw [if_neg c, if_neg c, if_neg (by rw [e]; exact Ne.symm c)]
    ·rw [if_neg e]
     obtain ⟨h1, h2⟩ := Au5 (kid := .nil) (w := w) e hr h16 hv (fun _ => hw) (fun h => absurd rfl h)
     exact ⟨h1, fun q => by rw [h2, An4, if_pos rfl]⟩
   | ext r ks w h0 hr hk =>
    have hrl : 0 < r.length := List.length_pos_iff.2 h0
    have hle := Ao2 r rest
    rw [P8]
    by_cases e : com r rest = r.length
    ·rw [if_pos e]
     have ht := As8 r rest
     rw [e, List.take_length] at ht
     have es : rest = r ++ rest.drop r.length := by
      conv => lhs; rw [← List.take_append_drop r.length rest]
      rw [← ht]
     obtain ⟨h1, h2⟩ := ih (.br ks w) (rest.drop (com r rest)) v (.inr hk) (by rw [List.length_drop]; omega) (fun x hx => h16 x (List.mem_of_mem_drop hx)) hv
     rw [e] at h1 h2 ⊢
     have hbr := Bz8 f ks w (rest.drop r.length) v
     refine ⟨?_, fun q => ?_⟩
     ·generalize P8 f (.br ks w) (rest.drop r.length) v = t at h1 hbr
      cases t with
      | br ks' w' => exact .ext _ _ _ h0 hr h1
      | _ => exact absurd hbr (by simp [Cl1])
     ·by_cases hp : r <+: q
      ·obtain ⟨q', rfl⟩ := hp
       have : (r ++ q' = rest) = (q' = rest.drop r.length) := by
        conv => lhs; rw [es]
        rw [List.append_cancel_left_eq]
       rw [Bg9, Bg9, h2, Ar1 (iff_of_eq this)]
      ·rw [Aj1 hp, Aj1 hp, if_neg]
       intro h
       exact hp (by rw [h, es]; exact List.prefix_append _ _)
    ·rw [if_neg e]
     have hne : r ≠ rest := by
      rintro rfl
      apply e
      have : ∀ l : List UInt8, com l l = l.length := fun l => by
       induction l with
       | nil => rfl
       | cons a l ih => rw [com, if_pos rfl, ih]; rfl
      exact this _
     obtain ⟨h1, h2⟩ := Au5 (kid := .br ks w) (w := []) hne hr h16 hv (fun h => by cases h) (fun _ => ⟨trivial, hk, by omega⟩)
     refine ⟨h1, fun q => ?_⟩
     have hbn : (Nd.br ks w) ≠ .nil := by simp
     rw [h2, An4, if_neg hbn, At7, if_neg h0]
   | br ks w hl hk h2 =>
    rw [P8]
    by_cases e : rest = []
    ·rw [if_pos e]
     refine ⟨.br _ _ hl hk ?_, fun q => ?_⟩
     ·obtain ⟨a, b, hab, ha, hb⟩ := h2
      have key : ∀ a, Ca2 ks w a → Ca2 ks v a := fun a ha => by
       cases a with
       | none => exact hv
       | some i => exact ha
      exact ⟨a, b, hab, key a ha, key b hb⟩
     ·cases q with
      | nil => rw [L0, if_pos e.symm]
      | cons x q => rw [I1, I1, if_neg (by rw [e]; simp)]
    ·rw [if_neg e]
     cases rest with
     | nil => exact absurd rfl e
     | cons x s =>
      simp only [List.getD_cons_zero, List.drop_succ_cons, List.drop_zero]
      have hx := h16 x (by simp)
      have hkx : ks.getD x.toNat .nil = .nil ∨ Canon (ks.getD x.toNat .nil) := by
       by_cases h : ks.getD x.toNat .nil = .nil
       ·exact .inl h
       ·exact .inr (hk _ (Ar7 h).1 h)
      obtain ⟨g1, g2⟩ := ih (ks.getD x.toNat .nil) s v hkx (by simp at hf; omega) (fun y hy => h16 y (by simp [hy])) hv
      refine ⟨.br _ _ (by simp [hl]) (fun k hm hn => ?_) ?_, fun q => ?_⟩
      ·rcases List.mem_or_eq_of_mem_set hm with h | rfl
       ·exact hk k h hn
       ·exact g1
      ·obtain ⟨a, b, hab, ha, hb⟩ := h2
       have key : ∀ a, Ca2 ks w a → Ca2 (ks.set x.toNat (P8 f (ks.getD x.toNat .nil) s v)) w a := fun a ha => by
        cases a with
        | none => exact ha
        | some i =>
         have h' : ks.getD i .nil ≠ .nil := ha
         show (ks.set x.toNat _).getD i .nil ≠ .nil
         obtain ⟨_, hi⟩ := Ar7 h'
         rw [List.getD_eq_getElem?_getD, List.getElem?_set]
         split
         ·rw [if_pos (by omega)]; exact Cc1 g1
         ·rwa [List.getD_eq_getElem?_getD] at h'
       exact ⟨a, b, hab, key a ha, key b hb⟩
      ·cases q with
       | nil => rw [L0, L0, if_neg (by simp)]
       | cons y q =>
        rw [I1, I1]
        by_cases c : x = y
        ·subst c
         have : (ks.set x.toNat (P8 f (ks.getD x.toNat .nil) s v)).getD x.toNat .nil = P8 f (ks.getD x.toNat .nil) s v := by
          simp [List.getD, hl, hx]
         rw [this, g2]
         simp only [List.cons.injEq, true_and]
        ·have hne : x.toNat ≠ y.toNat := fun h => c (UInt8.toNat_inj.1 h)
         rw [if_neg (by simp; intro h; exact absurd h.symm c)]
         congr 1
         simp [List.getD, List.getElem?_set_ne hne]
end Go.Proofs.Ytncjbfkkgdepoaa
namespace Go.Proofs.Ytncjbfkkgdepoaa
open Go RowKit Go.Ew
abbrev KV := List UInt8 × List UInt8
end Go.Proofs.Ytncjbfkkgdepoaa
