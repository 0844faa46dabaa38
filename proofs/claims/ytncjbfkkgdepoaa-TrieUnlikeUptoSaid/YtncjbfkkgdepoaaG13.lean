/- Part of a proof over the seat Ytncjbfkkgdepoaa. -/
import Derived.Test.YtncjbfkkgdepoaaG12
import Derived.Test.YtncjbfkkgdepoaaTD
set_option linter.unusedSimpArgs false
set_option linter.unusedVariables false
set_option maxRecDepth 100000
namespace Go.Proofs.Ytncjbfkkgdepoaa
open Go RowKit Go.Ew
set_option maxHeartbeats 8000000
theorem Eb6 : D0 Try.f31.ntmps (Try.f31.body.getD .skip) = true := by kernel_rfl
theorem Eb7 : D0 Try.f30.ntmps (Try.f30.body.getD .skip) = true := by kernel_rfl
theorem Eb2 : D0 Try.f35.ntmps (Try.f35.body.getD .skip) = true := by kernel_rfl
theorem Eb4 : D0 Try.f33.ntmps (Try.f33.body.getD .skip) = true := by kernel_rfl
theorem Ec1 : D0 Try.f21.ntmps (Try.f21.body.getD .skip) = true := by kernel_rfl
theorem An3 {α : Type} {f : α → List EV} {k : Nat} (hk : 1 < k) {l : List α} {i : Nat} {a : α} (h : ∀ a, (f a).length = k) (hi : i < l.length) : H5 (l.flatMap f) (i * k) (f a) = (l.set i a).flatMap f := by
 have hl : (l.flatMap f).length = l.length * k := by rw [N1 (k := k) (fun a _ => h a)]; exact Nat.mul_comm _ _
 have hik : i * k + k ≤ l.length * k := by
  have : (i + 1) * k ≤ l.length * k := Nat.mul_le_mul_right k hi
  rw [Nat.succ_mul] at this; exact this
 rw [Af4 _ _ _ (by rw [h, hl]; exact hik), h]
 have e1 : l = l.take i ++ l[i] :: l.drop (i + 1) := by rw [← List.drop_eq_getElem_cons hi, List.take_append_drop]
 have e2 : l.set i a = l.take i ++ a :: l.drop (i + 1) := by
  rw [List.set_eq_take_append_cons_drop]; simp [hi]
 have e3 : ((l.take i).flatMap f).length = i * k := by
  rw [N1 (k := k) (fun a _ => h a), List.length_take, Nat.min_eq_left (by omega)]; exact Nat.mul_comm _ _
 have e4 : l.flatMap f = (l.take i).flatMap f ++ (f l[i] ++ (l.drop (i + 1)).flatMap f) := by
  conv => lhs; rw [e1]
  rw [List.flatMap_append, List.flatMap_cons]
 rw [e2, List.flatMap_append, List.flatMap_cons, e4, List.take_left' e3, ← List.drop_drop, List.drop_left' e3, List.drop_left' (h _), List.append_assoc]
theorem Bp6 {B : Base} {nd : Nd} {v : Value} (h : NdAt B nd v)
  (hi : ∀ T b, v = .iface T (.pointer (some ⟨b, 0, none⟩)) → Does Try.prog (itF T) [.raw (.pointer (some ⟨b, 0, none⟩))] B (fun s : Plc => .agg (itE (D6 nd) s)) (fun s B' => ItAt B' (D6 nd) s)) (hok : chk (D6 nd) 0 = 0) (hf : (H6 (D6 nd)).length < 35184372088832) :
  Does Try.prog 149 [.raw v] B (fun s : Plc => .agg (itE (J8 (D6 nd)) s)) (fun s B' => ItAt B' (J8 (D6 nd)) s) := by
 refine K2 Dr3 (fun s B B' hB hR => hR.ext hB) Try.func149 rfl Do5 (by simp [Try.f149]) (by simp [A0, closed]) (fun B0 hB0 => A2 1000 ?_)
 replace h := h.ext' hB0
 rcases h.cases' with ⟨rfl, rfl⟩ | ⟨hkn, T, a, rfl⟩
 ·repeat' (simp (maxSteps := 4000000) (disch := omega) only [go_sem, ↓reduceIte, Try.f149])
  refine Ba4 rfl Try.underlying71 rfl (A2 1000 ?_)
  repeat' (simp (maxSteps := 4000000) (disch := omega) only [go_sem, ↓reduceIte])
  refine F8 (Ah5 [] 0 B0 none 0 (Q3 _) rfl (by omega)) (fun _ => by simp [closed, A0]) (fun s1 B1 hB1 hR1 => A2 1000 ?_)
  change BExt B0 B1 at hB1
  rw [Cp6]
  repeat' (first | with_reducible refine And.intro (by omega) ?_ | simp (maxSteps := 4000000) (disch := omega) only [go_sem, ↓reduceIte])
  first | exact ⟨hB1, s1, rfl, by simp [closed, A0], hR1⟩ | exact ⟨s1, rfl, by simp [closed, A0], hR1⟩
 ·replace hi := N4 (hi T a rfl) hB0
  have hTn := Bq4 h
  obtain ⟨t, ht⟩ : ∃ t, t = D6 nd := ⟨_, rfl⟩
  have hfm := Ch2 h hi hok hf
  have hinv := fun w => Cw9 h w
  rw [← ht] at hi hok hf hfm ⊢
  repeat' (simp (maxSteps := 4000000) (disch := omega) only [go_sem, ↓reduceIte, Try.f149])
  refine Ag9 rfl Try.underlying71 rfl (A2 1000 ?_)
  repeat' (simp (maxSteps := 4000000) (disch := omega) only [go_sem, ↓reduceIte])
  refine At4 rfl Try.underlying78 Am6 rfl hTn (A2 1000 ?_)
  repeat' (simp (maxSteps := 4000000) (disch := omega) only [go_sem, ↓reduceIte])
  refine F8 hfm (fun _ => by simp [closed, A0]) (fun s1 B1 hB1 hR1 => A2 1000 ?_)
  change BExt B0 B1 at hB1
  by_cases hlt : (H6 t).length < 32
  ·have hr : J8 t = t := by rw [J8, if_pos hlt]
   have cA : decide (((H6 t).length : Int) < 32) = true := decide_eq_true (by omega)
   rw [hr]
   repeat' (simp (maxSteps := 4000000) (disch := omega) only [go_sem, ↓reduceIte, cA])
   refine Dv7 rfl rfl hinv ?_
   refine F8 (N4 hi hB1) (fun _ => by simp [closed, A0]) (fun s2 B2 hB2 hR2 => A2 1000 ?_)
   change BExt B1 B2 at hB2
   repeat' (simp (maxSteps := 4000000) (disch := omega) only [go_sem, ↓reduceIte])
   first | exact ⟨hB1.trans hB2, s2, rfl, by simp [closed, A0], hR2⟩ | exact ⟨s2, rfl, by simp [closed, A0], hR2⟩
  ·have hr : J8 t = txt (Ae7 (H6 t)) := by rw [J8, if_neg hlt]
   have cA : decide (((H6 t).length : Int) < 32) = false := decide_eq_false (by omega)
   rw [hr]
   have hlk := K5 (H6 t)
   repeat' (simp (maxSteps := 4000000) (disch := omega) only [go_sem, ↓reduceIte, cA])
   refine F8 (Ao5 (H6 t) _ _ s1.1 s1.2 hR1.1 rfl (by omega)) (fun _ => A3 _ _ _ _) (fun s2 B2 hB2 hR2 => A2 1000 ?_)
   change BExt B1 B2 at hB2
   have hbe := O9 (H6 t)
   have hcl : ∀ n, A0 n (D5 .u8 (J1 (H6 t)) 32) := fun n => A3 _ _ _ _
   have hsp : H5 (D5 .u8 (fun _ => 0) 32) 0 (D5 .u8 (J1 (H6 t)) 32) = D5 .u8 (J1 (H6 t)) 32 := by rw [← hbe]; exact N8 hlk (by omega) _
   repeat' (first | with_reducible refine And.intro (by first | omega | (simp; done)) ?_ | simp (maxSteps := 4000000) (disch := omega) only [go_sem, ↓reduceIte, hsp])
   refine W3 1 0 32 32 [] (Ae7 (H6 t)) Dj3 (by simp [A0]) rfl rfl (by rw [hbe]; rfl) (fun s => by simp [closed, A0]) (fun B ad cap hB hb => Ah5 (Ae7 (H6 t)) 32 B ad cap hb hlk (by omega)) (fun s3 B3 hB3 hR3 => A2 1000 ?_)
   change BExt B2 B3 at hB3
   repeat' (simp (maxSteps := 4000000) (disch := omega) only [go_sem, ↓reduceIte])
   have hBX := hB1.trans (hB2.trans hB3)
   first | exact ⟨hBX, s3, rfl, by simp [closed, A0], hR3⟩ | exact ⟨s3, rfl, by simp [closed, A0], hR3⟩
mutual
def Bg7 : Itm → Nat
 | .mk l b ks => if l = 1 then 1 + Bn0 ks else 0
def Bn0 : List Itm → Nat
 | [] => 0
 | k :: ks => max (Bg7 k) (Bn0 ks)
end
mutual
theorem Ci3 : ∀ (t : Itm) (d : Nat), okI t = true → d + Bg7 t ≤ 64 → chk t d = 0
 | .mk l b ks, d, h, hd => by
  simp only [okI, Bool.and_eq_true, Bool.or_eq_true, beq_iff_eq, List.isEmpty_iff] at h
  obtain ⟨h1, h2⟩ := h
  rw [chk]
  rcases h1 with ⟨rfl, rfl⟩ | ⟨rfl, rfl⟩
  ·simp [Bh3]
  ·simp only [Bg7, if_true] at hd
   rw [if_neg (by omega), if_neg (by simp)]
   exact Bs4 ks (d + 1) h2 (by omega)
theorem Bs4 : ∀ (ks : List Itm) (d : Nat), okL ks = true → d + Bn0 ks ≤ 64 → Bh3 ks d = 0
 | [], _, _, _ => rfl
 | k :: ks, d, h, hd => by
  simp only [okL, Bool.and_eq_true] at h
  simp only [Bn0] at hd
  rw [Bh3, if_pos (Ci3 k d h.1 (by omega))]
  exact Bs4 ks d h.2 (by omega)
end
theorem Di9 (base n : Nat) : 1 ≤ (hd base n).length := by
 rw [Bg0]; split <;> omega
mutual
theorem Bs0 : ∀ (t : Itm), Bg7 t ≤ (H6 t).length
 | .mk l b ks => by
  rw [Bg7, H6]
  split
  ·rw [List.length_append]
   have h1 := Di9 192 (E6 ks).length
   have h2 := Bg6 ks
   omega
  ·omega
theorem Bg6 : ∀ (ks : List Itm), Bn0 ks ≤ (E6 ks).length
 | [] => by simp [Bn0]
 | k :: ks => by
  rw [Bn0, E6, List.length_append]
  have h1 := Bs0 k
  have h2 := Bg6 ks
  omega
end
theorem Da6 (p : List UInt8) : okI (txt p) = true := rfl
theorem Bq2 {t : Itm} (h : okI t = true) : okI (J8 t) = true := by
 unfold J8
 split
 ·exact h
 ·rfl
theorem Br9 (t : Itm) : Bg7 (J8 t) ≤ 31 := by
 unfold J8
 split
 ·have := Bs0 t; omega
 ·show Bg7 (.mk 0 _ _) ≤ 31
  simp [Bg7]
theorem Da5 {a b : List Itm} (h1 : okL a = true) (h2 : okL b = true) : okL (a ++ b) = true := by
 rw [okL_iff] at *
 intro k hk
 rcases List.mem_append.1 hk with h | h
 ·exact h1 k h
 ·exact h2 k h
mutual
theorem okN : ∀ nd : Nd, okI (D6 nd) = true
 | .nil => rfl
 | .leaf r v => rfl
 | .ext r k => by
  have := Bq2 (okN k)
  simp [D6, lst, okI, okL, this, Da6]
 | .br ks v => by
  have h1 := Dv6 ks
  have h2 : okL (Y7 ks ++ [txt v]) = true := Da5 h1 rfl
  rw [D6, lst, okI, h2]; rfl
theorem Dv6 : ∀ ks : List Nd, okL (Y7 ks) = true
 | [] => rfl
 | k :: ks => by rw [Y7, okL, Bq2 (okN k), Dv6 ks]; rfl
end
theorem Dc6 {ks : List Itm} {n : Nat} (h : ∀ k ∈ ks, Bg7 k ≤ n) : Bn0 ks ≤ n := by
 induction ks with
 | nil => simp [Bn0]
 | cons k ks ih =>
  rw [Bn0]
  have h1 := h k (by simp)
  have h2 := ih fun a ha => h a (by simp [ha])
  omega
theorem Eh0 (nd : Nd) : Bg7 (D6 nd) ≤ 33 := by
 cases nd with
 | nil => simp [D6, txt, Bg7]
 | leaf r v => simp [D6, lst, txt, Bg7, Bn0]
 | ext r k =>
  have := Br9 (D6 k)
  rw [D6, lst, Bg7, if_pos rfl, Bn0, Bn0, Bn0]
  have h2 : Bg7 (txt (pfx r false)) = 0 := by simp [txt, Bg7]
  omega
 | br ks v =>
  have : Bn0 (Y7 ks ++ [txt v]) ≤ 31 := Dc6 fun k hk => by
   rcases List.mem_append.1 hk with h | h
   ·rw [T8] at h
    obtain ⟨q, _, rfl⟩ := List.mem_map.1 h
    exact Br9 _
   ·simp at h; subst h; simp [txt, Bg7]
  rw [D6, lst, Bg7, if_pos rfl]
  omega
theorem Cs9 (nd : Nd) : chk (D6 nd) 0 = 0 := Ci3 _ 0 (okN nd) (by have := Eh0 nd; omega)
theorem K1 {p : List UInt8} (h : p.length < 4611686018427387904) : (H6 (txt p)).length ≤ 9 + p.length := by
 rw [txt, H6, if_neg (by omega)]
 split
 ·omega
 ·rw [List.length_append]; have := (Ao9 (base := 128) h).2; omega
theorem Ap2 (t : Itm) : (H6 (J8 t)).length ≤ 41 := by
 unfold J8
 split
 ·omega
 ·have := K1 (p := Ae7 (H6 t)) (by rw [K5]; omega)
  rw [K5] at this; exact this
theorem Av2 (ks : List Nd) : (E6 (Y7 ks)).length ≤ 41 * ks.length := by
 induction ks with
 | nil => simp [Y7, E6]
 | cons k ks ih =>
  rw [Y7, E6, List.length_append, List.length_cons]
  have := Ap2 (D6 k)
  omega
theorem O4 {ks : List Itm} (h : (E6 ks).length < 4611686018427387904) : (H6 (lst ks)).length ≤ 9 + (E6 ks).length := by
 rw [lst, H6, if_pos rfl, List.length_append]; have := (Ao9 (base := 192) h).2; omega
theorem Au3 (r : List UInt8) (b : Bool) : (pfx r b).length ≤ r.length + 2 := by
 rw [pfx, K7]; split <;> simp <;> omega
theorem Cr7 {B : Base} {nd : Nd} {v : Value} (h : NdAt B nd v) : (H6 (D6 nd)).length < 35184372088832 := by
 cases h with
 | nil => show (H6 (txt [])).length < _; decide
 | leaf r v b rA vA rc vc hc hr hv h1 h2 h3 =>
  have e1 := Au3 r true
  have e2 := K1 (p := pfx r true) (by omega)
  have e3 := K1 (p := v) (by omega)
  have e4 : (E6 [txt (pfx r true), txt v]).length = (H6 (txt (pfx r true))).length + (H6 (txt v)).length := by simp [E6]
  have := O4 (ks := [txt (pfx r true), txt v]) (by omega)
  rw [D6]; omega
 | ext r k b rA rc kv hc hr h1 h2 hk =>
  have e1 := Au3 r false
  have e2 := K1 (p := pfx r false) (by omega)
  have e3 := Ap2 (D6 k)
  have e4 : (E6 [txt (pfx r false), J8 (D6 k)]).length = (H6 (txt (pfx r false))).length + (H6 (J8 (D6 k))).length := by simp [E6]
  have := O4 (ks := [txt (pfx r false), J8 (D6 k)]) (by omega)
  rw [D6]; omega
 | br qs v b vA vc hc hq hk hv h3 =>
  have e2 := Av2 (qs.map Prod.fst)
  have e3 := K1 (p := v) (by omega)
  have e4 : (E6 (Y7 (qs.map Prod.fst) ++ [txt v])).length = (E6 (Y7 (qs.map Prod.fst))).length + (H6 (txt v)).length := by rw [U5, List.length_append]; simp [E6]
  rw [List.length_map, hq] at e2
  have := O4 (ks := Y7 (qs.map Prod.fst) ++ [txt v]) (by omega)
  rw [D6]; omega
end Go.Proofs.Ytncjbfkkgdepoaa
namespace Go.Proofs.Ytncjbfkkgdepoaa
open Go RowKit Go.Ew
set_option maxHeartbeats 8000000
/-- No item yet. -/
def zQ : Itm × Plc := (txt [], ⟨none, 0, none, 0⟩)
theorem Dm8 (B : Base) : ItAt B zQ.1 zQ.2 := Aj9 (Q3 none) (by simp)
theorem Cj7 {B : Base} {ks : List Nd} {v : List UInt8} {b : Nat} (h : NdAt B (.br ks v) (.iface 119 (.pointer (some ⟨b, 0, none⟩))))
  (hrf : ∀ k ∈ ks, ∀ B' kv, BExt B B' → NdAt B' k kv → Does Try.prog 149 [.raw kv] B' (fun s : Plc => .agg (itE (J8 (D6 k)) s)) (fun s B' => ItAt B' (J8 (D6 k)) s)) :
  Does Try.prog 150 [.raw (.pointer (some ⟨b, 0, none⟩))] B (fun s : Plc => .agg (itE (D6 (.br ks v)) s)) (fun s B' => ItAt B' (D6 (.br ks v)) s) := by
 refine K2 Dr2 (fun s B B' hB hR => hR.ext hB) Try.func150 rfl Do4 (by simp [Try.f150]) (by simp [A0, closed]) (fun B0 hB0 => A2 1000 ?_)
 replace h := h.ext' hB0
 cases h with
 | br qs w _ wA wc hc hq hkk hwv e3 =>
  obtain ⟨l1, l2, l3, _⟩ := Aa3 hc (o := 0) (n := 16) (by simp [hq]) (by omega)
  have e : H7 (some (⟨b, 0, none⟩ : Addr)) 0 = ⟨b, 0, none⟩ := rfl
  rw [e] at l1 l3
  have l5 : ((qs.map Prod.snd ++ [Value.slice wA v.length wc]).drop 0).take 16 = qs.map Prod.snd := by
   rw [List.drop_zero, List.take_left' (by simp [hq])]
  rw [l5] at l1
  have l6 : (qs.map Prod.snd).map D9 = qs.map fun q => .raw q.2 := by
   rw [List.map_map]; exact List.map_congr_left fun q hm => (hkk q hm).ofS
  rw [l6] at l1
  have qD : B0.D b := l2
  obtain ⟨q1, q1d, q1s⟩ := hc.raw (j := 16) (v := .slice wA v.length wc) (by simp [hq])
  simp only [F4, Addr.add, ↓reduceIte, Nat.reduceAdd, Nat.reduceEqDiff, D9, if_false, Nat.zero_add, Nat.one_ne_zero] at q1 q1s
  have hone : G2 (qs.map fun q => EV.raw q.2) = true := by
   have : ∀ l : List (Nd × Value), (∀ q ∈ l, NdAt B0 q.1 q.2) → G2 (l.map fun q => EV.raw q.2) = true := fun l => by
    induction l with
    | nil => intro _; rfl
    | cons q l ih =>
     intro hl
     have h1 : (EV.raw q.2).one = true := by
      have := hl q (by simp)
      generalize q.1 = k, q.2 = kv at this
      cases this <;> rfl
     simp only [List.map_cons, G2, h1, Bool.true_and]
     exact ih fun q hq => hl q (by simp [hq])
   exact this qs hkk
  obtain ⟨L, hL⟩ : ∃ L, L = qs.map fun q => EV.raw q.2 := ⟨_, rfl⟩
  have hLl : L.length = 16 := by rw [hL]; simp [hq]
  rw [← hL] at l1 hone
  have hLc : ∀ n, A0 n L := fun n => by
   rw [hL]
   have : ∀ l : List (Nd × Value), A0 n (l.map fun q => EV.raw q.2) := fun l => by
    induction l with
    | nil => trivial
    | cons a l ih => exact ⟨trivial, ih⟩
   exact this qs
  repeat' (first | with_reducible refine And.intro (by first | omega | (constructor <;> assumption) | (simp; done)) ?_ | simp (maxSteps := 4000000) (disch := omega) only [go_sem, ↓reduceIte, Try.f150, l1, hone, hLl])
  obtain ⟨Z, hZ⟩ : ∃ Z, Z = List.replicate 17 zQ := ⟨_, rfl⟩
  have hzr : rep 17 [EV.int .i64 0, .raw (.slice none 0 0), .raw (.slice none 0 0)] = Z.flatMap itQ := by rw [hZ]; rfl
  have hzc : ∀ n, A0 n (Z.flatMap itQ) := fun n => C1 n Z
  refine H2 (S := Nat × List (Itm × Plc) × Base) (fun s => s.1 ≤ 16 ∧ s.2.1.length = 17 ∧ BExt B0 s.2.2 ∧ (∀ q ∈ s.2.1, ItAt s.2.2 q.1 q.2) ∧ s.2.1.map Prod.fst = Y7 ((qs.map Prod.fst).take s.1) ++ List.replicate (17 - s.1) (txt []))
   (fun s => ⟨[(11, .int .i64 (s.1 : Nat)), (10, .agg L), (3, .sl 1 0 17 17), (2, .ptr 0 0), (0, .raw (.pointer (some ⟨b, 0, none⟩)))], 2, [(1, some (.cells (s.2.1.flatMap itQ) 91 (0, 0))), (0, some (.cells [.int .i64 0, .raw (.slice none 0 0), .raw (.slice none 0 0)] 91 (0, 0)))], s.2.2, []⟩)
   (fun s => 16 - s.1) (0, Z, B0) ⟨Nat.zero_le _, by simp [hZ], BExt.refl _, fun q hq => by
    simp only [hZ] at hq
    obtain rfl := List.eq_of_mem_replicate hq
    exact Dm8 _, by simp [hZ, zQ, Y7]⟩ (Weak.sub (A6 (by simp [wσ, go_sem, closed, A0, A4, hzr, hLc, hzc] <;> omega) (by simp [whs, Go.Ew.hget, go_sem, EObj.closed, closed, A0, A4, hzr, hLc, hzc]) (by first | (simp [*]; done) | (simp only [cxG]; omega)) rfl rfl (by simp))) ?_
  rintro ⟨i, ps, B2⟩ ⟨hi, hpl, hB2, hok, hps⟩
  simp only at hi hpl hB2 hok hps ⊢
  rcases Nat.lt_or_ge i 16 with hi2 | hi2
  ·have cA : decide ((i : Int) < 16) = true := decide_eq_true (by omega)
   have hiq : i < qs.length := by omega
   have hLi : L[i]? = some (.raw (qs[i]).2) := by rw [hL]; simp [hiq]
   have hLi' : L.getD i .any = .raw (qs[i]).2 := by rw [List.getD_eq_getElem?_getD, hLi]; rfl
   refine A2 1000 ?_
   repeat' (first | with_reducible refine And.intro (by omega) ?_ | simp (maxSteps := 4000000) (disch := omega) only [go_sem, ↓reduceIte, cA, hLi, hLi', hLl, Int.toNat_natCast, H8, hpl])
   have hki : qs[i].1 ∈ qs.map Prod.fst := List.mem_map.2 ⟨_, List.getElem_mem hiq, rfl⟩
   refine F8 (hrf qs[i].1 hki B2 qs[i].2 (hB0.trans hB2) ((hkk _ (List.getElem_mem hiq)).ext' hB2)) (fun _ => by simp [closed, A0]) (fun s3 B3 hB3 hR3 => A2 1000 ?_)
   change BExt B2 B3 at hB3
   have hst : H5 (ps.flatMap itQ) (i * 3) (itE (J8 (D6 qs[i].1)) s3) = (ps.set i (J8 (D6 qs[i].1), s3)).flatMap itQ := An3 (f := itQ) (k := 3) (a := (J8 (D6 qs[i].1), s3)) (by omega) (fun _ => rfl) (by omega)
   repeat' (first | with_reducible refine And.intro (by omega) ?_ | simp (maxSteps := 4000000) (disch := omega) only [go_sem, ↓reduceIte, hst, H8, hpl, Int.toNat_natCast])
   have hc2 : ∀ n, A0 n ((ps.set i (J8 (D6 qs[i].1), s3)).flatMap itQ) := fun n => C1 n _
   refine ⟨(i + 1, ps.set i (J8 (D6 qs[i].1), s3), B3), ⟨by simp only; omega, by simp [hpl], hB2.trans hB3, fun q hq => ?_, ?_⟩, Weak.sub (A6 (by simp [wσ, go_sem, closed, A0, A4, hLc, hc2] <;> omega) (by simp [whs, Go.Ew.hget, go_sem, EObj.closed, closed, A0, A4, hLc, hc2]) (by first | (simp [*]; done) | (simp only [cxG]; omega)) rfl rfl (by simp)), by simp only; omega⟩
   ·rcases List.mem_or_eq_of_mem_set hq with hq | rfl
    ·exact (hok q hq).ext hB3
    ·exact hR3
   ·simp only
    rw [List.map_set, hps, List.take_succ_eq_append_getElem (by simpa using hiq), T8, T8, List.map_append, List.set_append_right _ _ (by simp; omega)]
    have e1 : i - (List.map (fun k => J8 (D6 k)) (List.take i (List.map Prod.fst qs))).length = 0 := by simp; omega
    have e2 : 17 - i = (17 - (i + 1)) + 1 := by omega
    rw [e1, e2, List.replicate_succ, List.set_cons_zero, List.append_assoc]
    simp
  ·obtain rfl : i = 16 := by omega
   have l7 : Y7 ((qs.map Prod.fst).take 16) = Y7 (qs.map Prod.fst) := by rw [List.take_of_length_le (by simp [hq])]
   have hBt := hB2
   replace hwv := hwv.ext hB2
   obtain ⟨q1, q1d, q1s⟩ := (hc.ext hB2).raw (j := 16) (v := .slice wA v.length wc) (by simp [hq])
   simp only [F4, Addr.add, ↓reduceIte, Nat.reduceAdd, Nat.reduceEqDiff, D9, if_false, Nat.zero_add, Nat.one_ne_zero] at q1 q1s
   have qD2 : B2.D b := q1d
   refine A2 1000 ?_
   repeat' (first | with_reducible refine And.intro (by first | omega | (constructor <;> assumption)) ?_ | simp (maxSteps := 4000000) (disch := omega) only [go_sem, ↓reduceIte, q1, H8, hpl] | with_reducible refine A2 1000 ?_)
   refine F8 (Ah5 v _ _ wA wc hwv rfl e3) (fun _ => by simp [closed, A0]) (fun s3 B3 hB3 hR3 => A2 1000 ?_)
   change BExt B2 B3 at hB3
   have hst : H5 (ps.flatMap itQ) 48 (itE (txt v) s3) = (ps.set 16 (txt v, s3)).flatMap itQ := An3 (f := itQ) (k := 3) (i := 16) (a := (txt v, s3)) (by omega) (fun _ => rfl) (by omega)
   repeat' (simp (maxSteps := 4000000) (disch := omega) only [go_sem, ↓reduceIte, hst, H8, hpl])
   obtain ⟨ps2, hps2⟩ : ∃ ps2, ps2 = ps.set 16 (txt v, s3) := ⟨_, rfl⟩
   have hpl2 : ps2.length = 17 := by rw [hps2]; simp [hpl]
   have hok2 : ∀ q ∈ ps2, ItAt B3 q.1 q.2 := fun q hq => by
    rw [hps2] at hq
    rcases List.mem_or_eq_of_mem_set hq with hq | rfl
    ·exact (hok q hq).ext hB3
    ·exact hR3
   have hfst : ps2.map Prod.fst = Y7 (qs.map Prod.fst) ++ [txt v] := by
    rw [hps2, List.map_set, hps, l7, List.set_append_right _ _ (by rw [T8]; simp [hq])]
    have e1 : 16 - (Y7 (qs.map Prod.fst)).length = 0 := by rw [T8]; simp [hq]
    rw [e1]; rfl
   rw [← hps2]
   have hmo : (ps2.flatMap itC).map D9 = ps2.flatMap itQ := by rw [List.map_flatMap]; rfl
   have hcl2 : (ps2.flatMap itC).length = 51 := by rw [N1 (k := 3) (fun q _ => rfl), hpl2]
   have hql2 : (ps2.flatMap itQ).length = 51 := by rw [H8, hpl2]
   refine Aq5 1 0 17 17 [] (ps2.flatMap itC) Cr8 rfl rfl (by rw [hmo, hcl2, List.drop_zero, List.take_of_length_le (by rw [hql2]; omega)]) (fun s => by simp [closed, A0]) (fun B ad cap hB hc3 => Bm0 ps2 17 B ad cap hc3 (by omega) (fun q hq => (hok2 q hq).ext hB) hpl2) (fun s8 B8 hB8 hR8 => A2 1000 ?_)
   change BExt B3 B8 at hB8
   rw [hfst] at hR8
   simp only [hfst]
   repeat' (simp (maxSteps := 4000000) (disch := omega) only [go_sem, ↓reduceIte])
   have hBX := hBt.trans (hB3.trans hB8)
   first | exact ⟨hBX, s8, rfl, by simp [closed, A0], hR8⟩ | exact ⟨s8, rfl, by simp [closed, A0], hR8⟩
mutual
/-- Every node's item. -/
theorem Bm4 : ∀ (nd : Nd) {B : Base} {v : Value}, NdAt B nd v → ∀ (T : TypeId) (b : Nat), v = .iface T (.pointer (some ⟨b, 0, none⟩)) → Does Try.prog (itF T) [.raw (.pointer (some ⟨b, 0, none⟩))] B (fun s : Plc => .agg (itE (D6 nd) s)) (fun s B' => ItAt B' (D6 nd) s)
 | .nil, B, v, h, T, b, hv => by subst hv; cases h
 | .leaf r w, B, v, h, T, b, hv => by
  have hT : T = 112 := by subst hv; cases h; rfl
  subst hT hv
  exact Bm2 h
 | .ext r k, B, v, h, T, b, hv => by
  have hT : T = 116 := by subst hv; cases h; rfl
  subst hT hv
  exact Bx4 h (fun B' kv hB hk => Bp6 hk (fun T b e => Bm4 k hk T b e) (Cs9 k) (Cr7 hk))
 | .br ks w, B, v, h, T, b, hv => by
  have hT : T = 119 := by subst hv; cases h; rfl
  subst hT hv
  exact Cj7 h (fun k hk B' kv hB hkv => Bp6 hkv (fun T b e => Bq9 ks k hk hkv T b e) (Cs9 k) (Cr7 hkv))
theorem Bq9 : ∀ (ks : List Nd) (k : Nd), k ∈ ks → ∀ {B : Base} {v : Value}, NdAt B k v → ∀ (T : TypeId) (b : Nat), v = .iface T (.pointer (some ⟨b, 0, none⟩)) → Does Try.prog (itF T) [.raw (.pointer (some ⟨b, 0, none⟩))] B (fun s : Plc => .agg (itE (D6 k) s)) (fun s B' => ItAt B' (D6 k) s)
 | [], k, hk, _, _, _, _, _, _ => by simp at hk
 | k' :: ks, k, hk, B, v, h, T, b, hv => by
  rcases List.mem_cons.1 hk with h1 | h1
  ·rw [h1] at h ⊢
   exact Bm4 k' h T b hv
  ·exact Bq9 ks k h1 h T b hv
end
end Go.Proofs.Ytncjbfkkgdepoaa
namespace Go.Proofs.Ytncjbfkkgdepoaa
open Go RowKit Go.Ew
mutual
def O7 : Nd → List UInt8 → List UInt8
 | .nil, _ => []
 | .leaf r v, q => if r = q then v else []
 | .ext r k, q => if r <+: q then O7 k (q.drop r.length) else []
 | .br ks v, q => if q = [] then v else De6 ks (q.getD 0 0).toNat (q.drop 1)
def De6 : List Nd → Nat → List UInt8 → List UInt8
 | [], _, _ => []
 | k :: _, 0, q => O7 k q
 | _ :: ks, n + 1, q => De6 ks n q
end
theorem Cg7 : ∀ (ks : List Nd) (i : Nat) (q : List UInt8), De6 ks i q = O7 (ks.getD i .nil) q
 | [], i, q => by simp [De6, O7]
 | k :: ks, 0, q => by simp [De6]
 | k :: ks, i + 1, q => by rw [De6, Cg7 ks i q]; simp
theorem I9 (ks : List Nd) (v : List UInt8) : O7 (.br ks v) [] = v := by simp [O7]
theorem G7 (ks : List Nd) (v : List UInt8) (x : UInt8) (q : List UInt8) : O7 (.br ks v) (x :: q) = O7 (ks.getD x.toNat .nil) q := by simp [O7, Cg7]
theorem Br3 (q : List UInt8) : O7 .nil q = [] := rfl
theorem K9 (r v q : List UInt8) : O7 (.leaf r v) q = if r = q then v else [] := by rw [O7]
theorem M1 (r : List UInt8) (k : Nd) (q : List UInt8) : O7 (.ext r k) (r ++ q) = O7 k q := by
 rw [O7, if_pos (List.prefix_append _ _), List.drop_left]
theorem X7 {r : List UInt8} {k : Nd} {q : List UInt8} (h : ¬ r <+: q) : O7 (.ext r k) q = [] := by rw [O7, if_neg h]
/-- What a branch has at a place: a value, or a kid. -/
def Cg3 (ks : List Nd) (v : List UInt8) : Option Nat → Prop
 | none => v ≠ []
 | some i => ks.getD i .nil ≠ .nil
def two (ks : List Nd) (v : List UInt8) : Prop := ∃ a b, a ≠ b ∧ Cg3 ks v a ∧ Cg3 ks v b
inductive Canon : Nd → Prop
 | leaf (r v : List UInt8) (hv : v ≠ []) (h : ∀ x ∈ r, x.toNat < 16) : Canon (.leaf r v)
 | ext (r : List UInt8) (ks : List Nd) (v : List UInt8) (h0 : r ≠ []) (h : ∀ x ∈ r, x.toNat < 16) (hk : Canon (.br ks v)) : Canon (.ext r (.br ks v))
 | br (ks : List Nd) (v : List UInt8) (hl : ks.length = 16) (hk : ∀ k ∈ ks, k ≠ .nil → Canon k) (h2 : two ks v) : Canon (.br ks v)
theorem Bs5 {t : Nd} (h : Canon t) : t ≠ .nil := by cases h <;> simp
theorem Ct4 {t : Nd} (h : Canon t) : Wf t := by
 induction h with
 | leaf r v hv h => exact .leaf r v h
 | ext r ks v h0 h hk ih => exact .ext r _ h h0 ih
 | br ks v hl hk h2 ih =>
  refine .br ks v fun k hm => ?_
  by_cases e : k = .nil
  ·rw [e]; exact .nil
  ·exact ih k hm e
theorem Ag6 {ks : List Nd} {i : Nat} (h : ks.getD i .nil ≠ .nil) : ks.getD i .nil ∈ ks ∧ i < ks.length := by
 rcases Nat.lt_or_ge i ks.length with hi | hi
 ·refine ⟨?_, hi⟩
  rw [List.getD_eq_getElem?_getD, List.getElem?_eq_getElem hi]
  exact List.getElem_mem hi
 ·rw [List.getD_eq_getElem?_getD, List.getElem?_eq_none hi] at h
  exact absurd rfl h
theorem Az0 {i : Nat} (h : i < 16) : (UInt8.ofNat i).toNat = i := UInt8.toNat_ofNat_of_lt' (by show i < 256; omega)
/-- A key's first step. -/
def Z1 (q : List UInt8) : Option Nat := q.head?.map (·.toNat)
theorem Dg0 {t : Nd} (h : Canon t) : ∃ q, O7 t q ≠ [] := by
 induction h with
 | leaf r v hv h => exact ⟨r, by rw [K9, if_pos rfl]; exact hv⟩
 | ext r ks v h0 h hk ih =>
  obtain ⟨q, hq⟩ := ih
  exact ⟨r ++ q, by rw [M1]; exact hq⟩
 | br ks v hl hk h2 ih =>
  obtain ⟨a, b, hab, ha, hb⟩ := h2
  cases a with
  | none => exact ⟨[], by rw [I9]; exact ha⟩
  | some i =>
   have ha' : ks.getD i .nil ≠ .nil := ha
   obtain ⟨hm, hi⟩ := Ag6 ha'
   obtain ⟨q, hq⟩ := ih _ hm ha'
   exact ⟨UInt8.ofNat i :: q, by rw [G7, Az0 (by omega)]; exact hq⟩
theorem Bv0 {ks : List Nd} {v : List UInt8} (h : Canon (.br ks v)) : ∃ p q, O7 (.br ks v) p ≠ [] ∧ O7 (.br ks v) q ≠ [] ∧ p.head? ≠ q.head? := by
 cases h with
 | br _ _ hl hk h2 =>
  have key : ∀ a, Cg3 ks v a → ∃ q, O7 (.br ks v) q ≠ [] ∧ Z1 q = a := by
   intro a ha
   cases a with
   | none => exact ⟨[], by rw [I9]; exact ha, rfl⟩
   | some i =>
    have ha' : ks.getD i .nil ≠ .nil := ha
    obtain ⟨hm, hi⟩ := Ag6 ha'
    obtain ⟨q, hq⟩ := Dg0 (hk _ hm ha')
    exact ⟨UInt8.ofNat i :: q, by rw [G7, Az0 (by omega)]; exact hq, by simp only [Z1, List.head?_cons, Option.map_some]; rw [Az0 (by omega)]⟩
  obtain ⟨a, b, hab, ha, hb⟩ := h2
  obtain ⟨p, hp, hpa⟩ := key a ha
  obtain ⟨q, hq, hqb⟩ := key b hb
  refine ⟨p, q, hp, hq, fun e => hab ?_⟩
  rw [← hpa, ← hqb, Z1, Z1, e]
theorem Be6 {r' r p q : List UInt8} (h1 : r' <+: r ++ p) (h2 : r' <+: r ++ q) (h : p.head? ≠ q.head?) : r' <+: r := by
 rcases Nat.le_total r'.length r.length with hl | hl
 ·exact List.prefix_of_prefix_length_le h1 (List.prefix_append _ _) hl
 ·have h3 : r <+: r' := List.prefix_of_prefix_length_le (List.prefix_append _ _) h1 hl
  obtain ⟨s, rfl⟩ := h3
  rw [List.prefix_append_right_inj] at h1 h2
  cases s with
  | nil => simp
  | cons x s =>
   obtain ⟨u, rfl⟩ := h1
   obtain ⟨w, rfl⟩ := h2
   exact absurd rfl h
theorem Aa0 {r : List UInt8} {k : Nd} {q : List UInt8} (h : O7 (.ext r k) q ≠ []) : r <+: q := by
 by_cases h1 : r <+: q
 ·exact h1
 ·exact absurd (X7 h1) h
theorem Z7 {r v q : List UInt8} (h : O7 (.leaf r v) q ≠ []) : r = q := by
 by_cases h1 : r = q
 ·exact h1
 ·rw [K9, if_neg h1] at h; exact absurd rfl h
theorem Br1 {r p q : List UInt8} (h0 : r ≠ []) (h1 : r <+: p) (h2 : r <+: q) : p.head? = q.head? := by
 obtain ⟨u, rfl⟩ := h1
 obtain ⟨w, rfl⟩ := h2
 cases r with
 | nil => exact absurd rfl h0
 | cons x r => rfl
/-- Two tries that have the same are the same. -/
theorem Ci9 {t : Nd} (h : Canon t) : ∀ t', Canon t' → (∀ q, O7 t q = O7 t' q) → t = t' := by
 induction h with
 | leaf r v hv h =>
  intro t' h' he
  have hone : ∀ p q, O7 t' p ≠ [] → O7 t' q ≠ [] → p = q := fun p q hp hq => by
   rw [← he] at hp hq
   rw [← Z7 hp, Z7 hq]
  cases h' with
  | leaf r' v' hv' h' =>
   have h1 : O7 (.leaf r v) r ≠ [] := by rw [K9, if_pos rfl]; exact hv
   rw [he] at h1
   obtain rfl := Z7 h1
   have := he r'
   rw [K9, K9, if_pos rfl, if_pos rfl] at this
   rw [this]
  | ext r' ks v' h0 h' hk =>
   obtain ⟨p, q, hp, hq, hpq⟩ := Bv0 hk
   have := hone (r' ++ p) (r' ++ q) (by rw [M1]; exact hp) (by rw [M1]; exact hq)
   rw [List.append_cancel_left_eq] at this
   rw [this] at hpq
   exact absurd rfl hpq
  | br ks v' hl hk h2 =>
   obtain ⟨p, q, hp, hq, hpq⟩ := Bv0 (.br ks v' hl hk h2)
   rw [hone p q hp hq] at hpq
   exact absurd rfl hpq
 | ext r ks v h0 h hk ih =>
  intro t' h' he
  obtain ⟨p, q, hp, hq, hpq⟩ := Bv0 hk
  cases h' with
  | leaf r' v' hv' h' =>
   have h1 : O7 (.ext r (.br ks v)) (r ++ p) ≠ [] := by rw [M1]; exact hp
   have h2 : O7 (.ext r (.br ks v)) (r ++ q) ≠ [] := by rw [M1]; exact hq
   rw [he] at h1 h2
   have := (Z7 h1).symm.trans (Z7 h2)
   rw [List.append_cancel_left_eq] at this
   rw [this] at hpq
   exact absurd rfl hpq
  | ext r' ks' v' h0' h' hk' =>
   obtain ⟨p', q', hp', hq', hpq'⟩ := Bv0 hk'
   have e1 : r' <+: r := by
    refine Be6 (p := p) (q := q) (Aa0 (k := .br ks' v') ?_) (Aa0 (k := .br ks' v') ?_) hpq
    ·rw [← he, M1]; exact hp
    ·rw [← he, M1]; exact hq
   have e2 : r <+: r' := by
    refine Be6 (p := p') (q := q') (Aa0 (k := .br ks v) ?_) (Aa0 (k := .br ks v) ?_) hpq'
    ·rw [he, M1]; exact hp'
    ·rw [he, M1]; exact hq'
   obtain rfl : r = r' := List.IsPrefix.eq_of_length_le e2 e1.length_le
   rw [ih _ hk' fun q => by have := he (r ++ q); rwa [M1, M1] at this]
  | br ks' v' hl' hk' h2' =>
   obtain ⟨p', q', hp', hq', hpq'⟩ := Bv0 (.br ks' v' hl' hk' h2')
   rw [← he] at hp' hq'
   exact absurd (Br1 h0 (Aa0 hp') (Aa0 hq')) hpq'
 | br ks v hl hk h2 ih =>
  intro t' h' he
  obtain ⟨p, q, hp, hq, hpq⟩ := Bv0 (.br ks v hl hk h2)
  cases h' with
  | leaf r' v' hv' h' =>
   rw [he] at hp hq
   rw [← Z7 hp, ← Z7 hq] at hpq
   exact absurd rfl hpq
  | ext r' ks' v' h0' h' hk' =>
   rw [he] at hp hq
   exact absurd (Br1 h0' (Aa0 hp) (Aa0 hq)) hpq
  | br ks' v' hl' hk' h2' =>
   have hv : v = v' := by have := he []; rwa [I9, I9] at this
   have hks : ks = ks' := by
    refine List.ext_getElem (by omega) fun i hi hi' => ?_
    have hg : ∀ q, O7 ks[i] q = O7 ks'[i] q := fun q => by
     have := he (UInt8.ofNat i :: q)
     rw [G7, G7, Az0 (by omega)] at this
     simpa [List.getD, hi, hi'] using this
    by_cases e1 : ks[i] = .nil
    ·by_cases e2 : ks'[i] = .nil
     ·rw [e1, e2]
     ·obtain ⟨q, hq⟩ := Dg0 (hk' _ (List.getElem_mem hi') e2)
      rw [← hg, e1] at hq
      exact absurd rfl hq
    ·by_cases e2 : ks'[i] = .nil
     ·obtain ⟨q, hq⟩ := Dg0 (hk _ (List.getElem_mem hi) e1)
      rw [hg, e2] at hq
      exact absurd rfl hq
     ·exact ih _ (List.getElem_mem hi) e1 _ (hk' _ (List.getElem_mem hi') e2) hg
   rw [hv, hks]
end Go.Proofs.Ytncjbfkkgdepoaa
