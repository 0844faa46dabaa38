/- Part of a proof over the seat Ytncjbfkkgdepoaa. -/
import Derived.Test.YtncjbfkkgdepoaaG13
set_option linter.unusedSimpArgs false
set_option linter.unusedVariables false
set_option maxRecDepth 100000
namespace Go.Proofs.Ytncjbfkkgdepoaa
open Go RowKit Go.Ew
theorem Az4 {α : Type} {p q : Prop} [Decidable p] [Decidable q] (h : p ↔ q) (a b : α) : (if p then a else b) = if q then a else b := by
 by_cases hp : p
 ·rw [if_pos hp, if_pos (h.1 hp)]
 ·rw [if_neg hp, if_neg fun hq => hp (h.2 hq)]
theorem Ag5 (p : List UInt8) (n : Nd) (q : List UInt8) : O7 (Bc3 p n) q = if p <+: q then O7 n (q.drop p.length) else [] := by
 unfold Bc3
 split
 ·rename_i h; subst h; simp
 ·rw [O7]
instance decNil : (k : Nd) → Decidable (k = .nil)
 | .nil => isTrue rfl
 | .leaf _ _ => isFalse (by simp)
 | .ext _ _ => isFalse (by simp)
 | .br _ _ => isFalse (by simp)
/-- What is behind some nibbles: a leaf's rest and value, or a kid. -/
def Au6 (r : List UInt8) (kid : Nd) (w : List UInt8) : Nd := if kid = .nil then .leaf r w else Bc3 r kid
theorem Cd0 (p r : List UInt8) (kid : Nd) (w q : List UInt8) : O7 (Au6 (p ++ r) kid w) (p ++ q) = O7 (Au6 r kid w) q := by
 unfold Au6
 split
 ·rw [K9, K9]; exact Az4 (by rw [List.append_cancel_left_eq]) _ _
 ·rw [Ag5, Ag5, Az4 (List.prefix_append_right_inj p), List.length_append, ← List.drop_drop, List.drop_left]
theorem Dh6 {p r : List UInt8} {kid : Nd} {w q : List UInt8} (h : ¬ p <+: q) : O7 (Au6 (p ++ r) kid w) q = [] := by
 have h2 : ¬ p ++ r <+: q := fun h2 => h ((List.prefix_append _ _).trans h2)
 unfold Au6
 split
 ·rw [K9, if_neg]
  rintro rfl
  exact h (List.prefix_append _ _)
 ·rw [Ag5, if_neg h2]
theorem Cr0 (x : UInt8) (s : List UInt8) (kid : Nd) (v q : List UInt8) : O7 (Ae6 (x :: s) kid v) q = O7 (Au6 s kid v) q := by
 by_cases hk : kid = .nil
 ·subst hk; rw [Au6, if_pos rfl]; rfl
 ·have e : Ae6 (x :: s) kid v = if 0 < s.length then .ext s kid else kid := by
   cases kid with
   | nil => exact absurd rfl hk
   | leaf => simp [Ae6]
   | ext => simp [Ae6]
   | br => simp [Ae6]
  rw [e, Au6, if_neg hk]
  unfold Bc3
  cases s with
  | nil => simp
  | cons => simp
theorem Cf9 (rest : List UInt8) (kid : Nd) (v : List UInt8) : Ae6 rest kid v ≠ .nil := by
 cases kid with
 | nil => simp [Ae6]
 | leaf => simp only [Ae6]; split <;> simp
 | ext => simp only [Ae6]; split <;> simp
 | br => simp only [Ae6]; split <;> simp
theorem Bq1 {r : List UInt8} {kid : Nd} {w q : List UInt8} (hk : kid ≠ .nil → r ≠ []) (h : O7 (Au6 r kid w) q ≠ []) : r.head? = q.head? := by
 unfold Au6 at h
 split at h
 ·rw [Z7 h]
 ·rename_i hn
  rw [Ag5] at h
  split at h
  ·rename_i hp
   obtain ⟨u, rfl⟩ := hp
   cases r with
   | nil => exact absurd rfl (hk hn)
   | cons x r => rfl
  ·exact absurd rfl h
theorem Bp0 (ks : List Nd) (w rest : List UInt8) (kid : Nd) (v : List UInt8) : (T7 ks w rest kid v).1.length = ks.length := by
 unfold T7; split <;> simp
theorem Bp2 {ks : List Nd} {w rest : List UInt8} {kid : Nd} {v : List UInt8} (hl : ks.length = 16) (h16 : ∀ x ∈ rest, x.toNat < 16) (hk : kid ≠ .nil → rest ≠ []) (q : List UInt8) :
  O7 (.br (T7 ks w rest kid v).1 (T7 ks w rest kid v).2) q = if rest.head? = q.head? then O7 (Au6 rest kid v) q else O7 (.br ks w) q := by
 unfold T7
 cases rest with
 | nil =>
  have hkn : kid = .nil := Classical.byContradiction fun h => hk h rfl
  subst hkn
  rw [if_pos rfl]
  cases q with
  | nil => rw [if_pos rfl, I9, Au6, if_pos rfl, K9, if_pos rfl]
  | cons y q => rw [if_neg (by simp), G7, G7]
 | cons x s =>
  rw [if_neg (by simp)]
  have hx := h16 x (by simp)
  cases q with
  | nil => rw [if_neg (by simp), I9, I9]
  | cons y q =>
   simp only [List.head?_cons, Option.some.injEq, List.getD_cons_zero]
   rw [G7]
   by_cases e : x = y
   ·subst e
    rw [if_pos rfl]
    have : (ks.set x.toNat (Ae6 (x :: s) kid v)).getD x.toNat .nil = Ae6 (x :: s) kid v := by
     simp [List.getD, hl, hx]
    rw [this, Cr0]
    exact (Cd0 [x] s kid v q).symm
   ·rw [if_neg e, G7]
    have hne : x.toNat ≠ y.toNat := fun h => e (UInt8.toNat_inj.1 h)
    congr 1
    simp [List.getD, List.getElem?_set_ne hne]
theorem Bp1 {ks : List Nd} {w rest : List UInt8} {kid : Nd} {v : List UInt8} (hl : ks.length = 16) (h16 : ∀ x ∈ rest, x.toNat < 16) (hv : rest = [] → v ≠ []) : Cg3 (T7 ks w rest kid v).1 (T7 ks w rest kid v).2 (Z1 rest) := by
 unfold T7
 cases rest with
 | nil => rw [if_pos rfl]; exact hv rfl
 | cons x s =>
  rw [if_neg (by simp)]
  have hx := h16 x (by simp)
  show (ks.set x.toNat (Ae6 (x :: s) kid v)).getD x.toNat .nil ≠ .nil
  have : (ks.set x.toNat (Ae6 (x :: s) kid v)).getD x.toNat .nil = Ae6 (x :: s) kid v := by
   simp [List.getD, hl, hx]
  rw [this]
  exact Cf9 _ _ _
theorem Cb0 {ks : List Nd} {w rest : List UInt8} {kid : Nd} {v : List UInt8} {a : Option Nat} (h : Cg3 ks w a) (hv : a = Z1 rest → rest = [] → v ≠ []) : Cg3 (T7 ks w rest kid v).1 (T7 ks w rest kid v).2 a := by
 unfold T7
 cases rest with
 | nil =>
  rw [if_pos rfl]
  cases a with
  | none => exact hv rfl rfl
  | some i => exact h
 | cons x s =>
  rw [if_neg (by simp)]
  cases a with
  | none => exact h
  | some i =>
   have h' : ks.getD i .nil ≠ .nil := h
   show (ks.set x.toNat (Ae6 (x :: s) kid v)).getD i .nil ≠ .nil
   obtain ⟨_, hi⟩ := Ag6 h'
   rw [List.getD_eq_getElem?_getD, List.getElem?_set]
   split
   ·rw [if_pos (by omega)]; exact Cf9 _ _ _
   ·rwa [List.getD_eq_getElem?_getD] at h'
def Cw8 : Nd → Prop
 | .br _ _ => True
 | _ => False
theorem Bx2 {rest : List UInt8} {kid : Nd} {v : List UInt8} (h16 : ∀ x ∈ rest, x.toNat < 16) (h1 : kid = .nil → v ≠ []) (h2 : kid ≠ .nil → Cw8 kid ∧ Canon kid) : Canon (Ae6 rest kid v) := by
 have hd : ∀ x ∈ rest.drop 1, x.toNat < 16 := fun x hx => h16 x (List.mem_of_mem_drop hx)
 by_cases hk : kid = .nil
 ·subst hk; exact .leaf _ _ (h1 rfl) hd
 ·obtain ⟨hb, hc⟩ := h2 hk
  cases kid with
  | br ks w =>
   simp only [Ae6]
   split
   ·rename_i hl
    refine .ext _ _ _ ?_ hd hc
    intro h
    have := congrArg List.length h
    simp at this; omega
   ·exact hc
  | _ => exact absurd hb (by simp [Cw8])
theorem At8 {ks : List Nd} {w rest : List UInt8} {kid : Nd} {v : List UInt8} (hk : ∀ k ∈ ks, k ≠ .nil → Canon k) (h16 : ∀ x ∈ rest, x.toNat < 16) (h1 : kid = .nil → rest ≠ [] → v ≠ []) (h2 : kid ≠ .nil → Cw8 kid ∧ Canon kid) : ∀ k ∈ (T7 ks w rest kid v).1, k ≠ .nil → Canon k := by
 unfold T7
 split
 ·exact hk
 ·rename_i h0
  intro k hm hn
  rcases List.mem_or_eq_of_mem_set hm with h | rfl
  ·exact hk k h hn
  ·exact Bx2 h16 (fun h => h1 h h0) h2
theorem Ba8 : ∀ l m : List UInt8, l.take (com l m) = m.take (com l m)
 | a :: l, b :: m => by
  rw [com]
  split
  ·rename_i e; rw [e, List.take_succ_cons, List.take_succ_cons, Ba8 l m]
  ·rfl
 | [], m => by simp [com]
 | _ :: _, [] => by simp [com]
theorem Bh1 : ∀ l m : List UInt8, l ≠ m → (l.drop (com l m)).head? ≠ (m.drop (com l m)).head?
 | a :: l, b :: m, h => by
  rw [com]
  split
  ·rename_i e
   rw [List.drop_succ_cons, List.drop_succ_cons]
   exact Bh1 l m fun h2 => h (by rw [e, h2])
  ·rename_i e; simpa using e
 | [], [], h => absurd rfl h
 | [], b :: m, _ => by simp [com]
 | a :: l, [], _ => by simp [com]
theorem Ao3 : nil16.length = 16 := by simp [nil16]
theorem Cd8 (q : List UInt8) : O7 (.br nil16 []) q = [] := by
 cases q with
 | nil => exact I9 _ _
 | cons x q =>
  rw [G7]
  have : nil16.getD x.toNat .nil = .nil := by
   rw [List.getD_eq_getElem?_getD, nil16, List.getElem?_replicate]; split <;> rfl
  rw [this]; rfl
theorem Bv4 {p q : List UInt8} (h : Z1 p = Z1 q) : p.head? = q.head? := by
 cases p <;> cases q <;> simp_all [Z1]
 exact UInt8.toNat_inj.1 h
/-- What is parted: what was there, and what comes. -/
theorem Bd0 {r rest : List UInt8} {kid : Nd} {w v : List UInt8} (hne : r ≠ rest) (h1 : ∀ x ∈ r, x.toNat < 16) (h2 : ∀ x ∈ rest, x.toNat < 16) (hv : v ≠ [])
  (hn : kid = .nil → w ≠ []) (hb : kid ≠ .nil → Cw8 kid ∧ Canon kid ∧ com r rest < r.length) : Canon (Af3 r rest kid w v) ∧ ∀ q, O7 (Af3 r rest kid w v) q = if q = rest then v else O7 (Au6 r kid w) q := by
 have hh := Bh1 r rest hne
 have ht := Ba8 r rest
 obtain ⟨k, hk⟩ : ∃ k, k = com r rest := ⟨_, rfl⟩
 have hsp : Af3 r rest kid w v = Bc3 (rest.take k) (.br (T7 (T7 nil16 [] (r.drop k) kid w).1 (T7 nil16 [] (r.drop k) kid w).2 (rest.drop k) .nil v).1 (T7 (T7 nil16 [] (r.drop k) kid w).1 (T7 nil16 [] (r.drop k) kid w).2 (rest.drop k) .nil v).2) := by rw [hk]; rfl
 rw [← hk] at hh ht hb
 have er : r = rest.take k ++ r.drop k := by rw [← ht, List.take_append_drop]
 have es : rest = rest.take k ++ rest.drop k := by rw [List.take_append_drop]
 have hr16 : ∀ x ∈ r.drop k, x.toNat < 16 := fun x hx => h1 x (List.mem_of_mem_drop hx)
 have hs16 : ∀ x ∈ rest.drop k, x.toNat < 16 := fun x hx => h2 x (List.mem_of_mem_drop hx)
 have hp16 : ∀ x ∈ rest.take k, x.toNat < 16 := fun x hx => h2 x (List.mem_of_mem_take hx)
 have hkr : kid ≠ .nil → r.drop k ≠ [] := fun h e => by
  have := (hb h).2.2
  have := congrArg List.length e
  simp at this; omega
 obtain ⟨p, hp⟩ : ∃ p, p = rest.take k := ⟨_, rfl⟩
 obtain ⟨r', hr'⟩ : ∃ r', r' = r.drop k := ⟨_, rfl⟩
 obtain ⟨s', hs'⟩ : ∃ s', s' = rest.drop k := ⟨_, rfl⟩
 rw [hsp]
 rw [← hp, ← hr'] at er
 rw [← hp, ← hs'] at es
 rw [← hr', ← hs'] at hh
 rw [← hr'] at hr16 hkr
 rw [← hs'] at hs16
 rw [← hp] at hp16
 rw [← hp, ← hr', ← hs']
 have hl1 : (T7 nil16 [] r' kid w).1.length = 16 := by rw [Bp0, Ao3]
 have hbr : Canon (.br (T7 (T7 nil16 [] r' kid w).1 (T7 nil16 [] r' kid w).2 s' .nil v).1 (T7 (T7 nil16 [] r' kid w).1 (T7 nil16 [] r' kid w).2 s' .nil v).2) := by
  refine .br _ _ (by rw [Bp0, hl1]) ?_ ?_
  ·refine At8 (At8 (fun k hm hkn => absurd (List.eq_of_mem_replicate hm) hkn) hr16 (fun h _ => hn h) (fun h => ⟨(hb h).1, (hb h).2.1⟩)) hs16 (fun _ _ => hv) (fun h => absurd rfl h)
  ·refine ⟨Z1 r', Z1 s', fun h => hh (Bv4 h), ?_, Bp1 hl1 hs16 (fun _ => hv)⟩
   exact Cb0 (Bp1 Ao3 hr16 (fun h => by
    by_cases hkn : kid = .nil
    ·exact hn hkn
    ·exact absurd h (hkr hkn))) (fun _ _ => hv)
 refine ⟨?_, fun q => ?_⟩
 ·unfold Bc3
  split
  ·exact hbr
  ·rename_i h0
   exact .ext _ _ _ h0 hp16 hbr
 ·rw [Ag5]
  by_cases hpq : p <+: q
  ·obtain ⟨q', rfl⟩ := hpq
   rw [if_pos (List.prefix_append _ _), List.drop_left]
   have e1 : O7 (Au6 r kid w) (p ++ q') = O7 (Au6 r' kid w) q' := by
    conv => lhs; rw [er]
    rw [Cd0]
   have e2 : (p ++ q' = rest) = (q' = s') := by rw [es, List.append_cancel_left_eq]
   rw [e1, Az4 (iff_of_eq e2), Bp2 hl1 hs16 (fun h => absurd rfl h), Bp2 Ao3 hr16 hkr]
   by_cases c1 : s'.head? = q'.head?
   ·rw [if_pos c1, Au6, if_pos rfl, K9]
    by_cases c2 : q' = s'
    ·rw [if_pos c2, if_pos c2.symm]
    ·rw [if_neg c2, if_neg (Ne.symm c2)]
     by_cases c3 : O7 (Au6 r' kid w) q' = []
     ·exact c3.symm
     ·exact absurd ((Bq1 hkr c3).trans c1.symm) hh
   ·have c4 : q' ≠ s' := fun h => c1 (by rw [h])
    rw [if_neg c1, if_neg c4]
    by_cases c2 : r'.head? = q'.head?
    ·rw [if_pos c2]
    ·rw [if_neg c2, Cd8]
     by_cases c3 : O7 (Au6 r' kid w) q' = []
     ·exact c3.symm
     ·exact absurd (Bq1 hkr c3) c2
  ·rw [if_neg hpq, if_neg (fun h => hpq (by rw [h, es]; exact List.prefix_append _ _)), er, Dh6 hpq]
theorem Cr1 (f : Nat) (ks : List Nd) (w rest v : List UInt8) : Cw8 (T9 f (.br ks w) rest v) := by
 cases f with
 | zero => trivial
 | succ f => rw [T9]; split <;> trivial
/-- The law of putting. -/
theorem Da2 : ∀ (f : Nat) (t : Nd) (rest v : List UInt8), (t = .nil ∨ Canon t) → rest.length < f → (∀ x ∈ rest, x.toNat < 16) → v ≠ [] → Canon (T9 f t rest v) ∧ ∀ q, O7 (T9 f t rest v) q = if q = rest then v else O7 t q := by
 intro f
 induction f with
 | zero => intro t rest v ht hf; omega
 | succ f ih =>
  intro t rest v ht hf h16 hv
  have hleaf : Canon (.leaf rest v) := .leaf _ _ hv h16
  have hlg : ∀ q, O7 (.leaf rest v) q = if q = rest then v else [] := fun q => by rw [K9]; simp only [eq_comm]
  rcases ht with rfl | ht
  ·exact ⟨hleaf, hlg⟩
  ·cases ht with
   | leaf r w hw hr =>
    rw [T9]
    by_cases e : r = rest
    ·rw [if_pos e]
     refine ⟨hleaf, fun q => ?_⟩
     rw [hlg, K9]
     by_cases c : q = rest
     ·rw [if_pos c, if_pos c]
     ·rw [if_neg c, if_neg c, if_neg (by rw [e]; exact Ne.symm c)]
    ·rw [if_neg e]
     obtain ⟨h1, h2⟩ := Bd0 (kid := .nil) (w := w) e hr h16 hv (fun _ => hw) (fun h => absurd rfl h)
     exact ⟨h1, fun q => by rw [h2, Au6, if_pos rfl]⟩
   | ext r ks w h0 hr hk =>
    have hrl : 0 < r.length := List.length_pos_iff.2 h0
    have hle := Av6 r rest
    rw [T9]
    by_cases e : com r rest = r.length
    ·rw [if_pos e]
     have ht := Ba8 r rest
     rw [e, List.take_length] at ht
     have es : rest = r ++ rest.drop r.length := by
      conv => lhs; rw [← List.take_append_drop r.length rest]
      rw [← ht]
     obtain ⟨h1, h2⟩ := ih (.br ks w) (rest.drop (com r rest)) v (.inr hk) (by rw [List.length_drop]; omega) (fun x hx => h16 x (List.mem_of_mem_drop hx)) hv
     rw [e] at h1 h2 ⊢
     have hbr := Cr1 f ks w (rest.drop r.length) v
     refine ⟨?_, fun q => ?_⟩
     ·generalize T9 f (.br ks w) (rest.drop r.length) v = t at h1 hbr
      cases t with
      | br ks' w' => exact .ext _ _ _ h0 hr h1
      | _ => exact absurd hbr (by simp [Cw8])
     ·by_cases hp : r <+: q
      ·obtain ⟨q', rfl⟩ := hp
       have : (r ++ q' = rest) = (q' = rest.drop r.length) := by
        conv => lhs; rw [es]
        rw [List.append_cancel_left_eq]
       rw [M1, M1, h2, Az4 (iff_of_eq this)]
      ·rw [X7 hp, X7 hp, if_neg]
       intro h
       exact hp (by rw [h, es]; exact List.prefix_append _ _)
    ·rw [if_neg e]
     have hne : r ≠ rest := by
      rintro rfl
      apply e
      have : ∀ l : List UInt8, com l l = l.length := fun l => by
       induction l with
       | nil => rfl
       | cons a l ih => rw [com, if_pos rfl, ih]; rfl
      exact this _
     obtain ⟨h1, h2⟩ := Bd0 (kid := .br ks w) (w := []) hne hr h16 hv (fun h => by cases h) (fun _ => ⟨trivial, hk, by omega⟩)
     refine ⟨h1, fun q => ?_⟩
     have hbn : (Nd.br ks w) ≠ .nil := by simp
     rw [h2, Au6, if_neg hbn, Bc3, if_neg h0]
   | br ks w hl hk h2 =>
    rw [T9]
    by_cases e : rest = []
    ·rw [if_pos e]
     refine ⟨.br _ _ hl hk ?_, fun q => ?_⟩
     ·obtain ⟨a, b, hab, ha, hb⟩ := h2
      have key : ∀ a, Cg3 ks w a → Cg3 ks v a := fun a ha => by
       cases a with
       | none => exact hv
       | some i => exact ha
      exact ⟨a, b, hab, key a ha, key b hb⟩
     ·cases q with
      | nil => rw [I9, if_pos e.symm]
      | cons x q => rw [G7, G7, if_neg (by rw [e]; simp)]
    ·rw [if_neg e]
     cases rest with
     | nil => exact absurd rfl e
     | cons x s =>
      simp only [List.getD_cons_zero, List.drop_succ_cons, List.drop_zero]
      have hx := h16 x (by simp)
      have hkx : ks.getD x.toNat .nil = .nil ∨ Canon (ks.getD x.toNat .nil) := by
       by_cases h : ks.getD x.toNat .nil = .nil
       ·exact .inl h
       ·exact .inr (hk _ (Ag6 h).1 h)
      obtain ⟨g1, g2⟩ := ih (ks.getD x.toNat .nil) s v hkx (by simp at hf; omega) (fun y hy => h16 y (by simp [hy])) hv
      refine ⟨.br _ _ (by simp [hl]) (fun k hm hn => ?_) ?_, fun q => ?_⟩
      ·rcases List.mem_or_eq_of_mem_set hm with h | rfl
       ·exact hk k h hn
       ·exact g1
      ·obtain ⟨a, b, hab, ha, hb⟩ := h2
       have key : ∀ a, Cg3 ks w a → Cg3 (ks.set x.toNat (T9 f (ks.getD x.toNat .nil) s v)) w a := fun a ha => by
        cases a with
        | none => exact ha
        | some i =>
         have h' : ks.getD i .nil ≠ .nil := ha
         show (ks.set x.toNat _).getD i .nil ≠ .nil
         obtain ⟨_, hi⟩ := Ag6 h'
         rw [List.getD_eq_getElem?_getD, List.getElem?_set]
         split
         ·rw [if_pos (by omega)]; exact Bs5 g1
         ·rwa [List.getD_eq_getElem?_getD] at h'
       exact ⟨a, b, hab, key a ha, key b hb⟩
      ·cases q with
       | nil => rw [I9, I9, if_neg (by simp)]
       | cons y q =>
        rw [G7, G7]
        by_cases c : x = y
        ·subst c
         have : (ks.set x.toNat (T9 f (ks.getD x.toNat .nil) s v)).getD x.toNat .nil = T9 f (ks.getD x.toNat .nil) s v := by
          simp [List.getD, hl, hx]
         rw [this, g2]
         simp only [List.cons.injEq, true_and]
        ·have hne : x.toNat ≠ y.toNat := fun h => c (UInt8.toNat_inj.1 h)
         rw [if_neg (by simp; intro h; exact absurd h.symm c)]
         congr 1
         simp [List.getD, List.getElem?_set_ne hne]
end Go.Proofs.Ytncjbfkkgdepoaa
namespace Go.Proofs.Ytncjbfkkgdepoaa
open Go RowKit Go.Ew
def hdK (ks : List (List UInt8)) : List UInt8 := ks.headD []
def Ac2 (ks : List (List UInt8)) (j : Nat) : Bool := ks.all fun q => decide (j < q.length) && (q.getD j 0 == (hdK ks).getD j 0)
def Ci1 (ks : List (List UInt8)) (j : Nat) : Nat → Nat
 | 0 => 0
 | f + 1 => if Ac2 ks j then Ci1 ks (j + 1) f + 1 else 0
def cmn (ks : List (List UInt8)) (i : Nat) : Nat := Ci1 ks i ((hdK ks).length - i)
theorem Bu3 {ks : List (List UInt8)} {j : Nat} (h0 : ks ≠ []) (h : Ac2 ks j = true) : j < (hdK ks).length := by
 cases ks with
 | nil => exact absurd rfl h0
 | cons k ks =>
  rw [Ac2, List.all_eq_true] at h
  have := h k (by simp)
  simp only [Bool.and_eq_true, decide_eq_true_eq] at this
  exact this.1
theorem Bs2 {ks : List (List UInt8)} : ∀ (f j n : Nat), n < Ci1 ks j f → Ac2 ks (j + n) = true
 | 0, j, n, h => by simp [Ci1] at h
 | f + 1, j, n, h => by
  rw [Ci1] at h
  split at h
  ·rename_i ha
   cases n with
   | zero => exact ha
   | succ n =>
    have := Bs2 (ks := ks) f (j + 1) n (by omega)
    rwa [show j + 1 + n = j + (n + 1) by omega] at this
  ·omega
theorem Bh2 {ks : List (List UInt8)} (h0 : ks ≠ []) : ∀ (f j : Nat), (hdK ks).length ≤ j + f → Ac2 ks (j + Ci1 ks j f) = false
 | 0, j, h => by
  by_cases ha : Ac2 ks (j + Ci1 ks j 0) = true
  ·have := Bu3 h0 ha
   rw [Ci1] at this; omega
  ·simpa using ha
 | f + 1, j, h => by
  rw [Ci1]
  split
  ·have := Bh2 h0 f (j + 1) (by omega)
   rwa [show j + (Ci1 ks (j + 1) f + 1) = j + 1 + Ci1 ks (j + 1) f by omega]
  ·rename_i ha; simpa using ha
theorem Bb0 {ks : List (List UInt8)} {i n : Nat} (h : n < cmn ks i) : Ac2 ks (i + n) = true := Bs2 _ _ _ h
theorem Ba9 {ks : List (List UInt8)} (h0 : ks ≠ []) (i : Nat) : Ac2 ks (i + cmn ks i) = false := Bh2 h0 _ _ (by omega)
theorem Cs7 {ks : List (List UInt8)} (h0 : ks ≠ []) (i : Nat) : cmn ks (i + cmn ks i) = 0 := by
 have h := Ba9 h0 i
 rcases Nat.eq_zero_or_pos (cmn ks (i + cmn ks i)) with h1 | h1
 ·exact h1
 ·have := Bb0 (i := i + cmn ks i) h1
  rw [Nat.add_zero, h] at this; cases this
abbrev KV := List UInt8 × List UInt8
def R2 (m : List KV) (i d : Nat) : List KV := m.filter fun p => decide (p.1.length ≠ i) && ((p.1.getD i 0).toNat == d)
def Bu6 (m : List KV) (i : Nat) : List UInt8 := m.foldl (fun a p => if p.1.length = i then p.2 else a) []
def Ac1 : Nat → List KV → Nat → Nd
 | 0, _, _ => .nil
 | f + 1, m, i =>
  if m.length = 1 then .leaf ((hdK (m.map Prod.fst)).drop i) ((m.map Prod.snd).headD [])
  else if 0 < cmn (m.map Prod.fst) i then .ext (((hdK (m.map Prod.fst)).drop i).take (cmn (m.map Prod.fst) i)) (Ac1 f m (i + cmn (m.map Prod.fst) i))
  else .br ((List.range 16).map fun d => if R2 m i d = [] then .nil else Ac1 f (R2 m i d) (i + 1)) (Bu6 m i)
structure MOk (f : Nat) (m : List KV) (i : Nat) : Prop where
 ne : m ≠ []
 len : ∀ p ∈ m, i ≤ p.1.length ∧ p.1.length < i + f
 nib : ∀ p ∈ m, ∀ x ∈ p.1, x.toNat < 16
 val : ∀ p ∈ m, p.2 ≠ []
 nd : (m.map Prod.fst).Nodup
 pre : ∀ p ∈ m, ∀ q ∈ m, p.1.take i = q.1.take i
theorem An0 (m : List KV) (i : Nat) : ∀ a, (∃ p ∈ m, p.1.length = i ∧ m.foldl (fun a p => if p.1.length = i then p.2 else a) a = p.2) ∨ ((∀ p ∈ m, p.1.length ≠ i) ∧ m.foldl (fun a p => if p.1.length = i then p.2 else a) a = a) := by
 induction m with
 | nil => intro a; right; simp
 | cons p m ih =>
  intro a
  simp only [List.foldl_cons]
  rcases ih (if p.1.length = i then p.2 else a) with ⟨q, hq, h1, h2⟩ | ⟨h1, h2⟩
  ·exact .inl ⟨q, by simp [hq], h1, h2⟩
  ·by_cases e : p.1.length = i
   ·exact .inl ⟨p, by simp, e, by rw [h2, if_pos e]⟩
   ·refine .inr ⟨fun q hq => ?_, by rw [h2, if_neg e]⟩
    rcases List.mem_cons.1 hq with rfl | hq
    ·exact e
    ·exact h1 q hq
theorem Bf0 {m : List KV} (h : (m.map Prod.fst).Nodup) {p q : KV} (hp : p ∈ m) (hq : q ∈ m) (e : p.1 = q.1) : p = q := by
 induction m with
 | nil => simp at hp
 | cons a m ih =>
  simp only [List.map_cons, List.nodup_cons, List.mem_map, not_exists, not_and] at h
  rcases List.mem_cons.1 hp with h1 | h1
  ·rcases List.mem_cons.1 hq with h2 | h2
   ·rw [h1, h2]
   ·rw [h1] at e
    exact absurd e.symm (h.1 q h2)
  ·rcases List.mem_cons.1 hq with h2 | h2
   ·rw [h2] at e
    exact absurd e (h.1 p h1)
   ·exact ih h.2 h1 h2
theorem drop_cons_iff {l : List UInt8} {i : Nat} {x : UInt8} {q : List UInt8} : l.drop i = x :: q ↔ i < l.length ∧ l.getD i 0 = x ∧ l.drop (i + 1) = q := by
 constructor
 ·intro h
  have hi : i < l.length := by
   have := congrArg List.length h
   simp at this; omega
  have h2 := List.drop_eq_getElem_cons hi
  rw [h] at h2
  simp only [List.cons.injEq] at h2
  exact ⟨hi, by rw [List.getD_eq_getElem?_getD, List.getElem?_eq_getElem hi]; exact h2.1.symm, h2.2.symm⟩
 ·rintro ⟨hi, h1, h2⟩
  rw [List.drop_eq_getElem_cons hi, h2]
  rw [List.getD_eq_getElem?_getD, List.getElem?_eq_getElem hi] at h1
  rw [show l[i] = x from h1]
theorem Bc9 {l m : List UInt8} {i : Nat} (h : l.take i = m.take i) (hl : i < l.length) (hm : i < m.length) (he : l.getD i 0 = m.getD i 0) : l.take (i + 1) = m.take (i + 1) := by
 rw [List.take_succ_eq_append_getElem hl, List.take_succ_eq_append_getElem hm, h]
 rw [List.getD_eq_getElem?_getD, List.getElem?_eq_getElem hl, List.getD_eq_getElem?_getD, List.getElem?_eq_getElem hm] at he
 rw [show l[i] = m[i] from he]
theorem An2 {ks : List (List UInt8)} {i : Nat} : ∀ n, (∀ j, j < n → Ac2 ks (i + j) = true) → ∀ p ∈ ks, ∀ q ∈ ks, p.take i = q.take i → (i ≤ p.length → i + n ≤ p.length) ∧ p.take (i + n) = q.take (i + n)
 | 0, _, p, _, q, _, h => ⟨fun h => h, h⟩
 | n + 1, ha, p, hp, q, hq, h => by
  obtain ⟨h1, h2⟩ := An2 n (fun j hj => ha j (by omega)) p hp q hq h
  have h3 := ha n (by omega)
  rw [Ac2, List.all_eq_true] at h3
  have hp3 := h3 p hp
  have hq3 := h3 q hq
  simp only [Bool.and_eq_true, decide_eq_true_eq, beq_iff_eq] at hp3 hq3
  exact ⟨fun _ => by omega, Bc9 h2 hp3.1 hq3.1 (hp3.2.trans hq3.2.symm)⟩
def As2 (i : Nat) (p : KV) : Option Nat := if p.1.length = i then none else some (p.1.getD i 0).toNat
theorem Cg2 {m : List KV} (h : m ≠ []) : ∃ p ∈ m, hdK (m.map Prod.fst) = p.1 ∧ (m.map Prod.snd).headD [] = p.2 := by
 cases m with
 | nil => exact absurd rfl h
 | cons p m => exact ⟨p, by simp, rfl, rfl⟩
/-- Two keys that go on in different ways. -/
theorem Dg3 {f : Nat} {m : List KV} {i : Nat} (h : MOk f m i) (h2 : 2 ≤ m.length) (hc : cmn (m.map Prod.fst) i = 0) : ∃ p ∈ m, ∃ q ∈ m, As2 i p ≠ As2 i q := by
 have hs := Ba9 (ks := m.map Prod.fst) (by simpa using h.ne) i
 rw [hc, Nat.add_zero, Ac2, List.all_eq_false] at hs
 obtain ⟨k, hk, hs⟩ := hs
 obtain ⟨q, hq, rfl⟩ := List.mem_map.1 hk
 obtain ⟨p, hp, hpe, _⟩ := Cg2 h.ne
 rw [hpe] at hs
 simp only [Bool.and_eq_true, decide_eq_true_eq, beq_iff_eq, not_and] at hs
 have hql := (h.len q hq).1
 have hpl := (h.len p hp).1
 by_cases e : q.1.length = i
 ·obtain ⟨r, hr, hne⟩ : ∃ r ∈ m, r.1 ≠ q.1 := by
   refine Classical.byContradiction fun hno => ?_
   have hall : ∀ r ∈ m, r = q := fun r hr => Bf0 h.nd hr hq (Classical.byContradiction fun hne => hno ⟨r, hr, hne⟩)
   cases m with
   | nil => simp at h2
   | cons a m =>
    cases m with
    | nil => simp at h2
    | cons b m =>
     have e1 := hall a (by simp)
     have e2 := hall b (by simp)
     have := h.nd
     rw [e1, e2] at this
     simp at this
  refine ⟨q, hq, r, hr, ?_⟩
  have hrl := (h.len r hr).1
  have hri : r.1.length ≠ i := fun hri => by
   have := h.pre r hr q hq
   rw [List.take_of_length_le (by omega), List.take_of_length_le (by omega)] at this
   exact hne this
  simp [As2, e, hri]
 ·refine ⟨q, hq, p, hp, ?_⟩
  have hne := hs (by omega)
  by_cases e2 : p.1.length = i
  ·simp [As2, e, e2]
  ·simp only [As2, e, e2, if_false]
   intro h3
   exact hne (UInt8.toNat_inj.1 (Option.some.inj h3))
theorem mem_subM {m : List KV} {i d : Nat} {p : KV} : p ∈ R2 m i d ↔ p ∈ m ∧ p.1.length ≠ i ∧ (p.1.getD i 0).toNat = d := by
 simp [R2]
theorem MOk.sub {f : Nat} {m : List KV} {i : Nat} (h : MOk (f + 1) m i) {d : Nat} (hd : R2 m i d ≠ []) : MOk f (R2 m i d) (i + 1) := by
 refine ⟨hd, fun p hp => ?_, fun p hp => h.nib p (mem_subM.1 hp).1, fun p hp => h.val p (mem_subM.1 hp).1, ?_, fun p hp q hq => ?_⟩
 ·obtain ⟨hm, h1, _⟩ := mem_subM.1 hp
  have := h.len p hm
  omega
 ·exact h.nd.sublist (List.Sublist.map _ List.filter_sublist)
 ·obtain ⟨hm, h1, h3⟩ := mem_subM.1 hp
  obtain ⟨hm2, h12, h32⟩ := mem_subM.1 hq
  have e1 := h.len p hm
  have e2 := h.len q hm2
  exact Bc9 (h.pre p hm q hm2) (by omega) (by omega) (UInt8.toNat_inj.1 (h3.trans h32.symm))
theorem MOk.more {f : Nat} {m : List KV} {i : Nat} (h : MOk (f + 1) m i) (hn : 0 < cmn (m.map Prod.fst) i) : MOk f m (i + cmn (m.map Prod.fst) i) := by
 have key := An2 (ks := m.map Prod.fst) (i := i) (cmn (m.map Prod.fst) i) (fun j hj => Bb0 hj)
 refine ⟨h.ne, fun p hp => ?_, h.nib, h.val, h.nd, fun p hp q hq => ?_⟩
 ·have e := h.len p hp
  have := (key p.1 (List.mem_map_of_mem hp) p.1 (List.mem_map_of_mem hp) rfl).1 e.1
  omega
 ·exact (key p.1 (List.mem_map_of_mem hp) q.1 (List.mem_map_of_mem hq) (h.pre p hp q hq)).2
theorem Bq7 {g : Nat → Nd} {d : Nat} (hd : d < 16) : ((List.range 16).map g).getD d .nil = g d := by
 simp [List.getD, hd]
theorem Dc9 : ∀ (f : Nat) (m : List KV) (i : Nat), MOk f m i → Canon (Ac1 f m i) ∧ (2 ≤ m.length → cmn (m.map Prod.fst) i = 0 → Cw8 (Ac1 f m i)) ∧ ∀ q v, v ≠ [] → (O7 (Ac1 f m i) q = v ↔ ∃ p ∈ m, p.1.drop i = q ∧ p.2 = v) := by
 intro f
 induction f with
 | zero =>
  intro m i h
  obtain ⟨p, hp⟩ := List.exists_mem_of_ne_nil _ h.ne
  have := h.len p hp
  omega
 | succ f ih =>
  intro m i h
  rw [Ac1]
  by_cases h1 : m.length = 1
  ·rw [if_pos h1]
   obtain ⟨p, rfl⟩ := List.length_eq_one_iff.1 h1
   simp only [List.map_cons, List.map_nil, hdK, List.headD_cons]
   refine ⟨.leaf _ _ (h.val p (by simp)) (fun x hx => h.nib p (by simp) x (List.mem_of_mem_drop hx)), fun h2 => by simp at h2, fun q v hv => ?_⟩
   rw [K9]
   simp only [List.mem_singleton, exists_eq_left]
   by_cases e : p.1.drop i = q
   ·simp [e]
   ·simp [e, Ne.symm hv]
  ·rw [if_neg h1]
   have h2 : 2 ≤ m.length := by
    have : m.length ≠ 0 := fun h0 => h.ne (List.length_eq_zero_iff.1 h0)
    omega
   by_cases hn : 0 < cmn (m.map Prod.fst) i
   ·rw [if_pos hn]
    have hm := h.more hn
    obtain ⟨g1, g2, g3⟩ := ih m _ hm
    have hbr := g2 h2 (Cs7 (by simpa using h.ne) i)
    obtain ⟨p0, hp0, he0, _⟩ := Cg2 h.ne
    obtain ⟨n, hnn⟩ : ∃ n, n = cmn (m.map Prod.fst) i := ⟨_, rfl⟩
    rw [← hnn] at hm hbr g1 g3 hn ⊢
    rw [he0]
    have hpl : i + n ≤ p0.1.length := (hm.len p0 hp0).1
    obtain ⟨r, hr⟩ : ∃ r, r = (p0.1.drop i).take n := ⟨_, rfl⟩
    have hrl : r.length = n := by rw [hr, List.length_take, List.length_drop]; omega
    have hall : ∀ p ∈ m, p.1.drop i = r ++ p.1.drop (i + n) := fun p hp => by
     have e1 := hm.pre p hp p0 hp0
     have e2 : (p.1.drop i).take n = r := by
      rw [hr, List.take_drop, List.take_drop, e1]
     conv => lhs; rw [← List.take_append_drop n (p.1.drop i)]
     rw [e2, List.drop_drop]
    rw [← hr]
    have h0 : r ≠ [] := fun h => by rw [h] at hrl; simp at hrl; omega
    have h16 : ∀ x ∈ r, x.toNat < 16 := fun x hx => h.nib p0 hp0 x (List.mem_of_mem_drop (List.mem_of_mem_take (hr ▸ hx)))
    refine ⟨?_, fun _ hc => by omega, fun q v hv => ?_⟩
    ·generalize Ac1 f m (i + n) = t at g1 hbr
     cases t with
     | br ks w => exact .ext _ _ _ h0 h16 g1
     | _ => exact absurd hbr (by simp [Cw8])
    ·by_cases hp : r <+: q
     ·obtain ⟨q', rfl⟩ := hp
      rw [M1, g3 q' v hv]
      constructor
      ·rintro ⟨p, hp, h1, h2⟩; exact ⟨p, hp, by rw [hall p hp, h1], h2⟩
      ·rintro ⟨p, hp, h1, h2⟩
       rw [hall p hp, List.append_cancel_left_eq] at h1
       exact ⟨p, hp, h1, h2⟩
     ·rw [X7 hp]
      constructor
      ·intro h; exact absurd h.symm hv
      ·rintro ⟨p, hp', h1, _⟩
       rw [hall p hp'] at h1
       exact absurd (h1 ▸ List.prefix_append _ _) hp
   ·rw [if_neg hn]
    have hc : cmn (m.map Prod.fst) i = 0 := by omega
    refine ⟨.br _ _ (by simp) (fun k hk hkn => ?_) ?_, fun _ _ => trivial, fun q v hv => ?_⟩
    ·obtain ⟨d, _, rfl⟩ := List.mem_map.1 hk
     by_cases hd : R2 m i d = []
     ·rw [if_pos hd] at hkn; exact absurd rfl hkn
     ·rw [if_neg hd]
      exact (ih _ _ (h.sub hd)).1
    ·obtain ⟨p, hp, q, hq, hne⟩ := Dg3 h h2 hc
     have key : ∀ p ∈ m, Cg3 ((List.range 16).map fun d => if R2 m i d = [] then .nil else Ac1 f (R2 m i d) (i + 1)) (Bu6 m i) (As2 i p) := by
      intro p hp
      by_cases e : p.1.length = i
      ·rw [As2, if_pos e]
       show Bu6 m i ≠ []
       rcases An0 m i [] with ⟨q, hq, _, h3⟩ | ⟨h3, _⟩
       ·rw [Bu6, h3]; exact h.val q hq
       ·exact absurd e (h3 p hp)
      ·rw [As2, if_neg e]
       have hpl := (h.len p hp).1
       have h16 : (p.1.getD i 0).toNat < 16 := by
        have hi : i < p.1.length := by omega
        rw [List.getD_eq_getElem?_getD, List.getElem?_eq_getElem hi]
        exact h.nib p hp _ (List.getElem_mem hi)
       have hms : p ∈ R2 m i (p.1.getD i 0).toNat := mem_subM.2 ⟨hp, e, rfl⟩
       have hsn : R2 m i (p.1.getD i 0).toNat ≠ [] := List.ne_nil_of_mem hms
       show ((List.range 16).map fun d => if R2 m i d = [] then Nd.nil else Ac1 f (R2 m i d) (i + 1)).getD (p.1.getD i 0).toNat .nil ≠ .nil
       rw [Bq7 h16, if_neg hsn]
       exact Bs5 (ih _ _ (h.sub hsn)).1
     exact ⟨As2 i p, As2 i q, hne, key p hp, key q hq⟩
    ·cases q with
     | nil =>
      rw [I9]
      rcases An0 m i [] with ⟨q, hq, h3, h4⟩ | ⟨h3, h4⟩
      ·rw [Bu6, h4]
       constructor
       ·rintro rfl; exact ⟨q, hq, List.drop_eq_nil_of_le (by omega), rfl⟩
       ·rintro ⟨p, hp, h5, rfl⟩
        have hpl := (h.len p hp).1
        have : p.1.length ≤ i := by rwa [List.drop_eq_nil_iff] at h5
        have he : p.1 = q.1 := by
         have := h.pre p hp q hq
         rwa [List.take_of_length_le (by omega), List.take_of_length_le (by omega)] at this
        rw [Bf0 h.nd hp hq he]
      ·rw [Bu6, h4]
       constructor
       ·intro h; exact absurd h.symm hv
       ·rintro ⟨p, hp, h5, _⟩
        have hpl := (h.len p hp).1
        have : p.1.length ≤ i := by rwa [List.drop_eq_nil_iff] at h5
        exact absurd (by omega) (h3 p hp)
     | cons x q =>
      rw [G7]
      by_cases hx : x.toNat < 16
      ·rw [Bq7 hx]
       by_cases hd : R2 m i x.toNat = []
       ·rw [if_pos hd]
        constructor
        ·intro h; exact absurd h.symm hv
        ·rintro ⟨p, hp, h5, _⟩
         obtain ⟨e1, e2, _⟩ := drop_cons_iff.1 h5
         have : p ∈ R2 m i x.toNat := mem_subM.2 ⟨hp, by omega, by rw [e2]⟩
         rw [hd] at this; simp at this
       ·rw [if_neg hd, (ih _ _ (h.sub hd)).2.2 q v hv]
        constructor
        ·rintro ⟨p, hp, h5, h6⟩
         obtain ⟨hm, e1, e2⟩ := mem_subM.1 hp
         have hpl := (h.len p hm).1
         exact ⟨p, hm, drop_cons_iff.2 ⟨by omega, UInt8.toNat_inj.1 e2, h5⟩, h6⟩
        ·rintro ⟨p, hp, h5, h6⟩
         obtain ⟨e1, e2, e3⟩ := drop_cons_iff.1 h5
         exact ⟨p, mem_subM.2 ⟨hp, by omega, by rw [e2]⟩, e3, h6⟩
      ·have hnone : ((List.range 16).map fun d => if R2 m i d = [] then Nd.nil else Ac1 f (R2 m i d) (i + 1)).getD x.toNat .nil = .nil := by
        rw [List.getD_eq_getElem?_getD, List.getElem?_eq_none (by simp; omega)]; rfl
       rw [hnone]
       constructor
       ·intro h; exact absurd h.symm hv
       ·rintro ⟨p, hp, h5, _⟩
        obtain ⟨e1, e2, _⟩ := drop_cons_iff.1 h5
        have := h.nib p hp x (by
         rw [← e2, List.getD_eq_getElem?_getD, List.getElem?_eq_getElem e1]
         exact List.getElem_mem e1)
        exact absurd this hx
end Go.Proofs.Ytncjbfkkgdepoaa
