/- Part of a proof over the seat Ytepabkjfnpaijaa. -/
import Derived.Test.YtepabkjfnpaijaaQA
import Derived.Test.YtepabkjfnpaijaaPD
namespace Go.Proofs.Ytepabkjfnpaijaa
open Go RowKit Go.Ew
set_option maxRecDepth 100000
set_option linter.unusedSimpArgs false
set_option linter.unusedVariables false
set_option maxHeartbeats 1000000
theorem take_mid (a p r : List UInt8) : ((a ++ (p ++ r)).take (a.length + p.length)).drop a.length = p := by
  rw [← List.append_assoc, show a.length + p.length = (a ++ p).length by simp, List.take_left', List.drop_left']
  · rfl
  · rfl
theorem decB_txt (F : List UInt8 → List Itm × Nat) (b rest : List UInt8) (hb : b.length ≤ 1099511627776) : decB F (form (txt b) ++ rest) = (txt b, (form (txt b)).length, 0) := by
  have n10 : ((0 : Int) = 1) = False := by simp
  simp only [txt, form, n10, if_false]
  by_cases h1 : b.length = 1 ∧ b.getD 0 0 < 128
  · rw [if_pos h1]
    obtain ⟨c, rfl⟩ : ∃ c, b = [c] := List.length_eq_one_iff.1 h1.1
    have hc : c.toNat < 128 := UInt8.lt_iff_toNat_lt.1 h1.2
    have hh : headM ([c] ++ rest) = ((0, 0, 1), 0) := by
      rw [headM, if_neg (by simp)]
      simp only [List.singleton_append, List.getD_cons_zero]
      rw [if_pos hc]
    have hp : payM ([c] ++ rest) = [c] := by rw [payM, hh]; simp
    simp only [decB, hh, hp]
    simp [txt]
  · rw [if_neg h1, List.append_assoc]
    have hx : b.length = 1 → ¬ ((b ++ rest).getD 0 0).toNat < 128 := fun h2 h3 => h1 ⟨h2, by
      obtain ⟨c, rfl⟩ : ∃ c, b = [c] := List.length_eq_one_iff.1 h2
      exact UInt8.lt_iff_toNat_lt.2 h3⟩
    have hh := headM_hd (base := 128) (ls := 0) (n := b.length) (.inl ⟨rfl, rfl⟩) hb (b ++ rest) (by simp) (fun _ => hx)
    have hp : payM (hd 128 b.length ++ (b ++ rest)) = b := by rw [payM, hh]; exact take_mid _ _ _
    simp only [decB, hh, hp]
    simp [txt]
theorem decB_lst (F : List UInt8 → List Itm × Nat) (ks : List Itm) (rest : List UInt8) (hb : (formL ks).length ≤ 1099511627776) (hF : F (formL ks) = (ks, 0)) : decB F (form (.mk 1 [] ks) ++ rest) = (.mk 1 [] ks, (form (.mk 1 [] ks)).length, 0) := by
  simp only [form, ↓reduceIte]
  rw [List.append_assoc]
  have hh := headM_hd (base := 192) (ls := 1) (n := (formL ks).length) (.inr ⟨rfl, rfl⟩) hb (formL ks ++ rest) (by simp) (fun h => by omega)
  have hp : payM (hd 192 (formL ks).length ++ (formL ks ++ rest)) = formL ks := by rw [payM, hh]; exact take_mid _ _ _
  simp only [decB, hh, hp, hF]
  simp
theorem chkL_all : ∀ {ks : List Itm} {d : Nat}, chkL ks d = 0 → ∀ k ∈ ks, chk k d = 0
  | k :: ks, d, h, x, hx => by
    rw [chkL] at h
    split at h
    · rename_i h0
      rcases List.mem_cons.1 hx with rfl | hx
      · exact h0
      · exact chkL_all h x hx
    · exact absurd h ‹_›
theorem form_pos : ∀ t : Itm, 1 ≤ (form t).length
  | .mk l b ks => by
    have h := fun base n => hd_len (base := base) (n := n)
    rw [form]
    split
    · rw [List.length_append, h]; split <;> omega
    · split
      · omega
      · rw [List.length_append, h]; split <;> omega
theorem kidsL_form {f : List UInt8 → Itm × Nat × Nat} : ∀ (ks : List Itm) (n : Nat) (acc : List Itm), (∀ k ∈ ks, ∀ r, f (form k ++ r) = (k, (form k).length, 0)) → (formL ks).length ≤ n → kidsL f n (formL ks) acc = (acc ++ ks, 0)
  | [], n, acc, _, _ => by rw [formL, kidsL_nil, List.append_nil]
  | k :: ks, 0, acc, hf, hn => by
    have := form_pos k
    rw [formL, List.length_append] at hn; omega
  | k :: ks, n + 1, acc, hf, hn => by
    have h1 := form_pos k
    rw [formL, List.length_append] at hn
    have hk := hf k (by simp) (formL ks)
    have hne : form k ++ formL ks ≠ [] := fun h => by
      have := congrArg List.length h
      rw [List.length_append, List.length_nil] at this; omega
    rw [formL, kidsL, if_neg hne, hk]
    simp only [ne_eq, not_true_eq_false, if_false]
    rw [List.drop_left' rfl, kidsL_form ks n (acc ++ [k]) (fun x hx => hf x (by simp [hx])) (by omega), List.append_assoc]
    rfl
theorem decM_form : ∀ (m : Nat), m ≤ 64 → ∀ (t : Itm) (rest : List UInt8), chk t (64 - m) = 0 → (form t).length ≤ 1099511627776 → decM m (form t ++ rest) = (t, (form t).length, 0) := by
  intro m
  induction m with
  | zero =>
    rintro hm ⟨l, b, ks⟩ rest hc hf
    simp only [chk] at hc
    split at hc
    · omega
    · rename_i h1
      split at hc
      · omega
      · rename_i h2
        have hl : l = 0 := by
          rcases Classical.em (l = 0) with h | h
          · exact h
          · exact absurd (.inl ⟨h, fun h3 => h1 ⟨h3, by omega⟩⟩) h2
        subst hl
        have hk : ks = [] := Classical.byContradiction fun hn => h2 (.inr (.inl ⟨rfl, hn⟩))
        subst hk
        have hb : b.length ≤ 1099511627776 := by
          have n10 : ((0 : Int) = 1) = False := by simp
          simp only [form, n10, if_false] at hf
          split at hf
          · exact hf
          · rw [List.length_append] at hf; omega
        exact decB_txt _ b rest hb
  | succ m ih =>
    rintro hm ⟨l, b, ks⟩ rest hc hf
    simp only [chk] at hc
    split at hc
    · omega
    · rename_i h1
      split at hc
      · omega
      · rename_i h2
        by_cases hl : l = 0
        · subst hl
          have hk : ks = [] := Classical.byContradiction fun hn => h2 (.inr (.inl ⟨rfl, hn⟩))
          subst hk
          have hb : b.length ≤ 1099511627776 := by
            have n10 : ((0 : Int) = 1) = False := by simp
            simp only [form, n10, if_false] at hf
            split at hf
            · exact hf
            · rw [List.length_append] at hf; omega
          exact decB_txt _ b rest hb
        · have hl1 : l = 1 := Classical.byContradiction fun hn => h2 (.inl ⟨hl, hn⟩)
          subst hl1
          have hb : b = [] := Classical.byContradiction fun hn => h2 (.inr (.inr ⟨rfl, hn⟩))
          subst hb
          have hf2 : (formL ks).length ≤ 1099511627776 := by
            simp only [form, ↓reduceIte] at hf
            rw [List.length_append] at hf; omega
          have e : 64 - (m + 1) + 1 = 64 - m := by omega
          rw [e] at hc
          refine decB_lst _ ks rest hf2 ?_
          exact kidsL_form ks _ [] (fun k hk r => ih (by omega) k r (chkL_all hc k hk) (by have := form_le hk; omega)) (Nat.le_refl _)
theorem DecM_form (t : Itm) (hc : chk t 0 = 0) (hf : (form t).length ≤ 1099511627776) : DecM (form t) = (t, 0) := by
  have h := decM_form 64 (Nat.le_refl _) t [] hc hf
  rw [List.append_nil] at h
  rw [DecM, h]
  simp
theorem longM_inv {l : List UInt8} {k : Nat} (hk : 1 ≤ k) (h : (longM l k).2 = 0) : k ≤ l.length ∧ (longM l k).1 = bvN (l.take k) ∧ leB (bvN (l.take k)) = l.take k ∧ 55 < bvN (l.take k) := by
  unfold longM at h ⊢
  split at h
  · simp at h
  · split at h
    · simp at h
    · split at h
      · simp at h
      · rename_i h1 h2 h3
        rw [if_neg h1, if_neg h2, if_neg h3]
        refine ⟨by omega, rfl, leB_bvN (.inr ?_), by omega⟩
        rw [List.getD_eq_getElem?_getD, List.getElem?_take_of_lt (by omega), ← List.getD_eq_getElem?_getD]
        exact h2
theorem finM_inv {b : List UInt8} {ls fr n : Nat} (h : (finM b ls fr n).2 = 0) : (finM b ls fr n).1 = (ls, fr, fr + n) ∧ n ≤ b.length - fr ∧ ¬ (ls = 0 ∧ n = 1 ∧ (b.getD 1 0).toNat < 128) := by
  unfold finM at h ⊢
  split at h
  · simp at h
  · split at h
    · simp at h
    · rename_i h1 h2
      rw [if_neg h1, if_neg h2]
      exact ⟨rfl, by omega, h2⟩
/-- The bytes of a head are those of its kind and its size. -/
theorem headM_inv {b : List UInt8} (h : (headM b).2 = 0) : (∃ c, (headM b).1 = (0, 0, 1) ∧ b.take 1 = [c] ∧ c < 128) ∨
    ∃ base ls n, ((base = 128 ∧ ls = 0) ∨ (base = 192 ∧ ls = 1)) ∧ (headM b).1 = (ls, (hd base n).length, (hd base n).length + n) ∧ b.take (hd base n).length = hd base n ∧ (hd base n).length + n ≤ b.length ∧ ¬ (ls = 0 ∧ n = 1 ∧ (b.getD 1 0).toNat < 128) := by
  have key : ∀ c l base ls, b = c :: l → ((base = 128 ∧ ls = 0) ∨ (base = 192 ∧ ls = 1)) → base ≤ c.toNat → (tailM b ls (c.toNat - base)).2 = 0 → c.toNat < base + 64 →
      ∃ n, (tailM b ls (c.toNat - base)).1 = (ls, (hd base n).length, (hd base n).length + n) ∧ b.take (hd base n).length = hd base n ∧ (hd base n).length + n ≤ b.length ∧ ¬ (ls = 0 ∧ n = 1 ∧ (b.getD 1 0).toNat < 128) := by
    intro c l base ls hb hbl hcb ht hc64
    have hc := c.toNat_lt
    unfold tailM at ht ⊢
    split at ht
    · rename_i h1
      rw [if_pos h1]
      obtain ⟨e1, e2, e3⟩ := finM_inv ht
      have eh : hd base (c.toNat - base) = [c] := by
        rw [hd, if_pos h1, Nat.add_sub_cancel' hcb, UInt8.ofNat_toNat]
      have hlen : b.length = l.length + 1 := by rw [hb]; rfl
      exact ⟨c.toNat - base, by rw [e1, eh]; rfl, by rw [eh, hb]; rfl, by rw [eh]; simp only [List.length_singleton]; omega, e3⟩
    · rename_i h1
      rw [if_neg h1]
      split at ht
      · rename_i h2; exact absurd ht h2
      · rename_i h2
        rw [if_neg h2]
        have hl : b.drop 1 = l := by rw [hb]; rfl
        rw [hl] at h2 ht ⊢
        obtain ⟨f1, f2, f3, f4⟩ := longM_inv (l := l) (k := c.toNat - base - 55) (by omega) (by omega)
        rw [f2] at ht ⊢
        obtain ⟨e1, e2, e3⟩ := finM_inv ht
        obtain ⟨N, hN⟩ : ∃ N, N = bvN (l.take (c.toNat - base - 55)) := ⟨_, rfl⟩
        rw [← hN] at e1 e2 e3 f3 f4 ⊢
        have hnb : nby N = c.toNat - base - 55 := by
          rw [← leB_len, f3, List.length_take]; omega
        have eh : hd base N = c :: l.take (c.toNat - base - 55) := by
          rw [hd, if_neg (by omega), hnb, f3, show base + 55 + (c.toNat - base - 55) = c.toNat by omega, UInt8.ofNat_toNat]
        have ehl : (hd base N).length = 1 + (c.toNat - base - 55) := by
          rw [eh, List.length_cons, List.length_take]; omega
        have hlen : b.length = l.length + 1 := by rw [hb]; rfl
        exact ⟨N, by rw [e1, ehl], by rw [ehl, eh, hb, Nat.add_comm, List.take_succ_cons], by rw [ehl]; omega, e3⟩
  cases hb : b with
  | nil => rw [hb] at h; simp [headM] at h
  | cons c l =>
    rw [← hb]
    have hc0 : b.getD 0 0 = c := by rw [hb]; rfl
    have hne : b ≠ [] := by rw [hb]; simp
    have hc := c.toNat_lt
    by_cases h1 : c.toNat < 128
    · left
      refine ⟨c, by rw [headM, if_neg hne, hc0, if_pos h1], by rw [hb]; rfl, ?_⟩
      exact UInt8.lt_iff_toNat_lt.2 h1
    · right
      by_cases h2 : 192 ≤ c.toNat
      · have e : headM b = tailM b 1 (c.toNat - 192) := by rw [headM, if_neg hne, hc0, if_neg h1, if_pos h2]
        rw [e] at h ⊢
        obtain ⟨n, a1, a2, a3, a4⟩ := key c l 192 1 hb (.inr ⟨rfl, rfl⟩) h2 h (by omega)
        exact ⟨192, 1, n, .inr ⟨rfl, rfl⟩, a1, a2, a3, a4⟩
      · have e : headM b = tailM b 0 (c.toNat - 128) := by rw [headM, if_neg hne, hc0, if_neg h1, if_neg h2]
        rw [e] at h ⊢
        obtain ⟨n, a1, a2, a3, a4⟩ := key c l 128 0 hb (.inl ⟨rfl, rfl⟩) (by omega) h (by omega)
        exact ⟨128, 0, n, .inl ⟨rfl, rfl⟩, a1, a2, a3, a4⟩
theorem take_pay {b : List UInt8} {h n : Nat} (hb : h + n ≤ b.length) : b.take (h + n) = b.take h ++ (b.take (h + n)).drop h := by
  have := List.take_append_drop h (b.take (h + n))
  rw [List.take_take, Nat.min_eq_left (by omega)] at this
  exact this.symm
theorem decB_inv {F : List UInt8 → List Itm × Nat} {b : List UInt8} {t : Itm} {k : Nat} (h : decB F b = (t, k, 0)) :
    (t = txt t.bytes ∧ form t = b.take k) ∨ ∃ ks p, t = .mk 1 [] ks ∧ F p = (ks, 0) ∧ p.length ≤ b.length ∧ (formL ks = p → form t = b.take k) := by
  unfold decB at h
  split at h
  · rename_i h1; simp only [Prod.mk.injEq] at h; exact absurd h.2.2 h1
  · rename_i h1
    rcases headM_inv (b := b) (by omega) with ⟨c, e1, e2, e3⟩ | ⟨base, ls, n, e0, e1, e2, e3, e4⟩
    · have hp : payM b = [c] := by rw [payM, e1]; exact e2
      rw [e1, hp] at h
      simp only [↓reduceIte, Prod.mk.injEq] at h
      obtain ⟨rfl, rfl, -⟩ := h
      have n10 : ((0 : Int) = 1) = False := by simp
      exact .inl ⟨rfl, by rw [e2]; simp only [txt, form, n10, if_false]; rw [if_pos ⟨rfl, e3⟩]⟩
    · have hpl : (payM b).length = n := by rw [payM, e1]; simp only [List.length_drop, List.length_take]; omega
      have htk : b.take ((hd base n).length + n) = hd base n ++ payM b := by rw [take_pay e3, e2, payM, e1]
      rw [e1] at h
      simp only at h
      rcases e0 with ⟨rfl, rfl⟩ | ⟨rfl, rfl⟩
      · simp only [↓reduceIte, Prod.mk.injEq] at h
        obtain ⟨rfl, rfl, -⟩ := h
        have n10 : ((0 : Int) = 1) = False := by simp
        refine .inl ⟨rfl, ?_⟩
        rw [htk]
        simp only [txt, form, n10, if_false]
        rw [if_neg, hpl]
        rintro ⟨g1, g2⟩
        refine e4 ⟨rfl, by omega, ?_⟩
        have hn1 : n = 1 := by omega
        have hh1 : (hd 128 n).length = 1 := by rw [hd_len, if_pos (by omega)]
        have : (payM b).getD 0 0 = b.getD 1 0 := by
          rw [payM, e1]
          simp only [List.getD_eq_getElem?_getD, List.getElem?_drop]
          rw [hh1, List.getElem?_take_of_lt (by omega)]
        rw [this] at g2
        exact UInt8.lt_iff_toNat_lt.1 g2
      · simp only [show (1 : Nat) = 0 ↔ False from by simp, if_false] at h
        split at h
        · rename_i h2; simp only [Prod.mk.injEq] at h; exact absurd h.2.2 h2
        · rename_i h2
          simp only [Prod.mk.injEq] at h
          obtain ⟨rfl, rfl, -⟩ := h
          refine .inr ⟨(F (payM b)).1, payM b, rfl, Prod.ext rfl (by simpa using h2), by omega, fun hf => ?_⟩
          rw [htk]
          simp only [form, ↓reduceIte]
          rw [hf, hpl]
theorem kidsL_inv {f : List UInt8 → Itm × Nat × Nat} {P : Itm → Prop} (hf : ∀ p t k, f p = (t, k, 0) → form t = p.take k ∧ P t ∧ 1 ≤ k) : ∀ (n : Nat) (p : List UInt8) (acc ks : List Itm), p.length ≤ n → kidsL f n p acc = (ks, 0) → ∃ ks', ks = acc ++ ks' ∧ formL ks' = p ∧ ∀ k ∈ ks', P k
  | 0, p, acc, ks, hn, h => by
    have hp : p = [] := List.length_eq_zero_iff.1 (by omega)
    simp only [kidsL, Prod.mk.injEq] at h
    exact ⟨[], by rw [List.append_nil]; exact h.1.symm, by rw [hp]; rfl, by simp⟩
  | n + 1, p, acc, ks, hn, h => by
    rw [kidsL] at h
    split at h
    · rename_i hp
      simp only [Prod.mk.injEq] at h
      exact ⟨[], by rw [List.append_nil]; exact h.1.symm, by rw [hp]; rfl, by simp⟩
    · split at h
      · rename_i h2; simp only [Prod.mk.injEq] at h; exact absurd h.2 h2
      · rename_i h1 h2
        obtain ⟨t, k, e, hq⟩ : ∃ t k e, f p = (t, k, e) := ⟨_, _, _, rfl⟩
        rw [hq] at h h2
        simp only [ne_eq, Classical.not_not] at h h2
        subst h2
        obtain ⟨g1, g2, g3⟩ := hf p t k hq
        obtain ⟨ks', r1, r2, r3⟩ := kidsL_inv hf n (p.drop k) (acc ++ [t]) ks (by rw [List.length_drop]; omega) h
        refine ⟨t :: ks', by rw [r1, List.append_assoc]; rfl, by rw [formL, g1, r2, List.take_append_drop], fun x hx => ?_⟩
        rcases List.mem_cons.1 hx with rfl | hx
        · exact g2
        · exact r3 x hx
theorem decM_inv : ∀ (m : Nat), m ≤ 64 → ∀ (b : List UInt8) (t : Itm) (k : Nat), decM m b = (t, k, 0) → form t = b.take k ∧ chk t (64 - m) = 0 := by
  intro m
  induction m with
  | zero =>
    intro hm b t k h
    rcases decB_inv h with ⟨h1, h2⟩ | ⟨ks, p, h1, h2, -⟩
    · exact ⟨h2, by rw [h1]; exact chk_txt _ _⟩
    · simp at h2
  | succ m ih =>
    intro hm b t k h
    rcases decB_inv h with ⟨h1, h2⟩ | ⟨ks, p, h1, h2, -, h3⟩
    · exact ⟨h2, by rw [h1]; exact chk_txt _ _⟩
    · obtain ⟨ks', r1, r2, r3⟩ := kidsL_inv (P := fun t => chk t (64 - m) = 0) (fun p t k hq => by
        obtain ⟨a1, a2⟩ := ih (by omega) p t k hq
        have := decM_to (m := m) (b := p) (by rw [hq])
        rw [hq] at this
        exact ⟨a1, a2, this.1⟩) _ p [] ks (Nat.le_refl _) h2
      rw [List.nil_append] at r1
      subst r1
      refine ⟨h3 r2, ?_⟩
      rw [h1]
      refine chk_lst ks (64 - (m + 1)) (by omega) (fun x hx => ?_)
      rw [show 64 - (m + 1) + 1 = 64 - m by omega]
      exact r3 x hx
theorem DecM_inv {b : List UInt8} (h : (DecM b).2 = 0) : form (DecM b).1 = b ∧ chk (DecM b).1 0 = 0 := by
  obtain ⟨t, k, e, hq⟩ : ∃ t k e, decM 64 b = (t, k, e) := ⟨_, _, _, rfl⟩
  unfold DecM at h ⊢
  rw [hq] at h ⊢
  simp only at h ⊢
  split at h
  · rename_i h1; exact absurd h h1
  · rename_i h1
    rw [if_neg h1]
    split at h
    · simp at h
    · rename_i h2
      rw [if_neg h2]
      have he : e = 0 := by omega
      subst he
      obtain ⟨a1, a2⟩ := decM_inv 64 (Nat.le_refl _) b t k hq
      exact ⟨by rw [a1, List.take_of_length_le (by omega)], a2⟩
end Go.Proofs.Ytepabkjfnpaijaa

