/- Part of a proof over the seat Ytepabkjfnpaijaa. -/
import Derived.Test.YtepabkjfnpaijaaQB
import Derived.Test.YtepabkjfnpaijaaPH
namespace Go.Proofs.Ytepabkjfnpaijaa
open Go RowKit Go.Ew
set_option maxRecDepth 100000
set_option linter.unusedSimpArgs false
set_option linter.unusedVariables false
set_option maxHeartbeats 1000000
theorem item0 {t : Itm} {d : Nat} (hc : chk t d = 0) (h : t.list = 0) : t = txt t.bytes := by
  obtain ⟨l, b, ks⟩ := t
  simp only [Itm.list] at h
  subst h
  simp only [chk] at hc
  split at hc
  · omega
  · split at hc
    · omega
    · rename_i h2
      have hk : ks = [] := Classical.byContradiction fun hn => h2 (.inr (.inl ⟨trivial, hn⟩))
      subst hk
      rfl
theorem item1 {t : Itm} {d : Nat} (hc : chk t d = 0) (h : t.list = 1) : t = lst t.kids ∧ ∀ k ∈ t.kids, chk k (d + 1) = 0 := by
  obtain ⟨l, b, ks⟩ := t
  simp only [Itm.list] at h
  subst h
  simp only [chk] at hc
  split at hc
  · omega
  · split at hc
    · omega
    · rename_i h2
      have hb : b = [] := Classical.byContradiction fun hn => h2 (.inr (.inr ⟨trivial, hn⟩))
      subst hb
      exact ⟨rfl, chkL_all hc⟩
theorem asL_inv {t : Itm} {lo hi : Nat} (h : (asL t lo hi).2 = 0) : t.list = 1 ∧ (asL t lo hi).1 = t.kids := by
  unfold asL at h ⊢
  split at h
  · simp at h
  · rename_i h1
    split at h
    · simp at h
    · rename_i h2
      rw [if_neg h1, if_neg h2]
      exact ⟨by simpa using h1, rfl⟩
theorem asB_inv {t : Itm} {lo hi : Nat} (h : (asB t lo hi).2 = 0) : t.list = 0 ∧ (asB t lo hi).1 = t.bytes ∧ lo ≤ t.bytes.length ∧ t.bytes.length ≤ hi := by
  unfold asB at h ⊢
  split at h
  · simp at h
  · rename_i h1
    split at h
    · simp at h
    · rename_i h2
      rw [if_neg h1, if_neg h2]
      exact ⟨by simpa using h1, rfl, by omega, by omega⟩
theorem asN_inv {t : Itm} (h : (asN t).2 = 0) : t.list = 0 ∧ leB (asN t).1 = t.bytes := by
  unfold asN at h ⊢
  split at h
  · simp at h
  · rename_i h1
    split at h
    · simp at h
    · rename_i h2
      split at h
      · simp at h
      · rename_i h3
        rw [if_neg h1, if_neg h2, if_neg h3]
        refine ⟨by simpa using h1, leB_bvN ?_⟩
        by_cases h4 : t.bytes = []
        · exact .inl h4
        · exact .inr fun h5 => h3 ⟨List.length_pos_iff.2 h4, h5⟩
theorem asL_lst {ks : List Itm} {lo hi : Nat} (h1 : lo ≤ ks.length) (h2 : ks.length ≤ hi) : asL (lst ks) lo hi = (ks, 0) := by
  unfold asL
  rw [if_neg (by simp [lst, Itm.list]), if_neg (by simp only [lst, Itm.kids]; omega)]
  rfl
theorem asB_txt {p : List UInt8} {lo hi : Nat} (h1 : lo ≤ p.length) (h2 : p.length ≤ hi) : asB (txt p) lo hi = (p, 0) := by
  unfold asB
  rw [if_neg (by simp [txt, Itm.list]), if_neg (by simp only [txt, Itm.bytes]; omega)]
  rfl
theorem asN_txt {n : Nat} (h : n < 18446744073709551616) : asN (txt (leB n)) = (n, 0) := by
  have h8 := nby_8 h
  have hl := leB_len n
  unfold asN
  rw [if_neg (by simp [txt, Itm.list]), if_neg (by simp only [txt, Itm.bytes]; omega), if_neg]
  · simp only [txt, Itm.bytes, bvN_leB]
  · simp only [txt, Itm.bytes]
    rintro ⟨h1, h2⟩
    rcases leB_ok n with h3 | h3
    · rw [h3] at h1; simp at h1
    · exact h3 h2
theorem fixB_txt {p : List UInt8} {n : Nat} (h : p.length = n) : fixB n (txt p) = p := by
  rw [fixB, asB_txt (by omega) (by omega)]; rfl
theorem fixB_inv {t : Itm} {n : Nat} (h : (asB t n n).2 = 0) : fixB n t = t.bytes := by
  rw [fixB, if_pos h, (asB_inv h).2.1]
theorem tops_flat (p : List UInt8) : ∀ n, 32 * n ≤ p.length → (List.range n).flatMap (fun k => (p.drop (32 * k)).take 32) = p.take (32 * n)
  | 0, _ => by simp
  | n + 1, h => by
    rw [List.range_succ, List.flatMap_append, tops_flat p n (by omega), List.flatMap_singleton, Nat.mul_succ, List.take_add]
theorem tops_tp {B : Base} {g : LogV} (h : g.Ok B) : g.tops.flatMap id = g.tp := by
  have := h.ht
  rw [LogV.tops, List.flatMap_map]
  show (List.range g.tn).flatMap (fun k => (g.tp.drop (32 * k)).take 32) = g.tp
  rw [tops_flat g.tp g.tn (by omega), List.take_of_length_le (by omega)]
theorem top_mem {B : Base} {g : LogV} (h : g.Ok B) {q : List UInt8} (hq : q ∈ g.tops) : q.length = 32 := by
  obtain ⟨k, hk, rfl⟩ := List.mem_map.1 hq
  exact top_len h (List.mem_range.1 hk)
theorem errT_zero {ts : List Itm} : ∀ {e : Nat}, (errT ts e = 0 ↔ e = 0 ∧ ∀ k ∈ ts, (asB k 32 32).2 = 0) := by
  induction ts with
  | nil => intro e; simp [errT]
  | cons t ts ih =>
    intro e
    show errT ts (kp e (asB t 32 32).2) = 0 ↔ _
    rw [ih, kp_eq0]
    simp only [List.mem_cons, forall_eq_or_imp]
    exact ⟨fun h => ⟨h.1.1, h.1.2, h.2⟩, fun h => ⟨⟨h.1, h.2.1⟩, h.2.2⟩⟩
theorem logT_logI {B : Base} {g : LogV} (h : g.Ok B) : logT (logI g) = (g.body, 0) := by
  have htb := h.tb
  have hdb := h.db
  have hdd := h.hd
  have htl := tops_len g
  have e3 : asL (logI g) 3 3 = ([txt g.ad, lst (g.tops.map txt), txt g.dt], 0) := asL_lst (Nat.le_refl _) (Nat.le_refl _)
  have eT : asL (lst (g.tops.map txt)) 0 many = (g.tops.map txt, 0) := asL_lst (Nat.zero_le _) (by simp [htl, many]; omega)
  have eA : asB (txt g.ad) 20 20 = (g.ad, 0) := asB_txt (by rw [h.ha]; omega) (by rw [h.ha]; omega)
  have eD : asB (txt g.dt) 0 many = (g.dt, 0) := asB_txt (Nat.zero_le _) (by simp only [many]; omega)
  have e1 : topsM (g.tops.map txt) = g.tp := by
    rw [topsM, List.flatMap_map, ← tops_tp h]
    rw [List.flatMap_def, List.flatMap_def]
    exact congrArg List.flatten (List.map_congr_left fun q hq => fixB_txt (top_mem h hq))
  have e2 : errT (g.tops.map txt) 0 = 0 := errT_zero.2 ⟨rfl, fun k hk => by
    obtain ⟨q, hq, rfl⟩ := List.mem_map.1 hk
    rw [asB_txt (by rw [top_mem h hq]; omega) (by rw [top_mem h hq]; omega)]⟩
  rw [logT, e3, if_neg (by simp)]
  show (logB _ _ _, logE3 _ _ _) = _
  rw [logB, logE3, eT, eA, eD, fixB_txt h.ha]
  simp only [kp_z, e1, e2, List.length_map, htl]
  rfl
theorem logI_inv {B : Base} {t : Itm} {d : Nat} {g : LogV} (hc : chk t d = 0) (he : (logT t).2 = 0) (hg : g.Ok B) (hb : g.body = (logT t).1) : logI g = t := by
  unfold logT at he hb
  by_cases h0 : (asL t 3 3).2 = 0
  · rw [if_neg (by omega)] at he hb
    obtain ⟨hk, hk3⟩ := asL_ok h0
    obtain ⟨k0, k1, k2, hks⟩ := three_of hk3
    obtain ⟨ht, hkc⟩ := item1 hc (asL_inv h0).1
    rw [hks] at he hb ht hkc
    simp only at he hb
    rw [logE3, kp_eq0] at he
    obtain ⟨he1, he2⟩ := he
    obtain ⟨he3, he4⟩ := errT_zero.1 he1
    obtain ⟨he5, he6⟩ := kp_eq0.1 he3
    simp only [LogV.body, logB, Prod.mk.injEq] at hb
    obtain ⟨b1, b2, b3, b4⟩ := hb
    have c0 := hkc k0 (by simp)
    have c1 := hkc k1 (by simp)
    have c2 := hkc k2 (by simp)
    have f0 : txt g.ad = k0 := by
      rw [b1, fixB_inv he5]; exact (item0 c0 (asB_inv he5).1).symm
    have f2 : txt g.dt = k2 := by
      rw [b4, (asB_inv he2).2.1]; exact (item0 c2 (asB_inv he2).1).symm
    obtain ⟨i1, i2⟩ := item1 c1 (asL_inv he6).1
    rw [(asL_inv he6).2] at b2 b3 he4
    have f1 : g.tops.map txt = k1.kids := by
      apply List.ext_getElem (by simp [tops_len, b2])
      intro j h1 h2
      rw [List.getElem_map, tops_get (by omega), LogV.top, b3, Nat.mul_comm, topsM, flat_sub (k := 32) (fun a _ => fixB_len 32 a) h2]
      have hm := List.getElem_mem h2
      rw [fixB_inv (he4 _ hm)]
      exact (item0 (i2 _ hm) (asB_inv (he4 _ hm)).1).symm
    rw [logI, f0, f1, f2, ← i1]
    exact ht.symm
  · rw [if_pos h0] at he
    exact absurd he h0
theorem errL_zero {ts : List Itm} : ∀ {e : Nat}, (errL ts e = 0 ↔ e = 0 ∧ ∀ k ∈ ts, (logT k).2 = 0) := by
  induction ts with
  | nil => intro e; simp [errL]
  | cons t ts ih =>
    intro e
    show errL ts (kp e (logT t).2) = 0 ↔ _
    rw [ih, kp_eq0]
    simp only [List.mem_cons, forall_eq_or_imp]
    exact ⟨fun h => ⟨h.1.1, h.1.2, h.2⟩, fun h => ⟨⟨h.1, h.2.1⟩, h.2.2⟩⟩
theorem mayR_ok {r : RcV} (h : mayR r = true) : (r.ty.toNat ≤ 3) ∧ (r.ok = 0 ∨ r.ok = 1) := by
  simp only [mayR, Bool.and_eq_true, decide_eq_true_eq, Bool.or_eq_true, beq_iff_eq] at h
  exact ⟨by omega, h.2.1.2⟩
theorem hd_first {n : Nat} (h : n < 18446744073709551616) (p : List UInt8) : (hd 192 n ++ p) ≠ [] ∧ 128 ≤ ((hd 192 n ++ p).getD 0 0).toNat := by
  by_cases h1 : n ≤ 55
  · have hc : (UInt8.ofNat (192 + n)).toNat = 192 + n := UInt8.toNat_ofNat_of_lt' (by show 192 + n < 256; omega)
    rw [hd, if_pos h1]
    exact ⟨by simp, by simp only [List.singleton_append, List.getD_cons_zero, hc]; omega⟩
  · have h8 := nby_8 h
    have hc : (UInt8.ofNat (192 + 55 + nby n)).toNat = 192 + 55 + nby n := UInt8.toNat_ofNat_of_lt' (by show 192 + 55 + nby n < 256; omega)
    rw [hd, if_neg h1]
    exact ⟨by simp, by simp only [List.cons_append, List.getD_cons_zero, hc]; omega⟩
/-- A receipt is read from its bytes. -/
theorem recD_encR {B : Base} {r : RcV} (h : LogsAt B r.lA r.L) (hm : mayR r = true) (hgas : r.gas < 18446744073709551616) (hf : (form (recI r)).length ≤ 1099511627776) : recD (encR r) = (r.body, 0) := by
  obtain ⟨hty, hok⟩ := mayR_ok hm
  have hlen := h.len
  have hD : DecM (form (recI r)) = (recI r, 0) := DecM_form _ (chk_rec r) hf
  have e4 : asL (recI r) 4 4 = ([txt (leB r.ok.toNat), txt (leB r.gas), txt (blB r.F), lst (r.L.map logI)], 0) := asL_lst (Nat.le_refl _) (Nat.le_refl _)
  have eL : asL (lst (r.L.map logI)) 0 many = (r.L.map logI, 0) := asL_lst (Nat.zero_le _) (by simp [many]; omega)
  have eB : asB (txt (blB r.F)) 256 256 = (blB r.F, 0) := asB_txt (by rw [blB_len]; omega) (by rw [blB_len]; omega)
  have e0 : asN (txt (leB r.ok.toNat)) = (r.ok.toNat, 0) := asN_txt (by omega)
  have e1 : asN (txt (leB r.gas)) = (r.gas, 0) := asN_txt hgas
  have eE : errL (r.L.map logI) 0 = 0 := errL_zero.2 ⟨rfl, fun k hk => by
    obtain ⟨g, hg, rfl⟩ := List.mem_map.1 hk
    rw [logT_logI (h.ok g hg)]⟩
  have hB : recB r.ty (txt (leB r.ok.toNat)) (txt (leB r.gas)) (txt (blB r.F)) (lst (r.L.map logI)) = r.body := by
    have hmin : ((min r.ok.toNat 2 : Nat) : Int) = r.ok := by omega
    have hmap : (r.L.map logI).map (fun t => (logT t).1) = r.L.map LogV.body := by
      rw [List.map_map]
      exact List.map_congr_left fun g hg => by rw [Function.comp_apply, logT_logI (h.ok g hg)]
    rw [recB, eL, e0, e1, fixB_txt (blB_len _)]
    simp only [hmin, hmap]
    rfl
  have hE : recE (txt (leB r.ok.toNat)) (txt (leB r.gas)) (txt (blB r.F)) (lst (r.L.map logI)) = 0 := by
    rw [recE, eL, e0, e1, eB]
    exact eE
  have hT : ∀ bare : Bool, (bare = false → r.ty ≠ 0) → recT r.ty bare (recI r) = (r.body, 0) := fun bare hb => by
    rw [recT, e4, if_neg (by simp)]
    show (if recE _ _ _ _ ≠ 0 then _ else _) = _
    rw [hE, hB, if_neg (by simp), ← mayR_body, hm, if_neg]
    simp only [Bool.not_true, Bool.false_or, Bool.and_eq_true, Bool.not_eq_true', decide_eq_true_eq]
    exact fun h => hb h.1 h.2
  have hn : (formL [txt (leB r.ok.toNat), txt (leB r.gas), txt (blB r.F), lst (r.L.map logI)]).length < 18446744073709551616 := by
    have : (form (recI r)).length = _ := rfl
    simp only [recI, lst, form, ↓reduceIte, List.length_append] at hf
    simp only [lst]
    omega
  obtain ⟨g1, g2⟩ := hd_first hn (formL [txt (leB r.ok.toNat), txt (leB r.gas), txt (blB r.F), lst (r.L.map logI)])
  have hfm : form (recI r) = hd 192 (formL [txt (leB r.ok.toNat), txt (leB r.gas), txt (blB r.F), lst (r.L.map logI)]).length ++ formL [txt (leB r.ok.toNat), txt (leB r.gas), txt (blB r.F), lst (r.L.map logI)] := by
    rw [recI, lst, form, if_pos rfl]
  rw [← hfm] at g1 g2
  by_cases hz : r.ty = 0
  · have he : encR r = form (recI r) := by rw [encR, if_pos hz, List.nil_append]
    rw [he, recD, if_neg (by omega), recP, hD, if_neg (by simp)]
    have := hT true (by simp)
    rw [hz] at this
    exact this
  · have he : encR r = r.ty :: form (recI r) := by rw [encR, if_neg hz]; rfl
    rw [he, recD, if_pos ⟨by simp, by simp only [List.getD_cons_zero]; omega⟩]
    simp only [List.getD_cons_zero, List.drop_succ_cons, List.drop_zero]
    rw [recP, hD, if_neg (by simp)]
    exact hT false (fun _ => hz)
theorem recT_inv {B : Base} {ty : UInt8} {bare : Bool} {t : Itm} {r : RcV} (h : LogsAt B r.lA r.L) (hc : chk t 0 = 0) (h0 : (recT ty bare t).2 = 0) (hb : r.body = (recT ty bare t).1) : recI r = t ∧ r.ty = ty ∧ (bare = false → ty ≠ 0) ∧ mayR r = true := by
  unfold recT at h0 hb
  by_cases h1 : (asL t 4 4).2 = 0
  · rw [if_neg (by omega)] at h0 hb
    obtain ⟨hk, hk4⟩ := asL_ok h1
    obtain ⟨k0, k1, k2, k3, hks⟩ := four_of hk4
    obtain ⟨ht, hkc⟩ := item1 hc (asL_inv h1).1
    rw [hks] at h0 hb ht hkc
    simp only at h0 hb
    by_cases h2 : recE k0 k1 k2 k3 = 0
    · rw [if_neg (by omega)] at h0 hb
      split at h0
      · simp at h0
      · rename_i h3
        rw [if_neg h3] at hb
        simp only at hb
        have hmm : mayR r = true := by
          rw [mayR_body, hb]
          cases hx : mayM (recB ty k0 k1 k2 k3)
          · rw [hx] at h3; simp at h3
          · rfl
        rw [recE, errL_zero, kp_eq0, kp_eq0, kp_eq0] at h2
        obtain ⟨⟨⟨⟨h4, h5⟩, h6⟩, h7⟩, h8⟩ := h2
        obtain ⟨hty, hok⟩ := mayR_ok hmm
        simp only [RcV.body, recB, RcB.mk.injEq] at hb
        obtain ⟨b1, b2, b3, b4, b5⟩ := hb
        have c0 := hkc k0 (by simp)
        have c1 := hkc k1 (by simp)
        have c2 := hkc k2 (by simp)
        have c3 := hkc k3 (by simp)
        have f0 : txt (leB r.ok.toNat) = k0 := by
          rw [show r.ok.toNat = (asN k0).1 by omega, (asN_inv h4).2]
          exact (item0 c0 (asN_inv h4).1).symm
        have f1 : txt (leB r.gas) = k1 := by
          rw [b3, (asN_inv h5).2]
          exact (item0 c1 (asN_inv h5).1).symm
        have f2 : txt (blB r.F) = k2 := by
          rw [b4, fixB_inv h6]
          exact (item0 c2 (asB_inv h6).1).symm
        obtain ⟨i1, i2⟩ := item1 c3 (asL_inv h7).1
        rw [(asL_inv h7).2] at b5 h8
        have hl : r.L.length = k3.kids.length := by have := congrArg List.length b5; simpa using this
        have f3 : r.L.map logI = k3.kids := by
          apply List.ext_getElem (by simp [hl])
          intro j h1 h2
          simp only [List.length_map] at h1
          rw [List.getElem_map]
          have hm := List.getElem_mem h2
          refine logI_inv (i2 _ hm) (h8 _ hm) (h.ok _ (List.getElem_mem h1)) ?_
          have := congrArg (fun l => l[j]?) b5
          simpa only [List.getElem?_map, List.getElem?_eq_getElem h1, List.getElem?_eq_getElem h2, Option.map_some, Option.some.injEq] using this
        refine ⟨?_, b1, fun h9 h10 => ?_, hmm⟩
        · rw [recI, f0, f1, f2, f3, ← i1]
          exact ht.symm
        · subst h9 h10
          simp at h3
    · rw [if_pos h2] at h0
      exact absurd h0 h2
  · rw [if_pos h1] at h0
    exact absurd h0 h1
/-- What was read of bytes is written as those bytes. -/
theorem encR_recD {B : Base} {b : List UInt8} {r : RcV} (h : LogsAt B r.lA r.L) (h0 : (recD b).2 = 0) (hb : r.body = (recD b).1) : encR r = b ∧ mayR r = true ∧ form (recI r) = (if b ≠ [] ∧ (b.getD 0 0).toNat < 128 then b.drop 1 else b) := by
  have key : ∀ (ty : UInt8) (bare : Bool) (p : List UInt8), (recP ty bare p).2 = 0 → r.body = (recP ty bare p).1 → form (recI r) = p ∧ r.ty = ty ∧ (bare = false → ty ≠ 0) ∧ mayR r = true := by
    intro ty bare p hp hb
    unfold recP at hp hb
    by_cases h1 : (DecM p).2 = 0
    · rw [if_neg (by omega)] at hp hb
      obtain ⟨d1, d2⟩ := DecM_inv h1
      obtain ⟨a1, a2, a3, a4⟩ := recT_inv h d2 hp hb
      exact ⟨by rw [a1, d1], a2, a3, a4⟩
    · rw [if_pos h1] at hp
      exact absurd hp h1
  unfold recD at h0 hb
  by_cases h1 : b ≠ [] ∧ (b.getD 0 0).toNat < 128
  · rw [if_pos h1] at h0 hb
    obtain ⟨a1, a2, a3, a4⟩ := key _ _ _ h0 hb
    refine ⟨?_, a4, by rw [if_pos h1]; exact a1⟩
    have hz := a3 rfl
    rw [encR, a2, if_neg hz, a1]
    obtain ⟨h2, -⟩ := h1
    cases b with
    | nil => exact absurd rfl h2
    | cons c l => rfl
  · rw [if_neg h1] at h0 hb
    obtain ⟨a1, a2, a3, a4⟩ := key _ _ _ h0 hb
    refine ⟨?_, a4, by rw [if_neg h1]; exact a1⟩
    rw [encR, a2, if_pos rfl, a1]
    rfl
end Go.Proofs.Ytepabkjfnpaijaa

