/- Part of a proof over the seat Ytepabkjfnpaijaa. -/
import Derived.Test.YtepabkjfnpaijaaG10
import Derived.Test.YtepabkjfnpaijaaEng2
set_option linter.unusedSimpArgs false
set_option linter.unusedVariables false
set_option maxRecDepth 100000
namespace Go.Proofs.Ytepabkjfnpaijaa
open Go RowKit Go.Ew
set_option maxHeartbeats 4000000
theorem in33 : codeIn Try.f33.ntmps (Try.f33.body.getD .skip) = true := by kernel_rfl
def lst (ks : List Itm) : Itm := .mk 1 [] ks
/-- The item of a log. -/
def logI (g : LogV) : Itm := lst [txt g.ad, lst (g.tops.map txt), txt g.dt]
theorem logItem_fn {B : Base} {g : LogV} (h : g.Ok B) : Does Try.prog 33 [.agg g.ev] B (fun s : Plc => .agg (itE (logI g) s)) (fun s B' => ItAt B' (logI g) s) := by
 refine fn_of en33 (fun s B B' hB hR => hR.ext hB) Try.func33 rfl in33 (by simp [Try.f33]) ⟨logE_closed (by simp [closed]) (by simp [closed]), trivial⟩ (fun B0 hB0 => next_of 1000 ?_)
 replace h := h.ext hB0
 have f1 : ∀ u v, oneAll (logE g.ad (.raw u) (.raw v)) = (u.oneCell' && v.oneCell') := fun u v => by rw [oneAll_logE]; rfl
 have f2 : ∀ u v, (logE g.ad u v).length = 22 := fun u v => logE_len h.ha
 have f3 : ∀ u v d, (logE g.ad u v).getD 20 d = u := fun u v d => logE_20 h.ha
 have f4 : ∀ u v d, (logE g.ad u v).getD 21 d = v := fun u v d => logE_21 h.ha
 have ht := h.tb
 have hgc : ∀ n, closeds n g.ev := fun n => logE_closed (by simp [closed]) (by simp [closed])
 repeat' (first | with_reducible refine And.intro (by omega) ?_ | simp (maxSteps := 4000000) (disch := omega) only [go_sem, ↓reduceIte, Try.f33, f1, f2, f3, f4])
 refine loopU (S := Nat × Lst × List (Itm × Plc) × Base) (fun s => s.1 ≤ g.tn ∧ lOk z3 s.1 s.2.1 ∧ BExt B0 s.2.2.2 ∧ (∀ q ∈ s.2.2.1, ItAt s.2.2.2 q.1 q.2) ∧ s.2.2.1.map Prod.fst = (g.tops.take s.1).map txt)
  (fun u => ⟨[(9, .int .i64 (u.1 : Nat)), (8, .int .i64 (g.tn : Nat)), (7, .raw (.slice g.tA g.tn g.tc)), (3, lE 2 u.1 u.2.1), (2, .ptr 1 0), (1, .ptr 0 0)], 3, [(2, lO 79 (u.2.2.1.flatMap itQ) u.2.1), (1, some (.cells [.int .i64 0, .raw (.slice none 0 0), .raw (.slice none 0 0)] 79 (0, 0))), (0, some (.cells g.ev 36 (0, 0)))], u.2.2.2, []⟩)
  (fun u => g.tn - u.1) (0, none, [], B0) ⟨Nat.zero_le _, rfl, BExt.refl _, by simp, rfl⟩ (Weak.sub (weak_of (by simp [wσ, go_sem, closed, closeds, lE_closed, lE, lO, clO, hgc] <;> omega) (by simp [whs, Go.Ew.hget, go_sem, EObj.closed, closed, closeds, lE_closed, lE, lO, clO, hgc]) (by simp [*]) rfl rfl (by simp))) ?_
 rintro ⟨i, l', qs', B2⟩ ⟨hi, hl, hB2, hok, hbd⟩
 simp only at hi hl hB2 hok hbd ⊢
 replace h := h.ext hB2
 have hLl : qs'.length = i := by have := congrArg List.length hbd; simp [tops_len] at this; omega
 rcases Nat.lt_or_ge i g.tn with hi2 | hi2
 ·refine next_of 1000 ?_
  simp (maxSteps := 4000000) (disch := omega) only [go_sem, ↓reduceIte]
  repeat (with_reducible refine And.intro (by omega) ?_)
  refine condS_split (fun h2 => ?_) (fun h2 => by simp at h2; omega)
  obtain ⟨m1, m2, m3, m4⟩ := h.ldT hi2
  have hq := top_len h hi2
  have hqi : g.tops[i]'(by rw [tops_len]; exact hi2) = g.top i := tops_get hi2
  obtain ⟨q, hq0⟩ : ∃ q, q = g.top i := ⟨_, rfl⟩
  rw [← hq0] at m1 hq hqi
  have q1 := bE_one q
  repeat' (first | with_reducible refine And.intro (by first | omega | (constructor <;> assumption) | (simp; done) | (simp [*]; done)) ?_ | simp (maxSteps := 4000000) (disch := omega) only [go_sem, ↓reduceIte, Int.toNat_natCast, m1, q1, List.length_map, hq, bE_splice hq])
  refine callS_rof 3 0 32 32 [] q en37 (by simp [closeds]) rfl rfl (bE_all hq) (fun s => by simp [closed, closeds]) (fun B ad cap hB hb => text_fn q 32 B ad cap hb hq (by omega)) (fun s2 B3 hB3 hR3 => next_of 1000 ?_)
  change BExt B2 B3 at hB3
  repeat' (first | with_reducible refine And.intro (by first | omega | (simp; done)) ?_ | simp (maxSteps := 4000000) (disch := omega) only [go_sem, ↓reduceIte])
  refine appendL (l := l') (xs := qs'.flatMap itQ) (zs := z3) (news := itE (txt q) s2) (T := 79) 2 i rfl Try.underlying77 (.inl ⟨_, Try.underlying77⟩) zr79 cz79 (by simp [z3]) z3_closed rfl rfl rfl hl (by rw [itsE_len, hLl]; rfl) (itsE_closed 0 _) (src_own (m := 1) rfl rfl) (by simp [z3]) rfl (by simp only [maxLen]; omega) (by rw [show Try.prog.bytesOf 79 = 56 from by79]; omega) (fun l2 hl2 => ?_)
  refine packS [5] 2 (by simp) (by simp) (by simp) (by simp) (next_of 1000 ?_)
  have hev : qs'.flatMap itQ ++ itE (txt q) s2 = (qs' ++ [(txt q, s2)]).flatMap itQ := by
   rw [List.flatMap_append, List.flatMap_singleton]; rfl
  repeat' (simp (maxSteps := 4000000) (disch := omega) only [go_sem, ↓reduceIte, hev, okC_lE' (ks := [5]) (k := 2) (r := 5) rfl, okC, okE, okCs, pkO_some, pkO_lO (ks := [5]) (k := 2) hl2 (itsE_closed 0 (qs' ++ [(txt q, s2)])) z3_closed, pkO_none, okCs_closed (Nat.zero_le _) _ (hgc 0), rens_closed0' _ _ (hgc 0)])
  have hok' : ∀ a ∈ qs' ++ [(txt q, s2)], ItAt B3 a.1 a.2 := fun a ha => by
   rcases List.mem_append.1 ha with h3 | h3
   ·exact (hok a h3).ext hB3
   ·obtain rfl := List.mem_singleton.1 h3
    exact hR3
  have hbd' : (qs' ++ [(txt q, s2)]).map Prod.fst = (g.tops.take (i + 1)).map txt := by
   rw [List.take_succ_eq_append_getElem (by rw [tops_len]; exact hi2), List.map_append, List.map_append, hbd, hqi]
   rfl
  have cl2 : ∀ n, clO n (lO 79 ((qs' ++ [(txt q, s2)]).flatMap itQ) l2) = True := fun n => clO_lO hl2 (itsE_closed 0 _) z3_closed
  have cl3 : ∀ n, clO n (lO 79 (qs'.flatMap itQ ++ itQ (txt q, s2)) l2) = True := fun n => by have := cl2 n; rwa [List.flatMap_append, List.flatMap_singleton] at this
  exact ⟨(i + 1, l2, qs' ++ [(txt q, s2)], B3), ⟨hi2, hl2, hB2.trans hB3, hok', hbd'⟩, Weak.sub (weak_of (by simp [wσ, go_sem, closed, closeds, lE_closed, cl3, hgc] <;> omega) (by simp [whs, Go.Ew.hget, go_sem, EObj.closed, closed, closeds, lE_closed, cl3, hgc]) (by simp [*]) rfl rfl (by simp)), by simp only; omega⟩
 ·obtain rfl : i = g.tn := by omega
  refine freezeL (xs := qs'.flatMap itQ) (T := 79) 2 g.tn rfl hl (by rw [itsE_len, hLl]; rfl) (itsE_closed 0 _) z3_closed (by simp) (fun b2 ad2 cap2 B3 hB3 hf hD hso hcell => ?_)
  change BExt B2 B3 at hB3
  have hC : CellsAt B3 ad2 (qs'.flatMap itC) := cellsAt_frz hD hso (fun h0 => by
   rw [h0] at hLl; rw [List.length_eq_zero_iff.1 hLl]; rfl) hcell (reals_itQ _ _)
  have hbt : qs'.map Prod.fst = g.tops.map txt := by rw [hbd, List.take_of_length_le (by rw [tops_len]; omega)]
  simp only [frzσ, frz, hf, frzh_cons, frzh_nil, fzO_some, EObj.frz, frzs_closed0 _ (hgc 0), frzs, Nat.reduceEqDiff, if_false, if_true, ↓reduceIte, frz_closed0]
  refine freezeS 0 (cs := g.ev) (T := 36) (fr := (0, 0)) rfl (hgc 0) (by simp) (fun b B4 hB4 hbD hbH => next_of 1000 ?_)
  change BExt B3 B4 at hB4
  have hev : reals (fun _ => 0) g.ev = g.cells := by simp [logE, LogV.cells, reals_eq, bE, bV, real, Function.comp_def]
  have hgC : CellsAt B4 (some ⟨b, 0, none⟩) g.cells := heap_cells hbD (by rw [← hev]; exact hbH)
  have hA : BytesAt B4 (some ⟨b, 0, none⟩) g.ad := by
   have := hgC.sub 0 20
   simp only [List.drop_zero, LogV.cells, List.take_append_of_le_length (show 20 ≤ (g.ad.map bV).length by simp [h.ha]), List.take_of_length_le (show (g.ad.map bV).length ≤ 20 by simp [h.ha])] at this
   exact this
  have h4 := h.ext (hB3.trans hB4)
  simp (maxSteps := 4000000) (disch := omega) only [go_sem, ↓reduceIte]
  repeat (with_reducible refine And.intro (by omega) ?_)
  refine condS_split (fun h2 => by simp at h2) (fun h2 => ?_)
  obtain ⟨r1, r2, r3⟩ := hgC.raw (j := 21) (v := .slice g.dA g.dn g.dc) (by simp [LogV.cells, List.getElem?_append, h.ha])
  have e21 : adrAt (some (⟨b, 0, none⟩ : Addr)) 21 = ⟨b, 21, none⟩ := by simp [adrAt_some, Addr.add]
  rw [e21] at r1 r3
  simp only [ofScalar] at r1
  have hdb := h.db
  repeat' (first | with_reducible refine And.intro (by first | omega | (constructor <;> assumption) | (simp; done)) ?_ | simp (maxSteps := 4000000) (disch := omega) only [go_sem, ↓reduceIte, r1] | with_reducible refine drawT_of (id := 7) [0, 1, 3, 5, 6, 2, 4, 7, 8, 9, 10] mixed (by kernel_rfl) (by simp) (fun hin => dt_of 1000 hin ?_) | with_reducible refine next_of 1000 ?_)
  refine callT_f (text_fn g.ad 20 _ _ _ hA h.ha (by omega)) (fun _ => by simp [closed, closeds]) (by kernel_rfl) (ck_of (by kernel_rfl) (nmT_of (by kernel_rfl))) (fun hin2 s5 B5 hB5 hR5 => dt_of 1000 hin2 ?_)
  change BExt B4 B5 at hB5
  have hok5 : ∀ q ∈ qs', ItAt B5 q.1 q.2 := fun q hq => (hok q hq).ext (hB3.trans (hB4.trans hB5))
  repeat' (simp (maxSteps := 4000000) (disch := omega) only [go_sem, ↓reduceIte])
  refine callT_f (list_fn qs' g.tn _ _ _ (hC.ext (hB4.trans hB5)) (by omega) hok5 hLl) (fun _ => by simp [closed, closeds]) (by kernel_rfl) (ck_of (by kernel_rfl) (nmT_of (by kernel_rfl))) (fun hin2 s6 B6 hB6 hR6 => dt_of 1000 hin2 ?_)
  change BExt B5 B6 at hB6
  repeat' (simp (maxSteps := 4000000) (disch := omega) only [go_sem, ↓reduceIte])
  refine callT_f (text_fn g.dt g.dn _ _ _ (h4.dB.ext (hB5.trans hB6)) h.hd (by omega)) (fun _ => by simp [closed, closeds]) (by kernel_rfl) (ck_of (by kernel_rfl) (nmT_of (by kernel_rfl))) (fun hin2 s7 B7 hB7 hR7 => dt_of 1000 hin2 ?_)
  change BExt B6 B7 at hB7
  repeat' (first | with_reducible refine And.intro (by first | omega | (simp; done)) ?_ | simp (maxSteps := 4000000) (disch := omega) only [go_sem, ↓reduceIte])
  refine callT_roc 100027 0 3 3 [] ([(txt g.ad, s5), (Itm.mk 1 [] (qs'.map Prod.fst), s6), (txt g.dt, s7)].flatMap itC) en35 rfl rfl rfl (fun s => by simp [closed, closeds]) (fun B ad cap hB hc3 => list_fn [(txt g.ad, s5), (Itm.mk 1 [] (qs'.map Prod.fst), s6), (txt g.dt, s7)] 3 B ad cap hc3 (by simp) (fun q hq => by
   simp only [List.mem_cons, List.not_mem_nil, or_false] at hq
   rcases hq with rfl | rfl | rfl
   ·exact hR5.ext (hB6.trans (hB7.trans hB))
   ·exact hR6.ext (hB7.trans hB)
   ·exact hR7.ext hB) rfl) (by kernel_rfl) (ck_of (by kernel_rfl) (nmT_of (by kernel_rfl))) (fun hin2 s8 B8 hB8 hR8 => dt_of 1000 hin2 ?_)
  change BExt B7 B8 at hB8
  have hfin : Itm.mk 1 [] (List.map Prod.fst [(txt g.ad, s5), (Itm.mk 1 [] (qs'.map Prod.fst), s6), (txt g.dt, s7)]) = logI g := by
   simp only [List.map_cons, List.map_nil, hbt]; rfl
  rw [hfin] at hR8
  simp only [hfin]
  repeat' (first | simp (maxSteps := 4000000) (disch := omega) only [go_sem, ↓reduceIte] | with_reducible refine endT_of (by kernel_rfl) (nmT_of (by kernel_rfl)) (next_of 1000 ?_))
  exact ⟨hB2.trans (hB3.trans (hB4.trans (hB5.trans (hB6.trans (hB7.trans hB8))))), s8, rfl, by simp [closed, closeds], hR8⟩
end Go.Proofs.Ytepabkjfnpaijaa
namespace Go.Proofs.Ytepabkjfnpaijaa
open Go RowKit Go.Ew
set_option maxHeartbeats 4000000
theorem in32 : codeIn Try.f32.ntmps (Try.f32.body.getD .skip) = true := by kernel_rfl
theorem in19 : codeIn Try.f19.ntmps (Try.f19.body.getD .skip) = true := by kernel_rfl
/-- A receipt, and where its logs lie. -/
structure RcV where
 ty : UInt8
 ok : Int
 gas : Nat
 F : Blm
 lA : Option Addr
 lc : Nat
 L : List LogV
def rcE (r : RcV) : List EV := .int .u8 (r.ty.toNat : Int) :: .int .i64 r.ok :: .int .u64 (r.gas : Int) :: (ints .u8 (fB r.F) 256 ++ [.raw (.slice r.lA r.L.length r.lc)])
theorem rc_len (r : RcV) : (rcE r).length = 260 := by simp [rcE, ints_len]
theorem rc_0 (r : RcV) (d : EV) : (rcE r).getD 0 d = .int .u8 (r.ty.toNat : Int) := rfl
theorem rc_1 (r : RcV) (d : EV) : (rcE r).getD 1 d = .int .i64 r.ok := rfl
theorem rc_2 (r : RcV) (d : EV) : (rcE r).getD 2 d = .int .u64 (r.gas : Int) := rfl
theorem rc_259 (r : RcV) (d : EV) : (rcE r).getD 259 d = .raw (.slice r.lA r.L.length r.lc) := by
 have : (rcE r)[259]? = some (.raw (.slice r.lA r.L.length r.lc)) := by
  show (ints .u8 (fB r.F) 256 ++ [.raw (.slice r.lA r.L.length r.lc)])[256]? = _
  rw [List.getElem?_append_right (by rw [ints_len]; omega), ints_len]; rfl
 rw [List.getD_eq_getElem?_getD, this]; rfl
theorem rc_bl (r : RcV) : ((rcE r).drop 3).take 256 = ints .u8 (fB r.F) 256 := by
 simp only [rcE, List.drop_succ_cons, List.drop_zero]
 rw [List.take_append_of_le_length (by rw [ints_len]; omega), List.take_of_length_le (by rw [ints_len]; omega)]
theorem rc_all (r : RcV) : (rcE r).take 260 = rcE r := List.take_of_length_le (by rw [rc_len]; omega)
theorem oneAll_append (a b : List EV) : oneAll (a ++ b) = (oneAll a && oneAll b) := by
 induction a with
 | nil => rfl
 | cons v a ih => simp only [List.cons_append, oneAll, ih, Bool.and_assoc]
theorem oneAll_ints (k : IntKind) (z : Nat → Int) (n : Nat) : oneAll (ints k z n) = true := by
 unfold ints
 generalize List.range n = l
 induction l with
 | nil => rfl
 | cons i l ih => rw [List.map_cons, oneAll, ih]; rfl
theorem rc_one (r : RcV) : oneAll (rcE r) = true := by
 simp only [rcE, oneAll, oneAll_append, oneAll_ints]; rfl
theorem rc_closed (n : Nat) (r : RcV) : closeds n (rcE r) := by
 simp only [rcE, closeds]
 exact ⟨by simp [closed], by simp [closed], by simp [closed], closeds_append.2 ⟨closeds_ints _ _ _ _, by simp [closeds, closed]⟩⟩
/-- Whether a receipt may be. -/
def mayR (r : RcV) : Bool := (r.L.all fun g => decide (g.tn ≤ 4)) && (decide ((r.ty.toNat : Int) ≤ 3) && (r.ok == 0 || r.ok == 1) && eqB r.F (allB zB (marksL r.L)))
theorem mayr_fn {B : Base} {r : RcV} (h : LogsAt B r.lA r.L) : Does Try.prog 32 [.agg (rcE r)] B (fun _ : Unit => .bool (mayR r)) (fun _ _ => True) := by
 refine fn_of en32 (fun s B B' hB hR => hR) Try.func32 rfl in32 (by simp [Try.f32]) ⟨rc_closed 0 r, trivial⟩ (fun B0 hB0 => next_of 1000 ?_)
 replace h := h.ext hB0
 have hrc : ∀ n, closeds n (rcE r) := fun n => rc_closed n r
 repeat' (first | with_reducible refine And.intro (by omega) ?_ | simp (maxSteps := 4000000) (disch := omega) only [go_sem, ↓reduceIte, Try.f32, rc_len, rc_0, rc_1, rc_2, rc_259, rc_bl, rc_one])
 refine loopU (S := Nat) (fun i => i ≤ r.L.length ∧ (r.L.take i).all (fun g => decide (g.tn ≤ 4)) = true)
  (fun i => ⟨[(8, .int .i64 (i : Nat)), (7, .int .i64 (r.L.length : Nat)), (6, .raw (.slice r.lA r.L.length r.lc)), (1, .ptr 0 0)], 1, [(0, some (.cells (rcE r) 45 (0, 0)))], B0, []⟩)
  (fun i => r.L.length - i) 0 ⟨Nat.zero_le _, rfl⟩ (Weak.sub (weak_of (by simp [wσ, go_sem, closed, closeds, lE_closed, hrc] <;> omega) (by simp [whs, Go.Ew.hget, go_sem, EObj.closed, closed, closeds, lE_closed, hrc]) (by simp [*]) rfl rfl (by simp))) ?_
 rintro i ⟨hi, hall⟩
 have hlen := h.len
 refine next_of 1000 ?_
 simp (maxSteps := 4000000) (disch := omega) only [go_sem, ↓reduceIte]
 repeat (with_reducible refine And.intro (by omega) ?_)
 refine condS_split (fun h2 => ?_) (fun h2 => ?_)
 all_goals (try simp only [bne_iff_ne, ne_eq, beq_iff_eq, decide_eq_true_eq, decide_eq_false_iff_not, Bool.not_eq_true, Bool.not_eq_false, Bool.not_true, Bool.not_false, bne_eq_false_iff_eq, beq_eq_false_iff_ne, Bool.and_eq_true, Bool.or_eq_true, Bool.and_eq_false_imp, Bool.or_eq_false_iff, Bool.not_eq_true', Bool.not_eq_false', Int.not_lt, Int.not_le] at h2)
 ·have hi2 : i < r.L.length := by omega
  obtain ⟨l1, l2, l3, l4⟩ := h.ld hi2
  have h1 := h.ok _ (List.getElem_mem hi2)
  have hm := List.getElem_mem hi2
  have htk : (r.L.take (i + 1)) = r.L.take i ++ [r.L[i]] := List.take_succ_eq_append_getElem hi2
  obtain ⟨g, hg⟩ : ∃ g, g = r.L[i] := ⟨_, rfl⟩
  rw [← hg] at l1 h1 htk hm
  have ht := h1.tb
  have f1 : oneAll g.ev = true := logE_one rfl rfl
  have f2 : ∀ u v, (logE g.ad u v).length = 22 := fun u v => logE_len h1.ha
  have f3 : ∀ u v d, (logE g.ad u v).getD 20 d = u := fun u v d => logE_20 h1.ha
  repeat' (first | with_reducible refine And.intro (by first | omega | (constructor <;> assumption) | (simp [*]; done)) ?_ | simp (maxSteps := 4000000) (disch := omega) only [go_sem, ↓reduceIte, Int.toNat_natCast, l1, f1, f2, f3, logE_splice h1.ha] | ((first | refine condS_split (fun h => ?_) (fun h => ?_) | refine testS_split (fun h => ?_) (fun h => ?_) | refine testT_split (fun h => ?_) (fun h => ?_)) <;> (try simp only [bne_iff_ne, ne_eq, beq_iff_eq, decide_eq_true_eq, decide_eq_false_iff_not, Bool.not_eq_true, Bool.not_eq_false, Bool.not_true, Bool.not_false, bne_eq_false_iff_eq, beq_eq_false_iff_ne, Bool.and_eq_true, Bool.or_eq_true, Bool.and_eq_false_imp, Bool.or_eq_false_iff, Bool.not_eq_true', Bool.not_eq_false', Int.not_lt, Int.not_le] at h) <;> (try (exfalso; omega))))
  ·have hx : mayR r = false := by
    have : (r.L.all fun g => decide (g.tn ≤ 4)) = false := by
     rw [List.all_eq_false]; exact ⟨g, hm, by simp; omega⟩
    rw [mayR, this]; rfl
   exact ⟨BExt.refl _, (), by rw [hx], by simp [closed]⟩
  ·exact ⟨i + 1, ⟨hi2, by rw [htk, List.all_append, hall]; simp; omega⟩, Weak.sub (weak_of (by simp [wσ, go_sem, closed, closeds, lE_closed, hrc] <;> omega) (by simp [whs, Go.Ew.hget, go_sem, EObj.closed, closed, closeds, lE_closed, hrc]) (by simp [*]) rfl rfl (by simp)), by omega⟩
 ·obtain rfl : i = r.L.length := by omega
  rw [List.take_length] at hall
  have hmr : mayR r = (decide ((r.ty.toNat : Int) ≤ 3) && (r.ok == 0 || r.ok == 1) && eqB r.F (allB zB (marksL r.L))) := by rw [mayR, hall]; rfl
  rw [hmr]
  have hof := of_fn r.L r.L.length _ r.lA r.lc h rfl
  clear h
  repeat' (first | with_reducible refine And.intro (by omega) ?_ | simp (maxSteps := 4000000) (disch := omega) only [go_sem, ↓reduceIte, rc_len, rc_0, rc_1, rc_2, rc_259, rc_bl, rc_one, ints_isInt, eq8] | with_reducible refine drawT_of (id := 7) [0, 1, 2, 3, 4, 5, 6, 7, 8, 9, 10, 11, 12, 13, 14, 15, 16, 17, 18, 19, 20, 21] mixed (by kernel_rfl) (by simp) (fun hin => dt_of 1000 hin ?_) | with_reducible refine endT_of (by kernel_rfl) (nmT_of (by kernel_rfl)) (next_of 1000 ?_) | refine callT_fp (hof) (by simp [closed, closeds, closeds_ints, closed_wE]) (by kernel_rfl) (ck_of (by kernel_rfl) (nmT_of (by kernel_rfl))) (fun hin => dt_of 1000 hin ?_) | with_reducible refine next_of 1000 ?_ | ((first | refine condS_split (fun h => ?_) (fun h => ?_) | refine testS_split (fun h => ?_) (fun h => ?_) | refine testT_split (fun h => ?_) (fun h => ?_)) <;> (try simp only [bne_iff_ne, ne_eq, beq_iff_eq, decide_eq_true_eq, decide_eq_false_iff_not, Bool.not_eq_true, Bool.not_eq_false, Bool.not_true, Bool.not_false, bne_eq_false_iff_eq, beq_eq_false_iff_ne, Bool.and_eq_true, Bool.or_eq_true, Bool.and_eq_false_imp, Bool.or_eq_false_iff, Bool.not_eq_true', Bool.not_eq_false', Int.not_lt, Int.not_le] at h) <;> (try (exfalso; omega))))
  all_goals exact ⟨BExt.refl _, (), by simp_all <;> (intros; omega), by simp [closed]⟩
end Go.Proofs.Ytepabkjfnpaijaa
namespace Go.Proofs.Ytepabkjfnpaijaa
open Go RowKit Go.Ew
set_option maxHeartbeats 4000000
/-- A filter's bytes. -/
def blB (F : Blm) : List UInt8 := (List.range 256).map fun i => UInt8.ofNat (F i).toNat
theorem blB_len (F : Blm) : (blB F).length = 256 := by simp [blB]
theorem blB_bE (F : Blm) : (blB F).map bE = ints .u8 (fB F) 256 := by
 simp only [blB, ints, List.map_map]
 apply List.map_congr_left
 intro i _
 simp only [Function.comp_def, bE, fB, n8]
 rw [UInt8.toNat_ofNat_of_lt' (by have := (F i).isLt; simpa using this)]
/-- A receipt as an item, and its bytes. -/
def recI (r : RcV) : Itm := lst [txt (leB r.ok.toNat), txt (leB r.gas), txt (blB r.F), lst (r.L.map logI)]
def encR (r : RcV) : List UInt8 := (if r.ty = 0 then [] else [r.ty]) ++ form (recI r)
theorem chk_txt (p : List UInt8) (d : Nat) : chk (txt p) d = 0 := by simp [txt, chk, chkL]
theorem chk_lst (ks : List Itm) (d : Nat) (hd : d < 64) (h : ∀ k ∈ ks, chk k (d + 1) = 0) : chk (lst ks) d = 0 := by
 rw [lst, chk, if_neg (by omega), if_neg (by simp), chkL_zero h]
theorem chk_log (g : LogV) (d : Nat) (hd : d < 60) : chk (logI g) d = 0 := by
 refine chk_lst _ _ (by omega) fun k hk => ?_
 simp only [List.mem_cons, List.not_mem_nil, or_false] at hk
 rcases hk with rfl | rfl | rfl
 ·exact chk_txt _ _
 ·refine chk_lst _ _ (by omega) fun k hk => ?_
  obtain ⟨p, _, rfl⟩ := List.mem_map.1 hk
  exact chk_txt _ _
 ·exact chk_txt _ _
theorem chk_rec (r : RcV) : chk (recI r) 0 = 0 := by
 refine chk_lst _ _ (by omega) fun k hk => ?_
 simp only [List.mem_cons, List.not_mem_nil, or_false] at hk
 rcases hk with rfl | rfl | rfl | rfl
 ·exact chk_txt _ _
 ·exact chk_txt _ _
 ·exact chk_txt _ _
 ·refine chk_lst _ _ (by omega) fun k hk => ?_
  obtain ⟨g, _, rfl⟩ := List.mem_map.1 hk
  exact chk_log g _ (by omega)
theorem encno_fn {B : Base} {r : RcV} (h : LogsAt B r.lA r.L) (hm : mayR r = false) : Does Try.prog 19 [.agg (rcE r)] B (fun _ : Unit => .tup [.raw (.slice none 0 0), .int .i64 190]) (fun _ _ => True) := by
 refine fn_of en19 (fun s B B' hB hR => hR) Try.func19 rfl in19 (by simp [Try.f19]) ⟨rc_closed 0 r, trivial⟩ (fun B0 hB0 => next_of 1000 ?_)
 have hmy := mayr_fn (h.ext hB0)
 rw [hm] at hmy
 repeat' (first | simp (maxSteps := 4000000) (disch := omega) only [go_sem, ↓reduceIte, Try.f19, rc_len, rc_all, rc_one] | refine callS_fp (hmy) (by simp [closed, closeds, closeds_ints, closed_wE]) (next_of 1000 ?_))
 exact ⟨BExt.refl _, (), by simp [closed, closeds]⟩
def rcC (r : RcV) : List Value := .int .u8 (r.ty.toNat : Int) :: .int .i64 r.ok :: .int .u64 (r.gas : Int) :: ((blB r.F).map bV ++ [.slice r.lA r.L.length r.lc])
theorem reals_rc (r : RcV) : reals (fun _ => 0) (rcE r) = rcC r := by
 simp only [rcE, rcC, ← blB_bE, reals]
 simp [real, reals_eq, bE, bV, Function.comp_def]
theorem encr_fn {B : Base} {r : RcV} (h : LogsAt B r.lA r.L) (hm : mayR r = true) (hgas : r.gas < 18446744073709551616) (hf : (form (recI r)).length < 35184372088832) :
  Does Try.prog 19 [.agg (rcE r)] B (fun s : Option Addr × Nat => .tup [.raw (.slice s.1 (encR r).length s.2), .int .i64 0]) (fun s B' => BytesAt B' s.1 (encR r) ∧ (encR r).length ≤ s.2) := by
 refine fn_of en19 (fun s B B' hB hR => ⟨hR.1.ext hB, hR.2⟩) Try.func19 rfl in19 (by simp [Try.f19]) ⟨rc_closed 0 r, trivial⟩ (fun B0 hB0 => next_of 1000 ?_)
 replace h := h.ext hB0
 have hmy := mayr_fn h
 rw [hm] at hmy
 have hrc : ∀ n, closeds n (rcE r) := fun n => rc_closed n r
 repeat' (first | with_reducible refine And.intro (by omega) ?_ | simp (maxSteps := 4000000) (disch := omega) only [go_sem, ↓reduceIte, Try.f19, rc_len, rc_0, rc_1, rc_2, rc_259, rc_all, rc_one] | refine callS_fp (hmy) (by simp [closed, closeds, closeds_ints, closed_wE]) (next_of 1000 ?_))
 refine loopU (S := Nat × Lst × List (Itm × Plc) × Base) (fun s => s.1 ≤ r.L.length ∧ lOk z3 s.1 s.2.1 ∧ BExt B0 s.2.2.2 ∧ (∀ q ∈ s.2.2.1, ItAt s.2.2.2 q.1 q.2) ∧ s.2.2.1.map Prod.fst = (r.L.take s.1).map logI)
  (fun u => ⟨[(15, .int .i64 (u.1 : Nat)), (14, .int .i64 (r.L.length : Nat)), (13, .raw (.slice r.lA r.L.length r.lc)), (4, lE 1 u.1 u.2.1), (1, .ptr 0 0)], 2, [(1, lO 79 (u.2.2.1.flatMap itQ) u.2.1), (0, some (.cells (rcE r) 45 (0, 0)))], u.2.2.2, []⟩)
  (fun u => r.L.length - u.1) (0, none, [], B0) ⟨Nat.zero_le _, rfl, BExt.refl _, by simp, rfl⟩ (Weak.sub (weak_of (by simp [wσ, go_sem, closed, closeds, lE_closed, lE, lO, clO, hrc] <;> omega) (by simp [whs, Go.Ew.hget, go_sem, EObj.closed, closed, closeds, lE_closed, lE, lO, clO, hrc]) (by simp [*]) rfl rfl (by simp))) ?_
 rintro ⟨i, l', qs', B2⟩ ⟨hi, hl, hB2, hok, hbd⟩
 simp only at hi hl hB2 hok hbd ⊢
 replace h := h.ext hB2
 have hlen := h.len
 have hLl : qs'.length = i := by have := congrArg List.length hbd; simp at this; omega
 rcases Nat.lt_or_ge i r.L.length with hi2 | hi2
 ·refine next_of 1000 ?_
  simp (maxSteps := 4000000) (disch := omega) only [go_sem, ↓reduceIte]
  repeat (with_reducible refine And.intro (by omega) ?_)
  refine condS_split (fun h2 => ?_) (fun h2 => by simp at h2; omega)
  obtain ⟨l1, l2, l3, l4⟩ := h.ld hi2
  have h1 := h.ok _ (List.getElem_mem hi2)
  have htk : r.L.take (i + 1) = r.L.take i ++ [r.L[i]] := List.take_succ_eq_append_getElem hi2
  obtain ⟨g, hg⟩ : ∃ g, g = r.L[i] := ⟨_, rfl⟩
  rw [← hg] at l1 h1 htk
  have ht := h1.tb
  have f1 : oneAll g.ev = true := logE_one rfl rfl
  have f2 : ∀ u v, (logE g.ad u v).length = 22 := fun u v => logE_len h1.ha
  have f8 : ∀ u v, List.take 22 (logE g.ad u v) = logE g.ad u v := fun u v => logE_take h1.ha
  have hgc : ∀ n, closeds n g.ev := fun n => logE_closed (by simp [closed]) (by simp [closed])
  repeat' (first | with_reducible refine And.intro (by first | omega | (constructor <;> assumption) | (simp [*]; done)) ?_ | simp (maxSteps := 4000000) (disch := omega) only [go_sem, ↓reduceIte, Int.toNat_natCast, l1, f1, f2, f8, logE_splice h1.ha])
  refine callS_f (logItem_fn h1) (fun _ => by simp [closed, closeds]) (fun s2 B3 hB3 hR3 => next_of 1000 ?_)
  change BExt B2 B3 at hB3
  repeat' (first | with_reducible refine And.intro (by first | omega | (simp; done)) ?_ | simp (maxSteps := 4000000) (disch := omega) only [go_sem, ↓reduceIte])
  refine appendL (l := l') (xs := qs'.flatMap itQ) (zs := z3) (news := itE (logI g) s2) (T := 79) 1 i rfl Try.underlying77 (.inl ⟨_, Try.underlying77⟩) zr79 cz79 (by simp [z3]) z3_closed rfl rfl rfl hl (by rw [itsE_len, hLl]; rfl) (itsE_closed 0 _) (src_own (m := 1) rfl rfl) (by simp [z3]) rfl (by simp only [maxLen]; omega) (by rw [show Try.prog.bytesOf 79 = 56 from by79]; omega) (fun l2 hl2 => ?_)
  refine packS [4] 1 (by simp) (by simp) (by simp) (by simp) (next_of 1000 ?_)
  have hev : qs'.flatMap itQ ++ itE (logI g) s2 = (qs' ++ [(logI g, s2)]).flatMap itQ := by
   rw [List.flatMap_append, List.flatMap_singleton]; rfl
  repeat' (simp (maxSteps := 4000000) (disch := omega) only [go_sem, ↓reduceIte, hev, okC_lE' (ks := [4]) (k := 1) (r := 4) rfl, okC, okE, okCs, pkO_some, pkO_lO (ks := [4]) (k := 1) hl2 (itsE_closed 0 (qs' ++ [(logI g, s2)])) z3_closed, pkO_none, okCs_closed (Nat.zero_le _) _ (hrc 0), rens_closed0' _ _ (hrc 0), okCs_closed (Nat.zero_le _) _ (hgc 0)])
  have hok' : ∀ a ∈ qs' ++ [(logI g, s2)], ItAt B3 a.1 a.2 := fun a ha => by
   rcases List.mem_append.1 ha with h3 | h3
   ·exact (hok a h3).ext hB3
   ·obtain rfl := List.mem_singleton.1 h3
    exact hR3
  have hbd' : (qs' ++ [(logI g, s2)]).map Prod.fst = (r.L.take (i + 1)).map logI := by
   rw [htk, List.map_append, List.map_append, hbd]
   rfl
  have cl2 : ∀ n, clO n (lO 79 ((qs' ++ [(logI g, s2)]).flatMap itQ) l2) = True := fun n => clO_lO hl2 (itsE_closed 0 _) z3_closed
  have cl3 : ∀ n, clO n (lO 79 (qs'.flatMap itQ ++ itQ (logI g, s2)) l2) = True := fun n => by have := cl2 n; rwa [List.flatMap_append, List.flatMap_singleton] at this
  exact ⟨(i + 1, l2, qs' ++ [(logI g, s2)], B3), ⟨hi2, hl2, hB2.trans hB3, hok', hbd'⟩, Weak.sub (weak_of (by simp [wσ, go_sem, closed, closeds, lE_closed, cl3, hrc] <;> omega) (by simp [whs, Go.Ew.hget, go_sem, EObj.closed, closed, closeds, lE_closed, cl3, hrc]) (by simp [*]) rfl rfl (by simp)), by simp only; omega⟩
 ·obtain rfl : i = r.L.length := by omega
  refine freezeL (xs := qs'.flatMap itQ) (T := 79) 1 r.L.length rfl hl (by rw [itsE_len, hLl]; rfl) (itsE_closed 0 _) z3_closed (by simp) (fun b2 ad2 cap2 B3 hB3 hf2 hD hso hcell => ?_)
  change BExt B2 B3 at hB3
  have hC : CellsAt B3 ad2 (qs'.flatMap itC) := cellsAt_frz hD hso (fun h0 => by
   rw [h0] at hLl; rw [List.length_eq_zero_iff.1 hLl]; rfl) hcell (reals_itQ _ _)
  have hbt : qs'.map Prod.fst = r.L.map logI := by rw [hbd, List.take_length]
  simp only [frzσ, frz, hf2, frzh_cons, frzh_nil, fzO_some, EObj.frz, frzs_closed0 _ (hrc 0), frzs, Nat.reduceEqDiff, if_false, if_true, ↓reduceIte, frz_closed0]
  refine freezeS 0 (cs := rcE r) (T := 45) (fr := (0, 0)) rfl (hrc 0) (by simp) (fun b B4 hB4 hbD hbH => next_of 1000 ?_)
  change BExt B3 B4 at hB4
  have hgC : CellsAt B4 (some ⟨b, 0, none⟩) (rcC r) := heap_cells hbD (by rw [← reals_rc]; exact hbH)
  have hA : BytesAt B4 (some ⟨b, 3, none⟩) (blB r.F) := by
   have := hgC.sub 3 256
   simp only [rcC, List.drop_succ_cons, List.drop_zero, List.take_append_of_le_length (show 256 ≤ ((blB r.F).map bV).length by simp [blB_len]), List.take_of_length_le (show ((blB r.F).map bV).length ≤ 256 by simp [blB_len])] at this
   have e : (⟨b, 0, none⟩ : Addr).add 3 = ⟨b, 3, none⟩ := by simp [Addr.add]
   rw [e] at this
   exact this
  obtain ⟨r0, r0d, r0s⟩ := hgC.raw (j := 0) (v := .int .u8 (r.ty.toNat : Int)) rfl
  obtain ⟨r1, r1d, r1s⟩ := hgC.raw (j := 1) (v := .int .i64 r.ok) rfl
  obtain ⟨r2, r2d, r2s⟩ := hgC.raw (j := 2) (v := .int .u64 (r.gas : Int)) rfl
  simp only [adrAt_some, Addr.add, ↓reduceIte, Nat.reduceAdd, Nat.reduceEqDiff, ofScalar, if_false, Nat.zero_add, Nat.one_ne_zero] at r0 r0s r1 r1s r2 r2s
  simp (maxSteps := 4000000) (disch := omega) only [go_sem, ↓reduceIte]
  repeat (with_reducible refine And.intro (by omega) ?_)
  refine condS_split (fun h2 => by simp at h2) (fun h2 => ?_)
  have hok01 : r.ok = 0 ∨ r.ok = 1 := by
   simp only [mayR, Bool.and_eq_true, Bool.or_eq_true, beq_iff_eq] at hm
   exact hm.2.1.2
  repeat' (first | with_reducible refine And.intro (by first | omega | (constructor <;> assumption) | (simp; done)) ?_ | simp (maxSteps := 4000000) (disch := omega) only [go_sem, ↓reduceIte, r0, r1, r2] | with_reducible refine drawT_of (id := 9) [0, 1, 2, 4, 5, 7, 8, 10, 3, 6, 9, 11, 12, 13, 14, 15, 16, 17, 18, 19] mixed (by kernel_rfl) (by simp) (fun hin => dt_of 1000 hin ?_) | with_reducible refine next_of 1000 ?_)
  have ho : ((r.ok.toNat : Nat) : Int) = r.ok := by omega
  have hN1 := numberI_fn r.ok.toNat (by omega) B4
  rw [ho] at hN1
  refine callT_f hN1 (fun _ => by simp [closed, closeds]) (by kernel_rfl) (ck_of (by kernel_rfl) (nmT_of (by kernel_rfl))) (fun hin2 s5 B5 hB5 hR5 => dt_of 1000 hin2 ?_)
  change BExt B4 B5 at hB5
  repeat' (simp (maxSteps := 4000000) (disch := omega) only [go_sem, ↓reduceIte])
  refine callT_f (numberI_fn r.gas hgas B5) (fun _ => by simp [closed, closeds]) (by kernel_rfl) (ck_of (by kernel_rfl) (nmT_of (by kernel_rfl))) (fun hin2 s6 B6 hB6 hR6 => dt_of 1000 hin2 ?_)
  change BExt B5 B6 at hB6
  repeat' (simp (maxSteps := 4000000) (disch := omega) only [go_sem, ↓reduceIte])
  refine callT_f (text_fn (blB r.F) 256 B6 _ _ (hA.ext (hB5.trans hB6)) (blB_len _) (by omega)) (fun _ => by simp [closed, closeds]) (by kernel_rfl) (ck_of (by kernel_rfl) (nmT_of (by kernel_rfl))) (fun hin2 s7 B7 hB7 hR7 => dt_of 1000 hin2 ?_)
  change BExt B6 B7 at hB7
  have hB47 := hB5.trans (hB6.trans hB7)
  have hok7 : ∀ q ∈ qs', ItAt B7 q.1 q.2 := fun q hq => (hok q hq).ext (hB3.trans (hB4.trans hB47))
  repeat' (simp (maxSteps := 4000000) (disch := omega) only [go_sem, ↓reduceIte])
  refine callT_f (list_fn qs' r.L.length B7 _ _ (hC.ext (hB4.trans hB47)) (by omega) hok7 hLl) (fun _ => by simp [closed, closeds]) (by kernel_rfl) (ck_of (by kernel_rfl) (nmT_of (by kernel_rfl))) (fun hin2 s8 B8 hB8 hR8 => dt_of 1000 hin2 ?_)
  change BExt B7 B8 at hB8
  repeat' (first | with_reducible refine And.intro (by first | omega | (simp; done)) ?_ | simp (maxSteps := 4000000) (disch := omega) only [go_sem, ↓reduceIte])
  refine callT_roc 100038 0 4 4 [] ([(txt (leB r.ok.toNat), s5), (txt (leB r.gas), s6), (txt (blB r.F), s7), (Itm.mk 1 [] (qs'.map Prod.fst), s8)].flatMap itC) en35 rfl rfl rfl (fun s => by simp [closed, closeds]) (fun B ad cap hB hc3 => list_fn [(txt (leB r.ok.toNat), s5), (txt (leB r.gas), s6), (txt (blB r.F), s7), (Itm.mk 1 [] (qs'.map Prod.fst), s8)] 4 B ad cap hc3 (by simp) (fun q hq => by
   simp only [List.mem_cons, List.not_mem_nil, or_false] at hq
   rcases hq with rfl | rfl | rfl | rfl
   ·exact hR5.ext (hB6.trans (hB7.trans (hB8.trans hB)))
   ·exact hR6.ext (hB7.trans (hB8.trans hB))
   ·exact hR7.ext (hB8.trans hB)
   ·exact hR8.ext hB) rfl) (by kernel_rfl) (ck_of (by kernel_rfl) (nmT_of (by kernel_rfl))) (fun hin2 s9 B9 hB9 hR9 => dt_of 1000 hin2 ?_)
  change BExt B8 B9 at hB9
  have hfin : Itm.mk 1 [] (List.map Prod.fst [(txt (leB r.ok.toNat), s5), (txt (leB r.gas), s6), (txt (blB r.F), s7), (Itm.mk 1 [] (qs'.map Prod.fst), s8)]) = recI r := by
   simp only [List.map_cons, List.map_nil, hbt]; rfl
  rw [hfin] at hR9
  simp only [hfin]
  repeat' (simp (maxSteps := 4000000) (disch := omega) only [go_sem, ↓reduceIte])
  refine callT_f (enc_fn hR9 (chk_rec r) hf) (fun _ => by simp [closed, closeds]) (by kernel_rfl) (ck_of (by kernel_rfl) (nmT_of (by kernel_rfl))) (fun hin2 s10 B10 hB10 hR10 => dt_of 1000 hin2 ?_)
  change BExt B9 B10 at hB10
  have hB4X := hB47.trans (hB8.trans (hB9.trans hB10))
  have hBX := hB2.trans (hB3.trans (hB4.trans hB4X))
  obtain ⟨x0, x0d, x0s⟩ := (hgC.ext hB4X).raw (j := 0) (v := .int .u8 (r.ty.toNat : Int)) rfl
  simp only [adrAt_some, Addr.add, ↓reduceIte, ofScalar] at x0 x0s
  have hty := r.ty.toNat_lt
  have xD : B10.D b := x0d
  have hmy3 : (r.ty.toNat : Int) ≤ 3 := by
   simp only [mayR, Bool.and_eq_true, decide_eq_true_eq] at hm
   exact hm.2.1.1
  repeat' (first | with_reducible refine And.intro (by first | omega | (constructor <;> assumption)) ?_ | simp (maxSteps := 4000000) (disch := omega) only [go_sem, ↓reduceIte, x0] | with_reducible refine endT_of (by kernel_rfl) (nmT_of (by kernel_rfl)) (next_of 1000 ?_) | ((first | refine condS_split (fun h => ?_) (fun h => ?_) | refine testS_split (fun h => ?_) (fun h => ?_) | refine testT_split (fun h => ?_) (fun h => ?_)) <;> (try simp only [bne_iff_ne, ne_eq, beq_iff_eq, decide_eq_true_eq, decide_eq_false_iff_not, Bool.not_eq_true, Bool.not_eq_false, Bool.not_true, Bool.not_false, bne_eq_false_iff_eq, beq_eq_false_iff_ne, Bool.and_eq_true, Bool.or_eq_true, Bool.and_eq_false_imp, Bool.or_eq_false_iff, Bool.not_eq_true', Bool.not_eq_false', Int.not_lt, Int.not_le] at h) <;> (try (exfalso; omega))))
  ·have ht0 : r.ty = 0 := UInt8.toNat_inj.1 (by rw [UInt8.toNat_zero]; omega)
   have he : encR r = form (recI r) := by rw [encR, if_pos ht0, List.nil_append]
   rw [he]
   exact ⟨s10, rfl, by simp [closed, closeds], hR10⟩
  ·have ht0 : r.ty ≠ 0 := fun h0 => by
    have : r.ty.toNat = 0 := by rw [h0]; rfl
    omega
   have he : encR r = r.ty :: form (recI r) := by rw [encR, if_neg ht0]; rfl
   rw [he]
   refine callS_f (envelope_fn r.ty (by omega) (form (recI r)) _ B10 _ _ hR10.1 rfl (by omega)) (fun _ => by simp [closed, closeds]) (fun s11 B11 hB11 hR11 => next_of 1000 ?_)
   change BExt B10 B11 at hB11
   repeat' (simp (maxSteps := 4000000) (disch := omega) only [go_sem, ↓reduceIte])
   exact ⟨hBX.trans hB11, s11, rfl, by simp [closed, closeds], hR11⟩
end Go.Proofs.Ytepabkjfnpaijaa
namespace Go.Proofs.Ytepabkjfnpaijaa
open Go RowKit Go.Ew
set_option maxHeartbeats 4000000
theorem in7 : codeIn Try.f7.ntmps (Try.f7.body.getD .skip) = true := by kernel_rfl
def r0 : RcV := ⟨0, 1, 21000, zB, none, 0, []⟩
theorem r0_may : mayR r0 = true := by kernel_rfl
theorem r0_len : (encR r0).length = 267 := by kernel_rfl
theorem r0_f : (form (recI r0)).length = 267 := by kernel_rfl
theorem r0_0 : (encR r0).getD 0 0 = 249 := by kernel_rfl
theorem r0_3 : (encR r0).getD 3 0 = 1 := by kernel_rfl
theorem r0_266 : (encR r0).getD 266 0 = 192 := by kernel_rfl
theorem callS_cast {C : Cx} {Q : Exit → X → Prop} {f : FuncId} {args args' : List EV} {dst : Option Tmp} {st : List It} {x : X} (h : args = args') (k : callS C Q f args' dst st x) : callS C Q f args dst st x := by rw [h]; exact k
theorem awake_fn (B : Base) : Does Try.prog 7 [] B (fun _ : Unit => .bool true) (fun _ _ => True) := by
 refine fn_of en7 (fun s B B' hB hR => hR) Try.func7 rfl in7 (by simp [Try.f7]) (by simp [closeds]) (fun B0 hB0 => next_of 1000 ?_)
 repeat' (simp (maxSteps := 4000000) (disch := omega) only [go_sem, ↓reduceIte, Try.f7])
 refine callS_cast (args' := [.agg (rcE r0)]) (by kernel_rfl) ?_
 have hL : LogsAt B0 r0.lA r0.L := ⟨CellsAt.nil _, by simp [r0], by simp [r0]⟩
 refine callS_f (encr_fn hL r0_may (by decide) (by rw [r0_f]; decide)) (fun _ => by simp [closed, closeds]) (fun s B2 hB2 hR => next_of 1000 ?_)
 change BExt B0 B2 at hB2
 obtain ⟨hb, hcap⟩ := hR
 have a0 := hb.ld 0 (by rw [r0_len]; decide)
 have a3 := hb.ld 3 (by rw [r0_len]; decide)
 have a266 := hb.ld 266 (by rw [r0_len]; decide)
 have b0 := hb.lS 0 (by rw [r0_len]; decide)
 have b3 := hb.lS 3 (by rw [r0_len]; decide)
 have b266 := hb.lS 266 (by rw [r0_len]; decide)
 have hd0 := hb.lD (by rw [r0_len]; decide)
 have hso := hb.ok.so (by rw [r0_len]; decide)
 rw [r0_0] at a0
 rw [r0_3] at a3
 rw [r0_266] at a266
 simp only [r0_len, bE, UInt8.reduceToNat] at *
 have hof : Does Try.prog 9 [.raw (.slice none 0 0)] B2 (fun _ : Unit => .agg (ints .u8 (fun _ => 0) 256)) (fun _ _ => True) := of_fn [] 0 B2 none 0 ⟨CellsAt.nil _, by simp, by simp⟩ rfl
 have c0 : ((249 : Nat) : Int) = 249 := rfl
 have c1 : ((1 : Nat) : Int) = 1 := rfl
 have c2 : ((192 : Nat) : Int) = 192 := rfl
 rw [c0] at a0
 rw [c1] at a3
 rw [c2] at a266
 repeat' (first | with_reducible refine And.intro (by first | omega | (constructor <;> assumption)) ?_ | simp (maxSteps := 4000000) (disch := omega) only [go_sem, ↓reduceIte, a0, a3, a266, ints_isInt, beq_self_eq_true] | refine callS_fp (hof) (by simp [closed, closeds, closeds_ints, closed_wE]) (next_of 1000 ?_))
 exact ⟨(), trivial⟩
end Go.Proofs.Ytepabkjfnpaijaa
namespace Go.Proofs.Ytepabkjfnpaijaa
open Go RowKit Go.Ew
set_option maxHeartbeats 4000000
theorem marks_body (L L' : List LogV) (h : L'.map LogV.body = L.map LogV.body) : marksL L' = marksL L := by
 have e : ∀ M : List LogV, marksL M = (M.map LogV.body).flatMap (fun b => b.1 :: (List.range b.2.1).map (fun k => (b.2.2.1.drop (32 * k)).take 32)) := fun M => by
  rw [List.flatMap_map]
  rfl
 rw [e, e, h]
end Go.Proofs.Ytepabkjfnpaijaa
