/- Part of a proof over the seat Ytepabkjfnpaijaa. -/
import Derived.Test.YtepabkjfnpaijaaKZ
import Derived.Test.YtepabkjfnpaijaaEng2
namespace Go.Proofs.Ytepabkjfnpaijaa
open Go RowKit Go.Ew
set_option maxRecDepth 100000
set_option linter.unusedSimpArgs false
set_option linter.unusedVariables false
set_option maxHeartbeats 4000000
theorem in33 : codeIn Try.f33.ntmps (Try.f33.body.getD .skip) = true := by kernel_rfl
def lst (ks : List Itm) : Itm := .mk 1 [] ks
/-- The item of a log. -/
def logI (g : LogV) : Itm := lst [txt g.ad, lst (g.tops.map txt), txt g.dt]
theorem logItem_fn {B : Base} {g : LogV} (h : g.Ok B) : Does Try.prog 33 [.agg g.ev] B (fun s : Plc => .agg (itE (logI g) s)) (fun s B' => ItAt B' (logI g) s) := by
  refine fn_of en33 (fun s B B' hB hR => hR.ext hB) Try.func33 rfl in33 (by simp [Try.f33]) ⟨logE_closed (by simp [closed]) (by simp [closed]), trivial⟩ (fun B0 hB0 => next_of 1000 ?_)
  replace h := h.ext hB0
  have f1 : ∀ u v, oneAll (logE g.ad (.raw u) (.raw v)) = (u.oneCell' && v.oneCell') := fun u v => by rw [oneAll_logE]; rfl
  have f2 : ∀ u v, (logE g.ad u v).length = 22 := fun u v => logE_len h.ha
  have f3 : ∀ u v d, (logE g.ad u v).getD 20 d = u := fun u v d => logE_20 h.ha
  have f4 : ∀ u v d, (logE g.ad u v).getD 21 d = v := fun u v d => logE_21 h.ha
  have ht := h.tb
  have hgc : ∀ n, closeds n g.ev := fun n => logE_closed (by simp [closed]) (by simp [closed])
  repeat' (first | with_reducible refine And.intro (by first | omega | assumption | (constructor <;> assumption) | (simp; done) | (simp; omega) | (simp [*]; done) | ((repeat' refine And.intro ?_ ?_) <;> first | omega | assumption | (refine SlOk.so (n := ?_) ?_ ?_; rotate_left; assumption; omega) | (simp; done) | fail) | fail) ?_ | simp (maxSteps := 4000000) (disch := omega) only [go_sem, Nat.reduceBEq, Nat.reduceAdd, Nat.reduceMul, Nat.reduceSub, Nat.reduceLT, Nat.reduceLeDiff, Int.reduceToNat, Int.reduceLT, Int.reduceLE, Int.reduceAdd, Int.reduceMul, Int.reduceSub, Int.reduceNeg, Int.reduceDiv, Int.reduceMod, Nat.reduceBNe, Nat.reduceGT, Int.reduceBEq, Int.reduceBNe, Int.reduceGT, Nat.reduceDiv, Nat.reduceMod, Nat.reducePow, Int.reducePow, gt_iff_lt, ge_iff_le, List.reduceReplicate, ↓reduceIte, Try.f33, f1, f2, f3, f4])
  refine loopU (S := Nat × Lst × List (Itm × Plc) × Base) (fun s => s.1 ≤ g.tn ∧ lOk z3 s.1 s.2.1 ∧ BExt B0 s.2.2.2 ∧ (∀ q ∈ s.2.2.1, ItAt s.2.2.2 q.1 q.2) ∧ s.2.2.1.map Prod.fst = (g.tops.take s.1).map txt)
    (fun u => ⟨[(9, .int .i64 (u.1 : Nat)), (8, .int .i64 (g.tn : Nat)), (7, .raw (.slice g.tA g.tn g.tc)), (3, lE 2 u.1 u.2.1), (2, .ptr 1 0), (1, .ptr 0 0)], 3, [(2, lO 79 (u.2.2.1.flatMap itQ) u.2.1), (1, some (.cells [.int .i64 0, .raw (.slice none 0 0), .raw (.slice none 0 0)] 79 (0, 0))), (0, some (.cells g.ev 36 (0, 0)))], u.2.2.2, []⟩)
    (fun u => g.tn - u.1) (0, none, [], B0) ⟨Nat.zero_le _, rfl, BExt.refl _, by simp, rfl⟩ (Weak.sub (weak_of (by simp [wσ, go_sem, closed, closeds, lE_closed, lE, lO, clO, hgc] <;> omega) (by simp [whs, Go.Ew.hget, go_sem, EObj.closed, closed, closeds, lE_closed, lE, lO, clO, hgc]) (by simp [*]) rfl rfl (by simp))) ?_
  rintro ⟨i, l', qs', B2⟩ ⟨hi, hl, hB2, hok, hbd⟩
  simp only at hi hl hB2 hok hbd ⊢
  replace h := h.ext hB2
  have hLl : qs'.length = i := by have := congrArg List.length hbd; simp [tops_len] at this; omega
  rcases Nat.lt_or_ge i g.tn with hi2 | hi2
  · refine next_of 1000 ?_
    simp (maxSteps := 4000000) (disch := omega) only [go_sem, Nat.reduceBEq, Nat.reduceAdd, Nat.reduceMul, Nat.reduceSub, Nat.reduceLT, Nat.reduceLeDiff, Int.reduceToNat, Int.reduceLT, Int.reduceLE, Int.reduceAdd, Int.reduceMul, Int.reduceSub, Int.reduceNeg, Int.reduceDiv, Int.reduceMod, Nat.reduceBNe, Nat.reduceGT, Int.reduceBEq, Int.reduceBNe, Int.reduceGT, Nat.reduceDiv, Nat.reduceMod, Nat.reducePow, Int.reducePow, gt_iff_lt, ge_iff_le, List.reduceReplicate, ↓reduceIte]
    repeat (with_reducible refine And.intro (by first | omega | assumption | (constructor <;> assumption) | (simp; done) | (simp; omega) | (simp [*]; done) | ((repeat' refine And.intro ?_ ?_) <;> first | omega | assumption | (refine SlOk.so (n := ?_) ?_ ?_; rotate_left; assumption; omega) | (simp; done) | fail) | fail) ?_)
    refine condS_split (fun h2 => ?_) (fun h2 => by simp at h2; omega)
    obtain ⟨m1, m2, m3, m4⟩ := h.ldT hi2
    have hq := top_len h hi2
    have hqi : g.tops[i]'(by rw [tops_len]; exact hi2) = g.top i := tops_get hi2
    obtain ⟨q, hq0⟩ : ∃ q, q = g.top i := ⟨_, rfl⟩
    rw [← hq0] at m1 hq hqi
    have q1 := bE_one q
    repeat' (first | with_reducible refine And.intro (by first | omega | assumption | (constructor <;> assumption) | (simp; done) | (simp; omega) | (simp [*]; done) | ((repeat' refine And.intro ?_ ?_) <;> first | omega | assumption | (refine SlOk.so (n := ?_) ?_ ?_; rotate_left; assumption; omega) | (simp; done) | fail) | fail) ?_ | simp (maxSteps := 4000000) (disch := omega) only [go_sem, Nat.reduceBEq, Nat.reduceAdd, Nat.reduceMul, Nat.reduceSub, Nat.reduceLT, Nat.reduceLeDiff, Int.reduceToNat, Int.reduceLT, Int.reduceLE, Int.reduceAdd, Int.reduceMul, Int.reduceSub, Int.reduceNeg, Int.reduceDiv, Int.reduceMod, Nat.reduceBNe, Nat.reduceGT, Int.reduceBEq, Int.reduceBNe, Int.reduceGT, Nat.reduceDiv, Nat.reduceMod, Nat.reducePow, Int.reducePow, gt_iff_lt, ge_iff_le, List.reduceReplicate, ↓reduceIte, Int.toNat_natCast, m1, q1, List.length_map, hq, bE_splice hq])
    refine callS_rof 3 0 32 32 [] q en37 (by simp [closeds]) rfl rfl (bE_all hq) (fun s => by simp [closed, closeds]) (fun B ad cap hB hb => text_fn q 32 B ad cap hb hq (by omega)) (fun s2 B3 hB3 hR3 => next_of 1000 ?_)
    change BExt B2 B3 at hB3
    repeat' (first | with_reducible refine And.intro (by first | omega | assumption | (constructor <;> assumption) | (simp; done) | (simp; omega) | (simp [*]; done) | ((repeat' refine And.intro ?_ ?_) <;> first | omega | assumption | (refine SlOk.so (n := ?_) ?_ ?_; rotate_left; assumption; omega) | (simp; done) | fail) | fail) ?_ | simp (maxSteps := 4000000) (disch := omega) only [go_sem, Nat.reduceBEq, Nat.reduceAdd, Nat.reduceMul, Nat.reduceSub, Nat.reduceLT, Nat.reduceLeDiff, Int.reduceToNat, Int.reduceLT, Int.reduceLE, Int.reduceAdd, Int.reduceMul, Int.reduceSub, Int.reduceNeg, Int.reduceDiv, Int.reduceMod, Nat.reduceBNe, Nat.reduceGT, Int.reduceBEq, Int.reduceBNe, Int.reduceGT, Nat.reduceDiv, Nat.reduceMod, Nat.reducePow, Int.reducePow, gt_iff_lt, ge_iff_le, List.reduceReplicate, ↓reduceIte])
    refine appendL (l := l') (xs := qs'.flatMap itQ) (zs := z3) (news := itE (txt q) s2) (T := 79) 2 i rfl Try.underlying77 (.inl ⟨_, Try.underlying77⟩) zr79 cz79 (by simp [z3]) z3_closed rfl rfl rfl hl (by rw [itsE_len, hLl]; rfl) (itsE_closed 0 _) (src_own (m := 1) rfl rfl) (by simp [z3]) rfl (by simp only [maxLen]; omega) (by rw [show Try.prog.bytesOf 79 = 56 from by79]; omega) (fun l2 hl2 => ?_)
    refine packS [5] 2 (by simp) (by simp) (by simp) (by simp) (next_of 1000 ?_)
    have hev : qs'.flatMap itQ ++ itE (txt q) s2 = (qs' ++ [(txt q, s2)]).flatMap itQ := by
      rw [List.flatMap_append, List.flatMap_singleton]; rfl
    repeat' (simp (maxSteps := 4000000) (disch := omega) only [go_sem, Nat.reduceBEq, Nat.reduceAdd, Nat.reduceMul, Nat.reduceSub, Nat.reduceLT, Nat.reduceLeDiff, Int.reduceToNat, Int.reduceLT, Int.reduceLE, Int.reduceAdd, Int.reduceMul, Int.reduceSub, Int.reduceNeg, Int.reduceDiv, Int.reduceMod, Nat.reduceBNe, Nat.reduceGT, Int.reduceBEq, Int.reduceBNe, Int.reduceGT, Nat.reduceDiv, Nat.reduceMod, Nat.reducePow, Int.reducePow, gt_iff_lt, ge_iff_le, List.reduceReplicate, ↓reduceIte, hev, okC_lE' (ks := [5]) (k := 2) (r := 5) rfl, okC, okE, okCs, pkO_some, pkO_lO (ks := [5]) (k := 2) hl2 (itsE_closed 0 (qs' ++ [(txt q, s2)])) z3_closed, pkO_none, okCs_closed (Nat.zero_le _) _ (hgc 0), rens_closed0' _ _ (hgc 0)])
    have hok' : ∀ a ∈ qs' ++ [(txt q, s2)], ItAt B3 a.1 a.2 := fun a ha => by
      rcases List.mem_append.1 ha with h3 | h3
      · exact (hok a h3).ext hB3
      · obtain rfl := List.mem_singleton.1 h3
        exact hR3
    have hbd' : (qs' ++ [(txt q, s2)]).map Prod.fst = (g.tops.take (i + 1)).map txt := by
      rw [List.take_succ_eq_append_getElem (by rw [tops_len]; exact hi2), List.map_append, List.map_append, hbd, hqi]
      rfl
    have cl2 : ∀ n, clO n (lO 79 ((qs' ++ [(txt q, s2)]).flatMap itQ) l2) = True := fun n => clO_lO hl2 (itsE_closed 0 _) z3_closed
    have cl3 : ∀ n, clO n (lO 79 (qs'.flatMap itQ ++ itQ (txt q, s2)) l2) = True := fun n => by have := cl2 n; rwa [List.flatMap_append, List.flatMap_singleton] at this
    exact ⟨(i + 1, l2, qs' ++ [(txt q, s2)], B3), ⟨hi2, hl2, hB2.trans hB3, hok', hbd'⟩, Weak.sub (weak_of (by simp [wσ, go_sem, closed, closeds, lE_closed, cl3, hgc] <;> omega) (by simp [whs, Go.Ew.hget, go_sem, EObj.closed, closed, closeds, lE_closed, cl3, hgc]) (by simp [*]) rfl rfl (by simp)), by simp only; omega⟩
  · obtain rfl : i = g.tn := by omega
    refine freezeL (xs := qs'.flatMap itQ) (T := 79) 2 g.tn rfl hl (by rw [itsE_len, hLl]; rfl) (itsE_closed 0 _) z3_closed (by simp) (fun b2 ad2 cap2 B3 hB3 hf hD hso hcell => ?_)
    change BExt B2 B3 at hB3
    have hC : CellsAt B3 ad2 (qs'.flatMap itC) := cellsAt_frz hD hso (fun h0 => by
      rw [h0] at hLl; rw [List.length_eq_zero_iff.1 hLl]; rfl) hcell (reals_itQ _ _)
    have hbt : qs'.map Prod.fst = g.tops.map txt := by rw [hbd, List.take_of_length_le (by rw [tops_len]; omega)]
    simp only [frzσ, frz, hf, frzh_cons, frzh_nil, fzO_some, EObj.frz, frzs_closed0 _ (hgc 0), frzs, Nat.reduceEqDiff, if_false, if_true, ↓reduceIte, frz_closed0]
    refine freezeS 0 (cs := g.ev) (T := 36) (fr := (0, 0)) rfl (hgc 0) (by simp) (fun b B4 hB4 hbD hbH => next_of 1000 ?_)
    change BExt B3 B4 at hB4
    have hev : reals (fun _ => 0) g.ev = g.cells := by simp [logE, LogV.cells, reals_eq, bE, bV, real, Function.comp_def]
    have hgC : CellsAt B4 (some ⟨b, 0, none⟩) g.cells := heap_cells hbD (by rw [← hev]; exact hbH)
    have hA : BytesAt B4 (some ⟨b, 0, none⟩) g.ad := by
      have := hgC.sub 0 20
      simp only [List.drop_zero, LogV.cells, List.take_append_of_le_length (show 20 ≤ (g.ad.map bV).length by simp [h.ha]), List.take_of_length_le (show (g.ad.map bV).length ≤ 20 by simp [h.ha])] at this
      exact this
    have h4 := h.ext (hB3.trans hB4)
    simp (maxSteps := 4000000) (disch := omega) only [go_sem, Nat.reduceBEq, Nat.reduceAdd, Nat.reduceMul, Nat.reduceSub, Nat.reduceLT, Nat.reduceLeDiff, Int.reduceToNat, Int.reduceLT, Int.reduceLE, Int.reduceAdd, Int.reduceMul, Int.reduceSub, Int.reduceNeg, Int.reduceDiv, Int.reduceMod, Nat.reduceBNe, Nat.reduceGT, Int.reduceBEq, Int.reduceBNe, Int.reduceGT, Nat.reduceDiv, Nat.reduceMod, Nat.reducePow, Int.reducePow, gt_iff_lt, ge_iff_le, List.reduceReplicate, ↓reduceIte]
    repeat (with_reducible refine And.intro (by first | omega | assumption | (constructor <;> assumption) | (simp; done) | (simp; omega) | (simp [*]; done) | ((repeat' refine And.intro ?_ ?_) <;> first | omega | assumption | (refine SlOk.so (n := ?_) ?_ ?_; rotate_left; assumption; omega) | (simp; done) | fail) | fail) ?_)
    refine condS_split (fun h2 => by simp at h2) (fun h2 => ?_)
    obtain ⟨r1, r2, r3⟩ := hgC.raw (j := 21) (v := .slice g.dA g.dn g.dc) (by simp [LogV.cells, List.getElem?_append, h.ha])
    have e21 : adrAt (some (⟨b, 0, none⟩ : Addr)) 21 = ⟨b, 21, none⟩ := by simp [adrAt_some, Addr.add]
    rw [e21] at r1 r3
    simp only [ofScalar] at r1
    have hdb := h.db
    repeat' (first | with_reducible refine And.intro (by first | omega | assumption | (constructor <;> assumption) | (simp; done) | (simp; omega) | (simp [*]; done) | ((repeat' refine And.intro ?_ ?_) <;> first | omega | assumption | (refine SlOk.so (n := ?_) ?_ ?_; rotate_left; assumption; omega) | (simp; done) | fail) | fail) ?_ | simp (maxSteps := 4000000) (disch := omega) only [go_sem, Nat.reduceBEq, Nat.reduceAdd, Nat.reduceMul, Nat.reduceSub, Nat.reduceLT, Nat.reduceLeDiff, Int.reduceToNat, Int.reduceLT, Int.reduceLE, Int.reduceAdd, Int.reduceMul, Int.reduceSub, Int.reduceNeg, Int.reduceDiv, Int.reduceMod, Nat.reduceBNe, Nat.reduceGT, Int.reduceBEq, Int.reduceBNe, Int.reduceGT, Nat.reduceDiv, Nat.reduceMod, Nat.reducePow, Int.reducePow, gt_iff_lt, ge_iff_le, List.reduceReplicate, ↓reduceIte, r1] | with_reducible refine drawT_of (id := 7) [0, 1, 3, 5, 6, 2, 4, 7, 8, 9, 10] mixed (by kernel_rfl) (by simp) (fun hin => dt_of 1000 hin ?_) | with_reducible refine next_of 1000 ?_)
    refine callT_f (text_fn g.ad 20 _ _ _ hA h.ha (by omega)) (fun _ => by simp [closed, closeds]) (by kernel_rfl) (ck_of (by kernel_rfl) (nmT_of (by kernel_rfl))) (fun hin2 s5 B5 hB5 hR5 => dt_of 1000 hin2 ?_)
    change BExt B4 B5 at hB5
    have hok5 : ∀ q ∈ qs', ItAt B5 q.1 q.2 := fun q hq => (hok q hq).ext (hB3.trans (hB4.trans hB5))
    repeat' (simp (maxSteps := 4000000) (disch := omega) only [go_sem, Nat.reduceBEq, Nat.reduceAdd, Nat.reduceMul, Nat.reduceSub, Nat.reduceLT, Nat.reduceLeDiff, Int.reduceToNat, Int.reduceLT, Int.reduceLE, Int.reduceAdd, Int.reduceMul, Int.reduceSub, Int.reduceNeg, Int.reduceDiv, Int.reduceMod, Nat.reduceBNe, Nat.reduceGT, Int.reduceBEq, Int.reduceBNe, Int.reduceGT, Nat.reduceDiv, Nat.reduceMod, Nat.reducePow, Int.reducePow, gt_iff_lt, ge_iff_le, List.reduceReplicate, ↓reduceIte])
    refine callT_f (list_fn qs' g.tn _ _ _ (hC.ext (hB4.trans hB5)) (by omega) hok5 hLl) (fun _ => by simp [closed, closeds]) (by kernel_rfl) (ck_of (by kernel_rfl) (nmT_of (by kernel_rfl))) (fun hin2 s6 B6 hB6 hR6 => dt_of 1000 hin2 ?_)
    change BExt B5 B6 at hB6
    repeat' (simp (maxSteps := 4000000) (disch := omega) only [go_sem, Nat.reduceBEq, Nat.reduceAdd, Nat.reduceMul, Nat.reduceSub, Nat.reduceLT, Nat.reduceLeDiff, Int.reduceToNat, Int.reduceLT, Int.reduceLE, Int.reduceAdd, Int.reduceMul, Int.reduceSub, Int.reduceNeg, Int.reduceDiv, Int.reduceMod, Nat.reduceBNe, Nat.reduceGT, Int.reduceBEq, Int.reduceBNe, Int.reduceGT, Nat.reduceDiv, Nat.reduceMod, Nat.reducePow, Int.reducePow, gt_iff_lt, ge_iff_le, List.reduceReplicate, ↓reduceIte])
    refine callT_f (text_fn g.dt g.dn _ _ _ (h4.dB.ext (hB5.trans hB6)) h.hd (by omega)) (fun _ => by simp [closed, closeds]) (by kernel_rfl) (ck_of (by kernel_rfl) (nmT_of (by kernel_rfl))) (fun hin2 s7 B7 hB7 hR7 => dt_of 1000 hin2 ?_)
    change BExt B6 B7 at hB7
    repeat' (first | with_reducible refine And.intro (by first | omega | assumption | (constructor <;> assumption) | (simp; done) | (simp; omega) | (simp [*]; done) | ((repeat' refine And.intro ?_ ?_) <;> first | omega | assumption | (refine SlOk.so (n := ?_) ?_ ?_; rotate_left; assumption; omega) | (simp; done) | fail) | fail) ?_ | simp (maxSteps := 4000000) (disch := omega) only [go_sem, Nat.reduceBEq, Nat.reduceAdd, Nat.reduceMul, Nat.reduceSub, Nat.reduceLT, Nat.reduceLeDiff, Int.reduceToNat, Int.reduceLT, Int.reduceLE, Int.reduceAdd, Int.reduceMul, Int.reduceSub, Int.reduceNeg, Int.reduceDiv, Int.reduceMod, Nat.reduceBNe, Nat.reduceGT, Int.reduceBEq, Int.reduceBNe, Int.reduceGT, Nat.reduceDiv, Nat.reduceMod, Nat.reducePow, Int.reducePow, gt_iff_lt, ge_iff_le, List.reduceReplicate, ↓reduceIte])
    refine callT_roc 100027 0 3 3 [] ([(txt g.ad, s5), (Itm.mk 1 [] (qs'.map Prod.fst), s6), (txt g.dt, s7)].flatMap itC) en35 rfl rfl rfl (fun s => by simp [closed, closeds]) (fun B ad cap hB hc3 => list_fn [(txt g.ad, s5), (Itm.mk 1 [] (qs'.map Prod.fst), s6), (txt g.dt, s7)] 3 B ad cap hc3 (by simp) (fun q hq => by
      simp only [List.mem_cons, List.not_mem_nil, or_false] at hq
      rcases hq with rfl | rfl | rfl
      · exact hR5.ext (hB6.trans (hB7.trans hB))
      · exact hR6.ext (hB7.trans hB)
      · exact hR7.ext hB) rfl) (by kernel_rfl) (ck_of (by kernel_rfl) (nmT_of (by kernel_rfl))) (fun hin2 s8 B8 hB8 hR8 => dt_of 1000 hin2 ?_)
    change BExt B7 B8 at hB8
    have hfin : Itm.mk 1 [] (List.map Prod.fst [(txt g.ad, s5), (Itm.mk 1 [] (qs'.map Prod.fst), s6), (txt g.dt, s7)]) = logI g := by
      simp only [List.map_cons, List.map_nil, hbt]; rfl
    rw [hfin] at hR8
    simp only [hfin]
    repeat' (first | simp (maxSteps := 4000000) (disch := omega) only [go_sem, Nat.reduceBEq, Nat.reduceAdd, Nat.reduceMul, Nat.reduceSub, Nat.reduceLT, Nat.reduceLeDiff, Int.reduceToNat, Int.reduceLT, Int.reduceLE, Int.reduceAdd, Int.reduceMul, Int.reduceSub, Int.reduceNeg, Int.reduceDiv, Int.reduceMod, Nat.reduceBNe, Nat.reduceGT, Int.reduceBEq, Int.reduceBNe, Int.reduceGT, Nat.reduceDiv, Nat.reduceMod, Nat.reducePow, Int.reducePow, gt_iff_lt, ge_iff_le, List.reduceReplicate, ↓reduceIte] | with_reducible refine endT_of (by kernel_rfl) (nmT_of (by kernel_rfl)) (next_of 1000 ?_))
    exact ⟨hB2.trans (hB3.trans (hB4.trans (hB5.trans (hB6.trans (hB7.trans hB8))))), s8, rfl, by simp [closed, closeds], hR8⟩
end Go.Proofs.Ytepabkjfnpaijaa

