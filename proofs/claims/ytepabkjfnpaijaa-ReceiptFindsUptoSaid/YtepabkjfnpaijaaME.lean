/- Part of a proof over the seat Ytepabkjfnpaijaa. -/
import Derived.Test.YtepabkjfnpaijaaMD
import Derived.Test.YtepabkjfnpaijaaEng3
namespace Go.Proofs.Ytepabkjfnpaijaa
open Go RowKit Go.Ew
set_option maxRecDepth 100000
set_option linter.unusedSimpArgs false
set_option linter.unusedVariables false
set_option maxHeartbeats 4000000
theorem twin_own (L : List LogV) (n : Nat) (B : Base) (ad : Option Addr) (cap : Nat) (h : LogsAt B ad L) (hn : L.length = n) :
    Owns Try.prog 10 36 z22 [.raw (.slice ad n cap)] B (fun s : Lst × List LogV => n) (fun s => logsE s.2) (fun s => s.1) (fun s B' => (∀ g ∈ s.2, g.Ok B') ∧ s.2.map LogV.body = L.map LogV.body) := by
  refine owns_of en10 (fun s B B' hB hR => ⟨fun g hg => (hR.1 g hg).ext hB, hR.2⟩) Try.func10 rfl in10 (by simp [Try.f10]) (by simp [closeds, closed, closeds_ints]) (fun B0 hB0 => next_of 1000 ?_) z22_closed
  replace h := h.ext hB0
  subst hn
  repeat' (simp (maxSteps := 4000000) (disch := omega) only [go_sem, Nat.reduceBEq, Nat.reduceAdd, Nat.reduceMul, Nat.reduceSub, Nat.reduceLT, Nat.reduceLeDiff, Int.reduceToNat, Int.reduceLT, Int.reduceLE, Int.reduceAdd, Int.reduceMul, Int.reduceSub, Int.reduceNeg, Int.reduceDiv, Int.reduceMod, Nat.reduceBNe, Nat.reduceGT, Int.reduceBEq, Int.reduceBNe, Int.reduceGT, Nat.reduceDiv, Nat.reduceMod, Nat.reducePow, Int.reducePow, gt_iff_lt, ge_iff_le, List.reduceReplicate, ↓reduceIte, Try.f10])
  refine loopU (S := Nat × Lst × List LogV × Base) (fun s => s.1 ≤ L.length ∧ lOk z22 s.1 s.2.1 ∧ BExt B0 s.2.2.2 ∧ (∀ g ∈ s.2.2.1, g.Ok s.2.2.2) ∧ s.2.2.1.map LogV.body = (L.take s.1).map LogV.body)
    (fun s => ⟨[(8, .int .i64 (s.1 : Nat)), (7, .int .i64 (L.length : Nat)), (6, .raw (.slice ad L.length cap)), (3, lE 0 s.1 s.2.1)], 1, [(0, lO 36 (logsE s.2.2.1) s.2.1)], s.2.2.2, []⟩)
    (fun s => L.length - s.1) (0, none, [], B0) ⟨Nat.zero_le _, rfl, BExt.refl _, by simp, rfl⟩ (Weak.sub (weak_of (by simp [wσ, go_sem, closed, closeds, lE_closed, lE, lO, clO] <;> omega) (by simp [whs, Go.Ew.hget, go_sem, EObj.closed, closed, closeds, lE_closed, lE, lO, clO]) (by simp [*]) rfl rfl (by simp))) ?_
  rintro ⟨i, l, L', B1⟩ ⟨hi, hl, hB1, hok, hbd⟩
  simp only at hi hl hB1 hok hbd ⊢
  have hlen := h.len
  replace h := h.ext hB1
  have hLl : L'.length = i := by have := congrArg List.length hbd; simp at this; omega
  rcases Nat.lt_or_ge i L.length with hi2 | hi2
  · refine next_of 1000 ?_
    simp (maxSteps := 4000000) (disch := omega) only [go_sem, Nat.reduceBEq, Nat.reduceAdd, Nat.reduceMul, Nat.reduceSub, Nat.reduceLT, Nat.reduceLeDiff, Int.reduceToNat, Int.reduceLT, Int.reduceLE, Int.reduceAdd, Int.reduceMul, Int.reduceSub, Int.reduceNeg, Int.reduceDiv, Int.reduceMod, Nat.reduceBNe, Nat.reduceGT, Int.reduceBEq, Int.reduceBNe, Int.reduceGT, Nat.reduceDiv, Nat.reduceMod, Nat.reducePow, Int.reducePow, gt_iff_lt, ge_iff_le, List.reduceReplicate, ↓reduceIte]
    repeat (with_reducible refine And.intro (by first | omega | assumption | (constructor <;> assumption) | (simp; done) | (simp; omega) | (simp [*]; done) | ((repeat' refine And.intro ?_ ?_) <;> first | omega | assumption | (refine SlOk.so (n := ?_) ?_ ?_; rotate_left; assumption; omega) | (simp; done) | fail) | fail) ?_)
    refine condS_split (fun h2 => ?_) (fun h2 => by simp at h2; omega)
    obtain ⟨l1, l2, l3, l4⟩ := h.ld hi2
    have h1 := h.ok _ (List.getElem_mem hi2)
    obtain ⟨g, hg⟩ : ∃ g, g = L[i] := ⟨_, rfl⟩
    rw [← hg] at l1 h1
    have ht := h1.tb
    have f1 : oneAll g.ev = true := logE_one rfl rfl
    have f2 : ∀ u v, (logE g.ad u v).length = 22 := fun u v => logE_len h1.ha
    have f3 : ∀ u v d, (logE g.ad u v).getD 20 d = u := fun u v d => logE_20 h1.ha
    have f4 : ∀ u v d, (logE g.ad u v).getD 21 d = v := fun u v d => logE_21 h1.ha
    have f5 : ∀ u v d, (logE g.ad u v).set 20 d = logE g.ad d v := fun u v d => logE_s20 h1.ha
    have f6 : ∀ u v d, (logE g.ad u v).set 21 d = logE g.ad u d := fun u v d => logE_s21 h1.ha
    repeat' (first | with_reducible refine And.intro (by first | omega | assumption | (constructor <;> assumption) | (simp; done) | (simp; omega) | (simp [*]; done) | ((repeat' refine And.intro ?_ ?_) <;> first | omega | assumption | (refine SlOk.so (n := ?_) ?_ ?_; rotate_left; assumption; omega) | (simp; done) | fail) | fail) ?_ | simp (maxSteps := 4000000) (disch := omega) only [go_sem, Nat.reduceBEq, Nat.reduceAdd, Nat.reduceMul, Nat.reduceSub, Nat.reduceLT, Nat.reduceLeDiff, Int.reduceToNat, Int.reduceLT, Int.reduceLE, Int.reduceAdd, Int.reduceMul, Int.reduceSub, Int.reduceNeg, Int.reduceDiv, Int.reduceMod, Nat.reduceBNe, Nat.reduceGT, Int.reduceBEq, Int.reduceBNe, Int.reduceGT, Nat.reduceDiv, Nat.reduceMod, Nat.reducePow, Int.reducePow, gt_iff_lt, ge_iff_le, List.reduceReplicate, ↓reduceIte, Int.toNat_natCast, l1, f1, f2, f3, f4, f5, f6, logE_splice h1.ha])
    have hx := h1.ht
    refine appF (T := 38) (m := g.tn) (cs := g.tp.map bV) 32 rfl Try.underlying34 (.inl ⟨_, Try.underlying34⟩) zr38 cz38 (ints_len _ _ _) (by omega) (closeds_ints _ _ _ _) rfl (CellsAt.src h1.tB (by omega) (by simp; omega) _) (by simp; omega) (by rw [ofS_bV]; exact bE_one _) (by simp only [maxLen]; omega) (by rw [show Try.prog.bytesOf 38 = 32 from by38]; omega) (fun tA' tc' B2 hB2 hct hcapt => ?_)
    change BExt B1 B2 at hB2
    have h1' := h1.ext hB2
    refine next_of 1000 ?_
    repeat' (first | with_reducible refine And.intro (by first | omega | assumption | (constructor <;> assumption) | (simp; done) | (simp; omega) | (simp [*]; done) | ((repeat' refine And.intro ?_ ?_) <;> first | omega | assumption | (refine SlOk.so (n := ?_) ?_ ?_; rotate_left; assumption; omega) | (simp; done) | fail) | fail) ?_ | simp (maxSteps := 4000000) (disch := omega) only [go_sem, Nat.reduceBEq, Nat.reduceAdd, Nat.reduceMul, Nat.reduceSub, Nat.reduceLT, Nat.reduceLeDiff, Int.reduceToNat, Int.reduceLT, Int.reduceLE, Int.reduceAdd, Int.reduceMul, Int.reduceSub, Int.reduceNeg, Int.reduceDiv, Int.reduceMod, Nat.reduceBNe, Nat.reduceGT, Int.reduceBEq, Int.reduceBNe, Int.reduceGT, Nat.reduceDiv, Nat.reduceMod, Nat.reducePow, Int.reducePow, gt_iff_lt, ge_iff_le, List.reduceReplicate, ↓reduceIte, f1, f2, f3, f4, f5, f6])
    have hx2 := h1.hd
    have ht2 := h1.db
    refine appF (T := 5) (m := g.dn) (cs := g.dt.map bV) 1 rfl Try.underlying23 (.inl ⟨_, Try.underlying23⟩) zr5 cz5 rfl (by omega) hz8 rfl (CellsAt.src h1'.dB (by omega) (by simp; omega) _) (by simp; omega) (by rw [ofS_bV]; exact bE_one _) (by simp only [maxLen]; omega) (by rw [show Try.prog.bytesOf 5 = 1 from by5]; omega) (fun dA' dc' B3 hB3 hcd hcapd => ?_)
    change BExt B2 B3 at hB3
    refine next_of 1000 ?_
    have f7 : ∀ u v, oneAll (logE g.ad (.raw u) (.raw v)) = (u.oneCell' && v.oneCell') := fun u v => by rw [oneAll_logE]; rfl
    have f8 : ∀ u v, List.take 22 (logE g.ad u v) = logE g.ad u v := fun u v => logE_take h1.ha
    repeat' (first | with_reducible refine And.intro (by first | omega | assumption | (constructor <;> assumption) | (simp; done) | (simp; omega) | (simp [*]; done) | ((repeat' refine And.intro ?_ ?_) <;> first | omega | assumption | (refine SlOk.so (n := ?_) ?_ ?_; rotate_left; assumption; omega) | (simp; done) | fail) | fail) ?_ | simp (maxSteps := 4000000) (disch := omega) only [go_sem, Nat.reduceBEq, Nat.reduceAdd, Nat.reduceMul, Nat.reduceSub, Nat.reduceLT, Nat.reduceLeDiff, Int.reduceToNat, Int.reduceLT, Int.reduceLE, Int.reduceAdd, Int.reduceMul, Int.reduceSub, Int.reduceNeg, Int.reduceDiv, Int.reduceMod, Nat.reduceBNe, Nat.reduceGT, Int.reduceBEq, Int.reduceBNe, Int.reduceGT, Nat.reduceDiv, Nat.reduceMod, Nat.reducePow, Int.reducePow, gt_iff_lt, ge_iff_le, List.reduceReplicate, ↓reduceIte, f2, f3, f4, f5, f6, f7, f8, logE_splice h1.ha])
    have f9 : ∀ u v, ((logE g.ad u v).drop 0).take (1 * z22.length) = logE g.ad u v := fun u v => logE_take h1.ha
    refine appendL (l := l) (xs := logsE L') (zs := z22) (T := 36) 0 i rfl Try.underlying22 (.inl ⟨_, Try.underlying22⟩) zr36 cz36 (by simp [z22]) z22_closed rfl rfl rfl hl (by rw [logsE_len hok, show L'.length = i from hLl]; rfl) (logsE_closed 0 L') (src_own rfl (f9 _ _)) (by rw [f2]; decide) (by rw [f7]; rfl) (by simp only [maxLen]; omega) (by rw [show Try.prog.bytesOf 36 = 72 from by36]; omega) (fun l2 hl2 => ?_)
    refine packS [3] 0 (by simp) (by simp) (by simp) (by simp) (next_of 1000 ?_)
    obtain ⟨g', hg'⟩ : ∃ g' : LogV, g' = ⟨g.ad, tA', g.tn, tc', g.tp, dA', g.dn, dc', g.dt⟩ := ⟨_, rfl⟩
    have hev : logsE L' ++ logE g.ad (EV.raw (Value.slice tA' g.tn tc')) (EV.raw (Value.slice dA' g.dn dc')) = logsE (L' ++ [g']) := by
      rw [hg', logsE, logsE, List.flatMap_append, List.flatMap_singleton]
    repeat' (simp (maxSteps := 4000000) (disch := omega) only [go_sem, Nat.reduceBEq, Nat.reduceAdd, Nat.reduceMul, Nat.reduceSub, Nat.reduceLT, Nat.reduceLeDiff, Int.reduceToNat, Int.reduceLT, Int.reduceLE, Int.reduceAdd, Int.reduceMul, Int.reduceSub, Int.reduceNeg, Int.reduceDiv, Int.reduceMod, Nat.reduceBNe, Nat.reduceGT, Int.reduceBEq, Int.reduceBNe, Int.reduceGT, Nat.reduceDiv, Nat.reduceMod, Nat.reducePow, Int.reducePow, gt_iff_lt, ge_iff_le, List.reduceReplicate, ↓reduceIte, hev, okC_lE' (ks := [3]) (k := 0) (r := 3) rfl, pkO_lO (ks := [3]) (k := 0) hl2 (logsE_closed 0 _) z22_closed, pkO_none])
    have hB13 := hB2.trans hB3
    have hok' : ∀ a ∈ L' ++ [g'], a.Ok B3 := fun a ha => by
      rcases List.mem_append.1 ha with h3 | h3
      · exact (hok a h3).ext hB13
      · obtain rfl := List.mem_singleton.1 h3
        rw [hg']
        exact ⟨h1.ha, h1.ht, h1.hd, hct.ext hB3, hcd, h1.tb, h1.db⟩
    have hbd' : (L' ++ [g']).map LogV.body = (L.take (i + 1)).map LogV.body := by
      rw [List.take_succ_eq_append_getElem hi2, List.map_append, List.map_append, hbd, ← hg, hg']
      rfl
    have cl2 : ∀ n, clO n (lO 36 (logsE (L' ++ [g'])) l2) = True := fun n => clO_lO hl2 (logsE_closed 0 _) z22_closed
    have cl3 : ∀ n, clO n (lO 36 (L'.flatMap LogV.ev ++ g'.ev) l2) = True := fun n => by have := cl2 n; rwa [logsE, List.flatMap_append, List.flatMap_singleton] at this
    exact ⟨(i + 1, l2, L' ++ [g'], B3), ⟨hi2, hl2, hB1.trans hB13, hok', hbd'⟩, Weak.sub (weak_of (by simp [wσ, go_sem, closed, closeds, lE_closed, cl3] <;> omega) (by simp [whs, Go.Ew.hget, go_sem, EObj.closed, closed, closeds, lE_closed, cl3]) (by simp [*]) rfl rfl (by simp)), by simp only; omega⟩
  · obtain rfl : i = L.length := by omega
    refine next_of 1000 ?_
    simp (maxSteps := 4000000) (disch := omega) only [go_sem, Nat.reduceBEq, Nat.reduceAdd, Nat.reduceMul, Nat.reduceSub, Nat.reduceLT, Nat.reduceLeDiff, Int.reduceToNat, Int.reduceLT, Int.reduceLE, Int.reduceAdd, Int.reduceMul, Int.reduceSub, Int.reduceNeg, Int.reduceDiv, Int.reduceMod, Nat.reduceBNe, Nat.reduceGT, Int.reduceBEq, Int.reduceBNe, Int.reduceGT, Nat.reduceDiv, Nat.reduceMod, Nat.reducePow, Int.reducePow, gt_iff_lt, ge_iff_le, List.reduceReplicate, ↓reduceIte]
    repeat (with_reducible refine And.intro (by first | omega | assumption | (constructor <;> assumption) | (simp; done) | (simp; omega) | (simp [*]; done) | ((repeat' refine And.intro ?_ ?_) <;> first | omega | assumption | (refine SlOk.so (n := ?_) ?_ ?_; rotate_left; assumption; omega) | (simp; done) | fail) | fail) ?_)
    refine condS_split (fun h2 => by simp at h2) (fun h2 => ?_)
    repeat' (first | simp (maxSteps := 4000000) (disch := omega) only [go_sem, Nat.reduceBEq, Nat.reduceAdd, Nat.reduceMul, Nat.reduceSub, Nat.reduceLT, Nat.reduceLeDiff, Int.reduceToNat, Int.reduceLT, Int.reduceLE, Int.reduceAdd, Int.reduceMul, Int.reduceSub, Int.reduceNeg, Int.reduceDiv, Int.reduceMod, Nat.reduceBNe, Nat.reduceGT, Int.reduceBEq, Int.reduceBNe, Int.reduceGT, Nat.reduceDiv, Nat.reduceMod, Nat.reducePow, Int.reducePow, gt_iff_lt, ge_iff_le, List.reduceReplicate, ↓reduceIte] | with_reducible refine next_of 1000 ?_)
    exact ⟨by rcases l with _ | ⟨q1, q2⟩ <;> rfl, hB1, (l, L'), rfl, rfl, ⟨hok, by rw [hbd, List.take_length]⟩, hl, logsE_closed 0 _⟩
theorem marks_body (L L' : List LogV) (h : L'.map LogV.body = L.map LogV.body) : marksL L' = marksL L := by
  have e : ∀ M : List LogV, marksL M = (M.map LogV.body).flatMap (fun b => b.1 :: (List.range b.2.1).map (fun k => (b.2.2.1.drop (32 * k)).take 32)) := fun M => by
    rw [List.flatMap_map]
    rfl
  rw [e, e, h]
theorem eqB_self (F : Blm) : eqB F F = true := by rw [eqB_iff]; intro i _; rfl
end Go.Proofs.Ytepabkjfnpaijaa
