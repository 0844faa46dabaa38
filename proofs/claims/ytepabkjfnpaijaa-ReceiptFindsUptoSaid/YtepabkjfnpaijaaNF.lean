/- Part of a proof over the seat Ytepabkjfnpaijaa. -/
import Derived.Test.YtepabkjfnpaijaaNE
namespace Go.Proofs.Ytepabkjfnpaijaa
open Go RowKit Go.Ew
set_option maxRecDepth 100000
set_option linter.unusedSimpArgs false
set_option linter.unusedVariables false
set_option maxHeartbeats 4000000
theorem insK_len (ks : List (List UInt8)) (k : List UInt8) : (insK ks k).length ≤ ks.length + 1 := by
  unfold insK; split
  · omega
  · simp
theorem foldl_ins_len (l : List (List UInt8)) : ∀ ks : List (List UInt8), (l.foldl insK ks).length ≤ ks.length + l.length := by
  induction l with
  | nil => intro ks; simp
  | cons k l ih =>
    intro ks
    have h1 := ih (insK ks k)
    have h2 := insK_len ks k
    simp only [List.foldl_cons, List.length_cons]; omega
theorem setK_len (l : List (List UInt8)) : (setK l).length ≤ l.length := by have := foldl_ins_len l []; simpa [setK] using this
theorem hasK_set (l : List (List UInt8)) (k : List UInt8) : hasK (setK l) k = hasK l k := by
  rw [Bool.eq_iff_iff]
  simp [hasK, setK_nil, setK_mem]
theorem fitB_set (g : LogV) (TT : List (List (List UInt8))) : fitB g (TT.map setK) = fitB g TT := by
  have e : fitK g (TT.map setK) TT.length = fitK g TT TT.length := by
    have h : ∀ i ∈ List.range TT.length, hasK ((TT.map setK).getD i []) (g.top i) = hasK (TT.getD i []) (g.top i) := fun i hi => by
      have hi' := List.mem_range.1 hi
      rw [getD_at (by simpa using hi'), getD_at hi', List.getElem_map, hasK_set]
    rw [Bool.eq_iff_iff]
    simp only [fitK, List.all_eq_true]
    exact ⟨fun H i hi => by rw [← h i hi]; exact H i hi, fun H i hi => by rw [h i hi]; exact H i hi⟩
  simp only [fitB, List.length_map, e]
def zM : List EV := [.raw (.map none)]
theorem zM_closed : closeds 0 zM := by simp [zM, closeds, closed]
abbrev mapsE (qs : List (Nat × List (List UInt8))) : List EV := qs.map fun q => EV.raw (.map (some q.1))
theorem mapsE_closed (n : Nat) (qs : List (Nat × List (List UInt8))) : closeds n (mapsE qs) := by
  rw [closeds_iff]; intro v hv; obtain ⟨q, _, rfl⟩ := List.mem_map.1 hv; simp [closed]
theorem reals_maps (bs : Nat → Nat) (qs : List (Nat × List (List UInt8))) : reals bs (mapsE qs) = qs.map fun q => Value.map (some q.1) := by
  rw [reals_eq, List.map_map]; rfl
theorem find_fn {B : Base} (Rs : List RcV) (A : List (List UInt8)) (T : List KsV) (q n m : Nat) (rA aA tA : Option Addr) (rc ac tc : Nat) (hR : RcsAt B rA Rs) (hA : KeysAt B 20 aA A) (hT : TopsAt B tA T) (hq : Rs.length = q) (hn : A.length = n) (hm : T.length = m)
    (hf1 : Rs.length ≤ 40) (hf2 : ∀ r ∈ Rs, r.L.length ≤ 500) :
    Does Try.prog 17 [.raw (.slice rA q rc), .raw (.slice aA n ac), .raw (.slice tA m tc)] B (fun s : Option Addr × Nat × List LogV => .raw (.slice s.1 s.2.2.length s.2.1)) (fun s B' => LogsAt B' s.1 s.2.2 ∧ s.2.2.map LogV.body = (findL A (T.map KsV.l) Rs).map LogV.body) := by
  refine fn_ofX en17 (fun s B B' hB hR => ⟨hR.1.ext hB, hR.2⟩) Try.func17 rfl in17 (by simp [Try.f17]) (by simp [closed, closeds]) (fun B0 hB0 => next_of 1000 ?_)
  replace hA := hA.ext hB0
  replace hT := hT.ext hB0
  replace hR := hR.ext hB0
  subst hq
  subst hm
  have hlR := hR.len
  have hlT := hT.len
  have hlA := hA.len
  obtain ⟨TT, hTT⟩ : ∃ TT, TT = T.map KsV.l := ⟨_, rfl⟩
  rw [← hTT]
  repeat' (simp (maxSteps := 4000000) (disch := omega) only [go_sem, Nat.reduceBEq, Nat.reduceAdd, Nat.reduceMul, Nat.reduceSub, Nat.reduceLT, Nat.reduceLeDiff, Int.reduceToNat, Int.reduceLT, Int.reduceLE, Int.reduceAdd, Int.reduceMul, Int.reduceSub, Int.reduceNeg, Int.reduceDiv, Int.reduceMod, Nat.reduceBNe, Nat.reduceGT, Int.reduceBEq, Int.reduceBNe, Int.reduceGT, Nat.reduceDiv, Nat.reduceMod, Nat.reducePow, Int.reducePow, gt_iff_lt, ge_iff_le, List.reduceReplicate, ↓reduceIte, Try.f17])
  refine callS_f (of20_fn A n B0 aA ac hA hn) (fun _ => by simp [closed]) (fun bm B1 hB1 hM => next_of 1000 ?_)
  change BExt B0 B1 at hB1
  replace hT := hT.ext hB1
  replace hR := hR.ext hB1
  repeat' (simp (maxSteps := 4000000) (disch := omega) only [go_sem, Nat.reduceBEq, Nat.reduceAdd, Nat.reduceMul, Nat.reduceSub, Nat.reduceLT, Nat.reduceLeDiff, Int.reduceToNat, Int.reduceLT, Int.reduceLE, Int.reduceAdd, Int.reduceMul, Int.reduceSub, Int.reduceNeg, Int.reduceDiv, Int.reduceMod, Nat.reduceBNe, Nat.reduceGT, Int.reduceBEq, Int.reduceBNe, Int.reduceGT, Nat.reduceDiv, Nat.reduceMod, Nat.reducePow, Int.reducePow, gt_iff_lt, ge_iff_le, List.reduceReplicate, ↓reduceIte])
  refine loopU (S := Nat × Lst × List (Nat × List (List UInt8)) × Base) (fun s => s.1 ≤ T.length ∧ lOk zM s.1 s.2.1 ∧ BExt B1 s.2.2.2 ∧ (∀ q ∈ s.2.2.1, MapAt s.2.2.2 q.1 q.2 ∧ (∀ k ∈ q.2, k.length = 32) ∧ q.2.length ≤ 1048576) ∧ s.2.2.1.map Prod.snd = (T.take s.1).map (fun t => setK t.l))
    (fun s => ⟨[(20, .int .i64 (s.1 : Nat)), (19, .int .i64 (T.length : Nat)), (18, .raw (.slice tA T.length tc)), (8, lE 0 s.1 s.2.1), (7, .raw (.map (some bm))), (0, .raw (.slice rA Rs.length rc))], 1, [(0, lO 71 (mapsE s.2.2.1) s.2.1)], s.2.2.2, []⟩)
    (fun s => T.length - s.1) (0, none, [], B1) ⟨Nat.zero_le _, rfl, BExt.refl _, by simp, rfl⟩ (Weak.sub (weak_of (by simp [wσ, go_sem, closed, closeds, lE_closed, lE, lO, clO] <;> omega) (by simp [whs, Go.Ew.hget, go_sem, EObj.closed, closed, closeds, lE_closed, lE, lO, clO]) (by simp [*]) rfl rfl (by simp))) ?_
  rintro ⟨i, l, qs, B2⟩ ⟨hi, hl, hB2, hok, hbd⟩
  simp only at hi hl hB2 hok hbd ⊢
  replace hT := hT.ext hB2
  have hLl : qs.length = i := by have := congrArg List.length hbd; simp at this; omega
  rcases Nat.lt_or_ge i T.length with hi2 | hi2
  · refine next_of 1000 ?_
    simp (maxSteps := 4000000) (disch := omega) only [go_sem, Nat.reduceBEq, Nat.reduceAdd, Nat.reduceMul, Nat.reduceSub, Nat.reduceLT, Nat.reduceLeDiff, Int.reduceToNat, Int.reduceLT, Int.reduceLE, Int.reduceAdd, Int.reduceMul, Int.reduceSub, Int.reduceNeg, Int.reduceDiv, Int.reduceMod, Nat.reduceBNe, Nat.reduceGT, Int.reduceBEq, Int.reduceBNe, Int.reduceGT, Nat.reduceDiv, Nat.reduceMod, Nat.reducePow, Int.reducePow, gt_iff_lt, ge_iff_le, List.reduceReplicate, ↓reduceIte]
    repeat (with_reducible refine And.intro (by first | omega | assumption | (constructor <;> assumption) | (simp; done) | (simp; omega) | (simp [*]; done) | ((repeat' refine And.intro ?_ ?_) <;> first | omega | assumption | (refine SlOk.so (n := ?_) ?_ ?_; rotate_left; assumption; omega) | (simp; done) | fail) | fail) ?_)
    refine condS_split (fun h2 => ?_) (fun h2 => by simp at h2; omega)
    obtain ⟨l1, l2, l3, l4⟩ := hT.ld hi2
    have hk := hT.ok _ (List.getElem_mem hi2)
    have htk : T.take (i + 1) = T.take i ++ [T[i]] := List.take_succ_eq_append_getElem hi2
    obtain ⟨q, hq0⟩ : ∃ q, q = T[i] := ⟨_, rfl⟩
    rw [← hq0] at l1 hk htk
    have hlk := hk.len
    repeat' (first | with_reducible refine And.intro (by first | omega | assumption | (constructor <;> assumption) | (simp; done) | (simp; omega) | (simp [*]; done) | ((repeat' refine And.intro ?_ ?_) <;> first | omega | assumption | (refine SlOk.so (n := ?_) ?_ ?_; rotate_left; assumption; omega) | (simp; done) | fail) | fail) ?_ | simp (maxSteps := 4000000) (disch := omega) only [go_sem, Nat.reduceBEq, Nat.reduceAdd, Nat.reduceMul, Nat.reduceSub, Nat.reduceLT, Nat.reduceLeDiff, Int.reduceToNat, Int.reduceLT, Int.reduceLE, Int.reduceAdd, Int.reduceMul, Int.reduceSub, Int.reduceNeg, Int.reduceDiv, Int.reduceMod, Nat.reduceBNe, Nat.reduceGT, Int.reduceBEq, Int.reduceBNe, Int.reduceGT, Nat.reduceDiv, Nat.reduceMod, Nat.reducePow, Int.reducePow, gt_iff_lt, ge_iff_le, List.reduceReplicate, ↓reduceIte, Int.toNat_natCast, l1])
    refine callS_f (of32_fn q.l _ B2 q.ad q.c hk rfl) (fun _ => by simp [closed]) (fun bq B3 hB3 hQ => next_of 1000 ?_)
    change BExt B2 B3 at hB3
    repeat' (first | with_reducible refine And.intro (by first | omega | assumption | (constructor <;> assumption) | (simp; done) | (simp; omega) | (simp [*]; done) | ((repeat' refine And.intro ?_ ?_) <;> first | omega | assumption | (refine SlOk.so (n := ?_) ?_ ?_; rotate_left; assumption; omega) | (simp; done) | fail) | fail) ?_ | simp (maxSteps := 4000000) (disch := omega) only [go_sem, Nat.reduceBEq, Nat.reduceAdd, Nat.reduceMul, Nat.reduceSub, Nat.reduceLT, Nat.reduceLeDiff, Int.reduceToNat, Int.reduceLT, Int.reduceLE, Int.reduceAdd, Int.reduceMul, Int.reduceSub, Int.reduceNeg, Int.reduceDiv, Int.reduceMod, Nat.reduceBNe, Nat.reduceGT, Int.reduceBEq, Int.reduceBNe, Int.reduceGT, Nat.reduceDiv, Nat.reduceMod, Nat.reducePow, Int.reducePow, gt_iff_lt, ge_iff_le, List.reduceReplicate, ↓reduceIte])
    refine appendL (l := l) (xs := mapsE qs) (zs := zM) (news := [.raw (.map (some bq))]) (T := 71) 0 i rfl Try.underlying69 (.inl ⟨_, Try.underlying69⟩) zr71 cz71 (by simp [zM]) zM_closed rfl rfl rfl hl (by simp [zM, hLl]) (mapsE_closed 0 qs) (src_own (m := 1) rfl rfl) (by simp [zM]) rfl (by simp only [maxLen]; omega) (by rw [show Try.prog.bytesOf 71 = 8 from by71]; omega) (fun l2 hl2 => ?_)
    refine packS [2] 0 (by simp) (by simp) (by simp) (by simp) (next_of 1000 ?_)
    have hev : mapsE qs ++ [EV.raw (.map (some bq))] = mapsE (qs ++ [(bq, setK q.l)]) := by simp
    repeat' (simp (maxSteps := 4000000) (disch := omega) only [go_sem, Nat.reduceBEq, Nat.reduceAdd, Nat.reduceMul, Nat.reduceSub, Nat.reduceLT, Nat.reduceLeDiff, Int.reduceToNat, Int.reduceLT, Int.reduceLE, Int.reduceAdd, Int.reduceMul, Int.reduceSub, Int.reduceNeg, Int.reduceDiv, Int.reduceMod, Nat.reduceBNe, Nat.reduceGT, Int.reduceBEq, Int.reduceBNe, Int.reduceGT, Nat.reduceDiv, Nat.reduceMod, Nat.reducePow, Int.reducePow, gt_iff_lt, ge_iff_le, List.reduceReplicate, ↓reduceIte, hev, okC_lE' (ks := [2]) (k := 0) (r := 2) rfl, pkO_lO (ks := [2]) (k := 0) hl2 (mapsE_closed 0 _) zM_closed, pkO_none])
    have hok' : ∀ a ∈ qs ++ [(bq, setK q.l)], MapAt B3 a.1 a.2 ∧ (∀ k ∈ a.2, k.length = 32) ∧ a.2.length ≤ 1048576 := fun a ha => by
      rcases List.mem_append.1 ha with h3 | h3
      · exact ⟨(hok a h3).1.ext hB3, (hok a h3).2⟩
      · obtain rfl := List.mem_singleton.1 h3
        have := setK_len q.l
        exact ⟨hQ, fun k hk' => hk.ok k (setK_mem.1 hk'), by simp only; omega⟩
    have hbd' : (qs ++ [(bq, setK q.l)]).map Prod.snd = (T.take (i + 1)).map (fun t => setK t.l) := by rw [htk, List.map_append, List.map_append, hbd]; rfl
    have cl2 : ∀ n, clO n (lO 71 (mapsE (qs ++ [(bq, setK q.l)])) l2) = True := fun n => clO_lO hl2 (mapsE_closed 0 _) zM_closed
    have cl3 : ∀ n, clO n (lO 71 (mapsE qs ++ [EV.raw (.map (some bq))]) l2) = True := fun n => by have := cl2 n; rwa [← hev] at this
    exact ⟨(i + 1, l2, qs ++ [(bq, setK q.l)], B3), ⟨hi2, hl2, hB2.trans hB3, hok', hbd'⟩, Weak.sub (weak_of (by simp [wσ, go_sem, closed, closeds, lE_closed, cl3] <;> omega) (by simp [whs, Go.Ew.hget, go_sem, EObj.closed, closed, closeds, lE_closed, cl3]) (by simp [*]) rfl rfl (by simp)), by simp only; omega⟩
  · obtain rfl : i = T.length := by omega
    refine freezeL (xs := mapsE qs) (T := 71) 0 T.length rfl hl (by simp [zM, hLl]) (mapsE_closed 0 qs) zM_closed (by simp) (fun b2 wA wc B3 hB3 hf2' hD hso hcell => ?_)
    change BExt B2 B3 at hB3
    have hC : CellsAt B3 wA (qs.map fun q => Value.map (some q.1)) := cellsAt_frz hD hso (fun h0 => by
      rw [h0] at hLl; rw [List.length_eq_zero_iff.1 hLl]; rfl) hcell (reals_maps _ _)
    rw [List.take_length] at hbd
    have hS : SetsAt B3 wA qs := ⟨hC, fun a ha => ⟨(hok a ha).1.ext hB3, (hok a ha).2⟩, by omega⟩
    have hqs : qs.map Prod.snd = TT.map setK := by rw [hbd, hTT, List.map_map]; rfl
    have hB13 := hB2.trans hB3
    have hM3 := hM.ext hB13
    have hR3 := hR.ext hB13
    have hAll20 : ∀ k ∈ setK A, k.length = 20 := fun k hk => hA.ok k (setK_mem.1 hk)
    have hlS : (setK A).length ≤ 1048576 := by have := setK_len A; omega
    simp only [frzσ, frz, hf2', frzh_cons, frzh_nil, Nat.reduceEqDiff, if_false, if_true, ↓reduceIte]
    refine next_of 1000 ?_
    simp (maxSteps := 4000000) (disch := omega) only [go_sem, Nat.reduceBEq, Nat.reduceAdd, Nat.reduceMul, Nat.reduceSub, Nat.reduceLT, Nat.reduceLeDiff, Int.reduceToNat, Int.reduceLT, Int.reduceLE, Int.reduceAdd, Int.reduceMul, Int.reduceSub, Int.reduceNeg, Int.reduceDiv, Int.reduceMod, Nat.reduceBNe, Nat.reduceGT, Int.reduceBEq, Int.reduceBNe, Int.reduceGT, Nat.reduceDiv, Nat.reduceMod, Nat.reducePow, Int.reducePow, gt_iff_lt, ge_iff_le, List.reduceReplicate, ↓reduceIte]
    repeat (with_reducible refine And.intro (by first | omega | assumption | (constructor <;> assumption) | (simp; done) | (simp; omega) | (simp [*]; done) | ((repeat' refine And.intro ?_ ?_) <;> first | omega | assumption | (refine SlOk.so (n := ?_) ?_ ?_; rotate_left; assumption; omega) | (simp; done) | fail) | fail) ?_)
    refine condS_split (fun h2 => by simp at h2) (fun h2 => ?_)
    repeat' (first | simp (maxSteps := 4000000) (disch := omega) only [go_sem, Nat.reduceBEq, Nat.reduceAdd, Nat.reduceMul, Nat.reduceSub, Nat.reduceLT, Nat.reduceLeDiff, Int.reduceToNat, Int.reduceLT, Int.reduceLE, Int.reduceAdd, Int.reduceMul, Int.reduceSub, Int.reduceNeg, Int.reduceDiv, Int.reduceMod, Nat.reduceBNe, Nat.reduceGT, Int.reduceBEq, Int.reduceBNe, Int.reduceGT, Nat.reduceDiv, Nat.reduceMod, Nat.reducePow, Int.reducePow, gt_iff_lt, ge_iff_le, List.reduceReplicate, ↓reduceIte] | with_reducible refine next_of 1000 ?_)
    refine loopU (S := Nat × Lst × List LogV × Base) (fun s => s.1 ≤ Rs.length ∧ lOk z22 s.2.2.1.length s.2.1 ∧ BExt B3 s.2.2.2 ∧ (∀ g ∈ s.2.2.1, g.Ok s.2.2.2) ∧ s.2.2.1.map LogV.body = (findL A TT (Rs.take s.1)).map LogV.body)
      (fun s => ⟨[(32, .int .i64 (s.1 : Nat)), (31, .int .i64 (Rs.length : Nat)), (30, .raw (.slice rA Rs.length rc)), (11, lE 0 s.2.2.1.length s.2.1), (8, .raw (.slice wA T.length wc)), (7, .raw (.map (some bm)))], 1, [(0, lO 36 (logsE s.2.2.1) s.2.1)], s.2.2.2, []⟩)
      (fun s => Rs.length - s.1) (0, none, [], B3) ⟨Nat.zero_le _, rfl, BExt.refl _, by simp, rfl⟩ (Weak.sub (weak_of (by simp [wσ, go_sem, closed, closeds, lE_closed, lE, lO, clO] <;> omega) (by simp [whs, Go.Ew.hget, go_sem, EObj.closed, closed, closeds, lE_closed, lE, lO, clO]) (by simp [*]) rfl rfl (by simp))) ?_
    rintro ⟨i, l, L', B4⟩ ⟨hi, hl, hB4, hok, hbd⟩
    simp only at hi hl hB4 hok hbd ⊢
    have hR4 := hR3.ext hB4
    rcases Nat.lt_or_ge i Rs.length with hi2 | hi2
    · refine next_of 1000 ?_
      simp (maxSteps := 4000000) (disch := omega) only [go_sem, Nat.reduceBEq, Nat.reduceAdd, Nat.reduceMul, Nat.reduceSub, Nat.reduceLT, Nat.reduceLeDiff, Int.reduceToNat, Int.reduceLT, Int.reduceLE, Int.reduceAdd, Int.reduceMul, Int.reduceSub, Int.reduceNeg, Int.reduceDiv, Int.reduceMod, Nat.reduceBNe, Nat.reduceGT, Int.reduceBEq, Int.reduceBNe, Int.reduceGT, Nat.reduceDiv, Nat.reduceMod, Nat.reducePow, Int.reducePow, gt_iff_lt, ge_iff_le, List.reduceReplicate, ↓reduceIte]
      repeat (with_reducible refine And.intro (by first | omega | assumption | (constructor <;> assumption) | (simp; done) | (simp; omega) | (simp [*]; done) | ((repeat' refine And.intro ?_ ?_) <;> first | omega | assumption | (refine SlOk.so (n := ?_) ?_ ?_; rotate_left; assumption; omega) | (simp; done) | fail) | fail) ?_)
      refine condS_split (fun h2 => ?_) (fun h2 => by simp at h2; omega)
      obtain ⟨l1, l2, l3, l4⟩ := hR4.ld hi2
      have hL := hR4.ok _ (List.getElem_mem hi2)
      have hf := hf2 _ (List.getElem_mem hi2)
      have htk := findL_take A TT hi2
      have hFl : (findL A TT (Rs.take i)).length ≤ 20000 := by
        have h1 := findL_le A TT (Rs := Rs.take i) (fun r hr => hf2 r (List.mem_of_mem_take hr))
        have h2 : (Rs.take i).length ≤ 40 := by simp; omega
        omega
      obtain ⟨F, hF⟩ : ∃ F, F = findL A TT (Rs.take i) := ⟨_, rfl⟩
      rw [← hF] at htk hFl hbd
      obtain ⟨r, hr⟩ : ∃ r, r = Rs[i] := ⟨_, rfl⟩
      rw [← hr] at l1 hL hf htk
      have hlen := hL.len
      have cl0 : ∀ n, clO n (lO 36 (logsE L') l) = True := fun n => clO_lO hl (logsE_closed 0 _) z22_closed
      repeat' (first | with_reducible refine And.intro (by first | omega | assumption | (constructor <;> assumption) | (simp; done) | (simp; omega) | (simp [*]; done) | ((repeat' refine And.intro ?_ ?_) <;> first | omega | assumption | (refine SlOk.so (n := ?_) ?_ ?_; rotate_left; assumption; omega) | (simp; done) | fail) | fail) ?_ | simp (maxSteps := 4000000) (disch := omega) only [go_sem, Nat.reduceBEq, Nat.reduceAdd, Nat.reduceMul, Nat.reduceSub, Nat.reduceLT, Nat.reduceLeDiff, Int.reduceToNat, Int.reduceLT, Int.reduceLE, Int.reduceAdd, Int.reduceMul, Int.reduceSub, Int.reduceNeg, Int.reduceDiv, Int.reduceMod, Nat.reduceBNe, Nat.reduceGT, Int.reduceBEq, Int.reduceBNe, Int.reduceGT, Nat.reduceDiv, Nat.reduceMod, Nat.reducePow, Int.reducePow, gt_iff_lt, ge_iff_le, List.reduceReplicate, ↓reduceIte, Int.toNat_natCast, l1, rc_len, rc_one, rc_splice, rc_259])
      refine loopU (S := Nat × Lst × List LogV × Base) (fun s => s.1 ≤ r.L.length ∧ lOk z22 s.2.2.1.length s.2.1 ∧ BExt B4 s.2.2.2 ∧ (∀ g ∈ s.2.2.1, g.Ok s.2.2.2) ∧ s.2.2.1.map LogV.body = (F ++ (r.L.take s.1).filter (lookB A TT)).map LogV.body)
        (fun s => ⟨[(39, .int .i64 (s.1 : Nat)), (38, .int .i64 (r.L.length : Nat)), (37, .raw (.slice r.lA r.L.length r.lc)), (32, .int .i64 (i : Nat)), (31, .int .i64 (Rs.length : Nat)), (30, .raw (.slice rA Rs.length rc)), (11, lE 0 s.2.2.1.length s.2.1), (8, .raw (.slice wA T.length wc)), (7, .raw (.map (some bm)))], 1, [(0, lO 36 (logsE s.2.2.1) s.2.1)], s.2.2.2, []⟩)
        (fun s => r.L.length - s.1) (0, l, L', B4) ⟨Nat.zero_le _, hl, BExt.refl _, hok, by simpa using hbd⟩ (Weak.sub (weak_of (by simp [wσ, go_sem, closed, closeds, lE_closed, cl0] <;> omega) (by simp [whs, Go.Ew.hget, go_sem, EObj.closed, closed, closeds, lE_closed, cl0]) (by simp [*]) rfl rfl (by simp))) ?_
      rintro ⟨j, l, L', B5⟩ ⟨hj, hl, hB5, hok, hbd⟩
      simp only at hj hl hB5 hok hbd ⊢
      replace hL := hL.ext hB5
      rcases Nat.lt_or_ge j r.L.length with hj2 | hj2
      · refine next_of 1000 ?_
        simp (maxSteps := 4000000) (disch := omega) only [go_sem, Nat.reduceBEq, Nat.reduceAdd, Nat.reduceMul, Nat.reduceSub, Nat.reduceLT, Nat.reduceLeDiff, Int.reduceToNat, Int.reduceLT, Int.reduceLE, Int.reduceAdd, Int.reduceMul, Int.reduceSub, Int.reduceNeg, Int.reduceDiv, Int.reduceMod, Nat.reduceBNe, Nat.reduceGT, Int.reduceBEq, Int.reduceBNe, Int.reduceGT, Nat.reduceDiv, Nat.reduceMod, Nat.reducePow, Int.reducePow, gt_iff_lt, ge_iff_le, List.reduceReplicate, ↓reduceIte]
        repeat (with_reducible refine And.intro (by first | omega | assumption | (constructor <;> assumption) | (simp; done) | (simp; omega) | (simp [*]; done) | ((repeat' refine And.intro ?_ ?_) <;> first | omega | assumption | (refine SlOk.so (n := ?_) ?_ ?_; rotate_left; assumption; omega) | (simp; done) | fail) | fail) ?_)
        refine condS_split (fun h2 => ?_) (fun h2 => by simp at h2; omega)
        obtain ⟨n1, n2, n3, n4⟩ := hL.ld hj2
        have h1 := hL.ok _ (List.getElem_mem hj2)
        have hft := filter_take (p := lookB A TT) hj2
        have hGl : L'.length ≤ 20500 := by
          have h3 := List.length_filter_le (lookB A TT) (r.L.take j)
          have h4 : (r.L.take j).length ≤ 500 := by simp; omega
          have h5 := congrArg List.length hbd
          simp only [List.length_map, List.length_append] at h5
          omega
        have happ : F ++ (r.L.take (j + 1)).filter (lookB A TT) = (F ++ (r.L.take j).filter (lookB A TT)) ++ (if lookB A TT r.L[j] then [r.L[j]] else []) := by rw [hft, List.append_assoc]
        obtain ⟨g, hg⟩ : ∃ g, g = r.L[j] := ⟨_, rfl⟩
        rw [← hg] at n1 h1 happ
        have hB35 := hB4.trans hB5
        have f1 : oneAll g.ev = true := logE_one rfl rfl
        have f2 : ∀ u v, (logE g.ad u v).length = 22 := fun u v => logE_len h1.ha
        have f3 : ∀ u v d, (logE g.ad u v).getD 20 d = u := fun u v d => logE_20 h1.ha
        have f4 : ∀ u v d, (logE g.ad u v).getD 21 d = v := fun u v d => logE_21 h1.ha
        have f5 : ∀ u v d, (logE g.ad u v).set 20 d = logE g.ad d v := fun u v d => logE_s20 h1.ha
        have f6 : ∀ u v d, (logE g.ad u v).set 21 d = logE g.ad u d := fun u v d => logE_s21 h1.ha
        have f8 : ∀ u v, List.take 22 (logE g.ad u v) = logE g.ad u v := fun u v => logE_take h1.ha
        have f10 : ∀ u v, List.take 20 (logE g.ad u v) = g.ad.map bE := fun u v => by have := logE_ad (u := u) (v := v) h1.ha; simpa using this
        have hhas := has20_fn (setK A) bm B5 g.ad (hM3.ext hB35) hAll20 hlS h1.ha
        rw [hasK_set] at hhas
        have hfits := fits_fn g qs T.length wA wc h1 (hS.ext hB35) hLl
        rw [hqs, fitB_set] at hfits
        have cl0 : ∀ n, clO n (lO 36 (logsE L') l) = True := fun n => clO_lO hl (logsE_closed 0 _) z22_closed
        have ht := h1.tb
        have hx := h1.ht
        have hx2 := h1.hd
        have ht2 := h1.db
        cases hb1 : hasK A g.ad with
        | false =>
          rw [hb1] at hhas
          have hno : lookB A TT g = false := by rw [lookB, hb1]; rfl
          rw [hno, if_neg (by simp), List.append_nil] at happ
          repeat' (first | with_reducible refine And.intro (by first | omega | assumption | (constructor <;> assumption) | (simp; done) | (simp; omega) | (simp [*]; done) | ((repeat' refine And.intro ?_ ?_) <;> first | omega | assumption | (refine SlOk.so (n := ?_) ?_ ?_; rotate_left; assumption; omega) | (simp; done) | fail) | fail) ?_ | simp (maxSteps := 4000000) (disch := omega) only [go_sem, Nat.reduceBEq, Nat.reduceAdd, Nat.reduceMul, Nat.reduceSub, Nat.reduceLT, Nat.reduceLeDiff, Int.reduceToNat, Int.reduceLT, Int.reduceLE, Int.reduceAdd, Int.reduceMul, Int.reduceSub, Int.reduceNeg, Int.reduceDiv, Int.reduceMod, Nat.reduceBNe, Nat.reduceGT, Int.reduceBEq, Int.reduceBNe, Int.reduceGT, Nat.reduceDiv, Nat.reduceMod, Nat.reducePow, Int.reducePow, gt_iff_lt, ge_iff_le, List.reduceReplicate, ↓reduceIte, Int.toNat_natCast, n1, f1, f2, f8, f10, logE_splice h1.ha] | refine callS_fp (hhas) (by simp [closed, closeds, closeds_ints, closed_wE]) (next_of 1000 ?_))
          exact ⟨(j + 1, l, L', B5), ⟨hj2, hl, hB5, hok, by simp only; rw [happ]; exact hbd⟩, Weak.sub (weak_of (by simp [wσ, go_sem, closed, closeds, lE_closed, cl0] <;> omega) (by simp [whs, Go.Ew.hget, go_sem, EObj.closed, closed, closeds, lE_closed, cl0]) (by simp [*]) rfl rfl (by simp)), by simp only; omega⟩
        | true =>
          rw [hb1] at hhas
          cases hb2 : fitB g TT with
          | false =>
            rw [hb2] at hfits
            have hno : lookB A TT g = false := by rw [lookB, hb2, Bool.and_false]
            rw [hno, if_neg (by simp), List.append_nil] at happ
            repeat' (first | with_reducible refine And.intro (by first | omega | assumption | (constructor <;> assumption) | (simp; done) | (simp; omega) | (simp [*]; done) | ((repeat' refine And.intro ?_ ?_) <;> first | omega | assumption | (refine SlOk.so (n := ?_) ?_ ?_; rotate_left; assumption; omega) | (simp; done) | fail) | fail) ?_ | simp (maxSteps := 4000000) (disch := omega) only [go_sem, Nat.reduceBEq, Nat.reduceAdd, Nat.reduceMul, Nat.reduceSub, Nat.reduceLT, Nat.reduceLeDiff, Int.reduceToNat, Int.reduceLT, Int.reduceLE, Int.reduceAdd, Int.reduceMul, Int.reduceSub, Int.reduceNeg, Int.reduceDiv, Int.reduceMod, Nat.reduceBNe, Nat.reduceGT, Int.reduceBEq, Int.reduceBNe, Int.reduceGT, Nat.reduceDiv, Nat.reduceMod, Nat.reducePow, Int.reducePow, gt_iff_lt, ge_iff_le, List.reduceReplicate, ↓reduceIte, Int.toNat_natCast, n1, f1, f2, f8, f10, logE_splice h1.ha] | refine callS_fp (hhas) (by simp [closed, closeds, closeds_ints, closed_wE]) (next_of 1000 ?_) | refine callS_fp (hfits) (by simp [closed, closeds, closeds_ints, closed_wE]) (next_of 1000 ?_))
            exact ⟨(j + 1, l, L', B5), ⟨hj2, hl, hB5, hok, by simp only; rw [happ]; exact hbd⟩, Weak.sub (weak_of (by simp [wσ, go_sem, closed, closeds, lE_closed, cl0] <;> omega) (by simp [whs, Go.Ew.hget, go_sem, EObj.closed, closed, closeds, lE_closed, cl0]) (by simp [*]) rfl rfl (by simp)), by simp only; omega⟩
          | true =>
            rw [hb2] at hfits
            have hyes : lookB A TT g = true := by rw [lookB, hb1, hb2]; rfl
            rw [hyes, if_pos rfl] at happ
            repeat' (first | with_reducible refine And.intro (by first | omega | assumption | (constructor <;> assumption) | (simp; done) | (simp; omega) | (simp [*]; done) | ((repeat' refine And.intro ?_ ?_) <;> first | omega | assumption | (refine SlOk.so (n := ?_) ?_ ?_; rotate_left; assumption; omega) | (simp; done) | fail) | fail) ?_ | simp (maxSteps := 4000000) (disch := omega) only [go_sem, Nat.reduceBEq, Nat.reduceAdd, Nat.reduceMul, Nat.reduceSub, Nat.reduceLT, Nat.reduceLeDiff, Int.reduceToNat, Int.reduceLT, Int.reduceLE, Int.reduceAdd, Int.reduceMul, Int.reduceSub, Int.reduceNeg, Int.reduceDiv, Int.reduceMod, Nat.reduceBNe, Nat.reduceGT, Int.reduceBEq, Int.reduceBNe, Int.reduceGT, Nat.reduceDiv, Nat.reduceMod, Nat.reducePow, Int.reducePow, gt_iff_lt, ge_iff_le, List.reduceReplicate, ↓reduceIte, Int.toNat_natCast, n1, f1, f2, f3, f4, f5, f6, f8, f10, logE_splice h1.ha] | with_reducible refine drawT_of (id := 16) [0, 1, 3, 4, 2, 6, 5, 7, 8, 9] mixed (by kernel_rfl) (by simp) (fun hin => dt_of 1000 hin ?_) | refine callS_fp (hhas) (by simp [closed, closeds, closeds_ints, closed_wE]) (next_of 1000 ?_) | refine callS_fp (hfits) (by simp [closed, closeds, closeds_ints, closed_wE]) (next_of 1000 ?_))
            refine appFT (T := 38) (m := g.tn) (cs := g.tp.map bV) 32 [] rfl Try.underlying34 (.inl ⟨_, Try.underlying34⟩) zr38 cz38 (ints_len _ _ _) (by omega) (closeds_ints _ _ _ _) (fun B hs hB _ => CellsAt.src (h1.tB.ext hB) (by omega) (by simp; omega) _) (by simp; omega) (by rw [ofS_bV]; exact bE_one _) (by simp only [maxLen]; omega) (by rw [show Try.prog.bytesOf 38 = 32 from by38]; omega) (by kernel_rfl) (ck_of (by kernel_rfl) (nmT_of (by kernel_rfl))) (fun hin3 s6 B6 hB6 hct hcapt => dt_of 1000 hin3 ?_)
            change BExt B5 B6 at hB6
            have h1' := h1.ext hB6
            repeat' (first | with_reducible refine And.intro (by first | omega | assumption | (constructor <;> assumption) | (simp; done) | (simp; omega) | (simp [*]; done) | ((repeat' refine And.intro ?_ ?_) <;> first | omega | assumption | (refine SlOk.so (n := ?_) ?_ ?_; rotate_left; assumption; omega) | (simp; done) | fail) | fail) ?_ | simp (maxSteps := 4000000) (disch := omega) only [go_sem, Nat.reduceBEq, Nat.reduceAdd, Nat.reduceMul, Nat.reduceSub, Nat.reduceLT, Nat.reduceLeDiff, Int.reduceToNat, Int.reduceLT, Int.reduceLE, Int.reduceAdd, Int.reduceMul, Int.reduceSub, Int.reduceNeg, Int.reduceDiv, Int.reduceMod, Nat.reduceBNe, Nat.reduceGT, Int.reduceBEq, Int.reduceBNe, Int.reduceGT, Nat.reduceDiv, Nat.reduceMod, Nat.reducePow, Int.reducePow, gt_iff_lt, ge_iff_le, List.reduceReplicate, ↓reduceIte, f1, f2, f3, f4, f5, f6])
            refine appFT (T := 5) (m := g.dn) (cs := g.dt.map bV) 1 [] rfl Try.underlying23 (.inl ⟨_, Try.underlying23⟩) zr5 cz5 rfl (by omega) hz8 (fun B hs hB _ => CellsAt.src (h1'.dB.ext hB) (by omega) (by simp; omega) _) (by simp; omega) (by rw [ofS_bV]; exact bE_one _) (by simp only [maxLen]; omega) (by rw [show Try.prog.bytesOf 5 = 1 from by5]; omega) (by kernel_rfl) (ck_of (by kernel_rfl) (nmT_of (by kernel_rfl))) (fun hin4 s7 B7 hB7 hcd hcapd => dt_of 1000 hin4 ?_)
            change BExt B6 B7 at hB7
            have f7 : ∀ u v, oneAll (logE g.ad (.raw u) (.raw v)) = (u.oneCell' && v.oneCell') := fun u v => by rw [oneAll_logE]; rfl
            repeat' (first | with_reducible refine And.intro (by first | omega | assumption | (constructor <;> assumption) | (simp; done) | (simp; omega) | (simp [*]; done) | ((repeat' refine And.intro ?_ ?_) <;> first | omega | assumption | (refine SlOk.so (n := ?_) ?_ ?_; rotate_left; assumption; omega) | (simp; done) | fail) | fail) ?_ | simp (maxSteps := 4000000) (disch := omega) only [go_sem, Nat.reduceBEq, Nat.reduceAdd, Nat.reduceMul, Nat.reduceSub, Nat.reduceLT, Nat.reduceLeDiff, Int.reduceToNat, Int.reduceLT, Int.reduceLE, Int.reduceAdd, Int.reduceMul, Int.reduceSub, Int.reduceNeg, Int.reduceDiv, Int.reduceMod, Nat.reduceBNe, Nat.reduceGT, Int.reduceBEq, Int.reduceBNe, Int.reduceGT, Nat.reduceDiv, Nat.reduceMod, Nat.reducePow, Int.reducePow, gt_iff_lt, ge_iff_le, List.reduceReplicate, ↓reduceIte, f1, f2, f3, f4, f5, f6, f7, f8, logE_splice h1.ha] | with_reducible refine endT_of (by kernel_rfl) (nmT_of (by kernel_rfl)) (next_of 1000 ?_))
            have f9 : ∀ u v, ((logE g.ad u v).drop 0).take (1 * z22.length) = logE g.ad u v := fun u v => logE_take h1.ha
            refine appendL (l := l) (xs := logsE L') (zs := z22) (T := 36) 0 L'.length rfl Try.underlying22 (.inl ⟨_, Try.underlying22⟩) zr36 cz36 (by simp [z22]) z22_closed rfl rfl rfl hl (by rw [logsE_len hok]; rfl) (logsE_closed 0 L') (src_own rfl (f9 _ _)) (by rw [f2]; decide) (by rw [f7]; rfl) (by simp only [maxLen]; omega) (by rw [show Try.prog.bytesOf 36 = 72 from by36]; omega) (fun l2 hl2 => ?_)
            refine packS [200001] 0 (by simp) (by simp) (by simp) (by simp) (next_of 1000 ?_)
            obtain ⟨g', hg'⟩ : ∃ g' : LogV, g' = ⟨g.ad, s6.1, g.tn, s6.2, g.tp, s7.1, g.dn, s7.2, g.dt⟩ := ⟨_, rfl⟩
            have hev : logsE L' ++ logE g.ad (EV.raw (Value.slice s6.1 g.tn s6.2)) (EV.raw (Value.slice s7.1 g.dn s7.2)) = logsE (L' ++ [g']) := by
              rw [hg', logsE, logsE, List.flatMap_append, List.flatMap_singleton]
            repeat' (simp (maxSteps := 4000000) (disch := omega) only [go_sem, Nat.reduceBEq, Nat.reduceAdd, Nat.reduceMul, Nat.reduceSub, Nat.reduceLT, Nat.reduceLeDiff, Int.reduceToNat, Int.reduceLT, Int.reduceLE, Int.reduceAdd, Int.reduceMul, Int.reduceSub, Int.reduceNeg, Int.reduceDiv, Int.reduceMod, Nat.reduceBNe, Nat.reduceGT, Int.reduceBEq, Int.reduceBNe, Int.reduceGT, Nat.reduceDiv, Nat.reduceMod, Nat.reducePow, Int.reducePow, gt_iff_lt, ge_iff_le, List.reduceReplicate, ↓reduceIte, hev, okC_lE' (ks := [200001]) (k := 0) (r := 200001) rfl, pkO_lO (ks := [200001]) (k := 0) hl2 (logsE_closed 0 _) z22_closed, pkO_none])
            have hB57 := hB6.trans hB7
            have hok' : ∀ a ∈ L' ++ [g'], a.Ok B7 := fun a ha => by
              rcases List.mem_append.1 ha with h3 | h3
              · exact (hok a h3).ext hB57
              · obtain rfl := List.mem_singleton.1 h3
                rw [hg']
                exact ⟨h1.ha, h1.ht, h1.hd, hct.ext hB7, hcd, h1.tb, h1.db⟩
            have hbd' : (L' ++ [g']).map LogV.body = (F ++ (r.L.take (j + 1)).filter (lookB A TT)).map LogV.body := by
              rw [happ, List.map_append, List.map_append, hbd, hg']
              rfl
            have cl2 : ∀ n, clO n (lO 36 (logsE (L' ++ [g'])) l2) = True := fun n => clO_lO hl2 (logsE_closed 0 _) z22_closed
            have cl3 : ∀ n, clO n (lO 36 (L'.flatMap LogV.ev ++ g'.ev) l2) = True := fun n => by have := cl2 n; rwa [logsE, List.flatMap_append, List.flatMap_singleton] at this
            have hgl : (L' ++ [g']).length = L'.length + 1 := by simp
            exact ⟨(j + 1, l2, L' ++ [g'], B7), ⟨hj2, by simp only; rw [hgl]; exact hl2, hB5.trans hB57, hok', hbd'⟩, Weak.sub (weak_of (by simp [wσ, go_sem, closed, closeds, lE_closed, cl3, hgl] <;> omega) (by simp [whs, Go.Ew.hget, go_sem, EObj.closed, closed, closeds, lE_closed, cl3, hgl]) (by simp [*]) rfl rfl (by simp)), by simp only; omega⟩
      · obtain rfl : j = r.L.length := by omega
        refine next_of 1000 ?_
        simp (maxSteps := 4000000) (disch := omega) only [go_sem, Nat.reduceBEq, Nat.reduceAdd, Nat.reduceMul, Nat.reduceSub, Nat.reduceLT, Nat.reduceLeDiff, Int.reduceToNat, Int.reduceLT, Int.reduceLE, Int.reduceAdd, Int.reduceMul, Int.reduceSub, Int.reduceNeg, Int.reduceDiv, Int.reduceMod, Nat.reduceBNe, Nat.reduceGT, Int.reduceBEq, Int.reduceBNe, Int.reduceGT, Nat.reduceDiv, Nat.reduceMod, Nat.reducePow, Int.reducePow, gt_iff_lt, ge_iff_le, List.reduceReplicate, ↓reduceIte]
        repeat (with_reducible refine And.intro (by first | omega | assumption | (constructor <;> assumption) | (simp; done) | (simp; omega) | (simp [*]; done) | ((repeat' refine And.intro ?_ ?_) <;> first | omega | assumption | (refine SlOk.so (n := ?_) ?_ ?_; rotate_left; assumption; omega) | (simp; done) | fail) | fail) ?_)
        refine condS_split (fun h2 => by simp at h2) (fun h2 => ?_)
        repeat' (first | simp (maxSteps := 4000000) (disch := omega) only [go_sem, Nat.reduceBEq, Nat.reduceAdd, Nat.reduceMul, Nat.reduceSub, Nat.reduceLT, Nat.reduceLeDiff, Int.reduceToNat, Int.reduceLT, Int.reduceLE, Int.reduceAdd, Int.reduceMul, Int.reduceSub, Int.reduceNeg, Int.reduceDiv, Int.reduceMod, Nat.reduceBNe, Nat.reduceGT, Int.reduceBEq, Int.reduceBNe, Int.reduceGT, Nat.reduceDiv, Nat.reduceMod, Nat.reducePow, Int.reducePow, gt_iff_lt, ge_iff_le, List.reduceReplicate, ↓reduceIte] | with_reducible refine next_of 1000 ?_)
        rw [List.take_length, ← htk] at hbd
        have cl0 : ∀ n, clO n (lO 36 (logsE L') l) = True := fun n => clO_lO hl (logsE_closed 0 _) z22_closed
        exact ⟨(i + 1, l, L', B5), ⟨hi2, hl, hB4.trans hB5, hok, hbd⟩, Weak.sub (weak_of (by simp [wσ, go_sem, closed, closeds, lE_closed, cl0] <;> omega) (by simp [whs, Go.Ew.hget, go_sem, EObj.closed, closed, closeds, lE_closed, cl0]) (by simp [*]) rfl rfl (by simp)), by simp only; omega⟩
    · obtain rfl : i = Rs.length := by omega
      refine next_of 1000 ?_
      simp (maxSteps := 4000000) (disch := omega) only [go_sem, Nat.reduceBEq, Nat.reduceAdd, Nat.reduceMul, Nat.reduceSub, Nat.reduceLT, Nat.reduceLeDiff, Int.reduceToNat, Int.reduceLT, Int.reduceLE, Int.reduceAdd, Int.reduceMul, Int.reduceSub, Int.reduceNeg, Int.reduceDiv, Int.reduceMod, Nat.reduceBNe, Nat.reduceGT, Int.reduceBEq, Int.reduceBNe, Int.reduceGT, Nat.reduceDiv, Nat.reduceMod, Nat.reducePow, Int.reducePow, gt_iff_lt, ge_iff_le, List.reduceReplicate, ↓reduceIte]
      repeat (with_reducible refine And.intro (by first | omega | assumption | (constructor <;> assumption) | (simp; done) | (simp; omega) | (simp [*]; done) | ((repeat' refine And.intro ?_ ?_) <;> first | omega | assumption | (refine SlOk.so (n := ?_) ?_ ?_; rotate_left; assumption; omega) | (simp; done) | fail) | fail) ?_)
      refine condS_split (fun h2 => by simp at h2) (fun h2 => ?_)
      repeat' (first | simp (maxSteps := 4000000) (disch := omega) only [go_sem, Nat.reduceBEq, Nat.reduceAdd, Nat.reduceMul, Nat.reduceSub, Nat.reduceLT, Nat.reduceLeDiff, Int.reduceToNat, Int.reduceLT, Int.reduceLE, Int.reduceAdd, Int.reduceMul, Int.reduceSub, Int.reduceNeg, Int.reduceDiv, Int.reduceMod, Nat.reduceBNe, Nat.reduceGT, Int.reduceBEq, Int.reduceBNe, Int.reduceGT, Nat.reduceDiv, Nat.reduceMod, Nat.reducePow, Int.reducePow, gt_iff_lt, ge_iff_le, List.reduceReplicate, ↓reduceIte] | with_reducible refine next_of 1000 ?_)
      rw [List.take_length] at hbd
      have hFl : (findL A TT Rs).length ≤ 20000 := by
        have h1 := findL_le A TT hf2
        omega
      have hll := congrArg List.length hbd
      simp only [List.length_map] at hll
      refine ⟨by rcases l with _ | ⟨q1, q2⟩ <;> rfl, hB1.trans (hB13.trans hB4), lays_L 0 L'.length rfl hl (by rw [logsE_len hok]; rfl) (logsE_closed 0 _) (fun b ad cap B' hB hf hC hc => ?_)⟩
      rw [hf]
      refine ⟨by simp [closed], (ad, cap, L'), rfl, ?_, hbd⟩
      rw [reals_logs] at hC
      exact ⟨hC, fun g hg => (hok g hg).ext hB, by simp only; omega⟩
end Go.Proofs.Ytepabkjfnpaijaa
