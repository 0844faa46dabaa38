/- Part of a proof over the seat Ytepabkjfnpaijaa. -/
import Derived.Test.YtepabkjfnpaijaaMB
namespace Go.Proofs.Ytepabkjfnpaijaa
open Go RowKit Go.Ew
set_option maxRecDepth 100000
set_option linter.unusedSimpArgs false
set_option linter.unusedVariables false
set_option maxHeartbeats 4000000
/-- A filter's bytes. -/
def blB (F : Blm) : List UInt8 := (List.range 256).map fun i => UInt8.ofNat (F i).toNat
theorem blB_len (F : Blm) : (blB F).length = 256 := by simp [blB]
theorem blB_bE (F : Blm) : (blB F).map bE = ints .u8 (fB F) 256 := by
  simp only [blB, ints, List.map_map]
  apply List.map_congr_left
  intro i _
  simp only [Function.comp_def, bE, fB, n8]
  rw [UInt8.toNat_ofNat_of_lt' (by have := (F i).isLt; simpa using this)]
/-- A receipt as an item, and its bytes. -/
def recI (r : RcV) : Itm := lst [txt (leB r.ok.toNat), txt (leB r.gas), txt (blB r.F), lst (r.L.map logI)]
def encR (r : RcV) : List UInt8 := (if r.ty = 0 then [] else [r.ty]) ++ form (recI r)
theorem chk_txt (p : List UInt8) (d : Nat) : chk (txt p) d = 0 := by simp [txt, chk, chkL]
theorem chk_lst (ks : List Itm) (d : Nat) (hd : d < 64) (h : ∀ k ∈ ks, chk k (d + 1) = 0) : chk (lst ks) d = 0 := by
  rw [lst, chk, if_neg (by omega), if_neg (by simp), chkL_zero h]
theorem chk_log (g : LogV) (d : Nat) (hd : d < 60) : chk (logI g) d = 0 := by
  refine chk_lst _ _ (by omega) fun k hk => ?_
  simp only [List.mem_cons, List.not_mem_nil, or_false] at hk
  rcases hk with rfl | rfl | rfl
  · exact chk_txt _ _
  · refine chk_lst _ _ (by omega) fun k hk => ?_
    obtain ⟨p, _, rfl⟩ := List.mem_map.1 hk
    exact chk_txt _ _
  · exact chk_txt _ _
theorem chk_rec (r : RcV) : chk (recI r) 0 = 0 := by
  refine chk_lst _ _ (by omega) fun k hk => ?_
  simp only [List.mem_cons, List.not_mem_nil, or_false] at hk
  rcases hk with rfl | rfl | rfl | rfl
  · exact chk_txt _ _
  · exact chk_txt _ _
  · exact chk_txt _ _
  · refine chk_lst _ _ (by omega) fun k hk => ?_
    obtain ⟨g, _, rfl⟩ := List.mem_map.1 hk
    exact chk_log g _ (by omega)
theorem encno_fn {B : Base} {r : RcV} (h : LogsAt B r.lA r.L) (hm : mayR r = false) : Does Try.prog 19 [.agg (rcE r)] B (fun _ : Unit => .tup [.raw (.slice none 0 0), .int .i64 190]) (fun _ _ => True) := by
  refine fn_of en19 (fun s B B' hB hR => hR) Try.func19 rfl in19 (by simp [Try.f19]) ⟨rc_closed 0 r, trivial⟩ (fun B0 hB0 => next_of 1000 ?_)
  have hmy := mayr_fn (h.ext hB0)
  rw [hm] at hmy
  repeat' (first | simp (maxSteps := 4000000) (disch := omega) only [go_sem, Nat.reduceBEq, Nat.reduceAdd, Nat.reduceMul, Nat.reduceSub, Nat.reduceLT, Nat.reduceLeDiff, Int.reduceToNat, Int.reduceLT, Int.reduceLE, Int.reduceAdd, Int.reduceMul, Int.reduceSub, Int.reduceNeg, Int.reduceDiv, Int.reduceMod, Nat.reduceBNe, Nat.reduceGT, Int.reduceBEq, Int.reduceBNe, Int.reduceGT, Nat.reduceDiv, Nat.reduceMod, Nat.reducePow, Int.reducePow, gt_iff_lt, ge_iff_le, List.reduceReplicate, ↓reduceIte, Try.f19, rc_len, rc_all, rc_one] | refine callS_fp (hmy) (by simp [closed, closeds, closeds_ints, closed_wE]) (next_of 1000 ?_))
  exact ⟨BExt.refl _, (), by simp [closed, closeds]⟩
def rcC (r : RcV) : List Value := .int .u8 (r.ty.toNat : Int) :: .int .i64 r.ok :: .int .u64 (r.gas : Int) :: ((blB r.F).map bV ++ [.slice r.lA r.L.length r.lc])
theorem reals_rc (r : RcV) : reals (fun _ => 0) (rcE r) = rcC r := by
  simp only [rcE, rcC, ← blB_bE, reals]
  simp [real, reals_eq, bE, bV, Function.comp_def]
theorem encr_fn {B : Base} {r : RcV} (h : LogsAt B r.lA r.L) (hm : mayR r = true) (hgas : r.gas < 18446744073709551616) (hf : (form (recI r)).length < 35184372088832) :
    Does Try.prog 19 [.agg (rcE r)] B (fun s : Option Addr × Nat => .tup [.raw (.slice s.1 (encR r).length s.2), .int .i64 0]) (fun s B' => BytesAt B' s.1 (encR r) ∧ (encR r).length ≤ s.2) := by
  refine fn_of en19 (fun s B B' hB hR => ⟨hR.1.ext hB, hR.2⟩) Try.func19 rfl in19 (by simp [Try.f19]) ⟨rc_closed 0 r, trivial⟩ (fun B0 hB0 => next_of 1000 ?_)
  replace h := h.ext hB0
  have hmy := mayr_fn h
  rw [hm] at hmy
  have hrc : ∀ n, closeds n (rcE r) := fun n => rc_closed n r
  repeat' (first | with_reducible refine And.intro (by first | omega | assumption | (constructor <;> assumption) | (simp; done) | (simp; omega) | (simp [*]; done) | ((repeat' refine And.intro ?_ ?_) <;> first | omega | assumption | (refine SlOk.so (n := ?_) ?_ ?_; rotate_left; assumption; omega) | (simp; done) | fail) | fail) ?_ | simp (maxSteps := 4000000) (disch := omega) only [go_sem, Nat.reduceBEq, Nat.reduceAdd, Nat.reduceMul, Nat.reduceSub, Nat.reduceLT, Nat.reduceLeDiff, Int.reduceToNat, Int.reduceLT, Int.reduceLE, Int.reduceAdd, Int.reduceMul, Int.reduceSub, Int.reduceNeg, Int.reduceDiv, Int.reduceMod, Nat.reduceBNe, Nat.reduceGT, Int.reduceBEq, Int.reduceBNe, Int.reduceGT, Nat.reduceDiv, Nat.reduceMod, Nat.reducePow, Int.reducePow, gt_iff_lt, ge_iff_le, List.reduceReplicate, ↓reduceIte, Try.f19, rc_len, rc_0, rc_1, rc_2, rc_259, rc_all, rc_one] | refine callS_fp (hmy) (by simp [closed, closeds, closeds_ints, closed_wE]) (next_of 1000 ?_))
  refine loopU (S := Nat × Lst × List (Itm × Plc) × Base) (fun s => s.1 ≤ r.L.length ∧ lOk z3 s.1 s.2.1 ∧ BExt B0 s.2.2.2 ∧ (∀ q ∈ s.2.2.1, ItAt s.2.2.2 q.1 q.2) ∧ s.2.2.1.map Prod.fst = (r.L.take s.1).map logI)
    (fun u => ⟨[(15, .int .i64 (u.1 : Nat)), (14, .int .i64 (r.L.length : Nat)), (13, .raw (.slice r.lA r.L.length r.lc)), (4, lE 1 u.1 u.2.1), (1, .ptr 0 0)], 2, [(1, lO 79 (u.2.2.1.flatMap itQ) u.2.1), (0, some (.cells (rcE r) 45 (0, 0)))], u.2.2.2, []⟩)
    (fun u => r.L.length - u.1) (0, none, [], B0) ⟨Nat.zero_le _, rfl, BExt.refl _, by simp, rfl⟩ (Weak.sub (weak_of (by simp [wσ, go_sem, closed, closeds, lE_closed, lE, lO, clO, hrc] <;> omega) (by simp [whs, Go.Ew.hget, go_sem, EObj.closed, closed, closeds, lE_closed, lE, lO, clO, hrc]) (by simp [*]) rfl rfl (by simp))) ?_
  rintro ⟨i, l', qs', B2⟩ ⟨hi, hl, hB2, hok, hbd⟩
  simp only at hi hl hB2 hok hbd ⊢
  replace h := h.ext hB2
  have hlen := h.len
  have hLl : qs'.length = i := by have := congrArg List.length hbd; simp at this; omega
  rcases Nat.lt_or_ge i r.L.length with hi2 | hi2
  · refine next_of 1000 ?_
    simp (maxSteps := 4000000) (disch := omega) only [go_sem, Nat.reduceBEq, Nat.reduceAdd, Nat.reduceMul, Nat.reduceSub, Nat.reduceLT, Nat.reduceLeDiff, Int.reduceToNat, Int.reduceLT, Int.reduceLE, Int.reduceAdd, Int.reduceMul, Int.reduceSub, Int.reduceNeg, Int.reduceDiv, Int.reduceMod, Nat.reduceBNe, Nat.reduceGT, Int.reduceBEq, Int.reduceBNe, Int.reduceGT, Nat.reduceDiv, Nat.reduceMod, Nat.reducePow, Int.reducePow, gt_iff_lt, ge_iff_le, List.reduceReplicate, ↓reduceIte]
    repeat (with_reducible refine And.intro (by first | omega | assumption | (constructor <;> assumption) | (simp; done) | (simp; omega) | (simp [*]; done) | ((repeat' refine And.intro ?_ ?_) <;> first | omega | assumption | (refine SlOk.so (n := ?_) ?_ ?_; rotate_left; assumption; omega) | (simp; done) | fail) | fail) ?_)
    refine condS_split (fun h2 => ?_) (fun h2 => by simp at h2; omega)
    obtain ⟨l1, l2, l3, l4⟩ := h.ld hi2
    have h1 := h.ok _ (List.getElem_mem hi2)
    have htk : r.L.take (i + 1) = r.L.take i ++ [r.L[i]] := List.take_succ_eq_append_getElem hi2
    obtain ⟨g, hg⟩ : ∃ g, g = r.L[i] := ⟨_, rfl⟩
    rw [← hg] at l1 h1 htk
    have ht := h1.tb
    have f1 : oneAll g.ev = true := logE_one rfl rfl
    have f2 : ∀ u v, (logE g.ad u v).length = 22 := fun u v => logE_len h1.ha
    have f8 : ∀ u v, List.take 22 (logE g.ad u v) = logE g.ad u v := fun u v => logE_take h1.ha
    have hgc : ∀ n, closeds n g.ev := fun n => logE_closed (by simp [closed]) (by simp [closed])
    repeat' (first | with_reducible refine And.intro (by first | omega | assumption | (constructor <;> assumption) | (simp; done) | (simp; omega) | (simp [*]; done) | ((repeat' refine And.intro ?_ ?_) <;> first | omega | assumption | (refine SlOk.so (n := ?_) ?_ ?_; rotate_left; assumption; omega) | (simp; done) | fail) | fail) ?_ | simp (maxSteps := 4000000) (disch := omega) only [go_sem, Nat.reduceBEq, Nat.reduceAdd, Nat.reduceMul, Nat.reduceSub, Nat.reduceLT, Nat.reduceLeDiff, Int.reduceToNat, Int.reduceLT, Int.reduceLE, Int.reduceAdd, Int.reduceMul, Int.reduceSub, Int.reduceNeg, Int.reduceDiv, Int.reduceMod, Nat.reduceBNe, Nat.reduceGT, Int.reduceBEq, Int.reduceBNe, Int.reduceGT, Nat.reduceDiv, Nat.reduceMod, Nat.reducePow, Int.reducePow, gt_iff_lt, ge_iff_le, List.reduceReplicate, ↓reduceIte, Int.toNat_natCast, l1, f1, f2, f8, logE_splice h1.ha])
    refine callS_f (logItem_fn h1) (fun _ => by simp [closed, closeds]) (fun s2 B3 hB3 hR3 => next_of 1000 ?_)
    change BExt B2 B3 at hB3
    repeat' (first | with_reducible refine And.intro (by first | omega | assumption | (constructor <;> assumption) | (simp; done) | (simp; omega) | (simp [*]; done) | ((repeat' refine And.intro ?_ ?_) <;> first | omega | assumption | (refine SlOk.so (n := ?_) ?_ ?_; rotate_left; assumption; omega) | (simp; done) | fail) | fail) ?_ | simp (maxSteps := 4000000) (disch := omega) only [go_sem, Nat.reduceBEq, Nat.reduceAdd, Nat.reduceMul, Nat.reduceSub, Nat.reduceLT, Nat.reduceLeDiff, Int.reduceToNat, Int.reduceLT, Int.reduceLE, Int.reduceAdd, Int.reduceMul, Int.reduceSub, Int.reduceNeg, Int.reduceDiv, Int.reduceMod, Nat.reduceBNe, Nat.reduceGT, Int.reduceBEq, Int.reduceBNe, Int.reduceGT, Nat.reduceDiv, Nat.reduceMod, Nat.reducePow, Int.reducePow, gt_iff_lt, ge_iff_le, List.reduceReplicate, ↓reduceIte])
    refine appendL (l := l') (xs := qs'.flatMap itQ) (zs := z3) (news := itE (logI g) s2) (T := 79) 1 i rfl Try.underlying77 (.inl ⟨_, Try.underlying77⟩) zr79 cz79 (by simp [z3]) z3_closed rfl rfl rfl hl (by rw [itsE_len, hLl]; rfl) (itsE_closed 0 _) (src_own (m := 1) rfl rfl) (by simp [z3]) rfl (by simp only [maxLen]; omega) (by rw [show Try.prog.bytesOf 79 = 56 from by79]; omega) (fun l2 hl2 => ?_)
    refine packS [4] 1 (by simp) (by simp) (by simp) (by simp) (next_of 1000 ?_)
    have hev : qs'.flatMap itQ ++ itE (logI g) s2 = (qs' ++ [(logI g, s2)]).flatMap itQ := by
      rw [List.flatMap_append, List.flatMap_singleton]; rfl
    repeat' (simp (maxSteps := 4000000) (disch := omega) only [go_sem, Nat.reduceBEq, Nat.reduceAdd, Nat.reduceMul, Nat.reduceSub, Nat.reduceLT, Nat.reduceLeDiff, Int.reduceToNat, Int.reduceLT, Int.reduceLE, Int.reduceAdd, Int.reduceMul, Int.reduceSub, Int.reduceNeg, Int.reduceDiv, Int.reduceMod, Nat.reduceBNe, Nat.reduceGT, Int.reduceBEq, Int.reduceBNe, Int.reduceGT, Nat.reduceDiv, Nat.reduceMod, Nat.reducePow, Int.reducePow, gt_iff_lt, ge_iff_le, List.reduceReplicate, ↓reduceIte, hev, okC_lE' (ks := [4]) (k := 1) (r := 4) rfl, okC, okE, okCs, pkO_some, pkO_lO (ks := [4]) (k := 1) hl2 (itsE_closed 0 (qs' ++ [(logI g, s2)])) z3_closed, pkO_none, okCs_closed (Nat.zero_le _) _ (hrc 0), rens_closed0' _ _ (hrc 0), okCs_closed (Nat.zero_le _) _ (hgc 0)])
    have hok' : ∀ a ∈ qs' ++ [(logI g, s2)], ItAt B3 a.1 a.2 := fun a ha => by
      rcases List.mem_append.1 ha with h3 | h3
      · exact (hok a h3).ext hB3
      · obtain rfl := List.mem_singleton.1 h3
        exact hR3
    have hbd' : (qs' ++ [(logI g, s2)]).map Prod.fst = (r.L.take (i + 1)).map logI := by
      rw [htk, List.map_append, List.map_append, hbd]
      rfl
    have cl2 : ∀ n, clO n (lO 79 ((qs' ++ [(logI g, s2)]).flatMap itQ) l2) = True := fun n => clO_lO hl2 (itsE_closed 0 _) z3_closed
    have cl3 : ∀ n, clO n (lO 79 (qs'.flatMap itQ ++ itQ (logI g, s2)) l2) = True := fun n => by have := cl2 n; rwa [List.flatMap_append, List.flatMap_singleton] at this
    exact ⟨(i + 1, l2, qs' ++ [(logI g, s2)], B3), ⟨hi2, hl2, hB2.trans hB3, hok', hbd'⟩, Weak.sub (weak_of (by simp [wσ, go_sem, closed, closeds, lE_closed, cl3, hrc] <;> omega) (by simp [whs, Go.Ew.hget, go_sem, EObj.closed, closed, closeds, lE_closed, cl3, hrc]) (by simp [*]) rfl rfl (by simp)), by simp only; omega⟩
  · obtain rfl : i = r.L.length := by omega
    refine freezeL (xs := qs'.flatMap itQ) (T := 79) 1 r.L.length rfl hl (by rw [itsE_len, hLl]; rfl) (itsE_closed 0 _) z3_closed (by simp) (fun b2 ad2 cap2 B3 hB3 hf2 hD hso hcell => ?_)
    change BExt B2 B3 at hB3
    have hC : CellsAt B3 ad2 (qs'.flatMap itC) := cellsAt_frz hD hso (fun h0 => by
      rw [h0] at hLl; rw [List.length_eq_zero_iff.1 hLl]; rfl) hcell (reals_itQ _ _)
    have hbt : qs'.map Prod.fst = r.L.map logI := by rw [hbd, List.take_length]
    simp only [frzσ, frz, hf2, frzh_cons, frzh_nil, fzO_some, EObj.frz, frzs_closed0 _ (hrc 0), frzs, Nat.reduceEqDiff, if_false, if_true, ↓reduceIte, frz_closed0]
    refine freezeS 0 (cs := rcE r) (T := 45) (fr := (0, 0)) rfl (hrc 0) (by simp) (fun b B4 hB4 hbD hbH => next_of 1000 ?_)
    change BExt B3 B4 at hB4
    have hgC : CellsAt B4 (some ⟨b, 0, none⟩) (rcC r) := heap_cells hbD (by rw [← reals_rc]; exact hbH)
    have hA : BytesAt B4 (some ⟨b, 3, none⟩) (blB r.F) := by
      have := hgC.sub 3 256
      simp only [rcC, List.drop_succ_cons, List.drop_zero, List.take_append_of_le_length (show 256 ≤ ((blB r.F).map bV).length by simp [blB_len]), List.take_of_length_le (show ((blB r.F).map bV).length ≤ 256 by simp [blB_len])] at this
      have e : (⟨b, 0, none⟩ : Addr).add 3 = ⟨b, 3, none⟩ := by simp [Addr.add]
      rw [e] at this
      exact this
    obtain ⟨r0, r0d, r0s⟩ := hgC.raw (j := 0) (v := .int .u8 (r.ty.toNat : Int)) rfl
    obtain ⟨r1, r1d, r1s⟩ := hgC.raw (j := 1) (v := .int .i64 r.ok) rfl
    obtain ⟨r2, r2d, r2s⟩ := hgC.raw (j := 2) (v := .int .u64 (r.gas : Int)) rfl
    simp only [adrAt_some, Addr.add, ↓reduceIte, Nat.reduceAdd, Nat.reduceEqDiff, ofScalar, if_false, Nat.zero_add, Nat.one_ne_zero] at r0 r0s r1 r1s r2 r2s
    simp (maxSteps := 4000000) (disch := omega) only [go_sem, Nat.reduceBEq, Nat.reduceAdd, Nat.reduceMul, Nat.reduceSub, Nat.reduceLT, Nat.reduceLeDiff, Int.reduceToNat, Int.reduceLT, Int.reduceLE, Int.reduceAdd, Int.reduceMul, Int.reduceSub, Int.reduceNeg, Int.reduceDiv, Int.reduceMod, Nat.reduceBNe, Nat.reduceGT, Int.reduceBEq, Int.reduceBNe, Int.reduceGT, Nat.reduceDiv, Nat.reduceMod, Nat.reducePow, Int.reducePow, gt_iff_lt, ge_iff_le, List.reduceReplicate, ↓reduceIte]
    repeat (with_reducible refine And.intro (by first | omega | assumption | (constructor <;> assumption) | (simp; done) | (simp; omega) | (simp [*]; done) | ((repeat' refine And.intro ?_ ?_) <;> first | omega | assumption | (refine SlOk.so (n := ?_) ?_ ?_; rotate_left; assumption; omega) | (simp; done) | fail) | fail) ?_)
    refine condS_split (fun h2 => by simp at h2) (fun h2 => ?_)
    have hok01 : r.ok = 0 ∨ r.ok = 1 := by
      simp only [mayR, Bool.and_eq_true, Bool.or_eq_true, beq_iff_eq] at hm
      exact hm.2.1.2
    repeat' (first | with_reducible refine And.intro (by first | omega | assumption | (constructor <;> assumption) | (simp; done) | (simp; omega) | (simp [*]; done) | ((repeat' refine And.intro ?_ ?_) <;> first | omega | assumption | (refine SlOk.so (n := ?_) ?_ ?_; rotate_left; assumption; omega) | (simp; done) | fail) | fail) ?_ | simp (maxSteps := 4000000) (disch := omega) only [go_sem, Nat.reduceBEq, Nat.reduceAdd, Nat.reduceMul, Nat.reduceSub, Nat.reduceLT, Nat.reduceLeDiff, Int.reduceToNat, Int.reduceLT, Int.reduceLE, Int.reduceAdd, Int.reduceMul, Int.reduceSub, Int.reduceNeg, Int.reduceDiv, Int.reduceMod, Nat.reduceBNe, Nat.reduceGT, Int.reduceBEq, Int.reduceBNe, Int.reduceGT, Nat.reduceDiv, Nat.reduceMod, Nat.reducePow, Int.reducePow, gt_iff_lt, ge_iff_le, List.reduceReplicate, ↓reduceIte, r0, r1, r2] | with_reducible refine drawT_of (id := 9) [0, 1, 2, 4, 5, 7, 8, 10, 3, 6, 9, 11, 12, 13, 14, 15, 16, 17, 18, 19] mixed (by kernel_rfl) (by simp) (fun hin => dt_of 1000 hin ?_) | with_reducible refine next_of 1000 ?_)
    have ho : ((r.ok.toNat : Nat) : Int) = r.ok := by omega
    have hN1 := numberI_fn r.ok.toNat (by omega) B4
    rw [ho] at hN1
    refine callT_f hN1 (fun _ => by simp [closed, closeds]) (by kernel_rfl) (ck_of (by kernel_rfl) (nmT_of (by kernel_rfl))) (fun hin2 s5 B5 hB5 hR5 => dt_of 1000 hin2 ?_)
    change BExt B4 B5 at hB5
    repeat' (simp (maxSteps := 4000000) (disch := omega) only [go_sem, Nat.reduceBEq, Nat.reduceAdd, Nat.reduceMul, Nat.reduceSub, Nat.reduceLT, Nat.reduceLeDiff, Int.reduceToNat, Int.reduceLT, Int.reduceLE, Int.reduceAdd, Int.reduceMul, Int.reduceSub, Int.reduceNeg, Int.reduceDiv, Int.reduceMod, Nat.reduceBNe, Nat.reduceGT, Int.reduceBEq, Int.reduceBNe, Int.reduceGT, Nat.reduceDiv, Nat.reduceMod, Nat.reducePow, Int.reducePow, gt_iff_lt, ge_iff_le, List.reduceReplicate, ↓reduceIte])
    refine callT_f (numberI_fn r.gas hgas B5) (fun _ => by simp [closed, closeds]) (by kernel_rfl) (ck_of (by kernel_rfl) (nmT_of (by kernel_rfl))) (fun hin2 s6 B6 hB6 hR6 => dt_of 1000 hin2 ?_)
    change BExt B5 B6 at hB6
    repeat' (simp (maxSteps := 4000000) (disch := omega) only [go_sem, Nat.reduceBEq, Nat.reduceAdd, Nat.reduceMul, Nat.reduceSub, Nat.reduceLT, Nat.reduceLeDiff, Int.reduceToNat, Int.reduceLT, Int.reduceLE, Int.reduceAdd, Int.reduceMul, Int.reduceSub, Int.reduceNeg, Int.reduceDiv, Int.reduceMod, Nat.reduceBNe, Nat.reduceGT, Int.reduceBEq, Int.reduceBNe, Int.reduceGT, Nat.reduceDiv, Nat.reduceMod, Nat.reducePow, Int.reducePow, gt_iff_lt, ge_iff_le, List.reduceReplicate, ↓reduceIte])
    refine callT_f (text_fn (blB r.F) 256 B6 _ _ (hA.ext (hB5.trans hB6)) (blB_len _) (by omega)) (fun _ => by simp [closed, closeds]) (by kernel_rfl) (ck_of (by kernel_rfl) (nmT_of (by kernel_rfl))) (fun hin2 s7 B7 hB7 hR7 => dt_of 1000 hin2 ?_)
    change BExt B6 B7 at hB7
    have hB47 := hB5.trans (hB6.trans hB7)
    have hok7 : ∀ q ∈ qs', ItAt B7 q.1 q.2 := fun q hq => (hok q hq).ext (hB3.trans (hB4.trans hB47))
    repeat' (simp (maxSteps := 4000000) (disch := omega) only [go_sem, Nat.reduceBEq, Nat.reduceAdd, Nat.reduceMul, Nat.reduceSub, Nat.reduceLT, Nat.reduceLeDiff, Int.reduceToNat, Int.reduceLT, Int.reduceLE, Int.reduceAdd, Int.reduceMul, Int.reduceSub, Int.reduceNeg, Int.reduceDiv, Int.reduceMod, Nat.reduceBNe, Nat.reduceGT, Int.reduceBEq, Int.reduceBNe, Int.reduceGT, Nat.reduceDiv, Nat.reduceMod, Nat.reducePow, Int.reducePow, gt_iff_lt, ge_iff_le, List.reduceReplicate, ↓reduceIte])
    refine callT_f (list_fn qs' r.L.length B7 _ _ (hC.ext (hB4.trans hB47)) (by omega) hok7 hLl) (fun _ => by simp [closed, closeds]) (by kernel_rfl) (ck_of (by kernel_rfl) (nmT_of (by kernel_rfl))) (fun hin2 s8 B8 hB8 hR8 => dt_of 1000 hin2 ?_)
    change BExt B7 B8 at hB8
    repeat' (first | with_reducible refine And.intro (by first | omega | assumption | (constructor <;> assumption) | (simp; done) | (simp; omega) | (simp [*]; done) | ((repeat' refine And.intro ?_ ?_) <;> first | omega | assumption | (refine SlOk.so (n := ?_) ?_ ?_; rotate_left; assumption; omega) | (simp; done) | fail) | fail) ?_ | simp (maxSteps := 4000000) (disch := omega) only [go_sem, Nat.reduceBEq, Nat.reduceAdd, Nat.reduceMul, Nat.reduceSub, Nat.reduceLT, Nat.reduceLeDiff, Int.reduceToNat, Int.reduceLT, Int.reduceLE, Int.reduceAdd, Int.reduceMul, Int.reduceSub, Int.reduceNeg, Int.reduceDiv, Int.reduceMod, Nat.reduceBNe, Nat.reduceGT, Int.reduceBEq, Int.reduceBNe, Int.reduceGT, Nat.reduceDiv, Nat.reduceMod, Nat.reducePow, Int.reducePow, gt_iff_lt, ge_iff_le, List.reduceReplicate, ↓reduceIte])
    refine callT_roc 100038 0 4 4 [] ([(txt (leB r.ok.toNat), s5), (txt (leB r.gas), s6), (txt (blB r.F), s7), (Itm.mk 1 [] (qs'.map Prod.fst), s8)].flatMap itC) en35 rfl rfl rfl (fun s => by simp [closed, closeds]) (fun B ad cap hB hc3 => list_fn [(txt (leB r.ok.toNat), s5), (txt (leB r.gas), s6), (txt (blB r.F), s7), (Itm.mk 1 [] (qs'.map Prod.fst), s8)] 4 B ad cap hc3 (by simp) (fun q hq => by
      simp only [List.mem_cons, List.not_mem_nil, or_false] at hq
      rcases hq with rfl | rfl | rfl | rfl
      · exact hR5.ext (hB6.trans (hB7.trans (hB8.trans hB)))
      · exact hR6.ext (hB7.trans (hB8.trans hB))
      · exact hR7.ext (hB8.trans hB)
      · exact hR8.ext hB) rfl) (by kernel_rfl) (ck_of (by kernel_rfl) (nmT_of (by kernel_rfl))) (fun hin2 s9 B9 hB9 hR9 => dt_of 1000 hin2 ?_)
    change BExt B8 B9 at hB9
    have hfin : Itm.mk 1 [] (List.map Prod.fst [(txt (leB r.ok.toNat), s5), (txt (leB r.gas), s6), (txt (blB r.F), s7), (Itm.mk 1 [] (qs'.map Prod.fst), s8)]) = recI r := by
      simp only [List.map_cons, List.map_nil, hbt]; rfl
    rw [hfin] at hR9
    simp only [hfin]
    repeat' (simp (maxSteps := 4000000) (disch := omega) only [go_sem, Nat.reduceBEq, Nat.reduceAdd, Nat.reduceMul, Nat.reduceSub, Nat.reduceLT, Nat.reduceLeDiff, Int.reduceToNat, Int.reduceLT, Int.reduceLE, Int.reduceAdd, Int.reduceMul, Int.reduceSub, Int.reduceNeg, Int.reduceDiv, Int.reduceMod, Nat.reduceBNe, Nat.reduceGT, Int.reduceBEq, Int.reduceBNe, Int.reduceGT, Nat.reduceDiv, Nat.reduceMod, Nat.reducePow, Int.reducePow, gt_iff_lt, ge_iff_le, List.reduceReplicate, ↓reduceIte])
    refine callT_f (enc_fn hR9 (chk_rec r) hf) (fun _ => by simp [closed, closeds]) (by kernel_rfl) (ck_of (by kernel_rfl) (nmT_of (by kernel_rfl))) (fun hin2 s10 B10 hB10 hR10 => dt_of 1000 hin2 ?_)
    change BExt B9 B10 at hB10
    have hB4X := hB47.trans (hB8.trans (hB9.trans hB10))
    have hBX := hB2.trans (hB3.trans (hB4.trans hB4X))
    obtain ⟨x0, x0d, x0s⟩ := (hgC.ext hB4X).raw (j := 0) (v := .int .u8 (r.ty.toNat : Int)) rfl
    simp only [adrAt_some, Addr.add, ↓reduceIte, ofScalar] at x0 x0s
    have hty := r.ty.toNat_lt
    have xD : B10.D b := x0d
    have hmy3 : (r.ty.toNat : Int) ≤ 3 := by
      simp only [mayR, Bool.and_eq_true, decide_eq_true_eq] at hm
      exact hm.2.1.1
    repeat' (first | with_reducible refine And.intro (by first | omega | assumption | (constructor <;> assumption) | (simp; done) | (simp; omega) | (simp [*]; done) | ((repeat' refine And.intro ?_ ?_) <;> first | omega | assumption | (refine SlOk.so (n := ?_) ?_ ?_; rotate_left; assumption; omega) | (simp; done) | fail) | fail) ?_ | simp (maxSteps := 4000000) (disch := omega) only [go_sem, Nat.reduceBEq, Nat.reduceAdd, Nat.reduceMul, Nat.reduceSub, Nat.reduceLT, Nat.reduceLeDiff, Int.reduceToNat, Int.reduceLT, Int.reduceLE, Int.reduceAdd, Int.reduceMul, Int.reduceSub, Int.reduceNeg, Int.reduceDiv, Int.reduceMod, Nat.reduceBNe, Nat.reduceGT, Int.reduceBEq, Int.reduceBNe, Int.reduceGT, Nat.reduceDiv, Nat.reduceMod, Nat.reducePow, Int.reducePow, gt_iff_lt, ge_iff_le, List.reduceReplicate, ↓reduceIte, x0] | with_reducible refine endT_of (by kernel_rfl) (nmT_of (by kernel_rfl)) (next_of 1000 ?_) | ((first | refine condS_split (fun h => ?_) (fun h => ?_) | refine testS_split (fun h => ?_) (fun h => ?_) | refine testT_split (fun h => ?_) (fun h => ?_)) <;> (try simp only [bne_iff_ne, ne_eq, beq_iff_eq, decide_eq_true_eq, decide_eq_false_iff_not, Bool.not_eq_true, Bool.not_eq_false, Bool.not_true, Bool.not_false, bne_eq_false_iff_eq, beq_eq_false_iff_ne, Bool.and_eq_true, Bool.or_eq_true, Bool.and_eq_false_imp, Bool.or_eq_false_iff, Bool.not_eq_true', Bool.not_eq_false', Int.not_lt, Int.not_le] at h) <;> (try (exfalso; omega))))
    · have ht0 : r.ty = 0 := UInt8.toNat_inj.1 (by rw [UInt8.toNat_zero]; omega)
      have he : encR r = form (recI r) := by rw [encR, if_pos ht0, List.nil_append]
      rw [he]
      exact ⟨s10, rfl, by simp [closed, closeds], hR10⟩
    · have ht0 : r.ty ≠ 0 := fun h0 => by
        have : r.ty.toNat = 0 := by rw [h0]; rfl
        omega
      have he : encR r = r.ty :: form (recI r) := by rw [encR, if_neg ht0]; rfl
      rw [he]
      refine callS_f (envelope_fn r.ty (by omega) (form (recI r)) _ B10 _ _ hR10.1 rfl (by omega)) (fun _ => by simp [closed, closeds]) (fun s11 B11 hB11 hR11 => next_of 1000 ?_)
      change BExt B10 B11 at hB11
      repeat' (simp (maxSteps := 4000000) (disch := omega) only [go_sem, Nat.reduceBEq, Nat.reduceAdd, Nat.reduceMul, Nat.reduceSub, Nat.reduceLT, Nat.reduceLeDiff, Int.reduceToNat, Int.reduceLT, Int.reduceLE, Int.reduceAdd, Int.reduceMul, Int.reduceSub, Int.reduceNeg, Int.reduceDiv, Int.reduceMod, Nat.reduceBNe, Nat.reduceGT, Int.reduceBEq, Int.reduceBNe, Int.reduceGT, Nat.reduceDiv, Nat.reduceMod, Nat.reducePow, Int.reducePow, gt_iff_lt, ge_iff_le, List.reduceReplicate, ↓reduceIte])
      exact ⟨hBX.trans hB11, s11, rfl, by simp [closed, closeds], hR11⟩
end Go.Proofs.Ytepabkjfnpaijaa

