/- Part of a proof over the seat Ytepabkjfnpaijaa. -/
import Derived.Test.YtepabkjfnpaijaaQD
import Derived.Test.YtepabkjfnpaijaaQE
import Derived.Test.YtepabkjfnpaijaaPI
import Derived.Test.YtepabkjfnpaijaaMD
namespace Go.Proofs.Ytepabkjfnpaijaa
open Go RowKit Go.Ew
set_option maxRecDepth 100000
set_option linter.unusedSimpArgs false
set_option linter.unusedVariables false
set_option maxHeartbeats 4000000
theorem in6 : codeIn Try.f6.ntmps (Try.f6.body.getD .skip) = true := by kernel_rfl
attribute [-go_sem] zr45
def withF (r : RcV) (F : Blm) : RcV := ⟨r.ty, r.ok, r.gas, F, r.lA, r.lc, r.L⟩
theorem rc_spF (r : RcV) (F : Blm) : splice (rcE r) 3 (ints .u8 (fB F) 256) = rcE (withF r F) := by
  obtain ⟨x, y, l, hx⟩ : ∃ x y l, ints .u8 (fB F) 256 = x :: y :: l := ⟨_, _, _, rfl⟩
  have hl : (x :: y :: l).length = 256 := by rw [← hx, ints_len]
  have e0 : splice (rcE r) 3 (x :: y :: l) = (rcE r).take 3 ++ (x :: y :: l) ++ (rcE r).drop (3 + (x :: y :: l).length) := rfl
  have e1 : (rcE r).take 3 = [.int .u8 (r.ty.toNat : Int), .int .i64 r.ok, .int .u64 (r.gas : Int)] := rfl
  have e2 : (rcE r).drop (3 + 256) = [.raw (.slice r.lA r.L.length r.lc)] := by
    have e3 : (rcE r).drop 3 = ints .u8 (fB r.F) 256 ++ [.raw (.slice r.lA r.L.length r.lc)] := rfl
    rw [← List.drop_drop, e3, List.drop_left' (ints_len _ _ _)]
  rw [hx, e0, hl, e1, e2, ← hx]; rfl
theorem rc_splice0 (r r' : RcV) : splice (rcE r) 0 (rcE r') = rcE r' := splice_all (by rw [rc_len, rc_len]) (by rw [rc_len]; omega)
theorem zero_rc : rcX (.int .u8 0) (.int .i64 0) (.int .u64 0) zbl (.raw (.slice none 0 0)) = rcE ⟨0, 0, 0, blmOf zbl, none, 0, []⟩ := rcX_rc 0 0 0 zbl_len none 0 []
theorem law_back (W : World) (r : RcV) (b : List UInt8) (n : Nat) (ad : Option Addr) (cap : Nat) (hL : LogsAt (base W) r.lA r.L) (hgas : r.gas < 18446744073709551616) (hb : BytesAt (base W) ad b) (hn : b.length = n) (hcap : n ≤ cap) (hsm : n ≤ 1048576) :
    Calls Try.prog 6 (reals (fun _ => 0) [.agg (rcE r), .raw (.slice ad n cap)]).toArray W (Ret (.bool true) W) := by
  refine pure_callsX [.agg (rcE r), .raw (.slice ad n cap)] Try.func6 rfl in6 (by simp [Try.f6]) ⟨rc_closed 0 r, by simp [closed, closeds]⟩ (next_of 1000 ?_)
  have hcl : ∀ n r, closeds n (rcE r) := fun n r => rc_closed n r
  have hfew := few_fn r.L r.L.length _ r.lA r.lc hL rfl
  repeat' (first | with_reducible refine And.intro (by first | omega | assumption | (constructor <;> assumption) | (simp; done) | (simp; omega) | (simp [*]; done) | ((repeat' refine And.intro ?_ ?_) <;> first | omega | assumption | (refine SlOk.so (n := ?_) ?_ ?_; rotate_left; assumption; omega) | (simp; done) | fail) | fail) ?_ | simp (maxSteps := 4000000) (disch := omega) only [go_sem, Nat.reduceBEq, Nat.reduceAdd, Nat.reduceMul, Nat.reduceSub, Nat.reduceLT, Nat.reduceLeDiff, Int.reduceToNat, Int.reduceLT, Int.reduceLE, Int.reduceAdd, Int.reduceMul, Int.reduceSub, Int.reduceNeg, Int.reduceDiv, Int.reduceMod, Nat.reduceBNe, Nat.reduceGT, Int.reduceBEq, Int.reduceBNe, Int.reduceGT, Nat.reduceDiv, Nat.reduceMod, Nat.reducePow, Int.reducePow, gt_iff_lt, ge_iff_le, List.reduceReplicate, ↓reduceIte, Try.f6, rc_len, rc_0, rc_1, rc_2, rc_259, rc_all, rc_one, hcl] | refine callS_fp (awake_fn _) (by simp [closed, closeds, closeds_ints, closed_wE]) (next_of 1000 ?_))
  cases hbf : decide (r.L.length + fewS r.L ≤ 500) with
  | false =>
    rw [hbf] at hfew
    repeat' (first | simp (maxSteps := 4000000) (disch := omega) only [go_sem, Nat.reduceBEq, Nat.reduceAdd, Nat.reduceMul, Nat.reduceSub, Nat.reduceLT, Nat.reduceLeDiff, Int.reduceToNat, Int.reduceLT, Int.reduceLE, Int.reduceAdd, Int.reduceMul, Int.reduceSub, Int.reduceNeg, Int.reduceDiv, Int.reduceMod, Nat.reduceBNe, Nat.reduceGT, Int.reduceBEq, Int.reduceBNe, Int.reduceGT, Nat.reduceDiv, Nat.reduceMod, Nat.reducePow, Int.reducePow, gt_iff_lt, ge_iff_le, List.reduceReplicate, ↓reduceIte] | refine callS_fp (hfew) (by simp [closed, closeds, closeds_ints, closed_wE]) (next_of 1000 ?_))
    exact ⟨BExt.refl _, fun bs => rfl⟩
  | true =>
    rw [hbf] at hfew
    have hle : r.L.length + fewS r.L ≤ 500 := of_decide_eq_true hbf
    by_cases h2 : n ≤ 20000
    · have c1 : decide ((20000 : Int) < (n : Int)) = false := decide_eq_false (by omega)
      have hof := of_fn r.L r.L.length _ r.lA r.lc hL rfl
      have hsp := rc_spF r (allB zB (marksL r.L))
      obtain ⟨r', hr'⟩ : ∃ r', r' = withF r (allB zB (marksL r.L)) := ⟨_, rfl⟩
      rw [← hr'] at hsp
      obtain ⟨BL, hBL⟩ : ∃ BL, BL = ints .u8 (fB (allB zB (marksL r.L))) 256 := ⟨_, rfl⟩
      have hBll : BL.length = 256 := by rw [hBL]; exact ints_len _ _ _
      have hBlc : ∀ n, closeds n BL := fun n => by rw [hBL]; exact closeds_ints _ _ _ _
      have hBlo : oneAll BL = true := by rw [hBL]; exact oneAll_ints _ _ _
      rw [← hBL] at hof hsp
      have hL' : LogsAt (base W) r'.lA r'.L := by rw [hr']; exact hL
      have hgas' : r'.gas < 18446744073709551616 := by rw [hr']; exact hgas
      have hfw' : r'.L.length + fewS r'.L ≤ 500 := by rw [hr']; exact hle
      repeat' (first | with_reducible refine And.intro (by first | omega | assumption | (constructor <;> assumption) | (simp; done) | (simp; omega) | (simp [*]; done) | ((repeat' refine And.intro ?_ ?_) <;> first | omega | assumption | (refine SlOk.so (n := ?_) ?_ ?_; rotate_left; assumption; omega) | (simp; done) | fail) | fail) ?_ | simp (maxSteps := 4000000) (disch := omega) only [go_sem, Nat.reduceBEq, Nat.reduceAdd, Nat.reduceMul, Nat.reduceSub, Nat.reduceLT, Nat.reduceLeDiff, Int.reduceToNat, Int.reduceLT, Int.reduceLE, Int.reduceAdd, Int.reduceMul, Int.reduceSub, Int.reduceNeg, Int.reduceDiv, Int.reduceMod, Nat.reduceBNe, Nat.reduceGT, Int.reduceBEq, Int.reduceBNe, Int.reduceGT, Nat.reduceDiv, Nat.reduceMod, Nat.reducePow, Int.reducePow, gt_iff_lt, ge_iff_le, List.reduceReplicate, ↓reduceIte, c1, rc_len, rc_0, rc_1, rc_2, rc_259, rc_all, rc_one, rc_splice0, hcl, hBll, hBlc, hBlo, hsp] | refine callS_fp (hfew) (by simp [closed, closeds, closeds_ints, closed_wE]) (next_of 1000 ?_))
      refine callS_f hof (fun _ => hBlc 0) (fun _ B1 hB1 _ => next_of 1000 ?_)
      change BExt (base W) B1 at hB1
      repeat' (first | with_reducible refine And.intro (by first | omega | assumption | (constructor <;> assumption) | (simp; done) | (simp; omega) | (simp [*]; done) | ((repeat' refine And.intro ?_ ?_) <;> first | omega | assumption | (refine SlOk.so (n := ?_) ?_ ?_; rotate_left; assumption; omega) | (simp; done) | fail) | fail) ?_ | simp (maxSteps := 4000000) (disch := omega) only [go_sem, Nat.reduceBEq, Nat.reduceAdd, Nat.reduceMul, Nat.reduceSub, Nat.reduceLT, Nat.reduceLeDiff, Int.reduceToNat, Int.reduceLT, Int.reduceLE, Int.reduceAdd, Int.reduceMul, Int.reduceSub, Int.reduceNeg, Int.reduceDiv, Int.reduceMod, Nat.reduceBNe, Nat.reduceGT, Int.reduceBEq, Int.reduceBNe, Int.reduceGT, Nat.reduceDiv, Nat.reduceMod, Nat.reducePow, Int.reducePow, gt_iff_lt, ge_iff_le, List.reduceReplicate, ↓reduceIte, c1, rc_len, rc_0, rc_1, rc_2, rc_259, rc_all, rc_one, rc_splice0, hcl, hBll, hBlc, hBlo, hsp])
      replace hL' := hL'.ext hB1
      --TAIL
      cases hmr : mayR r' with
      | false =>
        refine callS_f (encno_fn hL' hmr) (fun _ => by simp [closed, closeds]) (fun _ B2 hB2 _ => next_of 1000 ?_)
        change BExt B1 B2 at hB2
        repeat' (simp (maxSteps := 4000000) (disch := omega) only [go_sem, Nat.reduceBEq, Nat.reduceAdd, Nat.reduceMul, Nat.reduceSub, Nat.reduceLT, Nat.reduceLeDiff, Int.reduceToNat, Int.reduceLT, Int.reduceLE, Int.reduceAdd, Int.reduceMul, Int.reduceSub, Int.reduceNeg, Int.reduceDiv, Int.reduceMod, Nat.reduceBNe, Nat.reduceGT, Int.reduceBEq, Int.reduceBNe, Int.reduceGT, Nat.reduceDiv, Nat.reduceMod, Nat.reducePow, Int.reducePow, gt_iff_lt, ge_iff_le, List.reduceReplicate, ↓reduceIte, c1, rc_len, rc_0, rc_1, rc_2, rc_259, rc_all, rc_one, rc_splice0, hcl, hBll, hBlc, hBlo, hsp, zero_rc, zrR])
        have hb0 := hb.ext (hB1.trans hB2)
        refine appF (T := 5) (m := n) (cs := b.map bV) 1 rfl Try.underlying23 (.inl ⟨_, Try.underlying23⟩) zr5 cz5 rfl (by omega) hz8 rfl (CellsAt.src hb0 (by omega) (by simp; omega) _) (by simp; omega) (by rw [ofS_bV]; exact bE_one _) (by simp only [maxLen]; omega) (by rw [show Try.prog.bytesOf 5 = 1 from by5]; omega) (fun dA dc B6 hB6 hcd hcapd => next_of 1000 ?_)
        change BExt B2 B6 at hB6
        repeat' (simp (maxSteps := 4000000) (disch := omega) only [go_sem, Nat.reduceBEq, Nat.reduceAdd, Nat.reduceMul, Nat.reduceSub, Nat.reduceLT, Nat.reduceLeDiff, Int.reduceToNat, Int.reduceLT, Int.reduceLE, Int.reduceAdd, Int.reduceMul, Int.reduceSub, Int.reduceNeg, Int.reduceDiv, Int.reduceMod, Nat.reduceBNe, Nat.reduceGT, Int.reduceBEq, Int.reduceBNe, Int.reduceGT, Nat.reduceDiv, Nat.reduceMod, Nat.reducePow, Int.reducePow, gt_iff_lt, ge_iff_le, List.reduceReplicate, ↓reduceIte, c1, rc_len, rc_0, rc_1, rc_2, rc_259, rc_all, rc_one, rc_splice0, hcl, hBll, hBlc, hBlo, hsp, zero_rc, zrR])
        refine callS_f (decR_fn b n B6 dA dc hcd hn (by omega) (by omega) (by omega)) (fun _ => ⟨rc_closed 0 _, by simp [closed, closeds]⟩) (fun c B7 hB7 hR7 => next_of 1000 ?_)
        change BExt B6 B7 at hB7
        obtain ⟨hcL, hcb, hcg⟩ := hR7
        by_cases he : (recD b).2 = 0
        · obtain ⟨k1, k2, k3⟩ := encR_recD hcL he hcb
          have hfb : (form (recI c)).length ≤ n := by
            rw [k3, ← hn]; split
            · rw [List.length_drop]; omega
            · exact Nat.le_refl _
          rw [he]
          repeat' (simp (maxSteps := 4000000) (disch := omega) only [go_sem, Nat.reduceBEq, Nat.reduceAdd, Nat.reduceMul, Nat.reduceSub, Nat.reduceLT, Nat.reduceLeDiff, Int.reduceToNat, Int.reduceLT, Int.reduceLE, Int.reduceAdd, Int.reduceMul, Int.reduceSub, Int.reduceNeg, Int.reduceDiv, Int.reduceMod, Nat.reduceBNe, Nat.reduceGT, Int.reduceBEq, Int.reduceBNe, Int.reduceGT, Nat.reduceDiv, Nat.reduceMod, Nat.reducePow, Int.reducePow, gt_iff_lt, ge_iff_le, List.reduceReplicate, ↓reduceIte, c1, rc_len, rc_0, rc_1, rc_2, rc_259, rc_all, rc_one, rc_splice0, hcl, hBll, hBlc, hBlo, hsp, zero_rc, zrR])
          refine callS_f (encr_fn hcL k2 hcg (by omega)) (fun _ => by simp [closed, closeds]) (fun s8 B8 hB8 hR8 => next_of 1000 ?_)
          change BExt B7 B8 at hB8
          obtain ⟨hR8, -⟩ := hR8
          rw [k1] at hR8 ⊢
          rw [hn]
          have hbz := hb0.ext (hB6.trans (hB7.trans hB8))
          repeat' (simp (maxSteps := 4000000) (disch := omega) only [go_sem, Nat.reduceBEq, Nat.reduceAdd, Nat.reduceMul, Nat.reduceSub, Nat.reduceLT, Nat.reduceLeDiff, Int.reduceToNat, Int.reduceLT, Int.reduceLE, Int.reduceAdd, Int.reduceMul, Int.reduceSub, Int.reduceNeg, Int.reduceDiv, Int.reduceMod, Nat.reduceBNe, Nat.reduceGT, Int.reduceBEq, Int.reduceBNe, Int.reduceGT, Nat.reduceDiv, Nat.reduceMod, Nat.reducePow, Int.reducePow, gt_iff_lt, ge_iff_le, List.reduceReplicate, ↓reduceIte, c1, rc_len, rc_0, rc_1, rc_2, rc_259, rc_all, rc_one, rc_splice0, hcl, hBll, hBlc, hBlo, hsp, zero_rc, zrR])
          refine strBS b rfl Try.underlying23 Try.underlying5 Try.underlying9 rfl hn hR8 (next_of 1000 ?_)
          repeat' (simp (maxSteps := 4000000) (disch := omega) only [go_sem, Nat.reduceBEq, Nat.reduceAdd, Nat.reduceMul, Nat.reduceSub, Nat.reduceLT, Nat.reduceLeDiff, Int.reduceToNat, Int.reduceLT, Int.reduceLE, Int.reduceAdd, Int.reduceMul, Int.reduceSub, Int.reduceNeg, Int.reduceDiv, Int.reduceMod, Nat.reduceBNe, Nat.reduceGT, Int.reduceBEq, Int.reduceBNe, Int.reduceGT, Nat.reduceDiv, Nat.reduceMod, Nat.reducePow, Int.reducePow, gt_iff_lt, ge_iff_le, List.reduceReplicate, ↓reduceIte, c1, rc_len, rc_0, rc_1, rc_2, rc_259, rc_all, rc_one, rc_splice0, hcl, hBll, hBlc, hBlo, hsp, zero_rc, zrR])
          refine strBS b rfl Try.underlying23 Try.underlying5 Try.underlying9 rfl hn hbz (next_of 1000 ?_)
          repeat' (simp (maxSteps := 4000000) (disch := omega) only [go_sem, Nat.reduceBEq, Nat.reduceAdd, Nat.reduceMul, Nat.reduceSub, Nat.reduceLT, Nat.reduceLeDiff, Int.reduceToNat, Int.reduceLT, Int.reduceLE, Int.reduceAdd, Int.reduceMul, Int.reduceSub, Int.reduceNeg, Int.reduceDiv, Int.reduceMod, Nat.reduceBNe, Nat.reduceGT, Int.reduceBEq, Int.reduceBNe, Int.reduceGT, Nat.reduceDiv, Nat.reduceMod, Nat.reducePow, Int.reducePow, gt_iff_lt, ge_iff_le, List.reduceReplicate, ↓reduceIte, beq_self_eq_true])
          exact ⟨(hB1.trans hB2).trans (hB6.trans (hB7.trans hB8)), fun bs => rfl⟩
        · obtain ⟨E, hE⟩ : ∃ E, E = (recD b).2 := ⟨_, rfl⟩
          rw [← hE] at he ⊢
          have hei : ((E : Nat) : Int) ≠ 0 := by omega
          repeat' (first | simp (maxSteps := 4000000) (disch := omega) only [go_sem, Nat.reduceBEq, Nat.reduceAdd, Nat.reduceMul, Nat.reduceSub, Nat.reduceLT, Nat.reduceLeDiff, Int.reduceToNat, Int.reduceLT, Int.reduceLE, Int.reduceAdd, Int.reduceMul, Int.reduceSub, Int.reduceNeg, Int.reduceDiv, Int.reduceMod, Nat.reduceBNe, Nat.reduceGT, Int.reduceBEq, Int.reduceBNe, Int.reduceGT, Nat.reduceDiv, Nat.reduceMod, Nat.reducePow, Int.reducePow, gt_iff_lt, ge_iff_le, List.reduceReplicate, ↓reduceIte, c1, rc_len, rc_0, rc_1, rc_2, rc_259, rc_all, rc_one, rc_splice0, hcl, hBll, hBlc, hBlo, hsp, zero_rc, zrR] | ((first | refine condS_split (fun h => ?_) (fun h => ?_) | refine testS_split (fun h => ?_) (fun h => ?_) | refine testT_split (fun h => ?_) (fun h => ?_)) <;> (try simp only [bne_iff_ne, ne_eq, beq_iff_eq, decide_eq_true_eq, decide_eq_false_iff_not, Bool.not_eq_true, Bool.not_eq_false, Bool.not_true, Bool.not_false, bne_eq_false_iff_eq, beq_eq_false_iff_ne, Bool.and_eq_true, Bool.or_eq_true, Bool.and_eq_false_imp, Bool.or_eq_false_iff, Bool.not_eq_true', Bool.not_eq_false', Int.not_lt, Int.not_le] at h) <;> (try (exfalso; omega))))
          exact ⟨(hB1.trans hB2).trans (hB6.trans hB7), fun bs => rfl⟩
      | true =>
        have hok' : r'.ok.toNat < 18446744073709551616 := by have := (mayR_ok hmr).2; omega
        have hfl := form_rec_le hL' hok' hgas' hfw'
        have hel := encR_len r'
        have hrd := recD_encR hL' hmr hgas' (by omega)
        refine callS_f (encr_fn hL' hmr hgas' (by omega)) (fun _ => by simp [closed, closeds]) (fun s2 B2 hB2 hR2 => next_of 1000 ?_)
        change BExt B1 B2 at hB2
        obtain ⟨hR2, hc2⟩ := hR2
        repeat' (simp (maxSteps := 4000000) (disch := omega) only [go_sem, Nat.reduceBEq, Nat.reduceAdd, Nat.reduceMul, Nat.reduceSub, Nat.reduceLT, Nat.reduceLeDiff, Int.reduceToNat, Int.reduceLT, Int.reduceLE, Int.reduceAdd, Int.reduceMul, Int.reduceSub, Int.reduceNeg, Int.reduceDiv, Int.reduceMod, Nat.reduceBNe, Nat.reduceGT, Int.reduceBEq, Int.reduceBNe, Int.reduceGT, Nat.reduceDiv, Nat.reduceMod, Nat.reducePow, Int.reducePow, gt_iff_lt, ge_iff_le, List.reduceReplicate, ↓reduceIte, c1, rc_len, rc_0, rc_1, rc_2, rc_259, rc_all, rc_one, rc_splice0, hcl, hBll, hBlc, hBlo, hsp, zero_rc, zrR])
        refine callS_f (decR_fn (encR r') (encR r').length B2 s2.1 s2.2 hR2 rfl hc2 (by omega) (by omega)) (fun _ => ⟨rc_closed 0 _, by simp [closed, closeds]⟩) (fun q B3 hB3 hR3 => next_of 1000 ?_)
        change BExt B2 B3 at hB3
        obtain ⟨hqL, hqb, hqg⟩ := hR3
        rw [hrd] at hqb ⊢
        have hsame := same_fn q r' hqL (hL'.ext (hB2.trans hB3)) hqb
        repeat' (first | simp (maxSteps := 4000000) (disch := omega) only [go_sem, Nat.reduceBEq, Nat.reduceAdd, Nat.reduceMul, Nat.reduceSub, Nat.reduceLT, Nat.reduceLeDiff, Int.reduceToNat, Int.reduceLT, Int.reduceLE, Int.reduceAdd, Int.reduceMul, Int.reduceSub, Int.reduceNeg, Int.reduceDiv, Int.reduceMod, Nat.reduceBNe, Nat.reduceGT, Int.reduceBEq, Int.reduceBNe, Int.reduceGT, Nat.reduceDiv, Nat.reduceMod, Nat.reducePow, Int.reducePow, gt_iff_lt, ge_iff_le, List.reduceReplicate, ↓reduceIte, c1, rc_len, rc_0, rc_1, rc_2, rc_259, rc_all, rc_one, rc_splice0, hcl, hBll, hBlc, hBlo, hsp, zero_rc, zrR] | refine callS_fp (hsame) (by simp [closed, closeds, closeds_ints, closed_wE]) (next_of 1000 ?_))
        have hb0 := hb.ext (hB1.trans (hB2.trans hB3))
        refine appF (T := 5) (m := n) (cs := b.map bV) 1 rfl Try.underlying23 (.inl ⟨_, Try.underlying23⟩) zr5 cz5 rfl (by omega) hz8 rfl (CellsAt.src hb0 (by omega) (by simp; omega) _) (by simp; omega) (by rw [ofS_bV]; exact bE_one _) (by simp only [maxLen]; omega) (by rw [show Try.prog.bytesOf 5 = 1 from by5]; omega) (fun dA dc B6 hB6 hcd hcapd => next_of 1000 ?_)
        change BExt B3 B6 at hB6
        repeat' (simp (maxSteps := 4000000) (disch := omega) only [go_sem, Nat.reduceBEq, Nat.reduceAdd, Nat.reduceMul, Nat.reduceSub, Nat.reduceLT, Nat.reduceLeDiff, Int.reduceToNat, Int.reduceLT, Int.reduceLE, Int.reduceAdd, Int.reduceMul, Int.reduceSub, Int.reduceNeg, Int.reduceDiv, Int.reduceMod, Nat.reduceBNe, Nat.reduceGT, Int.reduceBEq, Int.reduceBNe, Int.reduceGT, Nat.reduceDiv, Nat.reduceMod, Nat.reducePow, Int.reducePow, gt_iff_lt, ge_iff_le, List.reduceReplicate, ↓reduceIte, c1, rc_len, rc_0, rc_1, rc_2, rc_259, rc_all, rc_one, rc_splice0, hcl, hBll, hBlc, hBlo, hsp, zero_rc, zrR])
        refine callS_f (decR_fn b n B6 dA dc hcd hn (by omega) (by omega) (by omega)) (fun _ => ⟨rc_closed 0 _, by simp [closed, closeds]⟩) (fun c B7 hB7 hR7 => next_of 1000 ?_)
        change BExt B6 B7 at hB7
        obtain ⟨hcL, hcb, hcg⟩ := hR7
        by_cases he : (recD b).2 = 0
        · obtain ⟨k1, k2, k3⟩ := encR_recD hcL he hcb
          have hfb : (form (recI c)).length ≤ n := by
            rw [k3, ← hn]; split
            · rw [List.length_drop]; omega
            · exact Nat.le_refl _
          rw [he]
          repeat' (simp (maxSteps := 4000000) (disch := omega) only [go_sem, Nat.reduceBEq, Nat.reduceAdd, Nat.reduceMul, Nat.reduceSub, Nat.reduceLT, Nat.reduceLeDiff, Int.reduceToNat, Int.reduceLT, Int.reduceLE, Int.reduceAdd, Int.reduceMul, Int.reduceSub, Int.reduceNeg, Int.reduceDiv, Int.reduceMod, Nat.reduceBNe, Nat.reduceGT, Int.reduceBEq, Int.reduceBNe, Int.reduceGT, Nat.reduceDiv, Nat.reduceMod, Nat.reducePow, Int.reducePow, gt_iff_lt, ge_iff_le, List.reduceReplicate, ↓reduceIte, c1, rc_len, rc_0, rc_1, rc_2, rc_259, rc_all, rc_one, rc_splice0, hcl, hBll, hBlc, hBlo, hsp, zero_rc, zrR])
          refine callS_f (encr_fn hcL k2 hcg (by omega)) (fun _ => by simp [closed, closeds]) (fun s8 B8 hB8 hR8 => next_of 1000 ?_)
          change BExt B7 B8 at hB8
          obtain ⟨hR8, -⟩ := hR8
          rw [k1] at hR8 ⊢
          rw [hn]
          have hbz := hb0.ext (hB6.trans (hB7.trans hB8))
          repeat' (simp (maxSteps := 4000000) (disch := omega) only [go_sem, Nat.reduceBEq, Nat.reduceAdd, Nat.reduceMul, Nat.reduceSub, Nat.reduceLT, Nat.reduceLeDiff, Int.reduceToNat, Int.reduceLT, Int.reduceLE, Int.reduceAdd, Int.reduceMul, Int.reduceSub, Int.reduceNeg, Int.reduceDiv, Int.reduceMod, Nat.reduceBNe, Nat.reduceGT, Int.reduceBEq, Int.reduceBNe, Int.reduceGT, Nat.reduceDiv, Nat.reduceMod, Nat.reducePow, Int.reducePow, gt_iff_lt, ge_iff_le, List.reduceReplicate, ↓reduceIte, c1, rc_len, rc_0, rc_1, rc_2, rc_259, rc_all, rc_one, rc_splice0, hcl, hBll, hBlc, hBlo, hsp, zero_rc, zrR])
          refine strBS b rfl Try.underlying23 Try.underlying5 Try.underlying9 rfl hn hR8 (next_of 1000 ?_)
          repeat' (simp (maxSteps := 4000000) (disch := omega) only [go_sem, Nat.reduceBEq, Nat.reduceAdd, Nat.reduceMul, Nat.reduceSub, Nat.reduceLT, Nat.reduceLeDiff, Int.reduceToNat, Int.reduceLT, Int.reduceLE, Int.reduceAdd, Int.reduceMul, Int.reduceSub, Int.reduceNeg, Int.reduceDiv, Int.reduceMod, Nat.reduceBNe, Nat.reduceGT, Int.reduceBEq, Int.reduceBNe, Int.reduceGT, Nat.reduceDiv, Nat.reduceMod, Nat.reducePow, Int.reducePow, gt_iff_lt, ge_iff_le, List.reduceReplicate, ↓reduceIte, c1, rc_len, rc_0, rc_1, rc_2, rc_259, rc_all, rc_one, rc_splice0, hcl, hBll, hBlc, hBlo, hsp, zero_rc, zrR])
          refine strBS b rfl Try.underlying23 Try.underlying5 Try.underlying9 rfl hn hbz (next_of 1000 ?_)
          repeat' (simp (maxSteps := 4000000) (disch := omega) only [go_sem, Nat.reduceBEq, Nat.reduceAdd, Nat.reduceMul, Nat.reduceSub, Nat.reduceLT, Nat.reduceLeDiff, Int.reduceToNat, Int.reduceLT, Int.reduceLE, Int.reduceAdd, Int.reduceMul, Int.reduceSub, Int.reduceNeg, Int.reduceDiv, Int.reduceMod, Nat.reduceBNe, Nat.reduceGT, Int.reduceBEq, Int.reduceBNe, Int.reduceGT, Nat.reduceDiv, Nat.reduceMod, Nat.reducePow, Int.reducePow, gt_iff_lt, ge_iff_le, List.reduceReplicate, ↓reduceIte, beq_self_eq_true])
          exact ⟨(hB1.trans (hB2.trans hB3)).trans (hB6.trans (hB7.trans hB8)), fun bs => rfl⟩
        · obtain ⟨E, hE⟩ : ∃ E, E = (recD b).2 := ⟨_, rfl⟩
          rw [← hE] at he ⊢
          have hei : ((E : Nat) : Int) ≠ 0 := by omega
          repeat' (first | simp (maxSteps := 4000000) (disch := omega) only [go_sem, Nat.reduceBEq, Nat.reduceAdd, Nat.reduceMul, Nat.reduceSub, Nat.reduceLT, Nat.reduceLeDiff, Int.reduceToNat, Int.reduceLT, Int.reduceLE, Int.reduceAdd, Int.reduceMul, Int.reduceSub, Int.reduceNeg, Int.reduceDiv, Int.reduceMod, Nat.reduceBNe, Nat.reduceGT, Int.reduceBEq, Int.reduceBNe, Int.reduceGT, Nat.reduceDiv, Nat.reduceMod, Nat.reducePow, Int.reducePow, gt_iff_lt, ge_iff_le, List.reduceReplicate, ↓reduceIte, c1, rc_len, rc_0, rc_1, rc_2, rc_259, rc_all, rc_one, rc_splice0, hcl, hBll, hBlc, hBlo, hsp, zero_rc, zrR] | ((first | refine condS_split (fun h => ?_) (fun h => ?_) | refine testS_split (fun h => ?_) (fun h => ?_) | refine testT_split (fun h => ?_) (fun h => ?_)) <;> (try simp only [bne_iff_ne, ne_eq, beq_iff_eq, decide_eq_true_eq, decide_eq_false_iff_not, Bool.not_eq_true, Bool.not_eq_false, Bool.not_true, Bool.not_false, bne_eq_false_iff_eq, beq_eq_false_iff_ne, Bool.and_eq_true, Bool.or_eq_true, Bool.and_eq_false_imp, Bool.or_eq_false_iff, Bool.not_eq_true', Bool.not_eq_false', Int.not_lt, Int.not_le] at h) <;> (try (exfalso; omega))))
          exact ⟨(hB1.trans (hB2.trans hB3)).trans (hB6.trans hB7), fun bs => rfl⟩
    · have c1 : decide ((20000 : Int) < (n : Int)) = true := decide_eq_true (by omega)
      repeat' (first | simp (maxSteps := 4000000) (disch := omega) only [go_sem, Nat.reduceBEq, Nat.reduceAdd, Nat.reduceMul, Nat.reduceSub, Nat.reduceLT, Nat.reduceLeDiff, Int.reduceToNat, Int.reduceLT, Int.reduceLE, Int.reduceAdd, Int.reduceMul, Int.reduceSub, Int.reduceNeg, Int.reduceDiv, Int.reduceMod, Nat.reduceBNe, Nat.reduceGT, Int.reduceBEq, Int.reduceBNe, Int.reduceGT, Nat.reduceDiv, Nat.reduceMod, Nat.reducePow, Int.reducePow, gt_iff_lt, ge_iff_le, List.reduceReplicate, ↓reduceIte, c1] | refine callS_fp (hfew) (by simp [closed, closeds, closeds_ints, closed_wE]) (next_of 1000 ?_))
      exact ⟨BExt.refl _, fun bs => rfl⟩
end Go.Proofs.Ytepabkjfnpaijaa

