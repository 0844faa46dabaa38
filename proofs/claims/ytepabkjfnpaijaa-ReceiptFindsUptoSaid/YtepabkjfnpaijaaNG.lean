/- Part of a proof over the seat Ytepabkjfnpaijaa. -/
import Derived.Test.YtepabkjfnpaijaaNF
namespace Go.Proofs.Ytepabkjfnpaijaa
open Go RowKit Go.Ew
set_option maxRecDepth 100000
set_option linter.unusedSimpArgs false
set_option linter.unusedVariables false
set_option maxHeartbeats 4000000
theorem in4 : codeIn Try.f4.ntmps (Try.f4.body.getD .skip) = true := by kernel_rfl
theorem law_finds (W : World) (Rs : List RcV) (A : List (List UInt8)) (T : List KsV) (rA aA tA : Option Addr) (rc ac tc : Nat) (hR : RcsAt (base W) rA Rs) (hA : KeysAt (base W) 20 aA A) (hT : TopsAt (base W) tA T) :
    Calls Try.prog 4 #[.slice rA Rs.length rc, .slice aA A.length ac, .slice tA T.length tc] W (Ret (.bool true) W) := by
  refine pure_callsX [.raw (.slice rA Rs.length rc), .raw (.slice aA A.length ac), .raw (.slice tA T.length tc)] Try.func4 rfl in4 (by simp [Try.f4]) (by simp [closeds, closed]) (next_of 1000 ?_)
  have hlR := hR.len
  repeat' (first | simp (maxSteps := 4000000) (disch := omega) only [go_sem, Nat.reduceBEq, Nat.reduceAdd, Nat.reduceMul, Nat.reduceSub, Nat.reduceLT, Nat.reduceLeDiff, Int.reduceToNat, Int.reduceLT, Int.reduceLE, Int.reduceAdd, Int.reduceMul, Int.reduceSub, Int.reduceNeg, Int.reduceDiv, Int.reduceMod, Nat.reduceBNe, Nat.reduceGT, Int.reduceBEq, Int.reduceBNe, Int.reduceGT, Nat.reduceDiv, Nat.reduceMod, Nat.reducePow, Int.reducePow, gt_iff_lt, ge_iff_le, List.reduceReplicate, ↓reduceIte, Try.f4] | refine callS_fp (awake_fn _) (by simp [closed, closeds, closeds_ints, closed_wE]) (next_of 1000 ?_))
  refine loopU (S := Nat) (fun i => i ≤ Rs.length ∧ (∀ r ∈ Rs.take i, r.L.length ≤ 500) ∧ (0 < i → Rs.length ≤ 40))
    (fun i => ⟨[(13, .int .i64 (i : Nat)), (12, .int .i64 (Rs.length : Nat)), (11, .raw (.slice rA Rs.length rc)), (0, .raw (.slice rA Rs.length rc)), (1, .raw (.slice aA A.length ac)), (2, .raw (.slice tA T.length tc))], 0, [], base W, []⟩)
    (fun i => Rs.length - i) 0 ⟨Nat.zero_le _, by simp, by omega⟩ (Weak.sub (weak_of (by simp [wσ, go_sem, closed, closeds, lE_closed, ] <;> omega) (by simp [whs, Go.Ew.hget, go_sem, EObj.closed, closed, closeds, lE_closed, ]) (by simp [*]) rfl rfl (by simp))) ?_
  rintro i ⟨hi, hall, h40⟩
  rcases Nat.lt_or_ge i Rs.length with hi2 | hi2
  · refine next_of 1000 ?_
    simp (maxSteps := 4000000) (disch := omega) only [go_sem, Nat.reduceBEq, Nat.reduceAdd, Nat.reduceMul, Nat.reduceSub, Nat.reduceLT, Nat.reduceLeDiff, Int.reduceToNat, Int.reduceLT, Int.reduceLE, Int.reduceAdd, Int.reduceMul, Int.reduceSub, Int.reduceNeg, Int.reduceDiv, Int.reduceMod, Nat.reduceBNe, Nat.reduceGT, Int.reduceBEq, Int.reduceBNe, Int.reduceGT, Nat.reduceDiv, Nat.reduceMod, Nat.reducePow, Int.reducePow, gt_iff_lt, ge_iff_le, List.reduceReplicate, ↓reduceIte]
    repeat (with_reducible refine And.intro (by first | omega | assumption | (constructor <;> assumption) | (simp; done) | (simp; omega) | (simp [*]; done) | ((repeat' refine And.intro ?_ ?_) <;> first | omega | assumption | (refine SlOk.so (n := ?_) ?_ ?_; rotate_left; assumption; omega) | (simp; done) | fail) | fail) ?_)
    refine condS_split (fun h2 => ?_) (fun h2 => by simp at h2; omega)
    obtain ⟨l1, l2, l3, l4⟩ := hR.ld hi2
    have l2' : (adr rA).block < W.heap.size := l2
    have hL := hR.ok _ (List.getElem_mem hi2)
    have htk : Rs.take (i + 1) = Rs.take i ++ [Rs[i]] := List.take_succ_eq_append_getElem hi2
    obtain ⟨r, hr⟩ : ∃ r, r = Rs[i] := ⟨_, rfl⟩
    rw [← hr] at l1 hL htk
    have hfew := few_fn r.L r.L.length _ r.lA r.lc hL rfl
    cases hb : decide (r.L.length + fewS r.L ≤ 500) with
    | false =>
      rw [hb] at hfew
      repeat' (first | with_reducible refine And.intro (by first | omega | assumption | (constructor <;> assumption) | (simp; done) | (simp; omega) | (simp [*]; done) | ((repeat' refine And.intro ?_ ?_) <;> first | omega | assumption | (refine SlOk.so (n := ?_) ?_ ?_; rotate_left; assumption; omega) | (simp; done) | fail) | fail) ?_ | simp (maxSteps := 4000000) (disch := omega) only [go_sem, Nat.reduceBEq, Nat.reduceAdd, Nat.reduceMul, Nat.reduceSub, Nat.reduceLT, Nat.reduceLeDiff, Int.reduceToNat, Int.reduceLT, Int.reduceLE, Int.reduceAdd, Int.reduceMul, Int.reduceSub, Int.reduceNeg, Int.reduceDiv, Int.reduceMod, Nat.reduceBNe, Nat.reduceGT, Int.reduceBEq, Int.reduceBNe, Int.reduceGT, Nat.reduceDiv, Nat.reduceMod, Nat.reducePow, Int.reducePow, gt_iff_lt, ge_iff_le, List.reduceReplicate, ↓reduceIte, Int.toNat_natCast, l1, rc_len, rc_one, rc_splice, rc_259] | refine callS_fp (hfew) (by simp [closed, closeds, closeds_ints, closed_wE]) (next_of 1000 ?_))
      exact ⟨BExt.refl _, fun bs => rfl⟩
    | true =>
      rw [hb] at hfew
      have hle : r.L.length ≤ 500 := by have := of_decide_eq_true hb; omega
      rcases Nat.lt_or_ge 40 Rs.length with h4 | h4
      · have c1 : decide ((40 : Int) < (Rs.length : Int)) = true := decide_eq_true (by omega)
        repeat' (first | with_reducible refine And.intro (by first | omega | assumption | (constructor <;> assumption) | (simp; done) | (simp; omega) | (simp [*]; done) | ((repeat' refine And.intro ?_ ?_) <;> first | omega | assumption | (refine SlOk.so (n := ?_) ?_ ?_; rotate_left; assumption; omega) | (simp; done) | fail) | fail) ?_ | simp (maxSteps := 4000000) (disch := omega) only [go_sem, Nat.reduceBEq, Nat.reduceAdd, Nat.reduceMul, Nat.reduceSub, Nat.reduceLT, Nat.reduceLeDiff, Int.reduceToNat, Int.reduceLT, Int.reduceLE, Int.reduceAdd, Int.reduceMul, Int.reduceSub, Int.reduceNeg, Int.reduceDiv, Int.reduceMod, Nat.reduceBNe, Nat.reduceGT, Int.reduceBEq, Int.reduceBNe, Int.reduceGT, Nat.reduceDiv, Nat.reduceMod, Nat.reducePow, Int.reducePow, gt_iff_lt, ge_iff_le, List.reduceReplicate, ↓reduceIte, Int.toNat_natCast, l1, rc_len, rc_one, rc_splice, rc_259, c1] | refine callS_fp (hfew) (by simp [closed, closeds, closeds_ints, closed_wE]) (next_of 1000 ?_))
        exact ⟨BExt.refl _, fun bs => rfl⟩
      · have c1 : decide ((40 : Int) < (Rs.length : Int)) = false := decide_eq_false (by omega)
        repeat' (first | with_reducible refine And.intro (by first | omega | assumption | (constructor <;> assumption) | (simp; done) | (simp; omega) | (simp [*]; done) | ((repeat' refine And.intro ?_ ?_) <;> first | omega | assumption | (refine SlOk.so (n := ?_) ?_ ?_; rotate_left; assumption; omega) | (simp; done) | fail) | fail) ?_ | simp (maxSteps := 4000000) (disch := omega) only [go_sem, Nat.reduceBEq, Nat.reduceAdd, Nat.reduceMul, Nat.reduceSub, Nat.reduceLT, Nat.reduceLeDiff, Int.reduceToNat, Int.reduceLT, Int.reduceLE, Int.reduceAdd, Int.reduceMul, Int.reduceSub, Int.reduceNeg, Int.reduceDiv, Int.reduceMod, Nat.reduceBNe, Nat.reduceGT, Int.reduceBEq, Int.reduceBNe, Int.reduceGT, Nat.reduceDiv, Nat.reduceMod, Nat.reducePow, Int.reducePow, gt_iff_lt, ge_iff_le, List.reduceReplicate, ↓reduceIte, Int.toNat_natCast, l1, rc_len, rc_one, rc_splice, rc_259, c1] | refine callS_fp (hfew) (by simp [closed, closeds, closeds_ints, closed_wE]) (next_of 1000 ?_))
        refine ⟨i + 1, ⟨hi2, fun a ha => ?_, fun _ => h4⟩, Weak.sub (weak_of (by simp [wσ, go_sem, closed, closeds, lE_closed, ] <;> omega) (by simp [whs, Go.Ew.hget, go_sem, EObj.closed, closed, closeds, lE_closed, ]) (by simp [*]) rfl rfl (by simp)), by omega⟩
        rw [htk] at ha
        rcases List.mem_append.1 ha with h | h
        · exact hall a h
        · obtain rfl := List.mem_singleton.1 h; exact hle
  · obtain rfl : i = Rs.length := by omega
    rw [List.take_length] at hall
    have h4 : Rs.length ≤ 40 := by
      rcases Nat.eq_zero_or_pos Rs.length with h0 | h0
      · omega
      · exact h40 h0
    refine next_of 1000 ?_
    simp (maxSteps := 4000000) (disch := omega) only [go_sem, Nat.reduceBEq, Nat.reduceAdd, Nat.reduceMul, Nat.reduceSub, Nat.reduceLT, Nat.reduceLeDiff, Int.reduceToNat, Int.reduceLT, Int.reduceLE, Int.reduceAdd, Int.reduceMul, Int.reduceSub, Int.reduceNeg, Int.reduceDiv, Int.reduceMod, Nat.reduceBNe, Nat.reduceGT, Int.reduceBEq, Int.reduceBNe, Int.reduceGT, Nat.reduceDiv, Nat.reduceMod, Nat.reducePow, Int.reducePow, gt_iff_lt, ge_iff_le, List.reduceReplicate, ↓reduceIte]
    repeat (with_reducible refine And.intro (by first | omega | assumption | (constructor <;> assumption) | (simp; done) | (simp; omega) | (simp [*]; done) | ((repeat' refine And.intro ?_ ?_) <;> first | omega | assumption | (refine SlOk.so (n := ?_) ?_ ?_; rotate_left; assumption; omega) | (simp; done) | fail) | fail) ?_)
    refine condS_split (fun h2 => by simp at h2) (fun h2 => ?_)
    repeat' (first | simp (maxSteps := 4000000) (disch := omega) only [go_sem, Nat.reduceBEq, Nat.reduceAdd, Nat.reduceMul, Nat.reduceSub, Nat.reduceLT, Nat.reduceLeDiff, Int.reduceToNat, Int.reduceLT, Int.reduceLE, Int.reduceAdd, Int.reduceMul, Int.reduceSub, Int.reduceNeg, Int.reduceDiv, Int.reduceMod, Nat.reduceBNe, Nat.reduceGT, Int.reduceBEq, Int.reduceBNe, Int.reduceGT, Nat.reduceDiv, Nat.reduceMod, Nat.reducePow, Int.reducePow, gt_iff_lt, ge_iff_le, List.reduceReplicate, ↓reduceIte] | with_reducible refine next_of 1000 ?_)
    refine callS_f (find_fn Rs A T _ _ _ rA aA tA rc ac tc hR hA hT rfl rfl rfl h4 hall) (fun _ => by simp [closed]) (fun s1 B1 hB1 hR1 => next_of 1000 ?_)
    change BExt (base W) B1 at hB1
    repeat' (simp (maxSteps := 4000000) (disch := omega) only [go_sem, Nat.reduceBEq, Nat.reduceAdd, Nat.reduceMul, Nat.reduceSub, Nat.reduceLT, Nat.reduceLeDiff, Int.reduceToNat, Int.reduceLT, Int.reduceLE, Int.reduceAdd, Int.reduceMul, Int.reduceSub, Int.reduceNeg, Int.reduceDiv, Int.reduceMod, Nat.reduceBNe, Nat.reduceGT, Int.reduceBEq, Int.reduceBNe, Int.reduceGT, Nat.reduceDiv, Nat.reduceMod, Nat.reducePow, Int.reducePow, gt_iff_lt, ge_iff_le, List.reduceReplicate, ↓reduceIte])
    refine callS_f (reffind_fn Rs A T _ _ _ rA aA tA rc ac tc (hR.ext hB1) (hA.ext hB1) (hT.ext hB1) rfl rfl rfl h4 hall) (fun _ => by simp [closed]) (fun s2 B2 hB2 hR2 => next_of 1000 ?_)
    change BExt B1 B2 at hB2
    have hsm := samelogs_fn s1.2.2 (findL A (T.map KsV.l) Rs) _ _ s1.1 s2.1 s1.2.1 s2.2 (hR1.1.ext hB2) hR2 hR1.2 rfl rfl
    repeat' (first | simp (maxSteps := 4000000) (disch := omega) only [go_sem, Nat.reduceBEq, Nat.reduceAdd, Nat.reduceMul, Nat.reduceSub, Nat.reduceLT, Nat.reduceLeDiff, Int.reduceToNat, Int.reduceLT, Int.reduceLE, Int.reduceAdd, Int.reduceMul, Int.reduceSub, Int.reduceNeg, Int.reduceDiv, Int.reduceMod, Nat.reduceBNe, Nat.reduceGT, Int.reduceBEq, Int.reduceBNe, Int.reduceGT, Nat.reduceDiv, Nat.reduceMod, Nat.reducePow, Int.reducePow, gt_iff_lt, ge_iff_le, List.reduceReplicate, ↓reduceIte] | refine callS_fp (hsm) (by simp [closed, closeds, closeds_ints, closed_wE]) (next_of 1000 ?_))
    exact ⟨hB1.trans hB2, fun bs => rfl⟩
end Go.Proofs.Ytepabkjfnpaijaa
