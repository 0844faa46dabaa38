/- Part of a proof over the seat YthknokcfmpahcaaDoor. -/
import Derived.Test.YthknokcfmpahcaaDoorTQ2
import Derived.Test.YthknokcfmpahcaaDoorLM
namespace Go.Proofs.YthknokcfmpahcaaDoor
open Go RowKit Go.Ew
set_option maxRecDepth 100000
set_option linter.unusedSimpArgs false
set_option linter.unusedVariables false
set_option maxHeartbeats 8000000
theorem in12 : codeIn Tryd.f12.ntmps (Tryd.f12.body.getD .skip) = true := by kernel_rfl
theorem awake_p : Pure Tryd.prog 15 [] (.bool true) := ⟨en15, by simp [closed], fun bs w => by simpa [reals, real] using awake_calls w⟩
theorem law_prices (a : Nat → Int) (ha : wIn a) (t : Int) (ht : -9223372036854775808 ≤ t ∧ t < 9223372036854775808) (n : Int) (h0 : 0 ≤ n) (h1 : n < 18446744073709551616) (warm : Bool) (l : List UInt8) (ad : Option Addr) (cap : Nat) (w : World) (hby : BytesAt (base w) ad l) (hl : l.length ≤ 140737488355328) :
    Calls Tryd.prog 12 #[wV a, .int .i64 t, .int .u64 n, .bool warm, .slice ad l.length cap] w (Ret (.bool true) w) := by
  have hN := wn_lt a ha
  have c1 := copy_p a ha
  have c2 := refcopy_p a ha
  have c3 := keccak_p a ha
  have c4 := refkeccak_p a ha
  have c5 := log_p a ha t ht
  have c6 := reflog_p a ha t ht
  have hbn := bn_in (wn_nn a ha)
  obtain ⟨L1, L2, hL⟩ : ∃ L1 L2 : Int, logV t (wn a) = .tup [.int .u64 L1, .int .i64 L2] := by
    unfold logV
    split
    · exact ⟨_, _, rfl⟩
    · split <;> exact ⟨_, _, rfl⟩
  rw [hL] at c5 c6
  rw [wA_wE a ha] at c1 c2 c3 c4 c5 c6
  refine pure_callsX [wA a, .int .i64 t, .int .u64 n, .bool warm, .raw (.slice ad l.length cap)] Tryd.func12 rfl in12 (by simp [Tryd.f12]) (by simp [closeds, closed, wA]) ?_
  rw [wA_wE a ha]
  generalize base w = B0 at hby ⊢
  generalize (wn a).toNat = x at c1 c2 c3 c4 c5 c6 hN ⊢
  refine next_of 1000 ?_
  repeat' (first
    | with_reducible refine And.intro (by first | omega | assumption | (constructor <;> assumption) | (simp; done) | (simp; omega) | (simp [*]; done) | ((repeat' refine And.intro ?_ ?_) <;> first | omega | assumption | (refine SlOk.so (n := ?_) ?_ ?_; rotate_left; assumption; omega) | (simp; done) | fail) | fail) ?_
    | simp (maxSteps := 4000000) (disch := omega) only [go_sem, Nat.reduceBEq, Nat.reduceAdd, Nat.reduceMul, Nat.reduceSub, Nat.reduceLT, Nat.reduceLeDiff, Int.reduceToNat, Int.reduceLT, Int.reduceLE, Int.reduceAdd, Int.reduceMul, Int.reduceSub, Int.reduceNeg, Int.reduceDiv, Int.reduceMod, Nat.reduceBNe, Nat.reduceGT, Int.reduceBEq, Int.reduceBNe, Int.reduceGT, Nat.reduceDiv, Nat.reduceMod, Nat.reducePow, Int.reducePow, gt_iff_lt, ge_iff_le, List.reduceReplicate, ↓reduceIte, Tryd.f12, bne_self_eq_false, beq_self_eq_true, Bool.and_self]
    | with_reducible refine roundS (next_of 1000 ?_)
    | with_reducible refine drawT_of (id := 11) [0, 1, 2, 3, 4, 5, 6, 7, 8, 9, 11, 10, 12, 13, 14, 15, 16, 18, 17, 19, 20, 21, 22, 23, 25, 24, 26, 27, 28, 29, 30, 32, 31, 33, 34, 35, 36, 37, 39, 38, 40, 41, 42, 43, 44, 45, 48, 46, 47, 49, 50, 51, 52] mixed (by kernel_rfl) (by simp) (fun hin => dt_of 1000 hin ?_)
    | with_reducible refine endT_of (by kernel_rfl) (nmT_of (by kernel_rfl)) (next_of 1000 ?_)
    | with_reducible refine drawS_of mixed (by kernel_rfl) (dg_of 1000 ?_)
    | with_reducible refine endD_of (by kernel_rfl) (next_of 1000 ?_)
    | refine callS_p (c1) (next_of 1000 ?_)
    | refine callT_p (c1) (by kernel_rfl) (ck_of (by kernel_rfl) (nmT_of (by kernel_rfl))) (fun hin => dt_of 1000 hin ?_)
    | refine callS_p (c2) (next_of 1000 ?_)
    | refine callT_p (c2) (by kernel_rfl) (ck_of (by kernel_rfl) (nmT_of (by kernel_rfl))) (fun hin => dt_of 1000 hin ?_)
    | refine callS_p (c3) (next_of 1000 ?_)
    | refine callT_p (c3) (by kernel_rfl) (ck_of (by kernel_rfl) (nmT_of (by kernel_rfl))) (fun hin => dt_of 1000 hin ?_)
    | refine callS_p (c4) (next_of 1000 ?_)
    | refine callT_p (c4) (by kernel_rfl) (ck_of (by kernel_rfl) (nmT_of (by kernel_rfl))) (fun hin => dt_of 1000 hin ?_)
    | refine callS_p (c5) (next_of 1000 ?_)
    | refine callT_p (c5) (by kernel_rfl) (ck_of (by kernel_rfl) (nmT_of (by kernel_rfl))) (fun hin => dt_of 1000 hin ?_)
    | refine callS_p (c6) (next_of 1000 ?_)
    | refine callT_p (c6) (by kernel_rfl) (ck_of (by kernel_rfl) (nmT_of (by kernel_rfl))) (fun hin => dt_of 1000 hin ?_)
    | refine callS_p (awake_p) (next_of 1000 ?_)
    | refine callT_p (awake_p) (by kernel_rfl) (ck_of (by kernel_rfl) (nmT_of (by kernel_rfl))) (fun hin => dt_of 1000 hin ?_)
    | refine callS_p (exp_p x hN) (next_of 1000 ?_)
    | refine callT_p (exp_p x hN) (by kernel_rfl) (ck_of (by kernel_rfl) (nmT_of (by kernel_rfl))) (fun hin => dt_of 1000 hin ?_)
    | refine callS_fp (refexp_fn x hN _) (by simp [closed, closeds, closeds_ints, closed_wE]) (next_of 1000 ?_)
    | refine callT_fp (refexp_fn x hN _) (by simp [closed, closeds, closeds_ints, closed_wE]) (by kernel_rfl) (ck_of (by kernel_rfl) (nmT_of (by kernel_rfl))) (fun hin => dt_of 1000 hin ?_)
    | refine callS_p (account_p _) (next_of 1000 ?_)
    | refine callT_p (account_p _) (by kernel_rfl) (ck_of (by kernel_rfl) (nmT_of (by kernel_rfl))) (fun hin => dt_of 1000 hin ?_)
    | refine callS_p (refaccount_p _) (next_of 1000 ?_)
    | refine callT_p (refaccount_p _) (by kernel_rfl) (ck_of (by kernel_rfl) (nmT_of (by kernel_rfl))) (fun hin => dt_of 1000 hin ?_)
    | refine callS_p (slot_p _) (next_of 1000 ?_)
    | refine callT_p (slot_p _) (by kernel_rfl) (ck_of (by kernel_rfl) (nmT_of (by kernel_rfl))) (fun hin => dt_of 1000 hin ?_)
    | refine callS_p (refslot_p _) (next_of 1000 ?_)
    | refine callT_p (refslot_p _) (by kernel_rfl) (ck_of (by kernel_rfl) (nmT_of (by kernel_rfl))) (fun hin => dt_of 1000 hin ?_)
    | refine callS_p (init_p n h0 h1) (next_of 1000 ?_)
    | refine callT_p (init_p n h0 h1) (by kernel_rfl) (ck_of (by kernel_rfl) (nmT_of (by kernel_rfl))) (fun hin => dt_of 1000 hin ?_)
    | refine callS_p (refinit_p n h0 h1) (next_of 1000 ?_)
    | refine callT_p (refinit_p n h0 h1) (by kernel_rfl) (ck_of (by kernel_rfl) (nmT_of (by kernel_rfl))) (fun hin => dt_of 1000 hin ?_)
    | refine callS_p (deposit_p n h0 h1) (next_of 1000 ?_)
    | refine callT_p (deposit_p n h0 h1) (by kernel_rfl) (ck_of (by kernel_rfl) (nmT_of (by kernel_rfl))) (fun hin => dt_of 1000 hin ?_)
    | refine callS_p (refdeposit_p n h0 h1) (next_of 1000 ?_)
    | refine callT_p (refdeposit_p n h0 h1) (by kernel_rfl) (ck_of (by kernel_rfl) (nmT_of (by kernel_rfl))) (fun hin => dt_of 1000 hin ?_)
    | with_reducible refine next_of 1000 ?_
    | ((first | refine condS_split (fun h => ?_) (fun h => ?_) | refine testS_split (fun h => ?_) (fun h => ?_) | refine testT_split (fun h => ?_) (fun h => ?_)) <;> (try simp only [bne_iff_ne, ne_eq, beq_iff_eq, decide_eq_true_eq, decide_eq_false_iff_not, Bool.not_eq_true, Bool.not_eq_false, Bool.not_true, Bool.not_false, bne_eq_false_iff_eq, beq_eq_false_iff_ne, Bool.and_eq_true, Bool.or_eq_true, Bool.and_eq_false_imp, Bool.or_eq_false_iff, Bool.not_eq_true', Bool.not_eq_false', Int.not_lt, Int.not_le] at h) <;> (try (exfalso; omega))))
  refine appBT (T := 5) (l := some (0, [])) (xs := []) 113 100111 0 l [] rfl rfl Tryd.underlying41 (.inl ⟨_, Tryd.underlying41⟩) zr5 cz5 by5 rfl rfl rfl (by simp [lOk, maxLen]) (fun B hs hB _ => (hby.ext hB).src _) (by omega) (by simp) (by kernel_rfl) (ck_of (by kernel_rfl) (nmT_of (by kernel_rfl))) (fun l' hl' => dt_of 1000 (by assumption) ?_)
  simp only [Nat.zero_add, List.nil_append] at hl' ⊢
  repeat' (first
    | with_reducible refine And.intro (by first | omega | assumption | (constructor <;> assumption) | (simp; done) | (simp; omega) | (simp [*]; done) | ((repeat' refine And.intro ?_ ?_) <;> first | omega | assumption | (refine SlOk.so (n := ?_) ?_ ?_; rotate_left; assumption; omega) | (simp; done) | fail) | fail) ?_
    | simp (maxSteps := 4000000) (disch := omega) only [go_sem, Nat.reduceBEq, Nat.reduceAdd, Nat.reduceMul, Nat.reduceSub, Nat.reduceLT, Nat.reduceLeDiff, Int.reduceToNat, Int.reduceLT, Int.reduceLE, Int.reduceAdd, Int.reduceMul, Int.reduceSub, Int.reduceNeg, Int.reduceDiv, Int.reduceMod, Nat.reduceBNe, Nat.reduceGT, Int.reduceBEq, Int.reduceBNe, Int.reduceGT, Nat.reduceDiv, Nat.reduceMod, Nat.reducePow, Int.reducePow, gt_iff_lt, ge_iff_le, List.reduceReplicate, ↓reduceIte, bne_self_eq_false, beq_self_eq_true, Bool.and_self]
    | with_reducible refine roundS (next_of 1000 ?_)
    | with_reducible refine drawT_of (id := 11) [0, 1, 2, 3, 4, 5, 6, 7, 8, 9, 11, 10, 12, 13, 14, 15, 16, 18, 17, 19, 20, 21, 22, 23, 25, 24, 26, 27, 28, 29, 30, 32, 31, 33, 34, 35, 36, 37, 39, 38, 40, 41, 42, 43, 44, 45, 48, 46, 47, 49, 50, 51, 52] mixed (by kernel_rfl) (by simp) (fun hin => dt_of 1000 hin ?_)
    | with_reducible refine endT_of (by kernel_rfl) (nmT_of (by kernel_rfl)) (next_of 1000 ?_)
    | with_reducible refine drawS_of mixed (by kernel_rfl) (dg_of 1000 ?_)
    | with_reducible refine endD_of (by kernel_rfl) (next_of 1000 ?_)
    | with_reducible refine next_of 1000 ?_
    | ((first | refine condS_split (fun h => ?_) (fun h => ?_) | refine testS_split (fun h => ?_) (fun h => ?_) | refine testT_split (fun h => ?_) (fun h => ?_)) <;> (try simp only [bne_iff_ne, ne_eq, beq_iff_eq, decide_eq_true_eq, decide_eq_false_iff_not, Bool.not_eq_true, Bool.not_eq_false, Bool.not_true, Bool.not_false, bne_eq_false_iff_eq, beq_eq_false_iff_ne, Bool.and_eq_true, Bool.or_eq_true, Bool.and_eq_false_imp, Bool.or_eq_false_iff, Bool.not_eq_true', Bool.not_eq_false', Int.not_lt, Int.not_le] at h) <;> (try (exfalso; omega))))
  refine ⟨by rcases l' with _ | ⟨q1, q2⟩ <;> rfl, ?_⟩
  refine callT_rd 100113 l.length en52 rfl rfl hl' (by simp [closed]) (fun B ad cap hb => data_fn l _ rfl (by omega) ad cap B hb) (by kernel_rfl) (ck_of (by kernel_rfl) (nmT_of (by kernel_rfl))) (fun hin => dt_of 1000 hin ?_)
  repeat' (first
    | with_reducible refine And.intro (by first | omega | assumption | (constructor <;> assumption) | (simp; done) | (simp; omega) | (simp [*]; done) | ((repeat' refine And.intro ?_ ?_) <;> first | omega | assumption | (refine SlOk.so (n := ?_) ?_ ?_; rotate_left; assumption; omega) | (simp; done) | fail) | fail) ?_
    | simp (maxSteps := 4000000) (disch := omega) only [go_sem, Nat.reduceBEq, Nat.reduceAdd, Nat.reduceMul, Nat.reduceSub, Nat.reduceLT, Nat.reduceLeDiff, Int.reduceToNat, Int.reduceLT, Int.reduceLE, Int.reduceAdd, Int.reduceMul, Int.reduceSub, Int.reduceNeg, Int.reduceDiv, Int.reduceMod, Nat.reduceBNe, Nat.reduceGT, Int.reduceBEq, Int.reduceBNe, Int.reduceGT, Nat.reduceDiv, Nat.reduceMod, Nat.reducePow, Int.reducePow, gt_iff_lt, ge_iff_le, List.reduceReplicate, ↓reduceIte, bne_self_eq_false, beq_self_eq_true, Bool.and_self]
    | with_reducible refine roundS (next_of 1000 ?_)
    | with_reducible refine drawT_of (id := 11) [0, 1, 2, 3, 4, 5, 6, 7, 8, 9, 11, 10, 12, 13, 14, 15, 16, 18, 17, 19, 20, 21, 22, 23, 25, 24, 26, 27, 28, 29, 30, 32, 31, 33, 34, 35, 36, 37, 39, 38, 40, 41, 42, 43, 44, 45, 48, 46, 47, 49, 50, 51, 52] mixed (by kernel_rfl) (by simp) (fun hin => dt_of 1000 hin ?_)
    | with_reducible refine endT_of (by kernel_rfl) (nmT_of (by kernel_rfl)) (next_of 1000 ?_)
    | with_reducible refine drawS_of mixed (by kernel_rfl) (dg_of 1000 ?_)
    | with_reducible refine endD_of (by kernel_rfl) (next_of 1000 ?_)
    | refine callS_fp (refdata_fn l _ rfl (by omega) ad cap _ hby) (by simp [closed, closeds, closeds_ints, closed_wE]) (next_of 1000 ?_)
    | refine callT_fp (refdata_fn l _ rfl (by omega) ad cap _ hby) (by simp [closed, closeds, closeds_ints, closed_wE]) (by kernel_rfl) (ck_of (by kernel_rfl) (nmT_of (by kernel_rfl))) (fun hin => dt_of 1000 hin ?_)
    | with_reducible refine next_of 1000 ?_
    | ((first | refine condS_split (fun h => ?_) (fun h => ?_) | refine testS_split (fun h => ?_) (fun h => ?_) | refine testT_split (fun h => ?_) (fun h => ?_)) <;> (try simp only [bne_iff_ne, ne_eq, beq_iff_eq, decide_eq_true_eq, decide_eq_false_iff_not, Bool.not_eq_true, Bool.not_eq_false, Bool.not_true, Bool.not_false, bne_eq_false_iff_eq, beq_eq_false_iff_ne, Bool.and_eq_true, Bool.or_eq_true, Bool.and_eq_false_imp, Bool.or_eq_false_iff, Bool.not_eq_true', Bool.not_eq_false', Int.not_lt, Int.not_le] at h) <;> (try (exfalso; omega))))
  exact ⟨BExt.refl _, fun bs => rfl⟩
end Go.Proofs.YthknokcfmpahcaaDoor
