/- Part of a proof over the seat YthknokcfmpahcaaDoor. -/
import Derived.Test.YthknokcfmpahcaaDoorTQ0
namespace Go.Proofs.YthknokcfmpahcaaDoor
open Go RowKit Go.Ew
set_option maxRecDepth 100000
set_option linter.unusedSimpArgs false
set_option linter.unusedVariables false
set_option maxHeartbeats 4000000
theorem in36 : codeIn Tryd.f36.ntmps (Tryd.f36.body.getD .skip) = true := by kernel_rfl
theorem in37 : codeIn Tryd.f37.ntmps (Tryd.f37.body.getD .skip) = true := by kernel_rfl
theorem in38 : codeIn Tryd.f38.ntmps (Tryd.f38.body.getD .skip) = true := by kernel_rfl
theorem in39 : codeIn Tryd.f39.ntmps (Tryd.f39.body.getD .skip) = true := by kernel_rfl
theorem in40 : codeIn Tryd.f40.ntmps (Tryd.f40.body.getD .skip) = true := by kernel_rfl
theorem in41 : codeIn Tryd.f41.ntmps (Tryd.f41.body.getD .skip) = true := by kernel_rfl
theorem in42 : codeIn Tryd.f42.ntmps (Tryd.f42.body.getD .skip) = true := by kernel_rfl
theorem in43 : codeIn Tryd.f43.ntmps (Tryd.f43.body.getD .skip) = true := by kernel_rfl
theorem in46 : codeIn Tryd.f46.ntmps (Tryd.f46.body.getD .skip) = true := by kernel_rfl
theorem in47 : codeIn Tryd.f47.ntmps (Tryd.f47.body.getD .skip) = true := by kernel_rfl
theorem in48 : codeIn Tryd.f48.ntmps (Tryd.f48.body.getD .skip) = true := by kernel_rfl
theorem in49 : codeIn Tryd.f49.ntmps (Tryd.f49.body.getD .skip) = true := by kernel_rfl
theorem in50 : codeIn Tryd.f50.ntmps (Tryd.f50.body.getD .skip) = true := by kernel_rfl
theorem in51 : codeIn Tryd.f51.ntmps (Tryd.f51.body.getD .skip) = true := by kernel_rfl
theorem in52 : codeIn Tryd.f52.ntmps (Tryd.f52.body.getD .skip) = true := by kernel_rfl
theorem in53 : codeIn Tryd.f53.ntmps (Tryd.f53.body.getD .skip) = true := by kernel_rfl
theorem in70 : codeIn Tryd.f70.ntmps (Tryd.f70.body.getD .skip) = true := by kernel_rfl
theorem in71 : codeIn Tryd.f71.ntmps (Tryd.f71.body.getD .skip) = true := by kernel_rfl
def wA (a : Nat → Int) : EV := .agg [.int .u64 (a 0), .int .u64 (a 1), .int .u64 (a 2), .int .u64 (a 3)]
theorem wA_real (a : Nat → Int) (bs : Nat → Nat) : real bs (wA a) = wV a := by simp [wA, real, reals, wV]
theorem pure_a {f : FuncId} {a : Nat → Int} {v : EV} {V : Value} (hE : Enters Tryd.prog f) (hv : closed 0 v) (hr : ∀ bs, real bs v = V) (h : ∀ w, Calls Tryd.prog f #[wV a] w (Ret V w)) : Pure Tryd.prog f [wA a] v :=
  ⟨hE, hv, fun bs w => by rw [hr]; simpa [reals, wA_real] using h w⟩
theorem small_p (a : Nat → Int) (ha : wIn a) : Pure Tryd.prog 62 [wA a] (.tup [.int .u64 (if a 1 = 0 ∧ a 2 = 0 ∧ a 3 = 0 then a 0 else 0), .bool (decide (a 1 = 0 ∧ a 2 = 0 ∧ a 3 = 0))]) :=
  pure_a en62 (by simp [closed, closeds]) (fun bs => by simp [real, reals]) (fun w => small_calls a ha w)
theorem sml_p (a : Nat → Int) (ha : wIn a) : Pure Tryd.prog 64 [wA a] (.int .u64 (smI (wn a))) := pure_a en64 (by simp [closed]) (fun bs => rfl) (fun w => sml_calls a ha w)
theorem words_p (n : Int) (h0 : 0 ≤ n) (h1 : n < 18446744073709551616) : Pure Tryd.prog 18 [.int .u64 n] (.int .u64 (words n)) := ⟨en18, by simp [closed], fun bs w => by simpa [reals, real] using words_calls n h0 h1 w⟩
theorem refwords_p (n : Int) (h0 : 0 ≤ n) (h1 : n < 18446744073709551616) : Pure Tryd.prog 19 [.int .u64 n] (.int .u64 (words n)) := ⟨en19, by simp [closed], fun bs w => by simpa [reals, real] using refwords_calls n h0 h1 w⟩
/-- What there is to pay for, and the error. -/
def bnI (N : Int) : Int := if N ≤ 8388608 then N else 0
def beI (N : Int) : Int := if N ≤ 8388608 then 0 else 140
theorem bounded_p (a : Nat → Int) (ha : wIn a) : Pure Tryd.prog 70 [wA a] (.tup [.int .u64 (bnI (wn a)), .int .i64 (beI (wn a))]) := by
  have a0 := ha 0 (by omega)
  have a1 := ha 1 (by omega)
  have a2 := ha 2 (by omega)
  have a3 := ha 3 (by omega)
  have hs := small_p a ha
  unfold wA at hs ⊢
  refine pure_p (args := [.agg [.int .u64 (a 0), .int .u64 (a 1), .int .u64 (a 2), .int .u64 (a 3)]]) en70 (by simp [closed, closeds, closed_wE, closeds_ints]) Tryd.func70 rfl in70 (by simp [Tryd.f70]) (by simp [closeds, closed, closed_wE, closeds_ints]) (fun w => next_of 1000 ?_)
  simp (maxSteps := 4000000) (disch := omega) only [go_sem, Nat.reduceBEq, Nat.reduceAdd, Nat.reduceMul, Nat.reduceSub, Nat.reduceLT, Nat.reduceLeDiff, Int.reduceToNat, Int.reduceLT, Int.reduceLE, Int.reduceAdd, Int.reduceMul, Int.reduceSub, Int.reduceNeg, Int.reduceDiv, Int.reduceMod, Nat.reduceBNe, Nat.reduceGT, Int.reduceBEq, Int.reduceBNe, Int.reduceGT, Nat.reduceDiv, Nat.reduceMod, Nat.reducePow, Int.reducePow, gt_iff_lt, ge_iff_le, List.reduceReplicate, ↓reduceIte, Tryd.f70]
  repeat (with_reducible refine And.intro (by first | omega | assumption | (constructor <;> assumption) | (simp; done) | (simp; omega) | (simp [*]; done) | ((repeat' refine And.intro ?_ ?_) <;> first | omega | assumption | (refine SlOk.so (n := ?_) ?_ ?_; rotate_left; assumption; omega) | (simp; done) | fail) | fail) ?_)
  repeat' (first
    | with_reducible refine And.intro (by first | omega | assumption | (constructor <;> assumption) | (simp; done) | (simp; omega) | (simp [*]; done) | ((repeat' refine And.intro ?_ ?_) <;> first | omega | assumption | (refine SlOk.so (n := ?_) ?_ ?_; rotate_left; assumption; omega) | (simp; done) | fail) | fail) ?_
    | simp (maxSteps := 4000000) (disch := omega) only [go_sem, Nat.reduceBEq, Nat.reduceAdd, Nat.reduceMul, Nat.reduceSub, Nat.reduceLT, Nat.reduceLeDiff, Int.reduceToNat, Int.reduceLT, Int.reduceLE, Int.reduceAdd, Int.reduceMul, Int.reduceSub, Int.reduceNeg, Int.reduceDiv, Int.reduceMod, Nat.reduceBNe, Nat.reduceGT, Int.reduceBEq, Int.reduceBNe, Int.reduceGT, Nat.reduceDiv, Nat.reduceMod, Nat.reducePow, Int.reducePow, gt_iff_lt, ge_iff_le, List.reduceReplicate, ↓reduceIte]
    | with_reducible refine roundS (next_of 1000 ?_)
    | with_reducible refine drawS_of mixed (by kernel_rfl) (dg_of 1000 ?_)
    | with_reducible refine endD_of (by kernel_rfl) (next_of 1000 ?_)
    | refine callS_p (hs) (next_of 1000 ?_)
    | refine callD_p (hs) (dg_of 1000 ?_)
    | with_reducible refine next_of 1000 ?_
    | ((first | refine condS_split (fun h => ?_) (fun h => ?_) | refine testS_split (fun h => ?_) (fun h => ?_) | refine testD_split (fun h => ?_) (fun h => ?_)) <;> (try simp only [bne_iff_ne, ne_eq, beq_iff_eq, decide_eq_true_eq, decide_eq_false_iff_not, Bool.not_eq_true, Bool.not_eq_false, Bool.not_true, Bool.not_false, bne_eq_false_iff_eq, beq_eq_false_iff_ne, Bool.and_eq_true, Bool.or_eq_true, Bool.and_eq_false_imp, Bool.or_eq_false_iff, Bool.not_eq_true', Bool.not_eq_false', Int.not_lt, Int.not_le] at h) <;> (try (exfalso; omega))))
  all_goals (simp only [EV.tup.injEq, List.cons.injEq, evi, and_true]; unfold bnI beI)
  · rename_i h1
    have h2 := h
    have e : wn a = a 0 := by unfold wn; omega
    rw [if_pos h1] at h2
    rw [e, if_neg (by omega), if_neg (by omega)]; exact ⟨rfl, rfl⟩
  · rename_i h1
    have h2 := h
    have e : wn a = a 0 := by unfold wn; omega
    rw [if_pos h1] at h2 ⊢
    rw [e, if_pos h2, if_pos h2]; exact ⟨rfl, rfl⟩
  · have e : ¬ wn a ≤ 8388608 := by unfold wn; omega
    rw [if_neg e, if_neg e]; exact ⟨rfl, rfl⟩
theorem bn_in {N : Int} (h : 0 ≤ N) : 0 ≤ bnI N ∧ bnI N ≤ 8388608 := by unfold bnI; split <;> omega
theorem words_in {n : Int} (h : 0 ≤ n ∧ n ≤ 8388608) : 0 ≤ words n ∧ words n ≤ 262144 := by unfold words; omega
theorem mulw (k n : Int) (h : 0 ≤ n ∧ n ≤ 262144) (hk : 0 ≤ k ∧ k < 1000) : IntKind.u64.wrap (k * n) = k * n := by
  have h1 : k * n ≤ 1000 * 262144 := Int.mul_le_mul (by omega) h.2 h.1 (by omega)
  have h0 : 0 ≤ k * n := Int.mul_nonneg hk.1 h.1
  exact wrap_u64 h0 (by omega)
theorem copy_p (a : Nat → Int) (ha : wIn a) : Pure Tryd.prog 36 [wA a] (.tup [.int .u64 (3 * words (bnI (wn a))), .int .i64 (beI (wn a))]) := by
  have hb := bounded_p a ha
  have hn := bn_in (wn_nn a ha)
  have hw := words_in hn
  unfold wA at hb ⊢
  refine pure_p (args := [.agg [.int .u64 (a 0), .int .u64 (a 1), .int .u64 (a 2), .int .u64 (a 3)]]) en36 (by simp [closed, closeds, closed_wE, closeds_ints]) Tryd.func36 rfl in36 (by simp [Tryd.f36]) (by simp [closeds, closed, closed_wE, closeds_ints]) (fun w => next_of 1000 ?_)
  simp (maxSteps := 4000000) (disch := omega) only [go_sem, Nat.reduceBEq, Nat.reduceAdd, Nat.reduceMul, Nat.reduceSub, Nat.reduceLT, Nat.reduceLeDiff, Int.reduceToNat, Int.reduceLT, Int.reduceLE, Int.reduceAdd, Int.reduceMul, Int.reduceSub, Int.reduceNeg, Int.reduceDiv, Int.reduceMod, Nat.reduceBNe, Nat.reduceGT, Int.reduceBEq, Int.reduceBNe, Int.reduceGT, Nat.reduceDiv, Nat.reduceMod, Nat.reducePow, Int.reducePow, gt_iff_lt, ge_iff_le, List.reduceReplicate, ↓reduceIte, Tryd.f36]
  repeat (with_reducible refine And.intro (by first | omega | assumption | (constructor <;> assumption) | (simp; done) | (simp; omega) | (simp [*]; done) | ((repeat' refine And.intro ?_ ?_) <;> first | omega | assumption | (refine SlOk.so (n := ?_) ?_ ?_; rotate_left; assumption; omega) | (simp; done) | fail) | fail) ?_)
  repeat' (first
    | with_reducible refine And.intro (by first | omega | assumption | (constructor <;> assumption) | (simp; done) | (simp; omega) | (simp [*]; done) | ((repeat' refine And.intro ?_ ?_) <;> first | omega | assumption | (refine SlOk.so (n := ?_) ?_ ?_; rotate_left; assumption; omega) | (simp; done) | fail) | fail) ?_
    | simp (maxSteps := 4000000) (disch := omega) only [go_sem, Nat.reduceBEq, Nat.reduceAdd, Nat.reduceMul, Nat.reduceSub, Nat.reduceLT, Nat.reduceLeDiff, Int.reduceToNat, Int.reduceLT, Int.reduceLE, Int.reduceAdd, Int.reduceMul, Int.reduceSub, Int.reduceNeg, Int.reduceDiv, Int.reduceMod, Nat.reduceBNe, Nat.reduceGT, Int.reduceBEq, Int.reduceBNe, Int.reduceGT, Nat.reduceDiv, Nat.reduceMod, Nat.reducePow, Int.reducePow, gt_iff_lt, ge_iff_le, List.reduceReplicate, ↓reduceIte]
    | with_reducible refine roundS (next_of 1000 ?_)
    | with_reducible refine drawS_of mixed (by kernel_rfl) (dg_of 1000 ?_)
    | with_reducible refine endD_of (by kernel_rfl) (next_of 1000 ?_)
    | refine callS_p (hb) (next_of 1000 ?_)
    | refine callD_p (hb) (dg_of 1000 ?_)
    | refine callS_p (words_p _ (by omega) (by omega)) (next_of 1000 ?_)
    | refine callD_p (words_p _ (by omega) (by omega)) (dg_of 1000 ?_)
    | with_reducible refine next_of 1000 ?_
    | ((first | refine condS_split (fun h => ?_) (fun h => ?_) | refine testS_split (fun h => ?_) (fun h => ?_) | refine testD_split (fun h => ?_) (fun h => ?_)) <;> (try simp only [bne_iff_ne, ne_eq, beq_iff_eq, decide_eq_true_eq, decide_eq_false_iff_not, Bool.not_eq_true, Bool.not_eq_false, Bool.not_true, Bool.not_false, bne_eq_false_iff_eq, beq_eq_false_iff_ne, Bool.and_eq_true, Bool.or_eq_true, Bool.and_eq_false_imp, Bool.or_eq_false_iff, Bool.not_eq_true', Bool.not_eq_false', Int.not_lt, Int.not_le] at h) <;> (try (exfalso; omega))))
theorem keccak_p (a : Nat → Int) (ha : wIn a) : Pure Tryd.prog 38 [wA a] (.tup [.int .u64 (6 * words (bnI (wn a))), .int .i64 (beI (wn a))]) := by
  have hb := bounded_p a ha
  have hn := bn_in (wn_nn a ha)
  have hw := words_in hn
  unfold wA at hb ⊢
  refine pure_p (args := [.agg [.int .u64 (a 0), .int .u64 (a 1), .int .u64 (a 2), .int .u64 (a 3)]]) en38 (by simp [closed, closeds, closed_wE, closeds_ints]) Tryd.func38 rfl in38 (by simp [Tryd.f38]) (by simp [closeds, closed, closed_wE, closeds_ints]) (fun w => next_of 1000 ?_)
  simp (maxSteps := 4000000) (disch := omega) only [go_sem, Nat.reduceBEq, Nat.reduceAdd, Nat.reduceMul, Nat.reduceSub, Nat.reduceLT, Nat.reduceLeDiff, Int.reduceToNat, Int.reduceLT, Int.reduceLE, Int.reduceAdd, Int.reduceMul, Int.reduceSub, Int.reduceNeg, Int.reduceDiv, Int.reduceMod, Nat.reduceBNe, Nat.reduceGT, Int.reduceBEq, Int.reduceBNe, Int.reduceGT, Nat.reduceDiv, Nat.reduceMod, Nat.reducePow, Int.reducePow, gt_iff_lt, ge_iff_le, List.reduceReplicate, ↓reduceIte, Tryd.f38]
  repeat (with_reducible refine And.intro (by first | omega | assumption | (constructor <;> assumption) | (simp; done) | (simp; omega) | (simp [*]; done) | ((repeat' refine And.intro ?_ ?_) <;> first | omega | assumption | (refine SlOk.so (n := ?_) ?_ ?_; rotate_left; assumption; omega) | (simp; done) | fail) | fail) ?_)
  repeat' (first
    | with_reducible refine And.intro (by first | omega | assumption | (constructor <;> assumption) | (simp; done) | (simp; omega) | (simp [*]; done) | ((repeat' refine And.intro ?_ ?_) <;> first | omega | assumption | (refine SlOk.so (n := ?_) ?_ ?_; rotate_left; assumption; omega) | (simp; done) | fail) | fail) ?_
    | simp (maxSteps := 4000000) (disch := omega) only [go_sem, Nat.reduceBEq, Nat.reduceAdd, Nat.reduceMul, Nat.reduceSub, Nat.reduceLT, Nat.reduceLeDiff, Int.reduceToNat, Int.reduceLT, Int.reduceLE, Int.reduceAdd, Int.reduceMul, Int.reduceSub, Int.reduceNeg, Int.reduceDiv, Int.reduceMod, Nat.reduceBNe, Nat.reduceGT, Int.reduceBEq, Int.reduceBNe, Int.reduceGT, Nat.reduceDiv, Nat.reduceMod, Nat.reducePow, Int.reducePow, gt_iff_lt, ge_iff_le, List.reduceReplicate, ↓reduceIte]
    | with_reducible refine roundS (next_of 1000 ?_)
    | with_reducible refine drawS_of mixed (by kernel_rfl) (dg_of 1000 ?_)
    | with_reducible refine endD_of (by kernel_rfl) (next_of 1000 ?_)
    | refine callS_p (hb) (next_of 1000 ?_)
    | refine callD_p (hb) (dg_of 1000 ?_)
    | refine callS_p (words_p _ (by omega) (by omega)) (next_of 1000 ?_)
    | refine callD_p (words_p _ (by omega) (by omega)) (dg_of 1000 ?_)
    | with_reducible refine next_of 1000 ?_
    | ((first | refine condS_split (fun h => ?_) (fun h => ?_) | refine testS_split (fun h => ?_) (fun h => ?_) | refine testD_split (fun h => ?_) (fun h => ?_)) <;> (try simp only [bne_iff_ne, ne_eq, beq_iff_eq, decide_eq_true_eq, decide_eq_false_iff_not, Bool.not_eq_true, Bool.not_eq_false, Bool.not_true, Bool.not_false, bne_eq_false_iff_eq, beq_eq_false_iff_ne, Bool.and_eq_true, Bool.or_eq_true, Bool.and_eq_false_imp, Bool.or_eq_false_iff, Bool.not_eq_true', Bool.not_eq_false', Int.not_lt, Int.not_le] at h) <;> (try (exfalso; omega))))
theorem smI_bn (N : Int) (h : 0 ≤ N) : (8388608 < smI N ↔ ¬ N ≤ 8388608) ∧ (N ≤ 8388608 → smI N = N) ∧ 0 ≤ smI N ∧ smI N ≤ 8388609 := by unfold smI; split <;> omega
theorem each_p (a : Nat → Int) (ha : wIn a) (k : Int) (hk : 0 ≤ k ∧ k < 1000) : Pure Tryd.prog 71 [wA a, .int .u64 k] (.tup [.int .u64 (k * words (bnI (wn a))), .int .i64 (beI (wn a))]) := by
  have hb := sml_p a ha
  have hn := bn_in (wn_nn a ha)
  have hw := words_in hn
  obtain ⟨s1, s2, s3, s4⟩ := smI_bn (wn a) (wn_nn a ha)
  have hm := mulw k _ hw hk
  unfold wA at hb ⊢
  refine pure_p (args := [.agg [.int .u64 (a 0), .int .u64 (a 1), .int .u64 (a 2), .int .u64 (a 3)], .int .u64 k]) en71 (by simp [closed, closeds, closed_wE, closeds_ints]) Tryd.func71 rfl in71 (by simp [Tryd.f71]) (by simp [closeds, closed, closed_wE, closeds_ints]) (fun w => next_of 1000 ?_)
  simp (maxSteps := 4000000) (disch := omega) only [go_sem, Nat.reduceBEq, Nat.reduceAdd, Nat.reduceMul, Nat.reduceSub, Nat.reduceLT, Nat.reduceLeDiff, Int.reduceToNat, Int.reduceLT, Int.reduceLE, Int.reduceAdd, Int.reduceMul, Int.reduceSub, Int.reduceNeg, Int.reduceDiv, Int.reduceMod, Nat.reduceBNe, Nat.reduceGT, Int.reduceBEq, Int.reduceBNe, Int.reduceGT, Nat.reduceDiv, Nat.reduceMod, Nat.reducePow, Int.reducePow, gt_iff_lt, ge_iff_le, List.reduceReplicate, ↓reduceIte, Tryd.f71]
  repeat (with_reducible refine And.intro (by first | omega | assumption | (constructor <;> assumption) | (simp; done) | (simp; omega) | (simp [*]; done) | ((repeat' refine And.intro ?_ ?_) <;> first | omega | assumption | (refine SlOk.so (n := ?_) ?_ ?_; rotate_left; assumption; omega) | (simp; done) | fail) | fail) ?_)
  repeat' (first
    | with_reducible refine And.intro (by first | omega | assumption | (constructor <;> assumption) | (simp; done) | (simp; omega) | (simp [*]; done) | ((repeat' refine And.intro ?_ ?_) <;> first | omega | assumption | (refine SlOk.so (n := ?_) ?_ ?_; rotate_left; assumption; omega) | (simp; done) | fail) | fail) ?_
    | simp (maxSteps := 4000000) (disch := omega) only [go_sem, Nat.reduceBEq, Nat.reduceAdd, Nat.reduceMul, Nat.reduceSub, Nat.reduceLT, Nat.reduceLeDiff, Int.reduceToNat, Int.reduceLT, Int.reduceLE, Int.reduceAdd, Int.reduceMul, Int.reduceSub, Int.reduceNeg, Int.reduceDiv, Int.reduceMod, Nat.reduceBNe, Nat.reduceGT, Int.reduceBEq, Int.reduceBNe, Int.reduceGT, Nat.reduceDiv, Nat.reduceMod, Nat.reducePow, Int.reducePow, gt_iff_lt, ge_iff_le, List.reduceReplicate, ↓reduceIte]
    | with_reducible refine roundS (next_of 1000 ?_)
    | with_reducible refine drawS_of mixed (by kernel_rfl) (dg_of 1000 ?_)
    | with_reducible refine endD_of (by kernel_rfl) (next_of 1000 ?_)
    | refine callS_p (hb) (next_of 1000 ?_)
    | refine callD_p (hb) (dg_of 1000 ?_)
    | refine callS_p (refwords_p _ (by omega) (by omega)) (next_of 1000 ?_)
    | refine callD_p (refwords_p _ (by omega) (by omega)) (dg_of 1000 ?_)
    | with_reducible refine next_of 1000 ?_
    | ((first | refine condS_split (fun h => ?_) (fun h => ?_) | refine testS_split (fun h => ?_) (fun h => ?_) | refine testD_split (fun h => ?_) (fun h => ?_)) <;> (try simp only [bne_iff_ne, ne_eq, beq_iff_eq, decide_eq_true_eq, decide_eq_false_iff_not, Bool.not_eq_true, Bool.not_eq_false, Bool.not_true, Bool.not_false, bne_eq_false_iff_eq, beq_eq_false_iff_ne, Bool.and_eq_true, Bool.or_eq_true, Bool.and_eq_false_imp, Bool.or_eq_false_iff, Bool.not_eq_true', Bool.not_eq_false', Int.not_lt, Int.not_le] at h) <;> (try (exfalso; omega))))
  · have e : ¬ wn a ≤ 8388608 := s1.1 h
    simp only [EV.tup.injEq, List.cons.injEq, evi, and_true]
    unfold bnI beI
    rw [if_neg e, if_neg e]
    exact ⟨by unfold words; omega, rfl⟩
  · have e : wn a ≤ 8388608 := by
      refine Classical.byContradiction fun h2 => ?_
      have := s1.2 h2; omega
    have eb : bnI (wn a) = wn a := by unfold bnI; rw [if_pos e]
    simp only [EV.tup.injEq, List.cons.injEq, evi, and_true]
    rw [eb] at hm ⊢
    rw [s2 e]
    exact ⟨hm, by unfold beI; rw [if_pos e]⟩
theorem refcopy_p (a : Nat → Int) (ha : wIn a) : Pure Tryd.prog 37 [wA a] (.tup [.int .u64 (3 * words (bnI (wn a))), .int .i64 (beI (wn a))]) := by
  have hb := each_p a ha 3 (by omega)
  unfold wA at hb ⊢
  refine pure_p (args := [.agg [.int .u64 (a 0), .int .u64 (a 1), .int .u64 (a 2), .int .u64 (a 3)]]) en37 (by simp [closed, closeds, closed_wE, closeds_ints]) Tryd.func37 rfl in37 (by simp [Tryd.f37]) (by simp [closeds, closed, closed_wE, closeds_ints]) (fun w => next_of 1000 ?_)
  simp (maxSteps := 4000000) (disch := omega) only [go_sem, Nat.reduceBEq, Nat.reduceAdd, Nat.reduceMul, Nat.reduceSub, Nat.reduceLT, Nat.reduceLeDiff, Int.reduceToNat, Int.reduceLT, Int.reduceLE, Int.reduceAdd, Int.reduceMul, Int.reduceSub, Int.reduceNeg, Int.reduceDiv, Int.reduceMod, Nat.reduceBNe, Nat.reduceGT, Int.reduceBEq, Int.reduceBNe, Int.reduceGT, Nat.reduceDiv, Nat.reduceMod, Nat.reducePow, Int.reducePow, gt_iff_lt, ge_iff_le, List.reduceReplicate, ↓reduceIte, Tryd.f37]
  repeat (with_reducible refine And.intro (by first | omega | assumption | (constructor <;> assumption) | (simp; done) | (simp; omega) | (simp [*]; done) | ((repeat' refine And.intro ?_ ?_) <;> first | omega | assumption | (refine SlOk.so (n := ?_) ?_ ?_; rotate_left; assumption; omega) | (simp; done) | fail) | fail) ?_)
  repeat' (first
    | with_reducible refine And.intro (by first | omega | assumption | (constructor <;> assumption) | (simp; done) | (simp; omega) | (simp [*]; done) | ((repeat' refine And.intro ?_ ?_) <;> first | omega | assumption | (refine SlOk.so (n := ?_) ?_ ?_; rotate_left; assumption; omega) | (simp; done) | fail) | fail) ?_
    | simp (maxSteps := 4000000) (disch := omega) only [go_sem, Nat.reduceBEq, Nat.reduceAdd, Nat.reduceMul, Nat.reduceSub, Nat.reduceLT, Nat.reduceLeDiff, Int.reduceToNat, Int.reduceLT, Int.reduceLE, Int.reduceAdd, Int.reduceMul, Int.reduceSub, Int.reduceNeg, Int.reduceDiv, Int.reduceMod, Nat.reduceBNe, Nat.reduceGT, Int.reduceBEq, Int.reduceBNe, Int.reduceGT, Nat.reduceDiv, Nat.reduceMod, Nat.reducePow, Int.reducePow, gt_iff_lt, ge_iff_le, List.reduceReplicate, ↓reduceIte]
    | with_reducible refine roundS (next_of 1000 ?_)
    | with_reducible refine drawS_of mixed (by kernel_rfl) (dg_of 1000 ?_)
    | with_reducible refine endD_of (by kernel_rfl) (next_of 1000 ?_)
    | refine callS_p (hb) (next_of 1000 ?_)
    | refine callD_p (hb) (dg_of 1000 ?_)
    | with_reducible refine next_of 1000 ?_
    | ((first | refine condS_split (fun h => ?_) (fun h => ?_) | refine testS_split (fun h => ?_) (fun h => ?_) | refine testD_split (fun h => ?_) (fun h => ?_)) <;> (try simp only [bne_iff_ne, ne_eq, beq_iff_eq, decide_eq_true_eq, decide_eq_false_iff_not, Bool.not_eq_true, Bool.not_eq_false, Bool.not_true, Bool.not_false, bne_eq_false_iff_eq, beq_eq_false_iff_ne, Bool.and_eq_true, Bool.or_eq_true, Bool.and_eq_false_imp, Bool.or_eq_false_iff, Bool.not_eq_true', Bool.not_eq_false', Int.not_lt, Int.not_le] at h) <;> (try (exfalso; omega))))
theorem refkeccak_p (a : Nat → Int) (ha : wIn a) : Pure Tryd.prog 39 [wA a] (.tup [.int .u64 (6 * words (bnI (wn a))), .int .i64 (beI (wn a))]) := by
  have hb := each_p a ha 6 (by omega)
  unfold wA at hb ⊢
  refine pure_p (args := [.agg [.int .u64 (a 0), .int .u64 (a 1), .int .u64 (a 2), .int .u64 (a 3)]]) en39 (by simp [closed, closeds, closed_wE, closeds_ints]) Tryd.func39 rfl in39 (by simp [Tryd.f39]) (by simp [closeds, closed, closed_wE, closeds_ints]) (fun w => next_of 1000 ?_)
  simp (maxSteps := 4000000) (disch := omega) only [go_sem, Nat.reduceBEq, Nat.reduceAdd, Nat.reduceMul, Nat.reduceSub, Nat.reduceLT, Nat.reduceLeDiff, Int.reduceToNat, Int.reduceLT, Int.reduceLE, Int.reduceAdd, Int.reduceMul, Int.reduceSub, Int.reduceNeg, Int.reduceDiv, Int.reduceMod, Nat.reduceBNe, Nat.reduceGT, Int.reduceBEq, Int.reduceBNe, Int.reduceGT, Nat.reduceDiv, Nat.reduceMod, Nat.reducePow, Int.reducePow, gt_iff_lt, ge_iff_le, List.reduceReplicate, ↓reduceIte, Tryd.f39]
  repeat (with_reducible refine And.intro (by first | omega | assumption | (constructor <;> assumption) | (simp; done) | (simp; omega) | (simp [*]; done) | ((repeat' refine And.intro ?_ ?_) <;> first | omega | assumption | (refine SlOk.so (n := ?_) ?_ ?_; rotate_left; assumption; omega) | (simp; done) | fail) | fail) ?_)
  repeat' (first
    | with_reducible refine And.intro (by first | omega | assumption | (constructor <;> assumption) | (simp; done) | (simp; omega) | (simp [*]; done) | ((repeat' refine And.intro ?_ ?_) <;> first | omega | assumption | (refine SlOk.so (n := ?_) ?_ ?_; rotate_left; assumption; omega) | (simp; done) | fail) | fail) ?_
    | simp (maxSteps := 4000000) (disch := omega) only [go_sem, Nat.reduceBEq, Nat.reduceAdd, Nat.reduceMul, Nat.reduceSub, Nat.reduceLT, Nat.reduceLeDiff, Int.reduceToNat, Int.reduceLT, Int.reduceLE, Int.reduceAdd, Int.reduceMul, Int.reduceSub, Int.reduceNeg, Int.reduceDiv, Int.reduceMod, Nat.reduceBNe, Nat.reduceGT, Int.reduceBEq, Int.reduceBNe, Int.reduceGT, Nat.reduceDiv, Nat.reduceMod, Nat.reducePow, Int.reducePow, gt_iff_lt, ge_iff_le, List.reduceReplicate, ↓reduceIte]
    | with_reducible refine roundS (next_of 1000 ?_)
    | with_reducible refine drawS_of mixed (by kernel_rfl) (dg_of 1000 ?_)
    | with_reducible refine endD_of (by kernel_rfl) (next_of 1000 ?_)
    | refine callS_p (hb) (next_of 1000 ?_)
    | refine callD_p (hb) (dg_of 1000 ?_)
    | with_reducible refine next_of 1000 ?_
    | ((first | refine condS_split (fun h => ?_) (fun h => ?_) | refine testS_split (fun h => ?_) (fun h => ?_) | refine testD_split (fun h => ?_) (fun h => ?_)) <;> (try simp only [bne_iff_ne, ne_eq, beq_iff_eq, decide_eq_true_eq, decide_eq_false_iff_not, Bool.not_eq_true, Bool.not_eq_false, Bool.not_true, Bool.not_false, bne_eq_false_iff_eq, beq_eq_false_iff_ne, Bool.and_eq_true, Bool.or_eq_true, Bool.and_eq_false_imp, Bool.or_eq_false_iff, Bool.not_eq_true', Bool.not_eq_false', Int.not_lt, Int.not_le] at h) <;> (try (exfalso; omega))))
end Go.Proofs.YthknokcfmpahcaaDoor
