/- Part of a proof over the seat YtbilnedgpgpanaaDoor. -/
import Derived.Test.YtbilnedgpgpanaaDoorWF
import Derived.Test.YtbilnedgpgpanaaDoorWC
namespace Go.Proofs.YtbilnedgpgpanaaDoor
open Go Go.Ew
set_option maxRecDepth 100000
set_option linter.unusedSimpArgs false
set_option linter.unusedVariables false
set_option maxHeartbeats 1000000
theorem in59 : codeIn Tryd.f59.ntmps (Tryd.f59.body.getD .skip) = true := by kernel_rfl
theorem z4 : [EV.int .u64 0, EV.int .u64 0, EV.int .u64 0, EV.int .u64 0] = wC 0 := rfl
theorem half_pow (k i : Nat) : k / 2 ^ i = 2 * (k / 2 ^ (i + 1)) + k / 2 ^ i % 2 := by
  rw [Nat.pow_succ, ← Nat.div_div_eq_div_mul]; omega
theorem sq_step (x e W : Nat) : (x ^ e % W) * (x ^ e % W) % W = x ^ (2 * e) % W := by
  rw [← Nat.mul_mod, ← Nat.pow_add, Nat.two_mul]
theorem mul_step (x e W : Nat) : x ^ e % W * x % W = x ^ (e + 1) % W := by
  rw [Nat.pow_succ, Nat.mod_mul_mod]
theorem bit_of (n i : Nat) (hi : i < 256) : dig 18446744073709551616 n (i / 64) / 2 ^ (i % 64) % 2 = ((n / 2 ^ i % 2 : Nat) : Int) := by
  have e : (18446744073709551616 : Nat) = 2 ^ 64 := by decide
  rw [dig, e, ← Nat.pow_mul]
  have e2 : n / 2 ^ i = n / 2 ^ (64 * (i / 64)) / 2 ^ (i % 64) := by
    rw [Nat.div_div_eq_div_mul, ← Nat.pow_add]; congr 2; omega
  rw [e2]
  generalize n / 2 ^ (64 * (i / 64)) = q
  have h3 : 2 ^ 64 = 2 ^ (i % 64) * 2 ^ (64 - i % 64) := by rw [← Nat.pow_add]; congr 1; omega
  have h4 : q % 2 ^ 64 / 2 ^ (i % 64) % 2 = q / 2 ^ (i % 64) % 2 := by
    rw [h3, Nat.mod_mul_right_div_self, show 64 - i % 64 = (63 - i % 64) + 1 by omega, Nat.pow_succ, Nat.mul_comm _ 2, Nat.mod_mul_right_mod]
  rw [← h4]
  simp
theorem bitE (k i : Nat) (hi : i < 256) : bAnd .u64 (bShr .u64 (dig 18446744073709551616 k ((i : Int) / 64).toNat) ((i : Int) % 64)) 1 = ((k / 2 ^ i % 2 : Nat) : Int) := by
  have h0 := dig_nn 18446744073709551616 k ((i : Int) / 64).toNat
  have h1 := dig_lt (b := 18446744073709551616) (by decide) k ((i : Int) / 64).toNat
  have e1 : ((i : Int) / 64).toNat = i / 64 := by omega
  have e2 : ((i : Int) % 64).toNat = i % 64 := by omega
  have hp : (0 : Int) < 2 ^ (i % 64) := Int.pow_pos (by omega)
  rw [bShr_u64 h0 (by omega) (by omega), e2, bAnd_1 (Int.ediv_nonneg h0 (Int.le_of_lt hp)) (Int.lt_of_le_of_lt (Int.ediv_le_self _ h0) h1), e1, bit_of k i hi]
theorem exp_p (x k : Nat) (hx : x < 115792089237316195423570985008687907853269984665640564039457584007913129639936) (hk : k < 115792089237316195423570985008687907853269984665640564039457584007913129639936) : Pure Tryd.prog 59 [wE x, wE k] (wE (x ^ k % 115792089237316195423570985008687907853269984665640564039457584007913129639936)) := by
  rw [wE_ints k]
  refine pure_p (args := [wE x, .agg (ints .u64 (dig 18446744073709551616 k) 4)]) en59 (by simp [closed, closeds, closed_wE, closeds_ints]) Tryd.func59 rfl in59 (by simp [Tryd.f59]) (by simp [closeds, closed, closed_wE, closeds_ints]) (fun w => next_of 1000 ?_)
  simp (maxSteps := 4000000) (disch := omega) only [go_sem, Nat.reduceBEq, Nat.reduceAdd, Nat.reduceMul, Nat.reduceSub, Nat.reduceLT, Nat.reduceLeDiff, Int.reduceToNat, Int.reduceLT, Int.reduceLE, Int.reduceAdd, Int.reduceMul, Int.reduceSub, Int.reduceNeg, Int.reduceDiv, Int.reduceMod, Nat.reduceBNe, Nat.reduceGT, Int.reduceBEq, Int.reduceBNe, Int.reduceGT, Nat.reduceDiv, Nat.reduceMod, Nat.reducePow, Int.reducePow, gt_iff_lt, ge_iff_le, List.reduceReplicate, ↓reduceIte, Tryd.f59]
  repeat (with_reducible refine And.intro (by first | omega | assumption | (constructor <;> assumption) | (simp; done) | (simp; omega) | (simp [*]; done)) ?_)
  have hb : Pure Tryd.prog 86 [.agg (ints .u64 (dig 18446744073709551616 k) 4)] (.int .i64 (blen k)) := by rw [← wE_ints]; exact bits_p k hk
  repeat' (first
    | with_reducible refine And.intro (by first | omega | assumption | (constructor <;> assumption) | (simp; done) | (simp; omega) | (simp [*]; done)) ?_
    | simp (maxSteps := 4000000) (disch := omega) only [go_sem, Nat.reduceBEq, Nat.reduceAdd, Nat.reduceMul, Nat.reduceSub, Nat.reduceLT, Nat.reduceLeDiff, Int.reduceToNat, Int.reduceLT, Int.reduceLE, Int.reduceAdd, Int.reduceMul, Int.reduceSub, Int.reduceNeg, Int.reduceDiv, Int.reduceMod, Nat.reduceBNe, Nat.reduceGT, Int.reduceBEq, Int.reduceBNe, Int.reduceGT, Nat.reduceDiv, Nat.reduceMod, Nat.reducePow, Int.reducePow, gt_iff_lt, ge_iff_le, List.reduceReplicate, ↓reduceIte]
    | with_reducible refine roundS (next_of 1000 ?_)
    | with_reducible refine drawS_of mixed (by kernel_rfl) (dg_of 1000 ?_)
    | with_reducible refine endD_of (by kernel_rfl) (next_of 1000 ?_)
    | refine callS_p (of_p 1 (by omega)) (next_of 1000 ?_)
    | refine callD_p (of_p 1 (by omega)) (dg_of 1000 ?_)
    | refine callS_p (hb) (next_of 1000 ?_)
    | refine callD_p (hb) (dg_of 1000 ?_)
    | with_reducible refine next_of 1000 ?_
    | ((first | refine condS_split (fun h => ?_) (fun h => ?_) | refine testS_split (fun h => ?_) (fun h => ?_) | refine testD_split (fun h => ?_) (fun h => ?_)) <;> (try simp only [bne_iff_ne, ne_eq, beq_iff_eq, decide_eq_true_eq, decide_eq_false_iff_not, Bool.not_eq_true, Bool.not_eq_false, Bool.not_true, Bool.not_false, bne_eq_false_iff_eq, beq_eq_false_iff_ne, Bool.and_eq_true, Bool.or_eq_true, Bool.and_eq_false_imp, Bool.or_eq_false_iff, Bool.not_eq_true', Bool.not_eq_false', Int.not_lt, Int.not_le] at h) <;> (try (exfalso; omega))))
  have hbl : blen k ≤ 256 := blen_le.2 (by omega)
  refine loopU (S := Nat × Nat) (fun s => s.1 ≤ blen k ∧ s.2 = x ^ (k / 2 ^ s.1) % 115792089237316195423570985008687907853269984665640564039457584007913129639936)
    (fun s => ⟨[(6, .int .i64 ((s.1 : Nat) - 1)), (5, .ptr 3 0), (4, .ptr 2 0), (3, .ptr 1 0), (2, .ptr 0 0)], 4,
      [(3, some (.cells (wC s.2) 24 (0, 0))), (2, some (.cells (wC 0) 24 (0, 0))), (1, some (.cells (ints .u64 (dig 18446744073709551616 k) 4) 24 (0, 0))), (0, some (.cells (wC x) 24 (0, 0)))], base w, []⟩)
    (fun s => s.1) (blen k, 1) ⟨Nat.le_refl _, by rw [Nat.div_eq_of_lt (blen_le.1 (Nat.le_refl _))]; rfl⟩ (Weak.sub (weak_of (by simp [wσ, go_sem, closed, closeds, closeds_ints, wrap_i64 (show (-9223372036854775808 : Int) ≤ (blen k : Int) - 1 by omega) (show (blen k : Int) - 1 < 9223372036854775808 by omega), z4]) (by simp [whs, go_sem, EObj.closed, closed, closeds, closeds_ints, wrap_i64 (show (-9223372036854775808 : Int) ≤ (blen k : Int) - 1 by omega) (show (blen k : Int) - 1 < 9223372036854775808 by omega), z4]) (by simp [*]) rfl rfl (by simp))) ?_
  rintro ⟨s, v⟩ ⟨hs, hv⟩
  simp only at hs hv
  have hv' : v < 115792089237316195423570985008687907853269984665640564039457584007913129639936 := by rw [hv]; exact Nat.mod_lt _ (by omega)
  refine next_of 1000 ?_
  simp (maxSteps := 4000000) (disch := omega) only [go_sem, Nat.reduceBEq, Nat.reduceAdd, Nat.reduceMul, Nat.reduceSub, Nat.reduceLT, Nat.reduceLeDiff, Int.reduceToNat, Int.reduceLT, Int.reduceLE, Int.reduceAdd, Int.reduceMul, Int.reduceSub, Int.reduceNeg, Int.reduceDiv, Int.reduceMod, Nat.reduceBNe, Nat.reduceGT, Int.reduceBEq, Int.reduceBNe, Int.reduceGT, Nat.reduceDiv, Nat.reduceMod, Nat.reducePow, Int.reducePow, gt_iff_lt, ge_iff_le, List.reduceReplicate, ↓reduceIte]
  repeat (with_reducible refine And.intro (by first | omega | assumption | (constructor <;> assumption) | (simp; done) | (simp; omega) | (simp [*]; done)) ?_)
  refine condS_split (fun h => ?_) (fun h => ?_)
  all_goals (try simp only [bne_iff_ne, ne_eq, beq_iff_eq, decide_eq_true_eq, decide_eq_false_iff_not, Bool.not_eq_true, Bool.not_eq_false, Bool.not_true, Bool.not_false, bne_eq_false_iff_eq, beq_eq_false_iff_ne, Bool.and_eq_true, Bool.or_eq_true, Bool.and_eq_false_imp, Bool.or_eq_false_iff, Bool.not_eq_true', Bool.not_eq_false', Int.not_lt, Int.not_le] at h)
  · obtain ⟨i, rfl⟩ : ∃ i, s = i + 1 := ⟨s - 1, by omega⟩
    have e1 : (((i + 1 : Nat) : Int) - 1) = (i : Int) := by omega
    simp only [e1]
    repeat' (first
      | with_reducible refine And.intro (by first | omega | assumption | (constructor <;> assumption) | (simp; done) | (simp; omega) | (simp [*]; done)) ?_
      | simp (maxSteps := 4000000) (disch := omega) only [go_sem, Nat.reduceBEq, Nat.reduceAdd, Nat.reduceMul, Nat.reduceSub, Nat.reduceLT, Nat.reduceLeDiff, Int.reduceToNat, Int.reduceLT, Int.reduceLE, Int.reduceAdd, Int.reduceMul, Int.reduceSub, Int.reduceNeg, Int.reduceDiv, Int.reduceMod, Nat.reduceBNe, Nat.reduceGT, Int.reduceBEq, Int.reduceBNe, Int.reduceGT, Nat.reduceDiv, Nat.reduceMod, Nat.reducePow, Int.reducePow, gt_iff_lt, ge_iff_le, List.reduceReplicate, ↓reduceIte]
      | with_reducible refine roundS (next_of 1000 ?_)
      | with_reducible refine drawS_of mixed (by kernel_rfl) (dg_of 1000 ?_)
      | with_reducible refine endD_of (by kernel_rfl) (next_of 1000 ?_)
      | refine callS_p (mul_p _ _ hv' hv') (next_of 1000 ?_)
      | refine callD_p (mul_p _ _ hv' hv') (dg_of 1000 ?_)
      | refine callS_p (mul_p _ _ (Nat.mod_lt _ (by omega)) hx) (next_of 1000 ?_)
      | refine callD_p (mul_p _ _ (Nat.mod_lt _ (by omega)) hx) (dg_of 1000 ?_)
      | with_reducible refine next_of 1000 ?_
      | ((first | refine condS_split (fun h => ?_) (fun h => ?_) | refine testS_split (fun h => ?_) (fun h => ?_) | refine testD_split (fun h => ?_) (fun h => ?_)) <;> (try simp only [bne_iff_ne, ne_eq, beq_iff_eq, decide_eq_true_eq, decide_eq_false_iff_not, Bool.not_eq_true, Bool.not_eq_false, Bool.not_true, Bool.not_false, bne_eq_false_iff_eq, beq_eq_false_iff_ne, Bool.and_eq_true, Bool.or_eq_true, Bool.and_eq_false_imp, Bool.or_eq_false_iff, Bool.not_eq_true', Bool.not_eq_false', Int.not_lt, Int.not_le] at h) <;> (try (exfalso; omega))))
    all_goals rw [bitE k i (by omega)] at h
    · refine ⟨(i, v * v % 115792089237316195423570985008687907853269984665640564039457584007913129639936 * x % 115792089237316195423570985008687907853269984665640564039457584007913129639936), ⟨by show i ≤ blen k; omega, ?_⟩, Weak.sub (weak_of (by simp [wσ, go_sem, closed, closeds, closeds_ints]) (by simp [whs, go_sem, EObj.closed, closed, closeds, closeds_ints]) (by simp [*]) rfl rfl (by simp)), by show i < i + 1; omega⟩
      show v * v % 115792089237316195423570985008687907853269984665640564039457584007913129639936 * x % 115792089237316195423570985008687907853269984665640564039457584007913129639936 = x ^ (k / 2 ^ i) % 115792089237316195423570985008687907853269984665640564039457584007913129639936
      rw [hv, sq_step, mul_step]
      congr 2
      have := half_pow k i
      omega
    · refine ⟨(i, v * v % 115792089237316195423570985008687907853269984665640564039457584007913129639936), ⟨by show i ≤ blen k; omega, ?_⟩, Weak.sub (weak_of (by simp [wσ, go_sem, closed, closeds, closeds_ints]) (by simp [whs, go_sem, EObj.closed, closed, closeds, closeds_ints]) (by simp [*]) rfl rfl (by simp)), by show i < i + 1; omega⟩
      show v * v % 115792089237316195423570985008687907853269984665640564039457584007913129639936 = x ^ (k / 2 ^ i) % 115792089237316195423570985008687907853269984665640564039457584007913129639936
      rw [hv, sq_step]
      congr 2
      have := half_pow k i
      omega
  · have hs0 : s = 0 := by omega
    subst hs0
    rw [Nat.pow_zero, Nat.div_one] at hv
    simp (maxSteps := 4000000) (disch := omega) only [go_sem, Nat.reduceBEq, Nat.reduceAdd, Nat.reduceMul, Nat.reduceSub, Nat.reduceLT, Nat.reduceLeDiff, Int.reduceToNat, Int.reduceLT, Int.reduceLE, Int.reduceAdd, Int.reduceMul, Int.reduceSub, Int.reduceNeg, Int.reduceDiv, Int.reduceMod, Nat.reduceBNe, Nat.reduceGT, Int.reduceBEq, Int.reduceBNe, Int.reduceGT, Nat.reduceDiv, Nat.reduceMod, Nat.reducePow, Int.reducePow, gt_iff_lt, ge_iff_le, List.reduceReplicate, ↓reduceIte]
    repeat (with_reducible refine And.intro (by first | omega | assumption | (constructor <;> assumption) | (simp; done) | (simp; omega) | (simp [*]; done)) ?_)
    repeat' (first
      | with_reducible refine And.intro (by first | omega | assumption | (constructor <;> assumption) | (simp; done) | (simp; omega) | (simp [*]; done)) ?_
      | simp (maxSteps := 4000000) (disch := omega) only [go_sem, Nat.reduceBEq, Nat.reduceAdd, Nat.reduceMul, Nat.reduceSub, Nat.reduceLT, Nat.reduceLeDiff, Int.reduceToNat, Int.reduceLT, Int.reduceLE, Int.reduceAdd, Int.reduceMul, Int.reduceSub, Int.reduceNeg, Int.reduceDiv, Int.reduceMod, Nat.reduceBNe, Nat.reduceGT, Int.reduceBEq, Int.reduceBNe, Int.reduceGT, Nat.reduceDiv, Nat.reduceMod, Nat.reducePow, Int.reducePow, gt_iff_lt, ge_iff_le, List.reduceReplicate, ↓reduceIte]
      | with_reducible refine roundS (next_of 1000 ?_)
      | with_reducible refine drawS_of mixed (by kernel_rfl) (dg_of 1000 ?_)
      | with_reducible refine endD_of (by kernel_rfl) (next_of 1000 ?_)
      | with_reducible refine next_of 1000 ?_
      | ((first | refine condS_split (fun h => ?_) (fun h => ?_) | refine testS_split (fun h => ?_) (fun h => ?_) | refine testD_split (fun h => ?_) (fun h => ?_)) <;> (try simp only [bne_iff_ne, ne_eq, beq_iff_eq, decide_eq_true_eq, decide_eq_false_iff_not, Bool.not_eq_true, Bool.not_eq_false, Bool.not_true, Bool.not_false, bne_eq_false_iff_eq, beq_eq_false_iff_ne, Bool.and_eq_true, Bool.or_eq_true, Bool.and_eq_false_imp, Bool.or_eq_false_iff, Bool.not_eq_true', Bool.not_eq_false', Int.not_lt, Int.not_le] at h) <;> (try (exfalso; omega))))
    rw [← hv]
end Go.Proofs.YtbilnedgpgpanaaDoor
