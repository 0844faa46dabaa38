/- Part of a proof over the seat YtbilnedgpgpanabGreatDoor. -/
import Derived.Test.YtbilnedgpgpanabGreatDoorXL
namespace Go.Proofs.YtbilnedgpgpanabGreatDoor
open Go RowKit Go.Ew
set_option maxRecDepth 100000
set_option linter.unusedSimpArgs false
set_option linter.unusedVariables false
set_option maxHeartbeats 1000000
theorem in28 : codeIn Tryz.f28.ntmps (Tryz.f28.body.getD .skip) = true := by kernel_rfl
theorem in5 : codeIn Tryz.f5.ntmps (Tryz.f5.body.getD .skip) = true := by kernel_rfl
theorem div_dig (a n : Nat) : ((a / 4294967296 ^ n : Nat) : Int) = ((a / 4294967296 ^ (n + 1) : Nat) : Int) * 4294967296 + dig 4294967296 a n := by
  rw [dig, Nat.pow_succ, ← Nat.div_div_eq_div_mul]; omega
theorem div_lt_lt {a b c : Nat} (h : a / c < b / c) : a < b := by
  rcases Nat.lt_or_ge a b with h1 | h1
  · exact h1
  · have := Nat.div_le_div_right (c := c) h1; omega
theorem cmpN_lt {a b : Nat} (h : a < b) : cmpI (a : Int) (b : Int) = -1 := by unfold cmpI; rw [if_pos (by omega)]
theorem order_p (a b : Nat) (ha : a < 4294967296 ^ 17) (hb : b < 4294967296 ^ 17) : Pure Tryz.prog 28 [lE a, lE b] (.int .i64 (cmpI a b)) := by
  unfold lE
  refine pure_p (args := [.agg (ints .u64 (dig 4294967296 a) 17), .agg (ints .u64 (dig 4294967296 b) 17)]) en28 (by simp [closed, closeds, closed_wE, closeds_ints]) Tryz.func28 rfl in28 (by simp [Tryz.f28]) (by simp [closeds, closed, closed_wE, closeds_ints]) (fun w => next_of 1000 ?_)
  simp (maxSteps := 4000000) (disch := omega) only [go_sem, Nat.reduceBEq, Nat.reduceAdd, Nat.reduceMul, Nat.reduceSub, Nat.reduceLT, Nat.reduceLeDiff, Int.reduceToNat, Int.reduceLT, Int.reduceLE, Int.reduceAdd, Int.reduceMul, Int.reduceSub, Int.reduceNeg, Int.reduceDiv, Int.reduceMod, Nat.reduceBNe, Nat.reduceGT, Int.reduceBEq, Int.reduceBNe, Int.reduceGT, Nat.reduceDiv, Nat.reduceMod, Nat.reducePow, Int.reducePow, gt_iff_lt, ge_iff_le, List.reduceReplicate, ↓reduceIte, Tryz.f28]
  repeat (with_reducible refine And.intro (by first | omega | assumption | (constructor <;> assumption) | (simp; done) | (simp; omega) | (simp [*]; done)) ?_)
  refine loopU (S := Nat) (fun n => n ≤ 17 ∧ a / 4294967296 ^ n = b / 4294967296 ^ n)
    (fun n => ⟨[(5, .int .i64 ((n : Nat) - 1)), (4, .int .i64 0), (3, .ptr 1 0), (2, .ptr 0 0)], 2,
      [(1, some (.cells (ints .u64 (dig 4294967296 b) 17) 41 (0, 0))), (0, some (.cells (ints .u64 (dig 4294967296 a) 17) 41 (0, 0)))], base w, []⟩)
    (fun n => n) 17 ⟨by omega, by rw [Nat.div_eq_of_lt ha, Nat.div_eq_of_lt hb]⟩ (Weak.sub (weak_of (by simp [wσ, go_sem, closed, closeds, closeds_ints]) (by simp [whs, go_sem, EObj.closed, closed, closeds, closeds_ints]) (by simp [*]) rfl rfl (by simp))) ?_
  intro n hn
  obtain ⟨hn, hd⟩ := hn
  refine next_of 1000 ?_
  simp (maxSteps := 4000000) (disch := omega) only [go_sem, Nat.reduceBEq, Nat.reduceAdd, Nat.reduceMul, Nat.reduceSub, Nat.reduceLT, Nat.reduceLeDiff, Int.reduceToNat, Int.reduceLT, Int.reduceLE, Int.reduceAdd, Int.reduceMul, Int.reduceSub, Int.reduceNeg, Int.reduceDiv, Int.reduceMod, Nat.reduceBNe, Nat.reduceGT, Int.reduceBEq, Int.reduceBNe, Int.reduceGT, Nat.reduceDiv, Nat.reduceMod, Nat.reducePow, Int.reducePow, gt_iff_lt, ge_iff_le, List.reduceReplicate, ↓reduceIte]
  repeat (with_reducible refine And.intro (by first | omega | assumption | (constructor <;> assumption) | (simp; done) | (simp; omega) | (simp [*]; done)) ?_)
  refine condS_split (fun h => ?_) (fun h => ?_)
  all_goals (try simp only [bne_iff_ne, ne_eq, beq_iff_eq, decide_eq_true_eq, decide_eq_false_iff_not, Bool.not_eq_true, Bool.not_eq_false, Bool.not_true, Bool.not_false, bne_eq_false_iff_eq, beq_eq_false_iff_ne, Bool.and_eq_true, Bool.or_eq_true, Bool.and_eq_false_imp, Bool.or_eq_false_iff, Bool.not_eq_true', Bool.not_eq_false', Int.not_lt, Int.not_le] at h)
  · obtain ⟨i, rfl⟩ : ∃ i, n = i + 1 := ⟨n - 1, by omega⟩
    have e1 : (((i + 1 : Nat) : Int) - 1) = (i : Int) := by omega
    simp only [e1]
    have d1 := div_dig a i
    have d2 := div_dig b i
    rw [hd] at d1
    repeat' (first
      | with_reducible refine And.intro (by first | omega | assumption | (constructor <;> assumption) | (simp; done) | (simp; omega) | (simp [*]; done)) ?_
      | simp (maxSteps := 4000000) (disch := omega) only [go_sem, Nat.reduceBEq, Nat.reduceAdd, Nat.reduceMul, Nat.reduceSub, Nat.reduceLT, Nat.reduceLeDiff, Int.reduceToNat, Int.reduceLT, Int.reduceLE, Int.reduceAdd, Int.reduceMul, Int.reduceSub, Int.reduceNeg, Int.reduceDiv, Int.reduceMod, Nat.reduceBNe, Nat.reduceGT, Int.reduceBEq, Int.reduceBNe, Int.reduceGT, Nat.reduceDiv, Nat.reduceMod, Nat.reducePow, Int.reducePow, gt_iff_lt, ge_iff_le, List.reduceReplicate, ↓reduceIte, Int.toNat_natCast]
      | with_reducible refine roundS (next_of 1000 ?_)
      | with_reducible refine drawS_of mixed (by kernel_rfl) (dg_of 1000 ?_)
      | with_reducible refine endD_of (by kernel_rfl) (next_of 1000 ?_)
      | with_reducible refine next_of 1000 ?_
      | ((first | refine condS_split (fun h => ?_) (fun h => ?_) | refine testS_split (fun h => ?_) (fun h => ?_) | refine testD_split (fun h => ?_) (fun h => ?_)) <;> (try simp only [bne_iff_ne, ne_eq, beq_iff_eq, decide_eq_true_eq, decide_eq_false_iff_not, Bool.not_eq_true, Bool.not_eq_false, Bool.not_true, Bool.not_false, bne_eq_false_iff_eq, beq_eq_false_iff_ne, Bool.and_eq_true, Bool.or_eq_true, Bool.and_eq_false_imp, Bool.or_eq_false_iff, Bool.not_eq_true', Bool.not_eq_false', Int.not_lt, Int.not_le] at h) <;> (try (exfalso; omega))))
    · rw [show cmpI (a : Int) b = -1 from cmpN_lt (div_lt_lt (c := 4294967296 ^ i) (by omega))]
    · rw [show cmpI (a : Int) b = 1 from by
        have := div_lt_lt (a := b) (b := a) (c := 4294967296 ^ i) (by omega)
        unfold cmpI; rw [if_neg (by omega), if_pos (by omega)]]
    · exact ⟨i, ⟨by omega, by omega⟩, Weak.sub (weak_of (by simp [wσ, go_sem, closed, closeds, closeds_ints]) (by simp [whs, go_sem, EObj.closed, closed, closeds, closeds_ints]) (by simp [*]) rfl rfl (by simp)), by omega⟩
  · have hn0 : n = 0 := by omega
    subst hn0
    rw [Nat.pow_zero, Nat.div_one, Nat.div_one] at hd
    subst hd
    simp (maxSteps := 4000000) (disch := omega) only [go_sem, Nat.reduceBEq, Nat.reduceAdd, Nat.reduceMul, Nat.reduceSub, Nat.reduceLT, Nat.reduceLeDiff, Int.reduceToNat, Int.reduceLT, Int.reduceLE, Int.reduceAdd, Int.reduceMul, Int.reduceSub, Int.reduceNeg, Int.reduceDiv, Int.reduceMod, Nat.reduceBNe, Nat.reduceGT, Int.reduceBEq, Int.reduceBNe, Int.reduceGT, Nat.reduceDiv, Nat.reduceMod, Nat.reducePow, Int.reducePow, gt_iff_lt, ge_iff_le, List.reduceReplicate, ↓reduceIte]
    repeat (with_reducible refine And.intro (by first | omega | assumption | (constructor <;> assumption) | (simp; done) | (simp; omega) | (simp [*]; done)) ?_)
    repeat' (first
      | with_reducible refine And.intro (by first | omega | assumption | (constructor <;> assumption) | (simp; done) | (simp; omega) | (simp [*]; done)) ?_
      | simp (maxSteps := 4000000) (disch := omega) only [go_sem, Nat.reduceBEq, Nat.reduceAdd, Nat.reduceMul, Nat.reduceSub, Nat.reduceLT, Nat.reduceLeDiff, Int.reduceToNat, Int.reduceLT, Int.reduceLE, Int.reduceAdd, Int.reduceMul, Int.reduceSub, Int.reduceNeg, Int.reduceDiv, Int.reduceMod, Nat.reduceBNe, Nat.reduceGT, Int.reduceBEq, Int.reduceBNe, Int.reduceGT, Nat.reduceDiv, Nat.reduceMod, Nat.reducePow, Int.reducePow, gt_iff_lt, ge_iff_le, List.reduceReplicate, ↓reduceIte]
      | with_reducible refine roundS (next_of 1000 ?_)
      | with_reducible refine drawS_of mixed (by kernel_rfl) (dg_of 1000 ?_)
      | with_reducible refine endD_of (by kernel_rfl) (next_of 1000 ?_)
      | with_reducible refine next_of 1000 ?_
      | ((first | refine condS_split (fun h => ?_) (fun h => ?_) | refine testS_split (fun h => ?_) (fun h => ?_) | refine testD_split (fun h => ?_) (fun h => ?_)) <;> (try simp only [bne_iff_ne, ne_eq, beq_iff_eq, decide_eq_true_eq, decide_eq_false_iff_not, Bool.not_eq_true, Bool.not_eq_false, Bool.not_true, Bool.not_false, bne_eq_false_iff_eq, beq_eq_false_iff_ne, Bool.and_eq_true, Bool.or_eq_true, Bool.and_eq_false_imp, Bool.or_eq_false_iff, Bool.not_eq_true', Bool.not_eq_false', Int.not_lt, Int.not_le] at h) <;> (try (exfalso; omega))))
    unfold cmpI; rw [if_neg (by omega), if_neg (by omega)]
theorem w_long {x : Nat} (hx : x < 115792089237316195423570985008687907853269984665640564039457584007913129639936) : x < 4294967296 ^ 17 := Nat.lt_of_lt_of_le hx (by decide)
theorem rcmp_p (x y : Nat) (hx : x < 115792089237316195423570985008687907853269984665640564039457584007913129639936) (hy : y < 115792089237316195423570985008687907853269984665640564039457584007913129639936) : Pure Tryz.prog 5 [wE x, wE y] (.int .i64 (cmpI x y)) := by
  have c1 := fromword_p x hx
  have c2 := fromword_p y hy
  have c3 := order_p x y (w_long hx) (w_long hy)
  generalize cmpI (x : Int) (y : Int) = r at *
  refine pure_p (args := [wE x, wE y]) en5 (by simp [closed, closeds, closed_wE, closeds_ints]) Tryz.func5 rfl in5 (by simp [Tryz.f5]) (by simp [closeds, closed, closed_wE, closeds_ints]) (fun w => next_of 1000 ?_)
  simp (maxSteps := 4000000) (disch := omega) only [go_sem, Nat.reduceBEq, Nat.reduceAdd, Nat.reduceMul, Nat.reduceSub, Nat.reduceLT, Nat.reduceLeDiff, Int.reduceToNat, Int.reduceLT, Int.reduceLE, Int.reduceAdd, Int.reduceMul, Int.reduceSub, Int.reduceNeg, Int.reduceDiv, Int.reduceMod, Nat.reduceBNe, Nat.reduceGT, Int.reduceBEq, Int.reduceBNe, Int.reduceGT, Nat.reduceDiv, Nat.reduceMod, Nat.reducePow, Int.reducePow, gt_iff_lt, ge_iff_le, List.reduceReplicate, ↓reduceIte, Tryz.f5]
  repeat (with_reducible refine And.intro (by first | omega | assumption | (constructor <;> assumption) | (simp; done) | (simp; omega) | (simp [*]; done)) ?_)
  repeat' (first
    | with_reducible refine And.intro (by first | omega | assumption | (constructor <;> assumption) | (simp; done) | (simp; omega) | (simp [*]; done)) ?_
    | simp (maxSteps := 4000000) (disch := omega) only [go_sem, Nat.reduceBEq, Nat.reduceAdd, Nat.reduceMul, Nat.reduceSub, Nat.reduceLT, Nat.reduceLeDiff, Int.reduceToNat, Int.reduceLT, Int.reduceLE, Int.reduceAdd, Int.reduceMul, Int.reduceSub, Int.reduceNeg, Int.reduceDiv, Int.reduceMod, Nat.reduceBNe, Nat.reduceGT, Int.reduceBEq, Int.reduceBNe, Int.reduceGT, Nat.reduceDiv, Nat.reduceMod, Nat.reducePow, Int.reducePow, gt_iff_lt, ge_iff_le, List.reduceReplicate, ↓reduceIte]
    | with_reducible refine roundS (next_of 1000 ?_)
    | with_reducible refine drawS_of mixed (by kernel_rfl) (dg_of 1000 ?_)
    | with_reducible refine endD_of (by kernel_rfl) (next_of 1000 ?_)
    | refine callS_p (c1) (next_of 1000 ?_)
    | refine callD_p (c1) (dg_of 1000 ?_)
    | refine callS_p (c2) (next_of 1000 ?_)
    | refine callD_p (c2) (dg_of 1000 ?_)
    | refine callS_p (c3) (next_of 1000 ?_)
    | refine callD_p (c3) (dg_of 1000 ?_)
    | with_reducible refine next_of 1000 ?_
    | ((first | refine condS_split (fun h => ?_) (fun h => ?_) | refine testS_split (fun h => ?_) (fun h => ?_) | refine testD_split (fun h => ?_) (fun h => ?_)) <;> (try simp only [bne_iff_ne, ne_eq, beq_iff_eq, decide_eq_true_eq, decide_eq_false_iff_not, Bool.not_eq_true, Bool.not_eq_false, Bool.not_true, Bool.not_false, bne_eq_false_iff_eq, beq_eq_false_iff_ne, Bool.and_eq_true, Bool.or_eq_true, Bool.and_eq_false_imp, Bool.or_eq_false_iff, Bool.not_eq_true', Bool.not_eq_false', Int.not_lt, Int.not_le] at h) <;> (try (exfalso; omega))))
theorem zz8 : ints .u64 (fun _ => 0) 8 = [.int .u64 0, .int .u64 0, .int .u64 0, .int .u64 0, .int .u64 0, .int .u64 0, .int .u64 0, .int .u64 0] := rfl
def bw (a b i : Nat) : Nat := if a % 4294967296 ^ i < b % 4294967296 ^ i then 1 else 0
theorem bw_le (a b i : Nat) : bw a b i ≤ 1 := by unfold bw; split <;> omega
theorem bw_zero (a b : Nat) : bw a b 0 = 0 := by unfold bw; simp [Nat.mod_one]
theorem bw_div {a b : Nat} (h : b ≤ a) (i : Nat) : (a - b) / 4294967296 ^ i + b / 4294967296 ^ i + bw a b i = a / 4294967296 ^ i := by
  have hP : 0 < 4294967296 ^ i := Nat.pow_pos (by omega)
  have h1 := Nat.div_add_mod a (4294967296 ^ i)
  have h2 := Nat.div_add_mod b (4294967296 ^ i)
  have h3 := Nat.mod_lt a hP
  have h4 := Nat.mod_lt b hP
  unfold bw
  generalize a / 4294967296 ^ i = qa at *
  generalize b / 4294967296 ^ i = qb at *
  generalize a % 4294967296 ^ i = ra at *
  generalize b % 4294967296 ^ i = rb at *
  generalize 4294967296 ^ i = P at *
  split
  · rename_i hlt
    have hq : qb + 1 ≤ qa := by
      rcases Nat.lt_or_ge qb qa with h | h
      · exact h
      · have := Nat.mul_le_mul_left P h; omega
    obtain ⟨d, rfl⟩ : ∃ d, qa = qb + 1 + d := ⟨qa - (qb + 1), by omega⟩
    rw [show a - b = P * d + (P + ra - rb) by rw [← h1, ← h2, Nat.mul_add, Nat.mul_add]; omega, Nat.mul_add_div hP, Nat.div_eq_of_lt (by omega)]
    omega
  · rename_i hlt
    have hq : qb ≤ qa := by
      rcases Nat.lt_or_ge qa qb with h | h
      · have := Nat.mul_le_mul_left P (show qa + 1 ≤ qb from h)
        rw [Nat.mul_add] at this; omega
      · exact h
    obtain ⟨d, rfl⟩ : ∃ d, qa = qb + d := ⟨qa - qb, by omega⟩
    rw [show a - b = P * d + (ra - rb) by rw [← h1, ← h2, Nat.mul_add]; omega, Nat.mul_add_div hP, Nat.div_eq_of_lt (by omega)]
    omega
theorem bw_dig {a b : Nat} (h : b ≤ a) (i : Nat) : (dig 4294967296 a i + 4294967296 - dig 4294967296 b i - (bw a b i : Nat)) % 4294967296 = dig 4294967296 (a - b) i := by
  have := bw_div h i
  rw [dig, dig, dig]
  omega
theorem bw_next {a b : Nat} (h : b ≤ a) (i : Nat) : 1 - (dig 4294967296 a i + 4294967296 - dig 4294967296 b i - (bw a b i : Nat)) / 4294967296 = ((bw a b (i + 1) : Nat) : Int) := by
  have h1 := bw_div h i
  have h2 := bw_div h (i + 1)
  have h3 := bw_le a b i
  have h4 := bw_le a b (i + 1)
  rw [Nat.pow_succ, ← Nat.div_div_eq_div_mul, ← Nat.div_div_eq_div_mul, ← Nat.div_div_eq_div_mul] at h2
  rw [dig, dig]
  omega
end Go.Proofs.YtbilnedgpgpanabGreatDoor
