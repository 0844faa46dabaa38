/- Part of a proof over the seat YtbilnedgpgpanaaDoor. -/
import Derived.Test.YtbilnedgpgpanaaDoorXE
namespace Go.Proofs.YtbilnedgpgpanaaDoor
open Go RowKit Go.Ew
set_option maxRecDepth 100000
set_option linter.unusedSimpArgs false
set_option linter.unusedVariables false
set_option maxHeartbeats 1000000
theorem in39 : codeIn Tryd.f39.ntmps (Tryd.f39.body.getD .skip) = true := by kernel_rfl
theorem lim_of {m : Nat} (hm : m < 18446744073709551616) : wE m = lim (m : Nat) 0 0 0 := by
  simp only [wE, wC, EV.agg.injEq, List.cons.injEq, EV.int.injEq, true_and, and_true]
  refine ⟨?_, ?_, ?_, ?_⟩ <;> omega
theorem dec_k {X k : Nat} (hX : X < 115792089237316195423570985008687907853269984665640564039457584007913129639936) (h : X / 10 ^ k ≠ 0) : k < 78 := by
  rcases Nat.lt_or_ge k 78 with h1 | h1
  · exact h1
  · exfalso; apply h
    apply Nat.div_eq_of_lt
    exact Nat.lt_of_lt_of_le (Nat.lt_trans hX (by decide : 115792089237316195423570985008687907853269984665640564039457584007913129639936 < 10 ^ 78)) (Nat.pow_le_pow_right (by omega) h1)
theorem dec_p (X : Nat) (hX : X < 115792089237316195423570985008687907853269984665640564039457584007913129639936) : Pure Tryd.prog 39 [wE X] (.str (strL (txtL 10 X))) := by
  have c1 := of_p 10 (by decide)
  refine pure_p (args := [wE X]) en39 (by simp [closed, closeds, closed_wE, closeds_ints]) Tryd.func39 rfl in39 (by simp [Tryd.f39]) (by simp [closeds, closed, closed_wE, closeds_ints]) (fun w => next_of 1000 ?_)
  simp (maxSteps := 4000000) (disch := omega) only [go_sem, Nat.reduceBEq, Nat.reduceAdd, Nat.reduceMul, Nat.reduceSub, Nat.reduceLT, Nat.reduceLeDiff, Int.reduceToNat, Int.reduceLT, Int.reduceLE, Int.reduceAdd, Int.reduceMul, Int.reduceSub, Int.reduceNeg, Int.reduceDiv, Int.reduceMod, Nat.reduceBNe, Nat.reduceGT, Int.reduceBEq, Int.reduceBNe, Int.reduceGT, Nat.reduceDiv, Nat.reduceMod, Nat.reducePow, Int.reducePow, gt_iff_lt, ge_iff_le, List.reduceReplicate, ↓reduceIte, Tryd.f39]
  repeat (with_reducible refine And.intro (by first | omega | assumption | (constructor <;> assumption) | (simp; done) | (simp; omega) | (simp [*]; done)) ?_)
  repeat' (first
    | with_reducible refine And.intro (by first | omega | assumption | (constructor <;> assumption) | (simp; done) | (simp; omega) | (simp [*]; done)) ?_
    | simp (maxSteps := 4000000) (disch := omega) only [go_sem, Nat.reduceBEq, Nat.reduceAdd, Nat.reduceMul, Nat.reduceSub, Nat.reduceLT, Nat.reduceLeDiff, Int.reduceToNat, Int.reduceLT, Int.reduceLE, Int.reduceAdd, Int.reduceMul, Int.reduceSub, Int.reduceNeg, Int.reduceDiv, Int.reduceMod, Nat.reduceBNe, Nat.reduceGT, Int.reduceBEq, Int.reduceBNe, Int.reduceGT, Nat.reduceDiv, Nat.reduceMod, Nat.reducePow, Int.reducePow, gt_iff_lt, ge_iff_le, List.reduceReplicate, ↓reduceIte]
    | with_reducible refine roundS (next_of 1000 ?_)
    | with_reducible refine drawS_of mixed (by kernel_rfl) (dg_of 1000 ?_)
    | with_reducible refine endD_of (by kernel_rfl) (next_of 1000 ?_)
    | refine callS_p (c1) (next_of 1000 ?_)
    | refine callD_p (c1) (dg_of 1000 ?_)
    | with_reducible refine next_of 1000 ?_
    | ((first | refine condS_split (fun h => ?_) (fun h => ?_) | refine testS_split (fun h => ?_) (fun h => ?_) | refine testD_split (fun h => ?_) (fun h => ?_)) <;> (try simp only [bne_iff_ne, ne_eq, beq_iff_eq, decide_eq_true_eq, decide_eq_false_iff_not, Bool.not_eq_true, Bool.not_eq_false, Bool.not_true, Bool.not_false, bne_eq_false_iff_eq, beq_eq_false_iff_ne, Bool.and_eq_true, Bool.or_eq_true, Bool.and_eq_false_imp, Bool.or_eq_false_iff, Bool.not_eq_true', Bool.not_eq_false', Int.not_lt, Int.not_le] at h) <;> (try (exfalso; omega))))
  refine loopU (S := Nat × Nat) (fun s => s.2 = X / 10 ^ s.1 ∧ (s.1 = 0 ∨ s.2 ≠ 0))
    (fun s => ⟨[(4, .str (strL (digL 10 X s.1))), (3, .ptr 1 0), (2, .str ⟨#[]⟩), (1, .ptr 0 0)], 2,
      [(1, some (.cells (wC 10) 24 (0, 0))), (0, some (.cells (wC s.2) 24 (0, 0)))], base w, []⟩)
    (fun s => s.2) (0, X) ⟨by simp, .inl rfl⟩ (Weak.sub (weak_of (by simp [wσ, go_sem, closed, closeds, strL, digL]) (by simp [whs, go_sem, EObj.closed, closed, closeds, strL, digL]) (by simp [*]) rfl rfl (by simp))) ?_
  rintro ⟨k, y⟩ ⟨hy, hk⟩
  simp only at hy hk
  have hyX : y ≤ X := by rw [hy]; exact Nat.div_le_self _ _
  have hk78 : k < 78 := by
    rcases hk with h | h
    · omega
    · exact dec_k hX (by rw [← hy]; exact h)
  have hr : y % 10 < 16 := by omega
  have c2 : Pure Tryd.prog 43 [wE y, wE 10] (lim ((y % 10 : Nat) : Int) 0 0 0) := by
    have := mod_p y 10 (by omega) (by decide)
    rwa [if_neg (by omega), lim_of (m := y % 10) (by omega)] at this
  have c3 := div_p y 10 (by omega) (by decide)
  have hq : y / 10 < 115792089237316195423570985008687907853269984665640564039457584007913129639936 := by omega
  have hss : (strL (digL 10 X k)).size = k := by rw [strL_size, digL_len]
  have hss1 : (strL [dcC (y % 10)]).size = 1 := strL_size _
  have h16 : (ByteArray.mk #[48, 49, 50, 51, 52, 53, 54, 55, 56, 57, 97, 98, 99, 100, 101, 102]).size = 16 := rfl
  have h16a : (#[48, 49, 50, 51, 52, 53, 54, 55, 56, 57, 97, 98, 99, 100, 101, 102] : Array UInt8).size = 16 := rfl
  have ed : strL [dcC (y % 10)] ++ strL (digL 10 X k) = strL (digL 10 X (k + 1)) := by
    rw [strL_app, hy]; rfl
  have hnx : y / 10 = X / 10 ^ (k + 1) := by rw [hy, Nat.pow_succ, Nat.div_div_eq_div_mul]
  have e2 : ((y % 10 : Nat) : Int).toNat = y % 10 := Int.toNat_natCast _
  by_cases hz : y / 10 = 0
  · rw [hz, show wE 0 = lim 0 0 0 0 from rfl] at c3
    refine next_of 1000 ?_
    repeat' (first
      | with_reducible refine And.intro (by first | omega | assumption | (constructor <;> assumption) | (simp; done) | (simp; omega) | (simp [*]; done)) ?_
      | simp (maxSteps := 4000000) (disch := omega) only [go_sem, Nat.reduceBEq, Nat.reduceAdd, Nat.reduceMul, Nat.reduceSub, Nat.reduceLT, Nat.reduceLeDiff, Int.reduceToNat, Int.reduceLT, Int.reduceLE, Int.reduceAdd, Int.reduceMul, Int.reduceSub, Int.reduceNeg, Int.reduceDiv, Int.reduceMod, Nat.reduceBNe, Nat.reduceGT, Int.reduceBEq, Int.reduceBNe, Int.reduceGT, Nat.reduceDiv, Nat.reduceMod, Nat.reducePow, Int.reducePow, gt_iff_lt, ge_iff_le, List.reduceReplicate, ↓reduceIte, e2, h16, h16a, one_dig _ hr, one_size _ hr, ed]
      | with_reducible refine roundS (next_of 1000 ?_)
      | with_reducible refine drawS_of mixed (by kernel_rfl) (dg_of 1000 ?_)
      | with_reducible refine endD_of (by kernel_rfl) (next_of 1000 ?_)
      | refine callS_p (c2) (next_of 1000 ?_)
      | refine callD_p (c2) (dg_of 1000 ?_)
      | refine callS_p (c3) (next_of 1000 ?_)
      | refine callD_p (c3) (dg_of 1000 ?_)
      | with_reducible refine next_of 1000 ?_
      | ((first | refine condS_split (fun h => ?_) (fun h => ?_) | refine testS_split (fun h => ?_) (fun h => ?_) | refine testD_split (fun h => ?_) (fun h => ?_)) <;> (try simp only [bne_iff_ne, ne_eq, beq_iff_eq, decide_eq_true_eq, decide_eq_false_iff_not, Bool.not_eq_true, Bool.not_eq_false, Bool.not_true, Bool.not_false, bne_eq_false_iff_eq, beq_eq_false_iff_ne, Bool.and_eq_true, Bool.or_eq_true, Bool.and_eq_false_imp, Bool.or_eq_false_iff, Bool.not_eq_true', Bool.not_eq_false', Int.not_lt, Int.not_le] at h) <;> (try (exfalso; omega))))
    have : nd 10 X = k + 1 := nd_eq (by omega) (by omega) (by
        rw [hz] at hnx
        exact Nat.lt_of_div_eq_zero (Nat.pow_pos (by omega)) hnx.symm) (by
        rcases hk with h | h
        · left; omega
        · right
          rw [hy] at h
          rcases Nat.lt_or_ge X (10 ^ k) with h1 | h1
          · exact absurd (Nat.div_eq_of_lt h1) h
          · exact h1)
    rw [txtL, this]
  · have hz4 : ¬ (y / 10 = 0) := hz
    refine next_of 1000 ?_
    repeat' (first
      | with_reducible refine And.intro (by first | omega | assumption | (constructor <;> assumption) | (simp; done) | (simp; omega) | (simp [*]; done)) ?_
      | simp (maxSteps := 4000000) (disch := omega) only [go_sem, Nat.reduceBEq, Nat.reduceAdd, Nat.reduceMul, Nat.reduceSub, Nat.reduceLT, Nat.reduceLeDiff, Int.reduceToNat, Int.reduceLT, Int.reduceLE, Int.reduceAdd, Int.reduceMul, Int.reduceSub, Int.reduceNeg, Int.reduceDiv, Int.reduceMod, Nat.reduceBNe, Nat.reduceGT, Int.reduceBEq, Int.reduceBNe, Int.reduceGT, Nat.reduceDiv, Nat.reduceMod, Nat.reducePow, Int.reducePow, gt_iff_lt, ge_iff_le, List.reduceReplicate, ↓reduceIte, e2, h16, h16a, one_dig _ hr, one_size _ hr, ed, z4e]
      | with_reducible refine roundS (next_of 1000 ?_)
      | with_reducible refine drawS_of mixed (by kernel_rfl) (dg_of 1000 ?_)
      | with_reducible refine endD_of (by kernel_rfl) (next_of 1000 ?_)
      | refine callS_p (c2) (next_of 1000 ?_)
      | refine callD_p (c2) (dg_of 1000 ?_)
      | refine callS_p (c3) (next_of 1000 ?_)
      | refine callD_p (c3) (dg_of 1000 ?_)
      | with_reducible refine next_of 1000 ?_
      | ((first | refine condS_split (fun h => ?_) (fun h => ?_) | refine testS_split (fun h => ?_) (fun h => ?_) | refine testD_split (fun h => ?_) (fun h => ?_)) <;> (try simp only [bne_iff_ne, ne_eq, beq_iff_eq, decide_eq_true_eq, decide_eq_false_iff_not, Bool.not_eq_true, Bool.not_eq_false, Bool.not_true, Bool.not_false, bne_eq_false_iff_eq, beq_eq_false_iff_ne, Bool.and_eq_true, Bool.or_eq_true, Bool.and_eq_false_imp, Bool.or_eq_false_iff, Bool.not_eq_true', Bool.not_eq_false', Int.not_lt, Int.not_le] at h) <;> (try (exfalso; omega))))
    exact ⟨(k + 1, y / 10), ⟨hnx, .inr hz⟩, Weak.sub (weak_of (by simp [wσ, go_sem, closed, closeds]) (by simp [whs, go_sem, EObj.closed, closed, closeds]) (by simp [*]) rfl rfl (by simp)), by show y / 10 < y; omega⟩
end Go.Proofs.YtbilnedgpgpanaaDoor
