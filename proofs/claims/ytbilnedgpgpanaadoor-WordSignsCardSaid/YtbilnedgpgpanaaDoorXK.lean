/- Part of a proof over the seat YtbilnedgpgpanaaDoor. -/
import Derived.Test.YtbilnedgpgpanaaDoorXG
import Derived.Test.YtbilnedgpgpanaaDoorWE
namespace Go.Proofs.YtbilnedgpgpanaaDoor
open Go RowKit Go.Ew
set_option maxRecDepth 100000
set_option linter.unusedSimpArgs false
set_option linter.unusedVariables false
set_option maxHeartbeats 1000000
theorem in70 : codeIn Tryd.f70.ntmps (Tryd.f70.body.getD .skip) = true := by kernel_rfl
theorem in104 : codeIn Tryd.f104.ntmps (Tryd.f104.body.getD .skip) = true := by kernel_rfl
theorem in14 : codeIn Tryd.f14.ntmps (Tryd.f14.body.getD .skip) = true := by kernel_rfl
theorem xor1_p (a b : Int) : Pure Tryd.prog 104 [.int .u64 a, .int .u64 b] (.int .u64 (bXor .u64 a b)) := by
  refine pure_p (args := [.int .u64 a, .int .u64 b]) en104 (by simp [closed, closeds, closed_wE, closeds_ints]) Tryd.func104 rfl in104 (by simp [Tryd.f104]) (by simp [closeds, closed, closed_wE, closeds_ints]) (fun w => next_of 1000 ?_)
  simp (maxSteps := 4000000) (disch := omega) only [go_sem, Nat.reduceBEq, Nat.reduceAdd, Nat.reduceMul, Nat.reduceSub, Nat.reduceLT, Nat.reduceLeDiff, Int.reduceToNat, Int.reduceLT, Int.reduceLE, Int.reduceAdd, Int.reduceMul, Int.reduceSub, Int.reduceNeg, Int.reduceDiv, Int.reduceMod, Nat.reduceBNe, Nat.reduceGT, Int.reduceBEq, Int.reduceBNe, Int.reduceGT, Nat.reduceDiv, Nat.reduceMod, Nat.reducePow, Int.reducePow, gt_iff_lt, ge_iff_le, List.reduceReplicate, ↓reduceIte, Tryd.f104]
  repeat (with_reducible refine And.intro (by first | omega | assumption | (constructor <;> assumption) | (simp; done) | (simp; omega) | (simp [*]; done)) ?_)
  repeat' (first
    | with_reducible refine And.intro (by first | omega | assumption | (constructor <;> assumption) | (simp; done) | (simp; omega) | (simp [*]; done)) ?_
    | simp (maxSteps := 4000000) (disch := omega) only [go_sem, Nat.reduceBEq, Nat.reduceAdd, Nat.reduceMul, Nat.reduceSub, Nat.reduceLT, Nat.reduceLeDiff, Int.reduceToNat, Int.reduceLT, Int.reduceLE, Int.reduceAdd, Int.reduceMul, Int.reduceSub, Int.reduceNeg, Int.reduceDiv, Int.reduceMod, Nat.reduceBNe, Nat.reduceGT, Int.reduceBEq, Int.reduceBNe, Int.reduceGT, Nat.reduceDiv, Nat.reduceMod, Nat.reducePow, Int.reducePow, gt_iff_lt, ge_iff_le, List.reduceReplicate, ↓reduceIte]
    | with_reducible refine roundS (next_of 1000 ?_)
    | with_reducible refine drawS_of mixed (by kernel_rfl) (dg_of 1000 ?_)
    | with_reducible refine endD_of (by kernel_rfl) (next_of 1000 ?_)
    | with_reducible refine next_of 1000 ?_
    | (refine condS_split (fun h => ?_) (fun h => ?_) <;> (try simp only [bne_iff_ne, ne_eq, beq_iff_eq, decide_eq_true_eq, decide_eq_false_iff_not, Bool.not_eq_true, Bool.not_eq_false, Bool.not_true, Bool.not_false, bne_eq_false_iff_eq, beq_eq_false_iff_ne, Bool.and_eq_true, Bool.or_eq_true, Bool.and_eq_false_imp, Bool.or_eq_false_iff, Bool.not_eq_true', Bool.not_eq_false', Int.not_lt, Int.not_le] at h) <;> (try (exfalso; omega)))
    | (refine testS_split (fun h => ?_) (fun h => ?_) <;> (try simp only [bne_iff_ne, ne_eq, beq_iff_eq, decide_eq_true_eq, decide_eq_false_iff_not, Bool.not_eq_true, Bool.not_eq_false, Bool.not_true, Bool.not_false, bne_eq_false_iff_eq, beq_eq_false_iff_ne, Bool.and_eq_true, Bool.or_eq_true, Bool.and_eq_false_imp, Bool.or_eq_false_iff, Bool.not_eq_true', Bool.not_eq_false', Int.not_lt, Int.not_le] at h) <;> (try (exfalso; omega)))
    | (refine testD_split (fun h => ?_) (fun h => ?_) <;> (try simp only [bne_iff_ne, ne_eq, beq_iff_eq, decide_eq_true_eq, decide_eq_false_iff_not, Bool.not_eq_true, Bool.not_eq_false, Bool.not_true, Bool.not_false, bne_eq_false_iff_eq, beq_eq_false_iff_ne, Bool.and_eq_true, Bool.or_eq_true, Bool.and_eq_false_imp, Bool.or_eq_false_iff, Bool.not_eq_true', Bool.not_eq_false', Int.not_lt, Int.not_le] at h) <;> (try (exfalso; omega))))
theorem bXor_0 {a : Int} (h0 : 0 ≤ a) (h1 : a < 18446744073709551616) : bXor .u64 a 0 = a := by
  rw [bXor_u64 h0 h1 (by omega) (by omega)]
  simp; omega
theorem xorhigh_p (x : Nat) (hx : x < 115792089237316195423570985008687907853269984665640564039457584007913129639936) : Pure Tryd.prog 70 [wE x, lim 0 0 0 9223372036854775808] (wE ((x + 57896044618658097711785492504343953926634992332820282019728792003956564819968) % 115792089237316195423570985008687907853269984665640564039457584007913129639936)) := by
  obtain ⟨a, b, c, d, hw, hl⟩ := wE_open x hx
  rw [hw]
  have hl' := hl
  obtain ⟨a0, a1, b0, b1, c0, c1, d0, d1, v⟩ := hl
  refine pure_p (args := [.agg [.int .u64 a, .int .u64 b, .int .u64 c, .int .u64 d], lim 0 0 0 9223372036854775808]) en70 (by simp [closed, closeds, closed_wE, closeds_ints]) Tryd.func70 rfl in70 (by simp [Tryd.f70]) (by simp [closeds, closed, closed_wE, closeds_ints]) (fun w => next_of 1000 ?_)
  simp (maxSteps := 4000000) (disch := omega) only [go_sem, Nat.reduceBEq, Nat.reduceAdd, Nat.reduceMul, Nat.reduceSub, Nat.reduceLT, Nat.reduceLeDiff, Int.reduceToNat, Int.reduceLT, Int.reduceLE, Int.reduceAdd, Int.reduceMul, Int.reduceSub, Int.reduceNeg, Int.reduceDiv, Int.reduceMod, Nat.reduceBNe, Nat.reduceGT, Int.reduceBEq, Int.reduceBNe, Int.reduceGT, Nat.reduceDiv, Nat.reduceMod, Nat.reducePow, Int.reducePow, gt_iff_lt, ge_iff_le, List.reduceReplicate, ↓reduceIte, Tryd.f70]
  repeat (with_reducible refine And.intro (by first | omega | assumption | (constructor <;> assumption) | (simp; done) | (simp; omega) | (simp [*]; done)) ?_)
  repeat' (first
    | with_reducible refine And.intro (by first | omega | assumption | (constructor <;> assumption) | (simp; done) | (simp; omega) | (simp [*]; done)) ?_
    | simp (maxSteps := 4000000) (disch := omega) only [go_sem, Nat.reduceBEq, Nat.reduceAdd, Nat.reduceMul, Nat.reduceSub, Nat.reduceLT, Nat.reduceLeDiff, Int.reduceToNat, Int.reduceLT, Int.reduceLE, Int.reduceAdd, Int.reduceMul, Int.reduceSub, Int.reduceNeg, Int.reduceDiv, Int.reduceMod, Nat.reduceBNe, Nat.reduceGT, Int.reduceBEq, Int.reduceBNe, Int.reduceGT, Nat.reduceDiv, Nat.reduceMod, Nat.reducePow, Int.reducePow, gt_iff_lt, ge_iff_le, List.reduceReplicate, ↓reduceIte]
    | with_reducible refine roundS (next_of 1000 ?_)
    | with_reducible refine drawS_of mixed (by kernel_rfl) (dg_of 1000 ?_)
    | with_reducible refine endD_of (by kernel_rfl) (next_of 1000 ?_)
    | refine callS_p (each_p 104 (bXor .u64) (xor1_p _ _) (xor1_p _ _) (xor1_p _ _) (xor1_p _ _)) (next_of 1000 ?_)
    | refine callD_p (each_p 104 (bXor .u64) (xor1_p _ _) (xor1_p _ _) (xor1_p _ _) (xor1_p _ _)) (dg_of 1000 ?_)
    | with_reducible refine next_of 1000 ?_
    | (refine condS_split (fun h => ?_) (fun h => ?_) <;> (try simp only [bne_iff_ne, ne_eq, beq_iff_eq, decide_eq_true_eq, decide_eq_false_iff_not, Bool.not_eq_true, Bool.not_eq_false, Bool.not_true, Bool.not_false, bne_eq_false_iff_eq, beq_eq_false_iff_ne, Bool.and_eq_true, Bool.or_eq_true, Bool.and_eq_false_imp, Bool.or_eq_false_iff, Bool.not_eq_true', Bool.not_eq_false', Int.not_lt, Int.not_le] at h) <;> (try (exfalso; omega)))
    | (refine testS_split (fun h => ?_) (fun h => ?_) <;> (try simp only [bne_iff_ne, ne_eq, beq_iff_eq, decide_eq_true_eq, decide_eq_false_iff_not, Bool.not_eq_true, Bool.not_eq_false, Bool.not_true, Bool.not_false, bne_eq_false_iff_eq, beq_eq_false_iff_ne, Bool.and_eq_true, Bool.or_eq_true, Bool.and_eq_false_imp, Bool.or_eq_false_iff, Bool.not_eq_true', Bool.not_eq_false', Int.not_lt, Int.not_le] at h) <;> (try (exfalso; omega)))
    | (refine testD_split (fun h => ?_) (fun h => ?_) <;> (try simp only [bne_iff_ne, ne_eq, beq_iff_eq, decide_eq_true_eq, decide_eq_false_iff_not, Bool.not_eq_true, Bool.not_eq_false, Bool.not_true, Bool.not_false, bne_eq_false_iff_eq, beq_eq_false_iff_ne, Bool.and_eq_true, Bool.or_eq_true, Bool.and_eq_false_imp, Bool.or_eq_false_iff, Bool.not_eq_true', Bool.not_eq_false', Int.not_lt, Int.not_le] at h) <;> (try (exfalso; omega))))
  try rw [bXor_0 a0 a1]
  try rw [bXor_0 b0 b1]
  try rw [bXor_0 c0 c1]
  refine wE_of ?_
  by_cases hd : d < 9223372036854775808
  · rw [if_pos hd]; constructor <;> omega
  · rw [if_neg hd]; constructor <;> omega
theorem cmpI_neg (a b : Int) : cmpI a b = - cmpI b a := by
  unfold cmpI
  by_cases h1 : a < b
  · rw [if_pos h1, if_neg (show ¬ b < a by omega), if_pos h1]
  · rw [if_neg h1]
    by_cases h2 : b < a
    · rw [if_pos h2, if_pos h2]; rfl
    · rw [if_neg h2, if_neg h2, if_neg h1]; rfl
theorem sexN_lt {k x : Nat} (hx : x < 115792089237316195423570985008687907853269984665640564039457584007913129639936) : sexN k x < 115792089237316195423570985008687907853269984665640564039457584007913129639936 := by
  unfold sexN; split
  · exact sarN_lt (mW _)
  · exact hx
theorem sex_twice (k x : Nat) (hx : x < 115792089237316195423570985008687907853269984665640564039457584007913129639936) : sexN k (sexN k x) = sexN k x := by
  unfold sexN
  by_cases hk : k < 31
  · rw [if_pos hk, if_pos hk]
    have hs256 : 248 - 8 * k < 256 := by omega
    generalize 248 - 8 * k = s at *
    have hP : 0 < 2 ^ s := Nat.pow_pos (by omega)
    obtain ⟨M, hM⟩ : ∃ M, 115792089237316195423570985008687907853269984665640564039457584007913129639936 = M * 2 ^ s := ⟨2 ^ (256 - s), by rw [← Nat.pow_add, show 256 - s + s = 256 by omega]⟩
    have hy : ∃ m, x * 2 ^ s % 115792089237316195423570985008687907853269984665640564039457584007913129639936 = m * 2 ^ s := ⟨x % M, by rw [hM, Nat.mul_mod_mul_right]⟩
    have hyl := mW (x * 2 ^ s)
    have key : sarN s (x * 2 ^ s % 115792089237316195423570985008687907853269984665640564039457584007913129639936) * 2 ^ s % 115792089237316195423570985008687907853269984665640564039457584007913129639936 = x * 2 ^ s % 115792089237316195423570985008687907853269984665640564039457584007913129639936 := by
      obtain ⟨m, hm⟩ := hy
      rw [hm] at hyl ⊢
      unfold sarN
      rw [if_pos hs256, if_pos hs256]
      split
      · rename_i hH
        have hmM : m < M := by
          rcases Nat.lt_or_ge m M with h | h
          · exact h
          · have := Nat.mul_le_mul_right (2 ^ s) h
            omega
        have e1 : (115792089237316195423570985008687907853269984665640564039457584007913129639936 - 1 - m * 2 ^ s) / 2 ^ s = M - m - 1 := by
          have e2 : (M - m) * 2 ^ s = M * 2 ^ s - m * 2 ^ s := Nat.sub_mul _ _ _
          have e3 : (M - m - 1) * 2 ^ s + 2 ^ s = (M - m) * 2 ^ s := by
            rw [← Nat.succ_mul]; congr 1; omega
          rw [show 115792089237316195423570985008687907853269984665640564039457584007913129639936 - 1 - m * 2 ^ s = (M - m - 1) * 2 ^ s + (2 ^ s - 1) by rw [hM] at hyl ⊢; omega]
          rw [Nat.mul_comm, Nat.mul_add_div hP, Nat.div_eq_of_lt (by omega), Nat.add_zero]
        rw [e1]
        have e4 : (115792089237316195423570985008687907853269984665640564039457584007913129639936 - 1 - (M - m - 1)) * 2 ^ s + M * 2 ^ s = 115792089237316195423570985008687907853269984665640564039457584007913129639936 * 2 ^ s + m * 2 ^ s := by
          rw [← Nat.add_mul, ← Nat.add_mul]; congr 1
          have : M ≤ 115792089237316195423570985008687907853269984665640564039457584007913129639936 := by rw [hM]; exact Nat.le_mul_of_pos_right _ hP
          omega
        rw [← hM] at e4
        generalize (115792089237316195423570985008687907853269984665640564039457584007913129639936 - 1 - (M - m - 1)) * 2 ^ s = A at *
        generalize m * 2 ^ s = B at *
        have e5 : 115792089237316195423570985008687907853269984665640564039457584007913129639936 * 2 ^ s % 115792089237316195423570985008687907853269984665640564039457584007913129639936 = 0 := Nat.mul_mod_right _ _
        generalize 115792089237316195423570985008687907853269984665640564039457584007913129639936 * 2 ^ s = C at *
        omega
      · rw [Nat.mul_div_cancel _ hP, Nat.mod_eq_of_lt hyl]
    rw [key]
  · rw [if_neg hk, if_neg hk]
theorem signs_p (x y k : Nat) (hx : x < 115792089237316195423570985008687907853269984665640564039457584007913129639936) (hy : y < 115792089237316195423570985008687907853269984665640564039457584007913129639936) (hk : k < 18446744073709551616) : Pure Tryd.prog 14 [wE x, wE y, .int .u64 (k : Nat)] (.bool true) := by
  have z1 : [EV.int .u64 (k : Nat), EV.int .u64 0, EV.int .u64 0, EV.int .u64 0] = wC k := by
    simp only [wC, List.cons.injEq, EV.int.injEq, true_and, and_true]
    refine ⟨?_, ?_, ?_, ?_⟩ <;> omega
  have c1 := signextend_p k x (by omega) hx
  have hs := sexN_lt (k := k) hx
  have c2 := signextend_p k _ (by omega) hs
  rw [sex_twice k x hx] at c2
  have c3 := scmp_p x y hx hy
  have c4 := xorhigh_p x hx
  have c5 := xorhigh_p y hy
  have c6 := cmp_p _ _ (mW (x + 57896044618658097711785492504343953926634992332820282019728792003956564819968)) (mW (y + 57896044618658097711785492504343953926634992332820282019728792003956564819968))
  have c7 := scmp_p y x hy hx
  have hn := cmpI_neg ((x + 57896044618658097711785492504343953926634992332820282019728792003956564819968) % 115792089237316195423570985008687907853269984665640564039457584007913129639936 : Nat) ((y + 57896044618658097711785492504343953926634992332820282019728792003956564819968) % 115792089237316195423570985008687907853269984665640564039457584007913129639936 : Nat)
  have hr : ∀ a b : Int, cmpI a b = -1 ∨ cmpI a b = 0 ∨ cmpI a b = 1 := by
    intro a b; unfold cmpI; split
    · left; rfl
    · split
      · right; right; rfl
      · right; left; rfl
  have hr1 := hr ((y + 57896044618658097711785492504343953926634992332820282019728792003956564819968) % 115792089237316195423570985008687907853269984665640564039457584007913129639936 : Nat) ((x + 57896044618658097711785492504343953926634992332820282019728792003956564819968) % 115792089237316195423570985008687907853269984665640564039457584007913129639936 : Nat)
  rw [hn] at c3 c6
  generalize cmpI ((y + 57896044618658097711785492504343953926634992332820282019728792003956564819968) % 115792089237316195423570985008687907853269984665640564039457584007913129639936 : Nat) ((x + 57896044618658097711785492504343953926634992332820282019728792003956564819968) % 115792089237316195423570985008687907853269984665640564039457584007913129639936 : Nat) = j at *
  generalize sexN k x = s at *
  generalize (x + 57896044618658097711785492504343953926634992332820282019728792003956564819968) % 115792089237316195423570985008687907853269984665640564039457584007913129639936 = a at *
  generalize (y + 57896044618658097711785492504343953926634992332820282019728792003956564819968) % 115792089237316195423570985008687907853269984665640564039457584007913129639936 = b at *
  clear hn hr
  rcases hr1 with rfl | rfl | rfl
  · refine pure_p (args := [wE x, wE y, .int .u64 (k : Nat)]) en14 (by simp [closed, closeds, closed_wE, closeds_ints]) Tryd.func14 rfl in14 (by simp [Tryd.f14]) (by simp [closeds, closed, closed_wE, closeds_ints]) (fun w => next_of 1000 ?_)
    simp (maxSteps := 4000000) (disch := omega) only [go_sem, Nat.reduceBEq, Nat.reduceAdd, Nat.reduceMul, Nat.reduceSub, Nat.reduceLT, Nat.reduceLeDiff, Int.reduceToNat, Int.reduceLT, Int.reduceLE, Int.reduceAdd, Int.reduceMul, Int.reduceSub, Int.reduceNeg, Int.reduceDiv, Int.reduceMod, Nat.reduceBNe, Nat.reduceGT, Int.reduceBEq, Int.reduceBNe, Int.reduceGT, Nat.reduceDiv, Nat.reduceMod, Nat.reducePow, Int.reducePow, gt_iff_lt, ge_iff_le, List.reduceReplicate, ↓reduceIte, Tryd.f14]
    repeat (with_reducible refine And.intro (by first | omega | assumption | (constructor <;> assumption) | (simp; done) | (simp; omega) | (simp [*]; done)) ?_)
    repeat' (first
      | with_reducible refine And.intro (by first | omega | assumption | (constructor <;> assumption) | (simp; done) | (simp; omega) | (simp [*]; done)) ?_
      | simp (maxSteps := 4000000) (disch := omega) only [go_sem, Nat.reduceBEq, Nat.reduceAdd, Nat.reduceMul, Nat.reduceSub, Nat.reduceLT, Nat.reduceLeDiff, Int.reduceToNat, Int.reduceLT, Int.reduceLE, Int.reduceAdd, Int.reduceMul, Int.reduceSub, Int.reduceNeg, Int.reduceDiv, Int.reduceMod, Nat.reduceBNe, Nat.reduceGT, Int.reduceBEq, Int.reduceBNe, Int.reduceGT, Nat.reduceDiv, Nat.reduceMod, Nat.reducePow, Int.reducePow, gt_iff_lt, ge_iff_le, List.reduceReplicate, ↓reduceIte, z1]
      | with_reducible refine roundS (next_of 1000 ?_)
      | with_reducible refine drawS_of mixed (by kernel_rfl) (dg_of 1000 ?_)
      | with_reducible refine endD_of (by kernel_rfl) (next_of 1000 ?_)
      | refine callS_p (c1) (next_of 1000 ?_)
      | refine callD_p (c1) (dg_of 1000 ?_)
      | refine callS_p (c2) (next_of 1000 ?_)
      | refine callD_p (c2) (dg_of 1000 ?_)
      | refine callS_p (c3) (next_of 1000 ?_)
      | refine callD_p (c3) (dg_of 1000 ?_)
      | refine callS_p (c4) (next_of 1000 ?_)
      | refine callD_p (c4) (dg_of 1000 ?_)
      | refine callS_p (c5) (next_of 1000 ?_)
      | refine callD_p (c5) (dg_of 1000 ?_)
      | refine callS_p (c6) (next_of 1000 ?_)
      | refine callD_p (c6) (dg_of 1000 ?_)
      | refine callS_p (c7) (next_of 1000 ?_)
      | refine callD_p (c7) (dg_of 1000 ?_)
      | refine callS_p (awake_p) (next_of 1000 ?_)
      | refine callD_p (awake_p) (dg_of 1000 ?_)
      | with_reducible refine next_of 1000 ?_
      | (refine condS_split (fun h => ?_) (fun h => ?_) <;> (try simp only [bne_iff_ne, ne_eq, beq_iff_eq, decide_eq_true_eq, decide_eq_false_iff_not, Bool.not_eq_true, Bool.not_eq_false, Bool.not_true, Bool.not_false, bne_eq_false_iff_eq, beq_eq_false_iff_ne, Bool.and_eq_true, Bool.or_eq_true, Bool.and_eq_false_imp, Bool.or_eq_false_iff, Bool.not_eq_true', Bool.not_eq_false', Int.not_lt, Int.not_le] at h) <;> (try (exfalso; omega)))
      | (refine testS_split (fun h => ?_) (fun h => ?_) <;> (try simp only [bne_iff_ne, ne_eq, beq_iff_eq, decide_eq_true_eq, decide_eq_false_iff_not, Bool.not_eq_true, Bool.not_eq_false, Bool.not_true, Bool.not_false, bne_eq_false_iff_eq, beq_eq_false_iff_ne, Bool.and_eq_true, Bool.or_eq_true, Bool.and_eq_false_imp, Bool.or_eq_false_iff, Bool.not_eq_true', Bool.not_eq_false', Int.not_lt, Int.not_le] at h) <;> (try (exfalso; omega)))
      | (refine testD_split (fun h => ?_) (fun h => ?_) <;> (try simp only [bne_iff_ne, ne_eq, beq_iff_eq, decide_eq_true_eq, decide_eq_false_iff_not, Bool.not_eq_true, Bool.not_eq_false, Bool.not_true, Bool.not_false, bne_eq_false_iff_eq, beq_eq_false_iff_ne, Bool.and_eq_true, Bool.or_eq_true, Bool.and_eq_false_imp, Bool.or_eq_false_iff, Bool.not_eq_true', Bool.not_eq_false', Int.not_lt, Int.not_le] at h) <;> (try (exfalso; omega))))
  · refine pure_p (args := [wE x, wE y, .int .u64 (k : Nat)]) en14 (by simp [closed, closeds, closed_wE, closeds_ints]) Tryd.func14 rfl in14 (by simp [Tryd.f14]) (by simp [closeds, closed, closed_wE, closeds_ints]) (fun w => next_of 1000 ?_)
    simp (maxSteps := 4000000) (disch := omega) only [go_sem, Nat.reduceBEq, Nat.reduceAdd, Nat.reduceMul, Nat.reduceSub, Nat.reduceLT, Nat.reduceLeDiff, Int.reduceToNat, Int.reduceLT, Int.reduceLE, Int.reduceAdd, Int.reduceMul, Int.reduceSub, Int.reduceNeg, Int.reduceDiv, Int.reduceMod, Nat.reduceBNe, Nat.reduceGT, Int.reduceBEq, Int.reduceBNe, Int.reduceGT, Nat.reduceDiv, Nat.reduceMod, Nat.reducePow, Int.reducePow, gt_iff_lt, ge_iff_le, List.reduceReplicate, ↓reduceIte, Tryd.f14]
    repeat (with_reducible refine And.intro (by first | omega | assumption | (constructor <;> assumption) | (simp; done) | (simp; omega) | (simp [*]; done)) ?_)
    repeat' (first
      | with_reducible refine And.intro (by first | omega | assumption | (constructor <;> assumption) | (simp; done) | (simp; omega) | (simp [*]; done)) ?_
      | simp (maxSteps := 4000000) (disch := omega) only [go_sem, Nat.reduceBEq, Nat.reduceAdd, Nat.reduceMul, Nat.reduceSub, Nat.reduceLT, Nat.reduceLeDiff, Int.reduceToNat, Int.reduceLT, Int.reduceLE, Int.reduceAdd, Int.reduceMul, Int.reduceSub, Int.reduceNeg, Int.reduceDiv, Int.reduceMod, Nat.reduceBNe, Nat.reduceGT, Int.reduceBEq, Int.reduceBNe, Int.reduceGT, Nat.reduceDiv, Nat.reduceMod, Nat.reducePow, Int.reducePow, gt_iff_lt, ge_iff_le, List.reduceReplicate, ↓reduceIte, z1]
      | with_reducible refine roundS (next_of 1000 ?_)
      | with_reducible refine drawS_of mixed (by kernel_rfl) (dg_of 1000 ?_)
      | with_reducible refine endD_of (by kernel_rfl) (next_of 1000 ?_)
      | refine callS_p (c1) (next_of 1000 ?_)
      | refine callD_p (c1) (dg_of 1000 ?_)
      | refine callS_p (c2) (next_of 1000 ?_)
      | refine callD_p (c2) (dg_of 1000 ?_)
      | refine callS_p (c3) (next_of 1000 ?_)
      | refine callD_p (c3) (dg_of 1000 ?_)
      | refine callS_p (c4) (next_of 1000 ?_)
      | refine callD_p (c4) (dg_of 1000 ?_)
      | refine callS_p (c5) (next_of 1000 ?_)
      | refine callD_p (c5) (dg_of 1000 ?_)
      | refine callS_p (c6) (next_of 1000 ?_)
      | refine callD_p (c6) (dg_of 1000 ?_)
      | refine callS_p (c7) (next_of 1000 ?_)
      | refine callD_p (c7) (dg_of 1000 ?_)
      | refine callS_p (awake_p) (next_of 1000 ?_)
      | refine callD_p (awake_p) (dg_of 1000 ?_)
      | with_reducible refine next_of 1000 ?_
      | (refine condS_split (fun h => ?_) (fun h => ?_) <;> (try simp only [bne_iff_ne, ne_eq, beq_iff_eq, decide_eq_true_eq, decide_eq_false_iff_not, Bool.not_eq_true, Bool.not_eq_false, Bool.not_true, Bool.not_false, bne_eq_false_iff_eq, beq_eq_false_iff_ne, Bool.and_eq_true, Bool.or_eq_true, Bool.and_eq_false_imp, Bool.or_eq_false_iff, Bool.not_eq_true', Bool.not_eq_false', Int.not_lt, Int.not_le] at h) <;> (try (exfalso; omega)))
      | (refine testS_split (fun h => ?_) (fun h => ?_) <;> (try simp only [bne_iff_ne, ne_eq, beq_iff_eq, decide_eq_true_eq, decide_eq_false_iff_not, Bool.not_eq_true, Bool.not_eq_false, Bool.not_true, Bool.not_false, bne_eq_false_iff_eq, beq_eq_false_iff_ne, Bool.and_eq_true, Bool.or_eq_true, Bool.and_eq_false_imp, Bool.or_eq_false_iff, Bool.not_eq_true', Bool.not_eq_false', Int.not_lt, Int.not_le] at h) <;> (try (exfalso; omega)))
      | (refine testD_split (fun h => ?_) (fun h => ?_) <;> (try simp only [bne_iff_ne, ne_eq, beq_iff_eq, decide_eq_true_eq, decide_eq_false_iff_not, Bool.not_eq_true, Bool.not_eq_false, Bool.not_true, Bool.not_false, bne_eq_false_iff_eq, beq_eq_false_iff_ne, Bool.and_eq_true, Bool.or_eq_true, Bool.and_eq_false_imp, Bool.or_eq_false_iff, Bool.not_eq_true', Bool.not_eq_false', Int.not_lt, Int.not_le] at h) <;> (try (exfalso; omega))))
  · refine pure_p (args := [wE x, wE y, .int .u64 (k : Nat)]) en14 (by simp [closed, closeds, closed_wE, closeds_ints]) Tryd.func14 rfl in14 (by simp [Tryd.f14]) (by simp [closeds, closed, closed_wE, closeds_ints]) (fun w => next_of 1000 ?_)
    simp (maxSteps := 4000000) (disch := omega) only [go_sem, Nat.reduceBEq, Nat.reduceAdd, Nat.reduceMul, Nat.reduceSub, Nat.reduceLT, Nat.reduceLeDiff, Int.reduceToNat, Int.reduceLT, Int.reduceLE, Int.reduceAdd, Int.reduceMul, Int.reduceSub, Int.reduceNeg, Int.reduceDiv, Int.reduceMod, Nat.reduceBNe, Nat.reduceGT, Int.reduceBEq, Int.reduceBNe, Int.reduceGT, Nat.reduceDiv, Nat.reduceMod, Nat.reducePow, Int.reducePow, gt_iff_lt, ge_iff_le, List.reduceReplicate, ↓reduceIte, Tryd.f14]
    repeat (with_reducible refine And.intro (by first | omega | assumption | (constructor <;> assumption) | (simp; done) | (simp; omega) | (simp [*]; done)) ?_)
    repeat' (first
      | with_reducible refine And.intro (by first | omega | assumption | (constructor <;> assumption) | (simp; done) | (simp; omega) | (simp [*]; done)) ?_
      | simp (maxSteps := 4000000) (disch := omega) only [go_sem, Nat.reduceBEq, Nat.reduceAdd, Nat.reduceMul, Nat.reduceSub, Nat.reduceLT, Nat.reduceLeDiff, Int.reduceToNat, Int.reduceLT, Int.reduceLE, Int.reduceAdd, Int.reduceMul, Int.reduceSub, Int.reduceNeg, Int.reduceDiv, Int.reduceMod, Nat.reduceBNe, Nat.reduceGT, Int.reduceBEq, Int.reduceBNe, Int.reduceGT, Nat.reduceDiv, Nat.reduceMod, Nat.reducePow, Int.reducePow, gt_iff_lt, ge_iff_le, List.reduceReplicate, ↓reduceIte, z1]
      | with_reducible refine roundS (next_of 1000 ?_)
      | with_reducible refine drawS_of mixed (by kernel_rfl) (dg_of 1000 ?_)
      | with_reducible refine endD_of (by kernel_rfl) (next_of 1000 ?_)
      | refine callS_p (c1) (next_of 1000 ?_)
      | refine callD_p (c1) (dg_of 1000 ?_)
      | refine callS_p (c2) (next_of 1000 ?_)
      | refine callD_p (c2) (dg_of 1000 ?_)
      | refine callS_p (c3) (next_of 1000 ?_)
      | refine callD_p (c3) (dg_of 1000 ?_)
      | refine callS_p (c4) (next_of 1000 ?_)
      | refine callD_p (c4) (dg_of 1000 ?_)
      | refine callS_p (c5) (next_of 1000 ?_)
      | refine callD_p (c5) (dg_of 1000 ?_)
      | refine callS_p (c6) (next_of 1000 ?_)
      | refine callD_p (c6) (dg_of 1000 ?_)
      | refine callS_p (c7) (next_of 1000 ?_)
      | refine callD_p (c7) (dg_of 1000 ?_)
      | refine callS_p (awake_p) (next_of 1000 ?_)
      | refine callD_p (awake_p) (dg_of 1000 ?_)
      | with_reducible refine next_of 1000 ?_
      | (refine condS_split (fun h => ?_) (fun h => ?_) <;> (try simp only [bne_iff_ne, ne_eq, beq_iff_eq, decide_eq_true_eq, decide_eq_false_iff_not, Bool.not_eq_true, Bool.not_eq_false, Bool.not_true, Bool.not_false, bne_eq_false_iff_eq, beq_eq_false_iff_ne, Bool.and_eq_true, Bool.or_eq_true, Bool.and_eq_false_imp, Bool.or_eq_false_iff, Bool.not_eq_true', Bool.not_eq_false', Int.not_lt, Int.not_le] at h) <;> (try (exfalso; omega)))
      | (refine testS_split (fun h => ?_) (fun h => ?_) <;> (try simp only [bne_iff_ne, ne_eq, beq_iff_eq, decide_eq_true_eq, decide_eq_false_iff_not, Bool.not_eq_true, Bool.not_eq_false, Bool.not_true, Bool.not_false, bne_eq_false_iff_eq, beq_eq_false_iff_ne, Bool.and_eq_true, Bool.or_eq_true, Bool.and_eq_false_imp, Bool.or_eq_false_iff, Bool.not_eq_true', Bool.not_eq_false', Int.not_lt, Int.not_le] at h) <;> (try (exfalso; omega)))
      | (refine testD_split (fun h => ?_) (fun h => ?_) <;> (try simp only [bne_iff_ne, ne_eq, beq_iff_eq, decide_eq_true_eq, decide_eq_false_iff_not, Bool.not_eq_true, Bool.not_eq_false, Bool.not_true, Bool.not_false, bne_eq_false_iff_eq, beq_eq_false_iff_ne, Bool.and_eq_true, Bool.or_eq_true, Bool.and_eq_false_imp, Bool.or_eq_false_iff, Bool.not_eq_true', Bool.not_eq_false', Int.not_lt, Int.not_le] at h) <;> (try (exfalso; omega))))
end Go.Proofs.YtbilnedgpgpanaaDoor
