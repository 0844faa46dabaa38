/- Part of a proof over the seat YtbilnedgpgpanaaDoor. -/
import Derived.Test.YtbilnedgpgpanaaDoorWD
namespace Go.Proofs.YtbilnedgpgpanaaDoor
open Go Go.Ew
set_option maxRecDepth 100000
set_option linter.unusedSimpArgs false
set_option linter.unusedVariables false
set_option maxHeartbeats 1000000
theorem shl_p (n x : Nat) (hn : n < 115792089237316195423570985008687907853269984665640564039457584007913129639936) (hx : x < 115792089237316195423570985008687907853269984665640564039457584007913129639936) : Pure Tryd.prog 61 [wE n, wE x] (wE (if n < 256 then x * 2 ^ n % 115792089237316195423570985008687907853269984665640564039457584007913129639936 else 0)) := by
  have h := shl_key n x (if n < 256 then n else 256) hx (by split <;> omega) (shift_p n hn)
  by_cases e : n < 256
  · rw [if_pos e] at h ⊢; exact h
  · rw [if_neg e] at h ⊢
    rw [show x * 2 ^ 256 % 115792089237316195423570985008687907853269984665640564039457584007913129639936 = 0 by rw [show (2 : Nat) ^ 256 = 115792089237316195423570985008687907853269984665640564039457584007913129639936 by decide]; exact Nat.mul_mod_left _ _] at h
    exact h
theorem bOr_comm (a b : Int) : bOr .u64 a b = bOr .u64 b a := by
  unfold bOr; rw [BitVec.or_comm]
theorem shr_key (n x k : Nat) (hx : x < 115792089237316195423570985008687907853269984665640564039457584007913129639936) (hk : k ≤ 256) (hs : Pure Tryd.prog 97 [wE n] (.int .i64 (k : Int))) : Pure Tryd.prog 60 [wE n, wE x] (wE (x / 2 ^ k)) := by
  obtain ⟨a, b, c, d, hw, hl⟩ := wE_open x hx
  rw [hw]
  obtain ⟨a0, a1, b0, b1, c0, c1, d0, d1, v⟩ := hl
  obtain ⟨q, r, hqr, hr⟩ : ∃ q r : Nat, k = 64 * q + r ∧ r < 64 := ⟨k / 64, k % 64, by omega, by omega⟩
  have hq4 : ((k : Int) / 64 = 0 ∧ (2 ^ 64) ^ q = 1) ∨ ((k : Int) / 64 = 1 ∧ (2 ^ 64) ^ q = 18446744073709551616) ∨ ((k : Int) / 64 = 2 ∧ (2 ^ 64) ^ q = 340282366920938463463374607431768211456) ∨
      ((k : Int) / 64 = 3 ∧ (2 ^ 64) ^ q = 6277101735386680763835789423207666416102355444464034512896) ∨ ((k : Int) / 64 = 4 ∧ (2 ^ 64) ^ q = 115792089237316195423570985008687907853269984665640564039457584007913129639936 ∧ r = 0) := by
    have : q = 0 ∨ q = 1 ∨ q = 2 ∨ q = 3 ∨ q = 4 := by omega
    rcases this with rfl | rfl | rfl | rfl | rfl
    · exact .inl ⟨by omega, by decide⟩
    · exact .inr (.inl ⟨by omega, by decide⟩)
    · exact .inr (.inr (.inl ⟨by omega, by decide⟩))
    · exact .inr (.inr (.inr (.inl ⟨by omega, by decide⟩)))
    · exact .inr (.inr (.inr (.inr ⟨by omega, by decide, by omega⟩)))
  have hrm : (k : Int) % 64 = (r : Int) := by omega
  have hxq : x / 2 ^ k = (x / 2 ^ r) / (2 ^ 64) ^ q := by rw [hqr, Nat.pow_add, Nat.pow_mul, Nat.mul_comm, Nat.div_div_eq_div_mul]
  by_cases h0 : r = 0
  · subst h0
    rw [Nat.pow_zero, Nat.div_one] at hxq
    refine pure_p (args := [wE n, .agg [.int .u64 a, .int .u64 b, .int .u64 c, .int .u64 d]]) en60 (by simp [closed, closeds, closed_wE, closeds_ints]) Tryd.func60 rfl in60 (by simp [Tryd.f60]) (by simp [closeds, closed, closed_wE, closeds_ints]) (fun w => next_of 1000 ?_)
    simp (maxSteps := 4000000) (disch := omega) only [go_sem, Nat.reduceBEq, Nat.reduceAdd, Nat.reduceMul, Nat.reduceSub, Nat.reduceLT, Nat.reduceLeDiff, Int.reduceToNat, Int.reduceLT, Int.reduceLE, Int.reduceAdd, Int.reduceMul, Int.reduceSub, Int.reduceNeg, Int.reduceDiv, Int.reduceMod, Nat.reduceBNe, Nat.reduceGT, Int.reduceBEq, Int.reduceBNe, Int.reduceGT, Nat.reduceDiv, Nat.reduceMod, Nat.reducePow, Int.reducePow, gt_iff_lt, ge_iff_le, List.reduceReplicate, ↓reduceIte, Tryd.f60]
    repeat (with_reducible refine And.intro (by first | omega | assumption | (constructor <;> assumption) | (simp; done) | (simp; omega) | (simp [*]; done)) ?_)
    refine callS_p hs (next_of 1000 ?_)
    rw [show ((0 : Nat) : Int) = 0 from rfl] at hrm
    rcases hq4 with ⟨hq, hp⟩ | ⟨hq, hp⟩ | ⟨hq, hp⟩ | ⟨hq, hp⟩ | ⟨hq, hp, _⟩
    all_goals repeat' (first
                | with_reducible refine And.intro (by first | omega | assumption | (constructor <;> assumption) | (simp; done) | (simp; omega) | (simp [*]; done)) ?_
                | simp (maxSteps := 4000000) (disch := omega) only [go_sem, Nat.reduceBEq, Nat.reduceAdd, Nat.reduceMul, Nat.reduceSub, Nat.reduceLT, Nat.reduceLeDiff, Int.reduceToNat, Int.reduceLT, Int.reduceLE, Int.reduceAdd, Int.reduceMul, Int.reduceSub, Int.reduceNeg, Int.reduceDiv, Int.reduceMod, Nat.reduceBNe, Nat.reduceGT, Int.reduceBEq, Int.reduceBNe, Int.reduceGT, Nat.reduceDiv, Nat.reduceMod, Nat.reducePow, Int.reducePow, gt_iff_lt, ge_iff_le, List.reduceReplicate, ↓reduceIte, hq, hrm, Int.pow_zero, Int.mul_one, Int.ediv_one]
                | with_reducible refine roundS (next_of 1000 ?_)
                | with_reducible refine drawS_of mixed (by kernel_rfl) (dg_of 1000 ?_)
                | with_reducible refine endD_of (by kernel_rfl) (next_of 1000 ?_)
                | with_reducible refine next_of 1000 ?_
                | ((first | refine condS_split (fun h => ?_) (fun h => ?_) | refine testS_split (fun h => ?_) (fun h => ?_) | refine testD_split (fun h => ?_) (fun h => ?_)) <;> (try simp only [bne_iff_ne, ne_eq, beq_iff_eq, decide_eq_true_eq, decide_eq_false_iff_not, Bool.not_eq_true, Bool.not_eq_false, Bool.not_true, Bool.not_false, bne_eq_false_iff_eq, beq_eq_false_iff_ne, Bool.and_eq_true, Bool.or_eq_true, Bool.and_eq_false_imp, Bool.or_eq_false_iff, Bool.not_eq_true', Bool.not_eq_false', Int.not_lt, Int.not_le] at h) <;> (try (exfalso; omega))))
    all_goals refine loopS_rounds 5 ?_
    all_goals repeat' (first
                | with_reducible refine And.intro (by first | omega | assumption | (constructor <;> assumption) | (simp; done) | (simp; omega) | (simp [*]; done)) ?_
                | simp (maxSteps := 4000000) (disch := omega) only [go_sem, Nat.reduceBEq, Nat.reduceAdd, Nat.reduceMul, Nat.reduceSub, Nat.reduceLT, Nat.reduceLeDiff, Int.reduceToNat, Int.reduceLT, Int.reduceLE, Int.reduceAdd, Int.reduceMul, Int.reduceSub, Int.reduceNeg, Int.reduceDiv, Int.reduceMod, Nat.reduceBNe, Nat.reduceGT, Int.reduceBEq, Int.reduceBNe, Int.reduceGT, Nat.reduceDiv, Nat.reduceMod, Nat.reducePow, Int.reducePow, gt_iff_lt, ge_iff_le, List.reduceReplicate, ↓reduceIte, hq, hrm, Int.pow_zero, Int.mul_one, Int.ediv_one]
                | with_reducible refine roundS (next_of 1000 ?_)
                | with_reducible refine drawS_of mixed (by kernel_rfl) (dg_of 1000 ?_)
                | with_reducible refine endD_of (by kernel_rfl) (next_of 1000 ?_)
                | with_reducible refine next_of 1000 ?_
                | ((first | refine condS_split (fun h => ?_) (fun h => ?_) | refine testS_split (fun h => ?_) (fun h => ?_) | refine testD_split (fun h => ?_) (fun h => ?_)) <;> (try simp only [bne_iff_ne, ne_eq, beq_iff_eq, decide_eq_true_eq, decide_eq_false_iff_not, Bool.not_eq_true, Bool.not_eq_false, Bool.not_true, Bool.not_false, bne_eq_false_iff_eq, beq_eq_false_iff_ne, Bool.and_eq_true, Bool.or_eq_true, Bool.and_eq_false_imp, Bool.or_eq_false_iff, Bool.not_eq_true', Bool.not_eq_false', Int.not_lt, Int.not_le] at h) <;> (try (exfalso; omega))))
    all_goals exact wE_of (by rw [hxq, hp]; constructor <;> omega)
  · have hr1 : 0 < 64 - r := by omega
    have hr2 : 64 - r < 64 := by omega
    have hr3 : 64 - (64 - r) = r := by omega
    obtain ⟨ha, la, A1, A2, A3, A4, A5, A6, A7, A8, A9⟩ := shl_limb a0 a1 hr1 hr2
    obtain ⟨hb, lb, B1, B2, B3, B4, B5, B6, B7, B8, B9⟩ := shl_limb b0 b1 hr1 hr2
    obtain ⟨hc, lc, C1, C2, C3, C4, C5, C6, C7, C8, C9⟩ := shl_limb c0 c1 hr1 hr2
    obtain ⟨hd, ld, D1, D2, D3, D4, D5, D6, D7, D8, D9⟩ := shl_limb d0 d1 hr1 hr2
    rw [hr3] at A2 B2 C2 D2
    have hr0 : (0 : Int) < r := by omega
    have hr64 : ((64 : Int) - r).toNat = 64 - r := by omega
    have hrr : (r : Int).toNat = r := by omega
    have hx2 : ((x * 2 ^ (64 - r) : Nat) : Int) = a * 2 ^ (64 - r) + b * 2 ^ (64 - r) * 18446744073709551616 + c * 2 ^ (64 - r) * 340282366920938463463374607431768211456 + d * 2 ^ (64 - r) * 6277101735386680763835789423207666416102355444464034512896 := by
      rw [Int.natCast_mul, v]; simp only [Int.add_mul, Int.natCast_pow]
      rw [Int.mul_right_comm b, Int.mul_right_comm c, Int.mul_right_comm d]; rfl
    rw [A3, B3, C3, D3] at hx2
    have hxr : x / 2 ^ r = x * 2 ^ (64 - r) / 18446744073709551616 := by
      rw [show 18446744073709551616 = 2 ^ r * 2 ^ (64 - r) by rw [← Nat.pow_add, show r + (64 - r) = 64 by omega]]
      rw [Nat.mul_div_mul_right _ _ (Nat.pow_pos (by omega))]
    have o1 := B8 ha A6 A7
    have o2 := C8 hb B6 B7
    have o3 := D8 hc C6 C7
    have o1 := B8 ha A6 A7
    rw [bOr_comm] at o1 o2 o3
    have hxr2 : ((x / 2 ^ r : Nat) : Int) = (ha + lb) + (hb + lc) * 18446744073709551616 + (hc + ld) * 340282366920938463463374607431768211456 + hd * 6277101735386680763835789423207666416102355444464034512896 := by
      rw [hxr]
      generalize x * 2 ^ (64 - r) = y at hx2
      omega
    clear hx2 hxr A3 B3 C3 D3
    generalize x / 2 ^ r = y at *
    have hSS : (2 : Int) ^ (64 - r) ≤ 9223372036854775808 := by
      have h1 : (2 : Nat) ^ (64 - r) ≤ 2 ^ 63 := Nat.pow_le_pow_right (by omega) (by omega)
      have h2 : ((2 ^ (64 - r) : Nat) : Int) = (2 : Int) ^ (64 - r) := by simp
      rw [← h2]; omega
    refine pure_p (args := [wE n, .agg [.int .u64 a, .int .u64 b, .int .u64 c, .int .u64 d]]) en60 (by simp [closed, closeds, closed_wE, closeds_ints]) Tryd.func60 rfl in60 (by simp [Tryd.f60]) (by simp [closeds, closed, closed_wE, closeds_ints]) (fun w => next_of 1000 ?_)
    simp (maxSteps := 4000000) (disch := omega) only [go_sem, Nat.reduceBEq, Nat.reduceAdd, Nat.reduceMul, Nat.reduceSub, Nat.reduceLT, Nat.reduceLeDiff, Int.reduceToNat, Int.reduceLT, Int.reduceLE, Int.reduceAdd, Int.reduceMul, Int.reduceSub, Int.reduceNeg, Int.reduceDiv, Int.reduceMod, Nat.reduceBNe, Nat.reduceGT, Int.reduceBEq, Int.reduceBNe, Int.reduceGT, Nat.reduceDiv, Nat.reduceMod, Nat.reducePow, Int.reducePow, gt_iff_lt, ge_iff_le, List.reduceReplicate, ↓reduceIte, Tryd.f60]
    repeat (with_reducible refine And.intro (by first | omega | assumption | (constructor <;> assumption) | (simp; done) | (simp; omega) | (simp [*]; done)) ?_)
    refine callS_p hs (next_of 1000 ?_)
    rcases hq4 with ⟨hq, hp⟩ | ⟨hq, hp⟩ | ⟨hq, hp⟩ | ⟨hq, hp⟩ | ⟨_, _, hz⟩
    case inr.inr.inr.inr => exact absurd hz h0
    all_goals repeat' (first
                | with_reducible refine And.intro (by first | omega | assumption | (constructor <;> assumption) | (simp; done) | (simp; omega) | (simp [*]; done)) ?_
                | simp (maxSteps := 4000000) (disch := omega) only [go_sem, Nat.reduceBEq, Nat.reduceAdd, Nat.reduceMul, Nat.reduceSub, Nat.reduceLT, Nat.reduceLeDiff, Int.reduceToNat, Int.reduceLT, Int.reduceLE, Int.reduceAdd, Int.reduceMul, Int.reduceSub, Int.reduceNeg, Int.reduceDiv, Int.reduceMod, Nat.reduceBNe, Nat.reduceGT, Int.reduceBEq, Int.reduceBNe, Int.reduceGT, Nat.reduceDiv, Nat.reduceMod, Nat.reducePow, Int.reducePow, gt_iff_lt, ge_iff_le, List.reduceReplicate, ↓reduceIte, hq, hrm]
                | with_reducible refine roundS (next_of 1000 ?_)
                | with_reducible refine drawS_of mixed (by kernel_rfl) (dg_of 1000 ?_)
                | with_reducible refine endD_of (by kernel_rfl) (next_of 1000 ?_)
                | with_reducible refine next_of 1000 ?_
                | ((first | refine condS_split (fun h => ?_) (fun h => ?_) | refine testS_split (fun h => ?_) (fun h => ?_) | refine testD_split (fun h => ?_) (fun h => ?_)) <;> (try simp only [bne_iff_ne, ne_eq, beq_iff_eq, decide_eq_true_eq, decide_eq_false_iff_not, Bool.not_eq_true, Bool.not_eq_false, Bool.not_true, Bool.not_false, bne_eq_false_iff_eq, beq_eq_false_iff_ne, Bool.and_eq_true, Bool.or_eq_true, Bool.and_eq_false_imp, Bool.or_eq_false_iff, Bool.not_eq_true', Bool.not_eq_false', Int.not_lt, Int.not_le] at h) <;> (try (exfalso; omega))))
    all_goals refine loopS_rounds 5 ?_
    all_goals repeat' (first
                | with_reducible refine And.intro (by first | omega | assumption | (constructor <;> assumption) | (simp; done) | (simp; omega) | (simp [*]; done)) ?_
                | simp (maxSteps := 4000000) (disch := omega) only [go_sem, Nat.reduceBEq, Nat.reduceAdd, Nat.reduceMul, Nat.reduceSub, Nat.reduceLT, Nat.reduceLeDiff, Int.reduceToNat, Int.reduceLT, Int.reduceLE, Int.reduceAdd, Int.reduceMul, Int.reduceSub, Int.reduceNeg, Int.reduceDiv, Int.reduceMod, Nat.reduceBNe, Nat.reduceGT, Int.reduceBEq, Int.reduceBNe, Int.reduceGT, Nat.reduceDiv, Nat.reduceMod, Nat.reducePow, Int.reducePow, gt_iff_lt, ge_iff_le, List.reduceReplicate, ↓reduceIte, hq, hrm, hrr, hr64, A1, A2, B1, B2, C1, C2, D1, D2, o1, o2, o3]
                | with_reducible refine roundS (next_of 1000 ?_)
                | with_reducible refine drawS_of mixed (by kernel_rfl) (dg_of 1000 ?_)
                | with_reducible refine endD_of (by kernel_rfl) (next_of 1000 ?_)
                | with_reducible refine next_of 1000 ?_
                | ((first | refine condS_split (fun h => ?_) (fun h => ?_) | refine testS_split (fun h => ?_) (fun h => ?_) | refine testD_split (fun h => ?_) (fun h => ?_)) <;> (try simp only [bne_iff_ne, ne_eq, beq_iff_eq, decide_eq_true_eq, decide_eq_false_iff_not, Bool.not_eq_true, Bool.not_eq_false, Bool.not_true, Bool.not_false, bne_eq_false_iff_eq, beq_eq_false_iff_ne, Bool.and_eq_true, Bool.or_eq_true, Bool.and_eq_false_imp, Bool.or_eq_false_iff, Bool.not_eq_true', Bool.not_eq_false', Int.not_lt, Int.not_le] at h) <;> (try (exfalso; omega))))
    all_goals exact wE_of (by rw [hxq, hp]; constructor <;> omega)
theorem shr_p (n x : Nat) (hn : n < 115792089237316195423570985008687907853269984665640564039457584007913129639936) (hx : x < 115792089237316195423570985008687907853269984665640564039457584007913129639936) : Pure Tryd.prog 60 [wE n, wE x] (wE (if n < 256 then x / 2 ^ n else 0)) := by
  have h := shr_key n x (if n < 256 then n else 256) hx (by split <;> omega) (shift_p n hn)
  by_cases e : n < 256
  · rw [if_pos e] at h ⊢; exact h
  · rw [if_neg e] at h ⊢
    rw [show x / 2 ^ 256 = 0 from Nat.div_eq_of_lt (by rw [show (2 : Nat) ^ 256 = 115792089237316195423570985008687907853269984665640564039457584007913129639936 by decide]; exact hx)] at h
    exact h
/-- Shifted down, the sign coming in. -/
def sarN (n x : Nat) : Nat := if 57896044618658097711785492504343953926634992332820282019728792003956564819968 ≤ x then 115792089237316195423570985008687907853269984665640564039457584007913129639936 - 1 - (if n < 256 then (115792089237316195423570985008687907853269984665640564039457584007913129639936 - 1 - x) / 2 ^ n else 0) else (if n < 256 then x / 2 ^ n else 0)
theorem shrN_le (n x : Nat) : (if n < 256 then x / 2 ^ n else 0) ≤ x := by split; exact Nat.div_le_self _ _; omega
theorem sarN_lt {n x : Nat} (hx : x < 115792089237316195423570985008687907853269984665640564039457584007913129639936) : sarN n x < 115792089237316195423570985008687907853269984665640564039457584007913129639936 := by
  unfold sarN
  have := shrN_le n x
  split <;> omega
theorem sar_p (n x : Nat) (hn : n < 115792089237316195423570985008687907853269984665640564039457584007913129639936) (hx : x < 115792089237316195423570985008687907853269984665640564039457584007913129639936) : Pure Tryd.prog 65 [wE n, wE x] (wE (sarN n x)) := by
  by_cases hneg : 57896044618658097711785492504343953926634992332820282019728792003956564819968 ≤ x
  · have h1 := shrN_le n (115792089237316195423570985008687907853269984665640564039457584007913129639936 - 1 - x)
    have hs := shr_p n (115792089237316195423570985008687907853269984665640564039457584007913129639936 - 1 - x) hn (by omega)
    have hl := low_p x hx
    rw [decide_eq_true hneg] at hl
    unfold sarN; rw [if_pos hneg]
    generalize (if n < 256 then (115792089237316195423570985008687907853269984665640564039457584007913129639936 - 1 - x) / 2 ^ n else 0) = s at *
    have hn1 := not_p x hx
    have hn2 := not_p s (by omega)
    simp only [Nat.reduceSub] at hs hn1 hn2
    refine pure_p (args := [wE n, wE x]) en65 (by simp [closed, closeds, closed_wE, closeds_ints]) Tryd.func65 rfl in65 (by simp [Tryd.f65]) (by simp [closeds, closed, closed_wE, closeds_ints]) (fun w => next_of 1000 ?_)
    simp (maxSteps := 4000000) (disch := omega) only [go_sem, Nat.reduceBEq, Nat.reduceAdd, Nat.reduceMul, Nat.reduceSub, Nat.reduceLT, Nat.reduceLeDiff, Int.reduceToNat, Int.reduceLT, Int.reduceLE, Int.reduceAdd, Int.reduceMul, Int.reduceSub, Int.reduceNeg, Int.reduceDiv, Int.reduceMod, Nat.reduceBNe, Nat.reduceGT, Int.reduceBEq, Int.reduceBNe, Int.reduceGT, Nat.reduceDiv, Nat.reduceMod, Nat.reducePow, Int.reducePow, gt_iff_lt, ge_iff_le, List.reduceReplicate, ↓reduceIte, Tryd.f65]
    repeat (with_reducible refine And.intro (by first | omega | assumption | (constructor <;> assumption) | (simp; done) | (simp; omega) | (simp [*]; done)) ?_)
    repeat' (first
      | with_reducible refine And.intro (by first | omega | assumption | (constructor <;> assumption) | (simp; done) | (simp; omega) | (simp [*]; done)) ?_
      | simp (maxSteps := 4000000) (disch := omega) only [go_sem, Nat.reduceBEq, Nat.reduceAdd, Nat.reduceMul, Nat.reduceSub, Nat.reduceLT, Nat.reduceLeDiff, Int.reduceToNat, Int.reduceLT, Int.reduceLE, Int.reduceAdd, Int.reduceMul, Int.reduceSub, Int.reduceNeg, Int.reduceDiv, Int.reduceMod, Nat.reduceBNe, Nat.reduceGT, Int.reduceBEq, Int.reduceBNe, Int.reduceGT, Nat.reduceDiv, Nat.reduceMod, Nat.reducePow, Int.reducePow, gt_iff_lt, ge_iff_le, List.reduceReplicate, ↓reduceIte]
      | with_reducible refine roundS (next_of 1000 ?_)
      | with_reducible refine drawS_of mixed (by kernel_rfl) (dg_of 1000 ?_)
      | with_reducible refine endD_of (by kernel_rfl) (next_of 1000 ?_)
      | refine callS_p (hl) (next_of 1000 ?_)
      | refine callD_p (hl) (dg_of 1000 ?_)
      | refine callS_p (hs) (next_of 1000 ?_)
      | refine callD_p (hs) (dg_of 1000 ?_)
      | refine callS_p (hn1) (next_of 1000 ?_)
      | refine callD_p (hn1) (dg_of 1000 ?_)
      | refine callS_p (hn2) (next_of 1000 ?_)
      | refine callD_p (hn2) (dg_of 1000 ?_)
      | with_reducible refine next_of 1000 ?_
      | ((first | refine condS_split (fun h => ?_) (fun h => ?_) | refine testS_split (fun h => ?_) (fun h => ?_) | refine testD_split (fun h => ?_) (fun h => ?_)) <;> (try simp only [bne_iff_ne, ne_eq, beq_iff_eq, decide_eq_true_eq, decide_eq_false_iff_not, Bool.not_eq_true, Bool.not_eq_false, Bool.not_true, Bool.not_false, bne_eq_false_iff_eq, beq_eq_false_iff_ne, Bool.and_eq_true, Bool.or_eq_true, Bool.and_eq_false_imp, Bool.or_eq_false_iff, Bool.not_eq_true', Bool.not_eq_false', Int.not_lt, Int.not_le] at h) <;> (try (exfalso; omega))))
  · have hs := shr_p n x hn hx
    have hl := low_p x hx
    rw [decide_eq_false hneg] at hl
    unfold sarN; rw [if_neg hneg]
    generalize (if n < 256 then x / 2 ^ n else 0) = s at *
    refine pure_p (args := [wE n, wE x]) en65 (by simp [closed, closeds, closed_wE, closeds_ints]) Tryd.func65 rfl in65 (by simp [Tryd.f65]) (by simp [closeds, closed, closed_wE, closeds_ints]) (fun w => next_of 1000 ?_)
    simp (maxSteps := 4000000) (disch := omega) only [go_sem, Nat.reduceBEq, Nat.reduceAdd, Nat.reduceMul, Nat.reduceSub, Nat.reduceLT, Nat.reduceLeDiff, Int.reduceToNat, Int.reduceLT, Int.reduceLE, Int.reduceAdd, Int.reduceMul, Int.reduceSub, Int.reduceNeg, Int.reduceDiv, Int.reduceMod, Nat.reduceBNe, Nat.reduceGT, Int.reduceBEq, Int.reduceBNe, Int.reduceGT, Nat.reduceDiv, Nat.reduceMod, Nat.reducePow, Int.reducePow, gt_iff_lt, ge_iff_le, List.reduceReplicate, ↓reduceIte, Tryd.f65]
    repeat (with_reducible refine And.intro (by first | omega | assumption | (constructor <;> assumption) | (simp; done) | (simp; omega) | (simp [*]; done)) ?_)
    repeat' (first
      | with_reducible refine And.intro (by first | omega | assumption | (constructor <;> assumption) | (simp; done) | (simp; omega) | (simp [*]; done)) ?_
      | simp (maxSteps := 4000000) (disch := omega) only [go_sem, Nat.reduceBEq, Nat.reduceAdd, Nat.reduceMul, Nat.reduceSub, Nat.reduceLT, Nat.reduceLeDiff, Int.reduceToNat, Int.reduceLT, Int.reduceLE, Int.reduceAdd, Int.reduceMul, Int.reduceSub, Int.reduceNeg, Int.reduceDiv, Int.reduceMod, Nat.reduceBNe, Nat.reduceGT, Int.reduceBEq, Int.reduceBNe, Int.reduceGT, Nat.reduceDiv, Nat.reduceMod, Nat.reducePow, Int.reducePow, gt_iff_lt, ge_iff_le, List.reduceReplicate, ↓reduceIte]
      | with_reducible refine roundS (next_of 1000 ?_)
      | with_reducible refine drawS_of mixed (by kernel_rfl) (dg_of 1000 ?_)
      | with_reducible refine endD_of (by kernel_rfl) (next_of 1000 ?_)
      | refine callS_p (hl) (next_of 1000 ?_)
      | refine callD_p (hl) (dg_of 1000 ?_)
      | refine callS_p (hs) (next_of 1000 ?_)
      | refine callD_p (hs) (dg_of 1000 ?_)
      | with_reducible refine next_of 1000 ?_
      | ((first | refine condS_split (fun h => ?_) (fun h => ?_) | refine testS_split (fun h => ?_) (fun h => ?_) | refine testD_split (fun h => ?_) (fun h => ?_)) <;> (try simp only [bne_iff_ne, ne_eq, beq_iff_eq, decide_eq_true_eq, decide_eq_false_iff_not, Bool.not_eq_true, Bool.not_eq_false, Bool.not_true, Bool.not_false, bne_eq_false_iff_eq, beq_eq_false_iff_ne, Bool.and_eq_true, Bool.or_eq_true, Bool.and_eq_false_imp, Bool.or_eq_false_iff, Bool.not_eq_true', Bool.not_eq_false', Int.not_lt, Int.not_le] at h) <;> (try (exfalso; omega))))
def sexN (k x : Nat) : Nat := if k < 31 then sarN (248 - 8 * k) (x * 2 ^ (248 - 8 * k) % 115792089237316195423570985008687907853269984665640564039457584007913129639936) else x
theorem signextend_p (k x : Nat) (hk : k < 115792089237316195423570985008687907853269984665640564039457584007913129639936) (hx : x < 115792089237316195423570985008687907853269984665640564039457584007913129639936) : Pure Tryd.prog 67 [wE k, wE x] (wE (sexN k x)) := by
  by_cases hs : k < 31
  · have hp := small_p k hk
    rw [if_pos (by omega)] at hp
    have ho := of_p (248 - 8 * k) (by omega)
    have e : ((248 - 8 * k : Nat) : Int) = 256 - 8 * ((k : Int) + 1) := by omega
    rw [e] at ho
    have hsl := shl_p (248 - 8 * k) x (by omega) hx
    rw [if_pos (by omega)] at hsl
    have hsr := sar_p (248 - 8 * k) (x * 2 ^ (248 - 8 * k) % 115792089237316195423570985008687907853269984665640564039457584007913129639936) (by omega) (Nat.mod_lt _ (by omega))
    refine pure_p (args := [wE k, wE x]) en67 (by simp [closed, closeds, closed_wE, closeds_ints]) Tryd.func67 rfl in67 (by simp [Tryd.f67]) (by simp [closeds, closed, closed_wE, closeds_ints]) (fun w => next_of 1000 ?_)
    simp (maxSteps := 4000000) (disch := omega) only [go_sem, Nat.reduceBEq, Nat.reduceAdd, Nat.reduceMul, Nat.reduceSub, Nat.reduceLT, Nat.reduceLeDiff, Int.reduceToNat, Int.reduceLT, Int.reduceLE, Int.reduceAdd, Int.reduceMul, Int.reduceSub, Int.reduceNeg, Int.reduceDiv, Int.reduceMod, Nat.reduceBNe, Nat.reduceGT, Int.reduceBEq, Int.reduceBNe, Int.reduceGT, Nat.reduceDiv, Nat.reduceMod, Nat.reducePow, Int.reducePow, gt_iff_lt, ge_iff_le, List.reduceReplicate, ↓reduceIte, Tryd.f67]
    repeat (with_reducible refine And.intro (by first | omega | assumption | (constructor <;> assumption) | (simp; done) | (simp; omega) | (simp [*]; done)) ?_)
    repeat' (first
      | with_reducible refine And.intro (by first | omega | assumption | (constructor <;> assumption) | (simp; done) | (simp; omega) | (simp [*]; done)) ?_
      | simp (maxSteps := 4000000) (disch := omega) only [go_sem, Nat.reduceBEq, Nat.reduceAdd, Nat.reduceMul, Nat.reduceSub, Nat.reduceLT, Nat.reduceLeDiff, Int.reduceToNat, Int.reduceLT, Int.reduceLE, Int.reduceAdd, Int.reduceMul, Int.reduceSub, Int.reduceNeg, Int.reduceDiv, Int.reduceMod, Nat.reduceBNe, Nat.reduceGT, Int.reduceBEq, Int.reduceBNe, Int.reduceGT, Nat.reduceDiv, Nat.reduceMod, Nat.reducePow, Int.reducePow, gt_iff_lt, ge_iff_le, List.reduceReplicate, ↓reduceIte]
      | with_reducible refine roundS (next_of 1000 ?_)
      | with_reducible refine drawS_of mixed (by kernel_rfl) (dg_of 1000 ?_)
      | with_reducible refine endD_of (by kernel_rfl) (next_of 1000 ?_)
      | refine callS_p (hp) (next_of 1000 ?_)
      | refine callD_p (hp) (dg_of 1000 ?_)
      | refine callS_p (ho) (next_of 1000 ?_)
      | refine callD_p (ho) (dg_of 1000 ?_)
      | refine callS_p (hsl) (next_of 1000 ?_)
      | refine callD_p (hsl) (dg_of 1000 ?_)
      | refine callS_p (hsr) (next_of 1000 ?_)
      | refine callD_p (hsr) (dg_of 1000 ?_)
      | with_reducible refine next_of 1000 ?_
      | ((first | refine condS_split (fun h => ?_) (fun h => ?_) | refine testS_split (fun h => ?_) (fun h => ?_) | refine testD_split (fun h => ?_) (fun h => ?_)) <;> (try simp only [bne_iff_ne, ne_eq, beq_iff_eq, decide_eq_true_eq, decide_eq_false_iff_not, Bool.not_eq_true, Bool.not_eq_false, Bool.not_true, Bool.not_false, bne_eq_false_iff_eq, beq_eq_false_iff_ne, Bool.and_eq_true, Bool.or_eq_true, Bool.and_eq_false_imp, Bool.or_eq_false_iff, Bool.not_eq_true', Bool.not_eq_false', Int.not_lt, Int.not_le] at h) <;> (try (exfalso; omega))))
    unfold sexN; rw [if_pos hs]
  · have hp := small_p k hk
    refine pure_p (args := [wE k, wE x]) en67 (by simp [closed, closeds, closed_wE, closeds_ints]) Tryd.func67 rfl in67 (by simp [Tryd.f67]) (by simp [closeds, closed, closed_wE, closeds_ints]) (fun w => next_of 1000 ?_)
    simp (maxSteps := 4000000) (disch := omega) only [go_sem, Nat.reduceBEq, Nat.reduceAdd, Nat.reduceMul, Nat.reduceSub, Nat.reduceLT, Nat.reduceLeDiff, Int.reduceToNat, Int.reduceLT, Int.reduceLE, Int.reduceAdd, Int.reduceMul, Int.reduceSub, Int.reduceNeg, Int.reduceDiv, Int.reduceMod, Nat.reduceBNe, Nat.reduceGT, Int.reduceBEq, Int.reduceBNe, Int.reduceGT, Nat.reduceDiv, Nat.reduceMod, Nat.reducePow, Int.reducePow, gt_iff_lt, ge_iff_le, List.reduceReplicate, ↓reduceIte, Tryd.f67]
    repeat (with_reducible refine And.intro (by first | omega | assumption | (constructor <;> assumption) | (simp; done) | (simp; omega) | (simp [*]; done)) ?_)
    have hkk : ¬ (k < 18446744073709551616) ∨ (k < 18446744073709551616 ∧ 31 ≤ k) := by omega
    rcases hkk with h | h
    · rw [if_neg h] at hp
      repeat' (first
        | with_reducible refine And.intro (by first | omega | assumption | (constructor <;> assumption) | (simp; done) | (simp; omega) | (simp [*]; done)) ?_
        | simp (maxSteps := 4000000) (disch := omega) only [go_sem, Nat.reduceBEq, Nat.reduceAdd, Nat.reduceMul, Nat.reduceSub, Nat.reduceLT, Nat.reduceLeDiff, Int.reduceToNat, Int.reduceLT, Int.reduceLE, Int.reduceAdd, Int.reduceMul, Int.reduceSub, Int.reduceNeg, Int.reduceDiv, Int.reduceMod, Nat.reduceBNe, Nat.reduceGT, Int.reduceBEq, Int.reduceBNe, Int.reduceGT, Nat.reduceDiv, Nat.reduceMod, Nat.reducePow, Int.reducePow, gt_iff_lt, ge_iff_le, List.reduceReplicate, ↓reduceIte]
        | with_reducible refine roundS (next_of 1000 ?_)
        | with_reducible refine drawS_of mixed (by kernel_rfl) (dg_of 1000 ?_)
        | with_reducible refine endD_of (by kernel_rfl) (next_of 1000 ?_)
        | refine callS_p (hp) (next_of 1000 ?_)
        | refine callD_p (hp) (dg_of 1000 ?_)
        | with_reducible refine next_of 1000 ?_
        | ((first | refine condS_split (fun h => ?_) (fun h => ?_) | refine testS_split (fun h => ?_) (fun h => ?_) | refine testD_split (fun h => ?_) (fun h => ?_)) <;> (try simp only [bne_iff_ne, ne_eq, beq_iff_eq, decide_eq_true_eq, decide_eq_false_iff_not, Bool.not_eq_true, Bool.not_eq_false, Bool.not_true, Bool.not_false, bne_eq_false_iff_eq, beq_eq_false_iff_ne, Bool.and_eq_true, Bool.or_eq_true, Bool.and_eq_false_imp, Bool.or_eq_false_iff, Bool.not_eq_true', Bool.not_eq_false', Int.not_lt, Int.not_le] at h) <;> (try (exfalso; omega))))
      all_goals (unfold sexN; rw [if_neg hs])
    · rw [if_pos h.1] at hp
      repeat' (first
        | with_reducible refine And.intro (by first | omega | assumption | (constructor <;> assumption) | (simp; done) | (simp; omega) | (simp [*]; done)) ?_
        | simp (maxSteps := 4000000) (disch := omega) only [go_sem, Nat.reduceBEq, Nat.reduceAdd, Nat.reduceMul, Nat.reduceSub, Nat.reduceLT, Nat.reduceLeDiff, Int.reduceToNat, Int.reduceLT, Int.reduceLE, Int.reduceAdd, Int.reduceMul, Int.reduceSub, Int.reduceNeg, Int.reduceDiv, Int.reduceMod, Nat.reduceBNe, Nat.reduceGT, Int.reduceBEq, Int.reduceBNe, Int.reduceGT, Nat.reduceDiv, Nat.reduceMod, Nat.reducePow, Int.reducePow, gt_iff_lt, ge_iff_le, List.reduceReplicate, ↓reduceIte]
        | with_reducible refine roundS (next_of 1000 ?_)
        | with_reducible refine drawS_of mixed (by kernel_rfl) (dg_of 1000 ?_)
        | with_reducible refine endD_of (by kernel_rfl) (next_of 1000 ?_)
        | refine callS_p (hp) (next_of 1000 ?_)
        | refine callD_p (hp) (dg_of 1000 ?_)
        | with_reducible refine next_of 1000 ?_
        | ((first | refine condS_split (fun h => ?_) (fun h => ?_) | refine testS_split (fun h => ?_) (fun h => ?_) | refine testD_split (fun h => ?_) (fun h => ?_)) <;> (try simp only [bne_iff_ne, ne_eq, beq_iff_eq, decide_eq_true_eq, decide_eq_false_iff_not, Bool.not_eq_true, Bool.not_eq_false, Bool.not_true, Bool.not_false, bne_eq_false_iff_eq, beq_eq_false_iff_ne, Bool.and_eq_true, Bool.or_eq_true, Bool.and_eq_false_imp, Bool.or_eq_false_iff, Bool.not_eq_true', Bool.not_eq_false', Int.not_lt, Int.not_le] at h) <;> (try (exfalso; omega))))
      all_goals (unfold sexN; rw [if_neg hs])
end Go.Proofs.YtbilnedgpgpanaaDoor
