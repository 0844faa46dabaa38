/- Part of a proof over the seat YtbilnedgpgpanaaDoor. -/
import Derived.Test.YtbilnedgpgpanaaDoorWB
import Derived.Test.YtbilnedgpgpanaaDoorWC
namespace Go.Proofs.YtbilnedgpgpanaaDoor
open Go Go.Ew
set_option maxRecDepth 100000
set_option linter.unusedSimpArgs false
set_option linter.unusedVariables false
set_option maxHeartbeats 1000000
theorem in61 : codeIn Tryd.f61.ntmps (Tryd.f61.body.getD .skip) = true := by kernel_rfl
theorem in60 : codeIn Tryd.f60.ntmps (Tryd.f60.body.getD .skip) = true := by kernel_rfl
theorem in65 : codeIn Tryd.f65.ntmps (Tryd.f65.body.getD .skip) = true := by kernel_rfl
theorem in67 : codeIn Tryd.f67.ntmps (Tryd.f67.body.getD .skip) = true := by kernel_rfl
/-- A limb, shifted up by r: what stays, what goes over. -/
theorem shl_limb {t : Int} {r : Nat} (h0 : 0 ≤ t) (h1 : t < 18446744073709551616) (hr : 0 < r) (hr' : r < 64) :
    ∃ h l, t * (2 : Int) ^ r % 18446744073709551616 = l ∧ t / (2 : Int) ^ (64 - r) = h ∧ t * (2 : Int) ^ r = h * 18446744073709551616 + l ∧ 0 ≤ l ∧ l < 18446744073709551616 ∧ 0 ≤ h ∧ h < (2 : Int) ^ r ∧
      (∀ u, 0 ≤ u → u < (2 : Int) ^ r → bOr .u64 l u = l + u) ∧ l < 18446744073709551616 - (2 : Int) ^ r + 1 := by
  have hR : (0 : Int) < 2 ^ r := Int.pow_pos (by omega)
  have hS : (0 : Int) < 2 ^ (64 - r) := Int.pow_pos (by omega)
  have hRS : (2 : Int) ^ (64 - r) * 2 ^ r = 18446744073709551616 := by
    rw [← Int.pow_add, show 64 - r + r = 64 by omega]; decide
  have hRl : (2 : Int) ^ r ≤ 18446744073709551616 := by
    rw [← hRS]; have := Int.mul_le_mul_of_nonneg_right (show (1 : Int) ≤ 2 ^ (64 - r) by omega) (Int.le_of_lt hR); omega
  have e1 : t * 2 ^ r / 18446744073709551616 = t / 2 ^ (64 - r) := by
    rw [← hRS]; exact Int.mul_ediv_mul_of_pos_left _ _ hR
  have e2 : t * 2 ^ r % 18446744073709551616 = t % 2 ^ (64 - r) * 2 ^ r := by
    rw [Int.emod_def, Int.emod_def, e1, Int.sub_mul, Int.mul_right_comm (2 ^ (64 - r)), hRS]
  have q1 := Int.emod_nonneg t (show (2 : Int) ^ (64 - r) ≠ 0 by omega)
  have q2 := Int.emod_lt_of_pos t hS
  have hdiv : t / 2 ^ (64 - r) < 2 ^ r := by
    apply Int.ediv_lt_of_lt_mul hS
    rw [Int.mul_comm, hRS]; exact h1
  refine ⟨_, _, rfl, rfl, ?_, Int.emod_nonneg _ (by decide), Int.emod_lt_of_pos _ (by decide), Int.ediv_nonneg h0 (Int.le_of_lt hS), hdiv, ?_, ?_⟩
  · rw [← e1]; omega
  · intro u hu0 hu1
    have hm : (t * 2 ^ r % 18446744073709551616) % ((2 ^ r : Nat) : Int) = 0 := by
      rw [e2]; simp
    exact bOr_add (Int.emod_nonneg _ (by decide)) (Int.emod_lt_of_pos _ (by decide)) hu0 (by omega) (s := r) hm (by simpa using hu1)
  · rw [e2]
    have : t % 2 ^ (64 - r) * 2 ^ r ≤ (2 ^ (64 - r) - 1) * 2 ^ r := Int.mul_le_mul_of_nonneg_right (by omega) (Int.le_of_lt hR)
    rw [Int.sub_mul, hRS, Int.one_mul] at this
    omega
theorem shl_key (n x k : Nat) (hx : x < 115792089237316195423570985008687907853269984665640564039457584007913129639936) (hk : k ≤ 256) (hs : Pure Tryd.prog 97 [wE n] (.int .i64 (k : Int))) : Pure Tryd.prog 61 [wE n, wE x] (wE (x * 2 ^ k % 115792089237316195423570985008687907853269984665640564039457584007913129639936)) := by
  obtain ⟨a, b, c, d, hw, hl⟩ := wE_open x hx
  rw [hw]
  obtain ⟨a0, a1, b0, b1, c0, c1, d0, d1, v⟩ := hl
  obtain ⟨q, r, hqr, hr⟩ : ∃ q r : Nat, k = 64 * q + r ∧ r < 64 := ⟨k / 64, k % 64, by omega, by omega⟩
  have hq4 : ((k : Int) / 64 = 0 ∧ (2 ^ 64) ^ q = 1) ∨ ((k : Int) / 64 = 1 ∧ (2 ^ 64) ^ q = 18446744073709551616) ∨ ((k : Int) / 64 = 2 ∧ (2 ^ 64) ^ q = 340282366920938463463374607431768211456) ∨
      ((k : Int) / 64 = 3 ∧ (2 ^ 64) ^ q = 6277101735386680763835789423207666416102355444464034512896) ∨ ((k : Int) / 64 = 4 ∧ (2 ^ 64) ^ q = 115792089237316195423570985008687907853269984665640564039457584007913129639936 ∧ r = 0) := by
    have : q = 0 ∨ q = 1 ∨ q = 2 ∨ q = 3 ∨ q = 4 := by omega
    rcases this with rfl | rfl | rfl | rfl | rfl
    · exact .inl ⟨by omega, by decide⟩
    · exact .inr (.inl ⟨by omega, by decide⟩)
    · exact .inr (.inr (.inl ⟨by omega, by decide⟩))
    · exact .inr (.inr (.inr (.inl ⟨by omega, by decide⟩)))
    · exact .inr (.inr (.inr (.inr ⟨by omega, by decide, by omega⟩)))
  have hrm : (k : Int) % 64 = (r : Int) := by omega
  have hxq : x * 2 ^ k = (x * 2 ^ r) * (2 ^ 64) ^ q := by rw [hqr, Nat.pow_add, Nat.pow_mul, Nat.mul_assoc, Nat.mul_comm (2 ^ r)]
  by_cases h0 : r = 0
  · subst h0
    rw [Nat.pow_zero, Nat.mul_one] at hxq
    refine pure_p (args := [wE n, .agg [.int .u64 a, .int .u64 b, .int .u64 c, .int .u64 d]]) en61 (by simp [closed, closeds, closed_wE, closeds_ints]) Tryd.func61 rfl in61 (by simp [Tryd.f61]) (by simp [closeds, closed, closed_wE, closeds_ints]) (fun w => next_of 1000 ?_)
    simp (maxSteps := 4000000) (disch := omega) only [go_sem, Nat.reduceBEq, Nat.reduceAdd, Nat.reduceMul, Nat.reduceSub, Nat.reduceLT, Nat.reduceLeDiff, Int.reduceToNat, Int.reduceLT, Int.reduceLE, Int.reduceAdd, Int.reduceMul, Int.reduceSub, Int.reduceNeg, Int.reduceDiv, Int.reduceMod, Nat.reduceBNe, Nat.reduceGT, Int.reduceBEq, Int.reduceBNe, Int.reduceGT, Nat.reduceDiv, Nat.reduceMod, Nat.reducePow, Int.reducePow, gt_iff_lt, ge_iff_le, List.reduceReplicate, ↓reduceIte, Tryd.f61]
    repeat (with_reducible refine And.intro (by first | omega | assumption | (constructor <;> assumption) | (simp; done) | (simp; omega) | (simp [*]; done)) ?_)
    refine callS_p hs (next_of 1000 ?_)
    rw [show ((0 : Nat) : Int) = 0 from rfl] at hrm
    rcases hq4 with ⟨hq, hp⟩ | ⟨hq, hp⟩ | ⟨hq, hp⟩ | ⟨hq, hp⟩ | ⟨hq, hp, _⟩
    all_goals repeat' (first
                | with_reducible refine And.intro (by first | omega | assumption | (constructor <;> assumption) | (simp; done) | (simp; omega) | (simp [*]; done)) ?_
                | simp (maxSteps := 4000000) (disch := omega) only [go_sem, Nat.reduceBEq, Nat.reduceAdd, Nat.reduceMul, Nat.reduceSub, Nat.reduceLT, Nat.reduceLeDiff, Int.reduceToNat, Int.reduceLT, Int.reduceLE, Int.reduceAdd, Int.reduceMul, Int.reduceSub, Int.reduceNeg, Int.reduceDiv, Int.reduceMod, Nat.reduceBNe, Nat.reduceGT, Int.reduceBEq, Int.reduceBNe, Int.reduceGT, Nat.reduceDiv, Nat.reduceMod, Nat.reducePow, Int.reducePow, gt_iff_lt, ge_iff_le, List.reduceReplicate, ↓reduceIte, hq, hrm, Int.pow_zero, Int.mul_one]
                | with_reducible refine roundS (next_of 1000 ?_)
                | with_reducible refine drawS_of mixed (by kernel_rfl) (dg_of 1000 ?_)
                | with_reducible refine endD_of (by kernel_rfl) (next_of 1000 ?_)
                | with_reducible refine next_of 1000 ?_
                | ((first | refine condS_split (fun h => ?_) (fun h => ?_) | refine testS_split (fun h => ?_) (fun h => ?_) | refine testD_split (fun h => ?_) (fun h => ?_)) <;> (try simp only [bne_iff_ne, ne_eq, beq_iff_eq, decide_eq_true_eq, decide_eq_false_iff_not, Bool.not_eq_true, Bool.not_eq_false, Bool.not_true, Bool.not_false, bne_eq_false_iff_eq, beq_eq_false_iff_ne, Bool.and_eq_true, Bool.or_eq_true, Bool.and_eq_false_imp, Bool.or_eq_false_iff, Bool.not_eq_true', Bool.not_eq_false', Int.not_lt, Int.not_le] at h) <;> (try (exfalso; omega))))
    all_goals refine loopS_rounds 5 ?_
    all_goals repeat' (first
                | with_reducible refine And.intro (by first | omega | assumption | (constructor <;> assumption) | (simp; done) | (simp; omega) | (simp [*]; done)) ?_
                | simp (maxSteps := 4000000) (disch := omega) only [go_sem, Nat.reduceBEq, Nat.reduceAdd, Nat.reduceMul, Nat.reduceSub, Nat.reduceLT, Nat.reduceLeDiff, Int.reduceToNat, Int.reduceLT, Int.reduceLE, Int.reduceAdd, Int.reduceMul, Int.reduceSub, Int.reduceNeg, Int.reduceDiv, Int.reduceMod, Nat.reduceBNe, Nat.reduceGT, Int.reduceBEq, Int.reduceBNe, Int.reduceGT, Nat.reduceDiv, Nat.reduceMod, Nat.reducePow, Int.reducePow, gt_iff_lt, ge_iff_le, List.reduceReplicate, ↓reduceIte, hq, hrm, Int.pow_zero, Int.mul_one]
                | with_reducible refine roundS (next_of 1000 ?_)
                | with_reducible refine drawS_of mixed (by kernel_rfl) (dg_of 1000 ?_)
                | with_reducible refine endD_of (by kernel_rfl) (next_of 1000 ?_)
                | with_reducible refine next_of 1000 ?_
                | ((first | refine condS_split (fun h => ?_) (fun h => ?_) | refine testS_split (fun h => ?_) (fun h => ?_) | refine testD_split (fun h => ?_) (fun h => ?_)) <;> (try simp only [bne_iff_ne, ne_eq, beq_iff_eq, decide_eq_true_eq, decide_eq_false_iff_not, Bool.not_eq_true, Bool.not_eq_false, Bool.not_true, Bool.not_false, bne_eq_false_iff_eq, beq_eq_false_iff_ne, Bool.and_eq_true, Bool.or_eq_true, Bool.and_eq_false_imp, Bool.or_eq_false_iff, Bool.not_eq_true', Bool.not_eq_false', Int.not_lt, Int.not_le] at h) <;> (try (exfalso; omega))))
    all_goals exact wE_of (by rw [hxq, hp]; constructor <;> omega)
  · obtain ⟨ha, la, A1, A2, A3, A4, A5, A6, A7, A8, A9⟩ := shl_limb a0 a1 (Nat.pos_of_ne_zero h0) hr
    obtain ⟨hb, lb, B1, B2, B3, B4, B5, B6, B7, B8, B9⟩ := shl_limb b0 b1 (Nat.pos_of_ne_zero h0) hr
    obtain ⟨hc, lc, C1, C2, C3, C4, C5, C6, C7, C8, C9⟩ := shl_limb c0 c1 (Nat.pos_of_ne_zero h0) hr
    obtain ⟨hd, ld, D1, D2, D3, D4, D5, D6, D7, D8, D9⟩ := shl_limb d0 d1 (Nat.pos_of_ne_zero h0) hr
    have hr0 : (0 : Int) < r := by omega
    have hr64 : ((64 : Int) - r).toNat = 64 - r := by omega
    have hrr : (r : Int).toNat = r := by omega
    have hx2 : ((x * 2 ^ r : Nat) : Int) = a * 2 ^ r + b * 2 ^ r * 18446744073709551616 + c * 2 ^ r * 340282366920938463463374607431768211456 + d * 2 ^ r * 6277101735386680763835789423207666416102355444464034512896 := by
      rw [Int.natCast_mul, v]; simp only [Int.add_mul, Int.natCast_pow]
      rw [Int.mul_right_comm b, Int.mul_right_comm c, Int.mul_right_comm d]; rfl
    rw [A3, B3, C3, D3] at hx2
    have o1 := B8 ha A6 A7
    have o2 := C8 hb B6 B7
    have o3 := D8 hc C6 C7
    refine pure_p (args := [wE n, .agg [.int .u64 a, .int .u64 b, .int .u64 c, .int .u64 d]]) en61 (by simp [closed, closeds, closed_wE, closeds_ints]) Tryd.func61 rfl in61 (by simp [Tryd.f61]) (by simp [closeds, closed, closed_wE, closeds_ints]) (fun w => next_of 1000 ?_)
    simp (maxSteps := 4000000) (disch := omega) only [go_sem, Nat.reduceBEq, Nat.reduceAdd, Nat.reduceMul, Nat.reduceSub, Nat.reduceLT, Nat.reduceLeDiff, Int.reduceToNat, Int.reduceLT, Int.reduceLE, Int.reduceAdd, Int.reduceMul, Int.reduceSub, Int.reduceNeg, Int.reduceDiv, Int.reduceMod, Nat.reduceBNe, Nat.reduceGT, Int.reduceBEq, Int.reduceBNe, Int.reduceGT, Nat.reduceDiv, Nat.reduceMod, Nat.reducePow, Int.reducePow, gt_iff_lt, ge_iff_le, List.reduceReplicate, ↓reduceIte, Tryd.f61]
    repeat (with_reducible refine And.intro (by first | omega | assumption | (constructor <;> assumption) | (simp; done) | (simp; omega) | (simp [*]; done)) ?_)
    refine callS_p hs (next_of 1000 ?_)
    rcases hq4 with ⟨hq, hp⟩ | ⟨hq, hp⟩ | ⟨hq, hp⟩ | ⟨hq, hp⟩ | ⟨_, _, hz⟩
    case inr.inr.inr.inr => exact absurd hz h0
    all_goals repeat' (first
                | with_reducible refine And.intro (by first | omega | assumption | (constructor <;> assumption) | (simp; done) | (simp; omega) | (simp [*]; done)) ?_
                | simp (maxSteps := 4000000) (disch := omega) only [go_sem, Nat.reduceBEq, Nat.reduceAdd, Nat.reduceMul, Nat.reduceSub, Nat.reduceLT, Nat.reduceLeDiff, Int.reduceToNat, Int.reduceLT, Int.reduceLE, Int.reduceAdd, Int.reduceMul, Int.reduceSub, Int.reduceNeg, Int.reduceDiv, Int.reduceMod, Nat.reduceBNe, Nat.reduceGT, Int.reduceBEq, Int.reduceBNe, Int.reduceGT, Nat.reduceDiv, Nat.reduceMod, Nat.reducePow, Int.reducePow, gt_iff_lt, ge_iff_le, List.reduceReplicate, ↓reduceIte, hq, hrm]
                | with_reducible refine roundS (next_of 1000 ?_)
                | with_reducible refine drawS_of mixed (by kernel_rfl) (dg_of 1000 ?_)
                | with_reducible refine endD_of (by kernel_rfl) (next_of 1000 ?_)
                | with_reducible refine next_of 1000 ?_
                | ((first | refine condS_split (fun h => ?_) (fun h => ?_) | refine testS_split (fun h => ?_) (fun h => ?_) | refine testD_split (fun h => ?_) (fun h => ?_)) <;> (try simp only [bne_iff_ne, ne_eq, beq_iff_eq, decide_eq_true_eq, decide_eq_false_iff_not, Bool.not_eq_true, Bool.not_eq_false, Bool.not_true, Bool.not_false, bne_eq_false_iff_eq, beq_eq_false_iff_ne, Bool.and_eq_true, Bool.or_eq_true, Bool.and_eq_false_imp, Bool.or_eq_false_iff, Bool.not_eq_true', Bool.not_eq_false', Int.not_lt, Int.not_le] at h) <;> (try (exfalso; omega))))
    all_goals refine loopS_rounds 5 ?_
    all_goals repeat' (first
                | with_reducible refine And.intro (by first | omega | assumption | (constructor <;> assumption) | (simp; done) | (simp; omega) | (simp [*]; done)) ?_
                | simp (maxSteps := 4000000) (disch := omega) only [go_sem, Nat.reduceBEq, Nat.reduceAdd, Nat.reduceMul, Nat.reduceSub, Nat.reduceLT, Nat.reduceLeDiff, Int.reduceToNat, Int.reduceLT, Int.reduceLE, Int.reduceAdd, Int.reduceMul, Int.reduceSub, Int.reduceNeg, Int.reduceDiv, Int.reduceMod, Nat.reduceBNe, Nat.reduceGT, Int.reduceBEq, Int.reduceBNe, Int.reduceGT, Nat.reduceDiv, Nat.reduceMod, Nat.reducePow, Int.reducePow, gt_iff_lt, ge_iff_le, List.reduceReplicate, ↓reduceIte, hq, hrm, hrr, hr64, A1, A2, B1, B2, C1, C2, D1, D2, o1, o2, o3]
                | with_reducible refine roundS (next_of 1000 ?_)
                | with_reducible refine drawS_of mixed (by kernel_rfl) (dg_of 1000 ?_)
                | with_reducible refine endD_of (by kernel_rfl) (next_of 1000 ?_)
                | with_reducible refine next_of 1000 ?_
                | ((first | refine condS_split (fun h => ?_) (fun h => ?_) | refine testS_split (fun h => ?_) (fun h => ?_) | refine testD_split (fun h => ?_) (fun h => ?_)) <;> (try simp only [bne_iff_ne, ne_eq, beq_iff_eq, decide_eq_true_eq, decide_eq_false_iff_not, Bool.not_eq_true, Bool.not_eq_false, Bool.not_true, Bool.not_false, bne_eq_false_iff_eq, beq_eq_false_iff_ne, Bool.and_eq_true, Bool.or_eq_true, Bool.and_eq_false_imp, Bool.or_eq_false_iff, Bool.not_eq_true', Bool.not_eq_false', Int.not_lt, Int.not_le] at h) <;> (try (exfalso; omega))))
    all_goals exact wE_of (by rw [hxq, hp]; constructor <;> omega)
end Go.Proofs.YtbilnedgpgpanaaDoor
