/- Part of a proof over the seat YtbilnedgpgpanaaDoor. -/
import Derived.Test.YtbilnedgpgpanaaDoorXR
namespace Go.Proofs.YtbilnedgpgpanaaDoor
open Go RowKit Go.Ew
set_option maxRecDepth 100000
set_option linter.unusedSimpArgs false
set_option linter.unusedVariables false
set_option maxHeartbeats 2000000
theorem in91 : codeIn Tryd.f91.ntmps (Tryd.f91.body.getD .skip) = true := by kernel_rfl
theorem b32 : (4294967296 : Nat) = 2 ^ 32 := by decide
/-- A bit put at the lowest place of an even number. -/
theorem low_set {r bit : Nat} (hb : bit ≤ 1) : setF (dig 4294967296 (r + r)) 0 (dig 4294967296 (r + r) 0 + (bit : Int)) = dig 4294967296 (r + r + bit) := by
  funext q
  simp only [setF]
  split
  · rename_i h; subst h
    simp only [dig, Nat.pow_zero, Nat.div_one]
    omega
  · rename_i h
    obtain ⟨k, rfl⟩ : ∃ k, q = k + 1 := ⟨q - 1, by omega⟩
    have e : (4294967296 : Nat) ^ (k + 1) = 2 * (4294967296 ^ k * 2147483648) := by rw [Nat.pow_succ]; omega
    rw [dig, dig, e]
    simp only [← Nat.div_div_eq_div_mul]
    rw [show (r + r) / 2 = r by omega, show (r + r + bit) / 2 = r by omega]
theorem low_bd {r bit : Nat} (hb : bit ≤ 1) : dig 4294967296 (r + r) 0 + (bit : Int) < 4294967296 := by
  simp only [dig, Nat.pow_zero, Nat.div_one]
  omega
theorem set32 (Q i p : Nat) : dig 4294967296 (Q * 2 ^ (i + 1) + 2 ^ i) p = if p = i / 32 then dig 4294967296 (Q * 2 ^ (i + 1)) p + 2 ^ (i % 32) else dig 4294967296 (Q * 2 ^ (i + 1)) p := by
  split
  · rename_i h; subst h
    have e1 : (2 : Nat) ^ i = 4294967296 ^ (i / 32) * 2 ^ (i % 32) := by rw [b32, ← Nat.pow_mul, ← Nat.pow_add]; congr 1; omega
    have hP : 0 < 4294967296 ^ (i / 32) := Nat.pow_pos (by omega)
    have hD : (4294967296 : Nat) = 2 ^ (i % 32 + 1) * 2 ^ (31 - i % 32) := by rw [← Nat.pow_add, show i % 32 + 1 + (31 - i % 32) = 32 by omega]
    have hT : (2 : Nat) ^ (i % 32) < 2 ^ (i % 32 + 1) := Nat.pow_lt_pow_right (by omega) (by omega)
    have a1 : (Q * 2 ^ (i + 1) + 2 ^ i) / 4294967296 ^ (i / 32) = Q * 2 ^ (i % 32 + 1) + 2 ^ (i % 32) := by
      rw [Nat.pow_succ, e1, show Q * (4294967296 ^ (i / 32) * 2 ^ (i % 32) * 2) + 4294967296 ^ (i / 32) * 2 ^ (i % 32) = 4294967296 ^ (i / 32) * (Q * 2 ^ (i % 32 + 1) + 2 ^ (i % 32)) by rw [Nat.pow_succ]; grind, Nat.mul_div_cancel_left _ hP]
    have a2 : Q * 2 ^ (i + 1) / 4294967296 ^ (i / 32) = Q * 2 ^ (i % 32 + 1) := by
      rw [Nat.pow_succ, e1, show Q * (4294967296 ^ (i / 32) * 2 ^ (i % 32) * 2) = 4294967296 ^ (i / 32) * (Q * 2 ^ (i % 32 + 1)) by rw [Nat.pow_succ]; grind, Nat.mul_div_cancel_left _ hP]
    have a3 : (Q * 2 ^ (i % 32 + 1) + 2 ^ (i % 32)) % 4294967296 = Q * 2 ^ (i % 32 + 1) % 4294967296 + 2 ^ (i % 32) := by
      rw [hD, Nat.mul_comm (2 ^ (i % 32 + 1)) (2 ^ (31 - i % 32))]
      rw [Nat.mul_mod_mul_right]
      rw [Nat.mul_comm (2 ^ (31 - i % 32)), Nat.mod_mul, Nat.add_comm (Q * 2 ^ (i % 32 + 1)), Nat.add_mul_mod_self_right, Nat.mod_eq_of_lt hT, Nat.add_mul_div_right _ _ (Nat.pow_pos (by omega)), Nat.div_eq_of_lt hT, Nat.zero_add]
      rw [Nat.mul_comm (2 ^ (i % 32 + 1))]; omega
    rw [dig, dig, a1, a2, a3]; simp
  · rename_i h
    rcases Nat.lt_or_ge p (i / 32) with hlt | hge
    · have e1 : (2 : Nat) ^ i = 4294967296 ^ p * (4294967296 * 2 ^ (i - 32 * (p + 1))) := by
        rw [← Nat.mul_assoc, ← Nat.pow_succ, b32, ← Nat.pow_mul, ← Nat.pow_add]; congr 1; omega
      have hP : 0 < 4294967296 ^ p := Nat.pow_pos (by omega)
      rw [dig, dig, e1, Nat.add_mul_div_left _ _ hP, Nat.add_mul_mod_self_left]
    · have e1 : (4294967296 : Nat) ^ p = 2 ^ (i + 1) * 2 ^ (32 * p - (i + 1)) := by
        rw [b32, ← Nat.pow_mul, ← Nat.pow_add]; congr 1; omega
      have hT : (2 : Nat) ^ i < 2 ^ (i + 1) := Nat.pow_lt_pow_right (by omega) (by omega)
      rw [dig, dig, e1, ← Nat.div_div_eq_div_mul, ← Nat.div_div_eq_div_mul, Nat.mul_div_cancel _ (Nat.pow_pos (by omega)), Nat.add_comm, Nat.add_mul_div_right _ _ (Nat.pow_pos (by omega)), Nat.div_eq_of_lt hT, Nat.zero_add]
theorem half_bit (a i : Nat) : a / 2 ^ i = 2 * (a / 2 ^ (i + 1)) + a / 2 ^ i % 2 := by
  rw [Nat.pow_succ, ← Nat.div_div_eq_div_mul]; omega
/-- One round of the long division by bits. -/
theorem split_step {A b bit Q r : Nat} (hb : 0 < b) (hbit : bit ≤ 1) (hQ : Q = A / b) (hr : r = A % b) :
    (b ≤ r + r + bit → (2 * A + bit) / b = 2 * Q + 1 ∧ (2 * A + bit) % b = r + r + bit - b) ∧ (r + r + bit < b → (2 * A + bit) / b = 2 * Q ∧ (2 * A + bit) % b = r + r + bit) := by
  have h1 := Nat.div_add_mod A b
  have h2 := Nat.mod_lt A hb
  rw [← hQ, ← hr] at h1
  rw [← hr] at h2
  have e : 2 * A + bit = b * (2 * Q) + (r + r + bit) := by rw [← h1]; grind
  constructor
  · intro h
    have e2 : 2 * A + bit = b * (2 * Q + 1) + (r + r + bit - b) := by rw [e, Nat.mul_add, Nat.mul_one]; omega
    rw [e2, Nat.mul_add_div hb, Nat.mul_add_mod, Nat.div_eq_of_lt (by omega), Nat.mod_eq_of_lt (by omega)]
    exact ⟨by omega, rfl⟩
  · intro h
    rw [e, Nat.mul_add_div hb, Nat.mul_add_mod, Nat.div_eq_of_lt h, Nat.mod_eq_of_lt h]
    exact ⟨by omega, rfl⟩
theorem split_p (a b : Nat) (ha : a < 4294967296 ^ 16) (hb : 0 < b) (hbW : b < 115792089237316195423570985008687907853269984665640564039457584007913129639936) : Pure Tryd.prog 91 [lE a, lE b] (.tup [lE (a / b), lE (a % b)]) := by
  unfold lE
  refine pure_p (args := [.agg (ints .u64 (dig 4294967296 a) 17), .agg (ints .u64 (dig 4294967296 b) 17)]) en91 (by simp [closed, closeds, closed_wE, closeds_ints]) Tryd.func91 rfl in91 (by simp [Tryd.f91]) (by simp [closeds, closed, closed_wE, closeds_ints]) (fun w => next_of 1000 ?_)
  simp (maxSteps := 4000000) (disch := omega) only [go_sem, Nat.reduceBEq, Nat.reduceAdd, Nat.reduceMul, Nat.reduceSub, Nat.reduceLT, Nat.reduceLeDiff, Int.reduceToNat, Int.reduceLT, Int.reduceLE, Int.reduceAdd, Int.reduceMul, Int.reduceSub, Int.reduceNeg, Int.reduceDiv, Int.reduceMod, Nat.reduceBNe, Nat.reduceGT, Int.reduceBEq, Int.reduceBNe, Int.reduceGT, Nat.reduceDiv, Nat.reduceMod, Nat.reducePow, Int.reducePow, gt_iff_lt, ge_iff_le, List.reduceReplicate, ↓reduceIte, Tryd.f91]
  repeat (with_reducible refine And.intro (by first | omega | assumption | (constructor <;> assumption) | (simp; done) | (simp; omega) | (simp [*]; done)) ?_)
  repeat' (first
    | with_reducible refine And.intro (by first | omega | assumption | (constructor <;> assumption) | (simp; done) | (simp; omega) | (simp [*]; done)) ?_
    | simp (maxSteps := 4000000) (disch := omega) only [go_sem, Nat.reduceBEq, Nat.reduceAdd, Nat.reduceMul, Nat.reduceSub, Nat.reduceLT, Nat.reduceLeDiff, Int.reduceToNat, Int.reduceLT, Int.reduceLE, Int.reduceAdd, Int.reduceMul, Int.reduceSub, Int.reduceNeg, Int.reduceDiv, Int.reduceMod, Nat.reduceBNe, Nat.reduceGT, Int.reduceBEq, Int.reduceBNe, Int.reduceGT, Nat.reduceDiv, Nat.reduceMod, Nat.reducePow, Int.reducePow, gt_iff_lt, ge_iff_le, List.reduceReplicate, ↓reduceIte]
    | with_reducible refine roundS (next_of 1000 ?_)
    | with_reducible refine drawS_of mixed (by kernel_rfl) (dg_of 1000 ?_)
    | with_reducible refine endD_of (by kernel_rfl) (next_of 1000 ?_)
    | with_reducible refine next_of 1000 ?_
    | ((first | refine condS_split (fun h => ?_) (fun h => ?_) | refine testS_split (fun h => ?_) (fun h => ?_) | refine testD_split (fun h => ?_) (fun h => ?_)) <;> (try simp only [bne_iff_ne, ne_eq, beq_iff_eq, decide_eq_true_eq, decide_eq_false_iff_not, Bool.not_eq_true, Bool.not_eq_false, Bool.not_true, Bool.not_false, bne_eq_false_iff_eq, beq_eq_false_iff_ne, Bool.and_eq_true, Bool.or_eq_true, Bool.and_eq_false_imp, Bool.or_eq_false_iff, Bool.not_eq_true', Bool.not_eq_false', Int.not_lt, Int.not_le] at h) <;> (try (exfalso; omega))))
  refine loopX (S := Nat) (S' := Nat) 0 rfl (fun t => t ≤ 16 ∧ a < 4294967296 ^ (t + 1))
    (fun t => ⟨[(8, .int .i64 (t : Nat)), (7, .ptr 5 0), (6, .ptr 4 0), (5, .ptr 3 0), (4, .ptr 2 0), (3, .ptr 1 0), (2, .ptr 0 0)], 6,
      [(5, some (.cells (ints .u64 (fun _ => 0) 17) 72 (0, 0))), (4, some (.cells (ints .u64 (fun _ => 0) 17) 72 (0, 0))), (3, some (.cells (ints .u64 (fun _ => 0) 17) 72 (0, 0))), (2, some (.cells (ints .u64 (fun _ => 0) 17) 72 (0, 0))),
       (1, some (.cells (ints .u64 (dig 4294967296 b) 17) 72 (0, 0))), (0, some (.cells (ints .u64 (dig 4294967296 a) 17) 72 (0, 0)))], base w, []⟩)
    (fun t => t) (fun t => t ≤ 16 ∧ a < 4294967296 ^ (t + 1))
    (fun t => ⟨[(8, .int .i64 (t : Nat)), (7, .ptr 5 0), (6, .ptr 4 0), (5, .ptr 3 0), (4, .ptr 2 0), (3, .ptr 1 0), (2, .ptr 0 0)], 6,
      [(5, some (.cells (ints .u64 (fun _ => 0) 17) 72 (0, 0))), (4, some (.cells (ints .u64 (fun _ => 0) 17) 72 (0, 0))), (3, some (.cells (ints .u64 (fun _ => 0) 17) 72 (0, 0))), (2, some (.cells (ints .u64 (fun _ => 0) 17) 72 (0, 0))),
       (1, some (.cells (ints .u64 (dig 4294967296 b) 17) 72 (0, 0))), (0, some (.cells (ints .u64 (dig 4294967296 a) 17) 72 (0, 0)))], base w, []⟩)
    16 ⟨by omega, Nat.lt_of_lt_of_le ha (by decide)⟩ (Weak.sub (weak_of (by simp [wσ, go_sem, closed, closeds, closeds_ints]) (by simp [whs, go_sem, EObj.closed, closed, closeds, closeds_ints]) (by simp [*]) rfl rfl (by simp))) ?_ ?_
  · intro t ⟨ht, hat⟩
    refine next_of 1000 ?_
    repeat' (first
      | with_reducible refine And.intro (by first | omega | assumption | (constructor <;> assumption) | (simp; done) | (simp; omega) | (simp [*]; done)) ?_
      | simp (maxSteps := 4000000) (disch := omega) only [go_sem, Nat.reduceBEq, Nat.reduceAdd, Nat.reduceMul, Nat.reduceSub, Nat.reduceLT, Nat.reduceLeDiff, Int.reduceToNat, Int.reduceLT, Int.reduceLE, Int.reduceAdd, Int.reduceMul, Int.reduceSub, Int.reduceNeg, Int.reduceDiv, Int.reduceMod, Nat.reduceBNe, Nat.reduceGT, Int.reduceBEq, Int.reduceBNe, Int.reduceGT, Nat.reduceDiv, Nat.reduceMod, Nat.reducePow, Int.reducePow, gt_iff_lt, ge_iff_le, List.reduceReplicate, ↓reduceIte, Int.toNat_natCast]
      | with_reducible refine roundS (next_of 1000 ?_)
      | with_reducible refine drawS_of mixed (by kernel_rfl) (dg_of 1000 ?_)
      | with_reducible refine endD_of (by kernel_rfl) (next_of 1000 ?_)
      | with_reducible refine next_of 1000 ?_
      | ((first | refine condS_split (fun h => ?_) (fun h => ?_) | refine testS_split (fun h => ?_) (fun h => ?_) | refine testD_split (fun h => ?_) (fun h => ?_)) <;> (try simp only [bne_iff_ne, ne_eq, beq_iff_eq, decide_eq_true_eq, decide_eq_false_iff_not, Bool.not_eq_true, Bool.not_eq_false, Bool.not_true, Bool.not_false, bne_eq_false_iff_eq, beq_eq_false_iff_ne, Bool.and_eq_true, Bool.or_eq_true, Bool.and_eq_false_imp, Bool.or_eq_false_iff, Bool.not_eq_true', Bool.not_eq_false', Int.not_lt, Int.not_le] at h) <;> (try (exfalso; omega))))
    · rename_i h0
      obtain ⟨k, rfl⟩ : ∃ k, t = k + 1 := ⟨t - 1, by omega⟩
      have e1 : (((k + 1 : Nat) : Int) - 1) = (k : Int) := by omega
      rw [e1]
      have hlt : a < 4294967296 ^ (k + 1) := by
        have h5 : a / 4294967296 ^ (k + 1) < 4294967296 := Nat.div_lt_of_lt_mul (by rw [← Nat.pow_succ]; exact hat)
        have h6 : a / 4294967296 ^ (k + 1) % 4294967296 = 0 := by unfold dig at h; omega
        rw [Nat.mod_eq_of_lt h5] at h6
        exact Nat.lt_of_div_eq_zero (Nat.pow_pos (by omega)) h6
      exact ⟨k, ⟨by omega, hlt⟩, Weak.sub (weak_of (by simp [wσ, go_sem, closed, closeds, closeds_ints]) (by simp [whs, go_sem, EObj.closed, closed, closeds, closeds_ints]) (by simp [*]) rfl rfl (by simp)), by omega⟩
    · exact ⟨t, ⟨ht, hat⟩, Weak.sub (weak_of (by simp [wσ, go_sem, closed, closeds, closeds_ints]) (by simp [whs, go_sem, EObj.closed, closed, closeds, closeds_ints]) (by simp [*]) rfl rfl (by simp))⟩
    · exact ⟨t, ⟨ht, hat⟩, Weak.sub (weak_of (by simp [wσ, go_sem, closed, closeds, closeds_ints]) (by simp [whs, go_sem, EObj.closed, closed, closeds, closeds_ints]) (by simp [*]) rfl rfl (by simp))⟩
  · intro t ⟨ht, hat⟩
    refine next_of 1000 ?_
    have e9 : 32 * (t : Int) + 31 = ((32 * (t + 1) : Nat) : Int) - 1 := by omega
    repeat' (first
      | with_reducible refine And.intro (by first | omega | assumption | (constructor <;> assumption) | (simp; done) | (simp; omega) | (simp [*]; done)) ?_
      | simp (maxSteps := 4000000) (disch := omega) only [go_sem, Nat.reduceBEq, Nat.reduceAdd, Nat.reduceMul, Nat.reduceSub, Nat.reduceLT, Nat.reduceLeDiff, Int.reduceToNat, Int.reduceLT, Int.reduceLE, Int.reduceAdd, Int.reduceMul, Int.reduceSub, Int.reduceNeg, Int.reduceDiv, Int.reduceMod, Nat.reduceBNe, Nat.reduceGT, Int.reduceBEq, Int.reduceBNe, Int.reduceGT, Nat.reduceDiv, Nat.reduceMod, Nat.reducePow, Int.reducePow, gt_iff_lt, ge_iff_le, List.reduceReplicate, ↓reduceIte, e9]
      | with_reducible refine roundS (next_of 1000 ?_)
      | with_reducible refine drawS_of mixed (by kernel_rfl) (dg_of 1000 ?_)
      | with_reducible refine endD_of (by kernel_rfl) (next_of 1000 ?_)
      | with_reducible refine next_of 1000 ?_
      | ((first | refine condS_split (fun h => ?_) (fun h => ?_) | refine testS_split (fun h => ?_) (fun h => ?_) | refine testD_split (fun h => ?_) (fun h => ?_)) <;> (try simp only [bne_iff_ne, ne_eq, beq_iff_eq, decide_eq_true_eq, decide_eq_false_iff_not, Bool.not_eq_true, Bool.not_eq_false, Bool.not_true, Bool.not_false, bne_eq_false_iff_eq, beq_eq_false_iff_ne, Bool.and_eq_true, Bool.or_eq_true, Bool.and_eq_false_imp, Bool.or_eq_false_iff, Bool.not_eq_true', Bool.not_eq_false', Int.not_lt, Int.not_le] at h) <;> (try (exfalso; omega))))
    have hn0 : a / 2 ^ (32 * (t + 1)) = 0 := Nat.div_eq_of_lt (by rw [Nat.pow_mul]; exact hat)
    obtain ⟨n0, hn0e⟩ : ∃ n0, n0 = 32 * (t + 1) := ⟨_, rfl⟩
    rw [← hn0e] at hn0 ⊢
    have hn544 : n0 ≤ 544 := by omega
    refine loopU (S := Nat) (fun n => n ≤ 544)
      (fun n => ⟨[(9, .int .i64 ((n : Nat) - 1)), (7, .ptr 5 0), (6, .ptr 4 0), (5, .ptr 3 0), (4, .ptr 2 0), (3, .ptr 1 0), (2, .ptr 0 0)], 6,
        [(5, some (.cells (ints .u64 (dig 4294967296 (a / 2 ^ n % b)) 17) 72 (0, 0))), (4, some (.cells (ints .u64 (dig 4294967296 (a / 2 ^ n / b * 2 ^ n)) 17) 72 (0, 0))), (3, some (.cells (ints .u64 (fun _ => 0) 17) 72 (0, 0))), (2, some (.cells (ints .u64 (fun _ => 0) 17) 72 (0, 0))),
         (1, some (.cells (ints .u64 (dig 4294967296 b) 17) 72 (0, 0))), (0, some (.cells (ints .u64 (dig 4294967296 a) 17) 72 (0, 0)))], base w, []⟩)
      (fun n => n) n0 hn544 (by
        have e0 : dig 4294967296 0 = fun _ => 0 := by funext q; simp [dig]
        have e1 : dig 4294967296 (a / 2 ^ n0 % b) = fun _ => 0 := by rw [hn0, Nat.zero_mod, e0]
        have e2 : dig 4294967296 (a / 2 ^ n0 / b * 2 ^ n0) = fun _ => 0 := by rw [hn0, Nat.zero_div, Nat.zero_mul, e0]
        exact Weak.sub (weak_of (by simp [wσ, go_sem, closed, closeds, closeds_ints, e1, e2]) (by simp [whs, go_sem, EObj.closed, closed, closeds, closeds_ints, e1, e2]) (by simp [*]) rfl rfl (by simp))) ?_
    intro n hn
    refine next_of 1000 ?_
    simp (maxSteps := 4000000) (disch := omega) only [go_sem, Nat.reduceBEq, Nat.reduceAdd, Nat.reduceMul, Nat.reduceSub, Nat.reduceLT, Nat.reduceLeDiff, Int.reduceToNat, Int.reduceLT, Int.reduceLE, Int.reduceAdd, Int.reduceMul, Int.reduceSub, Int.reduceNeg, Int.reduceDiv, Int.reduceMod, Nat.reduceBNe, Nat.reduceGT, Int.reduceBEq, Int.reduceBNe, Int.reduceGT, Nat.reduceDiv, Nat.reduceMod, Nat.reducePow, Int.reducePow, gt_iff_lt, ge_iff_le, List.reduceReplicate, ↓reduceIte]
    repeat (with_reducible refine And.intro (by first | omega | assumption | (constructor <;> assumption) | (simp; done) | (simp; omega) | (simp [*]; done)) ?_)
    refine condS_split (fun h => ?_) (fun h => ?_)
    all_goals (try simp only [bne_iff_ne, ne_eq, beq_iff_eq, decide_eq_true_eq, decide_eq_false_iff_not, Bool.not_eq_true, Bool.not_eq_false, Bool.not_true, Bool.not_false, bne_eq_false_iff_eq, beq_eq_false_iff_ne, Bool.and_eq_true, Bool.or_eq_true, Bool.and_eq_false_imp, Bool.or_eq_false_iff, Bool.not_eq_true', Bool.not_eq_false', Int.not_lt, Int.not_le] at h)
    · obtain ⟨i, rfl⟩ : ∃ i, n = i + 1 := ⟨n - 1, by omega⟩
      have e1 : (((i + 1 : Nat) : Int) - 1) = (i : Int) := by omega
      simp only [e1]
      obtain ⟨A, hA⟩ : ∃ A, A = a / 2 ^ (i + 1) := ⟨_, rfl⟩
      obtain ⟨bit, hbit⟩ : ∃ bit, bit = a / 2 ^ i % 2 := ⟨_, rfl⟩
      have hb1 : bit ≤ 1 := by omega
      have hAA : a / 2 ^ i = 2 * A + bit := by rw [hA, hbit]; exact half_bit a i
      obtain ⟨r, hr⟩ : ∃ r, r = A % b := ⟨_, rfl⟩
      obtain ⟨Q, hQ⟩ : ∃ Q, Q = A / b := ⟨_, rfl⟩
      have hst := split_step hb hb1 hQ hr
      have hrb : r < b := by rw [hr]; exact Nat.mod_lt _ hb
      have hlb := low_bd (r := r) hb1
      have hlb0 := (bd32 (r + r) 0).1
      have hls := low_set (r := r) hb1
      have c1 := plus_p r r
      have c2 := rlbit_p a i (by omega)
      rw [← hbit] at c2
      have hwide : 115792089237316195423570985008687907853269984665640564039457584007913129639936 + 115792089237316195423570985008687907853269984665640564039457584007913129639936 < 4294967296 ^ 17 := by decide
      have c3 := order_p (r + r + bit) b (by omega) (w_long hbW)
      unfold lE at c1 c2 c3
      rw [← hA, ← hr, ← hQ]
      by_cases hge : b ≤ r + r + bit
      · obtain ⟨s1, s2⟩ := hst.1 hge
        have c4 := minus_p (r + r + bit) b hge
        unfold lE at c4
        have hc : 0 ≤ cmpI ((r + r + bit : Nat) : Int) (b : Int) := by unfold cmpI; rw [if_neg (by omega)]; split <;> omega
        obtain ⟨k, hk⟩ : ∃ k, k = cmpI ((r + r + bit : Nat) : Int) (b : Int) := ⟨_, rfl⟩
        rw [← hk] at c3 hc
        have e32 : ((i : Int) / 32).toNat = i / 32 := by omega
        have e32m : ((i : Int) % 32).toNat = i % 32 := by omega
        have hs32 := set32 Q i
        have hbq := bd32 (Q * 2 ^ (i + 1) + 2 ^ i) (i / 32)
        have hbq2 := hs32 (i / 32)
        rw [if_pos rfl] at hbq2
        have hset : setF (dig 4294967296 (Q * 2 ^ (i + 1))) (i / 32) (dig 4294967296 (Q * 2 ^ (i + 1) + 2 ^ i) (i / 32)) = dig 4294967296 (Q * 2 ^ (i + 1) + 2 ^ i) := by
          funext q
          simp only [setF]
          split
          · rename_i h; rw [h]
          · rename_i h; rw [hs32 q, if_neg h]
        have hpw : (2 : Int) ^ (i % 32) < 18446744073709551616 := by
          have := two_le63 (s := i % 32) (by omega)
          have e : ((2 ^ (i % 32) : Nat) : Int) = (2 : Int) ^ (i % 32) := by simp
          omega
        have hpm : (2 : Int) ^ (i % 32) % 18446744073709551616 = (2 : Int) ^ (i % 32) := Int.emod_eq_of_lt (Int.le_of_lt (Int.pow_pos (by omega))) hpw
        obtain ⟨t5, ht5⟩ : ∃ t5 : Int, t5 = 2 ^ (i % 32) := ⟨_, rfl⟩
        rw [← ht5] at hbq2 hpm
        clear hpw
        have ht6 : id ((2 : Int) ^ (i % 32) = t5) := ht5.symm
        clear ht5
        clear hs32 hst hwide hQ hr hbit hA hk
        repeat' (first
          | with_reducible refine And.intro (by first | omega | assumption | (constructor <;> assumption) | (simp; done) | (simp; omega) | (simp [*]; done)) ?_
          | simp (maxSteps := 4000000) (disch := omega) only [go_sem, Nat.reduceBEq, Nat.reduceAdd, Nat.reduceMul, Nat.reduceSub, Nat.reduceLT, Nat.reduceLeDiff, Int.reduceToNat, Int.reduceLT, Int.reduceLE, Int.reduceAdd, Int.reduceMul, Int.reduceSub, Int.reduceNeg, Int.reduceDiv, Int.reduceMod, Nat.reduceBNe, Nat.reduceGT, Int.reduceBEq, Int.reduceBNe, Int.reduceGT, Nat.reduceDiv, Nat.reduceMod, Nat.reducePow, Int.reducePow, gt_iff_lt, ge_iff_le, List.reduceReplicate, ↓reduceIte, Int.toNat_natCast, hls, e32, e32m, Int.one_mul, show (2 : Int) ^ (i % 32) = t5 from ht6, hpm, ← hbq2, hset]
          | with_reducible refine roundS (next_of 1000 ?_)
          | with_reducible refine drawS_of mixed (by kernel_rfl) (dg_of 1000 ?_)
          | with_reducible refine endD_of (by kernel_rfl) (next_of 1000 ?_)
          | refine callS_p (c1) (next_of 1000 ?_)
          | refine callD_p (c1) (dg_of 1000 ?_)
          | refine callS_p (c2) (next_of 1000 ?_)
          | refine callD_p (c2) (dg_of 1000 ?_)
          | refine callS_p (c3) (next_of 1000 ?_)
          | refine callD_p (c3) (dg_of 1000 ?_)
          | refine callS_p (c4) (next_of 1000 ?_)
          | refine callD_p (c4) (dg_of 1000 ?_)
          | with_reducible refine next_of 1000 ?_
          | ((first | refine condS_split (fun h => ?_) (fun h => ?_) | refine testS_split (fun h => ?_) (fun h => ?_) | refine testD_split (fun h => ?_) (fun h => ?_)) <;> (try simp only [bne_iff_ne, ne_eq, beq_iff_eq, decide_eq_true_eq, decide_eq_false_iff_not, Bool.not_eq_true, Bool.not_eq_false, Bool.not_true, Bool.not_false, bne_eq_false_iff_eq, beq_eq_false_iff_ne, Bool.and_eq_true, Bool.or_eq_true, Bool.and_eq_false_imp, Bool.or_eq_false_iff, Bool.not_eq_true', Bool.not_eq_false', Int.not_lt, Int.not_le] at h) <;> (try (exfalso; omega))))
        have f1 : a / 2 ^ i % b = r + r + bit - b := by rw [hAA, s2]
        have f2 : a / 2 ^ i / b * 2 ^ i = Q * 2 ^ (i + 1) + 2 ^ i := by rw [hAA, s1, Nat.pow_succ]; grind
        exact ⟨i, by omega, Weak.sub (weak_of (by simp [wσ, go_sem, closed, closeds, closeds_ints, f1, f2]) (by simp [whs, go_sem, EObj.closed, closed, closeds, closeds_ints, f1, f2]) (by simp [*]) rfl rfl (by simp)), by omega⟩
      · obtain ⟨s1, s2⟩ := hst.2 (by omega)
        rw [show cmpI ((r + r + bit : Nat) : Int) (b : Int) = -1 by unfold cmpI; rw [if_pos (by omega)]] at c3
        clear hst hwide hQ hr hbit hA
        repeat' (first
          | with_reducible refine And.intro (by first | omega | assumption | (constructor <;> assumption) | (simp; done) | (simp; omega) | (simp [*]; done)) ?_
          | simp (maxSteps := 4000000) (disch := omega) only [go_sem, Nat.reduceBEq, Nat.reduceAdd, Nat.reduceMul, Nat.reduceSub, Nat.reduceLT, Nat.reduceLeDiff, Int.reduceToNat, Int.reduceLT, Int.reduceLE, Int.reduceAdd, Int.reduceMul, Int.reduceSub, Int.reduceNeg, Int.reduceDiv, Int.reduceMod, Nat.reduceBNe, Nat.reduceGT, Int.reduceBEq, Int.reduceBNe, Int.reduceGT, Nat.reduceDiv, Nat.reduceMod, Nat.reducePow, Int.reducePow, gt_iff_lt, ge_iff_le, List.reduceReplicate, ↓reduceIte, Int.toNat_natCast, hls]
          | with_reducible refine roundS (next_of 1000 ?_)
          | with_reducible refine drawS_of mixed (by kernel_rfl) (dg_of 1000 ?_)
          | with_reducible refine endD_of (by kernel_rfl) (next_of 1000 ?_)
          | refine callS_p (c1) (next_of 1000 ?_)
          | refine callD_p (c1) (dg_of 1000 ?_)
          | refine callS_p (c2) (next_of 1000 ?_)
          | refine callD_p (c2) (dg_of 1000 ?_)
          | refine callS_p (c3) (next_of 1000 ?_)
          | refine callD_p (c3) (dg_of 1000 ?_)
          | with_reducible refine next_of 1000 ?_
          | ((first | refine condS_split (fun h => ?_) (fun h => ?_) | refine testS_split (fun h => ?_) (fun h => ?_) | refine testD_split (fun h => ?_) (fun h => ?_)) <;> (try simp only [bne_iff_ne, ne_eq, beq_iff_eq, decide_eq_true_eq, decide_eq_false_iff_not, Bool.not_eq_true, Bool.not_eq_false, Bool.not_true, Bool.not_false, bne_eq_false_iff_eq, beq_eq_false_iff_ne, Bool.and_eq_true, Bool.or_eq_true, Bool.and_eq_false_imp, Bool.or_eq_false_iff, Bool.not_eq_true', Bool.not_eq_false', Int.not_lt, Int.not_le] at h) <;> (try (exfalso; omega))))
        have f1 : a / 2 ^ i % b = r + r + bit := by rw [hAA, s2]
        have f2 : a / 2 ^ i / b * 2 ^ i = Q * 2 ^ (i + 1) := by rw [hAA, s1, Nat.pow_succ]; grind
        exact ⟨i, by omega, Weak.sub (weak_of (by simp [wσ, go_sem, closed, closeds, closeds_ints, f1, f2]) (by simp [whs, go_sem, EObj.closed, closed, closeds, closeds_ints, f1, f2]) (by simp [*]) rfl rfl (by simp)), by omega⟩
    · have hn00 : n = 0 := by omega
      subst hn00
      rw [Nat.pow_zero, Nat.div_one, Nat.mul_one]
      simp (maxSteps := 4000000) (disch := omega) only [go_sem, Nat.reduceBEq, Nat.reduceAdd, Nat.reduceMul, Nat.reduceSub, Nat.reduceLT, Nat.reduceLeDiff, Int.reduceToNat, Int.reduceLT, Int.reduceLE, Int.reduceAdd, Int.reduceMul, Int.reduceSub, Int.reduceNeg, Int.reduceDiv, Int.reduceMod, Nat.reduceBNe, Nat.reduceGT, Int.reduceBEq, Int.reduceBNe, Int.reduceGT, Nat.reduceDiv, Nat.reduceMod, Nat.reducePow, Int.reducePow, gt_iff_lt, ge_iff_le, List.reduceReplicate, ↓reduceIte]
      repeat (with_reducible refine And.intro (by first | omega | assumption | (constructor <;> assumption) | (simp; done) | (simp; omega) | (simp [*]; done)) ?_)
      repeat' (first
        | with_reducible refine And.intro (by first | omega | assumption | (constructor <;> assumption) | (simp; done) | (simp; omega) | (simp [*]; done)) ?_
        | simp (maxSteps := 4000000) (disch := omega) only [go_sem, Nat.reduceBEq, Nat.reduceAdd, Nat.reduceMul, Nat.reduceSub, Nat.reduceLT, Nat.reduceLeDiff, Int.reduceToNat, Int.reduceLT, Int.reduceLE, Int.reduceAdd, Int.reduceMul, Int.reduceSub, Int.reduceNeg, Int.reduceDiv, Int.reduceMod, Nat.reduceBNe, Nat.reduceGT, Int.reduceBEq, Int.reduceBNe, Int.reduceGT, Nat.reduceDiv, Nat.reduceMod, Nat.reducePow, Int.reducePow, gt_iff_lt, ge_iff_le, List.reduceReplicate, ↓reduceIte]
        | with_reducible refine roundS (next_of 1000 ?_)
        | with_reducible refine drawS_of mixed (by kernel_rfl) (dg_of 1000 ?_)
        | with_reducible refine endD_of (by kernel_rfl) (next_of 1000 ?_)
        | with_reducible refine next_of 1000 ?_
        | ((first | refine condS_split (fun h => ?_) (fun h => ?_) | refine testS_split (fun h => ?_) (fun h => ?_) | refine testD_split (fun h => ?_) (fun h => ?_)) <;> (try simp only [bne_iff_ne, ne_eq, beq_iff_eq, decide_eq_true_eq, decide_eq_false_iff_not, Bool.not_eq_true, Bool.not_eq_false, Bool.not_true, Bool.not_false, bne_eq_false_iff_eq, beq_eq_false_iff_ne, Bool.and_eq_true, Bool.or_eq_true, Bool.and_eq_false_imp, Bool.or_eq_false_iff, Bool.not_eq_true', Bool.not_eq_false', Int.not_lt, Int.not_le] at h) <;> (try (exfalso; omega))))
end Go.Proofs.YtbilnedgpgpanaaDoor
