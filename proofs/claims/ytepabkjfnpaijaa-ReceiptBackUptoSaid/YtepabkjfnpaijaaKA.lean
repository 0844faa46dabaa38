/- Part of a proof over the seat Ytepabkjfnpaijaa. -/
import Derived.Test.YtepabkjfnpaijaaTab
namespace Go.Proofs.Ytepabkjfnpaijaa
open Go RowKit Go.Ew
set_option maxRecDepth 100000
set_option linter.unusedSimpArgs false
set_option linter.unusedVariables false
set_option maxHeartbeats 1000000
abbrev L64 := BitVec 64
/-- As a number. -/
def n64 (x : L64) : Int := (x.toNat : Int)
theorem n64_nn (x : L64) : 0 ≤ n64 x := Int.natCast_nonneg _
theorem n64_lt (x : L64) : n64 x < 18446744073709551616 := by unfold n64; have := x.isLt; omega
theorem ofInt_n64 (x : L64) : BitVec.ofInt 64 (n64 x) = x := by
  unfold n64; rw [BitVec.ofInt_natCast]; simp
theorem wrap_n64 (x : L64) : IntKind.u64.wrap (x.toNat : Int) = n64 x := wrap_u64 (n64_nn x) (n64_lt x)
theorem xor64 (x y : L64) : bXor .u64 (n64 x) (n64 y) = n64 (x ^^^ y) := by
  show IntKind.u64.wrap ((BitVec.ofInt 64 (n64 x) ^^^ BitVec.ofInt 64 (n64 y)).toNat : Int) = _
  rw [ofInt_n64, ofInt_n64, wrap_n64]
theorem and64 (x y : L64) : bAnd .u64 (n64 x) (n64 y) = n64 (x &&& y) := by
  show IntKind.u64.wrap ((BitVec.ofInt 64 (n64 x) &&& BitVec.ofInt 64 (n64 y)).toNat : Int) = _
  rw [ofInt_n64, ofInt_n64, wrap_n64]
theorem or64 (x y : L64) : bOr .u64 (n64 x) (n64 y) = n64 (x ||| y) := by
  show IntKind.u64.wrap ((BitVec.ofInt 64 (n64 x) ||| BitVec.ofInt 64 (n64 y)).toNat : Int) = _
  rw [ofInt_n64, ofInt_n64, wrap_n64]
theorem not64 (x : L64) : 18446744073709551615 - n64 x = n64 (~~~ x) := by
  unfold n64; rw [BitVec.toNat_not]; have := x.isLt; omega
theorem not64' (x : L64) : bXor .u64 18446744073709551615 (n64 x) = n64 (~~~ x) := by
  rw [bXor_max (n64_nn x) (n64_lt x), not64]
theorem shl64 (x : L64) (k : Nat) : bShl .u64 (n64 x) k = n64 (x <<< k) := by
  show IntKind.u64.wrap (n64 x * 2 ^ (min (k : Int).toNat 64)) = _
  rw [wrap_u64_mod]
  unfold n64
  rw [BitVec.toNat_shiftLeft, Nat.shiftLeft_eq, Int.toNat_natCast]
  by_cases h : k ≤ 64
  · rw [Nat.min_eq_left h, Int.natCast_emod, Int.natCast_mul, Int.natCast_pow]; rfl
  · rw [Nat.min_eq_right (by omega)]
    have e1 : (x.toNat : Int) * 2 ^ 64 % 18446744073709551616 = 0 := by
      rw [show (2 : Int) ^ 64 = 18446744073709551616 by decide]; omega
    rw [e1]
    have e2 : x.toNat * 2 ^ k % 2 ^ 64 = 0 := by
      obtain ⟨d, rfl⟩ : ∃ d, k = 64 + d := ⟨k - 64, by omega⟩
      rw [Nat.pow_add, ← Nat.mul_assoc, Nat.mul_comm (x.toNat) (2 ^ 64), Nat.mul_assoc]
      exact Nat.mul_mod_right _ _
    rw [e2]; rfl
theorem shr64 (x : L64) (k : Nat) : bShr .u64 (n64 x) k = n64 (x >>> k) := by
  show (n64 x).fdiv (2 ^ (min (k : Int).toNat 64)) = _
  unfold n64
  rw [BitVec.toNat_ushiftRight, Nat.shiftRight_eq_div_pow, Int.toNat_natCast]
  by_cases h : k ≤ 64
  · rw [Nat.min_eq_left h, Int.fdiv_eq_ediv_of_nonneg _ (Int.pow_nonneg (by omega)), Int.natCast_ediv, Int.natCast_pow]; rfl
  · rw [Nat.min_eq_right (by omega), Int.fdiv_eq_ediv_of_nonneg _ (by decide)]
    have e2 : x.toNat / 2 ^ k = 0 := Nat.div_eq_of_lt (Nat.lt_of_lt_of_le x.isLt (Nat.pow_le_pow_right (by omega) (by omega)))
    rw [e2]
    have := x.isLt
    rw [show (2 : Int) ^ 64 = 18446744073709551616 by decide]; omega
/-- Turned left by k. -/
def rot (x : L64) (k : Nat) : L64 := x <<< k ||| x >>> (64 - k)
theorem rot_zero (x : L64) : rot x 0 = x := by
  unfold rot
  apply BitVec.eq_of_toNat_eq
  simp [BitVec.toNat_ushiftRight, Nat.shiftRight_eq_div_pow, Nat.div_eq_of_lt x.isLt]
theorem in92 : codeIn Try.f92.ntmps (Try.f92.body.getD .skip) = true := by kernel_rfl
theorem in101 : codeIn Try.f101.ntmps (Try.f101.body.getD .skip) = true := by kernel_rfl
theorem in75 : codeIn Try.f75.ntmps (Try.f75.body.getD .skip) = true := by kernel_rfl
theorem in76 : codeIn Try.f76.ntmps (Try.f76.body.getD .skip) = true := by kernel_rfl
theorem shl64' (x : L64) (k : Nat) (hk : k < 64) : n64 x * (2 : Int) ^ k % 18446744073709551616 = n64 (x <<< k) := by
  rw [← shl64, bShl_u64 (by omega) (by omega), Int.toNat_natCast]
theorem rotl_p (x : L64) (k : Nat) (hk : k < 64) : Pure Try.prog 92 [.int .u64 (n64 x), .int .i64 (k : Nat)] (.int .u64 (n64 (rot x k))) := by
  refine pure_p (args := [.int .u64 (n64 x), .int .i64 (k : Nat)]) en92 (by simp [closed, closeds, closed_wE, closeds_ints]) Try.func92 rfl in92 (by simp [Try.f92]) (by simp [closeds, closed, closed_wE, closeds_ints]) (fun w => next_of 1000 ?_)
  simp (maxSteps := 4000000) (disch := omega) only [go_sem, Nat.reduceBEq, Nat.reduceAdd, Nat.reduceMul, Nat.reduceSub, Nat.reduceLT, Nat.reduceLeDiff, Int.reduceToNat, Int.reduceLT, Int.reduceLE, Int.reduceAdd, Int.reduceMul, Int.reduceSub, Int.reduceNeg, Int.reduceDiv, Int.reduceMod, Nat.reduceBNe, Nat.reduceGT, Int.reduceBEq, Int.reduceBNe, Int.reduceGT, Nat.reduceDiv, Nat.reduceMod, Nat.reducePow, Int.reducePow, gt_iff_lt, ge_iff_le, List.reduceReplicate, ↓reduceIte, Try.f92]
  repeat (with_reducible refine And.intro (by first | omega | assumption | (constructor <;> assumption) | (simp; done) | (simp; omega) | (simp [*]; done) | ((repeat' refine And.intro ?_ ?_) <;> first | omega | assumption | (refine SlOk.so (n := ?_) ?_ ?_; rotate_left; assumption; omega) | (simp; done) | fail) | fail) ?_)
  have e1 : bAnd .u64 (k : Int) 63 = k := by
    have := and_lit (k : Int) 6 63 rfl (by omega) (by omega) (by omega)
    rw [show ((63 : Nat) : Int) = 63 from rfl] at this
    rw [this]; omega
  have e2 : IntKind.u64.wrap (64 - (k : Int)) = ((64 - k : Nat) : Int) := by rw [wrap_u64 (by omega) (by omega)]; omega
  rw [e1, e2, shl64, shr64, or64]
  exact ⟨by omega, rfl⟩
theorem left_p (x : L64) (k : Nat) (hk : k < 64) : Pure Try.prog 101 [.int .u64 (n64 x), .int .i64 (k : Nat)] (.int .u64 (n64 (rot x k))) := by
  have hm : (k : Int) % 64 = k := by omega
  by_cases h0 : k = 0
  · subst h0
    rw [rot_zero]
    refine pure_p (args := [.int .u64 (n64 x), .int .i64 (0 : Nat)]) en101 (by simp [closed, closeds, closed_wE, closeds_ints]) Try.func101 rfl in101 (by simp [Try.f101]) (by simp [closeds, closed, closed_wE, closeds_ints]) (fun w => next_of 1000 ?_)
    simp (maxSteps := 4000000) (disch := omega) only [go_sem, Nat.reduceBEq, Nat.reduceAdd, Nat.reduceMul, Nat.reduceSub, Nat.reduceLT, Nat.reduceLeDiff, Int.reduceToNat, Int.reduceLT, Int.reduceLE, Int.reduceAdd, Int.reduceMul, Int.reduceSub, Int.reduceNeg, Int.reduceDiv, Int.reduceMod, Nat.reduceBNe, Nat.reduceGT, Int.reduceBEq, Int.reduceBNe, Int.reduceGT, Nat.reduceDiv, Nat.reduceMod, Nat.reducePow, Int.reducePow, gt_iff_lt, ge_iff_le, List.reduceReplicate, ↓reduceIte, Try.f101]
    repeat (with_reducible refine And.intro (by first | omega | assumption | (constructor <;> assumption) | (simp; done) | (simp; omega) | (simp [*]; done) | ((repeat' refine And.intro ?_ ?_) <;> first | omega | assumption | (refine SlOk.so (n := ?_) ?_ ?_; rotate_left; assumption; omega) | (simp; done) | fail) | fail) ?_)
    decide
  have h0' : ((k : Int) == 0) = false := by simp; omega
  have e2 : 64 - (k : Int) = ((64 - k : Nat) : Int) := by omega
  refine pure_p (args := [.int .u64 (n64 x), .int .i64 (k : Nat)]) en101 (by simp [closed, closeds, closed_wE, closeds_ints]) Try.func101 rfl in101 (by simp [Try.f101]) (by simp [closeds, closed, closed_wE, closeds_ints]) (fun w => next_of 1000 ?_)
  simp (maxSteps := 4000000) (disch := omega) only [go_sem, Nat.reduceBEq, Nat.reduceAdd, Nat.reduceMul, Nat.reduceSub, Nat.reduceLT, Nat.reduceLeDiff, Int.reduceToNat, Int.reduceLT, Int.reduceLE, Int.reduceAdd, Int.reduceMul, Int.reduceSub, Int.reduceNeg, Int.reduceDiv, Int.reduceMod, Nat.reduceBNe, Nat.reduceGT, Int.reduceBEq, Int.reduceBNe, Int.reduceGT, Nat.reduceDiv, Nat.reduceMod, Nat.reducePow, Int.reducePow, gt_iff_lt, ge_iff_le, List.reduceReplicate, ↓reduceIte, Try.f101]
  repeat (with_reducible refine And.intro (by first | omega | assumption | (constructor <;> assumption) | (simp; done) | (simp; omega) | (simp [*]; done) | ((repeat' refine And.intro ?_ ?_) <;> first | omega | assumption | (refine SlOk.so (n := ?_) ?_ ?_; rotate_left; assumption; omega) | (simp; done) | fail) | fail) ?_)
  simp (maxSteps := 4000000) (disch := omega) only [go_sem, Nat.reduceBEq, Nat.reduceAdd, Nat.reduceMul, Nat.reduceSub, Nat.reduceLT, Nat.reduceLeDiff, Int.reduceToNat, Int.reduceLT, Int.reduceLE, Int.reduceAdd, Int.reduceMul, Int.reduceSub, Int.reduceNeg, Int.reduceDiv, Int.reduceMod, Nat.reduceBNe, Nat.reduceGT, Int.reduceBEq, Int.reduceBNe, Int.reduceGT, Nat.reduceDiv, Nat.reduceMod, Nat.reducePow, Int.reducePow, gt_iff_lt, ge_iff_le, List.reduceReplicate, ↓reduceIte, hm, h0', e2, Int.toNat_natCast]
  repeat (with_reducible refine And.intro (by first | omega | assumption | (constructor <;> assumption) | (simp; done) | (simp; omega) | (simp [*]; done) | ((repeat' refine And.intro ?_ ?_) <;> first | omega | assumption | (refine SlOk.so (n := ?_) ?_ ?_; rotate_left; assumption; omega) | (simp; done) | fail) | fail) ?_)
  rw [shl64' x k hk, shr64, or64]; rfl
/-- Where a walk of 24 steps comes to. -/
def spot : Nat → Nat × Nat
  | 0 => (1, 0)
  | t + 1 => ((spot t).2, (2 * (spot t).1 + 3 * (spot t).2) % 5)
def turnF : Nat → (Nat → Int)
  | 0 => fun _ => 0
  | t + 1 => setF (turnF t) ((spot t).1 + 5 * (spot t).2) ((t + 1) * (t + 2) / 2 % 64 : Nat)
theorem spot_lt : ∀ t, (spot t).1 < 5 ∧ (spot t).2 < 5
  | 0 => by decide
  | t + 1 => by have := spot_lt t; simp only [spot]; omega
theorem offsets_p : Pure Try.prog 75 [] (.agg (ints .i64 (turnF 24) 25)) := by
  refine pure_p (args := []) en75 (by simp [closed, closeds, closed_wE, closeds_ints]) Try.func75 rfl in75 (by simp [Try.f75]) (by simp [closeds, closed, closed_wE, closeds_ints]) (fun w => next_of 1000 ?_)
  simp (maxSteps := 4000000) (disch := omega) only [go_sem, Nat.reduceBEq, Nat.reduceAdd, Nat.reduceMul, Nat.reduceSub, Nat.reduceLT, Nat.reduceLeDiff, Int.reduceToNat, Int.reduceLT, Int.reduceLE, Int.reduceAdd, Int.reduceMul, Int.reduceSub, Int.reduceNeg, Int.reduceDiv, Int.reduceMod, Nat.reduceBNe, Nat.reduceGT, Int.reduceBEq, Int.reduceBNe, Int.reduceGT, Nat.reduceDiv, Nat.reduceMod, Nat.reducePow, Int.reducePow, gt_iff_lt, ge_iff_le, List.reduceReplicate, ↓reduceIte, Try.f75]
  repeat (with_reducible refine And.intro (by first | omega | assumption | (constructor <;> assumption) | (simp; done) | (simp; omega) | (simp [*]; done) | ((repeat' refine And.intro ?_ ?_) <;> first | omega | assumption | (refine SlOk.so (n := ?_) ?_ ?_; rotate_left; assumption; omega) | (simp; done) | fail) | fail) ?_)
  refine loopU (S := Nat) (fun t => t ≤ 24)
    (fun t => ⟨[(5, .int .i64 (t : Nat)), (3, .int .i64 ((spot t).2 : Nat)), (2, .int .i64 ((spot t).1 : Nat)), (1, .ptr 1 0), (0, .ptr 0 0)], 2, [(1, some (.cells (ints .i64 (turnF t) 25) 135 (0, 0))), (0, some (.cells (ints .i64 (fun _ => 0) 25) 135 (0, 0)))], base w, []⟩)
    (fun t => 24 - t) 0 (by omega) (Weak.sub (weak_of (by simp [wσ, go_sem, closed, closeds, spot, turnF, closeds_ints]) (by simp [whs, go_sem, EObj.closed, closed, closeds, spot, turnF, closeds_ints]) (by simp [*]) rfl rfl (by simp))) ?_
  intro t ht
  obtain ⟨s1, s2⟩ := spot_lt t
  refine next_of 1000 ?_
  simp (maxSteps := 4000000) (disch := omega) only [go_sem, Nat.reduceBEq, Nat.reduceAdd, Nat.reduceMul, Nat.reduceSub, Nat.reduceLT, Nat.reduceLeDiff, Int.reduceToNat, Int.reduceLT, Int.reduceLE, Int.reduceAdd, Int.reduceMul, Int.reduceSub, Int.reduceNeg, Int.reduceDiv, Int.reduceMod, Nat.reduceBNe, Nat.reduceGT, Int.reduceBEq, Int.reduceBNe, Int.reduceGT, Nat.reduceDiv, Nat.reduceMod, Nat.reducePow, Int.reducePow, gt_iff_lt, ge_iff_le, List.reduceReplicate, ↓reduceIte]
  repeat (with_reducible refine And.intro (by first | omega | assumption | (constructor <;> assumption) | (simp; done) | (simp; omega) | (simp [*]; done) | ((repeat' refine And.intro ?_ ?_) <;> first | omega | assumption | (refine SlOk.so (n := ?_) ?_ ?_; rotate_left; assumption; omega) | (simp; done) | fail) | fail) ?_)
  refine condS_split (fun h1 => ?_) (fun h1 => ?_)
  all_goals (try simp only [bne_iff_ne, ne_eq, beq_iff_eq, decide_eq_true_eq, decide_eq_false_iff_not, Bool.not_eq_true, Bool.not_eq_false, Bool.not_true, Bool.not_false, bne_eq_false_iff_eq, beq_eq_false_iff_ne, Bool.and_eq_true, Bool.or_eq_true, Bool.and_eq_false_imp, Bool.or_eq_false_iff, Bool.not_eq_true', Bool.not_eq_false', Int.not_lt, Int.not_le] at h1)
  · have e1 : ((((t : Int) + 1) * ((t : Int) + 2)) / 2 % 64) = (((t + 1) * (t + 2) / 2 % 64 : Nat) : Int) := by push_cast; rfl
    have e2 : 0 ≤ ((t : Int) + 1) * ((t : Int) + 2) ∧ ((t : Int) + 1) * ((t : Int) + 2) < 1000 := ⟨Int.mul_nonneg (by omega) (by omega), by
      have : ((t : Int) + 1) * ((t : Int) + 2) ≤ 24 * 25 := Int.mul_le_mul (by omega) (by omega) (by omega) (by omega)
      omega⟩
    have e3 : ((spot t).1 + 5 * (spot t).2 : Int).toNat = (spot t).1 + 5 * (spot t).2 := by omega
    repeat' (first | with_reducible refine And.intro (by first | omega | assumption | (constructor <;> assumption) | (simp; done) | (simp; omega) | (simp [*]; done) | ((repeat' refine And.intro ?_ ?_) <;> first | omega | assumption | (refine SlOk.so (n := ?_) ?_ ?_; rotate_left; assumption; omega) | (simp; done) | fail) | fail) ?_ | simp (maxSteps := 4000000) (disch := omega) only [go_sem, Nat.reduceBEq, Nat.reduceAdd, Nat.reduceMul, Nat.reduceSub, Nat.reduceLT, Nat.reduceLeDiff, Int.reduceToNat, Int.reduceLT, Int.reduceLE, Int.reduceAdd, Int.reduceMul, Int.reduceSub, Int.reduceNeg, Int.reduceDiv, Int.reduceMod, Nat.reduceBNe, Nat.reduceGT, Int.reduceBEq, Int.reduceBNe, Int.reduceGT, Nat.reduceDiv, Nat.reduceMod, Nat.reducePow, Int.reducePow, gt_iff_lt, ge_iff_le, List.reduceReplicate, ↓reduceIte, e1, e3, wrap_i64 (show -9223372036854775808 ≤ ((t : Int) + 1) * ((t : Int) + 2) by omega) (by omega), tdiv_nn e2.1])
    exact ⟨t + 1, by omega, Weak.sub (weak_of (by simp [wσ, go_sem, closed, closeds, lE_closed, spot, turnF, closeds_ints] <;> omega) (by simp [whs, Go.Ew.hget, go_sem, EObj.closed, closed, closeds, lE_closed, spot, turnF, closeds_ints]) (by simp [*]) rfl rfl (by simp)), by omega⟩
  · obtain rfl : t = 24 := by omega
    simp (maxSteps := 4000000) (disch := omega) only [go_sem, Nat.reduceBEq, Nat.reduceAdd, Nat.reduceMul, Nat.reduceSub, Nat.reduceLT, Nat.reduceLeDiff, Int.reduceToNat, Int.reduceLT, Int.reduceLE, Int.reduceAdd, Int.reduceMul, Int.reduceSub, Int.reduceNeg, Int.reduceDiv, Int.reduceMod, Nat.reduceBNe, Nat.reduceGT, Int.reduceBEq, Int.reduceBNe, Int.reduceGT, Nat.reduceDiv, Nat.reduceMod, Nat.reducePow, Int.reducePow, gt_iff_lt, ge_iff_le, List.reduceReplicate, ↓reduceIte]
    repeat (with_reducible refine And.intro (by first | omega | assumption | (constructor <;> assumption) | (simp; done) | (simp; omega) | (simp [*]; done) | ((repeat' refine And.intro ?_ ?_) <;> first | omega | assumption | (refine SlOk.so (n := ?_) ?_ ?_; rotate_left; assumption; omega) | (simp; done) | fail) | fail) ?_)
    refine next_of 1000 ?_
    simp (maxSteps := 4000000) (disch := omega) only [go_sem, Nat.reduceBEq, Nat.reduceAdd, Nat.reduceMul, Nat.reduceSub, Nat.reduceLT, Nat.reduceLeDiff, Int.reduceToNat, Int.reduceLT, Int.reduceLE, Int.reduceAdd, Int.reduceMul, Int.reduceSub, Int.reduceNeg, Int.reduceDiv, Int.reduceMod, Nat.reduceBNe, Nat.reduceGT, Int.reduceBEq, Int.reduceBNe, Int.reduceGT, Nat.reduceDiv, Nat.reduceMod, Nat.reducePow, Int.reducePow, gt_iff_lt, ge_iff_le, List.reduceReplicate, ↓reduceIte]
    repeat (with_reducible refine And.intro (by first | omega | assumption | (constructor <;> assumption) | (simp; done) | (simp; omega) | (simp [*]; done) | ((repeat' refine And.intro ?_ ?_) <;> first | omega | assumption | (refine SlOk.so (n := ?_) ?_ ?_; rotate_left; assumption; omega) | (simp; done) | fail) | fail) ?_)
end Go.Proofs.Ytepabkjfnpaijaa

