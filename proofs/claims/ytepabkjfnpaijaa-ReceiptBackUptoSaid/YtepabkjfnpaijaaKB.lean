/- Part of a proof over the seat Ytepabkjfnpaijaa. -/
import Derived.Test.YtepabkjfnpaijaaKA
namespace Go.Proofs.Ytepabkjfnpaijaa
open Go RowKit Go.Ew
set_option maxRecDepth 100000
set_option linter.unusedSimpArgs false
set_option linter.unusedVariables false
set_option maxHeartbeats 1000000
theorem xor_i64 {a b : Nat} (ha : a < 4611686018427387904) (hb : b < 4611686018427387904) : bXor .i64 (a : Int) (b : Int) = ((a ^^^ b : Nat) : Int) := by
  have h : a ^^^ b < 2 ^ 62 := Nat.xor_lt_two_pow (by omega) (by omega)
  show IntKind.i64.wrap ((BitVec.ofInt 64 (a : Int) ^^^ BitVec.ofInt 64 (b : Int)).toNat : Int) = _
  rw [BitVec.ofInt_natCast, BitVec.ofInt_natCast, BitVec.toNat_xor, BitVec.toNat_ofNat, BitVec.toNat_ofNat, Nat.mod_eq_of_lt (by omega), Nat.mod_eq_of_lt (by omega), wrap_i64 (by omega) (by omega)]
theorem and_i64_1 {a : Nat} (ha : a < 4611686018427387904) : bAnd .i64 (a : Int) 1 = (a : Int) % 2 := by
  show IntKind.i64.wrap ((BitVec.ofInt 64 (a : Int) &&& BitVec.ofInt 64 ((1 : Nat) : Int)).toNat : Int) = _
  rw [BitVec.ofInt_natCast, BitVec.ofInt_natCast, BitVec.toNat_and, BitVec.toNat_ofNat, BitVec.toNat_ofNat, Nat.mod_eq_of_lt (by omega), Nat.mod_eq_of_lt (by omega)]
  rw [show (1 : Nat) = 2 ^ 1 - 1 from rfl, Nat.and_two_pow_sub_one_eq_mod, wrap_i64 (by omega) (by omega)]
  omega
theorem shl_i64_1 {a : Nat} (ha : a < 2305843009213693952) : bShl .i64 (a : Int) 1 = ((2 * a : Nat) : Int) := by
  show IntKind.i64.wrap ((a : Int) * 2 ^ (min (1 : Int).toNat 64)) = _
  rw [show (2 : Int) ^ (min (1 : Int).toNat 64) = 2 from rfl, wrap_i64 (by omega) (by omega)]; omega
/-- The register behind t steps. -/
def rg : Nat → Nat
  | 0 => 1
  | t + 1 => if 256 ≤ 2 * rg t then (2 * rg t) ^^^ 369 else 2 * rg t
theorem rg_all : (List.range 169).all (fun t => decide (rg t < 256)) = true := by decide +kernel
theorem rg_lt {t : Nat} (h : t ≤ 168) : rg t < 256 := by
  have := List.all_eq_true.1 rg_all t (List.mem_range.2 (by omega))
  simpa using this
def setL (f : Nat → L64) (i : Nat) (v : L64) : Nat → L64 := fun j => if j = i then v else f j
/-- Lanes as numbers. -/
def fL (f : Nat → L64) : Nat → Int := fun i => n64 (f i)
theorem fL_set (f : Nat → L64) (i : Nat) (v : L64) : setF (fL f) i (n64 v) = fL (setL f i v) := by
  funext j; simp only [setF, fL, setL]; split <;> rfl
/-- The rounds' constants behind t steps. -/
def rcF : Nat → (Nat → L64)
  | 0 => fun _ => 0
  | t + 1 => if rg t % 2 = 1 then setL (rcF t) (t / 7) (rcF t (t / 7) ||| (1#64 <<< (2 ^ (t % 7) - 1))) else rcF t
theorem pow7 {q : Nat} (h : q < 7) : (1 : Int) * (2 : Int) ^ q % 18446744073709551616 - 1 = ((2 ^ q - 1 : Nat) : Int) ∧ 2 ^ q - 1 < 64 := by
  have : q = 0 ∨ q = 1 ∨ q = 2 ∨ q = 3 ∨ q = 4 ∨ q = 5 ∨ q = 6 := by omega
  rcases this with rfl | rfl | rfl | rfl | rfl | rfl | rfl <;> exact ⟨by decide, by decide⟩
theorem pow7' {q : Nat} (h : q < 7) : n64 (1#64 <<< q) - 1 = ((2 ^ q - 1 : Nat) : Int) := by
  have : q = 0 ∨ q = 1 ∨ q = 2 ∨ q = 3 ∨ q = 4 ∨ q = 5 ∨ q = 6 := by omega
  rcases this with rfl | rfl | rfl | rfl | rfl | rfl | rfl <;> decide
theorem fL_ap (f : Nat → L64) (i : Nat) : fL f i = n64 (f i) := rfl
theorem fL0 : fL (fun _ => 0#64) = fun _ => 0 := rfl
theorem constants_p : Pure Try.prog 76 [] (.agg (ints .u64 (fL (rcF 168)) 24)) := by
  refine pure_p (args := []) en76 (by simp [closed, closeds, closed_wE, closeds_ints]) Try.func76 rfl in76 (by simp [Try.f76]) (by simp [closeds, closed, closed_wE, closeds_ints]) (fun w => next_of 1000 ?_)
  simp (maxSteps := 4000000) (disch := omega) only [go_sem, Nat.reduceBEq, Nat.reduceAdd, Nat.reduceMul, Nat.reduceSub, Nat.reduceLT, Nat.reduceLeDiff, Int.reduceToNat, Int.reduceLT, Int.reduceLE, Int.reduceAdd, Int.reduceMul, Int.reduceSub, Int.reduceNeg, Int.reduceDiv, Int.reduceMod, Nat.reduceBNe, Nat.reduceGT, Int.reduceBEq, Int.reduceBNe, Int.reduceGT, Nat.reduceDiv, Nat.reduceMod, Nat.reducePow, Int.reducePow, gt_iff_lt, ge_iff_le, List.reduceReplicate, ↓reduceIte, Try.f76]
  repeat (with_reducible refine And.intro (by first | omega | assumption | (constructor <;> assumption) | (simp; done) | (simp; omega) | (simp [*]; done) | ((repeat' refine And.intro ?_ ?_) <;> first | omega | assumption | (refine SlOk.so (n := ?_) ?_ ?_; rotate_left; assumption; omega) | (simp; done) | fail) | fail) ?_)
  refine loopU (S := Nat) (fun t => t ≤ 168)
    (fun t => ⟨[(4, .int .i64 (t : Nat)), (2, .int .i64 (rg t : Nat)), (1, .ptr 1 0), (0, .ptr 0 0)], 2, [(1, some (.cells (ints .u64 (fL (rcF t)) 24) 137 (0, 0))), (0, some (.cells (ints .u64 (fun _ => 0) 24) 137 (0, 0)))], base w, []⟩)
    (fun t => 168 - t) 0 (by omega) (Weak.sub (weak_of (by simp [wσ, go_sem, closed, closeds, rg, rcF, fL0, closeds_ints]) (by simp [whs, go_sem, EObj.closed, closed, closeds, rg, rcF, fL0, closeds_ints]) (by simp [*]) rfl rfl (by simp))) ?_
  intro t ht
  have hr := rg_lt ht
  have hr1 : rg (t + 1) = if 256 ≤ 2 * rg t then (2 * rg t) ^^^ 369 else 2 * rg t := rfl
  have hx : (2 * rg t) ^^^ 369 < 2 ^ 9 := Nat.xor_lt_two_pow (by omega) (by omega)
  have hc1 : rcF (t + 1) = if rg t % 2 = 1 then setL (rcF t) (t / 7) (rcF t (t / 7) ||| (1#64 <<< (2 ^ (t % 7) - 1))) else rcF t := rfl
  obtain ⟨p1, p2⟩ := pow7 (show t % 7 < 7 by omega)
  refine next_of 1000 ?_
  simp (maxSteps := 4000000) (disch := omega) only [go_sem, Nat.reduceBEq, Nat.reduceAdd, Nat.reduceMul, Nat.reduceSub, Nat.reduceLT, Nat.reduceLeDiff, Int.reduceToNat, Int.reduceLT, Int.reduceLE, Int.reduceAdd, Int.reduceMul, Int.reduceSub, Int.reduceNeg, Int.reduceDiv, Int.reduceMod, Nat.reduceBNe, Nat.reduceGT, Int.reduceBEq, Int.reduceBNe, Int.reduceGT, Nat.reduceDiv, Nat.reduceMod, Nat.reducePow, Int.reducePow, gt_iff_lt, ge_iff_le, List.reduceReplicate, ↓reduceIte, and_i64_1 (show rg t < 4611686018427387904 by omega)]
  repeat (with_reducible refine And.intro (by first | omega | assumption | (constructor <;> assumption) | (simp; done) | (simp; omega) | (simp [*]; done) | ((repeat' refine And.intro ?_ ?_) <;> first | omega | assumption | (refine SlOk.so (n := ?_) ?_ ?_; rotate_left; assumption; omega) | (simp; done) | fail) | fail) ?_)
  refine condS_split (fun h1 => ?_) (fun h1 => ?_)
  all_goals (try simp only [bne_iff_ne, ne_eq, beq_iff_eq, decide_eq_true_eq, decide_eq_false_iff_not, Bool.not_eq_true, Bool.not_eq_false, Bool.not_true, Bool.not_false, bne_eq_false_iff_eq, beq_eq_false_iff_ne, Bool.and_eq_true, Bool.or_eq_true, Bool.and_eq_false_imp, Bool.or_eq_false_iff, Bool.not_eq_true', Bool.not_eq_false', Int.not_lt, Int.not_le] at h1)
  · have e7 : (t : Int) % 7 = ((t % 7 : Nat) : Int) := by omega
    have e8 : ((t : Int) / 7).toNat = t / 7 := by omega
    have es : ∀ k : Nat, bShl .u64 1 (k : Int) = n64 (1#64 <<< k) := fun k => shl64 1#64 k
    have p3 : (1 : Int) * (2 : Int) ^ (t % 7) % 18446744073709551616 = ((2 ^ (t % 7) - 1 : Nat) : Int) + 1 := by omega
    have e9 := shl_i64_1 (show rg t < 2305843009213693952 by omega)
    have ex : bXor .i64 ((2 * rg t : Nat) : Int) 369 = (((2 * rg t) ^^^ 369 : Nat) : Int) := xor_i64 (a := 2 * rg t) (b := 369) (by omega) (by decide)
    simp (maxSteps := 4000000) (disch := omega) only [go_sem, Nat.reduceBEq, Nat.reduceAdd, Nat.reduceMul, Nat.reduceSub, Nat.reduceLT, Nat.reduceLeDiff, Int.reduceToNat, Int.reduceLT, Int.reduceLE, Int.reduceAdd, Int.reduceMul, Int.reduceSub, Int.reduceNeg, Int.reduceDiv, Int.reduceMod, Nat.reduceBNe, Nat.reduceGT, Int.reduceBEq, Int.reduceBNe, Int.reduceGT, Nat.reduceDiv, Nat.reduceMod, Nat.reducePow, Int.reducePow, gt_iff_lt, ge_iff_le, List.reduceReplicate, ↓reduceIte, and_i64_1 (show rg t < 4611686018427387904 by omega)]
    repeat (with_reducible refine And.intro (by first | omega | assumption | (constructor <;> assumption) | (simp; done) | (simp; omega) | (simp [*]; done) | ((repeat' refine And.intro ?_ ?_) <;> first | omega | assumption | (refine SlOk.so (n := ?_) ?_ ?_; rotate_left; assumption; omega) | (simp; done) | fail) | fail) ?_)
    refine condS_split (fun h2 => ?_) (fun h2 => ?_)
    all_goals (try simp only [bne_iff_ne, ne_eq, beq_iff_eq, decide_eq_true_eq, decide_eq_false_iff_not, Bool.not_eq_true, Bool.not_eq_false, Bool.not_true, Bool.not_false, bne_eq_false_iff_eq, beq_eq_false_iff_ne, Bool.and_eq_true, Bool.or_eq_true, Bool.and_eq_false_imp, Bool.or_eq_false_iff, Bool.not_eq_true', Bool.not_eq_false', Int.not_lt, Int.not_le] at h2)
    · rw [if_pos (by omega)] at hc1
      repeat' (first | with_reducible refine And.intro (by first | omega | assumption | (constructor <;> assumption) | (simp; done) | (simp; omega) | (simp [*]; done) | ((repeat' refine And.intro ?_ ?_) <;> first | omega | assumption | (refine SlOk.so (n := ?_) ?_ ?_; rotate_left; assumption; omega) | (simp; done) | fail) | fail) ?_ | simp (maxSteps := 4000000) (disch := omega) only [go_sem, Nat.reduceBEq, Nat.reduceAdd, Nat.reduceMul, Nat.reduceSub, Nat.reduceLT, Nat.reduceLeDiff, Int.reduceToNat, Int.reduceLT, Int.reduceLE, Int.reduceAdd, Int.reduceMul, Int.reduceSub, Int.reduceNeg, Int.reduceDiv, Int.reduceMod, Nat.reduceBNe, Nat.reduceGT, Int.reduceBEq, Int.reduceBNe, Int.reduceGT, Nat.reduceDiv, Nat.reduceMod, Nat.reducePow, Int.reducePow, gt_iff_lt, ge_iff_le, List.reduceReplicate, ↓reduceIte, and_i64_1 (show rg t < 4611686018427387904 by omega), e7, e8, e9, ex, es, p1, pow7' (show t % 7 < 7 by omega), Int.toNat_natCast, fL_ap, or64, fL_set] | with_reducible refine drawS_of mixed (by kernel_rfl) (dg_of 1000 ?_) | with_reducible refine endD_of (by kernel_rfl) (next_of 1000 ?_) | ((first | refine condS_split (fun h => ?_) (fun h => ?_) | refine testS_split (fun h => ?_) (fun h => ?_) | refine testD_split (fun h => ?_) (fun h => ?_)) <;> (try simp only [bne_iff_ne, ne_eq, beq_iff_eq, decide_eq_true_eq, decide_eq_false_iff_not, Bool.not_eq_true, Bool.not_eq_false, Bool.not_true, Bool.not_false, bne_eq_false_iff_eq, beq_eq_false_iff_ne, Bool.and_eq_true, Bool.or_eq_true, Bool.and_eq_false_imp, Bool.or_eq_false_iff, Bool.not_eq_true', Bool.not_eq_false', Int.not_lt, Int.not_le] at h) <;> (try (exfalso; omega))))
      · rw [if_pos (by omega)] at hr1
        exact ⟨t + 1, by omega, Weak.sub (weak_of (by simp [wσ, go_sem, closed, closeds, lE_closed, hr1, hc1, closeds_ints] <;> omega) (by simp [whs, Go.Ew.hget, go_sem, EObj.closed, closed, closeds, lE_closed, hr1, hc1, closeds_ints]) (by simp [*]) rfl rfl (by simp)), by omega⟩
      · rw [if_neg (by omega)] at hr1
        exact ⟨t + 1, by omega, Weak.sub (weak_of (by simp [wσ, go_sem, closed, closeds, lE_closed, hr1, hc1, closeds_ints] <;> omega) (by simp [whs, Go.Ew.hget, go_sem, EObj.closed, closed, closeds, lE_closed, hr1, hc1, closeds_ints]) (by simp [*]) rfl rfl (by simp)), by omega⟩
    · rw [if_neg (by omega)] at hc1
      repeat' (first | simp (maxSteps := 4000000) (disch := omega) only [go_sem, Nat.reduceBEq, Nat.reduceAdd, Nat.reduceMul, Nat.reduceSub, Nat.reduceLT, Nat.reduceLeDiff, Int.reduceToNat, Int.reduceLT, Int.reduceLE, Int.reduceAdd, Int.reduceMul, Int.reduceSub, Int.reduceNeg, Int.reduceDiv, Int.reduceMod, Nat.reduceBNe, Nat.reduceGT, Int.reduceBEq, Int.reduceBNe, Int.reduceGT, Nat.reduceDiv, Nat.reduceMod, Nat.reducePow, Int.reducePow, gt_iff_lt, ge_iff_le, List.reduceReplicate, ↓reduceIte, e9, ex] | ((first | refine condS_split (fun h => ?_) (fun h => ?_) | refine testS_split (fun h => ?_) (fun h => ?_) | refine testD_split (fun h => ?_) (fun h => ?_)) <;> (try simp only [bne_iff_ne, ne_eq, beq_iff_eq, decide_eq_true_eq, decide_eq_false_iff_not, Bool.not_eq_true, Bool.not_eq_false, Bool.not_true, Bool.not_false, bne_eq_false_iff_eq, beq_eq_false_iff_ne, Bool.and_eq_true, Bool.or_eq_true, Bool.and_eq_false_imp, Bool.or_eq_false_iff, Bool.not_eq_true', Bool.not_eq_false', Int.not_lt, Int.not_le] at h) <;> (try (exfalso; omega))))
      · rw [if_pos (by omega)] at hr1
        exact ⟨t + 1, by omega, Weak.sub (weak_of (by simp [wσ, go_sem, closed, closeds, lE_closed, hr1, hc1, closeds_ints] <;> omega) (by simp [whs, Go.Ew.hget, go_sem, EObj.closed, closed, closeds, lE_closed, hr1, hc1, closeds_ints]) (by simp [*]) rfl rfl (by simp)), by omega⟩
      · rw [if_neg (by omega)] at hr1
        exact ⟨t + 1, by omega, Weak.sub (weak_of (by simp [wσ, go_sem, closed, closeds, lE_closed, hr1, hc1, closeds_ints] <;> omega) (by simp [whs, Go.Ew.hget, go_sem, EObj.closed, closed, closeds, lE_closed, hr1, hc1, closeds_ints]) (by simp [*]) rfl rfl (by simp)), by omega⟩
  · obtain rfl : t = 168 := by omega
    simp (maxSteps := 4000000) (disch := omega) only [go_sem, Nat.reduceBEq, Nat.reduceAdd, Nat.reduceMul, Nat.reduceSub, Nat.reduceLT, Nat.reduceLeDiff, Int.reduceToNat, Int.reduceLT, Int.reduceLE, Int.reduceAdd, Int.reduceMul, Int.reduceSub, Int.reduceNeg, Int.reduceDiv, Int.reduceMod, Nat.reduceBNe, Nat.reduceGT, Int.reduceBEq, Int.reduceBNe, Int.reduceGT, Nat.reduceDiv, Nat.reduceMod, Nat.reducePow, Int.reducePow, gt_iff_lt, ge_iff_le, List.reduceReplicate, ↓reduceIte]
    repeat (with_reducible refine And.intro (by first | omega | assumption | (constructor <;> assumption) | (simp; done) | (simp; omega) | (simp [*]; done) | ((repeat' refine And.intro ?_ ?_) <;> first | omega | assumption | (refine SlOk.so (n := ?_) ?_ ?_; rotate_left; assumption; omega) | (simp; done) | fail) | fail) ?_)
    refine next_of 1000 ?_
    simp (maxSteps := 4000000) (disch := omega) only [go_sem, Nat.reduceBEq, Nat.reduceAdd, Nat.reduceMul, Nat.reduceSub, Nat.reduceLT, Nat.reduceLeDiff, Int.reduceToNat, Int.reduceLT, Int.reduceLE, Int.reduceAdd, Int.reduceMul, Int.reduceSub, Int.reduceNeg, Int.reduceDiv, Int.reduceMod, Nat.reduceBNe, Nat.reduceGT, Int.reduceBEq, Int.reduceBNe, Int.reduceGT, Nat.reduceDiv, Nat.reduceMod, Nat.reducePow, Int.reducePow, gt_iff_lt, ge_iff_le, List.reduceReplicate, ↓reduceIte]
    repeat (with_reducible refine And.intro (by first | omega | assumption | (constructor <;> assumption) | (simp; done) | (simp; omega) | (simp [*]; done) | ((repeat' refine And.intro ?_ ?_) <;> first | omega | assumption | (refine SlOk.so (n := ?_) ?_ ?_; rotate_left; assumption; omega) | (simp; done) | fail) | fail) ?_)
end Go.Proofs.Ytepabkjfnpaijaa

