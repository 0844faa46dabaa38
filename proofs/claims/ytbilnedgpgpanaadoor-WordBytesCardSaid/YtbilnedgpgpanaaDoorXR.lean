/- Part of a proof over the seat YtbilnedgpgpanaaDoor. -/
import Derived.Test.YtbilnedgpgpanaaDoorXM
import Derived.Test.YtbilnedgpgpanaaDoorWP
namespace Go.Proofs.YtbilnedgpgpanaaDoor
open Go RowKit Go.Ew
set_option maxRecDepth 100000
set_option linter.unusedSimpArgs false
set_option linter.unusedVariables false
set_option maxHeartbeats 1000000
theorem in102 : codeIn Tryd.f102.ntmps (Tryd.f102.body.getD .skip) = true := by kernel_rfl
theorem in103 : codeIn Tryd.f103.ntmps (Tryd.f103.body.getD .skip) = true := by kernel_rfl
theorem in100 : codeIn Tryd.f100.ntmps (Tryd.f100.body.getD .skip) = true := by kernel_rfl
theorem in101 : codeIn Tryd.f101.ntmps (Tryd.f101.body.getD .skip) = true := by kernel_rfl
/-- A number out of its bits, the lowest first. -/
def bsum (f : Nat → Nat) : Nat → Nat
  | 0 => 0
  | i + 1 => bsum f i + f i * 2 ^ i
theorem bsum_lt {f : Nat → Nat} (h : ∀ j, f j ≤ 1) : ∀ i, bsum f i < 2 ^ i
  | 0 => by simp [bsum]
  | i + 1 => by
    have h1 := bsum_lt h i
    have h2 : f i * 2 ^ i ≤ 1 * 2 ^ i := Nat.mul_le_mul_right _ (h i)
    rw [bsum, Nat.pow_succ]; omega
theorem bsum_of (N : Nat) : ∀ i, bsum (fun j => N / 2 ^ j % 2) i = N % 2 ^ i
  | 0 => by simp [bsum, Nat.mod_one]
  | i + 1 => by rw [bsum, bsum_of N i, Nat.pow_succ, Nat.mod_mul, Nat.mul_comm]
theorem bsum_congr {f g : Nat → Nat} : ∀ {i : Nat}, (∀ j, j < i → f j = g j) → bsum f i = bsum g i
  | 0, _ => rfl
  | i + 1, h => by rw [bsum, bsum, bsum_congr (fun j hj => h j (by omega)), h i (by omega)]
theorem bsum_word {f : Nat → Nat} {N : Nat} (hN : N < 115792089237316195423570985008687907853269984665640564039457584007913129639936) (h : ∀ j, j < 256 → f j = N / 2 ^ j % 2) : bsum f 256 = N := by
  rw [bsum_congr h, bsum_of, Nat.mod_eq_of_lt (Nat.lt_of_lt_of_le hN (by decide))]
theorem bit_le (N j : Nat) : N / 2 ^ j % 2 ≤ 1 := by omega
theorem two_le63 {s : Nat} (h : s ≤ 63) : 2 ^ s ≤ 9223372036854775808 := Nat.le_trans (Nat.pow_le_pow_right (by omega) h) (by decide)
theorem set_dig {o b i : Nat} (ho : o < 2 ^ i) (hb : b ≤ 1) (q : Nat) :
    dig 18446744073709551616 (o + b * 2 ^ i) q = if q = i / 64 then dig 18446744073709551616 o q + (b : Int) * 2 ^ (i % 64) else dig 18446744073709551616 o q := by
  have e : (18446744073709551616 : Nat) = 2 ^ 64 := by decide
  have ei : 2 ^ i = 18446744073709551616 ^ (i / 64) * 2 ^ (i % 64) := by rw [e, ← Nat.pow_mul, ← Nat.pow_add]; congr 1; omega
  rw [ei] at ho ⊢
  obtain ⟨s, hs⟩ : ∃ s, s = i % 64 := ⟨_, rfl⟩
  have h2 := two_le63 (s := s) (by omega)
  rw [← hs] at ho ⊢
  generalize i / 64 = q0 at *
  have hP : 0 < 18446744073709551616 ^ q0 := Nat.pow_pos (by omega)
  split
  · rename_i hq; subst hq
    have a1 : o / 18446744073709551616 ^ q < 2 ^ s := Nat.div_lt_of_lt_mul ho
    have a2 : (o + b * (18446744073709551616 ^ q * 2 ^ s)) / 18446744073709551616 ^ q = o / 18446744073709551616 ^ q + b * 2 ^ s := by
      rw [show b * (18446744073709551616 ^ q * 2 ^ s) = 18446744073709551616 ^ q * (b * 2 ^ s) by rw [Nat.mul_left_comm], Nat.add_mul_div_left _ _ hP]
    have a3 : b * 2 ^ s ≤ 1 * 2 ^ s := Nat.mul_le_mul_right _ hb
    have a4 : (b : Int) * 2 ^ s = ((b * 2 ^ s : Nat) : Int) := by simp
    rw [dig, dig, a2, a4]
    generalize o / 18446744073709551616 ^ q = N1 at *
    generalize b * 2 ^ s = K at *
    have b1 : (N1 + K) % 18446744073709551616 = N1 + K := Nat.mod_eq_of_lt (by omega)
    have b2 : N1 % 18446744073709551616 = N1 := Nat.mod_eq_of_lt (by omega)
    rw [b1, b2]; omega
  · rename_i hne
    rcases Nat.lt_or_ge q q0 with h | h
    · obtain ⟨d, hd⟩ : ∃ d, q0 = q + 1 + d := ⟨q0 - q - 1, by omega⟩
      have hQ : 0 < 18446744073709551616 ^ q := Nat.pow_pos (by omega)
      have e : b * (18446744073709551616 ^ q0 * 2 ^ s) = 18446744073709551616 ^ q * (18446744073709551616 * (18446744073709551616 ^ d * 2 ^ s * b)) := by
        rw [hd, Nat.pow_add, Nat.pow_succ]; grind
      rw [dig, dig, e, Nat.add_mul_div_left _ _ hQ, Nat.add_mul_mod_self_left]
    · have hlt : q0 + 1 ≤ q := by omega
      have e1 : 18446744073709551616 ^ (q0 + 1) ≤ 18446744073709551616 ^ q := Nat.pow_le_pow_right (by omega) hlt
      have e2 : 18446744073709551616 ^ q0 * 2 ^ s * 2 ≤ 18446744073709551616 ^ (q0 + 1) := by
        rw [Nat.pow_succ, Nat.mul_assoc]; exact Nat.mul_le_mul_left _ (by omega)
      have e3 : b * (18446744073709551616 ^ q0 * 2 ^ s) ≤ 1 * (18446744073709551616 ^ q0 * 2 ^ s) := Nat.mul_le_mul_right _ hb
      rw [dig_big (by omega), dig_big (by omega)]
theorem rbit_p (x i : Nat) (hx : x < 115792089237316195423570985008687907853269984665640564039457584007913129639936) (hi : i < 256) : Pure Tryd.prog 103 [wE x, .int .i64 (i : Nat)] (.int .u64 ((x / 2 ^ i % 2 : Nat) : Int)) := by
  have e1 : ((i : Int) / 64).toNat = i / 64 := by omega
  have e2 : ((i : Int) % 64).toNat = i % 64 := by omega
  have h0 := bd64 x (i / 64)
  have hb := bit_of x i hi
  rw [wE_ints x]
  refine pure_p (args := [.agg (ints .u64 (dig 18446744073709551616 x) 4), .int .i64 (i : Nat)]) en103 (by simp [closed, closeds, closed_wE, closeds_ints]) Tryd.func103 rfl in103 (by simp [Tryd.f103]) (by simp [closeds, closed, closed_wE, closeds_ints]) (fun w => next_of 1000 ?_)
  simp (maxSteps := 4000000) (disch := omega) only [go_sem, Nat.reduceBEq, Nat.reduceAdd, Nat.reduceMul, Nat.reduceSub, Nat.reduceLT, Nat.reduceLeDiff, Int.reduceToNat, Int.reduceLT, Int.reduceLE, Int.reduceAdd, Int.reduceMul, Int.reduceSub, Int.reduceNeg, Int.reduceDiv, Int.reduceMod, Nat.reduceBNe, Nat.reduceGT, Int.reduceBEq, Int.reduceBNe, Int.reduceGT, Nat.reduceDiv, Nat.reduceMod, Nat.reducePow, Int.reducePow, gt_iff_lt, ge_iff_le, List.reduceReplicate, ↓reduceIte, Tryd.f103]
  repeat (with_reducible refine And.intro (by first | omega | assumption | (constructor <;> assumption) | (simp; done) | (simp; omega) | (simp [*]; done)) ?_)
  have hp : (0 : Int) ≤ 2 ^ (i % 64) := Int.le_of_lt (Int.pow_pos (by omega))
  repeat' (first
    | with_reducible refine And.intro (by first | omega | assumption | (constructor <;> assumption) | (simp; done) | (simp; omega) | (simp [*]; done)) ?_
    | simp (maxSteps := 4000000) (disch := omega) only [go_sem, Nat.reduceBEq, Nat.reduceAdd, Nat.reduceMul, Nat.reduceSub, Nat.reduceLT, Nat.reduceLeDiff, Int.reduceToNat, Int.reduceLT, Int.reduceLE, Int.reduceAdd, Int.reduceMul, Int.reduceSub, Int.reduceNeg, Int.reduceDiv, Int.reduceMod, Nat.reduceBNe, Nat.reduceGT, Int.reduceBEq, Int.reduceBNe, Int.reduceGT, Nat.reduceDiv, Nat.reduceMod, Nat.reducePow, Int.reducePow, gt_iff_lt, ge_iff_le, List.reduceReplicate, ↓reduceIte, e1, e2]
    | with_reducible refine roundS (next_of 1000 ?_)
    | with_reducible refine drawS_of mixed (by kernel_rfl) (dg_of 1000 ?_)
    | with_reducible refine endD_of (by kernel_rfl) (next_of 1000 ?_)
    | with_reducible refine next_of 1000 ?_
    | ((first | refine condS_split (fun h => ?_) (fun h => ?_) | refine testS_split (fun h => ?_) (fun h => ?_) | refine testD_split (fun h => ?_) (fun h => ?_)) <;> (try simp only [bne_iff_ne, ne_eq, beq_iff_eq, decide_eq_true_eq, decide_eq_false_iff_not, Bool.not_eq_true, Bool.not_eq_false, Bool.not_true, Bool.not_false, bne_eq_false_iff_eq, beq_eq_false_iff_ne, Bool.and_eq_true, Bool.or_eq_true, Bool.and_eq_false_imp, Bool.or_eq_false_iff, Bool.not_eq_true', Bool.not_eq_false', Int.not_lt, Int.not_le] at h) <;> (try (exfalso; omega))))
  rw [Int.tmod_eq_emod_of_nonneg (Int.ediv_nonneg h0.1 hp), hb]
theorem rsetbit_p (o i b : Nat) (ho : o < 2 ^ i) (hi : i < 256) (hb : b ≤ 1) : Pure Tryd.prog 102 [wE o, .int .i64 (i : Nat), .int .u64 (b : Nat)] (wE (o + b * 2 ^ i)) := by
  have e1 : ((i : Int) / 64).toNat = i / 64 := by omega
  have e2 : ((i : Int) % 64).toNat = i % 64 := by omega
  have h0 := bd64 o (i / 64)
  have h1 := bd64 (o + b * 2 ^ i) (i / 64)
  have hs := set_dig ho hb (i / 64)
  rw [if_pos rfl] at hs
  rw [wE_ints o, wE_ints (o + b * 2 ^ i)]
  have h3 : i / 64 ≤ 3 := by omega
  have h4 : (i : Int) / 64 < 4 := by omega
  have h5 : 0 ≤ (i : Int) / 64 := by omega
  have hp : (2 : Int) ^ (i % 64) ≤ 9223372036854775808 := by
    have := two_le63 (s := i % 64) (by omega)
    have e : ((2 ^ (i % 64) : Nat) : Int) = (2 : Int) ^ (i % 64) := by simp
    omega
  have hp0 : (0 : Int) < 2 ^ (i % 64) := Int.pow_pos (by omega)
  have hm : (b : Int) * 2 ^ (i % 64) % 18446744073709551616 = (b : Int) * 2 ^ (i % 64) := by
    have : b = 0 ∨ b = 1 := by omega
    rcases this with rfl | rfl
    · simp
    · simp only [Int.natCast_one, Int.one_mul]
      exact Int.emod_eq_of_lt (by omega) (by omega)
  have hset : setF (dig 18446744073709551616 o) (i / 64) (dig 18446744073709551616 (o + b * 2 ^ i) (i / 64)) = dig 18446744073709551616 (o + b * 2 ^ i) := by
    funext q
    simp only [setF]
    split
    · rename_i h; rw [h]
    · rename_i h; rw [set_dig ho hb q, if_neg h]
  obtain ⟨t, ht⟩ : ∃ t : Int, t = 2 ^ (i % 64) := ⟨_, rfl⟩
  rw [← ht] at hs hm
  clear hp hp0
  have ht2 : id ((2 : Int) ^ (i % 64) = t) := ht.symm
  clear ht
  refine pure_p (args := [.agg (ints .u64 (dig 18446744073709551616 o) 4), .int .i64 (i : Nat), .int .u64 (b : Nat)]) en102 (by simp [closed, closeds, closed_wE, closeds_ints]) Tryd.func102 rfl in102 (by simp [Tryd.f102]) (by simp [closeds, closed, closed_wE, closeds_ints]) (fun w => next_of 1000 ?_)
  simp (maxSteps := 4000000) (disch := omega) only [go_sem, Nat.reduceBEq, Nat.reduceAdd, Nat.reduceMul, Nat.reduceSub, Nat.reduceLT, Nat.reduceLeDiff, Int.reduceToNat, Int.reduceLT, Int.reduceLE, Int.reduceAdd, Int.reduceMul, Int.reduceSub, Int.reduceNeg, Int.reduceDiv, Int.reduceMod, Nat.reduceBNe, Nat.reduceGT, Int.reduceBEq, Int.reduceBNe, Int.reduceGT, Nat.reduceDiv, Nat.reduceMod, Nat.reducePow, Int.reducePow, gt_iff_lt, ge_iff_le, List.reduceReplicate, ↓reduceIte, Tryd.f102, e1, e2, show (2 : Int) ^ (i % 64) = t from ht2, hm, ← hs, hset, ← zz4]
  repeat (with_reducible refine And.intro (by first | omega | assumption | (constructor <;> assumption) | (simp; done) | (simp; omega) | (simp [*]; done)) ?_)
  omega
theorem bit32 (n i : Nat) : dig 4294967296 n (i / 32) / 2 ^ (i % 32) % 2 = ((n / 2 ^ i % 2 : Nat) : Int) := by
  have e : (4294967296 : Nat) = 2 ^ 32 := by decide
  have e2 : n / 2 ^ i = n / 2 ^ (32 * (i / 32)) / 2 ^ (i % 32) := by
    rw [Nat.div_div_eq_div_mul, ← Nat.pow_add]; congr 2; omega
  rw [dig, e2, e, ← Nat.pow_mul]
  generalize n / 2 ^ (32 * (i / 32)) = q
  have h3 : 2 ^ 32 = 2 ^ (i % 32) * 2 ^ (32 - i % 32) := by rw [← Nat.pow_add]; congr 1; omega
  have h4 : q % 2 ^ 32 / 2 ^ (i % 32) % 2 = q / 2 ^ (i % 32) % 2 := by
    rw [h3, Nat.mod_mul_right_div_self, show 32 - i % 32 = 1 + (31 - i % 32) by omega, Nat.pow_add, Nat.pow_one, Nat.mod_mul_right_mod]
  rw [← h4]
  simp
theorem rlbit_p (n i : Nat) (hi : i < 544) : Pure Tryd.prog 100 [lE n, .int .i64 (i : Nat)] (.int .u64 ((n / 2 ^ i % 2 : Nat) : Int)) := by
  unfold lE
  have e1 : ((i : Int) / 32).toNat = i / 32 := by omega
  have e2 : ((i : Int) % 32).toNat = i % 32 := by omega
  have h0 := bd32 n (i / 32)
  have hb := bit32 n i
  have hp : (0 : Int) ≤ 2 ^ (i % 32) := Int.le_of_lt (Int.pow_pos (by omega))
  have h17 : i / 32 ≤ 16 := by omega
  refine pure_p (args := [.agg (ints .u64 (dig 4294967296 n) 17), .int .i64 (i : Nat)]) en100 (by simp [closed, closeds, closed_wE, closeds_ints]) Tryd.func100 rfl in100 (by simp [Tryd.f100]) (by simp [closeds, closed, closed_wE, closeds_ints]) (fun w => next_of 1000 ?_)
  simp (maxSteps := 4000000) (disch := omega) only [go_sem, Nat.reduceBEq, Nat.reduceAdd, Nat.reduceMul, Nat.reduceSub, Nat.reduceLT, Nat.reduceLeDiff, Int.reduceToNat, Int.reduceLT, Int.reduceLE, Int.reduceAdd, Int.reduceMul, Int.reduceSub, Int.reduceNeg, Int.reduceDiv, Int.reduceMod, Nat.reduceBNe, Nat.reduceGT, Int.reduceBEq, Int.reduceBNe, Int.reduceGT, Nat.reduceDiv, Nat.reduceMod, Nat.reducePow, Int.reducePow, gt_iff_lt, ge_iff_le, List.reduceReplicate, ↓reduceIte, Tryd.f100, e1, e2]
  repeat (with_reducible refine And.intro (by first | omega | assumption | (constructor <;> assumption) | (simp; done) | (simp; omega) | (simp [*]; done)) ?_)
  repeat' (first
    | with_reducible refine And.intro (by first | omega | assumption | (constructor <;> assumption) | (simp; done) | (simp; omega) | (simp [*]; done)) ?_
    | simp (maxSteps := 4000000) (disch := omega) only [go_sem, Nat.reduceBEq, Nat.reduceAdd, Nat.reduceMul, Nat.reduceSub, Nat.reduceLT, Nat.reduceLeDiff, Int.reduceToNat, Int.reduceLT, Int.reduceLE, Int.reduceAdd, Int.reduceMul, Int.reduceSub, Int.reduceNeg, Int.reduceDiv, Int.reduceMod, Nat.reduceBNe, Nat.reduceGT, Int.reduceBEq, Int.reduceBNe, Int.reduceGT, Nat.reduceDiv, Nat.reduceMod, Nat.reducePow, Int.reducePow, gt_iff_lt, ge_iff_le, List.reduceReplicate, ↓reduceIte, e1, e2]
    | with_reducible refine roundS (next_of 1000 ?_)
    | with_reducible refine drawS_of mixed (by kernel_rfl) (dg_of 1000 ?_)
    | with_reducible refine endD_of (by kernel_rfl) (next_of 1000 ?_)
    | with_reducible refine next_of 1000 ?_
    | ((first | refine condS_split (fun h => ?_) (fun h => ?_) | refine testS_split (fun h => ?_) (fun h => ?_) | refine testD_split (fun h => ?_) (fun h => ?_)) <;> (try simp only [bne_iff_ne, ne_eq, beq_iff_eq, decide_eq_true_eq, decide_eq_false_iff_not, Bool.not_eq_true, Bool.not_eq_false, Bool.not_true, Bool.not_false, bne_eq_false_iff_eq, beq_eq_false_iff_ne, Bool.and_eq_true, Bool.or_eq_true, Bool.and_eq_false_imp, Bool.or_eq_false_iff, Bool.not_eq_true', Bool.not_eq_false', Int.not_lt, Int.not_le] at h) <;> (try (exfalso; omega))))
  rw [Int.tmod_eq_emod_of_nonneg (Int.ediv_nonneg h0.1 hp), hb]
theorem rsmall_p (x L : Nat) (hx : x < 115792089237316195423570985008687907853269984665640564039457584007913129639936) (hL : L < 4611686018427387904) : Pure Tryd.prog 101 [wE x, .int .i64 (L : Nat)] (.int .i64 ((if x < L then x else L : Nat) : Int)) := by
  obtain ⟨a, b, c, d, hw, hl⟩ := wE_open x hx
  rw [hw]
  obtain ⟨a0, a1, b0, b1, c0, c1, d0, d1, v⟩ := hl
  have hr : ((if x < L then x else L : Nat) : Int) = if b = 0 ∧ c = 0 ∧ d = 0 ∧ a < L then a else L := by
    split
    · rw [if_pos (by omega)]; omega
    · rw [if_neg (by omega)]
  rw [hr]
  clear hr
  refine pure_p (args := [.agg [.int .u64 a, .int .u64 b, .int .u64 c, .int .u64 d], .int .i64 (L : Nat)]) en101 (by simp [closed, closeds, closed_wE, closeds_ints]) Tryd.func101 rfl in101 (by simp [Tryd.f101]) (by simp [closeds, closed, closed_wE, closeds_ints]) (fun w => next_of 1000 ?_)
  simp (maxSteps := 4000000) (disch := omega) only [go_sem, Nat.reduceBEq, Nat.reduceAdd, Nat.reduceMul, Nat.reduceSub, Nat.reduceLT, Nat.reduceLeDiff, Int.reduceToNat, Int.reduceLT, Int.reduceLE, Int.reduceAdd, Int.reduceMul, Int.reduceSub, Int.reduceNeg, Int.reduceDiv, Int.reduceMod, Nat.reduceBNe, Nat.reduceGT, Int.reduceBEq, Int.reduceBNe, Int.reduceGT, Nat.reduceDiv, Nat.reduceMod, Nat.reducePow, Int.reducePow, gt_iff_lt, ge_iff_le, List.reduceReplicate, ↓reduceIte, Tryd.f101]
  repeat (with_reducible refine And.intro (by first | omega | assumption | (constructor <;> assumption) | (simp; done) | (simp; omega) | (simp [*]; done)) ?_)
  repeat' (first
    | with_reducible refine And.intro (by first | omega | assumption | (constructor <;> assumption) | (simp; done) | (simp; omega) | (simp [*]; done)) ?_
    | simp (maxSteps := 4000000) (disch := omega) only [go_sem, Nat.reduceBEq, Nat.reduceAdd, Nat.reduceMul, Nat.reduceSub, Nat.reduceLT, Nat.reduceLeDiff, Int.reduceToNat, Int.reduceLT, Int.reduceLE, Int.reduceAdd, Int.reduceMul, Int.reduceSub, Int.reduceNeg, Int.reduceDiv, Int.reduceMod, Nat.reduceBNe, Nat.reduceGT, Int.reduceBEq, Int.reduceBNe, Int.reduceGT, Nat.reduceDiv, Nat.reduceMod, Nat.reducePow, Int.reducePow, gt_iff_lt, ge_iff_le, List.reduceReplicate, ↓reduceIte]
    | with_reducible refine roundS (next_of 1000 ?_)
    | with_reducible refine drawS_of mixed (by kernel_rfl) (dg_of 1000 ?_)
    | with_reducible refine endD_of (by kernel_rfl) (next_of 1000 ?_)
    | with_reducible refine next_of 1000 ?_
    | ((first | refine condS_split (fun h => ?_) (fun h => ?_) | refine testS_split (fun h => ?_) (fun h => ?_) | refine testD_split (fun h => ?_) (fun h => ?_)) <;> (try simp only [bne_iff_ne, ne_eq, beq_iff_eq, decide_eq_true_eq, decide_eq_false_iff_not, Bool.not_eq_true, Bool.not_eq_false, Bool.not_true, Bool.not_false, bne_eq_false_iff_eq, beq_eq_false_iff_ne, Bool.and_eq_true, Bool.or_eq_true, Bool.and_eq_false_imp, Bool.or_eq_false_iff, Bool.not_eq_true', Bool.not_eq_false', Int.not_lt, Int.not_le] at h) <;> (try (exfalso; omega))))
  all_goals first | rw [if_pos (by omega)] | rw [if_neg (by omega)]
end Go.Proofs.YtbilnedgpgpanaaDoor
