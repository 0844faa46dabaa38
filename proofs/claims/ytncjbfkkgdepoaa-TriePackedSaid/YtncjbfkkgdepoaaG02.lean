/- Part of a proof over the seat Ytncjbfkkgdepoaa. -/
import Derived.Test.YtncjbfkkgdepoaaTab
set_option linter.unusedSimpArgs false
set_option linter.unusedVariables false
set_option maxRecDepth 100000
namespace Go.Proofs.Ytncjbfkkgdepoaa
open Go RowKit Go.Ew
set_option maxHeartbeats 1000000
abbrev L64 := BitVec 64
/-- As a number. -/
def n64 (x : L64) : Int := (x.toNat : Int)
theorem Br1 (x : L64) : 0 ≤ n64 x := Int.natCast_nonneg _
theorem Br2 (x : L64) : n64 x < 18446744073709551616 := by unfold n64; have := x.isLt; omega
theorem S1 (x : L64) : BitVec.ofInt 64 (n64 x) = x := by
 unfold n64; rw [BitVec.ofInt_natCast]; simp
theorem Ap6 (x : L64) : IntKind.u64.wrap (x.toNat : Int) = n64 x := T0 (Br1 x) (Br2 x)
theorem Ah1 (x y : L64) : By0 .u64 (n64 x) (n64 y) = n64 (x ^^^ y) := by
 show IntKind.u64.wrap ((BitVec.ofInt 64 (n64 x) ^^^ BitVec.ofInt 64 (n64 y)).toNat : Int) = _
 rw [S1, S1, Ap6]
theorem Cs5 (x y : L64) : Bj3 .u64 (n64 x) (n64 y) = n64 (x &&& y) := by
 show IntKind.u64.wrap ((BitVec.ofInt 64 (n64 x) &&& BitVec.ofInt 64 (n64 y)).toNat : Int) = _
 rw [S1, S1, Ap6]
theorem Co9 (x y : L64) : bOr .u64 (n64 x) (n64 y) = n64 (x ||| y) := by
 show IntKind.u64.wrap ((BitVec.ofInt 64 (n64 x) ||| BitVec.ofInt 64 (n64 y)).toNat : Int) = _
 rw [S1, S1, Ap6]
theorem Cj4 (x : L64) : 18446744073709551615 - n64 x = n64 (~~~ x) := by
 unfold n64; rw [BitVec.toNat_not]; have := x.isLt; omega
theorem Cf1 (x : L64) : By0 .u64 18446744073709551615 (n64 x) = n64 (~~~ x) := by
 rw [Bj0 (Br1 x) (Br2 x), Cj4]
theorem Bp0 (x : L64) (k : Nat) : Bw9 .u64 (n64 x) k = n64 (x <<< k) := by
 show IntKind.u64.wrap (n64 x * 2 ^ (min (k : Int).toNat 64)) = _
 rw [Ae6]
 unfold n64
 rw [BitVec.toNat_shiftLeft, Nat.shiftLeft_eq, Int.toNat_natCast]
 by_cases h : k ≤ 64
 ·rw [Nat.min_eq_left h, Int.natCast_emod, Int.natCast_mul, Int.natCast_pow]; rfl
 ·rw [Nat.min_eq_right (by omega)]
  have e1 : (x.toNat : Int) * 2 ^ 64 % 18446744073709551616 = 0 := by
   rw [show (2 : Int) ^ 64 = 18446744073709551616 by decide]; omega
  rw [e1]
  have e2 : x.toNat * 2 ^ k % 2 ^ 64 = 0 := by
   obtain ⟨d, rfl⟩ : ∃ d, k = 64 + d := ⟨k - 64, by omega⟩
   rw [Nat.pow_add, ← Nat.mul_assoc, Nat.mul_comm (x.toNat) (2 ^ 64), Nat.mul_assoc]
   exact Nat.mul_mod_right _ _
  rw [e2]; rfl
theorem Bz5 (x : L64) (k : Nat) : Cg4 .u64 (n64 x) k = n64 (x >>> k) := by
 show (n64 x).fdiv (2 ^ (min (k : Int).toNat 64)) = _
 unfold n64
 rw [BitVec.toNat_ushiftRight, Nat.shiftRight_eq_div_pow, Int.toNat_natCast]
 by_cases h : k ≤ 64
 ·rw [Nat.min_eq_left h, Int.fdiv_eq_ediv_of_nonneg _ (Int.pow_nonneg (by omega)), Int.natCast_ediv, Int.natCast_pow]; rfl
 ·rw [Nat.min_eq_right (by omega), Int.fdiv_eq_ediv_of_nonneg _ (by decide)]
  have e2 : x.toNat / 2 ^ k = 0 := Nat.div_eq_of_lt (Nat.lt_of_lt_of_le x.isLt (Nat.pow_le_pow_right (by omega) (by omega)))
  rw [e2]
  have := x.isLt
  rw [show (2 : Int) ^ 64 = 18446744073709551616 by decide]; omega
/-- Turned left by k. -/
def rot (x : L64) (k : Nat) : L64 := x <<< k ||| x >>> (64 - k)
theorem Bz9 (x : L64) : rot x 0 = x := by
 unfold rot
 apply BitVec.eq_of_toNat_eq
 simp [BitVec.toNat_ushiftRight, Nat.shiftRight_eq_div_pow, Nat.div_eq_of_lt x.isLt]
theorem Df0 : C5 Try.f85.ntmps (Try.f85.body.getD .skip) = true := by kernel_rfl
theorem Dc5 : C5 Try.f96.ntmps (Try.f96.body.getD .skip) = true := by kernel_rfl
theorem Df9 : C5 Try.f56.ntmps (Try.f56.body.getD .skip) = true := by kernel_rfl
theorem Df8 : C5 Try.f57.ntmps (Try.f57.body.getD .skip) = true := by kernel_rfl
theorem De7 : C5 Try.f94.ntmps (Try.f94.body.getD .skip) = true := by kernel_rfl
theorem De6 : C5 Try.f95.ntmps (Try.f95.body.getD .skip) = true := by kernel_rfl
theorem Ce2 (x : L64) (k : Nat) (hk : k < 64) : n64 x * (2 : Int) ^ k % 18446744073709551616 = n64 (x <<< k) := by
 rw [← Bp0, Bj2 (by omega) (by omega), Int.toNat_natCast]
theorem Ce4 (x : L64) (k : Nat) (hk : k < 64) : Pure Try.prog 85 [.int .u64 (n64 x), .int .i64 (k : Nat)] (.int .u64 (n64 (rot x k))) := by
 refine V5 (args := [.int .u64 (n64 x), .int .i64 (k : Nat)]) Di4 (by simp [closed, A0, C4, A2]) Try.func85 rfl Df0 (by simp [Try.f85]) (by simp [A0, closed, C4, A2]) (fun w => A3 1000 ?_)
 simp (maxSteps := 4000000) (disch := omega) only [go_sem, ↓reduceIte, Try.f85]
 repeat (with_reducible refine And.intro (by fail) ?_)
 have e1 : Bj3 .u64 (k : Int) 63 = k := by
  have := Cl8 (k : Int) 6 63 rfl (by omega) (by omega) (by omega)
  rw [show ((63 : Nat) : Int) = 63 from rfl] at this
  rw [this]; omega
 have e2 : IntKind.u64.wrap (64 - (k : Int)) = ((64 - k : Nat) : Int) := by rw [T0 (by omega) (by omega)]; omega
 rw [e1, e2, Bp0, Bz5, Co9]
 exact ⟨by omega, rfl⟩
theorem Cf3 (x : L64) (k : Nat) (hk : k < 64) : Pure Try.prog 96 [.int .u64 (n64 x), .int .i64 (k : Nat)] (.int .u64 (n64 (rot x k))) := by
 have hm : (k : Int) % 64 = k := by omega
 by_cases h0 : k = 0
 ·subst h0
  rw [Bz9]
  refine V5 (args := [.int .u64 (n64 x), .int .i64 (0 : Nat)]) Dd0 (by simp [closed, A0, C4, A2]) Try.func96 rfl Dc5 (by simp [Try.f96]) (by simp [A0, closed, C4, A2]) (fun w => A3 1000 ?_)
  simp (maxSteps := 4000000) (disch := omega) only [go_sem, ↓reduceIte, Try.f96]
  repeat (with_reducible refine And.intro (by omega) ?_)
  decide
 have h0' : ((k : Int) == 0) = false := by simp; omega
 have e2 : 64 - (k : Int) = ((64 - k : Nat) : Int) := by omega
 refine V5 (args := [.int .u64 (n64 x), .int .i64 (k : Nat)]) Dd0 (by simp [closed, A0, C4, A2]) Try.func96 rfl Dc5 (by simp [Try.f96]) (by simp [A0, closed, C4, A2]) (fun w => A3 1000 ?_)
 simp (maxSteps := 4000000) (disch := omega) only [go_sem, ↓reduceIte, Try.f96]
 repeat (with_reducible refine And.intro (by omega) ?_)
 simp (maxSteps := 4000000) (disch := omega) only [go_sem, ↓reduceIte, hm, h0', e2, Int.toNat_natCast]
 repeat (with_reducible refine And.intro (by omega) ?_)
 rw [Ce2 x k hk, Bz5, Co9]; rfl
/-- Where a walk of 24 steps comes to. -/
def Ac5 : Nat → Nat × Nat
 | 0 => (1, 0)
 | t + 1 => ((Ac5 t).2, (2 * (Ac5 t).1 + 3 * (Ac5 t).2) % 5)
def O2 : Nat → (Nat → Int)
 | 0 => fun _ => 0
 | t + 1 => Bp2 (O2 t) ((Ac5 t).1 + 5 * (Ac5 t).2) ((t + 1) * (t + 2) / 2 % 64 : Nat)
theorem Bb2 : ∀ t, (Ac5 t).1 < 5 ∧ (Ac5 t).2 < 5
 | 0 => by decide
 | t + 1 => by have := Bb2 t; simp only [Ac5]; omega
theorem Bq1 : Pure Try.prog 56 [] (.agg (C8 .i64 (O2 24) 25)) := by
 refine V5 (args := []) Dj2 (by simp [closed, A0, C4, A2]) Try.func56 rfl Df9 (by simp [Try.f56]) (by simp [A0, closed, C4, A2]) (fun w => A3 1000 ?_)
 simp (maxSteps := 4000000) (disch := omega) only [go_sem, ↓reduceIte, Try.f56]
 repeat (with_reducible refine And.intro (by fail) ?_)
 refine G1 (S := Nat) (fun t => t ≤ 24)
  (fun t => ⟨[(5, .int .i64 (t : Nat)), (3, .int .i64 ((Ac5 t).2 : Nat)), (2, .int .i64 ((Ac5 t).1 : Nat)), (1, .ptr 1 0), (0, .ptr 0 0)], 2, [(1, some (.cells (C8 .i64 (O2 t) 25) 126 (0, 0))), (0, some (.cells (C8 .i64 (fun _ => 0) 25) 126 (0, 0)))], base w, []⟩)
  (fun t => 24 - t) 0 (by omega) (Weak.sub (A5 (by simp [wσ, go_sem, closed, A0, Ac5, O2, A2]) (by simp [whs, go_sem, EObj.closed, closed, A0, Ac5, O2, A2]) (by simp [*]) rfl rfl (by simp))) ?_
 intro t ht
 obtain ⟨s1, s2⟩ := Bb2 t
 refine A3 1000 ?_
 simp (maxSteps := 4000000) (disch := omega) only [go_sem, ↓reduceIte]
 repeat (with_reducible refine And.intro (by omega) ?_)
 refine A6 (fun h1 => ?_) (fun h1 => ?_)
 all_goals (try simp only [bne_iff_ne, ne_eq, beq_iff_eq, decide_eq_true_eq, decide_eq_false_iff_not, Bool.not_eq_true, Bool.not_eq_false, Bool.not_true, Bool.not_false, bne_eq_false_iff_eq, beq_eq_false_iff_ne, Bool.and_eq_true, Bool.or_eq_true, Bool.and_eq_false_imp, Bool.or_eq_false_iff, Bool.not_eq_true', Bool.not_eq_false', Int.not_lt, Int.not_le] at h1)
 ·have e1 : ((((t : Int) + 1) * ((t : Int) + 2)) / 2 % 64) = (((t + 1) * (t + 2) / 2 % 64 : Nat) : Int) := by push_cast; rfl
  have e2 : 0 ≤ ((t : Int) + 1) * ((t : Int) + 2) ∧ ((t : Int) + 1) * ((t : Int) + 2) < 1000 := ⟨Int.mul_nonneg (by omega) (by omega), by
   have : ((t : Int) + 1) * ((t : Int) + 2) ≤ 24 * 25 := Int.mul_le_mul (by omega) (by omega) (by omega) (by omega)
   omega⟩
  have e3 : ((Ac5 t).1 + 5 * (Ac5 t).2 : Int).toNat = (Ac5 t).1 + 5 * (Ac5 t).2 := by omega
  repeat' (first | with_reducible refine And.intro (by omega) ?_ | simp (maxSteps := 4000000) (disch := omega) only [go_sem, ↓reduceIte, e1, e3, W5 (show -9223372036854775808 ≤ ((t : Int) + 1) * ((t : Int) + 2) by omega) (by omega), Ba9 e2.1])
  exact ⟨t + 1, by omega, Weak.sub (A5 (by simp [wσ, go_sem, closed, A0, A4, Ac5, O2, A2] <;> omega) (by simp [whs, Go.Ew.hget, go_sem, EObj.closed, closed, A0, A4, Ac5, O2, A2]) (by first | (simp [*]; done) | (simp only [cxG]; omega)) rfl rfl (by simp)), by omega⟩
 ·obtain rfl : t = 24 := by omega
  simp (maxSteps := 4000000) (disch := omega) only [go_sem, ↓reduceIte]
  repeat (with_reducible refine And.intro (by omega) ?_)
  refine A3 1000 ?_
  simp (maxSteps := 4000000) (disch := omega) only [go_sem, ↓reduceIte]
  repeat (with_reducible refine And.intro (by fail) ?_)
end Go.Proofs.Ytncjbfkkgdepoaa
namespace Go.Proofs.Ytncjbfkkgdepoaa
open Go RowKit Go.Ew
set_option maxHeartbeats 1000000
theorem Bn7 {a b : Nat} (ha : a < 4611686018427387904) (hb : b < 4611686018427387904) : By0 .i64 (a : Int) (b : Int) = ((a ^^^ b : Nat) : Int) := by
 have h : a ^^^ b < 2 ^ 62 := Nat.xor_lt_two_pow (by omega) (by omega)
 show IntKind.i64.wrap ((BitVec.ofInt 64 (a : Int) ^^^ BitVec.ofInt 64 (b : Int)).toNat : Int) = _
 rw [BitVec.ofInt_natCast, BitVec.ofInt_natCast, BitVec.toNat_xor, BitVec.toNat_ofNat, BitVec.toNat_ofNat, Nat.mod_eq_of_lt (by omega), Nat.mod_eq_of_lt (by omega), W5 (by omega) (by omega)]
theorem Al2 {a : Nat} (ha : a < 4611686018427387904) : Bj3 .i64 (a : Int) 1 = (a : Int) % 2 := by
 show IntKind.i64.wrap ((BitVec.ofInt 64 (a : Int) &&& BitVec.ofInt 64 ((1 : Nat) : Int)).toNat : Int) = _
 rw [BitVec.ofInt_natCast, BitVec.ofInt_natCast, BitVec.toNat_and, BitVec.toNat_ofNat, BitVec.toNat_ofNat, Nat.mod_eq_of_lt (by omega), Nat.mod_eq_of_lt (by omega)]
 rw [show (1 : Nat) = 2 ^ 1 - 1 from rfl, Nat.and_two_pow_sub_one_eq_mod, W5 (by omega) (by omega)]
 omega
theorem Bo9 {a : Nat} (ha : a < 2305843009213693952) : Bw9 .i64 (a : Int) 1 = ((2 * a : Nat) : Int) := by
 show IntKind.i64.wrap ((a : Int) * 2 ^ (min (1 : Int).toNat 64)) = _
 rw [show (2 : Int) ^ (min (1 : Int).toNat 64) = 2 from rfl, W5 (by omega) (by omega)]; omega
/-- The register behind t steps. -/
def rg : Nat → Nat
 | 0 => 1
 | t + 1 => if 256 ≤ 2 * rg t then (2 * rg t) ^^^ 369 else 2 * rg t
theorem Co3 : (List.range 169).all (fun t => decide (rg t < 256)) = true := by decide +kernel
theorem Co2 {t : Nat} (h : t ≤ 168) : rg t < 256 := by
 have := List.all_eq_true.1 Co3 t (List.mem_range.2 (by omega))
 simpa using this
def Y4 (f : Nat → L64) (i : Nat) (v : L64) : Nat → L64 := fun j => if j = i then v else f j
/-- Lanes as numbers. -/
def fL (f : Nat → L64) : Nat → Int := fun i => n64 (f i)
theorem S4 (f : Nat → L64) (i : Nat) (v : L64) : Bp2 (fL f) i (n64 v) = fL (Y4 f i v) := by
 funext j; simp only [Bp2, fL, Y4]; split <;> rfl
/-- The rounds' constants behind t steps. -/
def rcF : Nat → (Nat → L64)
 | 0 => fun _ => 0
 | t + 1 => if rg t % 2 = 1 then Y4 (rcF t) (t / 7) (rcF t (t / 7) ||| (1#64 <<< (2 ^ (t % 7) - 1))) else rcF t
theorem Dc0 {q : Nat} (h : q < 7) : (1 : Int) * (2 : Int) ^ q % 18446744073709551616 - 1 = ((2 ^ q - 1 : Nat) : Int) ∧ 2 ^ q - 1 < 64 := by
 have : q = 0 ∨ q = 1 ∨ q = 2 ∨ q = 3 ∨ q = 4 ∨ q = 5 ∨ q = 6 := by omega
 rcases this with rfl | rfl | rfl | rfl | rfl | rfl | rfl <;> exact ⟨by decide, by decide⟩
theorem Co6 {q : Nat} (h : q < 7) : n64 (1#64 <<< q) - 1 = ((2 ^ q - 1 : Nat) : Int) := by
 have : q = 0 ∨ q = 1 ∨ q = 2 ∨ q = 3 ∨ q = 4 ∨ q = 5 ∨ q = 6 := by omega
 rcases this with rfl | rfl | rfl | rfl | rfl | rfl | rfl <;> decide
theorem Y1 (f : Nat → L64) (i : Nat) : fL f i = n64 (f i) := rfl
theorem fL0 : fL (fun _ => 0#64) = fun _ => 0 := rfl
theorem Bd8 : Pure Try.prog 57 [] (.agg (C8 .u64 (fL (rcF 168)) 24)) := by
 refine V5 (args := []) Dj1 (by simp [closed, A0, C4, A2]) Try.func57 rfl Df8 (by simp [Try.f57]) (by simp [A0, closed, C4, A2]) (fun w => A3 1000 ?_)
 simp (maxSteps := 4000000) (disch := omega) only [go_sem, ↓reduceIte, Try.f57]
 repeat (with_reducible refine And.intro (by fail) ?_)
 refine G1 (S := Nat) (fun t => t ≤ 168)
  (fun t => ⟨[(4, .int .i64 (t : Nat)), (2, .int .i64 (rg t : Nat)), (1, .ptr 1 0), (0, .ptr 0 0)], 2, [(1, some (.cells (C8 .u64 (fL (rcF t)) 24) 129 (0, 0))), (0, some (.cells (C8 .u64 (fun _ => 0) 24) 129 (0, 0)))], base w, []⟩)
  (fun t => 168 - t) 0 (by omega) (Weak.sub (A5 (by simp [wσ, go_sem, closed, A0, rg, rcF, fL0, A2]) (by simp [whs, go_sem, EObj.closed, closed, A0, rg, rcF, fL0, A2]) (by simp [*]) rfl rfl (by simp))) ?_
 intro t ht
 have hr := Co2 ht
 have hr1 : rg (t + 1) = if 256 ≤ 2 * rg t then (2 * rg t) ^^^ 369 else 2 * rg t := rfl
 have hx : (2 * rg t) ^^^ 369 < 2 ^ 9 := Nat.xor_lt_two_pow (by omega) (by omega)
 have hc1 : rcF (t + 1) = if rg t % 2 = 1 then Y4 (rcF t) (t / 7) (rcF t (t / 7) ||| (1#64 <<< (2 ^ (t % 7) - 1))) else rcF t := rfl
 obtain ⟨p1, p2⟩ := Dc0 (show t % 7 < 7 by omega)
 refine A3 1000 ?_
 simp (maxSteps := 4000000) (disch := omega) only [go_sem, ↓reduceIte, Al2 (show rg t < 4611686018427387904 by omega)]
 repeat (with_reducible refine And.intro (by omega) ?_)
 refine A6 (fun h1 => ?_) (fun h1 => ?_)
 all_goals (try simp only [bne_iff_ne, ne_eq, beq_iff_eq, decide_eq_true_eq, decide_eq_false_iff_not, Bool.not_eq_true, Bool.not_eq_false, Bool.not_true, Bool.not_false, bne_eq_false_iff_eq, beq_eq_false_iff_ne, Bool.and_eq_true, Bool.or_eq_true, Bool.and_eq_false_imp, Bool.or_eq_false_iff, Bool.not_eq_true', Bool.not_eq_false', Int.not_lt, Int.not_le] at h1)
 ·have e7 : (t : Int) % 7 = ((t % 7 : Nat) : Int) := by omega
  have e8 : ((t : Int) / 7).toNat = t / 7 := by omega
  have es : ∀ k : Nat, Bw9 .u64 1 (k : Int) = n64 (1#64 <<< k) := fun k => Bp0 1#64 k
  have p3 : (1 : Int) * (2 : Int) ^ (t % 7) % 18446744073709551616 = ((2 ^ (t % 7) - 1 : Nat) : Int) + 1 := by omega
  have e9 := Bo9 (show rg t < 2305843009213693952 by omega)
  have ex : By0 .i64 ((2 * rg t : Nat) : Int) 369 = (((2 * rg t) ^^^ 369 : Nat) : Int) := Bn7 (a := 2 * rg t) (b := 369) (by omega) (by decide)
  simp (maxSteps := 4000000) (disch := omega) only [go_sem, ↓reduceIte, Al2 (show rg t < 4611686018427387904 by omega)]
  repeat (with_reducible refine And.intro (by omega) ?_)
  refine A6 (fun h2 => ?_) (fun h2 => ?_)
  all_goals (try simp only [bne_iff_ne, ne_eq, beq_iff_eq, decide_eq_true_eq, decide_eq_false_iff_not, Bool.not_eq_true, Bool.not_eq_false, Bool.not_true, Bool.not_false, bne_eq_false_iff_eq, beq_eq_false_iff_ne, Bool.and_eq_true, Bool.or_eq_true, Bool.and_eq_false_imp, Bool.or_eq_false_iff, Bool.not_eq_true', Bool.not_eq_false', Int.not_lt, Int.not_le] at h2)
  ·rw [if_pos (by omega)] at hc1
   repeat' (first | with_reducible refine And.intro (by omega) ?_ | simp (maxSteps := 4000000) (disch := omega) only [go_sem, ↓reduceIte, Al2 (show rg t < 4611686018427387904 by omega), e7, e8, e9, ex, es, p1, Co6 (show t % 7 < 7 by omega), Int.toNat_natCast, Y1, Co9, S4] | with_reducible refine L7 mixed (by kernel_rfl) (Ac0 1000 ?_) | with_reducible refine P6 (by kernel_rfl) (A3 1000 ?_) | ((first | refine A6 (fun h => ?_) (fun h => ?_) | refine D9 (fun h => ?_) (fun h => ?_) | refine T3 (fun h => ?_) (fun h => ?_)) <;> (try simp only [bne_iff_ne, ne_eq, beq_iff_eq, decide_eq_true_eq, decide_eq_false_iff_not, Bool.not_eq_true, Bool.not_eq_false, Bool.not_true, Bool.not_false, bne_eq_false_iff_eq, beq_eq_false_iff_ne, Bool.and_eq_true, Bool.or_eq_true, Bool.and_eq_false_imp, Bool.or_eq_false_iff, Bool.not_eq_true', Bool.not_eq_false', Int.not_lt, Int.not_le] at h) <;> (try (exfalso; omega))))
   ·rw [if_pos (by omega)] at hr1
    exact ⟨t + 1, by omega, Weak.sub (A5 (by simp [wσ, go_sem, closed, A0, A4, hr1, hc1, A2] <;> omega) (by simp [whs, Go.Ew.hget, go_sem, EObj.closed, closed, A0, A4, hr1, hc1, A2]) (by first | (simp [*]; done) | (simp only [cxG]; omega)) rfl rfl (by simp)), by omega⟩
   ·rw [if_neg (by omega)] at hr1
    exact ⟨t + 1, by omega, Weak.sub (A5 (by simp [wσ, go_sem, closed, A0, A4, hr1, hc1, A2] <;> omega) (by simp [whs, Go.Ew.hget, go_sem, EObj.closed, closed, A0, A4, hr1, hc1, A2]) (by first | (simp [*]; done) | (simp only [cxG]; omega)) rfl rfl (by simp)), by omega⟩
  ·rw [if_neg (by omega)] at hc1
   repeat' (first | simp (maxSteps := 4000000) (disch := omega) only [go_sem, ↓reduceIte, e9, ex] | ((first | refine A6 (fun h => ?_) (fun h => ?_) | refine D9 (fun h => ?_) (fun h => ?_) | refine T3 (fun h => ?_) (fun h => ?_)) <;> (try simp only [bne_iff_ne, ne_eq, beq_iff_eq, decide_eq_true_eq, decide_eq_false_iff_not, Bool.not_eq_true, Bool.not_eq_false, Bool.not_true, Bool.not_false, bne_eq_false_iff_eq, beq_eq_false_iff_ne, Bool.and_eq_true, Bool.or_eq_true, Bool.and_eq_false_imp, Bool.or_eq_false_iff, Bool.not_eq_true', Bool.not_eq_false', Int.not_lt, Int.not_le] at h) <;> (try (exfalso; omega))))
   ·rw [if_pos (by omega)] at hr1
    exact ⟨t + 1, by omega, Weak.sub (A5 (by simp [wσ, go_sem, closed, A0, A4, hr1, hc1, A2] <;> omega) (by simp [whs, Go.Ew.hget, go_sem, EObj.closed, closed, A0, A4, hr1, hc1, A2]) (by first | (simp [*]; done) | (simp only [cxG]; omega)) rfl rfl (by simp)), by omega⟩
   ·rw [if_neg (by omega)] at hr1
    exact ⟨t + 1, by omega, Weak.sub (A5 (by simp [wσ, go_sem, closed, A0, A4, hr1, hc1, A2] <;> omega) (by simp [whs, Go.Ew.hget, go_sem, EObj.closed, closed, A0, A4, hr1, hc1, A2]) (by first | (simp [*]; done) | (simp only [cxG]; omega)) rfl rfl (by simp)), by omega⟩
 ·obtain rfl : t = 168 := by omega
  simp (maxSteps := 4000000) (disch := omega) only [go_sem, ↓reduceIte]
  repeat (with_reducible refine And.intro (by omega) ?_)
  refine A3 1000 ?_
  simp (maxSteps := 4000000) (disch := omega) only [go_sem, ↓reduceIte]
  repeat (with_reducible refine And.intro (by fail) ?_)
end Go.Proofs.Ytncjbfkkgdepoaa
namespace Go.Proofs.Ytncjbfkkgdepoaa
open Go RowKit Go.Ew
set_option maxHeartbeats 1000000
theorem Ch3 : Pure Try.prog 95 [] (.agg (C8 .i64 (O2 24) 25)) := by
 refine V5 (args := []) Di0 (by simp [closed, A0, C4, A2]) Try.func95 rfl De6 (by simp [Try.f95]) (by simp [A0, closed, C4, A2]) (fun w => A3 1000 ?_)
 simp (maxSteps := 4000000) (disch := omega) only [go_sem, ↓reduceIte, Try.f95]
 repeat (with_reducible refine And.intro (by fail) ?_)
 refine G1 (S := Nat) (fun t => t ≤ 24)
  (fun t => ⟨[(4, .int .i64 (t : Nat)), (3, .int .i64 ((Ac5 t).2 : Nat)), (2, .int .i64 ((Ac5 t).1 : Nat)), (1, .ptr 1 0), (0, .ptr 0 0)], 2, [(1, some (.cells (C8 .i64 (O2 t) 25) 126 (0, 0))), (0, some (.cells (C8 .i64 (fun _ => 0) 25) 126 (0, 0)))], base w, []⟩)
  (fun t => 24 - t) 0 (by omega) (Weak.sub (A5 (by simp [wσ, go_sem, closed, A0, Ac5, O2, A2]) (by simp [whs, go_sem, EObj.closed, closed, A0, Ac5, O2, A2]) (by simp [*]) rfl rfl (by simp))) ?_
 intro t ht
 obtain ⟨s1, s2⟩ := Bb2 t
 refine A3 1000 ?_
 simp (maxSteps := 4000000) (disch := omega) only [go_sem, ↓reduceIte]
 repeat (with_reducible refine And.intro (by omega) ?_)
 refine A6 (fun h1 => ?_) (fun h1 => ?_)
 all_goals (try simp only [bne_iff_ne, ne_eq, beq_iff_eq, decide_eq_true_eq, decide_eq_false_iff_not, Bool.not_eq_true, Bool.not_eq_false, Bool.not_true, Bool.not_false, bne_eq_false_iff_eq, beq_eq_false_iff_ne, Bool.and_eq_true, Bool.or_eq_true, Bool.and_eq_false_imp, Bool.or_eq_false_iff, Bool.not_eq_true', Bool.not_eq_false', Int.not_lt, Int.not_le] at h1)
 ·have e1 : ((((t : Int) + 1) * ((t : Int) + 2)) / 2 % 64) = (((t + 1) * (t + 2) / 2 % 64 : Nat) : Int) := by push_cast; rfl
  have e2 : 0 ≤ ((t : Int) + 1) * ((t : Int) + 2) ∧ ((t : Int) + 1) * ((t : Int) + 2) < 1000 := ⟨Int.mul_nonneg (by omega) (by omega), by
   have : ((t : Int) + 1) * ((t : Int) + 2) ≤ 24 * 25 := Int.mul_le_mul (by omega) (by omega) (by omega) (by omega)
   omega⟩
  have e3 : ((Ac5 t).1 + 5 * (Ac5 t).2 : Int).toNat = (Ac5 t).1 + 5 * (Ac5 t).2 := by omega
  repeat' (first | with_reducible refine And.intro (by omega) ?_ | simp (maxSteps := 4000000) (disch := omega) only [go_sem, ↓reduceIte, e1, e3, W5 (show -9223372036854775808 ≤ ((t : Int) + 1) * ((t : Int) + 2) by omega) (by omega), Ba9 e2.1])
  exact ⟨t + 1, by omega, Weak.sub (A5 (by simp [wσ, go_sem, closed, A0, A4, Ac5, O2, A2] <;> omega) (by simp [whs, Go.Ew.hget, go_sem, EObj.closed, closed, A0, A4, Ac5, O2, A2]) (by first | (simp [*]; done) | (simp only [cxG]; omega)) rfl rfl (by simp)), by omega⟩
 ·obtain rfl : t = 24 := by omega
  simp (maxSteps := 4000000) (disch := omega) only [go_sem, ↓reduceIte]
  repeat (with_reducible refine And.intro (by omega) ?_)
  refine A3 1000 ?_
  simp (maxSteps := 4000000) (disch := omega) only [go_sem, ↓reduceIte]
  repeat (with_reducible refine And.intro (by fail) ?_)
theorem Am0 : Pure Try.prog 94 [] (.agg (C8 .u64 (fL (rcF 168)) 24)) := by
 refine V5 (args := []) Di1 (by simp [closed, A0, C4, A2]) Try.func94 rfl De7 (by simp [Try.f94]) (by simp [A0, closed, C4, A2]) (fun w => A3 1000 ?_)
 simp (maxSteps := 4000000) (disch := omega) only [go_sem, ↓reduceIte, Try.f94]
 repeat (with_reducible refine And.intro (by fail) ?_)
 refine G1 (S := Nat) (fun i => i ≤ 24)
  (fun i => ⟨[(3, .int .i64 (i : Nat)), (2, .int .i64 (rg (7 * i) : Nat)), (1, .ptr 1 0), (0, .ptr 0 0)], 2, [(1, some (.cells (C8 .u64 (fL (rcF (7 * i))) 24) 129 (0, 0))), (0, some (.cells (C8 .u64 (fun _ => 0) 24) 129 (0, 0)))], base w, []⟩)
  (fun t => 24 - t) 0 (by omega) (Weak.sub (A5 (by simp [wσ, go_sem, closed, A0, rg, rcF, fL0, A2]) (by simp [whs, go_sem, EObj.closed, closed, A0, rg, rcF, fL0, A2]) (by simp [*]) rfl rfl (by simp))) ?_
 intro i hi
 refine A3 1000 ?_
 simp (maxSteps := 4000000) (disch := omega) only [go_sem, ↓reduceIte]
 repeat (with_reducible refine And.intro (by omega) ?_)
 refine A6 (fun h1 => ?_) (fun h1 => ?_)
 all_goals (try simp only [bne_iff_ne, ne_eq, beq_iff_eq, decide_eq_true_eq, decide_eq_false_iff_not, Bool.not_eq_true, Bool.not_eq_false, Bool.not_true, Bool.not_false, bne_eq_false_iff_eq, beq_eq_false_iff_ne, Bool.and_eq_true, Bool.or_eq_true, Bool.and_eq_false_imp, Bool.or_eq_false_iff, Bool.not_eq_true', Bool.not_eq_false', Int.not_lt, Int.not_le] at h1)
 ·simp (maxSteps := 4000000) (disch := omega) only [go_sem, ↓reduceIte]
  repeat (with_reducible refine And.intro (by omega) ?_)
  refine G1 (S := Nat) (fun j => j ≤ 7)
   (fun j => ⟨[(4, .int .i64 (j : Nat)), (3, .int .i64 (i : Nat)), (2, .int .i64 (rg (7 * i + j) : Nat)), (1, .ptr 1 0), (0, .ptr 0 0)], 2, [(1, some (.cells (C8 .u64 (fL (rcF (7 * i + j))) 24) 129 (0, 0))), (0, some (.cells (C8 .u64 (fun _ => 0) 24) 129 (0, 0)))], base w, []⟩)
   (fun t => 7 - t) 0 (by omega) (Weak.sub (A5 (by simp [wσ, go_sem, closed, A0, A2]) (by simp [whs, go_sem, EObj.closed, closed, A0, A2]) (by simp [*]) rfl rfl (by simp))) ?_
  intro j hj
  refine A3 1000 ?_
  simp (maxSteps := 4000000) (disch := omega) only [go_sem, ↓reduceIte]
  repeat (with_reducible refine And.intro (by omega) ?_)
  refine A6 (fun h2 => ?_) (fun h2 => ?_)
  all_goals (try simp only [bne_iff_ne, ne_eq, beq_iff_eq, decide_eq_true_eq, decide_eq_false_iff_not, Bool.not_eq_true, Bool.not_eq_false, Bool.not_true, Bool.not_false, bne_eq_false_iff_eq, beq_eq_false_iff_ne, Bool.and_eq_true, Bool.or_eq_true, Bool.and_eq_false_imp, Bool.or_eq_false_iff, Bool.not_eq_true', Bool.not_eq_false', Int.not_lt, Int.not_le] at h2)
  ·obtain ⟨t, ht⟩ : ∃ t, t = 7 * i + j := ⟨_, rfl⟩
   have h7 : t / 7 = i := by omega
   have h8 : t % 7 = j := by omega
   have hr := Co2 (show t ≤ 168 by omega)
   have hr1 : rg (t + 1) = if 256 ≤ 2 * rg t then (2 * rg t) ^^^ 369 else 2 * rg t := rfl
   have hx : (2 * rg t) ^^^ 369 < 2 ^ 9 := Nat.xor_lt_two_pow (by omega) (by omega)
   have hc1 : rcF (t + 1) = if rg t % 2 = 1 then Y4 (rcF t) (t / 7) (rcF t (t / 7) ||| (1#64 <<< (2 ^ (t % 7) - 1))) else rcF t := rfl
   rw [h7, h8] at hc1
   obtain ⟨p1, p2⟩ := Dc0 (show j < 7 by omega)
   have p3 := Co6 (show j < 7 by omega)
   have es : ∀ k : Nat, Bw9 .u64 1 (k : Int) = n64 (1#64 <<< k) := fun k => Bp0 1#64 k
   have e9 : (rg t : Int) * 2 = ((2 * rg t : Nat) : Int) := by omega
   have ex : By0 .i64 ((2 * rg t : Nat) : Int) 369 = (((2 * rg t) ^^^ 369 : Nat) : Int) := Bn7 (a := 2 * rg t) (b := 369) (by omega) (by decide)
   have ht1 : 7 * i + (j + 1) = t + 1 := by omega
   rw [← ht]
   clear ht
   repeat' (first | with_reducible refine And.intro (by omega) ?_ | simp (maxSteps := 4000000) (disch := omega) only [go_sem, ↓reduceIte, e9, ex, es, p1, p3, Int.toNat_natCast, Y1, Co9, S4] | ((first | refine A6 (fun h => ?_) (fun h => ?_) | refine D9 (fun h => ?_) (fun h => ?_) | refine T3 (fun h => ?_) (fun h => ?_)) <;> (try simp only [bne_iff_ne, ne_eq, beq_iff_eq, decide_eq_true_eq, decide_eq_false_iff_not, Bool.not_eq_true, Bool.not_eq_false, Bool.not_true, Bool.not_false, bne_eq_false_iff_eq, beq_eq_false_iff_ne, Bool.and_eq_true, Bool.or_eq_true, Bool.and_eq_false_imp, Bool.or_eq_false_iff, Bool.not_eq_true', Bool.not_eq_false', Int.not_lt, Int.not_le] at h) <;> (try (exfalso; omega))))
   ·rw [if_pos (by omega)] at hr1 hc1
    exact ⟨j + 1, by omega, Weak.sub (A5 (by simp [wσ, go_sem, closed, A0, A4, ht1, hr1, hc1, A2] <;> omega) (by simp [whs, Go.Ew.hget, go_sem, EObj.closed, closed, A0, A4, ht1, hr1, hc1, A2]) (by first | (simp [*]; done) | (simp only [cxG]; omega)) rfl rfl (by simp)), by omega⟩
   ·rw [if_neg (by omega)] at hr1
    rw [if_pos (by omega)] at hc1
    exact ⟨j + 1, by omega, Weak.sub (A5 (by simp [wσ, go_sem, closed, A0, A4, ht1, hr1, hc1, A2] <;> omega) (by simp [whs, Go.Ew.hget, go_sem, EObj.closed, closed, A0, A4, ht1, hr1, hc1, A2]) (by first | (simp [*]; done) | (simp only [cxG]; omega)) rfl rfl (by simp)), by omega⟩
   ·rw [if_pos (by omega)] at hr1
    rw [if_neg (by omega)] at hc1
    exact ⟨j + 1, by omega, Weak.sub (A5 (by simp [wσ, go_sem, closed, A0, A4, ht1, hr1, hc1, A2] <;> omega) (by simp [whs, Go.Ew.hget, go_sem, EObj.closed, closed, A0, A4, ht1, hr1, hc1, A2]) (by first | (simp [*]; done) | (simp only [cxG]; omega)) rfl rfl (by simp)), by omega⟩
   ·rw [if_neg (by omega)] at hr1 hc1
    exact ⟨j + 1, by omega, Weak.sub (A5 (by simp [wσ, go_sem, closed, A0, A4, ht1, hr1, hc1, A2] <;> omega) (by simp [whs, Go.Ew.hget, go_sem, EObj.closed, closed, A0, A4, ht1, hr1, hc1, A2]) (by first | (simp [*]; done) | (simp only [cxG]; omega)) rfl rfl (by simp)), by omega⟩
  ·obtain rfl : j = 7 := by omega
   simp (maxSteps := 4000000) (disch := omega) only [go_sem, ↓reduceIte]
   repeat (with_reducible refine And.intro (by omega) ?_)
   refine A3 1000 ?_
   simp (maxSteps := 4000000) (disch := omega) only [go_sem, ↓reduceIte]
   repeat (with_reducible refine And.intro (by omega) ?_)
   exact ⟨i + 1, by omega, Weak.sub (A5 (by simp [wσ, go_sem, closed, A0, A4, show 7 * (i + 1) = 7 * i + 7 by omega, A2] <;> omega) (by simp [whs, Go.Ew.hget, go_sem, EObj.closed, closed, A0, A4, show 7 * (i + 1) = 7 * i + 7 by omega, A2]) (by first | (simp [*]; done) | (simp only [cxG]; omega)) rfl rfl (by simp)), by omega⟩
 ·obtain rfl : i = 24 := by omega
  simp (maxSteps := 4000000) (disch := omega) only [go_sem, ↓reduceIte]
  repeat (with_reducible refine And.intro (by omega) ?_)
  refine A3 1000 ?_
  simp (maxSteps := 4000000) (disch := omega) only [go_sem, ↓reduceIte]
  repeat (with_reducible refine And.intro (by fail) ?_)
end Go.Proofs.Ytncjbfkkgdepoaa
namespace Go.Proofs.Ytncjbfkkgdepoaa
open Go RowKit Go.Ew
set_option maxHeartbeats 4000000
def thC (a : Nat → L64) (x : Nat) : L64 := a x ^^^ a (x + 5) ^^^ a (x + 10) ^^^ a (x + 15) ^^^ a (x + 20)
def thD (a : Nat → L64) (x : Nat) : L64 := thC a ((x + 4) % 5) ^^^ rot (thC a ((x + 1) % 5)) 1
/-- Behind x rows and y lanes of theta. -/
def thA (a : Nat → L64) (x y : Nat) : Nat → L64 := fun i => if i % 5 < x ∨ (i % 5 = x ∧ i / 5 < y) then a i ^^^ thD a (i % 5) else a i
/-- How far a lane is turned. -/
def trn (i : Nat) : Nat := (O2 24 i).toNat
theorem Ch5 : (List.range 25).all (fun i => decide (0 ≤ O2 24 i ∧ O2 24 i < 64)) = true := by decide +kernel
theorem Bo2 {i : Nat} (h : i < 25) : O2 24 i = (trn i : Int) ∧ trn i < 64 := by
 have := List.all_eq_true.1 Ch5 i (List.mem_range.2 h)
 simp only [decide_eq_true_eq] at this
 unfold trn; omega
def rpV (a : Nat → L64) (i : Nat) : L64 := rot (a ((3 * (i / 5) + i % 5) % 5 + 5 * (i % 5))) (trn ((3 * (i / 5) + i % 5) % 5 + 5 * (i % 5)))
def rpB (a b : Nat → L64) (x y : Nat) : Nat → L64 := fun i => if (3 * (i / 5) + i % 5) % 5 < x ∨ ((3 * (i / 5) + i % 5) % 5 = x ∧ i % 5 < y) then rpV a i else b i
def chV (b : Nat → L64) (i : Nat) : L64 := b i ^^^ (~~~ b ((i % 5 + 1) % 5 + 5 * (i / 5)) &&& b ((i % 5 + 2) % 5 + 5 * (i / 5)))
def chA (b a : Nat → L64) (x y : Nat) : Nat → L64 := fun i => if i / 5 < y ∨ (i / 5 = y ∧ i % 5 < x) then chV b i else a i
def Af3 (rc : L64) (a : Nat → L64) : Nat → L64 := Y4 (chV (rpV (thA a 5 0))) 0 (chV (rpV (thA a 5 0)) 0 ^^^ rc)
def U0 (a : Nat → L64) : Nat → (Nat → L64)
 | 0 => a
 | k + 1 => Af3 (rcF 168 k) (U0 a k)
theorem K5 {n : Nat} {f g : Nat → L64} (h : ∀ i, i < n → f i = g i) : C8 .u64 (fL f) n = C8 .u64 (fL g) n := X4 (fun i hi => by simp only [fL, h i hi])
theorem By7 (a : Nat → L64) {x y : Nat} (hx : x < 5) : Y4 (thA a x y) (x + 5 * y) (thA a x y (x + 5 * y) ^^^ thD a x) = thA a x (y + 1) := by
 funext i
 simp only [Y4, thA]
 by_cases h : i = x + 5 * y
 ·subst h
  rw [if_pos rfl, if_neg (by omega), if_pos (by omega), show (x + 5 * y) % 5 = x by omega]
 ·rw [if_neg h]
  by_cases h2 : i % 5 < x ∨ i % 5 = x ∧ i / 5 < y
  ·rw [if_pos h2, if_pos (by omega)]
  ·rw [if_neg h2, if_neg (by omega)]
theorem Bo4 (a : Nat → L64) (x : Nat) {i : Nat} (hi : i < 25) : thA a x 5 i = thA a (x + 1) 0 i := by
 simp only [thA]
 by_cases h2 : i % 5 < x ∨ i % 5 = x ∧ i / 5 < 5
 ·rw [if_pos h2, if_pos (by omega)]
 ·rw [if_neg h2, if_neg (by omega)]
theorem Bf7 (a b : Nat → L64) {x y i : Nat} (hx : x < 5) (hy : y < 5) (hi : i < 25) : Y4 (rpB a b x y) (y + 5 * ((2 * x + 3 * y) % 5)) (rot (a (x + 5 * y)) (trn (x + 5 * y))) i = rpB a b x (y + 1) i := by
 simp only [Y4, rpB]
 by_cases h : i = y + 5 * ((2 * x + 3 * y) % 5)
 ·rw [if_pos h]
  have e1 : i % 5 = y := by omega
  have e2 : (3 * (i / 5) + i % 5) % 5 = x := by omega
  rw [if_pos (by omega)]
  unfold rpV
  rw [e2, e1]
 ·rw [if_neg h]
  by_cases h2 : (3 * (i / 5) + i % 5) % 5 < x ∨ (3 * (i / 5) + i % 5) % 5 = x ∧ i % 5 < y
  ·rw [if_pos h2, if_pos (by omega)]
  ·rw [if_neg h2, if_neg (by omega)]
theorem Aq7 (a b : Nat → L64) (x i : Nat) : rpB a b x 5 i = rpB a b (x + 1) 0 i := by
 simp only [rpB]
 by_cases h2 : (3 * (i / 5) + i % 5) % 5 < x ∨ (3 * (i / 5) + i % 5) % 5 = x ∧ i % 5 < 5
 ·rw [if_pos h2, if_pos (by omega)]
 ·rw [if_neg h2, if_neg (by omega)]
theorem Bp3 (a b : Nat → L64) (i : Nat) : rpB a b 5 0 i = rpV a i := by
 simp only [rpB]; rw [if_pos (by omega)]
theorem Cc6 (b a : Nat → L64) {x y i : Nat} (hx : x < 5) : Y4 (chA b a x y) (x + 5 * y) (b (x + 5 * y) ^^^ (~~~ b ((x + 1) % 5 + 5 * y) &&& b ((x + 2) % 5 + 5 * y))) i = chA b a (x + 1) y i := by
 simp only [Y4, chA]
 by_cases h : i = x + 5 * y
 ·subst h
  rw [if_pos rfl, if_pos (by omega)]
  unfold chV
  rw [show (x + 5 * y) % 5 = x by omega, show (x + 5 * y) / 5 = y by omega]
 ·rw [if_neg h]
  by_cases h2 : i / 5 < y ∨ i / 5 = y ∧ i % 5 < x
  ·rw [if_pos h2, if_pos (by omega)]
  ·rw [if_neg h2, if_neg (by omega)]
theorem Bv2 (b a : Nat → L64) (y i : Nat) : chA b a 5 y i = chA b a 0 (y + 1) i := by
 simp only [chA]
 by_cases h2 : i / 5 < y ∨ i / 5 = y ∧ i % 5 < 5
 ·rw [if_pos h2, if_pos (by omega)]
 ·rw [if_neg h2, if_neg (by omega)]
theorem Cl1 (b a : Nat → L64) {i : Nat} (hi : i < 25) : chA b a 0 5 i = chV b i := by
 simp only [chA]; rw [if_pos (by omega)]
theorem By6 (a : Nat → L64) (i : Nat) : thA a 0 0 i = a i := by simp only [thA]; rw [if_neg (by omega)]
theorem Bz7 (a b : Nat → L64) (i : Nat) : rpB a b 0 0 i = b i := by simp only [rpB]; rw [if_neg (by omega)]
theorem Cc5 (b a : Nat → L64) (i : Nat) : chA b a 0 0 i = a i := by simp only [chA]; rw [if_neg (by omega)]
/-- chi looks at lanes below 25 only. -/
theorem Ay8 {b b' : Nat → L64} (h : ∀ i, i < 25 → b i = b' i) {i : Nat} (hi : i < 25) : chV b i = chV b' i := by
 unfold chV; rw [h i hi, h _ (by omega), h _ (by omega)]
end Go.Proofs.Ytncjbfkkgdepoaa
