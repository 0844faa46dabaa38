/- Part of a proof over the seat Ytncjbfkkgdepoaa. -/
import Derived.Test.YtncjbfkkgdepoaaTab
set_option linter.unusedSimpArgs false
set_option linter.unusedVariables false
set_option maxRecDepth 100000
namespace Go.Proofs.Ytncjbfkkgdepoaa
open Go RowKit Go.Ew
set_option maxHeartbeats 1000000
abbrev L64 := BitVec 64
/-- As a number. -/
def n64 (x : L64) : Int := (x.toNat : Int)
theorem Ce3 (x : L64) : 0 ≤ n64 x := Int.natCast_nonneg _
theorem Ce4 (x : L64) : n64 x < 18446744073709551616 := by unfold n64; have := x.isLt; omega
theorem V6 (x : L64) : BitVec.ofInt 64 (n64 x) = x := by
 unfold n64; rw [BitVec.ofInt_natCast]; simp
theorem Ax2 (x : L64) : IntKind.u64.wrap (x.toNat : Int) = n64 x := W7 (Ce3 x) (Ce4 x)
theorem Am7 (x y : L64) : Cl8 .u64 (n64 x) (n64 y) = n64 (x ^^^ y) := by
 show IntKind.u64.wrap ((BitVec.ofInt 64 (n64 x) ^^^ BitVec.ofInt 64 (n64 y)).toNat : Int) = _
 rw [V6, V6, Ax2]
theorem Dk5 (x y : L64) : Cu4 .u64 (n64 x) (n64 y) = n64 (x &&& y) := by
 show IntKind.u64.wrap ((BitVec.ofInt 64 (n64 x) &&& BitVec.ofInt 64 (n64 y)).toNat : Int) = _
 rw [V6, V6, Ax2]
theorem Dh5 (x y : L64) : bOr .u64 (n64 x) (n64 y) = n64 (x ||| y) := by
 show IntKind.u64.wrap ((BitVec.ofInt 64 (n64 x) ||| BitVec.ofInt 64 (n64 y)).toNat : Int) = _
 rw [V6, V6, Ax2]
theorem Da8 (x : L64) : 18446744073709551615 - n64 x = n64 (~~~ x) := by
 unfold n64; rw [BitVec.toNat_not]; have := x.isLt; omega
theorem Cv9 (x : L64) : Cl8 .u64 18446744073709551615 (n64 x) = n64 (~~~ x) := by
 rw [Bt4 (Ce3 x) (Ce4 x), Da8]
theorem Ca9 (x : L64) (k : Nat) : Ck6 .u64 (n64 x) k = n64 (x <<< k) := by
 show IntKind.u64.wrap (n64 x * 2 ^ (min (k : Int).toNat 64)) = _
 rw [Aj8]
 unfold n64
 rw [BitVec.toNat_shiftLeft, Nat.shiftLeft_eq, Int.toNat_natCast]
 by_cases h : k ≤ 64
 ·rw [Nat.min_eq_left h, Int.natCast_emod, Int.natCast_mul, Int.natCast_pow]; rfl
 ·rw [Nat.min_eq_right (by omega)]
  have e1 : (x.toNat : Int) * 2 ^ 64 % 18446744073709551616 = 0 := by
   rw [show (2 : Int) ^ 64 = 18446744073709551616 by decide]; omega
  rw [e1]
  have e2 : x.toNat * 2 ^ k % 2 ^ 64 = 0 := by
   obtain ⟨d, rfl⟩ : ∃ d, k = 64 + d := ⟨k - 64, by omega⟩
   rw [Nat.pow_add, ← Nat.mul_assoc, Nat.mul_comm (x.toNat) (2 ^ 64), Nat.mul_assoc]
   exact Nat.mul_mod_right _ _
  rw [e2]; rfl
theorem Co1 (x : L64) (k : Nat) : Cx6 .u64 (n64 x) k = n64 (x >>> k) := by
 show (n64 x).fdiv (2 ^ (min (k : Int).toNat 64)) = _
 unfold n64
 rw [BitVec.toNat_ushiftRight, Nat.shiftRight_eq_div_pow, Int.toNat_natCast]
 by_cases h : k ≤ 64
 ·rw [Nat.min_eq_left h, Int.fdiv_eq_ediv_of_nonneg _ (Int.pow_nonneg (by omega)), Int.natCast_ediv, Int.natCast_pow]; rfl
 ·rw [Nat.min_eq_right (by omega), Int.fdiv_eq_ediv_of_nonneg _ (by decide)]
  have e2 : x.toNat / 2 ^ k = 0 := Nat.div_eq_of_lt (Nat.lt_of_lt_of_le x.isLt (Nat.pow_le_pow_right (by omega) (by omega)))
  rw [e2]
  have := x.isLt
  rw [show (2 : Int) ^ 64 = 18446744073709551616 by decide]; omega
/-- Turned left by k. -/
def rot (x : L64) (k : Nat) : L64 := x <<< k ||| x >>> (64 - k)
theorem Cp1 (x : L64) : rot x 0 = x := by
 unfold rot
 apply BitVec.eq_of_toNat_eq
 simp [BitVec.toNat_ushiftRight, Nat.shiftRight_eq_div_pow, Nat.div_eq_of_lt x.isLt]
theorem Dy5 : D0 Try.f85.ntmps (Try.f85.body.getD .skip) = true := by kernel_rfl
theorem Dv8 : D0 Try.f96.ntmps (Try.f96.body.getD .skip) = true := by kernel_rfl
theorem Ea0 : D0 Try.f56.ntmps (Try.f56.body.getD .skip) = true := by kernel_rfl
theorem Dz9 : D0 Try.f57.ntmps (Try.f57.body.getD .skip) = true := by kernel_rfl
theorem Dy1 : D0 Try.f94.ntmps (Try.f94.body.getD .skip) = true := by kernel_rfl
theorem Dy0 : D0 Try.f95.ntmps (Try.f95.body.getD .skip) = true := by kernel_rfl
theorem Cv2 (x : L64) (k : Nat) (hk : k < 64) : n64 x * (2 : Int) ^ k % 18446744073709551616 = n64 (x <<< k) := by
 rw [← Ca9, Bt6 (by omega) (by omega), Int.toNat_natCast]
theorem Cv4 (x : L64) (k : Nat) (hk : k < 64) : Pure Try.prog 85 [.int .u64 (n64 x), .int .i64 (k : Nat)] (.int .u64 (n64 (rot x k))) := by
 refine V4 (args := [.int .u64 (n64 x), .int .i64 (k : Nat)]) Ed5 (by simp [closed, A0, C6, A3]) Try.func85 rfl Dy5 (by simp [Try.f85]) (by simp [A0, closed, C6, A3]) (fun w => A2 1000 ?_)
 simp (maxSteps := 4000000) (disch := omega) only [go_sem, ↓reduceIte, Try.f85]
 repeat (with_reducible refine And.intro (by fail) ?_)
 have e1 : Cu4 .u64 (k : Int) 63 = k := by
  have := Dd6 (k : Int) 6 63 rfl (by omega) (by omega) (by omega)
  rw [show ((63 : Nat) : Int) = 63 from rfl] at this
  rw [this]; omega
 have e2 : IntKind.u64.wrap (64 - (k : Int)) = ((64 - k : Nat) : Int) := by rw [W7 (by omega) (by omega)]; omega
 rw [e1, e2, Ca9, Co1, Dh5]
 exact ⟨by omega, rfl⟩
theorem Cw4 (x : L64) (k : Nat) (hk : k < 64) : Pure Try.prog 96 [.int .u64 (n64 x), .int .i64 (k : Nat)] (.int .u64 (n64 (rot x k))) := by
 have hm : (k : Int) % 64 = k := by omega
 by_cases h0 : k = 0
 ·subst h0
  rw [Cp1]
  refine V4 (args := [.int .u64 (n64 x), .int .i64 (0 : Nat)]) Dw1 (by simp [closed, A0, C6, A3]) Try.func96 rfl Dv8 (by simp [Try.f96]) (by simp [A0, closed, C6, A3]) (fun w => A2 1000 ?_)
  simp (maxSteps := 4000000) (disch := omega) only [go_sem, ↓reduceIte, Try.f96]
  repeat (with_reducible refine And.intro (by omega) ?_)
  decide
 have h0' : ((k : Int) == 0) = false := by simp; omega
 have e2 : 64 - (k : Int) = ((64 - k : Nat) : Int) := by omega
 refine V4 (args := [.int .u64 (n64 x), .int .i64 (k : Nat)]) Dw1 (by simp [closed, A0, C6, A3]) Try.func96 rfl Dv8 (by simp [Try.f96]) (by simp [A0, closed, C6, A3]) (fun w => A2 1000 ?_)
 simp (maxSteps := 4000000) (disch := omega) only [go_sem, ↓reduceIte, Try.f96]
 repeat (with_reducible refine And.intro (by omega) ?_)
 simp (maxSteps := 4000000) (disch := omega) only [go_sem, ↓reduceIte, hm, h0', e2, Int.toNat_natCast]
 repeat (with_reducible refine And.intro (by omega) ?_)
 rw [Cv2 x k hk, Co1, Dh5]; rfl
/-- Where a walk of 24 steps comes to. -/
def Ah4 : Nat → Nat × Nat
 | 0 => (1, 0)
 | t + 1 => ((Ah4 t).2, (2 * (Ah4 t).1 + 3 * (Ah4 t).2) % 5)
def R3 : Nat → (Nat → Int)
 | 0 => fun _ => 0
 | t + 1 => Bw0 (R3 t) ((Ah4 t).1 + 5 * (Ah4 t).2) ((t + 1) * (t + 2) / 2 % 64 : Nat)
theorem Bk2 : ∀ t, (Ah4 t).1 < 5 ∧ (Ah4 t).2 < 5
 | 0 => by decide
 | t + 1 => by have := Bk2 t; simp only [Ah4]; omega
theorem Cd2 : Pure Try.prog 56 [] (.agg (D5 .i64 (R3 24) 25)) := by
 refine V4 (args := []) Ee7 (by simp [closed, A0, C6, A3]) Try.func56 rfl Ea0 (by simp [Try.f56]) (by simp [A0, closed, C6, A3]) (fun w => A2 1000 ?_)
 simp (maxSteps := 4000000) (disch := omega) only [go_sem, ↓reduceIte, Try.f56]
 repeat (with_reducible refine And.intro (by fail) ?_)
 refine H2 (S := Nat) (fun t => t ≤ 24)
  (fun t => ⟨[(5, .int .i64 (t : Nat)), (3, .int .i64 ((Ah4 t).2 : Nat)), (2, .int .i64 ((Ah4 t).1 : Nat)), (1, .ptr 1 0), (0, .ptr 0 0)], 2, [(1, some (.cells (D5 .i64 (R3 t) 25) 126 (0, 0))), (0, some (.cells (D5 .i64 (fun _ => 0) 25) 126 (0, 0)))], base w, []⟩)
  (fun t => 24 - t) 0 (by omega) (Weak.sub (A6 (by simp [wσ, go_sem, closed, A0, Ah4, R3, A3]) (by simp [whs, go_sem, EObj.closed, closed, A0, Ah4, R3, A3]) (by simp [*]) rfl rfl (by simp))) ?_
 intro t ht
 obtain ⟨s1, s2⟩ := Bk2 t
 refine A2 1000 ?_
 simp (maxSteps := 4000000) (disch := omega) only [go_sem, ↓reduceIte]
 repeat (with_reducible refine And.intro (by omega) ?_)
 refine A9 (fun h1 => ?_) (fun h1 => ?_)
 all_goals (try simp only [bne_iff_ne, ne_eq, beq_iff_eq, decide_eq_true_eq, decide_eq_false_iff_not, Bool.not_eq_true, Bool.not_eq_false, Bool.not_true, Bool.not_false, bne_eq_false_iff_eq, beq_eq_false_iff_ne, Bool.and_eq_true, Bool.or_eq_true, Bool.and_eq_false_imp, Bool.or_eq_false_iff, Bool.not_eq_true', Bool.not_eq_false', Int.not_lt, Int.not_le] at h1)
 ·have e1 : ((((t : Int) + 1) * ((t : Int) + 2)) / 2 % 64) = (((t + 1) * (t + 2) / 2 % 64 : Nat) : Int) := by push_cast; rfl
  have e2 : 0 ≤ ((t : Int) + 1) * ((t : Int) + 2) ∧ ((t : Int) + 1) * ((t : Int) + 2) < 1000 := ⟨Int.mul_nonneg (by omega) (by omega), by
   have : ((t : Int) + 1) * ((t : Int) + 2) ≤ 24 * 25 := Int.mul_le_mul (by omega) (by omega) (by omega) (by omega)
   omega⟩
  have e3 : ((Ah4 t).1 + 5 * (Ah4 t).2 : Int).toNat = (Ah4 t).1 + 5 * (Ah4 t).2 := by omega
  repeat' (first | with_reducible refine And.intro (by omega) ?_ | simp (maxSteps := 4000000) (disch := omega) only [go_sem, ↓reduceIte, e1, e3, Aa8 (show -9223372036854775808 ≤ ((t : Int) + 1) * ((t : Int) + 2) by omega) (by omega), Bj8 e2.1])
  exact ⟨t + 1, by omega, Weak.sub (A6 (by simp [wσ, go_sem, closed, A0, A4, Ah4, R3, A3] <;> omega) (by simp [whs, Go.Ew.hget, go_sem, EObj.closed, closed, A0, A4, Ah4, R3, A3]) (by first | (simp [*]; done) | (simp only [cxG]; omega)) rfl rfl (by simp)), by omega⟩
 ·obtain rfl : t = 24 := by omega
  simp (maxSteps := 4000000) (disch := omega) only [go_sem, ↓reduceIte]
  repeat (with_reducible refine And.intro (by omega) ?_)
  refine A2 1000 ?_
  simp (maxSteps := 4000000) (disch := omega) only [go_sem, ↓reduceIte]
  repeat (with_reducible refine And.intro (by fail) ?_)
end Go.Proofs.Ytncjbfkkgdepoaa
namespace Go.Proofs.Ytncjbfkkgdepoaa
open Go RowKit Go.Ew
set_option maxHeartbeats 1000000
theorem Bz4 {a b : Nat} (ha : a < 4611686018427387904) (hb : b < 4611686018427387904) : Cl8 .i64 (a : Int) (b : Int) = ((a ^^^ b : Nat) : Int) := by
 have h : a ^^^ b < 2 ^ 62 := Nat.xor_lt_two_pow (by omega) (by omega)
 show IntKind.i64.wrap ((BitVec.ofInt 64 (a : Int) ^^^ BitVec.ofInt 64 (b : Int)).toNat : Int) = _
 rw [BitVec.ofInt_natCast, BitVec.ofInt_natCast, BitVec.toNat_xor, BitVec.toNat_ofNat, BitVec.toNat_ofNat, Nat.mod_eq_of_lt (by omega), Nat.mod_eq_of_lt (by omega), Aa8 (by omega) (by omega)]
theorem Ar4 {a : Nat} (ha : a < 4611686018427387904) : Cu4 .i64 (a : Int) 1 = (a : Int) % 2 := by
 show IntKind.i64.wrap ((BitVec.ofInt 64 (a : Int) &&& BitVec.ofInt 64 ((1 : Nat) : Int)).toNat : Int) = _
 rw [BitVec.ofInt_natCast, BitVec.ofInt_natCast, BitVec.toNat_and, BitVec.toNat_ofNat, BitVec.toNat_ofNat, Nat.mod_eq_of_lt (by omega), Nat.mod_eq_of_lt (by omega)]
 rw [show (1 : Nat) = 2 ^ 1 - 1 from rfl, Nat.and_two_pow_sub_one_eq_mod, Aa8 (by omega) (by omega)]
 omega
theorem Ca8 {a : Nat} (ha : a < 2305843009213693952) : Ck6 .i64 (a : Int) 1 = ((2 * a : Nat) : Int) := by
 show IntKind.i64.wrap ((a : Int) * 2 ^ (min (1 : Int).toNat 64)) = _
 rw [show (2 : Int) ^ (min (1 : Int).toNat 64) = 2 from rfl, Aa8 (by omega) (by omega)]; omega
/-- The register behind t steps. -/
def rg : Nat → Nat
 | 0 => 1
 | t + 1 => if 256 ≤ 2 * rg t then (2 * rg t) ^^^ 369 else 2 * rg t
theorem Dg7 : (List.range 169).all (fun t => decide (rg t < 256)) = true := by decide +kernel
theorem Dg6 {t : Nat} (h : t ≤ 168) : rg t < 256 := by
 have := List.all_eq_true.1 Dg7 t (List.mem_range.2 (by omega))
 simpa using this
def Ac5 (f : Nat → L64) (i : Nat) (v : L64) : Nat → L64 := fun j => if j = i then v else f j
/-- Lanes as numbers. -/
def fL (f : Nat → L64) : Nat → Int := fun i => n64 (f i)
theorem V9 (f : Nat → L64) (i : Nat) (v : L64) : Bw0 (fL f) i (n64 v) = fL (Ac5 f i v) := by
 funext j; simp only [Bw0, fL, Ac5]; split <;> rfl
/-- The rounds' constants behind t steps. -/
def rcF : Nat → (Nat → L64)
 | 0 => fun _ => 0
 | t + 1 => if rg t % 2 = 1 then Ac5 (rcF t) (t / 7) (rcF t (t / 7) ||| (1#64 <<< (2 ^ (t % 7) - 1))) else rcF t
theorem Dv4 {q : Nat} (h : q < 7) : (1 : Int) * (2 : Int) ^ q % 18446744073709551616 - 1 = ((2 ^ q - 1 : Nat) : Int) ∧ 2 ^ q - 1 < 64 := by
 have : q = 0 ∨ q = 1 ∨ q = 2 ∨ q = 3 ∨ q = 4 ∨ q = 5 ∨ q = 6 := by omega
 rcases this with rfl | rfl | rfl | rfl | rfl | rfl | rfl <;> exact ⟨by decide, by decide⟩
theorem Dh2 {q : Nat} (h : q < 7) : n64 (1#64 <<< q) - 1 = ((2 ^ q - 1 : Nat) : Int) := by
 have : q = 0 ∨ q = 1 ∨ q = 2 ∨ q = 3 ∨ q = 4 ∨ q = 5 ∨ q = 6 := by omega
 rcases this with rfl | rfl | rfl | rfl | rfl | rfl | rfl <;> decide
theorem Ac0 (f : Nat → L64) (i : Nat) : fL f i = n64 (f i) := rfl
theorem fL0 : fL (fun _ => 0#64) = fun _ => 0 := rfl
theorem Bn2 : Pure Try.prog 57 [] (.agg (D5 .u64 (fL (rcF 168)) 24)) := by
 refine V4 (args := []) Ee6 (by simp [closed, A0, C6, A3]) Try.func57 rfl Dz9 (by simp [Try.f57]) (by simp [A0, closed, C6, A3]) (fun w => A2 1000 ?_)
 simp (maxSteps := 4000000) (disch := omega) only [go_sem, ↓reduceIte, Try.f57]
 repeat (with_reducible refine And.intro (by fail) ?_)
 refine H2 (S := Nat) (fun t => t ≤ 168)
  (fun t => ⟨[(4, .int .i64 (t : Nat)), (2, .int .i64 (rg t : Nat)), (1, .ptr 1 0), (0, .ptr 0 0)], 2, [(1, some (.cells (D5 .u64 (fL (rcF t)) 24) 129 (0, 0))), (0, some (.cells (D5 .u64 (fun _ => 0) 24) 129 (0, 0)))], base w, []⟩)
  (fun t => 168 - t) 0 (by omega) (Weak.sub (A6 (by simp [wσ, go_sem, closed, A0, rg, rcF, fL0, A3]) (by simp [whs, go_sem, EObj.closed, closed, A0, rg, rcF, fL0, A3]) (by simp [*]) rfl rfl (by simp))) ?_
 intro t ht
 have hr := Dg6 ht
 have hr1 : rg (t + 1) = if 256 ≤ 2 * rg t then (2 * rg t) ^^^ 369 else 2 * rg t := rfl
 have hx : (2 * rg t) ^^^ 369 < 2 ^ 9 := Nat.xor_lt_two_pow (by omega) (by omega)
 have hc1 : rcF (t + 1) = if rg t % 2 = 1 then Ac5 (rcF t) (t / 7) (rcF t (t / 7) ||| (1#64 <<< (2 ^ (t % 7) - 1))) else rcF t := rfl
 obtain ⟨p1, p2⟩ := Dv4 (show t % 7 < 7 by omega)
 refine A2 1000 ?_
 simp (maxSteps := 4000000) (disch := omega) only [go_sem, ↓reduceIte, Ar4 (show rg t < 4611686018427387904 by omega)]
 repeat (with_reducible refine And.intro (by omega) ?_)
 refine A9 (fun h1 => ?_) (fun h1 => ?_)
 all_goals (try simp only [bne_iff_ne, ne_eq, beq_iff_eq, decide_eq_true_eq, decide_eq_false_iff_not, Bool.not_eq_true, Bool.not_eq_false, Bool.not_true, Bool.not_false, bne_eq_false_iff_eq, beq_eq_false_iff_ne, Bool.and_eq_true, Bool.or_eq_true, Bool.and_eq_false_imp, Bool.or_eq_false_iff, Bool.not_eq_true', Bool.not_eq_false', Int.not_lt, Int.not_le] at h1)
 ·have e7 : (t : Int) % 7 = ((t % 7 : Nat) : Int) := by omega
  have e8 : ((t : Int) / 7).toNat = t / 7 := by omega
  have es : ∀ k : Nat, Ck6 .u64 1 (k : Int) = n64 (1#64 <<< k) := fun k => Ca9 1#64 k
  have p3 : (1 : Int) * (2 : Int) ^ (t % 7) % 18446744073709551616 = ((2 ^ (t % 7) - 1 : Nat) : Int) + 1 := by omega
  have e9 := Ca8 (show rg t < 2305843009213693952 by omega)
  have ex : Cl8 .i64 ((2 * rg t : Nat) : Int) 369 = (((2 * rg t) ^^^ 369 : Nat) : Int) := Bz4 (a := 2 * rg t) (b := 369) (by omega) (by decide)
  simp (maxSteps := 4000000) (disch := omega) only [go_sem, ↓reduceIte, Ar4 (show rg t < 4611686018427387904 by omega)]
  repeat (with_reducible refine And.intro (by omega) ?_)
  refine A9 (fun h2 => ?_) (fun h2 => ?_)
  all_goals (try simp only [bne_iff_ne, ne_eq, beq_iff_eq, decide_eq_true_eq, decide_eq_false_iff_not, Bool.not_eq_true, Bool.not_eq_false, Bool.not_true, Bool.not_false, bne_eq_false_iff_eq, beq_eq_false_iff_ne, Bool.and_eq_true, Bool.or_eq_true, Bool.and_eq_false_imp, Bool.or_eq_false_iff, Bool.not_eq_true', Bool.not_eq_false', Int.not_lt, Int.not_le] at h2)
  ·rw [if_pos (by omega)] at hc1
   repeat' (first | with_reducible refine And.intro (by omega) ?_ | simp (maxSteps := 4000000) (disch := omega) only [go_sem, ↓reduceIte, Ar4 (show rg t < 4611686018427387904 by omega), e7, e8, e9, ex, es, p1, Dh2 (show t % 7 < 7 by omega), Int.toNat_natCast, Ac0, Dh5, V9] | with_reducible refine P0 mixed (by kernel_rfl) (Ah1 1000 ?_) | with_reducible refine T0 (by kernel_rfl) (A2 1000 ?_) | ((first | refine A9 (fun h => ?_) (fun h => ?_) | refine F2 (fun h => ?_) (fun h => ?_) | refine S4 (fun h => ?_) (fun h => ?_)) <;> (try simp only [bne_iff_ne, ne_eq, beq_iff_eq, decide_eq_true_eq, decide_eq_false_iff_not, Bool.not_eq_true, Bool.not_eq_false, Bool.not_true, Bool.not_false, bne_eq_false_iff_eq, beq_eq_false_iff_ne, Bool.and_eq_true, Bool.or_eq_true, Bool.and_eq_false_imp, Bool.or_eq_false_iff, Bool.not_eq_true', Bool.not_eq_false', Int.not_lt, Int.not_le] at h) <;> (try (exfalso; omega))))
   ·rw [if_pos (by omega)] at hr1
    exact ⟨t + 1, by omega, Weak.sub (A6 (by simp [wσ, go_sem, closed, A0, A4, hr1, hc1, A3] <;> omega) (by simp [whs, Go.Ew.hget, go_sem, EObj.closed, closed, A0, A4, hr1, hc1, A3]) (by first | (simp [*]; done) | (simp only [cxG]; omega)) rfl rfl (by simp)), by omega⟩
   ·rw [if_neg (by omega)] at hr1
    exact ⟨t + 1, by omega, Weak.sub (A6 (by simp [wσ, go_sem, closed, A0, A4, hr1, hc1, A3] <;> omega) (by simp [whs, Go.Ew.hget, go_sem, EObj.closed, closed, A0, A4, hr1, hc1, A3]) (by first | (simp [*]; done) | (simp only [cxG]; omega)) rfl rfl (by simp)), by omega⟩
  ·rw [if_neg (by omega)] at hc1
   repeat' (first | simp (maxSteps := 4000000) (disch := omega) only [go_sem, ↓reduceIte, e9, ex] | ((first | refine A9 (fun h => ?_) (fun h => ?_) | refine F2 (fun h => ?_) (fun h => ?_) | refine S4 (fun h => ?_) (fun h => ?_)) <;> (try simp only [bne_iff_ne, ne_eq, beq_iff_eq, decide_eq_true_eq, decide_eq_false_iff_not, Bool.not_eq_true, Bool.not_eq_false, Bool.not_true, Bool.not_false, bne_eq_false_iff_eq, beq_eq_false_iff_ne, Bool.and_eq_true, Bool.or_eq_true, Bool.and_eq_false_imp, Bool.or_eq_false_iff, Bool.not_eq_true', Bool.not_eq_false', Int.not_lt, Int.not_le] at h) <;> (try (exfalso; omega))))
   ·rw [if_pos (by omega)] at hr1
    exact ⟨t + 1, by omega, Weak.sub (A6 (by simp [wσ, go_sem, closed, A0, A4, hr1, hc1, A3] <;> omega) (by simp [whs, Go.Ew.hget, go_sem, EObj.closed, closed, A0, A4, hr1, hc1, A3]) (by first | (simp [*]; done) | (simp only [cxG]; omega)) rfl rfl (by simp)), by omega⟩
   ·rw [if_neg (by omega)] at hr1
    exact ⟨t + 1, by omega, Weak.sub (A6 (by simp [wσ, go_sem, closed, A0, A4, hr1, hc1, A3] <;> omega) (by simp [whs, Go.Ew.hget, go_sem, EObj.closed, closed, A0, A4, hr1, hc1, A3]) (by first | (simp [*]; done) | (simp only [cxG]; omega)) rfl rfl (by simp)), by omega⟩
 ·obtain rfl : t = 168 := by omega
  simp (maxSteps := 4000000) (disch := omega) only [go_sem, ↓reduceIte]
  repeat (with_reducible refine And.intro (by omega) ?_)
  refine A2 1000 ?_
  simp (maxSteps := 4000000) (disch := omega) only [go_sem, ↓reduceIte]
  repeat (with_reducible refine And.intro (by fail) ?_)
end Go.Proofs.Ytncjbfkkgdepoaa
namespace Go.Proofs.Ytncjbfkkgdepoaa
open Go RowKit Go.Ew
set_option maxHeartbeats 1000000
theorem Cy7 : Pure Try.prog 95 [] (.agg (D5 .i64 (R3 24) 25)) := by
 refine V4 (args := []) Ed0 (by simp [closed, A0, C6, A3]) Try.func95 rfl Dy0 (by simp [Try.f95]) (by simp [A0, closed, C6, A3]) (fun w => A2 1000 ?_)
 simp (maxSteps := 4000000) (disch := omega) only [go_sem, ↓reduceIte, Try.f95]
 repeat (with_reducible refine And.intro (by fail) ?_)
 refine H2 (S := Nat) (fun t => t ≤ 24)
  (fun t => ⟨[(4, .int .i64 (t : Nat)), (3, .int .i64 ((Ah4 t).2 : Nat)), (2, .int .i64 ((Ah4 t).1 : Nat)), (1, .ptr 1 0), (0, .ptr 0 0)], 2, [(1, some (.cells (D5 .i64 (R3 t) 25) 126 (0, 0))), (0, some (.cells (D5 .i64 (fun _ => 0) 25) 126 (0, 0)))], base w, []⟩)
  (fun t => 24 - t) 0 (by omega) (Weak.sub (A6 (by simp [wσ, go_sem, closed, A0, Ah4, R3, A3]) (by simp [whs, go_sem, EObj.closed, closed, A0, Ah4, R3, A3]) (by simp [*]) rfl rfl (by simp))) ?_
 intro t ht
 obtain ⟨s1, s2⟩ := Bk2 t
 refine A2 1000 ?_
 simp (maxSteps := 4000000) (disch := omega) only [go_sem, ↓reduceIte]
 repeat (with_reducible refine And.intro (by omega) ?_)
 refine A9 (fun h1 => ?_) (fun h1 => ?_)
 all_goals (try simp only [bne_iff_ne, ne_eq, beq_iff_eq, decide_eq_true_eq, decide_eq_false_iff_not, Bool.not_eq_true, Bool.not_eq_false, Bool.not_true, Bool.not_false, bne_eq_false_iff_eq, beq_eq_false_iff_ne, Bool.and_eq_true, Bool.or_eq_true, Bool.and_eq_false_imp, Bool.or_eq_false_iff, Bool.not_eq_true', Bool.not_eq_false', Int.not_lt, Int.not_le] at h1)
 ·have e1 : ((((t : Int) + 1) * ((t : Int) + 2)) / 2 % 64) = (((t + 1) * (t + 2) / 2 % 64 : Nat) : Int) := by push_cast; rfl
  have e2 : 0 ≤ ((t : Int) + 1) * ((t : Int) + 2) ∧ ((t : Int) + 1) * ((t : Int) + 2) < 1000 := ⟨Int.mul_nonneg (by omega) (by omega), by
   have : ((t : Int) + 1) * ((t : Int) + 2) ≤ 24 * 25 := Int.mul_le_mul (by omega) (by omega) (by omega) (by omega)
   omega⟩
  have e3 : ((Ah4 t).1 + 5 * (Ah4 t).2 : Int).toNat = (Ah4 t).1 + 5 * (Ah4 t).2 := by omega
  repeat' (first | with_reducible refine And.intro (by omega) ?_ | simp (maxSteps := 4000000) (disch := omega) only [go_sem, ↓reduceIte, e1, e3, Aa8 (show -9223372036854775808 ≤ ((t : Int) + 1) * ((t : Int) + 2) by omega) (by omega), Bj8 e2.1])
  exact ⟨t + 1, by omega, Weak.sub (A6 (by simp [wσ, go_sem, closed, A0, A4, Ah4, R3, A3] <;> omega) (by simp [whs, Go.Ew.hget, go_sem, EObj.closed, closed, A0, A4, Ah4, R3, A3]) (by first | (simp [*]; done) | (simp only [cxG]; omega)) rfl rfl (by simp)), by omega⟩
 ·obtain rfl : t = 24 := by omega
  simp (maxSteps := 4000000) (disch := omega) only [go_sem, ↓reduceIte]
  repeat (with_reducible refine And.intro (by omega) ?_)
  refine A2 1000 ?_
  simp (maxSteps := 4000000) (disch := omega) only [go_sem, ↓reduceIte]
  repeat (with_reducible refine And.intro (by fail) ?_)
theorem As5 : Pure Try.prog 94 [] (.agg (D5 .u64 (fL (rcF 168)) 24)) := by
 refine V4 (args := []) Ed1 (by simp [closed, A0, C6, A3]) Try.func94 rfl Dy1 (by simp [Try.f94]) (by simp [A0, closed, C6, A3]) (fun w => A2 1000 ?_)
 simp (maxSteps := 4000000) (disch := omega) only [go_sem, ↓reduceIte, Try.f94]
 repeat (with_reducible refine And.intro (by fail) ?_)
 refine H2 (S := Nat) (fun i => i ≤ 24)
  (fun i => ⟨[(3, .int .i64 (i : Nat)), (2, .int .i64 (rg (7 * i) : Nat)), (1, .ptr 1 0), (0, .ptr 0 0)], 2, [(1, some (.cells (D5 .u64 (fL (rcF (7 * i))) 24) 129 (0, 0))), (0, some (.cells (D5 .u64 (fun _ => 0) 24) 129 (0, 0)))], base w, []⟩)
  (fun t => 24 - t) 0 (by omega) (Weak.sub (A6 (by simp [wσ, go_sem, closed, A0, rg, rcF, fL0, A3]) (by simp [whs, go_sem, EObj.closed, closed, A0, rg, rcF, fL0, A3]) (by simp [*]) rfl rfl (by simp))) ?_
 intro i hi
 refine A2 1000 ?_
 simp (maxSteps := 4000000) (disch := omega) only [go_sem, ↓reduceIte]
 repeat (with_reducible refine And.intro (by omega) ?_)
 refine A9 (fun h1 => ?_) (fun h1 => ?_)
 all_goals (try simp only [bne_iff_ne, ne_eq, beq_iff_eq, decide_eq_true_eq, decide_eq_false_iff_not, Bool.not_eq_true, Bool.not_eq_false, Bool.not_true, Bool.not_false, bne_eq_false_iff_eq, beq_eq_false_iff_ne, Bool.and_eq_true, Bool.or_eq_true, Bool.and_eq_false_imp, Bool.or_eq_false_iff, Bool.not_eq_true', Bool.not_eq_false', Int.not_lt, Int.not_le] at h1)
 ·simp (maxSteps := 4000000) (disch := omega) only [go_sem, ↓reduceIte]
  repeat (with_reducible refine And.intro (by omega) ?_)
  refine H2 (S := Nat) (fun j => j ≤ 7)
   (fun j => ⟨[(4, .int .i64 (j : Nat)), (3, .int .i64 (i : Nat)), (2, .int .i64 (rg (7 * i + j) : Nat)), (1, .ptr 1 0), (0, .ptr 0 0)], 2, [(1, some (.cells (D5 .u64 (fL (rcF (7 * i + j))) 24) 129 (0, 0))), (0, some (.cells (D5 .u64 (fun _ => 0) 24) 129 (0, 0)))], base w, []⟩)
   (fun t => 7 - t) 0 (by omega) (Weak.sub (A6 (by simp [wσ, go_sem, closed, A0, A3]) (by simp [whs, go_sem, EObj.closed, closed, A0, A3]) (by simp [*]) rfl rfl (by simp))) ?_
  intro j hj
  refine A2 1000 ?_
  simp (maxSteps := 4000000) (disch := omega) only [go_sem, ↓reduceIte]
  repeat (with_reducible refine And.intro (by omega) ?_)
  refine A9 (fun h2 => ?_) (fun h2 => ?_)
  all_goals (try simp only [bne_iff_ne, ne_eq, beq_iff_eq, decide_eq_true_eq, decide_eq_false_iff_not, Bool.not_eq_true, Bool.not_eq_false, Bool.not_true, Bool.not_false, bne_eq_false_iff_eq, beq_eq_false_iff_ne, Bool.and_eq_true, Bool.or_eq_true, Bool.and_eq_false_imp, Bool.or_eq_false_iff, Bool.not_eq_true', Bool.not_eq_false', Int.not_lt, Int.not_le] at h2)
  ·obtain ⟨t, ht⟩ : ∃ t, t = 7 * i + j := ⟨_, rfl⟩
   have h7 : t / 7 = i := by omega
   have h8 : t % 7 = j := by omega
   have hr := Dg6 (show t ≤ 168 by omega)
   have hr1 : rg (t + 1) = if 256 ≤ 2 * rg t then (2 * rg t) ^^^ 369 else 2 * rg t := rfl
   have hx : (2 * rg t) ^^^ 369 < 2 ^ 9 := Nat.xor_lt_two_pow (by omega) (by omega)
   have hc1 : rcF (t + 1) = if rg t % 2 = 1 then Ac5 (rcF t) (t / 7) (rcF t (t / 7) ||| (1#64 <<< (2 ^ (t % 7) - 1))) else rcF t := rfl
   rw [h7, h8] at hc1
   obtain ⟨p1, p2⟩ := Dv4 (show j < 7 by omega)
   have p3 := Dh2 (show j < 7 by omega)
   have es : ∀ k : Nat, Ck6 .u64 1 (k : Int) = n64 (1#64 <<< k) := fun k => Ca9 1#64 k
   have e9 : (rg t : Int) * 2 = ((2 * rg t : Nat) : Int) := by omega
   have ex : Cl8 .i64 ((2 * rg t : Nat) : Int) 369 = (((2 * rg t) ^^^ 369 : Nat) : Int) := Bz4 (a := 2 * rg t) (b := 369) (by omega) (by decide)
   have ht1 : 7 * i + (j + 1) = t + 1 := by omega
   rw [← ht]
   clear ht
   repeat' (first | with_reducible refine And.intro (by omega) ?_ | simp (maxSteps := 4000000) (disch := omega) only [go_sem, ↓reduceIte, e9, ex, es, p1, p3, Int.toNat_natCast, Ac0, Dh5, V9] | ((first | refine A9 (fun h => ?_) (fun h => ?_) | refine F2 (fun h => ?_) (fun h => ?_) | refine S4 (fun h => ?_) (fun h => ?_)) <;> (try simp only [bne_iff_ne, ne_eq, beq_iff_eq, decide_eq_true_eq, decide_eq_false_iff_not, Bool.not_eq_true, Bool.not_eq_false, Bool.not_true, Bool.not_false, bne_eq_false_iff_eq, beq_eq_false_iff_ne, Bool.and_eq_true, Bool.or_eq_true, Bool.and_eq_false_imp, Bool.or_eq_false_iff, Bool.not_eq_true', Bool.not_eq_false', Int.not_lt, Int.not_le] at h) <;> (try (exfalso; omega))))
   ·rw [if_pos (by omega)] at hr1 hc1
    exact ⟨j + 1, by omega, Weak.sub (A6 (by simp [wσ, go_sem, closed, A0, A4, ht1, hr1, hc1, A3] <;> omega) (by simp [whs, Go.Ew.hget, go_sem, EObj.closed, closed, A0, A4, ht1, hr1, hc1, A3]) (by first | (simp [*]; done) | (simp only [cxG]; omega)) rfl rfl (by simp)), by omega⟩
   ·rw [if_neg (by omega)] at hr1
    rw [if_pos (by omega)] at hc1
    exact ⟨j + 1, by omega, Weak.sub (A6 (by simp [wσ, go_sem, closed, A0, A4, ht1, hr1, hc1, A3] <;> omega) (by simp [whs, Go.Ew.hget, go_sem, EObj.closed, closed, A0, A4, ht1, hr1, hc1, A3]) (by first | (simp [*]; done) | (simp only [cxG]; omega)) rfl rfl (by simp)), by omega⟩
   ·rw [if_pos (by omega)] at hr1
    rw [if_neg (by omega)] at hc1
    exact ⟨j + 1, by omega, Weak.sub (A6 (by simp [wσ, go_sem, closed, A0, A4, ht1, hr1, hc1, A3] <;> omega) (by simp [whs, Go.Ew.hget, go_sem, EObj.closed, closed, A0, A4, ht1, hr1, hc1, A3]) (by first | (simp [*]; done) | (simp only [cxG]; omega)) rfl rfl (by simp)), by omega⟩
   ·rw [if_neg (by omega)] at hr1 hc1
    exact ⟨j + 1, by omega, Weak.sub (A6 (by simp [wσ, go_sem, closed, A0, A4, ht1, hr1, hc1, A3] <;> omega) (by simp [whs, Go.Ew.hget, go_sem, EObj.closed, closed, A0, A4, ht1, hr1, hc1, A3]) (by first | (simp [*]; done) | (simp only [cxG]; omega)) rfl rfl (by simp)), by omega⟩
  ·obtain rfl : j = 7 := by omega
   simp (maxSteps := 4000000) (disch := omega) only [go_sem, ↓reduceIte]
   repeat (with_reducible refine And.intro (by omega) ?_)
   refine A2 1000 ?_
   simp (maxSteps := 4000000) (disch := omega) only [go_sem, ↓reduceIte]
   repeat (with_reducible refine And.intro (by omega) ?_)
   exact ⟨i + 1, by omega, Weak.sub (A6 (by simp [wσ, go_sem, closed, A0, A4, show 7 * (i + 1) = 7 * i + 7 by omega, A3] <;> omega) (by simp [whs, Go.Ew.hget, go_sem, EObj.closed, closed, A0, A4, show 7 * (i + 1) = 7 * i + 7 by omega, A3]) (by first | (simp [*]; done) | (simp only [cxG]; omega)) rfl rfl (by simp)), by omega⟩
 ·obtain rfl : i = 24 := by omega
  simp (maxSteps := 4000000) (disch := omega) only [go_sem, ↓reduceIte]
  repeat (with_reducible refine And.intro (by omega) ?_)
  refine A2 1000 ?_
  simp (maxSteps := 4000000) (disch := omega) only [go_sem, ↓reduceIte]
  repeat (with_reducible refine And.intro (by fail) ?_)
end Go.Proofs.Ytncjbfkkgdepoaa
namespace Go.Proofs.Ytncjbfkkgdepoaa
open Go RowKit Go.Ew
set_option maxHeartbeats 4000000
def thC (a : Nat → L64) (x : Nat) : L64 := a x ^^^ a (x + 5) ^^^ a (x + 10) ^^^ a (x + 15) ^^^ a (x + 20)
def thD (a : Nat → L64) (x : Nat) : L64 := thC a ((x + 4) % 5) ^^^ rot (thC a ((x + 1) % 5)) 1
/-- Behind x rows and y lanes of theta. -/
def thA (a : Nat → L64) (x y : Nat) : Nat → L64 := fun i => if i % 5 < x ∨ (i % 5 = x ∧ i / 5 < y) then a i ^^^ thD a (i % 5) else a i
/-- How far a lane is turned. -/
def trn (i : Nat) : Nat := (R3 24 i).toNat
theorem Cy9 : (List.range 25).all (fun i => decide (0 ≤ R3 24 i ∧ R3 24 i < 64)) = true := by decide +kernel
theorem Ca1 {i : Nat} (h : i < 25) : R3 24 i = (trn i : Int) ∧ trn i < 64 := by
 have := List.all_eq_true.1 Cy9 i (List.mem_range.2 h)
 simp only [decide_eq_true_eq] at this
 unfold trn; omega
def rpV (a : Nat → L64) (i : Nat) : L64 := rot (a ((3 * (i / 5) + i % 5) % 5 + 5 * (i % 5))) (trn ((3 * (i / 5) + i % 5) % 5 + 5 * (i % 5)))
def rpB (a b : Nat → L64) (x y : Nat) : Nat → L64 := fun i => if (3 * (i / 5) + i % 5) % 5 < x ∨ ((3 * (i / 5) + i % 5) % 5 = x ∧ i % 5 < y) then rpV a i else b i
def chV (b : Nat → L64) (i : Nat) : L64 := b i ^^^ (~~~ b ((i % 5 + 1) % 5 + 5 * (i / 5)) &&& b ((i % 5 + 2) % 5 + 5 * (i / 5)))
def chA (b a : Nat → L64) (x y : Nat) : Nat → L64 := fun i => if i / 5 < y ∨ (i / 5 = y ∧ i % 5 < x) then chV b i else a i
def Ak6 (rc : L64) (a : Nat → L64) : Nat → L64 := Ac5 (chV (rpV (thA a 5 0))) 0 (chV (rpV (thA a 5 0)) 0 ^^^ rc)
def X6 (a : Nat → L64) : Nat → (Nat → L64)
 | 0 => a
 | k + 1 => Ak6 (rcF 168 k) (X6 a k)
theorem N6 {n : Nat} {f g : Nat → L64} (h : ∀ i, i < n → f i = g i) : D5 .u64 (fL f) n = D5 .u64 (fL g) n := S0 (fun i hi => by simp only [fL, h i hi])
theorem Cm9 (a : Nat → L64) {x y : Nat} (hx : x < 5) : Ac5 (thA a x y) (x + 5 * y) (thA a x y (x + 5 * y) ^^^ thD a x) = thA a x (y + 1) := by
 funext i
 simp only [Ac5, thA]
 by_cases h : i = x + 5 * y
 ·subst h
  rw [if_pos rfl, if_neg (by omega), if_pos (by omega), show (x + 5 * y) % 5 = x by omega]
 ·rw [if_neg h]
  by_cases h2 : i % 5 < x ∨ i % 5 = x ∧ i / 5 < y
  ·rw [if_pos h2, if_pos (by omega)]
  ·rw [if_neg h2, if_neg (by omega)]
theorem Ca3 (a : Nat → L64) (x : Nat) {i : Nat} (hi : i < 25) : thA a x 5 i = thA a (x + 1) 0 i := by
 simp only [thA]
 by_cases h2 : i % 5 < x ∨ i % 5 = x ∧ i / 5 < 5
 ·rw [if_pos h2, if_pos (by omega)]
 ·rw [if_neg h2, if_neg (by omega)]
theorem Bp4 (a b : Nat → L64) {x y i : Nat} (hx : x < 5) (hy : y < 5) (hi : i < 25) : Ac5 (rpB a b x y) (y + 5 * ((2 * x + 3 * y) % 5)) (rot (a (x + 5 * y)) (trn (x + 5 * y))) i = rpB a b x (y + 1) i := by
 simp only [Ac5, rpB]
 by_cases h : i = y + 5 * ((2 * x + 3 * y) % 5)
 ·rw [if_pos h]
  have e1 : i % 5 = y := by omega
  have e2 : (3 * (i / 5) + i % 5) % 5 = x := by omega
  rw [if_pos (by omega)]
  unfold rpV
  rw [e2, e1]
 ·rw [if_neg h]
  by_cases h2 : (3 * (i / 5) + i % 5) % 5 < x ∨ (3 * (i / 5) + i % 5) % 5 = x ∧ i % 5 < y
  ·rw [if_pos h2, if_pos (by omega)]
  ·rw [if_neg h2, if_neg (by omega)]
theorem Ay4 (a b : Nat → L64) (x i : Nat) : rpB a b x 5 i = rpB a b (x + 1) 0 i := by
 simp only [rpB]
 by_cases h2 : (3 * (i / 5) + i % 5) % 5 < x ∨ (3 * (i / 5) + i % 5) % 5 = x ∧ i % 5 < 5
 ·rw [if_pos h2, if_pos (by omega)]
 ·rw [if_neg h2, if_neg (by omega)]
theorem Cb6 (a b : Nat → L64) (i : Nat) : rpB a b 5 0 i = rpV a i := by
 simp only [rpB]; rw [if_pos (by omega)]
theorem Ct3 (b a : Nat → L64) {x y i : Nat} (hx : x < 5) : Ac5 (chA b a x y) (x + 5 * y) (b (x + 5 * y) ^^^ (~~~ b ((x + 1) % 5 + 5 * y) &&& b ((x + 2) % 5 + 5 * y))) i = chA b a (x + 1) y i := by
 simp only [Ac5, chA]
 by_cases h : i = x + 5 * y
 ·subst h
  rw [if_pos rfl, if_pos (by omega)]
  unfold chV
  rw [show (x + 5 * y) % 5 = x by omega, show (x + 5 * y) / 5 = y by omega]
 ·rw [if_neg h]
  by_cases h2 : i / 5 < y ∨ i / 5 = y ∧ i % 5 < x
  ·rw [if_pos h2, if_pos (by omega)]
  ·rw [if_neg h2, if_neg (by omega)]
theorem Ci7 (b a : Nat → L64) (y i : Nat) : chA b a 5 y i = chA b a 0 (y + 1) i := by
 simp only [chA]
 by_cases h2 : i / 5 < y ∨ i / 5 = y ∧ i % 5 < 5
 ·rw [if_pos h2, if_pos (by omega)]
 ·rw [if_neg h2, if_neg (by omega)]
theorem Dc8 (b a : Nat → L64) {i : Nat} (hi : i < 25) : chA b a 0 5 i = chV b i := by
 simp only [chA]; rw [if_pos (by omega)]
theorem Cm8 (a : Nat → L64) (i : Nat) : thA a 0 0 i = a i := by simp only [thA]; rw [if_neg (by omega)]
theorem Co9 (a b : Nat → L64) (i : Nat) : rpB a b 0 0 i = b i := by simp only [rpB]; rw [if_neg (by omega)]
theorem Ct2 (b a : Nat → L64) (i : Nat) : chA b a 0 0 i = a i := by simp only [chA]; rw [if_neg (by omega)]
/-- chi looks at lanes below 25 only. -/
theorem Bh4 {b b' : Nat → L64} (h : ∀ i, i < 25 → b i = b' i) {i : Nat} (hi : i < 25) : chV b i = chV b' i := by
 unfold chV; rw [h i hi, h _ (by omega), h _ (by omega)]
end Go.Proofs.Ytncjbfkkgdepoaa
