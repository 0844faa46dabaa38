/- Part of a proof over the seat YtbilnedgpgpanaaDoor. -/
import Derived.Test.YtbilnedgpgpanaaDoorWA
import Derived.Test.YtbilnedgpgpanaaDoorEng3
import Derived.Test.YtbilnedgpgpanaaDoorShelf
namespace Go.Proofs.YtbilnedgpgpanaaDoor
open Go Go.Ew
set_option maxRecDepth 100000
set_option linter.unusedSimpArgs false
set_option linter.unusedVariables false
set_option maxHeartbeats 1000000
theorem in29 : codeIn Tryd.f29.ntmps (Tryd.f29.body.getD .skip) = true := by kernel_rfl
theorem in26 : codeIn Tryd.f26.ntmps (Tryd.f26.body.getD .skip) = true := by kernel_rfl
theorem mul64_p (a b : Int) (ha : 0 ≤ a) (ha' : a < 18446744073709551616) (hb : 0 ≤ b) (hb' : b < 18446744073709551616) : Pure Tryd.prog 79 [.int .u64 a, .int .u64 b] (.tup [.int .u64 (a * b / 18446744073709551616), .int .u64 (a * b % 18446744073709551616)]) := by
  obtain ⟨m, rfl⟩ := Int.eq_ofNat_of_zero_le ha
  obtain ⟨n, rfl⟩ := Int.eq_ofNat_of_zero_le hb
  refine ⟨en79, by simp [closed, closeds], fun bs w => (Go.Proofs.Tryd.bits_Mul64 m n (by omega) (by omega) w).mono (by
    rintro e w' ⟨rfl, rfl⟩
    exact ⟨rfl, Below.refl' _ _⟩)⟩
/-- A number of 8 limbs. -/
abbrev dE (n : Nat) : EV := .agg (ints .u64 (dig 18446744073709551616 n) 8)
theorem wide_step {N c p z0 lo c' P R : Int} (h : N + c * P = R) (hs : z0 + c + p = lo + c' * 18446744073709551616) : N + (lo - z0) * P + c' * (P * 18446744073709551616) = R + p * P := by
  grind
theorem wide_lc {p z c : Int} : ((p % 18446744073709551616 + z + 0) % 18446744073709551616 + c + 0) % 18446744073709551616 = (p + z + c) % 18446744073709551616 := by omega
theorem wide_cc {p z c : Int} : p / 18446744073709551616 + (p % 18446744073709551616 + z + 0) / 18446744073709551616 + ((p % 18446744073709551616 + z + 0) % 18446744073709551616 + c + 0) / 18446744073709551616 = (p + z + c) / 18446744073709551616 := by omega
structure WIn (x y i : Nat) (z : Nat → Int) : Prop where
  bd : ∀ j, 0 ≤ z j ∧ z j < 18446744073709551616
  v : num 18446744073709551616 z 8 = ((x % 18446744073709551616 ^ i * y : Nat) : Int)
  z : ∀ j, i + 4 ≤ j → z j = 0
structure WIn2 (x y i k : Nat) (z : Nat → Int) (c : Int) : Prop where
  bd : ∀ j, 0 ≤ z j ∧ z j < 18446744073709551616
  c0 : 0 ≤ c
  c1 : c < 18446744073709551616
  v : num 18446744073709551616 z 8 + c * (18446744073709551616 ^ (i + k) : Nat) = ((x % 18446744073709551616 ^ i * y + (x / 18446744073709551616 ^ i % 18446744073709551616) * (y % 18446744073709551616 ^ k) * 18446744073709551616 ^ i : Nat) : Int)
  z : ∀ j, i + 4 ≤ j → z j = 0
theorem setF_bd {z : Nat → Int} {j : Nat} {v : Int} (h : ∀ j, 0 ≤ z j ∧ z j < 18446744073709551616) (h0 : 0 ≤ v) (h1 : v < 18446744073709551616) : ∀ i, 0 ≤ setF z j v i ∧ setF z j v i < 18446744073709551616 := by
  intro i; unfold setF; split
  · exact ⟨h0, h1⟩
  · exact h i
theorem WIn2.next {x y i k : Nat} {z : Nat → Int} {c lo c' : Int} (h : WIn2 x y i k z c) (hi : i < 4) (hk : k < 4) (l0 : 0 ≤ lo) (l1 : lo < 18446744073709551616) (c0 : 0 ≤ c') (c1 : c' < 18446744073709551616)
    (hs : z (i + k) + c + dig 18446744073709551616 x i * dig 18446744073709551616 y k = lo + c' * 18446744073709551616) : WIn2 x y i (k + 1) (setF z (i + k) lo) c' := by
  refine ⟨setF_bd h.bd l0 l1, c0, c1, ?_, fun j hj => by simp only [setF]; rw [if_neg (by omega)]; exact h.z j hj⟩
  rw [num_setF (by omega)]
  have e1 : ((18446744073709551616 ^ (i + (k + 1)) : Nat) : Int) = (18446744073709551616 ^ (i + k) : Nat) * 18446744073709551616 := by rw [← Nat.add_assoc, Nat.pow_succ]; simp
  rw [e1, wide_step h.v hs]
  rw [Nat.mod_pow_succ (x := y)]
  unfold dig
  simp only [Int.natCast_add, Int.natCast_mul, Nat.pow_add, Int.mul_add, Int.add_mul]
  generalize ((x % 18446744073709551616 ^ i : Nat) : Int) = a
  generalize ((x / 18446744073709551616 ^ i % 18446744073709551616 : Nat) : Int) = b
  generalize ((y / 18446744073709551616 ^ k % 18446744073709551616 : Nat) : Int) = d
  generalize ((y % 18446744073709551616 ^ k : Nat) : Int) = e
  generalize ((18446744073709551616 ^ i : Nat) : Int) = p
  generalize ((18446744073709551616 ^ k : Nat) : Int) = q
  grind
theorem wide_p (x y : Nat) (hx : x < 115792089237316195423570985008687907853269984665640564039457584007913129639936) (hy : y < 115792089237316195423570985008687907853269984665640564039457584007913129639936) : Pure Tryd.prog 29 [wE x, wE y] (dE (x * y)) := by
  have b64 : ∀ n i : Nat, 0 ≤ dig 18446744073709551616 n i ∧ dig 18446744073709551616 n i < 18446744073709551616 := fun n i => ⟨dig_nn _ _ _, dig_lt (by decide) _ _⟩
  have hpp : ∀ i k : Nat, 0 ≤ dig 18446744073709551616 x i * dig 18446744073709551616 y k ∧ dig 18446744073709551616 x i * dig 18446744073709551616 y k ≤ 340282366920938463426481119284349108225 := by
    intro i k
    have h1 := b64 x i
    have h2 := b64 y k
    exact ⟨Int.mul_nonneg h1.1 h2.1, Int.le_trans (Int.mul_le_mul (show dig 18446744073709551616 x i ≤ 18446744073709551615 by omega) (show dig 18446744073709551616 y k ≤ 18446744073709551615 by omega) h2.1 (by omega)) (by omega)⟩
  rw [wE_ints, wE_ints]
  refine pure_p (args := [.agg (ints .u64 (dig 18446744073709551616 x) 4), .agg (ints .u64 (dig 18446744073709551616 y) 4)]) en29 (by simp [closed, closeds, closed_wE, closeds_ints]) Tryd.func29 rfl in29 (by simp [Tryd.f29]) (by simp [closeds, closed, closed_wE, closeds_ints]) (fun w => next_of 1000 ?_)
  simp (maxSteps := 4000000) (disch := omega) only [go_sem, Nat.reduceBEq, Nat.reduceAdd, Nat.reduceMul, Nat.reduceSub, Nat.reduceLT, Nat.reduceLeDiff, Int.reduceToNat, Int.reduceLT, Int.reduceLE, Int.reduceAdd, Int.reduceMul, Int.reduceSub, Int.reduceNeg, Int.reduceDiv, Int.reduceMod, Nat.reduceBNe, Nat.reduceGT, Int.reduceBEq, Int.reduceBNe, Int.reduceGT, Nat.reduceDiv, Nat.reduceMod, Nat.reducePow, Int.reducePow, gt_iff_lt, ge_iff_le, List.reduceReplicate, ↓reduceIte, Tryd.f29]
  repeat (with_reducible refine And.intro (by first | omega | assumption | (constructor <;> assumption) | (simp; done) | (simp; omega) | (simp [*]; done)) ?_)
  refine loopU (S := Nat × (Nat → Int)) (fun s => s.1 ≤ 4 ∧ WIn x y s.1 s.2)
    (fun s => ⟨[(12, .int .i64 (s.1 : Nat)), (5, .ptr 3 0), (4, .ptr 2 0), (3, .ptr 1 0), (2, .ptr 0 0)], 4,
      [(3, some (.cells (ints .u64 s.2 8) 36 (0, 0))), (2, some (.cells (ints .u64 (fun _ => 0) 8) 36 (0, 0))), (1, some (.cells (ints .u64 (dig 18446744073709551616 y) 4) 24 (0, 0))), (0, some (.cells (ints .u64 (dig 18446744073709551616 x) 4) 24 (0, 0)))], base w, []⟩)
    (fun s => 4 - s.1) (0, fun _ => 0) ⟨by omega, ⟨fun j => ⟨Int.le_refl _, by show (0 : Int) < 18446744073709551616; omega⟩, by simp [num, Nat.mod_one], fun _ _ => rfl⟩⟩ (Weak.sub (weak_of (by simp [wσ, go_sem, closed, closeds, closeds_ints]) (by simp [whs, go_sem, EObj.closed, closed, closeds, closeds_ints]) (by simp [*]) rfl rfl (by simp))) ?_
  rintro ⟨i, z⟩ ⟨hi, hw⟩
  simp only at hi hw
  refine next_of 1000 ?_
  simp (maxSteps := 4000000) (disch := omega) only [go_sem, Nat.reduceBEq, Nat.reduceAdd, Nat.reduceMul, Nat.reduceSub, Nat.reduceLT, Nat.reduceLeDiff, Int.reduceToNat, Int.reduceLT, Int.reduceLE, Int.reduceAdd, Int.reduceMul, Int.reduceSub, Int.reduceNeg, Int.reduceDiv, Int.reduceMod, Nat.reduceBNe, Nat.reduceGT, Int.reduceBEq, Int.reduceBNe, Int.reduceGT, Nat.reduceDiv, Nat.reduceMod, Nat.reducePow, Int.reducePow, gt_iff_lt, ge_iff_le, List.reduceReplicate, ↓reduceIte]
  repeat (with_reducible refine And.intro (by first | omega | assumption | (constructor <;> assumption) | (simp; done) | (simp; omega) | (simp [*]; done)) ?_)
  refine condS_split (fun h => ?_) (fun h => ?_)
  all_goals (try simp only [bne_iff_ne, ne_eq, beq_iff_eq, decide_eq_true_eq, decide_eq_false_iff_not, Bool.not_eq_true, Bool.not_eq_false, Bool.not_true, Bool.not_false, bne_eq_false_iff_eq, beq_eq_false_iff_ne, Bool.and_eq_true, Bool.or_eq_true, Bool.and_eq_false_imp, Bool.or_eq_false_iff, Bool.not_eq_true', Bool.not_eq_false', Int.not_lt, Int.not_le] at h)
  · simp (maxSteps := 4000000) (disch := omega) only [go_sem, Nat.reduceBEq, Nat.reduceAdd, Nat.reduceMul, Nat.reduceSub, Nat.reduceLT, Nat.reduceLeDiff, Int.reduceToNat, Int.reduceLT, Int.reduceLE, Int.reduceAdd, Int.reduceMul, Int.reduceSub, Int.reduceNeg, Int.reduceDiv, Int.reduceMod, Nat.reduceBNe, Nat.reduceGT, Int.reduceBEq, Int.reduceBNe, Int.reduceGT, Nat.reduceDiv, Nat.reduceMod, Nat.reducePow, Int.reducePow, gt_iff_lt, ge_iff_le, List.reduceReplicate, ↓reduceIte]
    repeat (with_reducible refine And.intro (by first | omega | assumption | (constructor <;> assumption) | (simp; done) | (simp; omega) | (simp [*]; done)) ?_)
    refine loopU (S := Nat × (Nat → Int) × Int) (fun s => s.1 ≤ 4 ∧ WIn2 x y i s.1 s.2.1 s.2.2)
      (fun s => ⟨[(15, .int .i64 (s.1 : Nat)), (7, .int .u64 s.2.2), (6, .int .i64 (i : Nat)), (12, .int .i64 (i : Nat)), (5, .ptr 3 0), (4, .ptr 2 0), (3, .ptr 1 0), (2, .ptr 0 0)], 4,
        [(3, some (.cells (ints .u64 s.2.1 8) 36 (0, 0))), (2, some (.cells (ints .u64 (fun _ => 0) 8) 36 (0, 0))), (1, some (.cells (ints .u64 (dig 18446744073709551616 y) 4) 24 (0, 0))), (0, some (.cells (ints .u64 (dig 18446744073709551616 x) 4) 24 (0, 0)))], base w, []⟩)
      (fun s => 4 - s.1) (0, z, 0) ⟨by omega, ⟨hw.bd, by simp, by simp, by simpa [Nat.mod_one] using hw.v, hw.z⟩⟩ (Weak.sub (weak_of (by simp [wσ, go_sem, closed, closeds, closeds_ints]) (by simp [whs, go_sem, EObj.closed, closed, closeds, closeds_ints]) (by simp [*]) rfl rfl (by simp))) ?_
    rintro ⟨k, z, c⟩ ⟨hk, hw2⟩
    simp only at hk hw2
    refine next_of 1000 ?_
    simp (maxSteps := 4000000) (disch := omega) only [go_sem, Nat.reduceBEq, Nat.reduceAdd, Nat.reduceMul, Nat.reduceSub, Nat.reduceLT, Nat.reduceLeDiff, Int.reduceToNat, Int.reduceLT, Int.reduceLE, Int.reduceAdd, Int.reduceMul, Int.reduceSub, Int.reduceNeg, Int.reduceDiv, Int.reduceMod, Nat.reduceBNe, Nat.reduceGT, Int.reduceBEq, Int.reduceBNe, Int.reduceGT, Nat.reduceDiv, Nat.reduceMod, Nat.reducePow, Int.reducePow, gt_iff_lt, ge_iff_le, List.reduceReplicate, ↓reduceIte]
    repeat (with_reducible refine And.intro (by first | omega | assumption | (constructor <;> assumption) | (simp; done) | (simp; omega) | (simp [*]; done)) ?_)
    refine condS_split (fun h2 => ?_) (fun h2 => ?_)
    all_goals (try simp only [bne_iff_ne, ne_eq, beq_iff_eq, decide_eq_true_eq, decide_eq_false_iff_not, Bool.not_eq_true, Bool.not_eq_false, Bool.not_true, Bool.not_false, bne_eq_false_iff_eq, beq_eq_false_iff_ne, Bool.and_eq_true, Bool.or_eq_true, Bool.and_eq_false_imp, Bool.or_eq_false_iff, Bool.not_eq_true', Bool.not_eq_false', Int.not_lt, Int.not_le] at h2)
    · have h3 := hpp i k
      have h4 := hw2.bd (i + k)
      have h5 := hw2.c0
      have h6 := hw2.c1
      have e1 : (((i : Nat) : Int) + (k : Nat)).toNat = i + k := by omega
      repeat' (first
        | with_reducible refine And.intro (by first | omega | assumption | (constructor <;> assumption) | (simp; done) | (simp; omega) | (simp [*]; done)) ?_
        | simp (maxSteps := 4000000) (disch := omega) only [go_sem, Nat.reduceBEq, Nat.reduceAdd, Nat.reduceMul, Nat.reduceSub, Nat.reduceLT, Nat.reduceLeDiff, Int.reduceToNat, Int.reduceLT, Int.reduceLE, Int.reduceAdd, Int.reduceMul, Int.reduceSub, Int.reduceNeg, Int.reduceDiv, Int.reduceMod, Nat.reduceBNe, Nat.reduceGT, Int.reduceBEq, Int.reduceBNe, Int.reduceGT, Nat.reduceDiv, Nat.reduceMod, Nat.reducePow, Int.reducePow, gt_iff_lt, ge_iff_le, List.reduceReplicate, ↓reduceIte, Int.toNat_natCast, e1]
        | with_reducible refine roundS (next_of 1000 ?_)
        | with_reducible refine drawS_of mixed (by kernel_rfl) (dg_of 1000 ?_)
        | with_reducible refine endD_of (by kernel_rfl) (next_of 1000 ?_)
        | refine callS_p (mul64_p _ _ (b64 _ _).1 (b64 _ _).2 (b64 _ _).1 (b64 _ _).2) (next_of 1000 ?_)
        | refine callD_p (mul64_p _ _ (b64 _ _).1 (b64 _ _).2 (b64 _ _).1 (b64 _ _).2) (dg_of 1000 ?_)
        | refine callS_e (add64_e _ _ _ (by omega) (by omega) (by omega) (by omega)) (next_of 1000 ?_)
        | refine callD_e (add64_e _ _ _ (by omega) (by omega) (by omega) (by omega)) (dg_of 1000 ?_)
        | with_reducible refine next_of 1000 ?_
        | ((first | refine condS_split (fun h => ?_) (fun h => ?_) | refine testS_split (fun h => ?_) (fun h => ?_) | refine testD_split (fun h => ?_) (fun h => ?_)) <;> (try simp only [bne_iff_ne, ne_eq, beq_iff_eq, decide_eq_true_eq, decide_eq_false_iff_not, Bool.not_eq_true, Bool.not_eq_false, Bool.not_true, Bool.not_false, bne_eq_false_iff_eq, beq_eq_false_iff_ne, Bool.and_eq_true, Bool.or_eq_true, Bool.and_eq_false_imp, Bool.or_eq_false_iff, Bool.not_eq_true', Bool.not_eq_false', Int.not_lt, Int.not_le] at h) <;> (try (exfalso; omega))))
      simp only [wide_lc, wide_cc]
      exact ⟨(k + 1, setF z (i + k) ((dig 18446744073709551616 x i * dig 18446744073709551616 y k + z (i + k) + c) % 18446744073709551616), (dig 18446744073709551616 x i * dig 18446744073709551616 y k + z (i + k) + c) / 18446744073709551616), ⟨by show k + 1 ≤ 4; omega, hw2.next (by omega) (by omega) (by omega) (by omega) (by show 0 ≤ (dig 18446744073709551616 x i * dig 18446744073709551616 y k + z (i + k) + c) / 18446744073709551616; omega) (by show (dig 18446744073709551616 x i * dig 18446744073709551616 y k + z (i + k) + c) / 18446744073709551616 < 18446744073709551616; omega) (by show z (i + k) + c + dig 18446744073709551616 x i * dig 18446744073709551616 y k = (dig 18446744073709551616 x i * dig 18446744073709551616 y k + z (i + k) + c) % 18446744073709551616 + (dig 18446744073709551616 x i * dig 18446744073709551616 y k + z (i + k) + c) / 18446744073709551616 * 18446744073709551616; omega)⟩, Weak.sub (weak_of (by simp [wσ, go_sem, closed, closeds, closeds_ints]) (by simp [whs, go_sem, EObj.closed, closed, closeds, closeds_ints]) (by simp [*]) rfl rfl (by simp)), by show 4 - (k + 1) < 4 - k; omega⟩
    · have hk4 : k = 4 := by omega
      subst hk4
      have h5 := hw2.c0
      have h6 := hw2.c1
      have e1 : (((i : Nat) : Int) + 4).toNat = i + 4 := by omega
      repeat' (first
        | with_reducible refine And.intro (by first | omega | assumption | (constructor <;> assumption) | (simp; done) | (simp; omega) | (simp [*]; done)) ?_
        | simp (maxSteps := 4000000) (disch := omega) only [go_sem, Nat.reduceBEq, Nat.reduceAdd, Nat.reduceMul, Nat.reduceSub, Nat.reduceLT, Nat.reduceLeDiff, Int.reduceToNat, Int.reduceLT, Int.reduceLE, Int.reduceAdd, Int.reduceMul, Int.reduceSub, Int.reduceNeg, Int.reduceDiv, Int.reduceMod, Nat.reduceBNe, Nat.reduceGT, Int.reduceBEq, Int.reduceBNe, Int.reduceGT, Nat.reduceDiv, Nat.reduceMod, Nat.reducePow, Int.reducePow, gt_iff_lt, ge_iff_le, List.reduceReplicate, ↓reduceIte, e1]
        | with_reducible refine roundS (next_of 1000 ?_)
        | with_reducible refine drawS_of mixed (by kernel_rfl) (dg_of 1000 ?_)
        | with_reducible refine endD_of (by kernel_rfl) (next_of 1000 ?_)
        | with_reducible refine next_of 1000 ?_
        | ((first | refine condS_split (fun h => ?_) (fun h => ?_) | refine testS_split (fun h => ?_) (fun h => ?_) | refine testD_split (fun h => ?_) (fun h => ?_)) <;> (try simp only [bne_iff_ne, ne_eq, beq_iff_eq, decide_eq_true_eq, decide_eq_false_iff_not, Bool.not_eq_true, Bool.not_eq_false, Bool.not_true, Bool.not_false, bne_eq_false_iff_eq, beq_eq_false_iff_ne, Bool.and_eq_true, Bool.or_eq_true, Bool.and_eq_false_imp, Bool.or_eq_false_iff, Bool.not_eq_true', Bool.not_eq_false', Int.not_lt, Int.not_le] at h) <;> (try (exfalso; omega))))
      refine ⟨(i + 1, setF z (i + 4) c), ⟨by show i + 1 ≤ 4; omega, ⟨setF_bd hw2.bd h5 h6, ?_, fun j hj => by simp only [setF]; rw [if_neg (by omega)]; exact hw2.z j (by omega)⟩⟩, Weak.sub (weak_of (by simp [wσ, go_sem, closed, closeds, closeds_ints]) (by simp [whs, go_sem, EObj.closed, closed, closeds, closeds_ints]) (by simp [*]) rfl rfl (by simp)), by show 4 - (i + 1) < 4 - i; omega⟩
      show num 18446744073709551616 (setF z (i + 4) c) 8 = ((x % 18446744073709551616 ^ (i + 1) * y : Nat) : Int)
      rw [num_setF (by omega), hw2.z (i + 4) (Nat.le_refl _), Int.sub_zero, hw2.v, Nat.mod_pow_succ (x := x)]
      have : y % 18446744073709551616 ^ 4 = y := Nat.mod_eq_of_lt (by omega)
      rw [this, Nat.add_mul, Nat.mul_comm (18446744073709551616 ^ i), Nat.mul_right_comm]
  · have hi4 : i = 4 := by omega
    subst hi4
    simp (maxSteps := 4000000) (disch := omega) only [go_sem, Nat.reduceBEq, Nat.reduceAdd, Nat.reduceMul, Nat.reduceSub, Nat.reduceLT, Nat.reduceLeDiff, Int.reduceToNat, Int.reduceLT, Int.reduceLE, Int.reduceAdd, Int.reduceMul, Int.reduceSub, Int.reduceNeg, Int.reduceDiv, Int.reduceMod, Nat.reduceBNe, Nat.reduceGT, Int.reduceBEq, Int.reduceBNe, Int.reduceGT, Nat.reduceDiv, Nat.reduceMod, Nat.reducePow, Int.reducePow, gt_iff_lt, ge_iff_le, List.reduceReplicate, ↓reduceIte]
    repeat (with_reducible refine And.intro (by first | omega | assumption | (constructor <;> assumption) | (simp; done) | (simp; omega) | (simp [*]; done)) ?_)
    repeat' (first
      | with_reducible refine And.intro (by first | omega | assumption | (constructor <;> assumption) | (simp; done) | (simp; omega) | (simp [*]; done)) ?_
      | simp (maxSteps := 4000000) (disch := omega) only [go_sem, Nat.reduceBEq, Nat.reduceAdd, Nat.reduceMul, Nat.reduceSub, Nat.reduceLT, Nat.reduceLeDiff, Int.reduceToNat, Int.reduceLT, Int.reduceLE, Int.reduceAdd, Int.reduceMul, Int.reduceSub, Int.reduceNeg, Int.reduceDiv, Int.reduceMod, Nat.reduceBNe, Nat.reduceGT, Int.reduceBEq, Int.reduceBNe, Int.reduceGT, Nat.reduceDiv, Nat.reduceMod, Nat.reducePow, Int.reducePow, gt_iff_lt, ge_iff_le, List.reduceReplicate, ↓reduceIte]
      | with_reducible refine roundS (next_of 1000 ?_)
      | with_reducible refine drawS_of mixed (by kernel_rfl) (dg_of 1000 ?_)
      | with_reducible refine endD_of (by kernel_rfl) (next_of 1000 ?_)
      | with_reducible refine next_of 1000 ?_
      | ((first | refine condS_split (fun h => ?_) (fun h => ?_) | refine testS_split (fun h => ?_) (fun h => ?_) | refine testD_split (fun h => ?_) (fun h => ?_)) <;> (try simp only [bne_iff_ne, ne_eq, beq_iff_eq, decide_eq_true_eq, decide_eq_false_iff_not, Bool.not_eq_true, Bool.not_eq_false, Bool.not_true, Bool.not_false, bne_eq_false_iff_eq, beq_eq_false_iff_ne, Bool.and_eq_true, Bool.or_eq_true, Bool.and_eq_false_imp, Bool.or_eq_false_iff, Bool.not_eq_true', Bool.not_eq_false', Int.not_lt, Int.not_le] at h) <;> (try (exfalso; omega))))
    have hv := hw.v
    rw [Nat.mod_eq_of_lt (show x < 18446744073709551616 ^ 4 by omega)] at hv
    rw [ints_num (by decide) (fun i _ => hw.bd i) hv]
theorem take_wC (n : Nat) : (ints .u64 (dig 18446744073709551616 n) 8).take 4 = wC (n % 115792089237316195423570985008687907853269984665640564039457584007913129639936) := by
  simp only [ints, List.range, List.range.loop, List.map_cons, List.map_nil, List.take_succ_cons, List.take_zero, dig, wC, List.cons.injEq, EV.int.injEq, true_and, and_true]
  refine ⟨?_, ?_, ?_, ?_⟩ <;> simp only [Nat.pow_zero, Nat.pow_one, Nat.reducePow] <;> omega
theorem mul_p (x y : Nat) (hx : x < 115792089237316195423570985008687907853269984665640564039457584007913129639936) (hy : y < 115792089237316195423570985008687907853269984665640564039457584007913129639936) : Pure Tryd.prog 26 [wE x, wE y] (wE (x * y % 115792089237316195423570985008687907853269984665640564039457584007913129639936)) := by
  refine pure_p (args := [wE x, wE y]) en26 (by simp [closed, closeds, closed_wE, closeds_ints]) Tryd.func26 rfl in26 (by simp [Tryd.f26]) (by simp [closeds, closed, closed_wE, closeds_ints]) (fun w => next_of 1000 ?_)
  simp (maxSteps := 4000000) (disch := omega) only [go_sem, Nat.reduceBEq, Nat.reduceAdd, Nat.reduceMul, Nat.reduceSub, Nat.reduceLT, Nat.reduceLeDiff, Int.reduceToNat, Int.reduceLT, Int.reduceLE, Int.reduceAdd, Int.reduceMul, Int.reduceSub, Int.reduceNeg, Int.reduceDiv, Int.reduceMod, Nat.reduceBNe, Nat.reduceGT, Int.reduceBEq, Int.reduceBNe, Int.reduceGT, Nat.reduceDiv, Nat.reduceMod, Nat.reducePow, Int.reducePow, gt_iff_lt, ge_iff_le, List.reduceReplicate, ↓reduceIte, Tryd.f26]
  repeat (with_reducible refine And.intro (by first | omega | assumption | (constructor <;> assumption) | (simp; done) | (simp; omega) | (simp [*]; done)) ?_)
  repeat' (first
    | with_reducible refine And.intro (by first | omega | assumption | (constructor <;> assumption) | (simp; done) | (simp; omega) | (simp [*]; done)) ?_
    | simp (maxSteps := 4000000) (disch := omega) only [go_sem, Nat.reduceBEq, Nat.reduceAdd, Nat.reduceMul, Nat.reduceSub, Nat.reduceLT, Nat.reduceLeDiff, Int.reduceToNat, Int.reduceLT, Int.reduceLE, Int.reduceAdd, Int.reduceMul, Int.reduceSub, Int.reduceNeg, Int.reduceDiv, Int.reduceMod, Nat.reduceBNe, Nat.reduceGT, Int.reduceBEq, Int.reduceBNe, Int.reduceGT, Nat.reduceDiv, Nat.reduceMod, Nat.reducePow, Int.reducePow, gt_iff_lt, ge_iff_le, List.reduceReplicate, ↓reduceIte]
    | with_reducible refine roundS (next_of 1000 ?_)
    | with_reducible refine drawS_of mixed (by kernel_rfl) (dg_of 1000 ?_)
    | with_reducible refine endD_of (by kernel_rfl) (next_of 1000 ?_)
    | refine callS_p (wide_p _ _ hx hy) (next_of 1000 ?_)
    | refine callD_p (wide_p _ _ hx hy) (dg_of 1000 ?_)
    | with_reducible refine next_of 1000 ?_
    | ((first | refine condS_split (fun h => ?_) (fun h => ?_) | refine testS_split (fun h => ?_) (fun h => ?_) | refine testD_split (fun h => ?_) (fun h => ?_)) <;> (try simp only [bne_iff_ne, ne_eq, beq_iff_eq, decide_eq_true_eq, decide_eq_false_iff_not, Bool.not_eq_true, Bool.not_eq_false, Bool.not_true, Bool.not_false, bne_eq_false_iff_eq, beq_eq_false_iff_ne, Bool.and_eq_true, Bool.or_eq_true, Bool.and_eq_false_imp, Bool.or_eq_false_iff, Bool.not_eq_true', Bool.not_eq_false', Int.not_lt, Int.not_le] at h) <;> (try (exfalso; omega))))
  refine arrayOfS (i := 3) (off := 0) (len := 4) (cap := 8) rfl Tryd.underlying24 rfl (by omega) (by show 3 < 4; omega) (next_of 1000 ?_)
  repeat' (first
    | with_reducible refine And.intro (by first | omega | assumption | (constructor <;> assumption) | (simp; done) | (simp; omega) | (simp [*]; done)) ?_
    | simp (maxSteps := 4000000) (disch := omega) only [go_sem, Nat.reduceBEq, Nat.reduceAdd, Nat.reduceMul, Nat.reduceSub, Nat.reduceLT, Nat.reduceLeDiff, Int.reduceToNat, Int.reduceLT, Int.reduceLE, Int.reduceAdd, Int.reduceMul, Int.reduceSub, Int.reduceNeg, Int.reduceDiv, Int.reduceMod, Nat.reduceBNe, Nat.reduceGT, Int.reduceBEq, Int.reduceBNe, Int.reduceGT, Nat.reduceDiv, Nat.reduceMod, Nat.reducePow, Int.reducePow, gt_iff_lt, ge_iff_le, List.reduceReplicate, ↓reduceIte, take_wC]
    | with_reducible refine roundS (next_of 1000 ?_)
    | with_reducible refine drawS_of mixed (by kernel_rfl) (dg_of 1000 ?_)
    | with_reducible refine endD_of (by kernel_rfl) (next_of 1000 ?_)
    | with_reducible refine next_of 1000 ?_
    | ((first | refine condS_split (fun h => ?_) (fun h => ?_) | refine testS_split (fun h => ?_) (fun h => ?_) | refine testD_split (fun h => ?_) (fun h => ?_)) <;> (try simp only [bne_iff_ne, ne_eq, beq_iff_eq, decide_eq_true_eq, decide_eq_false_iff_not, Bool.not_eq_true, Bool.not_eq_false, Bool.not_true, Bool.not_false, bne_eq_false_iff_eq, beq_eq_false_iff_ne, Bool.and_eq_true, Bool.or_eq_true, Bool.and_eq_false_imp, Bool.or_eq_false_iff, Bool.not_eq_true', Bool.not_eq_false', Int.not_lt, Int.not_le] at h) <;> (try (exfalso; omega))))
end Go.Proofs.YtbilnedgpgpanaaDoor
