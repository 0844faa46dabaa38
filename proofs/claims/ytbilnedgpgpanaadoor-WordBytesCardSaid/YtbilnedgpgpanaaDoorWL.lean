/- Part of a proof over the seat YtbilnedgpgpanaaDoor. -/
import Derived.Test.YtbilnedgpgpanaaDoorWK
namespace Go.Proofs.YtbilnedgpgpanaaDoor
open Go Go.Ew
set_option maxRecDepth 100000
set_option linter.unusedSimpArgs false
set_option linter.unusedVariables false
set_option maxHeartbeats 1000000
theorem norm_D {D n s : Nat} (h0 : 18446744073709551616 ^ n ≤ D) (h1 : D < 18446744073709551616 ^ (n + 1)) (hs : s = 64 - blen (D / 18446744073709551616 ^ n)) : s < 64 ∧ D * 2 ^ s < 18446744073709551616 ^ (n + 1) ∧ 9223372036854775808 * 18446744073709551616 ^ n ≤ D * 2 ^ s ∧ (D / 18446744073709551616 ^ n < 18446744073709551616 ∧ 0 < D / 18446744073709551616 ^ n) := by
  have hP : 0 < 18446744073709551616 ^ n := Nat.pow_pos (by omega)
  have ht0 : 0 < D / 18446744073709551616 ^ n := Nat.div_pos h0 hP
  have ht1 : D / 18446744073709551616 ^ n < 18446744073709551616 := by rw [Nat.div_lt_iff_lt_mul hP, Nat.mul_comm, ← Nat.pow_succ]; exact h1
  obtain ⟨hs1, hs2, hs3⟩ := norm_shift ht0 ht1 hs
  refine ⟨hs1, ?_, ?_, ht1, ht0⟩
  · have e1 := Nat.div_add_mod D (18446744073709551616 ^ n)
    have e2 := Nat.mod_lt D hP
    generalize D / 18446744073709551616 ^ n = t at *
    have e3 : D < (t + 1) * 18446744073709551616 ^ n := by rw [Nat.add_mul, Nat.mul_comm t]; omega
    have e4 : D * 2 ^ s < (t + 1) * 18446744073709551616 ^ n * 2 ^ s := Nat.mul_lt_mul_of_pos_right e3 (Nat.pow_pos (by omega))
    have e5 : (t + 1) * 2 ^ s ≤ 18446744073709551616 := by
      have h64 : (18446744073709551616 : Nat) = 2 ^ (64 - s) * 2 ^ s := by rw [← Nat.pow_add, show 64 - s + s = 64 by omega]
      rw [h64] at hs3 ⊢
      exact Nat.mul_le_mul_right _ (Nat.lt_of_mul_lt_mul_right hs3)
    have e6 : (t + 1) * 18446744073709551616 ^ n * 2 ^ s ≤ 18446744073709551616 ^ (n + 1) := by
      rw [Nat.mul_right_comm, Nat.pow_succ, Nat.mul_comm (18446744073709551616 ^ n)]; exact Nat.mul_le_mul_right _ e5
    omega
  · have e1 : D / 18446744073709551616 ^ n * 18446744073709551616 ^ n ≤ D := Nat.div_mul_le_self _ _
    have e2 : 9223372036854775808 * 18446744073709551616 ^ n ≤ D / 18446744073709551616 ^ n * 2 ^ s * 18446744073709551616 ^ n := Nat.mul_le_mul_right _ hs2
    have e3 : D / 18446744073709551616 ^ n * 18446744073709551616 ^ n * 2 ^ s ≤ D * 2 ^ s := Nat.mul_le_mul_right _ e1
    rw [Nat.mul_right_comm] at e3
    exact Nat.le_trans e2 e3
/-- One digit of the quotient taken off. -/
theorem step_digits {X V j n : Nat} (hV : V < 18446744073709551616 ^ n) (hV0 : 0 < V) :
    numS j (dig 18446744073709551616 (X % (V * 18446744073709551616 ^ (j + 1)))) (n + 1) = (((X / 18446744073709551616 ^ j) % (V * 18446744073709551616) : Nat) : Int) ∧ (X / 18446744073709551616 ^ j) % (V * 18446744073709551616) / V = X / V / 18446744073709551616 ^ j % 18446744073709551616 ∧
      putD (dig 18446744073709551616 (X % (V * 18446744073709551616 ^ (j + 1)))) j (n + 1) ((X / 18446744073709551616 ^ j) % (V * 18446744073709551616) % V) = dig 18446744073709551616 (X % (V * 18446744073709551616 ^ j)) := by
  have hP : 0 < 18446744073709551616 ^ j := Nat.pow_pos (by omega)
  have hVB : V * 18446744073709551616 ≤ 18446744073709551616 ^ (n + 1) := by rw [Nat.pow_succ]; exact Nat.mul_le_mul_right _ (Nat.le_of_lt hV)
  have e0 : V * 18446744073709551616 ^ (j + 1) = 18446744073709551616 ^ j * (V * 18446744073709551616) := by rw [Nat.pow_succ, Nat.mul_comm (18446744073709551616 ^ j), ← Nat.mul_assoc, Nat.mul_comm (18446744073709551616 ^ j)]
  have e1 : X % (V * 18446744073709551616 ^ (j + 1)) / 18446744073709551616 ^ j = X / 18446744073709551616 ^ j % (V * 18446744073709551616) := by rw [e0, Nat.mod_mul_right_div_self]
  have hA : X / 18446744073709551616 ^ j % (V * 18446744073709551616) < V * 18446744073709551616 := Nat.mod_lt _ (Nat.mul_pos hV0 (by omega))
  refine ⟨?_, ?_, ?_⟩
  · rw [numS_dig, e1, Nat.mod_eq_of_lt (Nat.lt_of_lt_of_le hA hVB)]
  · rw [Nat.mod_mul_right_div_self, Nat.div_div_eq_div_mul, Nat.div_div_eq_div_mul, Nat.mul_comm V]
  · have e2 : X / 18446744073709551616 ^ j % (V * 18446744073709551616) % V = X / 18446744073709551616 ^ j % V := Nat.mod_mul_right_mod _ _ _
    have e3 : X % (V * 18446744073709551616 ^ j) / 18446744073709551616 ^ j = X / 18446744073709551616 ^ j % V := by rw [Nat.mul_comm V, Nat.mod_mul_right_div_self]
    rw [e2]
    funext i
    simp only [putD]
    by_cases h1 : j ≤ i ∧ i < j + (n + 1)
    · rw [if_pos h1]
      have := dig_shift (X % (V * 18446744073709551616 ^ j)) j (i - j)
      rw [show j + (i - j) = i by omega, e3] at this
      exact this.symm
    · rw [if_neg h1]
      by_cases h2 : i < j
      · have a1 := dig_low (N := X % (V * 18446744073709551616 ^ (j + 1))) h2
        have a2 := dig_low (N := X % (V * 18446744073709551616 ^ j)) h2
        rw [e0, Nat.mod_mul_right_mod] at a1
        rw [Nat.mul_comm V, Nat.mod_mul_right_mod] at a2
        rw [e0, Nat.mul_comm V (18446744073709551616 ^ j), ← a1, ← a2]
      · have hi : j + (n + 1) ≤ i := by omega
        have hb : V * 18446744073709551616 ^ (j + 1) ≤ 18446744073709551616 ^ i := by
          refine Nat.le_trans ?_ (Nat.pow_le_pow_right (by omega) hi)
          rw [e0, Nat.pow_add]; exact Nat.mul_le_mul_left _ hVB
        have hb2 : V * 18446744073709551616 ^ j ≤ 18446744073709551616 ^ i := by
          refine Nat.le_trans ?_ hb
          exact Nat.mul_le_mul_left _ (Nat.pow_le_pow_right (by omega) (by omega))
        rw [dig_big (Nat.lt_of_lt_of_le (Nat.mod_lt _ (Nat.mul_pos hV0 (Nat.pow_pos (by omega)))) hb), dig_big (Nat.lt_of_lt_of_le (Nat.mod_lt _ (Nat.mul_pos hV0 hP)) hb2)]
/-- A limb of a number shifted down. -/
theorem shr_digit {Y i s : Nat} (hs0 : 0 < s) (hs : s < 64) : dig 18446744073709551616 (Y / 2 ^ s) i = bOr .u64 (dig 18446744073709551616 Y i / (2 : Int) ^ s) (dig 18446744073709551616 Y (i + 1) * (2 : Int) ^ (64 - s) % 18446744073709551616) := by
  obtain ⟨h, l, A1, A2, A3, A4, A5, A6, A7, A8, A9⟩ := shl_limb' (t := dig 18446744073709551616 Y (i + 1)) (r := 64 - s) (dbd _ _).1 (dbd _ _).2 (by omega) (by omega)
  have hd := dbd Y i
  have hS : (0 : Int) < 2 ^ s := Int.pow_pos (by omega)
  have hRS : (2 : Int) ^ (64 - s) * 2 ^ s = 18446744073709551616 := by rw [← Int.pow_add, show 64 - s + s = 64 by omega]; decide
  have hq0 : 0 ≤ dig 18446744073709551616 Y i / (2 : Int) ^ s := Int.ediv_nonneg hd.1 (Int.le_of_lt hS)
  have hq1 : dig 18446744073709551616 Y i / (2 : Int) ^ s < (2 : Int) ^ (64 - s) := by
    apply Int.ediv_lt_of_lt_mul hS
    rw [hRS]; exact hd.2
  have hor : bOr .u64 (dig 18446744073709551616 Y i / (2 : Int) ^ s) l = dig 18446744073709551616 Y i / (2 : Int) ^ s + l := by
    have := A8 _ hq0 hq1
    unfold bOr at *
    rw [BitVec.or_comm, this]; omega
  rw [A1, hor, ← A1]
  -- in numbers
  obtain ⟨Z, hZ⟩ : ∃ Z, Z = Y / 18446744073709551616 ^ i := ⟨_, rfl⟩
  have f1 : dig 18446744073709551616 (Y / 2 ^ s) i = ((Z / 2 ^ s % 18446744073709551616 : Nat) : Int) := by
    unfold dig; rw [hZ, Nat.div_div_eq_div_mul, Nat.div_div_eq_div_mul, Nat.mul_comm]
  have f2 : dig 18446744073709551616 Y i = ((Z % 18446744073709551616 : Nat) : Int) := by unfold dig; rw [← hZ]
  have f3 : dig 18446744073709551616 Y (i + 1) = ((Z / 18446744073709551616 % 18446744073709551616 : Nat) : Int) := by unfold dig; rw [hZ, Nat.pow_succ, Nat.div_div_eq_div_mul]
  have h64 : (18446744073709551616 : Nat) = 2 ^ (64 - s) * 2 ^ s := by rw [← Nat.pow_add, show 64 - s + s = 64 by omega]
  have g1 : Z / 2 ^ s = Z % 18446744073709551616 / 2 ^ s + Z / 18446744073709551616 * 2 ^ (64 - s) := by
    have a1 := Nat.div_add_mod Z 18446744073709551616
    have a2 : Z = Z % 18446744073709551616 + Z / 18446744073709551616 * 2 ^ (64 - s) * 2 ^ s := by
      rw [Nat.mul_assoc, ← h64, Nat.mul_comm (Z / 18446744073709551616)]; omega
    calc Z / 2 ^ s = (Z % 18446744073709551616 + Z / 18446744073709551616 * 2 ^ (64 - s) * 2 ^ s) / 2 ^ s := by rw [← a2]
      _ = _ := Nat.add_mul_div_right _ _ (Nat.pow_pos (by omega))
  have g2 : Z % 18446744073709551616 / 2 ^ s < 2 ^ (64 - s) := by
    rw [Nat.div_lt_iff_lt_mul (Nat.pow_pos (by omega)), ← h64]; exact Nat.mod_lt _ (by omega)
  have g3 : (Z / 18446744073709551616 * 2 ^ (64 - s)) % 18446744073709551616 = Z / 18446744073709551616 % 18446744073709551616 * 2 ^ (64 - s) % 18446744073709551616 := (Nat.mod_mul_mod _ _ _).symm
  have g4 : (Z / 18446744073709551616 * 2 ^ (64 - s)) % 18446744073709551616 = Z / 18446744073709551616 % 2 ^ s * 2 ^ (64 - s) := by
    have h64' : (18446744073709551616 : Nat) = 2 ^ s * 2 ^ (64 - s) := by rw [← Nat.pow_add, show s + (64 - s) = 64 by omega]
    calc _ = (Z / 18446744073709551616 * 2 ^ (64 - s)) % (2 ^ s * 2 ^ (64 - s)) := by rw [← h64']
      _ = _ := Nat.mul_mod_mul_right _ _ _
  have g5 : Z / 18446744073709551616 % 2 ^ s * 2 ^ (64 - s) ≤ (2 ^ s - 1) * 2 ^ (64 - s) := Nat.mul_le_mul_right _ (by have := Nat.mod_lt (Z / 18446744073709551616) (show 0 < 2 ^ s from Nat.pow_pos (by omega)); omega)
  have g6 : (2 ^ s - 1) * 2 ^ (64 - s) = 18446744073709551616 - 2 ^ (64 - s) := by rw [Nat.sub_mul, Nat.one_mul, Nat.mul_comm, ← h64]
  have g7 : 2 ^ (64 - s) ≤ 18446744073709551616 := by rw [show (18446744073709551616 : Nat) = 2 ^ 64 by decide]; exact Nat.pow_le_pow_right (by omega) (by omega)
  have g8 : Z / 2 ^ s % 18446744073709551616 = Z % 18446744073709551616 / 2 ^ s + Z / 18446744073709551616 % 18446744073709551616 * 2 ^ (64 - s) % 18446744073709551616 := by
    rw [g1, Nat.add_mod, ← g3, g4]
    have : Z % 18446744073709551616 / 2 ^ s % 18446744073709551616 = Z % 18446744073709551616 / 2 ^ s := Nat.mod_eq_of_lt (by omega)
    rw [this, Nat.mod_eq_of_lt (by omega)]
  rw [f1, f2, f3, g8]
  simp only [Int.natCast_add, Int.natCast_ediv, Int.natCast_emod, Int.natCast_mul, Int.natCast_pow]
  rfl
theorem divide_long {w : World} {bu bv : Nat} {z y : Nat → Int} {Lu Lv L L' N D : Nat} {Tu Tv : TypeId} (hU : UV w bu bv z y Lu Lv L L' N D Tu Tv) {cu cv n m s : Nat} (hcu : L ≤ cu) (hcv : L' ≤ cv) (hn : limbs D = n + 2) (hm : limbs N = n + 2 + m) (hs : s = 64 - blen (D / 18446744073709551616 ^ (n + 1))) :
    Calls Tryd.prog 116 #[.slice (some ⟨bu, 0, none⟩) L cu, .slice (some ⟨bv, 0, none⟩) L' cv] w
      (RetN (.tup [.sl 2 0 (m + 1) (m + 1), .sl 0 0 (n + 2) (n + 2 + m + 1)]) [.cells (ints .u64 (fun i => if i < n + 2 then dig 18446744073709551616 (N % D) i else dig 18446744073709551616 (N % D * 2 ^ s) i) (n + 2 + m + 1)) 22 (0, 0),
        .cells (ints .u64 (dig 18446744073709551616 (D * 2 ^ s)) (n + 2 + 1)) 22 (0, 0), .cells (ints .u64 (dig 18446744073709551616 (N / D)) (m + 1)) 22 (0, 0)] w) := by
  obtain ⟨l1, l2, l3⟩ := num_limbs hU.hz hU.hN
  obtain ⟨m1, m2, m3⟩ := num_limbs hU.hy hU.hD
  have hDlt : D < 18446744073709551616 ^ (n + 1 + 1) := limbs_le.1 (Nat.le_of_eq hn)
  have hDge : 18446744073709551616 ^ (n + 1) ≤ D := by
    rcases Nat.lt_or_ge D (18446744073709551616 ^ (n + 1)) with h' | h'
    · have := limbs_le.2 h'; omega
    · exact h'
  have hNlt : N < 18446744073709551616 ^ (n + 2 + m) := limbs_le.1 (Nat.le_of_eq hm)
  obtain ⟨s1, s2, s3, s4, s5⟩ := norm_D hDge hDlt hs
  have su := hU.su
  have sv := hU.sv
  have hL := hU.hL
  have hL' := hU.hL'
  have hku := heap_lt hU.u
  have hkv := heap_lt hU.v
  have rc := raw_ints hU.v
  have rs := raw_some hU.v
  rw [hn] at m1 m2
  rw [hm] at l1 l2
  -- the divisor's highest limb
  have hyt : y (n + 1) = ((D / 18446744073709551616 ^ (n + 1) : Nat) : Int) := by rw [m3 _ (by omega), dig, Nat.mod_eq_of_lt s4]
  obtain ⟨t, ht⟩ : ∃ t, t = D / 18446744073709551616 ^ (n + 1) := ⟨_, rfl⟩
  rw [← ht] at hyt hs s4 s5
  have hlz := lead64_p (t : Int) (by omega) (by omega)
  have hbt := blen_64 s4
  rw [Int.toNat_natCast, show (64 : Int) - (blen t : Int) = (s : Int) by omega] at hlz
  obtain ⟨V, hV⟩ : ∃ V, V = D * 2 ^ s := ⟨_, rfl⟩
  obtain ⟨X, hX⟩ : ∃ X, X = N * 2 ^ s := ⟨_, rfl⟩
  have hVlt : V < 18446744073709551616 ^ (n + 2) := by rw [hV]; exact s2
  have hPn : 0 < 18446744073709551616 ^ (n + 1) := Nat.pow_pos (by omega)
  have hV0 : 0 < V := by rw [hV]; omega
  have hXV : X / V = N / D := by rw [hX, hV, Nat.mul_div_mul_right _ _ (Nat.pow_pos (by omega))]
  have hXm : X % V = N % D * 2 ^ s := by rw [hX, hV, Nat.mul_mod_mul_right]
  have e0 : (((n + 2 : Nat) : Int) - 1).toNat = n + 1 := by omega
  refine new_calls _ _ [.raw (.slice (some ⟨bu, 0, none⟩) L cu), .raw (.slice (some ⟨bv, 0, none⟩) L' cv)] Tryd.func116 rfl in116 (by simp [Tryd.f116]) (by simp [closeds, closed]) (next_of 1000 ?_)
  simp (maxSteps := 4000000) (disch := omega) only [go_sem, Nat.reduceBEq, Nat.reduceAdd, Nat.reduceMul, Nat.reduceSub, Nat.reduceLT, Nat.reduceLeDiff, Int.reduceToNat, Int.reduceLT, Int.reduceLE, Int.reduceAdd, Int.reduceMul, Int.reduceSub, Int.reduceNeg, Int.reduceDiv, Int.reduceMod, Nat.reduceBNe, Nat.reduceGT, Int.reduceBEq, Int.reduceBNe, Int.reduceGT, Nat.reduceDiv, Nat.reduceMod, Nat.reducePow, Int.reducePow, gt_iff_lt, ge_iff_le, List.reduceReplicate, ↓reduceIte, Tryd.f116]
  repeat (with_reducible refine And.intro (by first | omega | assumption | (constructor <;> assumption) | (simp; done) | (simp; omega) | (simp [*]; done)) ?_)
  refine callS_pure (.raw (.slice (some ⟨bu, 0, none⟩) (limbs N) cu)) en128 (by simp [closed]) (fun bs w' hh => trim_calls (keep hh hU.u) hU.hz hL (by omega) hcu hU.hN) (next_of 1000 ?_)
  simp (maxSteps := 4000000) (disch := omega) only [go_sem, Nat.reduceBEq, Nat.reduceAdd, Nat.reduceMul, Nat.reduceSub, Nat.reduceLT, Nat.reduceLeDiff, Int.reduceToNat, Int.reduceLT, Int.reduceLE, Int.reduceAdd, Int.reduceMul, Int.reduceSub, Int.reduceNeg, Int.reduceDiv, Int.reduceMod, Nat.reduceBNe, Nat.reduceGT, Int.reduceBEq, Int.reduceBNe, Int.reduceGT, Nat.reduceDiv, Nat.reduceMod, Nat.reducePow, Int.reducePow, gt_iff_lt, ge_iff_le, List.reduceReplicate, ↓reduceIte]
  repeat (with_reducible refine And.intro (by first | omega | assumption | (constructor <;> assumption) | (simp; done) | (simp; omega) | (simp [*]; done)) ?_)
  refine callS_pure (.raw (.slice (some ⟨bv, 0, none⟩) (limbs D) cv)) en128 (by simp [closed]) (fun bs w' hh => trim_calls (keep hh hU.v) hU.hy hL' (by omega) hcv hU.hD) (next_of 1000 ?_)
  rw [hn, hm]
  repeat' (first
    | with_reducible refine And.intro (by first | omega | assumption | (constructor <;> assumption) | (simp; done) | (simp; omega) | (simp [*]; done)) ?_
    | simp (maxSteps := 4000000) (disch := omega) only [go_sem, Nat.reduceBEq, Nat.reduceAdd, Nat.reduceMul, Nat.reduceSub, Nat.reduceLT, Nat.reduceLeDiff, Int.reduceToNat, Int.reduceLT, Int.reduceLE, Int.reduceAdd, Int.reduceMul, Int.reduceSub, Int.reduceNeg, Int.reduceDiv, Int.reduceMod, Nat.reduceBNe, Nat.reduceGT, Int.reduceBEq, Int.reduceBNe, Int.reduceGT, Nat.reduceDiv, Nat.reduceMod, Nat.reducePow, Int.reducePow, gt_iff_lt, ge_iff_le, List.reduceReplicate, ↓reduceIte, add_spot, rc, rs, e0, hyt]
    | with_reducible refine roundS (next_of 1000 ?_)
    | with_reducible refine drawS_of mixed (by kernel_rfl) (dg_of 1000 ?_)
    | with_reducible refine endD_of (by kernel_rfl) (next_of 1000 ?_)
    | refine callS_p (hlz) (next_of 1000 ?_)
    | refine callD_p (hlz) (dg_of 1000 ?_)
    | with_reducible refine next_of 1000 ?_
    | ((first | refine condS_split (fun h => ?_) (fun h => ?_) | refine testS_split (fun h => ?_) (fun h => ?_) | refine testD_split (fun h => ?_) (fun h => ?_)) <;> (try simp only [bne_iff_ne, ne_eq, beq_iff_eq, decide_eq_true_eq, decide_eq_false_iff_not, Bool.not_eq_true, Bool.not_eq_false, Bool.not_true, Bool.not_false, bne_eq_false_iff_eq, beq_eq_false_iff_ne, Bool.and_eq_true, Bool.or_eq_true, Bool.and_eq_false_imp, Bool.or_eq_false_iff, Bool.not_eq_true', Bool.not_eq_false', Int.not_lt, Int.not_le] at h) <;> (try (exfalso; omega))))
  refine callD_new (.sl 0 0 (n + 2 + m + 1) (n + 2 + m + 1)) [.cells (ints .u64 (dig 18446744073709551616 (N * 2 ^ s)) (n + 2 + m + 1)) 22 (0, 0)] [] en131 (by simp [closed]) (by simp [EObj.closed, closeds_ints]) (by simp)
    (fun y bs w' hB _ hh => by simp only at hB; rw [hB] at hh; exact shifted_calls (keep hh hU.u) hU.hz (Nat.le_trans l1 hL) (by omega) l2 s1) (dg_of 1000 ?_)
  repeat' (first
    | with_reducible refine And.intro (by first | omega | assumption | (constructor <;> assumption) | (simp; done) | (simp; omega) | (simp [*]; done)) ?_
    | simp (maxSteps := 4000000) (disch := omega) only [go_sem, Nat.reduceBEq, Nat.reduceAdd, Nat.reduceMul, Nat.reduceSub, Nat.reduceLT, Nat.reduceLeDiff, Int.reduceToNat, Int.reduceLT, Int.reduceLE, Int.reduceAdd, Int.reduceMul, Int.reduceSub, Int.reduceNeg, Int.reduceDiv, Int.reduceMod, Nat.reduceBNe, Nat.reduceGT, Int.reduceBEq, Int.reduceBNe, Int.reduceGT, Nat.reduceDiv, Nat.reduceMod, Nat.reducePow, Int.reducePow, gt_iff_lt, ge_iff_le, List.reduceReplicate, ↓reduceIte]
    | with_reducible refine roundS (next_of 1000 ?_)
    | with_reducible refine drawS_of mixed (by kernel_rfl) (dg_of 1000 ?_)
    | with_reducible refine endD_of (by kernel_rfl) (next_of 1000 ?_)
    | with_reducible refine next_of 1000 ?_
    | ((first | refine condS_split (fun h => ?_) (fun h => ?_) | refine testS_split (fun h => ?_) (fun h => ?_) | refine testD_split (fun h => ?_) (fun h => ?_)) <;> (try simp only [bne_iff_ne, ne_eq, beq_iff_eq, decide_eq_true_eq, decide_eq_false_iff_not, Bool.not_eq_true, Bool.not_eq_false, Bool.not_true, Bool.not_false, bne_eq_false_iff_eq, beq_eq_false_iff_ne, Bool.and_eq_true, Bool.or_eq_true, Bool.and_eq_false_imp, Bool.or_eq_false_iff, Bool.not_eq_true', Bool.not_eq_false', Int.not_lt, Int.not_le] at h) <;> (try (exfalso; omega))))
  refine callD_new (.sl 0 0 (n + 2 + 1) (n + 2 + 1)) [.cells (ints .u64 (dig 18446744073709551616 (D * 2 ^ s)) (n + 2 + 1)) 22 (0, 0)] [] en131 (by simp [closed]) (by simp [EObj.closed, closeds_ints]) (by simp)
    (fun y bs w' hB _ hh => by simp only at hB; rw [hB] at hh; exact shifted_calls (keep hh hU.v) hU.hy (Nat.le_trans m1 hL') (by omega) m2 s1) (dg_of 1000 ?_)
  have em : (((n + 2 + m : Nat) : Int) - ((n + 2 : Nat) : Int)) = (m : Int) := by omega
  have em1 : ((m : Int) + 1).toNat = m + 1 := by omega
  repeat' (first
    | with_reducible refine And.intro (by first | omega | assumption | (constructor <;> assumption) | (simp; done) | (simp; omega) | (simp [*]; done)) ?_
    | simp (maxSteps := 4000000) (disch := omega) only [go_sem, Nat.reduceBEq, Nat.reduceAdd, Nat.reduceMul, Nat.reduceSub, Nat.reduceLT, Nat.reduceLeDiff, Int.reduceToNat, Int.reduceLT, Int.reduceLE, Int.reduceAdd, Int.reduceMul, Int.reduceSub, Int.reduceNeg, Int.reduceDiv, Int.reduceMod, Nat.reduceBNe, Nat.reduceGT, Int.reduceBEq, Int.reduceBNe, Int.reduceGT, Nat.reduceDiv, Nat.reduceMod, Nat.reducePow, Int.reducePow, gt_iff_lt, ge_iff_le, List.reduceReplicate, ↓reduceIte, em, em1, Int.toNat_natCast, Nat.zero_add, ite_self]
    | with_reducible refine roundS (next_of 1000 ?_)
    | with_reducible refine drawS_of mixed (by kernel_rfl) (dg_of 1000 ?_)
    | with_reducible refine endD_of (by kernel_rfl) (next_of 1000 ?_)
    | with_reducible refine next_of 1000 ?_
    | ((first | refine condS_split (fun h => ?_) (fun h => ?_) | refine testS_split (fun h => ?_) (fun h => ?_) | refine testD_split (fun h => ?_) (fun h => ?_)) <;> (try simp only [bne_iff_ne, ne_eq, beq_iff_eq, decide_eq_true_eq, decide_eq_false_iff_not, Bool.not_eq_true, Bool.not_eq_false, Bool.not_true, Bool.not_false, bne_eq_false_iff_eq, beq_eq_false_iff_ne, Bool.and_eq_true, Bool.or_eq_true, Bool.and_eq_false_imp, Bool.or_eq_false_iff, Bool.not_eq_true', Bool.not_eq_false', Int.not_lt, Int.not_le] at h) <;> (try (exfalso; omega))))
  have hXlt : X < V * 18446744073709551616 ^ (m + 1) := by
    have a1 : X < 18446744073709551616 ^ (n + 2 + m) * 2 ^ s := by rw [hX]; exact Nat.mul_lt_mul_of_pos_right hNlt (Nat.pow_pos (by omega))
    have a2 : 2 ^ s ≤ 9223372036854775808 := by
      rw [show (9223372036854775808 : Nat) = 2 ^ 63 by decide]; exact Nat.pow_le_pow_right (by omega) (by omega)
    have a3 : 9223372036854775808 * 18446744073709551616 ^ (n + 1) * 18446744073709551616 ^ (m + 1) ≤ V * 18446744073709551616 ^ (m + 1) := Nat.mul_le_mul_right _ (by rw [hV]; exact s3)
    have a4 : 9223372036854775808 * 18446744073709551616 ^ (n + 1) * 18446744073709551616 ^ (m + 1) = 18446744073709551616 ^ (n + 2 + m) * 9223372036854775808 := by
      rw [Nat.mul_assoc, ← Nat.pow_add, show n + 1 + (m + 1) = n + 2 + m by omega, Nat.mul_comm]
    have a5 : 18446744073709551616 ^ (n + 2 + m) * 2 ^ s ≤ 18446744073709551616 ^ (n + 2 + m) * 9223372036854775808 := Nat.mul_le_mul_left _ a2
    omega
  have hrep : ∀ k, k = m + 1 → List.replicate k (EV.int .u64 0) = ints .u64 (fun i => if m + 1 ≤ i then dig 18446744073709551616 (X / V) i else 0) k := by
    intro k hk
    rw [← rep_one, rep_ints]
    exact ints_congr fun i hi => by rw [if_neg (by omega)]
  rw [← hX, ← hV, hrep _ rfl]
  have hnV : num 18446744073709551616 (dig 18446744073709551616 V) (n + 2) = (V : Int) := by rw [num_dig, Nat.mod_eq_of_lt hVlt]
  have htopV : 9223372036854775808 ≤ dig 18446744073709551616 V (n + 2 - 1) := by
    have a1 : 9223372036854775808 ≤ V / 18446744073709551616 ^ (n + 1) := by rw [Nat.le_div_iff_mul_le hPn, hV]; exact s3
    have a2 : V / 18446744073709551616 ^ (n + 1) < 18446744073709551616 := by rw [Nat.div_lt_iff_lt_mul hPn, Nat.mul_comm, ← Nat.pow_succ]; exact hVlt
    rw [show n + 2 - 1 = n + 1 by omega, dig, Nat.mod_eq_of_lt a2]; omega
  refine loopU (S := Nat) (fun k => k ≤ m + 1) (fun k => ⟨[(12, .int .i64 ((k : Int) - 1)), (11, .sl 2 0 (m + 1) (m + 1)), (10, .sl 1 0 (n + 2) (n + 2 + 1)), (9, .sl 0 0 (n + 2 + m + 1) (n + 2 + m + 1)), (8, .int .u64 (s : Nat)), (6, .int .i64 ((n + 2 : Nat) : Int))], 3,
    [(2, some (.cells (ints .u64 (fun i => if k ≤ i then dig 18446744073709551616 (X / V) i else 0) (m + 1)) 22 (0, 0))), (1, some (.cells (ints .u64 (dig 18446744073709551616 V) (n + 2 + 1)) 22 (0, 0))),
      (0, some (.cells (ints .u64 (dig 18446744073709551616 (X % (V * 18446744073709551616 ^ k))) (n + 2 + m + 1)) 22 (0, 0)))], base w, []⟩) (fun k => k) (m + 1) (Nat.le_refl _)
    (Weak.sub (weak_of (by simp [wσ, go_sem, closed, closeds]) (by rw [Nat.mod_eq_of_lt hXlt]; simp [whs, go_sem, EObj.closed, closed, closeds, closeds_ints]) (by simp) rfl rfl (by simp))) ?_
  rintro k hk
  refine next_of 1000 ?_
  simp (maxSteps := 4000000) (disch := omega) only [go_sem, Nat.reduceBEq, Nat.reduceAdd, Nat.reduceMul, Nat.reduceSub, Nat.reduceLT, Nat.reduceLeDiff, Int.reduceToNat, Int.reduceLT, Int.reduceLE, Int.reduceAdd, Int.reduceMul, Int.reduceSub, Int.reduceNeg, Int.reduceDiv, Int.reduceMod, Nat.reduceBNe, Nat.reduceGT, Int.reduceBEq, Int.reduceBNe, Int.reduceGT, Nat.reduceDiv, Nat.reduceMod, Nat.reducePow, Int.reducePow, gt_iff_lt, ge_iff_le, List.reduceReplicate, ↓reduceIte]
  repeat (with_reducible refine And.intro (by first | omega | assumption | (constructor <;> assumption) | (simp; done) | (simp; omega) | (simp [*]; done)) ?_)
  refine condS_split (fun hlt => ?_) (fun hlt => ?_)
  all_goals (try simp only [bne_iff_ne, ne_eq, beq_iff_eq, decide_eq_true_eq, decide_eq_false_iff_not, Bool.not_eq_true, Bool.not_eq_false, Bool.not_true, Bool.not_false, bne_eq_false_iff_eq, beq_eq_false_iff_ne, Bool.and_eq_true, Bool.or_eq_true, Bool.and_eq_false_imp, Bool.or_eq_false_iff, Bool.not_eq_true', Bool.not_eq_false', Int.not_lt, Int.not_le] at hlt)
  · obtain ⟨j, rfl⟩ : ∃ j, k = j + 1 := ⟨k - 1, by omega⟩
    have e1 : (((j + 1 : Nat) : Int) - 1) = (j : Int) := by omega
    have e2 : ((j : Int) + ((n + 2 : Nat) : Int) + 1).toNat = j + (n + 2) + 1 := by omega
    have e3 : j + (n + 2) + 1 - j = n + 2 + 1 := by omega
    have hne : (n + 2 + m + 1 = j) = False := by simp; omega
    obtain ⟨d1, d2, d3⟩ := step_digits (X := X) (j := j) hVlt hV0
    obtain ⟨A, hA⟩ : ∃ A, A = X / 18446744073709551616 ^ j % (V * 18446744073709551616) := ⟨_, rfl⟩
    rw [← hA] at d1 d2 d3
    have hAlt : A < V * 18446744073709551616 := by rw [hA]; exact Nat.mod_lt _ (Nat.mul_pos hV0 (by omega))
    rw [e1]
    repeat' (first
      | with_reducible refine And.intro (by first | omega | assumption | (constructor <;> assumption) | (simp; done) | (simp; omega) | (simp [*]; done)) ?_
      | simp (maxSteps := 4000000) (disch := omega) only [go_sem, Nat.reduceBEq, Nat.reduceAdd, Nat.reduceMul, Nat.reduceSub, Nat.reduceLT, Nat.reduceLeDiff, Int.reduceToNat, Int.reduceLT, Int.reduceLE, Int.reduceAdd, Int.reduceMul, Int.reduceSub, Int.reduceNeg, Int.reduceDiv, Int.reduceMod, Nat.reduceBNe, Nat.reduceGT, Int.reduceBEq, Int.reduceBNe, Int.reduceGT, Nat.reduceDiv, Nat.reduceMod, Nat.reducePow, Int.reducePow, gt_iff_lt, ge_iff_le, List.reduceReplicate, ↓reduceIte, Int.toNat_natCast, e2, e3, hne, Nat.zero_add, Nat.mul_one]
      | with_reducible refine roundS (next_of 1000 ?_)
      | with_reducible refine drawS_of mixed (by kernel_rfl) (dg_of 1000 ?_)
      | with_reducible refine endD_of (by kernel_rfl) (next_of 1000 ?_)
      | with_reducible refine next_of 1000 ?_
      | ((first | refine condS_split (fun h => ?_) (fun h => ?_) | refine testS_split (fun h => ?_) (fun h => ?_) | refine testD_split (fun h => ?_) (fun h => ?_)) <;> (try simp only [bne_iff_ne, ne_eq, beq_iff_eq, decide_eq_true_eq, decide_eq_false_iff_not, Bool.not_eq_true, Bool.not_eq_false, Bool.not_true, Bool.not_false, bne_eq_false_iff_eq, beq_eq_false_iff_ne, Bool.and_eq_true, Bool.or_eq_true, Bool.and_eq_false_imp, Bool.or_eq_false_iff, Bool.not_eq_true', Bool.not_eq_false', Int.not_lt, Int.not_le] at h) <;> (try (exfalso; omega))))
    refine callS_wr (fun _ => True) (fun _ => .int .u64 ((A / V : Nat) : Int)) (fun _ => 2)
      (fun _ => [some (.cells (ints .u64 (putD (dig 18446744073709551616 (X % (V * 18446744073709551616 ^ (j + 1)))) j (n + 2 + 1) (A % V)) (n + 2 + m + 1)) 22 (0, 0)), some (.cells (ints .u64 (dig 18446744073709551616 V) (n + 2 + 1)) 22 (0, 0))]) [0, 1] en132
      (by simp [go_sem]) (by simp) (by simp) (fun bs w' hh => step_calls (two_of hh (i := 0) (j := 1) rfl rfl (by omega)) (dbd _) (dbd _) (n := n + 2) (m := n) rfl (by omega) (by omega) (by omega) d1 hnV htopV hAlt) (fun _ _ => next_of 1000 ?_)
    rw [d3]
    repeat' (first
      | with_reducible refine And.intro (by first | omega | assumption | (constructor <;> assumption) | (simp; done) | (simp; omega) | (simp [*]; done)) ?_
      | simp (maxSteps := 4000000) (disch := omega) only [go_sem, Nat.reduceBEq, Nat.reduceAdd, Nat.reduceMul, Nat.reduceSub, Nat.reduceLT, Nat.reduceLeDiff, Int.reduceToNat, Int.reduceLT, Int.reduceLE, Int.reduceAdd, Int.reduceMul, Int.reduceSub, Int.reduceNeg, Int.reduceDiv, Int.reduceMod, Nat.reduceBNe, Nat.reduceGT, Int.reduceBEq, Int.reduceBNe, Int.reduceGT, Nat.reduceDiv, Nat.reduceMod, Nat.reducePow, Int.reducePow, gt_iff_lt, ge_iff_le, List.reduceReplicate, ↓reduceIte, Int.toNat_natCast, Nat.zero_add, Nat.mul_one]
      | with_reducible refine roundS (next_of 1000 ?_)
      | with_reducible refine drawS_of mixed (by kernel_rfl) (dg_of 1000 ?_)
      | with_reducible refine endD_of (by kernel_rfl) (next_of 1000 ?_)
      | with_reducible refine next_of 1000 ?_
      | ((first | refine condS_split (fun h => ?_) (fun h => ?_) | refine testS_split (fun h => ?_) (fun h => ?_) | refine testD_split (fun h => ?_) (fun h => ?_)) <;> (try simp only [bne_iff_ne, ne_eq, beq_iff_eq, decide_eq_true_eq, decide_eq_false_iff_not, Bool.not_eq_true, Bool.not_eq_false, Bool.not_true, Bool.not_false, bne_eq_false_iff_eq, beq_eq_false_iff_ne, Bool.and_eq_true, Bool.or_eq_true, Bool.and_eq_false_imp, Bool.or_eq_false_iff, Bool.not_eq_true', Bool.not_eq_false', Int.not_lt, Int.not_le] at h) <;> (try (exfalso; omega))))
    refine ⟨j, by omega, Weak.sub (weak_of (by simp [wσ, go_sem, closed, closeds]) (by
      have e : ints .u64 (setF (fun i => if j + 1 ≤ i then dig 18446744073709551616 (X / V) i else 0) j ((A / V : Nat) : Int)) (m + 1) = ints .u64 (fun i => if j ≤ i then dig 18446744073709551616 (X / V) i else 0) (m + 1) := by
        refine ints_congr fun i _ => ?_
        simp only [setF]
        by_cases hi : i = j
        · subst hi; rw [if_pos rfl, if_pos (Nat.le_refl _), d2]; rfl
        · rw [if_neg hi]
          by_cases hi2 : j ≤ i
          · rw [if_pos hi2, if_pos (by omega)]
          · rw [if_neg hi2, if_neg (by omega)]
      rw [e]
      simp [whs, go_sem, EObj.closed, closed, closeds, closeds_ints]) (by simp) rfl rfl (by simp)), by omega⟩
  · have hk0 : k = 0 := by omega
    subst hk0
    have hq : (fun i => if 0 ≤ i then dig 18446744073709551616 (X / V) i else 0) = dig 18446744073709551616 (N / D) := by funext i; rw [if_pos (Nat.zero_le _), hXV]
    have ha : X % (V * 18446744073709551616 ^ 0) = N % D * 2 ^ s := by rw [Nat.pow_zero, Nat.mul_one, hXm]
    rw [hq, ha]
    obtain ⟨R, hR⟩ : ∃ R, R = N % D := ⟨_, rfl⟩
    obtain ⟨Y, hY⟩ : ∃ Y, Y = R * 2 ^ s := ⟨_, rfl⟩
    rw [← hR, ← hY]
    have hYR : Y / 2 ^ s = R := by rw [hY, Nat.mul_div_cancel _ (Nat.pow_pos (by omega))]
    have hne2 : (n + 2 + m + 1 = 0) = False := by simp
    repeat' (first
      | with_reducible refine And.intro (by first | omega | assumption | (constructor <;> assumption) | (simp; done) | (simp; omega) | (simp [*]; done)) ?_
      | simp (maxSteps := 4000000) (disch := omega) only [go_sem, Nat.reduceBEq, Nat.reduceAdd, Nat.reduceMul, Nat.reduceSub, Nat.reduceLT, Nat.reduceLeDiff, Int.reduceToNat, Int.reduceLT, Int.reduceLE, Int.reduceAdd, Int.reduceMul, Int.reduceSub, Int.reduceNeg, Int.reduceDiv, Int.reduceMod, Nat.reduceBNe, Nat.reduceGT, Int.reduceBEq, Int.reduceBNe, Int.reduceGT, Nat.reduceDiv, Nat.reduceMod, Nat.reducePow, Int.reducePow, gt_iff_lt, ge_iff_le, List.reduceReplicate, ↓reduceIte, Int.toNat_natCast, Nat.zero_add, Nat.mul_one, hne2, Nat.sub_zero]
      | with_reducible refine roundS (next_of 1000 ?_)
      | with_reducible refine drawS_of mixed (by kernel_rfl) (dg_of 1000 ?_)
      | with_reducible refine endD_of (by kernel_rfl) (next_of 1000 ?_)
      | with_reducible refine next_of 1000 ?_
      | ((first | refine condS_split (fun h => ?_) (fun h => ?_) | refine testS_split (fun h => ?_) (fun h => ?_) | refine testD_split (fun h => ?_) (fun h => ?_)) <;> (try simp only [bne_iff_ne, ne_eq, beq_iff_eq, decide_eq_true_eq, decide_eq_false_iff_not, Bool.not_eq_true, Bool.not_eq_false, Bool.not_true, Bool.not_false, bne_eq_false_iff_eq, beq_eq_false_iff_ne, Bool.and_eq_true, Bool.or_eq_true, Bool.and_eq_false_imp, Bool.or_eq_false_iff, Bool.not_eq_true', Bool.not_eq_false', Int.not_lt, Int.not_le] at h) <;> (try (exfalso; omega))))
    refine loopU (S := Nat) (fun i => i ≤ n + 2) (fun i => ⟨[(81, .int .i64 (i : Nat)), (80, .int .i64 ((n + 2 : Nat) : Int)), (13, .sl 0 0 (n + 2) (n + 2 + m + 1)), (11, .sl 2 0 (m + 1) (m + 1)), (9, .sl 0 0 (n + 2 + m + 1) (n + 2 + m + 1)), (8, .int .u64 (s : Nat))], 3,
      [(2, some (.cells (ints .u64 (dig 18446744073709551616 (N / D)) (m + 1)) 22 (0, 0))), (1, some (.cells (ints .u64 (dig 18446744073709551616 V) (n + 2 + 1)) 22 (0, 0))),
        (0, some (.cells (ints .u64 (fun j => if j < i then dig 18446744073709551616 R j else dig 18446744073709551616 Y j) (n + 2 + m + 1)) 22 (0, 0)))], base w, []⟩) (fun i => n + 2 - i) 0 (Nat.zero_le _)
      (Weak.sub (weak_of (by simp [wσ, go_sem, closed, closeds]) (by simp [whs, go_sem, EObj.closed, closed, closeds, closeds_ints]) (by simp) rfl rfl (by simp))) ?_
    rintro i hi
    refine next_of 1000 ?_
    simp (maxSteps := 4000000) (disch := omega) only [go_sem, Nat.reduceBEq, Nat.reduceAdd, Nat.reduceMul, Nat.reduceSub, Nat.reduceLT, Nat.reduceLeDiff, Int.reduceToNat, Int.reduceLT, Int.reduceLE, Int.reduceAdd, Int.reduceMul, Int.reduceSub, Int.reduceNeg, Int.reduceDiv, Int.reduceMod, Nat.reduceBNe, Nat.reduceGT, Int.reduceBEq, Int.reduceBNe, Int.reduceGT, Nat.reduceDiv, Nat.reduceMod, Nat.reducePow, Int.reducePow, gt_iff_lt, ge_iff_le, List.reduceReplicate, ↓reduceIte]
    repeat (with_reducible refine And.intro (by first | omega | assumption | (constructor <;> assumption) | (simp; done) | (simp; omega) | (simp [*]; done)) ?_)
    refine condS_split (fun hlt2 => ?_) (fun hlt2 => ?_)
    all_goals (try simp only [bne_iff_ne, ne_eq, beq_iff_eq, decide_eq_true_eq, decide_eq_false_iff_not, Bool.not_eq_true, Bool.not_eq_false, Bool.not_true, Bool.not_false, bne_eq_false_iff_eq, beq_eq_false_iff_ne, Bool.and_eq_true, Bool.or_eq_true, Bool.and_eq_false_imp, Bool.or_eq_false_iff, Bool.not_eq_true', Bool.not_eq_false', Int.not_lt, Int.not_le] at hlt2)
    · have hii : ∀ j, (if i < i then dig 18446744073709551616 R j else dig 18446744073709551616 Y j) = dig 18446744073709551616 Y j := fun j => if_neg (by omega)
      have hi1 : (if i + 1 < i then dig 18446744073709551616 R (i + 1) else dig 18446744073709551616 Y (i + 1)) = dig 18446744073709551616 Y (i + 1) := if_neg (by omega)
      have hdi := dbd Y i
      have hdi1 := dbd Y (i + 1)
      have fi1 : ((i : Int) + 1).toNat = i + 1 := by omega
      have hset : ∀ v, v = dig 18446744073709551616 R i → ints .u64 (setF (fun j => if j < i then dig 18446744073709551616 R j else dig 18446744073709551616 Y j) i v) (n + 2 + m + 1) = ints .u64 (fun j => if j < i + 1 then dig 18446744073709551616 R j else dig 18446744073709551616 Y j) (n + 2 + m + 1) := by
        intro v hv
        refine ints_congr fun j _ => ?_
        simp only [setF]
        by_cases hj : j = i
        · subst hj; rw [if_pos rfl, if_pos (by omega), hv]
        · rw [if_neg hj]
          by_cases hj2 : j < i
          · rw [if_pos hj2, if_pos (by omega)]
          · rw [if_neg hj2, if_neg (by omega)]
      have hss : ∀ v u, ints .u64 (setF (setF (fun j => if j < i then dig 18446744073709551616 R j else dig 18446744073709551616 Y j) i u) i v) (n + 2 + m + 1) = ints .u64 (setF (fun j => if j < i then dig 18446744073709551616 R j else dig 18446744073709551616 Y j) i v) (n + 2 + m + 1) := by
        intro v u
        refine ints_congr fun j _ => ?_
        simp only [setF]; split <;> rfl
      have hself : ∀ u, setF (fun j => if j < i then dig 18446744073709551616 R j else dig 18446744073709551616 Y j) i u i = u := fun u => by simp [setF]
      have hnext' : ∀ u, setF (fun j => if j < i then dig 18446744073709551616 R j else dig 18446744073709551616 Y j) i u (i + 1) = dig 18446744073709551616 Y (i + 1) := fun u => by
        simp only [setF]; rw [if_neg (by omega), if_neg (by omega)]
      by_cases hs0 : s = 0
      · subst hs0
        have hYR0 : Y = R := by rw [← hYR]; simp
        repeat' (first
          | with_reducible refine And.intro (by first | omega | assumption | (constructor <;> assumption) | (simp; done) | (simp; omega) | (simp [*]; done)) ?_
          | simp (maxSteps := 4000000) (disch := omega) only [go_sem, Nat.reduceBEq, Nat.reduceAdd, Nat.reduceMul, Nat.reduceSub, Nat.reduceLT, Nat.reduceLeDiff, Int.reduceToNat, Int.reduceLT, Int.reduceLE, Int.reduceAdd, Int.reduceMul, Int.reduceSub, Int.reduceNeg, Int.reduceDiv, Int.reduceMod, Nat.reduceBNe, Nat.reduceGT, Int.reduceBEq, Int.reduceBNe, Int.reduceGT, Nat.reduceDiv, Nat.reduceMod, Nat.reducePow, Int.reducePow, gt_iff_lt, ge_iff_le, List.reduceReplicate, ↓reduceIte, Int.toNat_natCast, Nat.zero_add, Nat.mul_one, hii, Int.pow_zero, Int.ediv_one]
          | with_reducible refine roundS (next_of 1000 ?_)
          | with_reducible refine drawS_of mixed (by kernel_rfl) (dg_of 1000 ?_)
          | with_reducible refine endD_of (by kernel_rfl) (next_of 1000 ?_)
          | with_reducible refine next_of 1000 ?_
          | ((first | refine condS_split (fun h => ?_) (fun h => ?_) | refine testS_split (fun h => ?_) (fun h => ?_) | refine testD_split (fun h => ?_) (fun h => ?_)) <;> (try simp only [bne_iff_ne, ne_eq, beq_iff_eq, decide_eq_true_eq, decide_eq_false_iff_not, Bool.not_eq_true, Bool.not_eq_false, Bool.not_true, Bool.not_false, bne_eq_false_iff_eq, beq_eq_false_iff_ne, Bool.and_eq_true, Bool.or_eq_true, Bool.and_eq_false_imp, Bool.or_eq_false_iff, Bool.not_eq_true', Bool.not_eq_false', Int.not_lt, Int.not_le] at h) <;> (try (exfalso; omega))))
        refine ⟨i + 1, by omega, Weak.sub (weak_of (by simp [wσ, go_sem, closed, closeds]) (by
          rw [hset _ (by rw [hYR0])]
          simp [whs, go_sem, EObj.closed, closed, closeds, closeds_ints]) (by simp) rfl rfl (by simp)), by omega⟩
      · have hsd := shr_digit (Y := Y) (i := i) (Nat.pos_of_ne_zero hs0) s1
        rw [hYR] at hsd
        have hsr : ((64 : Int) - (s : Int)).toNat = 64 - s := by omega
        repeat' (first
          | with_reducible refine And.intro (by first | omega | assumption | (constructor <;> assumption) | (simp; done) | (simp; omega) | (simp [*]; done)) ?_
          | simp (maxSteps := 4000000) (disch := omega) only [go_sem, Nat.reduceBEq, Nat.reduceAdd, Nat.reduceMul, Nat.reduceSub, Nat.reduceLT, Nat.reduceLeDiff, Int.reduceToNat, Int.reduceLT, Int.reduceLE, Int.reduceAdd, Int.reduceMul, Int.reduceSub, Int.reduceNeg, Int.reduceDiv, Int.reduceMod, Nat.reduceBNe, Nat.reduceGT, Int.reduceBEq, Int.reduceBNe, Int.reduceGT, Nat.reduceDiv, Nat.reduceMod, Nat.reducePow, Int.reducePow, gt_iff_lt, ge_iff_le, List.reduceReplicate, ↓reduceIte, Int.toNat_natCast, Nat.zero_add, Nat.mul_one, hii, hself, hnext', fi1, hsr]
          | with_reducible refine roundS (next_of 1000 ?_)
          | with_reducible refine drawS_of mixed (by kernel_rfl) (dg_of 1000 ?_)
          | with_reducible refine endD_of (by kernel_rfl) (next_of 1000 ?_)
          | with_reducible refine next_of 1000 ?_
          | ((first | refine condS_split (fun h => ?_) (fun h => ?_) | refine testS_split (fun h => ?_) (fun h => ?_) | refine testD_split (fun h => ?_) (fun h => ?_)) <;> (try simp only [bne_iff_ne, ne_eq, beq_iff_eq, decide_eq_true_eq, decide_eq_false_iff_not, Bool.not_eq_true, Bool.not_eq_false, Bool.not_true, Bool.not_false, bne_eq_false_iff_eq, beq_eq_false_iff_ne, Bool.and_eq_true, Bool.or_eq_true, Bool.and_eq_false_imp, Bool.or_eq_false_iff, Bool.not_eq_true', Bool.not_eq_false', Int.not_lt, Int.not_le] at h) <;> (try (exfalso; omega))))
        refine ⟨i + 1, by omega, Weak.sub (weak_of (by simp [wσ, go_sem, closed, closeds]) (by
          rw [hss, hset _ hsd.symm]
          simp [whs, go_sem, EObj.closed, closed, closeds, closeds_ints]) (by simp) rfl rfl (by simp)), by omega⟩
    · have hin : i = n + 2 := by omega
      subst hin
      repeat' (first
        | with_reducible refine And.intro (by first | omega | assumption | (constructor <;> assumption) | (simp; done) | (simp; omega) | (simp [*]; done)) ?_
        | simp (maxSteps := 4000000) (disch := omega) only [go_sem, Nat.reduceBEq, Nat.reduceAdd, Nat.reduceMul, Nat.reduceSub, Nat.reduceLT, Nat.reduceLeDiff, Int.reduceToNat, Int.reduceLT, Int.reduceLE, Int.reduceAdd, Int.reduceMul, Int.reduceSub, Int.reduceNeg, Int.reduceDiv, Int.reduceMod, Nat.reduceBNe, Nat.reduceGT, Int.reduceBEq, Int.reduceBNe, Int.reduceGT, Nat.reduceDiv, Nat.reduceMod, Nat.reducePow, Int.reducePow, gt_iff_lt, ge_iff_le, List.reduceReplicate, ↓reduceIte]
        | with_reducible refine roundS (next_of 1000 ?_)
        | with_reducible refine drawS_of mixed (by kernel_rfl) (dg_of 1000 ?_)
        | with_reducible refine endD_of (by kernel_rfl) (next_of 1000 ?_)
        | with_reducible refine next_of 1000 ?_
        | ((first | refine condS_split (fun h => ?_) (fun h => ?_) | refine testS_split (fun h => ?_) (fun h => ?_) | refine testD_split (fun h => ?_) (fun h => ?_)) <;> (try simp only [bne_iff_ne, ne_eq, beq_iff_eq, decide_eq_true_eq, decide_eq_false_iff_not, Bool.not_eq_true, Bool.not_eq_false, Bool.not_true, Bool.not_false, bne_eq_false_iff_eq, beq_eq_false_iff_ne, Bool.and_eq_true, Bool.or_eq_true, Bool.and_eq_false_imp, Bool.or_eq_false_iff, Bool.not_eq_true', Bool.not_eq_false', Int.not_lt, Int.not_le] at h) <;> (try (exfalso; omega))))
      rintro (_ | _ | _ | k) o ho
      · simpa [go_sem] using ho
      · simpa [go_sem] using ho
      · simpa [go_sem] using ho
      · simp at ho
end Go.Proofs.YtbilnedgpgpanaaDoor
