/- Part of a proof over the seat YtbilnedgpgpanaaDoor. -/
import Derived.Test.YtbilnedgpgpanaaDoorWA
import Derived.Test.YtbilnedgpgpanaaDoorEng3
import Derived.Test.YtbilnedgpgpanaaDoorShelf
namespace Go.Proofs.YtbilnedgpgpanaaDoor
open Go Go.Ew
set_option maxRecDepth 100000
set_option linter.unusedSimpArgs false
set_option linter.unusedVariables false
set_option maxHeartbeats 1000000
theorem in139 : codeIn Tryd.f139.ntmps (Tryd.f139.body.getD .skip) = true := by kernel_rfl
theorem lead64_p (a : Int) (h0 : 0 ≤ a) (h1 : a < 18446744073709551616) : Pure Tryd.prog 130 [.int .u64 a] (.int .i64 (64 - (blen a.toNat : Int))) :=
  ⟨en130, trivial, fun bs w => (Go.Proofs.Tryd.bits_LeadingZeros64 a w h0 (by omega)).mono (by rintro e w' ⟨rfl, rfl⟩; exact ⟨by rw [bitLen_eq (by omega)]; rfl, Below.refl' _ _⟩)⟩
theorem bShr_64 {a : Int} (h0 : 0 ≤ a) (h1 : a < 18446744073709551616) : bShr .u64 a 64 = 0 := by
  unfold bShr
  show a.fdiv (2 ^ 64) = 0
  rw [Int.fdiv_eq_ediv_of_nonneg _ (by omega)]
  omega
theorem bAnd_m32 {a : Int} (ha : 0 ≤ a) (ha' : a < 18446744073709551616) : bAnd .u64 a 4294967295 = a % 4294967296 := and_lit a 32 4294967295 (by decide) ha ha' (by omega)
theorem mul_add_lt {R V w b : Nat} (h : R < V) (hw : w < b) : R * b + w < V * b :=
  Nat.lt_of_lt_of_le (show R * b + w < (R + 1) * b by rw [Nat.add_mul]; omega) (Nat.mul_le_mul_right _ h)
/-- A limb, shifted up by r: what stays, what goes over. -/
theorem shl_limb' {t : Int} {r : Nat} (h0 : 0 ≤ t) (h1 : t < 18446744073709551616) (hr : 0 < r) (hr' : r < 64) :
    ∃ h l, t * (2 : Int) ^ r % 18446744073709551616 = l ∧ t / (2 : Int) ^ (64 - r) = h ∧ t * (2 : Int) ^ r = h * 18446744073709551616 + l ∧ 0 ≤ l ∧ l < 18446744073709551616 ∧ 0 ≤ h ∧ h < (2 : Int) ^ r ∧
      (∀ u, 0 ≤ u → u < (2 : Int) ^ r → bOr .u64 l u = l + u) ∧ l < 18446744073709551616 - (2 : Int) ^ r + 1 := by
  have hR : (0 : Int) < 2 ^ r := Int.pow_pos (by omega)
  have hS : (0 : Int) < 2 ^ (64 - r) := Int.pow_pos (by omega)
  have hRS : (2 : Int) ^ (64 - r) * 2 ^ r = 18446744073709551616 := by
    rw [← Int.pow_add, show 64 - r + r = 64 by omega]; decide
  have hRl : (2 : Int) ^ r ≤ 18446744073709551616 := by
    rw [← hRS]; have := Int.mul_le_mul_of_nonneg_right (show (1 : Int) ≤ 2 ^ (64 - r) by omega) (Int.le_of_lt hR); omega
  have e1 : t * 2 ^ r / 18446744073709551616 = t / 2 ^ (64 - r) := by
    rw [← hRS]; exact Int.mul_ediv_mul_of_pos_left _ _ hR
  have e2 : t * 2 ^ r % 18446744073709551616 = t % 2 ^ (64 - r) * 2 ^ r := by
    rw [Int.emod_def, Int.emod_def, e1, Int.sub_mul, Int.mul_right_comm (2 ^ (64 - r)), hRS]
  have q1 := Int.emod_nonneg t (show (2 : Int) ^ (64 - r) ≠ 0 by omega)
  have q2 := Int.emod_lt_of_pos t hS
  have hdiv : t / 2 ^ (64 - r) < 2 ^ r := by
    apply Int.ediv_lt_of_lt_mul hS
    rw [Int.mul_comm, hRS]; exact h1
  refine ⟨_, _, rfl, rfl, ?_, Int.emod_nonneg _ (by decide), Int.emod_lt_of_pos _ (by decide), Int.ediv_nonneg h0 (Int.le_of_lt hS), hdiv, ?_, ?_⟩
  · rw [← e1]; omega
  · intro u hu0 hu1
    have hm : (t * 2 ^ r % 18446744073709551616) % ((2 ^ r : Nat) : Int) = 0 := by
      rw [e2]; simp
    exact bOr_add (Int.emod_nonneg _ (by decide)) (Int.emod_lt_of_pos _ (by decide)) hu0 (by omega) (s := r) hm (by simpa using hu1)
  · rw [e2]
    have : t % 2 ^ (64 - r) * 2 ^ r ≤ (2 ^ (64 - r) - 1) * 2 ^ r := Int.mul_le_mul_of_nonneg_right (by omega) (Int.le_of_lt hR)
    rw [Int.sub_mul, hRS, Int.one_mul] at this
    omega
/-- The normal case: the divisor's highest bit is set after the shift. -/
theorem norm_shift {y s : Nat} (hy : 0 < y) (h1 : y < 18446744073709551616) (hs : s = 64 - blen y) : s < 64 ∧ 9223372036854775808 ≤ y * 2 ^ s ∧ y * 2 ^ s < 18446744073709551616 := by
  have hb := blen_64 h1
  have h2 : 2 ^ (blen y - 1) ≤ y := lt_blen.1 (by
    have : 0 < blen y := by
      rcases Nat.eq_zero_or_pos (blen y) with h | h
      · have := blen_le.1 (Nat.le_of_eq h); simp at this; omega
      · exact h
    omega)
  have h3 : y < 2 ^ blen y := blen_le.1 (Nat.le_refl _)
  have hpos : 0 < blen y := by
    rcases Nat.eq_zero_or_pos (blen y) with h | h
    · have := blen_le.1 (Nat.le_of_eq h); simp at this; omega
    · exact h
  refine ⟨by omega, ?_, ?_⟩
  · have : 2 ^ (blen y - 1) * 2 ^ s ≤ y * 2 ^ s := Nat.mul_le_mul_right _ h2
    rw [← Nat.pow_add, show blen y - 1 + s = 63 by omega] at this
    omega
  · have : y * 2 ^ s < 2 ^ blen y * 2 ^ s := Nat.mul_lt_mul_of_pos_right h3 (Nat.pow_pos (by omega))
    rw [← Nat.pow_add, show blen y + s = 64 by omega] at this
    omega
theorem div64_p (hi lo y : Nat) (h0 : hi < y) (h1 : y < 18446744073709551616) (h2 : lo < 18446744073709551616) : Pure Tryd.prog 139 [.int .u64 (hi : Int), .int .u64 (lo : Int), .int .u64 (y : Int)]
    (.tup [.int .u64 (((hi * 18446744073709551616 + lo) / y : Nat) : Int), .int .u64 (((hi * 18446744073709551616 + lo) % y : Nat) : Int)]) := by
  by_cases hz : hi = 0
  · subst hz
    refine pure_p (args := [.int .u64 ((0 : Nat) : Int), .int .u64 (lo : Int), .int .u64 (y : Int)]) en139 (by simp [closed, closeds, closed_wE, closeds_ints]) Tryd.func139 rfl in139 (by simp [Tryd.f139]) (by simp [closeds, closed, closed_wE, closeds_ints]) (fun w => next_of 1000 ?_)
    simp (maxSteps := 4000000) (disch := omega) only [go_sem, Nat.reduceBEq, Nat.reduceAdd, Nat.reduceMul, Nat.reduceSub, Nat.reduceLT, Nat.reduceLeDiff, Int.reduceToNat, Int.reduceLT, Int.reduceLE, Int.reduceAdd, Int.reduceMul, Int.reduceSub, Int.reduceNeg, Int.reduceDiv, Int.reduceMod, Nat.reduceBNe, Nat.reduceGT, Int.reduceBEq, Int.reduceBNe, Int.reduceGT, Nat.reduceDiv, Nat.reduceMod, Nat.reducePow, Int.reducePow, gt_iff_lt, ge_iff_le, List.reduceReplicate, ↓reduceIte, Tryd.f139]
    repeat (with_reducible refine And.intro (by first | omega | assumption | (constructor <;> assumption) | (simp; done) | (simp; omega) | (simp [*]; done)) ?_)
    repeat' (first
      | with_reducible refine And.intro (by first | omega | assumption | (constructor <;> assumption) | (simp; done) | (simp; omega) | (simp [*]; done)) ?_
      | simp (maxSteps := 4000000) (disch := omega) only [go_sem, Nat.reduceBEq, Nat.reduceAdd, Nat.reduceMul, Nat.reduceSub, Nat.reduceLT, Nat.reduceLeDiff, Int.reduceToNat, Int.reduceLT, Int.reduceLE, Int.reduceAdd, Int.reduceMul, Int.reduceSub, Int.reduceNeg, Int.reduceDiv, Int.reduceMod, Nat.reduceBNe, Nat.reduceGT, Int.reduceBEq, Int.reduceBNe, Int.reduceGT, Nat.reduceDiv, Nat.reduceMod, Nat.reducePow, Int.reducePow, gt_iff_lt, ge_iff_le, List.reduceReplicate, ↓reduceIte]
      | with_reducible refine roundS (next_of 1000 ?_)
      | with_reducible refine drawS_of mixed (by kernel_rfl) (dg_of 1000 ?_)
      | with_reducible refine endD_of (by kernel_rfl) (next_of 1000 ?_)
      | with_reducible refine next_of 1000 ?_
      | ((first | refine condS_split (fun h => ?_) (fun h => ?_) | refine testS_split (fun h => ?_) (fun h => ?_) | refine testD_split (fun h => ?_) (fun h => ?_)) <;> (try simp only [bne_iff_ne, ne_eq, beq_iff_eq, decide_eq_true_eq, decide_eq_false_iff_not, Bool.not_eq_true, Bool.not_eq_false, Bool.not_true, Bool.not_false, bne_eq_false_iff_eq, beq_eq_false_iff_ne, Bool.and_eq_true, Bool.or_eq_true, Bool.and_eq_false_imp, Bool.or_eq_false_iff, Bool.not_eq_true', Bool.not_eq_false', Int.not_lt, Int.not_le] at h) <;> (try (exfalso; omega))))
    have e2 : ((lo / y : Nat) : Int) = (lo : Int) / (y : Int) := Int.natCast_ediv _ _
    have e3 : ((lo % y : Nat) : Int) = (lo : Int) % (y : Int) := Int.natCast_emod _ _
    have e4 : (lo : Int) / (y : Int) ≤ lo := Int.ediv_le_self _ (by omega)
    have e5 : 0 ≤ (lo : Int) / (y : Int) := Int.ediv_nonneg (by omega) (by omega)
    rw [e2, e3, wrap_u64 e5 (by omega)]
  · have hy : 0 < y := by omega
    obtain ⟨hs, hn1, hn2⟩ := norm_shift hy h1 rfl
    generalize hsv : 64 - blen y = s at *
    have hb64 := blen_64 h1
    have hss : 64 - (blen y : Int) = (s : Int) := by omega
    have hl := lead64_p (y : Int) (by omega) (by omega)
    rw [Int.toNat_natCast, hss] at hl
    -- the numbers
    obtain ⟨V, hV⟩ : ∃ V, V = y * 2 ^ s := ⟨_, rfl⟩
    obtain ⟨X, hX⟩ : ∃ X, X = (hi * 18446744073709551616 + lo) * 2 ^ s := ⟨_, rfl⟩
    have hXV : X / V = (hi * 18446744073709551616 + lo) / y := by rw [hX, hV, Nat.mul_div_mul_right _ _ (Nat.pow_pos (by omega))]
    have hXm : X % V = (hi * 18446744073709551616 + lo) % y * 2 ^ s := by rw [hX, hV, Nat.mul_mod_mul_right]
    have hhi : hi * 2 ^ s < V := by rw [hV]; exact Nat.mul_lt_mul_of_pos_right h0 (Nat.pow_pos (by omega))
    have hXlt : X < V * 18446744073709551616 := by
      have e1 : (hi * 18446744073709551616 + lo) < y * 18446744073709551616 := by omega
      rw [hX, hV, Nat.mul_right_comm]
      exact Nat.mul_lt_mul_of_pos_right e1 (Nat.pow_pos (by omega))
    obtain ⟨U, L, hXU, hL, hU1, hU2⟩ : ∃ U L, X = U * 18446744073709551616 + L ∧ L < 18446744073709551616 ∧ bOr .u64 ((hi : Int) * 2 ^ s % 18446744073709551616) (bShr .u64 (lo : Int) (64 - (s : Int))) = (U : Int) ∧ (lo : Int) * 2 ^ s % 18446744073709551616 = (L : Int) := by
      refine ⟨X / 18446744073709551616, X % 18446744073709551616, by omega, by omega, ?_, ?_⟩
      · have e0 : ((hi * 2 ^ s : Nat) : Int) = (hi : Int) * 2 ^ s := by simp
        have e1 : (hi : Int) * 2 ^ s % 18446744073709551616 = (hi : Int) * 2 ^ s := by rw [← e0]; omega
        by_cases hs0 : s = 0
        · subst hs0
          have : bShr .u64 (lo : Int) (64 - ((0 : Nat) : Int)) = 0 := bShr_64 (by omega) (by omega)
          rw [this, e1, bOr_u64 (by simp) (by simp; omega) (by omega) (by omega)]
          simp only [Nat.pow_zero, Nat.mul_one] at hX
          simp; omega
        · obtain ⟨lh, ll, A1, A2, A3, A4, A5, A6, A7, A8, A9⟩ := shl_limb' (t := (lo : Int)) (r := s) (by omega) (by omega) (by omega) hs
          obtain ⟨hh, hl', B1, B2, B3, B4, B5, B6, B7, B8, B9⟩ := shl_limb' (t := (hi : Int)) (r := s) (by omega) (by omega) (by omega) hs
          have e2 : bShr .u64 (lo : Int) (64 - (s : Int)) = lh := by
            rw [bShr_u64 (by omega) (by omega) (by omega), show ((64 : Int) - (s : Int)).toNat = 64 - s by omega]; exact A2
          rw [e2, B1, B8 lh A6 A7]
          have e3 : ((X : Nat) : Int) = ((hi : Int) * 2 ^ s) * 18446744073709551616 + (lo : Int) * 2 ^ s := by
            rw [hX]; simp only [Int.natCast_mul, Int.natCast_add, Int.natCast_pow]; rw [Int.add_mul, Int.mul_right_comm]; rfl
          rw [A3] at e3
          omega
      · have e3 : ((X : Nat) : Int) = ((hi : Int) * 2 ^ s) * 18446744073709551616 + (lo : Int) * 2 ^ s := by
          rw [hX]; simp only [Int.natCast_mul, Int.natCast_add, Int.natCast_pow]; rw [Int.add_mul, Int.mul_right_comm]; rfl
        omega
    have hVe : (y : Int) * 2 ^ s % 18446744073709551616 = (V : Int) := by
      have : ((y * 2 ^ s : Nat) : Int) = (y : Int) * 2 ^ s := by simp
      rw [← this, ← hV]; omega
    obtain ⟨v1, v0, hv, hv0, hv1⟩ : ∃ v1 v0, V = v1 * 4294967296 + v0 ∧ v0 < 4294967296 ∧ 2147483648 ≤ v1 := ⟨V / 4294967296, V % 4294967296, by omega, by omega, by omega⟩
    obtain ⟨w1, w0, hw, hw0, hw1⟩ : ∃ w1 w0, L = w1 * 4294967296 + w0 ∧ w0 < 4294967296 ∧ w1 < 4294967296 := ⟨L / 4294967296, L % 4294967296, by omega, by omega, by omega⟩
    have hUV : U < V := by
      rcases Nat.lt_or_ge U V with h | h
      · exact h
      · exfalso; omega
    have q1 : (V : Int) / 4294967296 = (v1 : Int) := by omega
    have q2 : (V : Int) % 4294967296 = (v0 : Int) := by omega
    have q3 : (L : Int) / 4294967296 = (w1 : Int) := by omega
    have q4 : (L : Int) % 4294967296 = (w0 : Int) := by omega
    have q5 : (U : Int) / (v1 : Int) = ((U / v1 : Nat) : Int) := (Int.natCast_ediv _ _).symm
    have l1 : U / v1 ≤ U := Nat.div_le_self _ _
    have l2 : U / v1 * v1 + U % v1 = U := by have := Nat.div_add_mod U v1; rw [Nat.mul_comm] at this; exact this
    have l3 : U % v1 < v1 := Nat.mod_lt _ (by omega)
    have q6 : ((U / v1 : Nat) : Int) * (v1 : Int) = (U : Int) - ((U % v1 : Nat) : Int) := by
      have : ((U / v1 * v1 : Nat) : Int) = ((U / v1 : Nat) : Int) * (v1 : Int) := Int.natCast_mul _ _
      rw [← this]; omega
    generalize hgq : U / v1 = qq at *
    generalize hgr : U % v1 = rr at *
    refine pure_p (args := [.int .u64 (hi : Int), .int .u64 (lo : Int), .int .u64 (y : Int)]) en139 (by simp [closed, closeds, closed_wE, closeds_ints]) Tryd.func139 rfl in139 (by simp [Tryd.f139]) (by simp [closeds, closed, closed_wE, closeds_ints]) (fun w => next_of 1000 ?_)
    simp (maxSteps := 4000000) (disch := omega) only [go_sem, Nat.reduceBEq, Nat.reduceAdd, Nat.reduceMul, Nat.reduceSub, Nat.reduceLT, Nat.reduceLeDiff, Int.reduceToNat, Int.reduceLT, Int.reduceLE, Int.reduceAdd, Int.reduceMul, Int.reduceSub, Int.reduceNeg, Int.reduceDiv, Int.reduceMod, Nat.reduceBNe, Nat.reduceGT, Int.reduceBEq, Int.reduceBNe, Int.reduceGT, Nat.reduceDiv, Nat.reduceMod, Nat.reducePow, Int.reducePow, gt_iff_lt, ge_iff_le, List.reduceReplicate, ↓reduceIte, Tryd.f139]
    repeat (with_reducible refine And.intro (by first | omega | assumption | (constructor <;> assumption) | (simp; done) | (simp; omega) | (simp [*]; done)) ?_)
    repeat' (first
      | with_reducible refine And.intro (by first | omega | assumption | (constructor <;> assumption) | (simp; done) | (simp; omega) | (simp [*]; done)) ?_
      | simp (maxSteps := 4000000) (disch := omega) only [go_sem, Nat.reduceBEq, Nat.reduceAdd, Nat.reduceMul, Nat.reduceSub, Nat.reduceLT, Nat.reduceLeDiff, Int.reduceToNat, Int.reduceLT, Int.reduceLE, Int.reduceAdd, Int.reduceMul, Int.reduceSub, Int.reduceNeg, Int.reduceDiv, Int.reduceMod, Nat.reduceBNe, Nat.reduceGT, Int.reduceBEq, Int.reduceBNe, Int.reduceGT, Nat.reduceDiv, Nat.reduceMod, Nat.reducePow, Int.reducePow, gt_iff_lt, ge_iff_le, List.reduceReplicate, ↓reduceIte, Int.toNat_natCast, hVe, hU1, hU2, q1, q2, q3, q4, q5, q6, bAnd_m32, Int.sub_sub_self]
      | with_reducible refine roundS (next_of 1000 ?_)
      | with_reducible refine drawS_of mixed (by kernel_rfl) (dg_of 1000 ?_)
      | with_reducible refine endD_of (by kernel_rfl) (next_of 1000 ?_)
      | refine callS_p (hl) (next_of 1000 ?_)
      | refine callD_p (hl) (dg_of 1000 ?_)
      | with_reducible refine next_of 1000 ?_
      | ((first | refine condS_split (fun h => ?_) (fun h => ?_) | refine testS_split (fun h => ?_) (fun h => ?_) | refine testD_split (fun h => ?_) (fun h => ?_)) <;> (try simp only [bne_iff_ne, ne_eq, beq_iff_eq, decide_eq_true_eq, decide_eq_false_iff_not, Bool.not_eq_true, Bool.not_eq_false, Bool.not_true, Bool.not_false, bne_eq_false_iff_eq, beq_eq_false_iff_ne, Bool.and_eq_true, Bool.or_eq_true, Bool.and_eq_false_imp, Bool.or_eq_false_iff, Bool.not_eq_true', Bool.not_eq_false', Int.not_lt, Int.not_le] at h) <;> (try (exfalso; omega))))
    have hdec : U * 4294967296 + w1 < (v1 * 4294967296 + v0) * 4294967296 := by omega
    refine loopX (S := Nat × Nat) (S' := Nat) 0 rfl (fun s => Half 4294967296 U w1 v1 v0 s.1 s.2 ∧ s.2 < 4294967296 ∧ s.1 < 18446744073709551616)
      (fun s1 => ⟨[(16, .int .u64 (s1.2 : Nat)), (15, .int .u64 (s1.1 : Nat)), (14, .int .u64 (w0 : Int)), (13, .int .u64 (w1 : Int)), (11, .int .u64 (U : Int)), (10, .int .u64 (v0 : Int)), (9, .int .u64 (v1 : Int)), (8, .int .u64 (s : Int)), (2, .int .u64 (V : Int))], 0, [], base w, []⟩)
      (fun s => s.1) (fun q => q = (U * 4294967296 + w1) / V)
      (fun q => ⟨[(15, .int .u64 (q : Nat)), (14, .int .u64 (w0 : Int)), (13, .int .u64 (w1 : Int)), (11, .int .u64 (U : Int)), (10, .int .u64 (v0 : Int)), (9, .int .u64 (v1 : Int)), (8, .int .u64 (s : Int)), (2, .int .u64 (V : Int))], 0, [], base w, []⟩)
      (qq, rr) ⟨by have := Half.start (b := 4294967296) (U := U) (u0 := w1) (v1 := v1) (v0 := v0) (by omega) hw1; rw [hgq, hgr] at this; exact this, by show rr < 4294967296; omega, by show qq < 18446744073709551616; omega⟩ (Weak.sub (weak_of (by simp [wσ, go_sem, closed, closeds]) (by simp [whs, go_sem, EObj.closed, closed, closeds]) (by simp [*]) rfl rfl (by simp))) ?_ ?_
    · rintro ⟨q, r⟩ ⟨hH, hr, hqb⟩
      simp only at hH hr hqb
      have hpr : ((q * v0 : Nat) : Int) = (q : Int) * (v0 : Int) := Int.natCast_mul _ _
      by_cases hq : q < 4294967296
      · have hqv : q * v0 ≤ 4294967295 * 4294967295 := Nat.mul_le_mul (by omega) (by omega)
        by_cases ht : 4294967296 * r + w1 < q * v0
        · obtain ⟨h1, h2⟩ := hH.dec hdec (.inr ht)
          refine next_of 1000 ?_
          repeat' (first
            | with_reducible refine And.intro (by first | omega | assumption | (constructor <;> assumption) | (simp; done) | (simp; omega) | (simp [*]; done)) ?_
            | simp (maxSteps := 4000000) (disch := omega) only [go_sem, Nat.reduceBEq, Nat.reduceAdd, Nat.reduceMul, Nat.reduceSub, Nat.reduceLT, Nat.reduceLeDiff, Int.reduceToNat, Int.reduceLT, Int.reduceLE, Int.reduceAdd, Int.reduceMul, Int.reduceSub, Int.reduceNeg, Int.reduceDiv, Int.reduceMod, Nat.reduceBNe, Nat.reduceGT, Int.reduceBEq, Int.reduceBNe, Int.reduceGT, Nat.reduceDiv, Nat.reduceMod, Nat.reducePow, Int.reducePow, gt_iff_lt, ge_iff_le, List.reduceReplicate, ↓reduceIte]
            | with_reducible refine roundS (next_of 1000 ?_)
            | with_reducible refine drawS_of mixed (by kernel_rfl) (dg_of 1000 ?_)
            | with_reducible refine endD_of (by kernel_rfl) (next_of 1000 ?_)
            | with_reducible refine next_of 1000 ?_
            | ((first | refine condS_split (fun h => ?_) (fun h => ?_) | refine testS_split (fun h => ?_) (fun h => ?_) | refine testD_split (fun h => ?_) (fun h => ?_)) <;> (try simp only [bne_iff_ne, ne_eq, beq_iff_eq, decide_eq_true_eq, decide_eq_false_iff_not, Bool.not_eq_true, Bool.not_eq_false, Bool.not_true, Bool.not_false, bne_eq_false_iff_eq, beq_eq_false_iff_ne, Bool.and_eq_true, Bool.or_eq_true, Bool.and_eq_false_imp, Bool.or_eq_false_iff, Bool.not_eq_true', Bool.not_eq_false', Int.not_lt, Int.not_le] at h) <;> (try (exfalso; omega))))
          · refine ⟨q - 1, by show q - 1 = _; rw [hv, h2.over hdec hv0 (by omega) (by omega)], Weak.sub (weak_of (by
              have e : ((q : Int) - 1) = ((q - 1 : Nat) : Int) := by omega
              rw [e]
              simp [wσ, go_sem, closed, closeds]) (by simp [whs, go_sem]) (by simp) rfl rfl (by simp))⟩
          · refine ⟨(q - 1, r + v1), ⟨h2, by show r + v1 < 4294967296; omega, by show q - 1 < 18446744073709551616; omega⟩, Weak.sub (weak_of (by
              have e : ((q : Int) - 1) = ((q - 1 : Nat) : Int) := by omega
              rw [e]
              simp [wσ, go_sem, closed, closeds]) (by simp [whs, go_sem]) (by simp) rfl rfl (by simp)), by show q - 1 < q; omega⟩
        · refine next_of 1000 ?_
          repeat' (first
            | with_reducible refine And.intro (by first | omega | assumption | (constructor <;> assumption) | (simp; done) | (simp; omega) | (simp [*]; done)) ?_
            | simp (maxSteps := 4000000) (disch := omega) only [go_sem, Nat.reduceBEq, Nat.reduceAdd, Nat.reduceMul, Nat.reduceSub, Nat.reduceLT, Nat.reduceLeDiff, Int.reduceToNat, Int.reduceLT, Int.reduceLE, Int.reduceAdd, Int.reduceMul, Int.reduceSub, Int.reduceNeg, Int.reduceDiv, Int.reduceMod, Nat.reduceBNe, Nat.reduceGT, Int.reduceBEq, Int.reduceBNe, Int.reduceGT, Nat.reduceDiv, Nat.reduceMod, Nat.reducePow, Int.reducePow, gt_iff_lt, ge_iff_le, List.reduceReplicate, ↓reduceIte]
            | with_reducible refine roundS (next_of 1000 ?_)
            | with_reducible refine drawS_of mixed (by kernel_rfl) (dg_of 1000 ?_)
            | with_reducible refine endD_of (by kernel_rfl) (next_of 1000 ?_)
            | with_reducible refine next_of 1000 ?_
            | ((first | refine condS_split (fun h => ?_) (fun h => ?_) | refine testS_split (fun h => ?_) (fun h => ?_) | refine testD_split (fun h => ?_) (fun h => ?_)) <;> (try simp only [bne_iff_ne, ne_eq, beq_iff_eq, decide_eq_true_eq, decide_eq_false_iff_not, Bool.not_eq_true, Bool.not_eq_false, Bool.not_true, Bool.not_false, bne_eq_false_iff_eq, beq_eq_false_iff_ne, Bool.and_eq_true, Bool.or_eq_true, Bool.and_eq_false_imp, Bool.or_eq_false_iff, Bool.not_eq_true', Bool.not_eq_false', Int.not_lt, Int.not_le] at h) <;> (try (exfalso; omega))))
          refine ⟨q, by show q = _; rw [hv, hH.done (by omega) (by omega)], Weak.sub (weak_of (by simp [wσ, go_sem, closed, closeds]) (by simp [whs, go_sem, EObj.closed, closed, closeds]) (by simp [*]) rfl rfl (by simp))⟩
      · obtain ⟨h1, h2⟩ := hH.dec hdec (.inl (by omega))
        refine next_of 1000 ?_
        repeat' (first
          | with_reducible refine And.intro (by first | omega | assumption | (constructor <;> assumption) | (simp; done) | (simp; omega) | (simp [*]; done)) ?_
          | simp (maxSteps := 4000000) (disch := omega) only [go_sem, Nat.reduceBEq, Nat.reduceAdd, Nat.reduceMul, Nat.reduceSub, Nat.reduceLT, Nat.reduceLeDiff, Int.reduceToNat, Int.reduceLT, Int.reduceLE, Int.reduceAdd, Int.reduceMul, Int.reduceSub, Int.reduceNeg, Int.reduceDiv, Int.reduceMod, Nat.reduceBNe, Nat.reduceGT, Int.reduceBEq, Int.reduceBNe, Int.reduceGT, Nat.reduceDiv, Nat.reduceMod, Nat.reducePow, Int.reducePow, gt_iff_lt, ge_iff_le, List.reduceReplicate, ↓reduceIte]
          | with_reducible refine roundS (next_of 1000 ?_)
          | with_reducible refine drawS_of mixed (by kernel_rfl) (dg_of 1000 ?_)
          | with_reducible refine endD_of (by kernel_rfl) (next_of 1000 ?_)
          | with_reducible refine next_of 1000 ?_
          | ((first | refine condS_split (fun h => ?_) (fun h => ?_) | refine testS_split (fun h => ?_) (fun h => ?_) | refine testD_split (fun h => ?_) (fun h => ?_)) <;> (try simp only [bne_iff_ne, ne_eq, beq_iff_eq, decide_eq_true_eq, decide_eq_false_iff_not, Bool.not_eq_true, Bool.not_eq_false, Bool.not_true, Bool.not_false, bne_eq_false_iff_eq, beq_eq_false_iff_ne, Bool.and_eq_true, Bool.or_eq_true, Bool.and_eq_false_imp, Bool.or_eq_false_iff, Bool.not_eq_true', Bool.not_eq_false', Int.not_lt, Int.not_le] at h) <;> (try (exfalso; omega))))
        · refine ⟨q - 1, by show q - 1 = _; rw [hv, h2.over hdec hv0 (by omega) (by omega)], Weak.sub (weak_of (by
              have e : ((q : Int) - 1) = ((q - 1 : Nat) : Int) := by omega
              rw [e]
              simp [wσ, go_sem, closed, closeds]) (by simp [whs, go_sem]) (by simp) rfl rfl (by simp))⟩
        · refine ⟨(q - 1, r + v1), ⟨h2, by show r + v1 < 4294967296; omega, by show q - 1 < 18446744073709551616; omega⟩, Weak.sub (weak_of (by
            have e : ((q : Int) - 1) = ((q - 1 : Nat) : Int) := by omega
            rw [e]
            simp [wσ, go_sem, closed, closeds]) (by simp [whs, go_sem]) (by simp) rfl rfl (by simp)), by show q - 1 < q; omega⟩
    · rintro Q1 hQ1
      -- the second digit
      obtain ⟨R1, hR1⟩ : ∃ R, R = (U * 4294967296 + w1) % V := ⟨_, rfl⟩
      have hqr : Q1 * V + R1 = U * 4294967296 + w1 := by rw [hQ1, hR1]; have := Nat.div_add_mod (U * 4294967296 + w1) V; rw [Nat.mul_comm] at this; exact this
      have hR1V : R1 < V := by rw [hR1]; exact Nat.mod_lt _ (by omega)
      have a1 : Q1 * V ≤ U * 4294967296 + w1 := by rw [← hqr]; exact Nat.le_add_right _ _
      have a2 : U * 4294967296 + w1 < V * 4294967296 := by rw [hv]; exact hdec
      have hQ1b : Q1 < 4294967296 := Nat.lt_of_mul_lt_mul_right (show Q1 * V < 4294967296 * V from Nat.mul_comm V 4294967296 ▸ Nat.lt_of_le_of_lt a1 a2)
      have hqrI : (Q1 : Int) * (V : Int) + (R1 : Int) = (U : Int) * 4294967296 + w1 := by
        have : ((Q1 * V : Nat) : Int) = (Q1 : Int) * (V : Int) := Int.natCast_mul _ _
        rw [← this]; omega
      have hun : IntKind.u64.wrap (IntKind.u64.wrap (IntKind.u64.wrap ((U : Int) * 4294967296) + (w1 : Int)) - IntKind.u64.wrap ((Q1 : Int) * (V : Int))) = (R1 : Int) := by
        simp only [wrap_u64_mod]; omega
      have r5 : (R1 : Int) / (v1 : Int) = ((R1 / v1 : Nat) : Int) := (Int.natCast_ediv _ _).symm
      have m1 : R1 / v1 ≤ R1 := Nat.div_le_self _ _
      have m2 : R1 / v1 * v1 + R1 % v1 = R1 := by have := Nat.div_add_mod R1 v1; rw [Nat.mul_comm] at this; exact this
      have m3 : R1 % v1 < v1 := Nat.mod_lt _ (by omega)
      have r6 : ((R1 / v1 : Nat) : Int) * (v1 : Int) = (R1 : Int) - ((R1 % v1 : Nat) : Int) := by
        have : ((R1 / v1 * v1 : Nat) : Int) = ((R1 / v1 : Nat) : Int) * (v1 : Int) := Int.natCast_mul _ _
        rw [← this]; omega
      generalize hgq2 : R1 / v1 = q2 at *
      generalize hgr2 : R1 % v1 = r2 at *
      refine next_of 1000 ?_
      repeat' (first
        | with_reducible refine And.intro (by first | omega | assumption | (constructor <;> assumption) | (simp; done) | (simp; omega) | (simp [*]; done)) ?_
        | simp (maxSteps := 4000000) (disch := omega) only [go_sem, Nat.reduceBEq, Nat.reduceAdd, Nat.reduceMul, Nat.reduceSub, Nat.reduceLT, Nat.reduceLeDiff, Int.reduceToNat, Int.reduceLT, Int.reduceLE, Int.reduceAdd, Int.reduceMul, Int.reduceSub, Int.reduceNeg, Int.reduceDiv, Int.reduceMod, Nat.reduceBNe, Nat.reduceGT, Int.reduceBEq, Int.reduceBNe, Int.reduceGT, Nat.reduceDiv, Nat.reduceMod, Nat.reducePow, Int.reducePow, gt_iff_lt, ge_iff_le, List.reduceReplicate, ↓reduceIte, hun, r5, r6, Int.sub_sub_self]
        | with_reducible refine roundS (next_of 1000 ?_)
        | with_reducible refine drawS_of mixed (by kernel_rfl) (dg_of 1000 ?_)
        | with_reducible refine endD_of (by kernel_rfl) (next_of 1000 ?_)
        | with_reducible refine next_of 1000 ?_
        | ((first | refine condS_split (fun h => ?_) (fun h => ?_) | refine testS_split (fun h => ?_) (fun h => ?_) | refine testD_split (fun h => ?_) (fun h => ?_)) <;> (try simp only [bne_iff_ne, ne_eq, beq_iff_eq, decide_eq_true_eq, decide_eq_false_iff_not, Bool.not_eq_true, Bool.not_eq_false, Bool.not_true, Bool.not_false, bne_eq_false_iff_eq, beq_eq_false_iff_ne, Bool.and_eq_true, Bool.or_eq_true, Bool.and_eq_false_imp, Bool.or_eq_false_iff, Bool.not_eq_true', Bool.not_eq_false', Int.not_lt, Int.not_le] at h) <;> (try (exfalso; omega))))
      have hdec2 : R1 * 4294967296 + w0 < (v1 * 4294967296 + v0) * 4294967296 := by
        have h := mul_add_lt (b := 4294967296) hR1V hw0
        rw [← hv]
        exact h
      refine loopX (S := Nat × Nat) (S' := Nat) 2 rfl (fun s => Half 4294967296 R1 w0 v1 v0 s.1 s.2 ∧ s.2 < 4294967296 ∧ s.1 < 18446744073709551616)
        (fun s1 => ⟨[(16, .int .u64 (s1.2 : Nat)), (18, .int .u64 (s1.1 : Nat)), (17, .int .u64 (R1 : Int)), (15, .int .u64 (Q1 : Int)), (14, .int .u64 (w0 : Int)), (10, .int .u64 (v0 : Int)), (9, .int .u64 (v1 : Int)), (8, .int .u64 (s : Int)), (2, .int .u64 (V : Int))], 0, [], base w, []⟩)
        (fun s => s.1) (fun q => q = (R1 * 4294967296 + w0) / V)
        (fun q => ⟨[(18, .int .u64 (q : Nat)), (17, .int .u64 (R1 : Int)), (15, .int .u64 (Q1 : Int)), (14, .int .u64 (w0 : Int)), (10, .int .u64 (v0 : Int)), (9, .int .u64 (v1 : Int)), (8, .int .u64 (s : Int)), (2, .int .u64 (V : Int))], 0, [], base w, []⟩)
        (q2, r2) ⟨by have := Half.start (b := 4294967296) (U := R1) (u0 := w0) (v1 := v1) (v0 := v0) (by omega) hw0; rw [hgq2, hgr2] at this; exact this, by show r2 < 4294967296; omega, by show q2 < 18446744073709551616; omega⟩ (Weak.sub (weak_of (by simp [wσ, go_sem, closed, closeds]) (by simp [whs, go_sem, EObj.closed, closed, closeds]) (by simp [*]) rfl rfl (by simp))) ?_ ?_
      · rintro ⟨q, r⟩ ⟨hH, hr, hqb⟩
        simp only at hH hr hqb
        have hpr : ((q * v0 : Nat) : Int) = (q : Int) * (v0 : Int) := Int.natCast_mul _ _
        by_cases hq : q < 4294967296
        · have hqv : q * v0 ≤ 4294967295 * 4294967295 := Nat.mul_le_mul (by omega) (by omega)
          by_cases ht : 4294967296 * r + w0 < q * v0
          · obtain ⟨h1, h2⟩ := hH.dec hdec2 (.inr ht)
            refine next_of 1000 ?_
            repeat' (first
              | with_reducible refine And.intro (by first | omega | assumption | (constructor <;> assumption) | (simp; done) | (simp; omega) | (simp [*]; done)) ?_
              | simp (maxSteps := 4000000) (disch := omega) only [go_sem, Nat.reduceBEq, Nat.reduceAdd, Nat.reduceMul, Nat.reduceSub, Nat.reduceLT, Nat.reduceLeDiff, Int.reduceToNat, Int.reduceLT, Int.reduceLE, Int.reduceAdd, Int.reduceMul, Int.reduceSub, Int.reduceNeg, Int.reduceDiv, Int.reduceMod, Nat.reduceBNe, Nat.reduceGT, Int.reduceBEq, Int.reduceBNe, Int.reduceGT, Nat.reduceDiv, Nat.reduceMod, Nat.reducePow, Int.reducePow, gt_iff_lt, ge_iff_le, List.reduceReplicate, ↓reduceIte]
              | with_reducible refine roundS (next_of 1000 ?_)
              | with_reducible refine drawS_of mixed (by kernel_rfl) (dg_of 1000 ?_)
              | with_reducible refine endD_of (by kernel_rfl) (next_of 1000 ?_)
              | with_reducible refine next_of 1000 ?_
              | ((first | refine condS_split (fun h => ?_) (fun h => ?_) | refine testS_split (fun h => ?_) (fun h => ?_) | refine testD_split (fun h => ?_) (fun h => ?_)) <;> (try simp only [bne_iff_ne, ne_eq, beq_iff_eq, decide_eq_true_eq, decide_eq_false_iff_not, Bool.not_eq_true, Bool.not_eq_false, Bool.not_true, Bool.not_false, bne_eq_false_iff_eq, beq_eq_false_iff_ne, Bool.and_eq_true, Bool.or_eq_true, Bool.and_eq_false_imp, Bool.or_eq_false_iff, Bool.not_eq_true', Bool.not_eq_false', Int.not_lt, Int.not_le] at h) <;> (try (exfalso; omega))))
            · refine ⟨q - 1, by show q - 1 = _; rw [hv, h2.over hdec2 hv0 (by omega) (by omega)], Weak.sub (weak_of (by
                have e : ((q : Int) - 1) = ((q - 1 : Nat) : Int) := by omega
                rw [e]
                simp [wσ, go_sem, closed, closeds]) (by simp [whs, go_sem]) (by simp) rfl rfl (by simp))⟩
            · refine ⟨(q - 1, r + v1), ⟨h2, by show r + v1 < 4294967296; omega, by show q - 1 < 18446744073709551616; omega⟩, Weak.sub (weak_of (by
                have e : ((q : Int) - 1) = ((q - 1 : Nat) : Int) := by omega
                rw [e]
                simp [wσ, go_sem, closed, closeds]) (by simp [whs, go_sem]) (by simp) rfl rfl (by simp)), by show q - 1 < q; omega⟩
          · refine next_of 1000 ?_
            repeat' (first
              | with_reducible refine And.intro (by first | omega | assumption | (constructor <;> assumption) | (simp; done) | (simp; omega) | (simp [*]; done)) ?_
              | simp (maxSteps := 4000000) (disch := omega) only [go_sem, Nat.reduceBEq, Nat.reduceAdd, Nat.reduceMul, Nat.reduceSub, Nat.reduceLT, Nat.reduceLeDiff, Int.reduceToNat, Int.reduceLT, Int.reduceLE, Int.reduceAdd, Int.reduceMul, Int.reduceSub, Int.reduceNeg, Int.reduceDiv, Int.reduceMod, Nat.reduceBNe, Nat.reduceGT, Int.reduceBEq, Int.reduceBNe, Int.reduceGT, Nat.reduceDiv, Nat.reduceMod, Nat.reducePow, Int.reducePow, gt_iff_lt, ge_iff_le, List.reduceReplicate, ↓reduceIte]
              | with_reducible refine roundS (next_of 1000 ?_)
              | with_reducible refine drawS_of mixed (by kernel_rfl) (dg_of 1000 ?_)
              | with_reducible refine endD_of (by kernel_rfl) (next_of 1000 ?_)
              | with_reducible refine next_of 1000 ?_
              | ((first | refine condS_split (fun h => ?_) (fun h => ?_) | refine testS_split (fun h => ?_) (fun h => ?_) | refine testD_split (fun h => ?_) (fun h => ?_)) <;> (try simp only [bne_iff_ne, ne_eq, beq_iff_eq, decide_eq_true_eq, decide_eq_false_iff_not, Bool.not_eq_true, Bool.not_eq_false, Bool.not_true, Bool.not_false, bne_eq_false_iff_eq, beq_eq_false_iff_ne, Bool.and_eq_true, Bool.or_eq_true, Bool.and_eq_false_imp, Bool.or_eq_false_iff, Bool.not_eq_true', Bool.not_eq_false', Int.not_lt, Int.not_le] at h) <;> (try (exfalso; omega))))
            refine ⟨q, by show q = _; rw [hv, hH.done (by omega) (by omega)], Weak.sub (weak_of (by simp [wσ, go_sem, closed, closeds]) (by simp [whs, go_sem, EObj.closed, closed, closeds]) (by simp [*]) rfl rfl (by simp))⟩
        · obtain ⟨h1, h2⟩ := hH.dec hdec2 (.inl (by omega))
          refine next_of 1000 ?_
          repeat' (first
            | with_reducible refine And.intro (by first | omega | assumption | (constructor <;> assumption) | (simp; done) | (simp; omega) | (simp [*]; done)) ?_
            | simp (maxSteps := 4000000) (disch := omega) only [go_sem, Nat.reduceBEq, Nat.reduceAdd, Nat.reduceMul, Nat.reduceSub, Nat.reduceLT, Nat.reduceLeDiff, Int.reduceToNat, Int.reduceLT, Int.reduceLE, Int.reduceAdd, Int.reduceMul, Int.reduceSub, Int.reduceNeg, Int.reduceDiv, Int.reduceMod, Nat.reduceBNe, Nat.reduceGT, Int.reduceBEq, Int.reduceBNe, Int.reduceGT, Nat.reduceDiv, Nat.reduceMod, Nat.reducePow, Int.reducePow, gt_iff_lt, ge_iff_le, List.reduceReplicate, ↓reduceIte]
            | with_reducible refine roundS (next_of 1000 ?_)
            | with_reducible refine drawS_of mixed (by kernel_rfl) (dg_of 1000 ?_)
            | with_reducible refine endD_of (by kernel_rfl) (next_of 1000 ?_)
            | with_reducible refine next_of 1000 ?_
            | ((first | refine condS_split (fun h => ?_) (fun h => ?_) | refine testS_split (fun h => ?_) (fun h => ?_) | refine testD_split (fun h => ?_) (fun h => ?_)) <;> (try simp only [bne_iff_ne, ne_eq, beq_iff_eq, decide_eq_true_eq, decide_eq_false_iff_not, Bool.not_eq_true, Bool.not_eq_false, Bool.not_true, Bool.not_false, bne_eq_false_iff_eq, beq_eq_false_iff_ne, Bool.and_eq_true, Bool.or_eq_true, Bool.and_eq_false_imp, Bool.or_eq_false_iff, Bool.not_eq_true', Bool.not_eq_false', Int.not_lt, Int.not_le] at h) <;> (try (exfalso; omega))))
          · refine ⟨q - 1, by show q - 1 = _; rw [hv, h2.over hdec2 hv0 (by omega) (by omega)], Weak.sub (weak_of (by
                have e : ((q : Int) - 1) = ((q - 1 : Nat) : Int) := by omega
                rw [e]
                simp [wσ, go_sem, closed, closeds]) (by simp [whs, go_sem]) (by simp) rfl rfl (by simp))⟩
          · refine ⟨(q - 1, r + v1), ⟨h2, by show r + v1 < 4294967296; omega, by show q - 1 < 18446744073709551616; omega⟩, Weak.sub (weak_of (by
              have e : ((q : Int) - 1) = ((q - 1 : Nat) : Int) := by omega
              rw [e]
              simp [wσ, go_sem, closed, closeds]) (by simp [whs, go_sem]) (by simp) rfl rfl (by simp)), by show q - 1 < q; omega⟩
      · rintro Q2 hQ2
        obtain ⟨R2, hR2⟩ : ∃ R, R = (R1 * 4294967296 + w0) % V := ⟨_, rfl⟩
        have hqr2 : Q2 * V + R2 = R1 * 4294967296 + w0 := by rw [hQ2, hR2]; have := Nat.div_add_mod (R1 * 4294967296 + w0) V; rw [Nat.mul_comm] at this; exact this
        have hR2V : R2 < V := by rw [hR2]; exact Nat.mod_lt _ (by omega)
        have hQ2b : Q2 < 4294967296 := Nat.lt_of_mul_lt_mul_right (show Q2 * V < 4294967296 * V by omega)
        have hqrI2 : (Q2 : Int) * (V : Int) + (R2 : Int) = (R1 : Int) * 4294967296 + w0 := by
          have : ((Q2 * V : Nat) : Int) = (Q2 : Int) * (V : Int) := Int.natCast_mul _ _
          rw [← this]; omega
        have hun2 : IntKind.u64.wrap (IntKind.u64.wrap (IntKind.u64.wrap ((R1 : Int) * 4294967296) + (w0 : Int)) - IntKind.u64.wrap ((Q2 : Int) * (V : Int))) = (R2 : Int) := by
          simp only [wrap_u64_mod]; omega
        have hX2 : X = (Q1 * 4294967296 + Q2) * V + R2 := by
          rw [hXU, hw]
          have : (Q1 * 4294967296 + Q2) * V = Q1 * V * 4294967296 + Q2 * V := by rw [Nat.add_mul, Nat.mul_right_comm]
          omega
        have hq := quot_of (A := X) (D := V) (Q := Q1 * 4294967296 + Q2) (by omega) (by rw [Nat.add_mul _ 1]; omega)
        have hfin : (R2 : Int) / (2 : Int) ^ s = (((hi * 18446744073709551616 + lo) % y : Nat) : Int) := by
          have e1 : R2 = (hi * 18446744073709551616 + lo) % y * 2 ^ s := by rw [← hXm, hq.2]; omega
          have e2 : R2 / 2 ^ s = (hi * 18446744073709551616 + lo) % y := by rw [e1, Nat.mul_div_cancel _ (Nat.pow_pos (by omega))]
          rw [← e2, Int.natCast_ediv]; simp
        refine next_of 1000 ?_
        repeat' (first
          | with_reducible refine And.intro (by first | omega | assumption | (constructor <;> assumption) | (simp; done) | (simp; omega) | (simp [*]; done)) ?_
          | simp (maxSteps := 4000000) (disch := omega) only [go_sem, Nat.reduceBEq, Nat.reduceAdd, Nat.reduceMul, Nat.reduceSub, Nat.reduceLT, Nat.reduceLeDiff, Int.reduceToNat, Int.reduceLT, Int.reduceLE, Int.reduceAdd, Int.reduceMul, Int.reduceSub, Int.reduceNeg, Int.reduceDiv, Int.reduceMod, Nat.reduceBNe, Nat.reduceGT, Int.reduceBEq, Int.reduceBNe, Int.reduceGT, Nat.reduceDiv, Nat.reduceMod, Nat.reducePow, Int.reducePow, gt_iff_lt, ge_iff_le, List.reduceReplicate, ↓reduceIte, hun2, hfin, Int.toNat_natCast]
          | with_reducible refine roundS (next_of 1000 ?_)
          | with_reducible refine drawS_of mixed (by kernel_rfl) (dg_of 1000 ?_)
          | with_reducible refine endD_of (by kernel_rfl) (next_of 1000 ?_)
          | with_reducible refine next_of 1000 ?_
          | ((first | refine condS_split (fun h => ?_) (fun h => ?_) | refine testS_split (fun h => ?_) (fun h => ?_) | refine testD_split (fun h => ?_) (fun h => ?_)) <;> (try simp only [bne_iff_ne, ne_eq, beq_iff_eq, decide_eq_true_eq, decide_eq_false_iff_not, Bool.not_eq_true, Bool.not_eq_false, Bool.not_true, Bool.not_false, bne_eq_false_iff_eq, beq_eq_false_iff_ne, Bool.and_eq_true, Bool.or_eq_true, Bool.and_eq_false_imp, Bool.or_eq_false_iff, Bool.not_eq_true', Bool.not_eq_false', Int.not_lt, Int.not_le] at h) <;> (try (exfalso; omega))))
        rw [← hXV, hq.1]
        simp
end Go.Proofs.YtbilnedgpgpanaaDoor
