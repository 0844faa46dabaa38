/- Part of a proof over the seat YtbilnedgpgpanaaDoor. -/
import Derived.Test.YtbilnedgpgpanaaDoorWI
namespace Go.Proofs.YtbilnedgpgpanaaDoor
open Go Go.Ew
set_option maxRecDepth 100000
set_option linter.unusedSimpArgs false
set_option linter.unusedVariables false
set_option maxHeartbeats 1000000
theorem in128 : codeIn Tryd.f128.ntmps (Tryd.f128.body.getD .skip) = true := by kernel_rfl
theorem in131 : codeIn Tryd.f131.ntmps (Tryd.f131.body.getD .skip) = true := by kernel_rfl
theorem in129 : codeIn Tryd.f129.ntmps (Tryd.f129.body.getD .skip) = true := by kernel_rfl
/-- How many limbs a number has. -/
def limbs (N : Nat) : Nat := (blen N + 63) / 64
theorem limbs_le {N k : Nat} : limbs N ≤ k ↔ N < 18446744073709551616 ^ k := by
  rw [show (18446744073709551616 : Nat) = 2 ^ 64 by decide, ← Nat.pow_mul, ← blen_le]
  unfold limbs; omega
theorem limbs_eq {N k : Nat} (h1 : N < 18446744073709551616 ^ k) (h2 : k ≠ 0 → 18446744073709551616 ^ (k - 1) ≤ N) : limbs N = k := by
  apply Nat.le_antisymm (limbs_le.2 h1)
  rcases Nat.eq_zero_or_pos k with h | h
  · omega
  · have := h2 (by omega)
    rcases Nat.lt_or_ge (limbs N) k with h' | h'
    · have := limbs_le.1 (show limbs N ≤ k - 1 by omega); omega
    · exact h'
theorem dig_shift (N off i : Nat) : dig 18446744073709551616 N (off + i) = dig 18446744073709551616 (N / 18446744073709551616 ^ off) i := by
  unfold dig; rw [Nat.pow_add, Nat.div_div_eq_div_mul]
theorem dig_low {N i j : Nat} (h : i < j) : dig 18446744073709551616 (N % 18446744073709551616 ^ j) i = dig 18446744073709551616 N i := by
  have h1 := num_dig 18446744073709551616 N j
  exact (dig_num (b := 18446744073709551616) (by decide) (z := dig 18446744073709551616 N) (k := j) (N := N % 18446744073709551616 ^ j) (fun i _ => ⟨dig_nn _ _ _, dig_lt (by decide) _ _⟩) h1 i h).symm
theorem dig_big {N i : Nat} (h : N < 18446744073709551616 ^ i) : dig 18446744073709551616 N i = 0 := by
  unfold dig; rw [Nat.div_eq_of_lt h]; rfl
theorem dbd (N : Nat) : ∀ i, 0 ≤ dig 18446744073709551616 N i ∧ dig 18446744073709551616 N i < 18446744073709551616 := fun i => ⟨dig_nn _ _ _, dig_lt (by decide) _ _⟩
theorem numS_dig (N off k : Nat) : numS off (dig 18446744073709551616 N) k = ((N / 18446744073709551616 ^ off % 18446744073709551616 ^ k : Nat) : Int) := by
  rw [← num_dig]
  exact num_congr fun i _ => dig_shift N off i
/-- The cells of a block that stays, read. -/
theorem raw_ints {w : World} {b L : Nat} {z : Nat → Int} {T : TypeId} (h : w.heap[b]? = some (.cells (intsV .u64 z L).toArray T (0, 0))) : ∀ j, j < L → rawCell (base w) ⟨b, j, none⟩ = .int .u64 (z j) := by
  intro j hj
  simp [rawCell, base, cell_of_heap h, intsV, hj, ofScalar]
theorem raw_some {w : World} {b L : Nat} {z : Nat → Int} {T : TypeId} (h : w.heap[b]? = some (.cells (intsV .u64 z L).toArray T (0, 0))) : ∀ j, j < L → (w.cell? ⟨b, j, none⟩).isSome = true := by
  intro j hj
  simp [cell_of_heap h, intsV, hj]
theorem rep_ints (k : IntKind) (n : Nat) : rep n [.int k 0] = ints k (fun _ => 0) n := by
  rw [rep_one]
  apply List.ext_getElem?
  intro i
  by_cases h : i < n <;> simp [ints, h]
theorem trim_calls {w : World} {b Lb L cap : Nat} {z : Nat → Int} {T : TypeId} (h : w.heap[b]? = some (.cells (intsV .u64 z Lb).toArray T (0, 0))) (hz : ∀ j, 0 ≤ z j ∧ z j < 18446744073709551616) (hL : L ≤ Lb) (hsm : L < 1000000000) (hc : L ≤ cap) {N : Nat} (hN : num 18446744073709551616 z L = (N : Int)) :
    Calls Tryd.prog 128 #[.slice (some ⟨b, 0, none⟩) L cap] w (Ret (.slice (some ⟨b, 0, none⟩) (limbs N) cap) w) := by
  have hk := heap_lt h
  have rc := raw_ints h
  have rs := raw_some h
  refine pure_calls [.raw (.slice (some ⟨b, 0, none⟩) L cap)] Tryd.func128 rfl in128 (by simp [Tryd.f128]) (by simp [closeds, closed]) (next_of 1000 ?_)
  simp (maxSteps := 4000000) (disch := omega) only [go_sem, Nat.reduceBEq, Nat.reduceAdd, Nat.reduceMul, Nat.reduceSub, Nat.reduceLT, Nat.reduceLeDiff, Int.reduceToNat, Int.reduceLT, Int.reduceLE, Int.reduceAdd, Int.reduceMul, Int.reduceSub, Int.reduceNeg, Int.reduceDiv, Int.reduceMod, Nat.reduceBNe, Nat.reduceGT, Int.reduceBEq, Int.reduceBNe, Int.reduceGT, Nat.reduceDiv, Nat.reduceMod, Nat.reducePow, Int.reducePow, gt_iff_lt, ge_iff_le, List.reduceReplicate, ↓reduceIte, Tryd.f128]
  repeat (with_reducible refine And.intro (by first | omega | assumption | (constructor <;> assumption) | (simp; done) | (simp; omega) | (simp [*]; done)) ?_)
  refine loopU (S := Nat) (fun k => k ≤ L ∧ num 18446744073709551616 z k = (N : Int)) (fun k => ⟨[(0, .raw (.slice (some ⟨b, 0, none⟩) k cap))], 0, [], base w, []⟩) (fun k => k) L ⟨Nat.le_refl _, hN⟩ (Weak.sub (weak_of (by simp [wσ, go_sem, closed, closeds]) (by simp [whs, go_sem, EObj.closed, closed, closeds]) (by simp [*]) rfl rfl (by simp))) ?_
  rintro k ⟨hkL, hkN⟩
  have hfin : (k ≠ 0 → z (k - 1) ≠ 0) → limbs N = k := by
    intro hnz
    have hb := num_bd (b := 18446744073709551616) (k := k) (fun i _ => hz i)
    rw [hkN] at hb
    refine limbs_eq (Int.ofNat_lt.1 hb.2) fun hk0 => ?_
    obtain ⟨j, rfl⟩ : ∃ j, k = j + 1 := ⟨k - 1, by omega⟩
    rw [num] at hkN
    have hj := num_bd (b := 18446744073709551616) (k := j) (fun i _ => hz i)
    have hz1 := (hz j).1
    have hz2 := hnz (by omega)
    rw [Nat.add_sub_cancel] at hz2 ⊢
    have hP0 : 0 ≤ ((18446744073709551616 ^ j : Nat) : Int) := Int.natCast_nonneg _
    have : 1 * ((18446744073709551616 ^ j : Nat) : Int) ≤ z j * ((18446744073709551616 ^ j : Nat) : Int) := Int.mul_le_mul_of_nonneg_right (by omega) hP0
    apply Int.ofNat_le.1
    generalize ((18446744073709551616 ^ j : Nat) : Int) = P at *
    omega
  refine next_of 1000 ?_
  by_cases hk0 : k = 0
  · have hl := hfin (fun h => absurd hk0 h)
    subst hk0
    repeat' (first
      | with_reducible refine And.intro (by first | omega | assumption | (constructor <;> assumption) | (simp; done) | (simp; omega) | (simp [*]; done)) ?_
      | simp (maxSteps := 4000000) (disch := omega) only [go_sem, Nat.reduceBEq, Nat.reduceAdd, Nat.reduceMul, Nat.reduceSub, Nat.reduceLT, Nat.reduceLeDiff, Int.reduceToNat, Int.reduceLT, Int.reduceLE, Int.reduceAdd, Int.reduceMul, Int.reduceSub, Int.reduceNeg, Int.reduceDiv, Int.reduceMod, Nat.reduceBNe, Nat.reduceGT, Int.reduceBEq, Int.reduceBNe, Int.reduceGT, Nat.reduceDiv, Nat.reduceMod, Nat.reducePow, Int.reducePow, gt_iff_lt, ge_iff_le, List.reduceReplicate, ↓reduceIte]
      | with_reducible refine roundS (next_of 1000 ?_)
      | with_reducible refine drawS_of mixed (by kernel_rfl) (dg_of 1000 ?_)
      | with_reducible refine endD_of (by kernel_rfl) (next_of 1000 ?_)
      | with_reducible refine next_of 1000 ?_
      | ((first | refine condS_split (fun h => ?_) (fun h => ?_) | refine testS_split (fun h => ?_) (fun h => ?_) | refine testD_split (fun h => ?_) (fun h => ?_)) <;> (try simp only [bne_iff_ne, ne_eq, beq_iff_eq, decide_eq_true_eq, decide_eq_false_iff_not, Bool.not_eq_true, Bool.not_eq_false, Bool.not_true, Bool.not_false, bne_eq_false_iff_eq, beq_eq_false_iff_ne, Bool.and_eq_true, Bool.or_eq_true, Bool.and_eq_false_imp, Bool.or_eq_false_iff, Bool.not_eq_true', Bool.not_eq_false', Int.not_lt, Int.not_le] at h) <;> (try (exfalso; omega))))
    intro bs; simp [real, hl]
  · have e1 : ((k : Int) - 1).toNat = k - 1 := by omega
    by_cases hz0 : z (k - 1) = 0
    · repeat' (first
        | with_reducible refine And.intro (by first | omega | assumption | (constructor <;> assumption) | (simp; done) | (simp; omega) | (simp [*]; done)) ?_
        | simp (maxSteps := 4000000) (disch := omega) only [go_sem, Nat.reduceBEq, Nat.reduceAdd, Nat.reduceMul, Nat.reduceSub, Nat.reduceLT, Nat.reduceLeDiff, Int.reduceToNat, Int.reduceLT, Int.reduceLE, Int.reduceAdd, Int.reduceMul, Int.reduceSub, Int.reduceNeg, Int.reduceDiv, Int.reduceMod, Nat.reduceBNe, Nat.reduceGT, Int.reduceBEq, Int.reduceBNe, Int.reduceGT, Nat.reduceDiv, Nat.reduceMod, Nat.reducePow, Int.reducePow, gt_iff_lt, ge_iff_le, List.reduceReplicate, ↓reduceIte, add_spot, e1, rc, rs, hz0, ite_self]
        | with_reducible refine roundS (next_of 1000 ?_)
        | with_reducible refine drawS_of mixed (by kernel_rfl) (dg_of 1000 ?_)
        | with_reducible refine endD_of (by kernel_rfl) (next_of 1000 ?_)
        | with_reducible refine next_of 1000 ?_
        | ((first | refine condS_split (fun h => ?_) (fun h => ?_) | refine testS_split (fun h => ?_) (fun h => ?_) | refine testD_split (fun h => ?_) (fun h => ?_)) <;> (try simp only [bne_iff_ne, ne_eq, beq_iff_eq, decide_eq_true_eq, decide_eq_false_iff_not, Bool.not_eq_true, Bool.not_eq_false, Bool.not_true, Bool.not_false, bne_eq_false_iff_eq, beq_eq_false_iff_ne, Bool.and_eq_true, Bool.or_eq_true, Bool.and_eq_false_imp, Bool.or_eq_false_iff, Bool.not_eq_true', Bool.not_eq_false', Int.not_lt, Int.not_le] at h) <;> (try (exfalso; omega))))
      refine ⟨k - 1, ⟨by omega, ?_⟩, Weak.sub (weak_of (by simp [wσ, go_sem, closed, closeds]) (by simp [whs, go_sem, EObj.closed, closed, closeds]) (by simp [*]) rfl rfl (by simp)), by omega⟩
      obtain ⟨j, rfl⟩ : ∃ j, k = j + 1 := ⟨k - 1, by omega⟩
      rw [num] at hkN
      rw [Nat.add_sub_cancel] at hz0 ⊢
      rw [hz0] at hkN; omega
    · have hl := hfin (fun _ => hz0)
      repeat' (first
        | with_reducible refine And.intro (by first | omega | assumption | (constructor <;> assumption) | (simp; done) | (simp; omega) | (simp [*]; done)) ?_
        | simp (maxSteps := 4000000) (disch := omega) only [go_sem, Nat.reduceBEq, Nat.reduceAdd, Nat.reduceMul, Nat.reduceSub, Nat.reduceLT, Nat.reduceLeDiff, Int.reduceToNat, Int.reduceLT, Int.reduceLE, Int.reduceAdd, Int.reduceMul, Int.reduceSub, Int.reduceNeg, Int.reduceDiv, Int.reduceMod, Nat.reduceBNe, Nat.reduceGT, Int.reduceBEq, Int.reduceBNe, Int.reduceGT, Nat.reduceDiv, Nat.reduceMod, Nat.reducePow, Int.reducePow, gt_iff_lt, ge_iff_le, List.reduceReplicate, ↓reduceIte, add_spot, e1, rc, rs, hz0]
        | with_reducible refine roundS (next_of 1000 ?_)
        | with_reducible refine drawS_of mixed (by kernel_rfl) (dg_of 1000 ?_)
        | with_reducible refine endD_of (by kernel_rfl) (next_of 1000 ?_)
        | with_reducible refine next_of 1000 ?_
        | ((first | refine condS_split (fun h => ?_) (fun h => ?_) | refine testS_split (fun h => ?_) (fun h => ?_) | refine testD_split (fun h => ?_) (fun h => ?_)) <;> (try simp only [bne_iff_ne, ne_eq, beq_iff_eq, decide_eq_true_eq, decide_eq_false_iff_not, Bool.not_eq_true, Bool.not_eq_false, Bool.not_true, Bool.not_false, bne_eq_false_iff_eq, beq_eq_false_iff_ne, Bool.and_eq_true, Bool.or_eq_true, Bool.and_eq_false_imp, Bool.or_eq_false_iff, Bool.not_eq_true', Bool.not_eq_false', Int.not_lt, Int.not_le] at h) <;> (try (exfalso; omega))))
      intro bs; simp [real, hl]
/-- Shifted up, with one limb more. -/
theorem shifted_calls {w : World} {b Lb L cap : Nat} {z : Nat → Int} {T : TypeId} (h : w.heap[b]? = some (.cells (intsV .u64 z Lb).toArray T (0, 0))) (hz : ∀ j, 0 ≤ z j ∧ z j < 18446744073709551616) (hL : L ≤ Lb) (hsm : L < 1000000000) {N s : Nat} (hN : num 18446744073709551616 z L = (N : Int)) (hs : s < 64) :
    Calls Tryd.prog 131 #[.slice (some ⟨b, 0, none⟩) L cap, .int .u64 (s : Int)] w (RetN (.sl 0 0 (L + 1) (L + 1)) [.cells (ints .u64 (dig 18446744073709551616 (N * 2 ^ s)) (L + 1)) 22 (0, 0)] w) := by
  have hk := heap_lt h
  have rc := raw_ints h
  have rs := raw_some h
  have hzd : ∀ i, i < L → z i = dig 18446744073709551616 N i := dig_num (b := 18446744073709551616) (by decide) (fun i _ => hz i) hN
  have hNlt : N < 18446744073709551616 ^ L := by
    have := (num_bd (b := 18446744073709551616) (k := L) (fun i _ => hz i)).2
    rw [hN] at this; exact Int.ofNat_lt.1 this
  have hR : 2 ^ s < 18446744073709551616 := by rw [show (18446744073709551616 : Nat) = 2 ^ 64 by decide]; exact Nat.pow_lt_pow_right (by omega) hs
  refine new_calls _ _ [.raw (.slice (some ⟨b, 0, none⟩) L cap), .int .u64 (s : Int)] Tryd.func131 rfl in131 (by simp [Tryd.f131]) (by simp [closeds, closed]) (next_of 1000 ?_)
  simp (maxSteps := 4000000) (disch := omega) only [go_sem, Nat.reduceBEq, Nat.reduceAdd, Nat.reduceMul, Nat.reduceSub, Nat.reduceLT, Nat.reduceLeDiff, Int.reduceToNat, Int.reduceLT, Int.reduceLE, Int.reduceAdd, Int.reduceMul, Int.reduceSub, Int.reduceNeg, Int.reduceDiv, Int.reduceMod, Nat.reduceBNe, Nat.reduceGT, Int.reduceBEq, Int.reduceBNe, Int.reduceGT, Nat.reduceDiv, Nat.reduceMod, Nat.reducePow, Int.reducePow, gt_iff_lt, ge_iff_le, List.reduceReplicate, ↓reduceIte, Tryd.f131]
  repeat (with_reducible refine And.intro (by first | omega | assumption | (constructor <;> assumption) | (simp; done) | (simp; omega) | (simp [*]; done)) ?_)
  have eL : ((L : Int) + 1).toNat = L + 1 := by omega
  have hrep : ∀ n, List.replicate n (EV.int .u64 0) = ints .u64 (dig 18446744073709551616 (N % 18446744073709551616 ^ 0 * 2 ^ s)) n := by
    intro n
    rw [← rep_one, rep_ints, Nat.pow_zero, Nat.mod_one, Nat.zero_mul]
    exact ints_congr fun i _ => (dig_big (Nat.pow_pos (by omega))).symm
  rw [hrep, eL]
  refine loopU (S := Nat) (fun i => i ≤ L) (fun i => ⟨[(14, .int .i64 (i : Nat)), (13, .int .i64 (L : Nat)), (12, .raw (.slice (some ⟨b, 0, none⟩) L cap)), (5, .sl 0 0 (L + 1) (L + 1)), (1, .int .u64 (s : Nat))], 1,
    [(0, some (.cells (ints .u64 (dig 18446744073709551616 (N % 18446744073709551616 ^ i * 2 ^ s)) (L + 1)) 22 (0, 0)))], base w, []⟩) (fun i => L - i) 0 (Nat.zero_le _) (Weak.sub (weak_of (by simp [wσ, go_sem, closed, closeds, closeds_ints]) (by simp [whs, go_sem, EObj.closed, closed, closeds, closeds_ints]) (by simp [*]) rfl rfl (by simp))) ?_
  rintro i hi
  refine next_of 1000 ?_
  simp (maxSteps := 4000000) (disch := omega) only [go_sem, Nat.reduceBEq, Nat.reduceAdd, Nat.reduceMul, Nat.reduceSub, Nat.reduceLT, Nat.reduceLeDiff, Int.reduceToNat, Int.reduceLT, Int.reduceLE, Int.reduceAdd, Int.reduceMul, Int.reduceSub, Int.reduceNeg, Int.reduceDiv, Int.reduceMod, Nat.reduceBNe, Nat.reduceGT, Int.reduceBEq, Int.reduceBNe, Int.reduceGT, Nat.reduceDiv, Nat.reduceMod, Nat.reducePow, Int.reducePow, gt_iff_lt, ge_iff_le, List.reduceReplicate, ↓reduceIte]
  repeat (with_reducible refine And.intro (by first | omega | assumption | (constructor <;> assumption) | (simp; done) | (simp; omega) | (simp [*]; done)) ?_)
  refine condS_split (fun hlt => ?_) (fun hlt => ?_)
  all_goals (try simp only [bne_iff_ne, ne_eq, beq_iff_eq, decide_eq_true_eq, decide_eq_false_iff_not, Bool.not_eq_true, Bool.not_eq_false, Bool.not_true, Bool.not_false, bne_eq_false_iff_eq, beq_eq_false_iff_ne, Bool.and_eq_true, Bool.or_eq_true, Bool.and_eq_false_imp, Bool.or_eq_false_iff, Bool.not_eq_true', Bool.not_eq_false', Int.not_lt, Int.not_le] at hlt)
  · obtain ⟨u, hu⟩ := Int.eq_ofNat_of_zero_le (hz i).1
    have hub := (hz i).2
    rw [hu] at hub
    have hud : dig 18446744073709551616 N i = (u : Int) := by rw [← hzd i (by omega)]; exact hu
    obtain ⟨M, hM⟩ : ∃ M, M = N % 18446744073709551616 ^ i * 2 ^ s := ⟨_, rfl⟩
    have hPpos : 0 < 18446744073709551616 ^ i := Nat.pow_pos (by omega)
    have hMlt : M < 18446744073709551616 ^ i * 2 ^ s := by rw [hM]; exact Nat.mul_lt_mul_of_pos_right (Nat.mod_lt _ hPpos) (Nat.pow_pos (by omega))
    obtain ⟨c, hc⟩ : ∃ c, c = M / 18446744073709551616 ^ i := ⟨_, rfl⟩
    have hc2 : c < 2 ^ s := by rw [hc, Nat.div_lt_iff_lt_mul hPpos, Nat.mul_comm]; exact hMlt
    have hci : dig 18446744073709551616 M i = (c : Int) := by unfold dig; rw [← hc, Nat.mod_eq_of_lt (by omega)]
    have hci1 : dig 18446744073709551616 M (i + 1) = 0 := dig_big (by
      rw [Nat.pow_succ]
      exact Nat.lt_of_lt_of_le hMlt (Nat.mul_le_mul_left _ (by omega)))
    have hML : M < 18446744073709551616 ^ (L + 1) := by
      refine Nat.lt_of_lt_of_le hMlt ?_
      rw [Nat.pow_succ]
      exact Nat.mul_le_mul (Nat.pow_le_pow_right (by omega) hi) (by omega)
    have hnM : num 18446744073709551616 (dig 18446744073709551616 M) (L + 1) = (M : Int) := by rw [num_dig, Nat.mod_eq_of_lt hML]
    have hnext : ((N % 18446744073709551616 ^ (i + 1) * 2 ^ s : Nat) : Int) = (M : Int) + (u : Int) * (2 : Int) ^ s * ((18446744073709551616 ^ i : Nat) : Int) := by
      rw [Nat.mod_pow_succ, Nat.add_mul, ← hM]
      have : ((N / 18446744073709551616 ^ i % 18446744073709551616 : Nat) : Int) = (u : Int) := hud
      rw [Int.natCast_add, Int.natCast_mul, Int.natCast_mul, this, Int.mul_comm ((18446744073709551616 ^ i : Nat) : Int), Int.mul_right_comm]
      simp
    rw [← hM]
    by_cases hs0 : s = 0
    · subst hs0
      have hc0 : c = 0 := by simp at hc2; exact hc2
      have o1 : bOr .u64 0 (u : Int) = (u : Int) := by rw [bOr_u64 (by omega) (by omega) (by omega) (by omega)]; simp
      rw [hc0] at hci
      have hum : (u : Int) % 18446744073709551616 = (u : Int) := Int.emod_eq_of_lt (by omega) hub
      repeat' (first
        | with_reducible refine And.intro (by first | omega | assumption | (constructor <;> assumption) | (simp; done) | (simp; omega) | (simp [*]; done)) ?_
        | simp (maxSteps := 4000000) (disch := omega) only [go_sem, Nat.reduceBEq, Nat.reduceAdd, Nat.reduceMul, Nat.reduceSub, Nat.reduceLT, Nat.reduceLeDiff, Int.reduceToNat, Int.reduceLT, Int.reduceLE, Int.reduceAdd, Int.reduceMul, Int.reduceSub, Int.reduceNeg, Int.reduceDiv, Int.reduceMod, Nat.reduceBNe, Nat.reduceGT, Int.reduceBEq, Int.reduceBNe, Int.reduceGT, Nat.reduceDiv, Nat.reduceMod, Nat.reducePow, Int.reducePow, gt_iff_lt, ge_iff_le, List.reduceReplicate, ↓reduceIte, Int.toNat_natCast, add_spot, rc, rs, hu, hci, Int.pow_zero, Int.mul_one, hum, o1]
        | with_reducible refine roundS (next_of 1000 ?_)
        | with_reducible refine drawS_of mixed (by kernel_rfl) (dg_of 1000 ?_)
        | with_reducible refine endD_of (by kernel_rfl) (next_of 1000 ?_)
        | with_reducible refine next_of 1000 ?_
        | ((first | refine condS_split (fun h => ?_) (fun h => ?_) | refine testS_split (fun h => ?_) (fun h => ?_) | refine testD_split (fun h => ?_) (fun h => ?_)) <;> (try simp only [bne_iff_ne, ne_eq, beq_iff_eq, decide_eq_true_eq, decide_eq_false_iff_not, Bool.not_eq_true, Bool.not_eq_false, Bool.not_true, Bool.not_false, bne_eq_false_iff_eq, beq_eq_false_iff_ne, Bool.and_eq_true, Bool.or_eq_true, Bool.and_eq_false_imp, Bool.or_eq_false_iff, Bool.not_eq_true', Bool.not_eq_false', Int.not_lt, Int.not_le] at h) <;> (try (exfalso; omega))))
      refine ⟨i + 1, by omega, Weak.sub (weak_of (by simp [wσ, go_sem, closed, closeds]) (by
        have e : ints .u64 (dig 18446744073709551616 (N % 18446744073709551616 ^ (i + 1))) (L + 1) = ints .u64 (setF (dig 18446744073709551616 M) i (u : Int)) (L + 1) := by
          refine (ints_num (b := 18446744073709551616) (by decide) (fun j _ => setF_bd (dbd M) (by omega) hub j) ?_).symm
          rw [Nat.pow_zero, Nat.mul_one] at hnext
          rw [num_setF (by omega), hnM, hci, hnext]; simp
        rw [e]
        simp [whs, go_sem, EObj.closed, closed, closeds, closeds_ints]) (by simp) rfl rfl (by simp)), by omega⟩
    · obtain ⟨uh, ul, A1, A2, A3, A4, A5, A6, A7, A8, A9⟩ := shl_limb' (t := (u : Int)) (r := s) (by omega) hub (by omega) hs
      have hc3 : (c : Int) < (2 : Int) ^ s := by
        have : ((2 ^ s : Nat) : Int) = (2 : Int) ^ s := by simp
        rw [← this]; omega
      have o1 : bOr .u64 (c : Int) ul = (c : Int) + ul := by
        have := A8 (c : Int) (by omega) hc3
        unfold bOr at *
        rw [BitVec.or_comm, this]; omega
      have hsr : ((64 : Int) - (s : Int)).toNat = 64 - s := by omega
      have hi1 : ((i : Int) + 1).toNat = i + 1 := by omega
      repeat' (first
        | with_reducible refine And.intro (by first | omega | assumption | (constructor <;> assumption) | (simp; done) | (simp; omega) | (simp [*]; done)) ?_
        | simp (maxSteps := 4000000) (disch := omega) only [go_sem, Nat.reduceBEq, Nat.reduceAdd, Nat.reduceMul, Nat.reduceSub, Nat.reduceLT, Nat.reduceLeDiff, Int.reduceToNat, Int.reduceLT, Int.reduceLE, Int.reduceAdd, Int.reduceMul, Int.reduceSub, Int.reduceNeg, Int.reduceDiv, Int.reduceMod, Nat.reduceBNe, Nat.reduceGT, Int.reduceBEq, Int.reduceBNe, Int.reduceGT, Nat.reduceDiv, Nat.reduceMod, Nat.reducePow, Int.reducePow, gt_iff_lt, ge_iff_le, List.reduceReplicate, ↓reduceIte, Int.toNat_natCast, add_spot, rc, rs, hu, hci, A1, A2, o1, hsr, hi1]
        | with_reducible refine roundS (next_of 1000 ?_)
        | with_reducible refine drawS_of mixed (by kernel_rfl) (dg_of 1000 ?_)
        | with_reducible refine endD_of (by kernel_rfl) (next_of 1000 ?_)
        | with_reducible refine next_of 1000 ?_
        | ((first | refine condS_split (fun h => ?_) (fun h => ?_) | refine testS_split (fun h => ?_) (fun h => ?_) | refine testD_split (fun h => ?_) (fun h => ?_)) <;> (try simp only [bne_iff_ne, ne_eq, beq_iff_eq, decide_eq_true_eq, decide_eq_false_iff_not, Bool.not_eq_true, Bool.not_eq_false, Bool.not_true, Bool.not_false, bne_eq_false_iff_eq, beq_eq_false_iff_ne, Bool.and_eq_true, Bool.or_eq_true, Bool.and_eq_false_imp, Bool.or_eq_false_iff, Bool.not_eq_true', Bool.not_eq_false', Int.not_lt, Int.not_le] at h) <;> (try (exfalso; omega))))
      refine ⟨i + 1, by omega, Weak.sub (weak_of (by simp [wσ, go_sem, closed, closeds]) (by
        have e : ints .u64 (dig 18446744073709551616 (N % 18446744073709551616 ^ (i + 1) * 2 ^ s)) (L + 1) = ints .u64 (setF (setF (dig 18446744073709551616 M) i ((c : Int) + ul)) (i + 1) uh) (L + 1) := by
          refine (ints_num (b := 18446744073709551616) (by decide) (fun j _ => setF_bd (setF_bd (dbd M) (by omega) (by omega)) A6 (by omega) j) ?_).symm
          have e0 : setF (dig 18446744073709551616 M) i ((c : Int) + ul) (i + 1) = 0 := by simp only [setF]; rw [if_neg (by omega)]; exact hci1
          rw [num_setF (by omega), num_setF (by omega), hnM, hci, e0, hnext, A3]
          have e1 : ((18446744073709551616 ^ (i + 1) : Nat) : Int) = (18446744073709551616 ^ i : Nat) * 18446744073709551616 := by rw [Nat.pow_succ]; simp
          rw [e1]
          generalize ((18446744073709551616 ^ i : Nat) : Int) = P
          grind
        rw [e]
        simp [whs, go_sem, EObj.closed, closed, closeds, closeds_ints]) (by simp) rfl rfl (by simp)), by omega⟩
  · have hiL : i = L := by omega
    subst hiL
    rw [Nat.mod_eq_of_lt hNlt]
    repeat' (first
      | with_reducible refine And.intro (by first | omega | assumption | (constructor <;> assumption) | (simp; done) | (simp; omega) | (simp [*]; done)) ?_
      | simp (maxSteps := 4000000) (disch := omega) only [go_sem, Nat.reduceBEq, Nat.reduceAdd, Nat.reduceMul, Nat.reduceSub, Nat.reduceLT, Nat.reduceLeDiff, Int.reduceToNat, Int.reduceLT, Int.reduceLE, Int.reduceAdd, Int.reduceMul, Int.reduceSub, Int.reduceNeg, Int.reduceDiv, Int.reduceMod, Nat.reduceBNe, Nat.reduceGT, Int.reduceBEq, Int.reduceBNe, Int.reduceGT, Nat.reduceDiv, Nat.reduceMod, Nat.reducePow, Int.reducePow, gt_iff_lt, ge_iff_le, List.reduceReplicate, ↓reduceIte]
      | with_reducible refine roundS (next_of 1000 ?_)
      | with_reducible refine drawS_of mixed (by kernel_rfl) (dg_of 1000 ?_)
      | with_reducible refine endD_of (by kernel_rfl) (next_of 1000 ?_)
      | with_reducible refine next_of 1000 ?_
      | ((first | refine condS_split (fun h => ?_) (fun h => ?_) | refine testS_split (fun h => ?_) (fun h => ?_) | refine testD_split (fun h => ?_) (fun h => ?_)) <;> (try simp only [bne_iff_ne, ne_eq, beq_iff_eq, decide_eq_true_eq, decide_eq_false_iff_not, Bool.not_eq_true, Bool.not_eq_false, Bool.not_true, Bool.not_false, bne_eq_false_iff_eq, beq_eq_false_iff_ne, Bool.and_eq_true, Bool.or_eq_true, Bool.and_eq_false_imp, Bool.or_eq_false_iff, Bool.not_eq_true', Bool.not_eq_false', Int.not_lt, Int.not_le] at h) <;> (try (exfalso; omega))))
    rintro (_ | k) o ho
    · simpa [go_sem] using ho
    · simp at ho
theorem short_calls {w : World} {b Lb L cap : Nat} {z : Nat → Int} {T : TypeId} (h : w.heap[b]? = some (.cells (intsV .u64 z Lb).toArray T (0, 0))) (hz : ∀ j, 0 ≤ z j ∧ z j < 18446744073709551616) (hL : L ≤ Lb) (hsm : L < 1000000000) {N v : Nat} (hN : num 18446744073709551616 z L = (N : Int)) (hv0 : 0 < v) (hv1 : v < 18446744073709551616) :
    Calls Tryd.prog 129 #[.slice (some ⟨b, 0, none⟩) L cap, .int .u64 (v : Int)] w (RetN (.tup [.sl 0 0 L L, .sl 1 0 1 1]) [.cells (ints .u64 (dig 18446744073709551616 (N / v)) L) 22 (0, 0), .cells [.int .u64 ((N % v : Nat) : Int)] 22 (0, 0)] w) := by
  have hk := heap_lt h
  have rc := raw_ints h
  have rs := raw_some h
  have hzd : ∀ i, i < L → z i = dig 18446744073709551616 N i := dig_num (b := 18446744073709551616) (by decide) (fun i _ => hz i) hN
  have hNlt : N < 18446744073709551616 ^ L := by
    have := (num_bd (b := 18446744073709551616) (k := L) (fun i _ => hz i)).2
    rw [hN] at this; exact Int.ofNat_lt.1 this
  refine new_calls _ _ [.raw (.slice (some ⟨b, 0, none⟩) L cap), .int .u64 (v : Int)] Tryd.func129 rfl in129 (by simp [Tryd.f129]) (by simp [closeds, closed]) (next_of 1000 ?_)
  simp (maxSteps := 4000000) (disch := omega) only [go_sem, Nat.reduceBEq, Nat.reduceAdd, Nat.reduceMul, Nat.reduceSub, Nat.reduceLT, Nat.reduceLeDiff, Int.reduceToNat, Int.reduceLT, Int.reduceLE, Int.reduceAdd, Int.reduceMul, Int.reduceSub, Int.reduceNeg, Int.reduceDiv, Int.reduceMod, Nat.reduceBNe, Nat.reduceGT, Int.reduceBEq, Int.reduceBNe, Int.reduceGT, Nat.reduceDiv, Nat.reduceMod, Nat.reducePow, Int.reducePow, gt_iff_lt, ge_iff_le, List.reduceReplicate, ↓reduceIte, Tryd.f129]
  repeat (with_reducible refine And.intro (by first | omega | assumption | (constructor <;> assumption) | (simp; done) | (simp; omega) | (simp [*]; done)) ?_)
  have eL : ((L : Int)).toNat = L := by omega
  have hrep : ∀ n, n = L → List.replicate n (EV.int .u64 0) = ints .u64 (fun i => if L ≤ i then dig 18446744073709551616 (N / v) i else 0) n := by
    intro n hn
    rw [← rep_one, rep_ints]
    exact ints_congr fun i hi => by rw [if_neg (by omega)]
  rw [eL, hrep L rfl]
  have hr0 : N / 18446744073709551616 ^ L % v = 0 := by rw [Nat.div_eq_of_lt hNlt]; exact Nat.zero_mod _
  refine loopU (S := Nat) (fun k => k ≤ L) (fun k => ⟨[(8, .int .i64 ((k : Int) - 1)), (7, .int .u64 ((N / 18446744073709551616 ^ k % v : Nat) : Int)), (6, .sl 0 0 L L), (1, .int .u64 (v : Nat)), (0, .raw (.slice (some ⟨b, 0, none⟩) L cap))], 1,
    [(0, some (.cells (ints .u64 (fun i => if k ≤ i then dig 18446744073709551616 (N / v) i else 0) L) 22 (0, 0)))], base w, []⟩) (fun k => k) L (Nat.le_refl _) (Weak.sub (weak_of (by simp [wσ, go_sem, closed, closeds, hr0]) (by simp [whs, go_sem, EObj.closed, closed, closeds, closeds_ints]) (by simp) rfl rfl (by simp))) ?_
  rintro k hk
  refine next_of 1000 ?_
  simp (maxSteps := 4000000) (disch := omega) only [go_sem, Nat.reduceBEq, Nat.reduceAdd, Nat.reduceMul, Nat.reduceSub, Nat.reduceLT, Nat.reduceLeDiff, Int.reduceToNat, Int.reduceLT, Int.reduceLE, Int.reduceAdd, Int.reduceMul, Int.reduceSub, Int.reduceNeg, Int.reduceDiv, Int.reduceMod, Nat.reduceBNe, Nat.reduceGT, Int.reduceBEq, Int.reduceBNe, Int.reduceGT, Nat.reduceDiv, Nat.reduceMod, Nat.reducePow, Int.reducePow, gt_iff_lt, ge_iff_le, List.reduceReplicate, ↓reduceIte]
  repeat (with_reducible refine And.intro (by first | omega | assumption | (constructor <;> assumption) | (simp; done) | (simp; omega) | (simp [*]; done)) ?_)
  refine condS_split (fun hlt => ?_) (fun hlt => ?_)
  all_goals (try simp only [bne_iff_ne, ne_eq, beq_iff_eq, decide_eq_true_eq, decide_eq_false_iff_not, Bool.not_eq_true, Bool.not_eq_false, Bool.not_true, Bool.not_false, bne_eq_false_iff_eq, beq_eq_false_iff_ne, Bool.and_eq_true, Bool.or_eq_true, Bool.and_eq_false_imp, Bool.or_eq_false_iff, Bool.not_eq_true', Bool.not_eq_false', Int.not_lt, Int.not_le] at hlt)
  · obtain ⟨j, rfl⟩ : ∃ j, k = j + 1 := ⟨k - 1, by omega⟩
    obtain ⟨u, hu⟩ := Int.eq_ofNat_of_zero_le (hz j).1
    have hub := (hz j).2
    rw [hu] at hub
    have hud : N / 18446744073709551616 ^ j % 18446744073709551616 = u := by
      have : dig 18446744073709551616 N j = (u : Int) := by rw [← hzd j (by omega)]; exact hu
      exact Int.ofNat.inj this
    have hr : N / 18446744073709551616 ^ (j + 1) % v < v := Nat.mod_lt _ hv0
    have e1 : (((j + 1 : Nat) : Int) - 1) = (j : Int) := by omega
    -- the law
    obtain ⟨M, hM⟩ : ∃ M, M = N / 18446744073709551616 ^ j := ⟨_, rfl⟩
    have hM1 : N / 18446744073709551616 ^ (j + 1) = M / 18446744073709551616 := by rw [hM, Nat.pow_succ, Nat.div_div_eq_div_mul]
    rw [← hM] at hud
    rw [hM1] at hr
    have hq : (M / 18446744073709551616 % v * 18446744073709551616 + u) / v = N / v / 18446744073709551616 ^ j % 18446744073709551616 ∧ (M / 18446744073709551616 % v * 18446744073709551616 + u) % v = M % v := by
      have h1 : N / v / 18446744073709551616 ^ j = M / v := by rw [hM, Nat.div_div_eq_div_mul, Nat.div_div_eq_div_mul, Nat.mul_comm]
      rw [h1]
      have hMe : M = (M / 18446744073709551616 / v * 18446744073709551616) * v + (M / 18446744073709551616 % v * 18446744073709551616 + u) := by
        have a1 := Nat.div_add_mod (M / 18446744073709551616) v
        have a2 := Nat.div_add_mod M 18446744073709551616
        rw [hud] at a2
        have a3 : M / 18446744073709551616 * 18446744073709551616 = (M / 18446744073709551616 / v * 18446744073709551616) * v + M / 18446744073709551616 % v * 18446744073709551616 := by
          rw [Nat.mul_right_comm, ← Nat.add_mul, Nat.mul_comm (M / 18446744073709551616 / v) v, a1]
        omega
      have hlt2 : (M / 18446744073709551616 % v * 18446744073709551616 + u) / v < 18446744073709551616 := by
        have h3 := mul_add_lt (b := 18446744073709551616) hr (show u < 18446744073709551616 by omega)
        apply Nat.div_lt_of_lt_mul
        omega
      generalize M / 18446744073709551616 % v * 18446744073709551616 + u = Y at *
      generalize M / 18446744073709551616 / v = q at *
      constructor
      · rw [hMe, Nat.mul_comm (q * 18446744073709551616) v, Nat.mul_add_div hv0, Nat.add_comm (q * 18446744073709551616), Nat.add_mul_mod_self_right, Nat.mod_eq_of_lt hlt2]
      · rw [hMe, Nat.mul_comm (q * 18446744073709551616) v, Nat.mul_add_mod]
    rw [e1, hM1]
    repeat' (first
      | with_reducible refine And.intro (by first | omega | assumption | (constructor <;> assumption) | (simp; done) | (simp; omega) | (simp [*]; done)) ?_
      | simp (maxSteps := 4000000) (disch := omega) only [go_sem, Nat.reduceBEq, Nat.reduceAdd, Nat.reduceMul, Nat.reduceSub, Nat.reduceLT, Nat.reduceLeDiff, Int.reduceToNat, Int.reduceLT, Int.reduceLE, Int.reduceAdd, Int.reduceMul, Int.reduceSub, Int.reduceNeg, Int.reduceDiv, Int.reduceMod, Nat.reduceBNe, Nat.reduceGT, Int.reduceBEq, Int.reduceBNe, Int.reduceGT, Nat.reduceDiv, Nat.reduceMod, Nat.reducePow, Int.reducePow, gt_iff_lt, ge_iff_le, List.reduceReplicate, ↓reduceIte, Int.toNat_natCast, add_spot, rc, rs, hu]
      | with_reducible refine roundS (next_of 1000 ?_)
      | with_reducible refine drawS_of mixed (by kernel_rfl) (dg_of 1000 ?_)
      | with_reducible refine endD_of (by kernel_rfl) (next_of 1000 ?_)
      | refine callS_p (div64_p _ _ _ hr (by omega) (by omega)) (next_of 1000 ?_)
      | refine callD_p (div64_p _ _ _ hr (by omega) (by omega)) (dg_of 1000 ?_)
      | with_reducible refine next_of 1000 ?_
      | ((first | refine condS_split (fun h => ?_) (fun h => ?_) | refine testS_split (fun h => ?_) (fun h => ?_) | refine testD_split (fun h => ?_) (fun h => ?_)) <;> (try simp only [bne_iff_ne, ne_eq, beq_iff_eq, decide_eq_true_eq, decide_eq_false_iff_not, Bool.not_eq_true, Bool.not_eq_false, Bool.not_true, Bool.not_false, bne_eq_false_iff_eq, beq_eq_false_iff_ne, Bool.and_eq_true, Bool.or_eq_true, Bool.and_eq_false_imp, Bool.or_eq_false_iff, Bool.not_eq_true', Bool.not_eq_false', Int.not_lt, Int.not_le] at h) <;> (try (exfalso; omega))))
    refine ⟨j, by omega, Weak.sub (weak_of (by simp [wσ, go_sem, closed, closeds, ← hM, hq.2]) (by
      have e : ints .u64 (setF (fun i => if j + 1 ≤ i then dig 18446744073709551616 (N / v) i else 0) j (((M / 18446744073709551616 % v * 18446744073709551616 + u) / v : Nat) : Int)) L = ints .u64 (fun i => if j ≤ i then dig 18446744073709551616 (N / v) i else 0) L := by
        refine ints_congr fun i _ => ?_
        simp only [setF]
        by_cases hi : i = j
        · subst hi; rw [if_pos rfl, if_pos (Nat.le_refl _), hq.1]; rfl
        · rw [if_neg hi]
          by_cases hi2 : j ≤ i
          · rw [if_pos hi2, if_pos (by omega)]
          · rw [if_neg hi2, if_neg (by omega)]
      rw [e]
      simp [whs, go_sem, EObj.closed, closed, closeds, closeds_ints]) (by simp) rfl rfl (by simp)), by omega⟩
  · have hk0 : k = 0 := by omega
    subst hk0
    repeat' (first
      | with_reducible refine And.intro (by first | omega | assumption | (constructor <;> assumption) | (simp; done) | (simp; omega) | (simp [*]; done)) ?_
      | simp (maxSteps := 4000000) (disch := omega) only [go_sem, Nat.reduceBEq, Nat.reduceAdd, Nat.reduceMul, Nat.reduceSub, Nat.reduceLT, Nat.reduceLeDiff, Int.reduceToNat, Int.reduceLT, Int.reduceLE, Int.reduceAdd, Int.reduceMul, Int.reduceSub, Int.reduceNeg, Int.reduceDiv, Int.reduceMod, Nat.reduceBNe, Nat.reduceGT, Int.reduceBEq, Int.reduceBNe, Int.reduceGT, Nat.reduceDiv, Nat.reduceMod, Nat.reducePow, Int.reducePow, gt_iff_lt, ge_iff_le, List.reduceReplicate, ↓reduceIte]
      | with_reducible refine roundS (next_of 1000 ?_)
      | with_reducible refine drawS_of mixed (by kernel_rfl) (dg_of 1000 ?_)
      | with_reducible refine endD_of (by kernel_rfl) (next_of 1000 ?_)
      | with_reducible refine next_of 1000 ?_
      | ((first | refine condS_split (fun h => ?_) (fun h => ?_) | refine testS_split (fun h => ?_) (fun h => ?_) | refine testD_split (fun h => ?_) (fun h => ?_)) <;> (try simp only [bne_iff_ne, ne_eq, beq_iff_eq, decide_eq_true_eq, decide_eq_false_iff_not, Bool.not_eq_true, Bool.not_eq_false, Bool.not_true, Bool.not_false, bne_eq_false_iff_eq, beq_eq_false_iff_ne, Bool.and_eq_true, Bool.or_eq_true, Bool.and_eq_false_imp, Bool.or_eq_false_iff, Bool.not_eq_true', Bool.not_eq_false', Int.not_lt, Int.not_le] at h) <;> (try (exfalso; omega))))
    rintro (_ | _ | k) o ho
    · simpa [go_sem] using ho
    · simpa [go_sem, Nat.div_one] using ho
    · simp at ho
end Go.Proofs.YtbilnedgpgpanaaDoor
