/- Part of a proof over the seat YtbilnedgpgpanaaDoor. -/
import Derived.Test.YtbilnedgpgpanaaDoorZB
namespace Go.Proofs.YtbilnedgpgpanaaDoor
open Go RowKit Go.Ew
set_option maxRecDepth 100000
set_option linter.unusedSimpArgs false
set_option linter.unusedVariables false
set_option maxHeartbeats 2000000
theorem in56 : codeIn Tryd.f56.ntmps (Tryd.f56.body.getD .skip) = true := by kernel_rfl
theorem rbyteE (x i : Nat) (hi : i < 32) : IntKind.u8.wrap ((dig 18446744073709551616 x (i / 8) / 2 ^ (8 * (i % 8))).tmod 256) = dig 256 x i := by
  have h0 := dig_nn 18446744073709551616 x (i / 8)
  have hp : (0 : Int) ≤ 2 ^ (8 * (i % 8)) := Int.le_of_lt (Int.pow_pos (by omega))
  rw [Int.tmod_eq_emod_of_nonneg (Int.ediv_nonneg h0 hp), byte_of x i hi]
  have := dig_lt (b := 256) (by omega) x i
  have h2 := dig_nn 256 x i
  show dig 256 x i % 256 = _
  exact Int.emod_eq_of_lt h2 this
theorem rbytes_p (x : Nat) (hx : x < 115792089237316195423570985008687907853269984665640564039457584007913129639936) : Pure Tryd.prog 54 [wE x] (.agg (ints .u8 (fun j => dig 256 x (31 - j)) 32)) := by
  rw [wE_ints x]
  refine pure_p (args := [.agg (ints .u64 (dig 18446744073709551616 x) 4)]) en54 (by simp [closed, closeds, closed_wE, closeds_ints]) Tryd.func54 rfl in54 (by simp [Tryd.f54]) (by simp [closeds, closed, closed_wE, closeds_ints]) (fun w => next_of 1000 ?_)
  simp (maxSteps := 4000000) (disch := omega) only [go_sem, Nat.reduceBEq, Nat.reduceAdd, Nat.reduceMul, Nat.reduceSub, Nat.reduceLT, Nat.reduceLeDiff, Int.reduceToNat, Int.reduceLT, Int.reduceLE, Int.reduceAdd, Int.reduceMul, Int.reduceSub, Int.reduceNeg, Int.reduceDiv, Int.reduceMod, Nat.reduceBNe, Nat.reduceGT, Int.reduceBEq, Int.reduceBNe, Int.reduceGT, Nat.reduceDiv, Nat.reduceMod, Nat.reducePow, Int.reducePow, gt_iff_lt, ge_iff_le, List.reduceReplicate, ↓reduceIte, Tryd.f54]
  repeat (with_reducible refine And.intro (by first | omega | assumption | (constructor <;> assumption) | (simp; done) | (simp; omega) | (simp [*]; done)) ?_)
  repeat' (first
    | with_reducible refine And.intro (by first | omega | assumption | (constructor <;> assumption) | (simp; done) | (simp; omega) | (simp [*]; done)) ?_
    | simp (maxSteps := 4000000) (disch := omega) only [go_sem, Nat.reduceBEq, Nat.reduceAdd, Nat.reduceMul, Nat.reduceSub, Nat.reduceLT, Nat.reduceLeDiff, Int.reduceToNat, Int.reduceLT, Int.reduceLE, Int.reduceAdd, Int.reduceMul, Int.reduceSub, Int.reduceNeg, Int.reduceDiv, Int.reduceMod, Nat.reduceBNe, Nat.reduceGT, Int.reduceBEq, Int.reduceBNe, Int.reduceGT, Nat.reduceDiv, Nat.reduceMod, Nat.reducePow, Int.reducePow, gt_iff_lt, ge_iff_le, List.reduceReplicate, ↓reduceIte]
    | with_reducible refine roundS (next_of 1000 ?_)
    | with_reducible refine drawS_of mixed (by kernel_rfl) (dg_of 1000 ?_)
    | with_reducible refine endD_of (by kernel_rfl) (next_of 1000 ?_)
    | with_reducible refine next_of 1000 ?_
    | ((first | refine condS_split (fun h => ?_) (fun h => ?_) | refine testS_split (fun h => ?_) (fun h => ?_) | refine testD_split (fun h => ?_) (fun h => ?_)) <;> (try simp only [bne_iff_ne, ne_eq, beq_iff_eq, decide_eq_true_eq, decide_eq_false_iff_not, Bool.not_eq_true, Bool.not_eq_false, Bool.not_true, Bool.not_false, bne_eq_false_iff_eq, beq_eq_false_iff_ne, Bool.and_eq_true, Bool.or_eq_true, Bool.and_eq_false_imp, Bool.or_eq_false_iff, Bool.not_eq_true', Bool.not_eq_false', Int.not_lt, Int.not_le] at h) <;> (try (exfalso; omega))))
  refine loopU (S := Nat × (Nat → Int)) (fun s => s.1 ≤ 32 ∧ ∀ j, j < 32 → 32 - s.1 ≤ j → s.2 j = dig 256 x (31 - j))
    (fun s => ⟨[(4, .int .i64 (s.1 : Nat)), (3, .ptr 2 0), (2, .ptr 1 0), (1, .ptr 0 0)], 3,
      [(2, some (.cells (ints .u8 s.2 32) 55 (0, 0))), (1, some (.cells (ints .u8 (fun _ => 0) 32) 55 (0, 0))), (0, some (.cells (ints .u64 (dig 18446744073709551616 x) 4) 23 (0, 0)))], base w, []⟩)
    (fun s => 32 - s.1) (0, fun _ => 0) ⟨by omega, fun j h1 h2 => by simp only at h2; omega⟩ (Weak.sub (weak_of (by simp [wσ, go_sem, closed, closeds, closeds_ints]) (by simp [whs, go_sem, EObj.closed, closed, closeds, closeds_ints]) (by simp [*]) rfl rfl (by simp))) ?_
  rintro ⟨i, z⟩ ⟨hi, hz⟩
  simp only at hi hz
  refine next_of 1000 ?_
  simp (maxSteps := 4000000) (disch := omega) only [go_sem, Nat.reduceBEq, Nat.reduceAdd, Nat.reduceMul, Nat.reduceSub, Nat.reduceLT, Nat.reduceLeDiff, Int.reduceToNat, Int.reduceLT, Int.reduceLE, Int.reduceAdd, Int.reduceMul, Int.reduceSub, Int.reduceNeg, Int.reduceDiv, Int.reduceMod, Nat.reduceBNe, Nat.reduceGT, Int.reduceBEq, Int.reduceBNe, Int.reduceGT, Nat.reduceDiv, Nat.reduceMod, Nat.reducePow, Int.reducePow, gt_iff_lt, ge_iff_le, List.reduceReplicate, ↓reduceIte]
  repeat (with_reducible refine And.intro (by first | omega | assumption | (constructor <;> assumption) | (simp; done) | (simp; omega) | (simp [*]; done)) ?_)
  refine condS_split (fun h => ?_) (fun h => ?_)
  all_goals (try simp only [bne_iff_ne, ne_eq, beq_iff_eq, decide_eq_true_eq, decide_eq_false_iff_not, Bool.not_eq_true, Bool.not_eq_false, Bool.not_true, Bool.not_false, bne_eq_false_iff_eq, beq_eq_false_iff_ne, Bool.and_eq_true, Bool.or_eq_true, Bool.and_eq_false_imp, Bool.or_eq_false_iff, Bool.not_eq_true', Bool.not_eq_false', Int.not_lt, Int.not_le] at h)
  · have e1 : ((31 : Int) - (i : Int)).toNat = 31 - i := by omega
    have e2 : ((i : Int) / 8).toNat = i / 8 := by omega
    have e3 : (8 * ((i : Int) % 8)).toNat = 8 * (i % 8) := by omega
    have hb := rbyteE x i (by omega)
    have hb64 := bd64 x (i / 8)
    repeat' (first
      | with_reducible refine And.intro (by first | omega | assumption | (constructor <;> assumption) | (simp; done) | (simp; omega) | (simp [*]; done)) ?_
      | simp (maxSteps := 4000000) (disch := omega) only [go_sem, Nat.reduceBEq, Nat.reduceAdd, Nat.reduceMul, Nat.reduceSub, Nat.reduceLT, Nat.reduceLeDiff, Int.reduceToNat, Int.reduceLT, Int.reduceLE, Int.reduceAdd, Int.reduceMul, Int.reduceSub, Int.reduceNeg, Int.reduceDiv, Int.reduceMod, Nat.reduceBNe, Nat.reduceGT, Int.reduceBEq, Int.reduceBNe, Int.reduceGT, Nat.reduceDiv, Nat.reduceMod, Nat.reducePow, Int.reducePow, gt_iff_lt, ge_iff_le, List.reduceReplicate, ↓reduceIte, e1, e2, e3, hb]
      | with_reducible refine roundS (next_of 1000 ?_)
      | with_reducible refine drawS_of mixed (by kernel_rfl) (dg_of 1000 ?_)
      | with_reducible refine endD_of (by kernel_rfl) (next_of 1000 ?_)
      | with_reducible refine next_of 1000 ?_
      | ((first | refine condS_split (fun h => ?_) (fun h => ?_) | refine testS_split (fun h => ?_) (fun h => ?_) | refine testD_split (fun h => ?_) (fun h => ?_)) <;> (try simp only [bne_iff_ne, ne_eq, beq_iff_eq, decide_eq_true_eq, decide_eq_false_iff_not, Bool.not_eq_true, Bool.not_eq_false, Bool.not_true, Bool.not_false, bne_eq_false_iff_eq, beq_eq_false_iff_ne, Bool.and_eq_true, Bool.or_eq_true, Bool.and_eq_false_imp, Bool.or_eq_false_iff, Bool.not_eq_true', Bool.not_eq_false', Int.not_lt, Int.not_le] at h) <;> (try (exfalso; omega))))
    refine ⟨(i + 1, setF z (31 - i) (dig 256 x i)), ⟨by show i + 1 ≤ 32; omega, ?_⟩, Weak.sub (weak_of (by simp [wσ, go_sem, closed, closeds, closeds_ints]) (by simp [whs, go_sem, EObj.closed, closed, closeds, closeds_ints]) (by simp [*]) rfl rfl (by simp)), by show 32 - (i + 1) < 32 - i; omega⟩
    intro j h1 h2
    simp only [setF] at h2 ⊢
    split
    · rename_i e; rw [show 31 - j = i by omega]
    · exact hz j h1 (by omega)
  · have hi : i = 32 := by omega
    subst hi
    simp (maxSteps := 4000000) (disch := omega) only [go_sem, Nat.reduceBEq, Nat.reduceAdd, Nat.reduceMul, Nat.reduceSub, Nat.reduceLT, Nat.reduceLeDiff, Int.reduceToNat, Int.reduceLT, Int.reduceLE, Int.reduceAdd, Int.reduceMul, Int.reduceSub, Int.reduceNeg, Int.reduceDiv, Int.reduceMod, Nat.reduceBNe, Nat.reduceGT, Int.reduceBEq, Int.reduceBNe, Int.reduceGT, Nat.reduceDiv, Nat.reduceMod, Nat.reducePow, Int.reducePow, gt_iff_lt, ge_iff_le, List.reduceReplicate, ↓reduceIte]
    repeat (with_reducible refine And.intro (by first | omega | assumption | (constructor <;> assumption) | (simp; done) | (simp; omega) | (simp [*]; done)) ?_)
    repeat' (first
      | with_reducible refine And.intro (by first | omega | assumption | (constructor <;> assumption) | (simp; done) | (simp; omega) | (simp [*]; done)) ?_
      | simp (maxSteps := 4000000) (disch := omega) only [go_sem, Nat.reduceBEq, Nat.reduceAdd, Nat.reduceMul, Nat.reduceSub, Nat.reduceLT, Nat.reduceLeDiff, Int.reduceToNat, Int.reduceLT, Int.reduceLE, Int.reduceAdd, Int.reduceMul, Int.reduceSub, Int.reduceNeg, Int.reduceDiv, Int.reduceMod, Nat.reduceBNe, Nat.reduceGT, Int.reduceBEq, Int.reduceBNe, Int.reduceGT, Nat.reduceDiv, Nat.reduceMod, Nat.reducePow, Int.reducePow, gt_iff_lt, ge_iff_le, List.reduceReplicate, ↓reduceIte]
      | with_reducible refine roundS (next_of 1000 ?_)
      | with_reducible refine drawS_of mixed (by kernel_rfl) (dg_of 1000 ?_)
      | with_reducible refine endD_of (by kernel_rfl) (next_of 1000 ?_)
      | with_reducible refine next_of 1000 ?_
      | ((first | refine condS_split (fun h => ?_) (fun h => ?_) | refine testS_split (fun h => ?_) (fun h => ?_) | refine testD_split (fun h => ?_) (fun h => ?_)) <;> (try simp only [bne_iff_ne, ne_eq, beq_iff_eq, decide_eq_true_eq, decide_eq_false_iff_not, Bool.not_eq_true, Bool.not_eq_false, Bool.not_true, Bool.not_false, bne_eq_false_iff_eq, beq_eq_false_iff_ne, Bool.and_eq_true, Bool.or_eq_true, Bool.and_eq_false_imp, Bool.or_eq_false_iff, Bool.not_eq_true', Bool.not_eq_false', Int.not_lt, Int.not_le] at h) <;> (try (exfalso; omega))))
    rw [ints_congr (fun j hj => hz j hj (by omega))]
theorem nby_of {x i : Nat} (hi : i ≤ 32) (h1 : x < 256 ^ (32 - i)) (h2 : i = 32 ∨ 256 ^ (31 - i) ≤ x) : nby x = 32 - i := by
  have e : ∀ k, (256 : Nat) ^ k = 2 ^ (8 * k) := fun k => by rw [Nat.pow_mul]
  rw [e] at h1
  have b1 := blen_le.2 h1
  rcases h2 with h2 | h2
  · unfold nby; omega
  · rw [e] at h2
    have b2 := lt_blen.2 h2
    rcases Nat.lt_or_ge i 32 with h | h
    · unfold nby; omega
    · unfold nby; omega
theorem rleast_calls (x : Nat) (hx : x < 115792089237316195423570985008687907853269984665640564039457584007913129639936) (bs : Nat → Nat) (w : World) : Calls Tryd.prog 56 (reals bs [wE x]).toArray w (fun e w' => ∃ s : Option Nat,
    (match s with | none => nby x = 0 | some cap => nby x ≤ cap ∧ cap ≤ maxLen) ∧ RetW [] (match s with | none => .raw (.slice none 0 0) | some cap => .sl 3 0 (nby x) cap) 4
      (match s with | none => [none, none, none, none] | some cap => [none, none, none, some (.cells (ints .u8 (lbZ x) cap) 5 (0, 0))]) w e w') := by
  have e0 : (reals bs [wE x]).toArray = (reals (bsOf []) [wE x]).toArray := by simp [reals, wV_real]
  rw [e0]
  have c1 := rbytes_p x hx
  refine wr_calls (fun s : Option Nat => match s with | none => nby x = 0 | some cap => nby x ≤ cap ∧ cap ≤ maxLen) (fun s => match s with | none => .raw (.slice none 0 0) | some cap => .sl 3 0 (nby x) cap) (fun _ => 4)
    (fun s => match s with | none => [none, none, none, none] | some cap => [none, none, none, some (.cells (ints .u8 (lbZ x) cap) 5 (0, 0))]) [] [] [wE x] Tryd.func56 rfl in56 (by simp [Tryd.f56]) (by simp [closeds, closed_wE]) rfl (by simp) (by simp) (next_of 1000 ?_)
  simp (maxSteps := 4000000) (disch := omega) only [go_sem, Nat.reduceBEq, Nat.reduceAdd, Nat.reduceMul, Nat.reduceSub, Nat.reduceLT, Nat.reduceLeDiff, Int.reduceToNat, Int.reduceLT, Int.reduceLE, Int.reduceAdd, Int.reduceMul, Int.reduceSub, Int.reduceNeg, Int.reduceDiv, Int.reduceMod, Nat.reduceBNe, Nat.reduceGT, Int.reduceBEq, Int.reduceBNe, Int.reduceGT, Nat.reduceDiv, Nat.reduceMod, Nat.reducePow, Int.reducePow, gt_iff_lt, ge_iff_le, List.reduceReplicate, ↓reduceIte, Tryd.f56]
  repeat (with_reducible refine And.intro (by first | omega | assumption | (constructor <;> assumption) | (simp; done) | (simp; omega) | (simp [*]; done)) ?_)
  repeat' (first
    | with_reducible refine And.intro (by first | omega | assumption | (constructor <;> assumption) | (simp; done) | (simp; omega) | (simp [*]; done)) ?_
    | simp (maxSteps := 4000000) (disch := omega) only [go_sem, Nat.reduceBEq, Nat.reduceAdd, Nat.reduceMul, Nat.reduceSub, Nat.reduceLT, Nat.reduceLeDiff, Int.reduceToNat, Int.reduceLT, Int.reduceLE, Int.reduceAdd, Int.reduceMul, Int.reduceSub, Int.reduceNeg, Int.reduceDiv, Int.reduceMod, Nat.reduceBNe, Nat.reduceGT, Int.reduceBEq, Int.reduceBNe, Int.reduceGT, Nat.reduceDiv, Nat.reduceMod, Nat.reducePow, Int.reducePow, gt_iff_lt, ge_iff_le, List.reduceReplicate, ↓reduceIte]
    | with_reducible refine roundS (next_of 1000 ?_)
    | with_reducible refine drawS_of mixed (by kernel_rfl) (dg_of 1000 ?_)
    | with_reducible refine endD_of (by kernel_rfl) (next_of 1000 ?_)
    | refine callS_p (c1) (next_of 1000 ?_)
    | refine callD_p (c1) (dg_of 1000 ?_)
    | with_reducible refine next_of 1000 ?_
    | ((first | refine condS_split (fun h => ?_) (fun h => ?_) | refine testS_split (fun h => ?_) (fun h => ?_) | refine testD_split (fun h => ?_) (fun h => ?_)) <;> (try simp only [bne_iff_ne, ne_eq, beq_iff_eq, decide_eq_true_eq, decide_eq_false_iff_not, Bool.not_eq_true, Bool.not_eq_false, Bool.not_true, Bool.not_false, bne_eq_false_iff_eq, beq_eq_false_iff_ne, Bool.and_eq_true, Bool.or_eq_true, Bool.and_eq_false_imp, Bool.or_eq_false_iff, Bool.not_eq_true', Bool.not_eq_false', Int.not_lt, Int.not_le] at h) <;> (try (exfalso; omega))))
  refine loopX (S := Nat) (S' := Nat) 0 rfl (fun i => i ≤ 32 ∧ x < 256 ^ (32 - i))
    (fun i => ⟨[(4, .int .i64 (i : Nat)), (3, .ptr 1 0), (2, .raw (.slice none 0 0)), (1, .ptr 0 0)], 2,
      [(1, some (.cells (ints .u8 (fun j => dig 256 x (31 - j)) 32) 55 (0, 0))), (0, some (.cells (wC x) 23 (0, 0)))], baseW w [], []⟩)
    (fun i => 32 - i) (fun i => i ≤ 32 ∧ nby x = 32 - i)
    (fun i => ⟨[(4, .int .i64 (i : Nat)), (3, .ptr 1 0), (2, .raw (.slice none 0 0)), (1, .ptr 0 0)], 2,
      [(1, some (.cells (ints .u8 (fun j => dig 256 x (31 - j)) 32) 55 (0, 0))), (0, some (.cells (wC x) 23 (0, 0)))], baseW w [], []⟩)
    0 ⟨by omega, Nat.lt_of_lt_of_le hx (by decide)⟩ (Weak.sub (weak_of (by simp [wσ, go_sem, closed, closeds, closeds_ints]) (by simp [whs, go_sem, EObj.closed, closed, closeds, closeds_ints]) (by simp [*]) rfl rfl (by simp))) ?_ ?_
  · intro i ⟨hi, hlt⟩
    refine next_of 1000 ?_
    repeat' (first
      | with_reducible refine And.intro (by first | omega | assumption | (constructor <;> assumption) | (simp; done) | (simp; omega) | (simp [*]; done)) ?_
      | simp (maxSteps := 4000000) (disch := omega) only [go_sem, Nat.reduceBEq, Nat.reduceAdd, Nat.reduceMul, Nat.reduceSub, Nat.reduceLT, Nat.reduceLeDiff, Int.reduceToNat, Int.reduceLT, Int.reduceLE, Int.reduceAdd, Int.reduceMul, Int.reduceSub, Int.reduceNeg, Int.reduceDiv, Int.reduceMod, Nat.reduceBNe, Nat.reduceGT, Int.reduceBEq, Int.reduceBNe, Int.reduceGT, Nat.reduceDiv, Nat.reduceMod, Nat.reducePow, Int.reducePow, gt_iff_lt, ge_iff_le, List.reduceReplicate, ↓reduceIte, Int.toNat_natCast]
      | with_reducible refine roundS (next_of 1000 ?_)
      | with_reducible refine drawS_of mixed (by kernel_rfl) (dg_of 1000 ?_)
      | with_reducible refine endD_of (by kernel_rfl) (next_of 1000 ?_)
      | with_reducible refine next_of 1000 ?_
      | ((first | refine condS_split (fun h => ?_) (fun h => ?_) | refine testS_split (fun h => ?_) (fun h => ?_) | refine testD_split (fun h => ?_) (fun h => ?_)) <;> (try simp only [bne_iff_ne, ne_eq, beq_iff_eq, decide_eq_true_eq, decide_eq_false_iff_not, Bool.not_eq_true, Bool.not_eq_false, Bool.not_true, Bool.not_false, bne_eq_false_iff_eq, beq_eq_false_iff_ne, Bool.and_eq_true, Bool.or_eq_true, Bool.and_eq_false_imp, Bool.or_eq_false_iff, Bool.not_eq_true', Bool.not_eq_false', Int.not_lt, Int.not_le] at h) <;> (try (exfalso; omega))))
    · rename_i h1
      have hi32 : i < 32 := by omega
      have hlt' : x < 256 ^ (32 - (i + 1)) := by
        have e : (256 : Nat) ^ (32 - i) = 256 ^ (32 - (i + 1)) * 256 := by rw [← Nat.pow_succ]; congr 1; omega
        rw [e] at hlt
        have h5 : x / 256 ^ (32 - (i + 1)) < 256 := Nat.div_lt_of_lt_mul hlt
        have h6 : x / 256 ^ (31 - i) % 256 = 0 := by unfold dig at h; omega
        rw [show 31 - i = 32 - (i + 1) by omega, Nat.mod_eq_of_lt h5] at h6
        exact Nat.lt_of_div_eq_zero (Nat.pow_pos (by omega)) h6
      exact ⟨i + 1, ⟨by omega, hlt'⟩, Weak.sub (weak_of (by simp [wσ, go_sem, closed, closeds, closeds_ints]) (by simp [whs, go_sem, EObj.closed, closed, closeds, closeds_ints]) (by simp [*]) rfl rfl (by simp)), by omega⟩
    · rename_i h1
      have h2 : 256 ^ (31 - i) ≤ x := by
        rcases Nat.lt_or_ge x (256 ^ (31 - i)) with h3 | h3
        · exfalso; apply h; unfold dig; rw [Nat.div_eq_of_lt h3]; rfl
        · exact h3
      exact ⟨i, ⟨hi, nby_of hi hlt (.inr h2)⟩, Weak.sub (weak_of (by simp [wσ, go_sem, closed, closeds, closeds_ints]) (by simp [whs, go_sem, EObj.closed, closed, closeds, closeds_ints]) (by simp [*]) rfl rfl (by simp))⟩
    · have hi32 : i = 32 := by omega
      exact ⟨i, ⟨hi, nby_of hi hlt (.inl hi32)⟩, Weak.sub (weak_of (by simp [wσ, go_sem, closed, closeds, closeds_ints]) (by simp [whs, go_sem, EObj.closed, closed, closeds, closeds_ints]) (by simp [*]) rfl rfl (by simp))⟩
  · intro i ⟨hi, hn⟩
    obtain ⟨o, ho, ho2, ho3⟩ : ∃ o, (if 32 = i then 0 else i) = o ∧ o + nby x ≤ 32 ∧ (nby x ≠ 0 → o = 32 - nby x) := by
      by_cases h0 : 32 = i
      · exact ⟨0, by rw [if_pos h0], by omega, fun h => by omega⟩
      · exact ⟨i, by rw [if_neg h0], by omega, fun _ => by omega⟩
    have hL : nby x ≤ 32 := by omega
    refine next_of 1000 ?_
    repeat' (first
      | with_reducible refine And.intro (by first | omega | assumption | (constructor <;> assumption) | (simp; done) | (simp; omega) | (simp [*]; done)) ?_
      | simp (maxSteps := 4000000) (disch := omega) only [go_sem, Nat.reduceBEq, Nat.reduceAdd, Nat.reduceMul, Nat.reduceSub, Nat.reduceLT, Nat.reduceLeDiff, Int.reduceToNat, Int.reduceLT, Int.reduceLE, Int.reduceAdd, Int.reduceMul, Int.reduceSub, Int.reduceNeg, Int.reduceDiv, Int.reduceMod, Nat.reduceBNe, Nat.reduceGT, Int.reduceBEq, Int.reduceBNe, Int.reduceGT, Nat.reduceDiv, Nat.reduceMod, Nat.reducePow, Int.reducePow, gt_iff_lt, ge_iff_le, List.reduceReplicate, ↓reduceIte, Int.toNat_natCast, ho, ← hn]
      | with_reducible refine roundS (next_of 1000 ?_)
      | with_reducible refine drawS_of mixed (by kernel_rfl) (dg_of 1000 ?_)
      | with_reducible refine endD_of (by kernel_rfl) (next_of 1000 ?_)
      | with_reducible refine next_of 1000 ?_
      | ((first | refine condS_split (fun h => ?_) (fun h => ?_) | refine testS_split (fun h => ?_) (fun h => ?_) | refine testD_split (fun h => ?_) (fun h => ?_)) <;> (try simp only [bne_iff_ne, ne_eq, beq_iff_eq, decide_eq_true_eq, decide_eq_false_iff_not, Bool.not_eq_true, Bool.not_eq_false, Bool.not_true, Bool.not_false, bne_eq_false_iff_eq, beq_eq_false_iff_ne, Bool.and_eq_true, Bool.or_eq_true, Bool.and_eq_false_imp, Bool.or_eq_false_iff, Bool.not_eq_true', Bool.not_eq_false', Int.not_lt, Int.not_le] at h) <;> (try (exfalso; omega))))
    refine appendS (T := 5) 2 0 [] rfl Tryd.underlying54 (.inl ⟨_, Tryd.underlying54⟩) zr5 cz5 (by simp) rfl rfl ⟨by simp, .inr ⟨0, [], rfl, Nat.le_refl _, by decide, ⟨by simp, by simp⟩, rfl, by simp [closeds]⟩⟩ rfl (by simp [ints_len]; omega) (by simp only [List.length_singleton, Nat.mul_one]; rw [ints_drop _ _ _ _ _ ho2]; exact oneAll_ints _ _ _) (by simp [maxLen]; omega) (by rw [by5]; omega) (fun e' oo' hO => ?_)
    have hO2 : Own 4 5 [.int .u8 0] 3 e' oo' (nby x) (ints .u8 (fun j => dig 256 x (31 - (o + j))) (nby x)) := by
      rw [← ints_drop .u8 (fun j => dig 256 x (31 - j)) 32 o (nby x) ho2]
      simpa using hO
    clear hO
    rcases own_any hO2 with ⟨h0, rfl⟩ | ⟨cap, rfl, hc1, hc2, rfl⟩
    · refine next_of 1000 ?_
      repeat' (first
        | with_reducible refine And.intro (by first | omega | assumption | (constructor <;> assumption) | (simp; done) | (simp; omega) | (simp [*]; done)) ?_
        | simp (maxSteps := 4000000) (disch := omega) only [go_sem, Nat.reduceBEq, Nat.reduceAdd, Nat.reduceMul, Nat.reduceSub, Nat.reduceLT, Nat.reduceLeDiff, Int.reduceToNat, Int.reduceLT, Int.reduceLE, Int.reduceAdd, Int.reduceMul, Int.reduceSub, Int.reduceNeg, Int.reduceDiv, Int.reduceMod, Nat.reduceBNe, Nat.reduceGT, Int.reduceBEq, Int.reduceBNe, Int.reduceGT, Nat.reduceDiv, Nat.reduceMod, Nat.reducePow, Int.reducePow, gt_iff_lt, ge_iff_le, List.reduceReplicate, ↓reduceIte]
        | with_reducible refine roundS (next_of 1000 ?_)
        | with_reducible refine drawS_of mixed (by kernel_rfl) (dg_of 1000 ?_)
        | with_reducible refine endD_of (by kernel_rfl) (next_of 1000 ?_)
        | with_reducible refine next_of 1000 ?_
        | ((first | refine condS_split (fun h => ?_) (fun h => ?_) | refine testS_split (fun h => ?_) (fun h => ?_) | refine testD_split (fun h => ?_) (fun h => ?_)) <;> (try simp only [bne_iff_ne, ne_eq, beq_iff_eq, decide_eq_true_eq, decide_eq_false_iff_not, Bool.not_eq_true, Bool.not_eq_false, Bool.not_true, Bool.not_false, bne_eq_false_iff_eq, beq_eq_false_iff_ne, Bool.and_eq_true, Bool.or_eq_true, Bool.and_eq_false_imp, Bool.or_eq_false_iff, Bool.not_eq_true', Bool.not_eq_false', Int.not_lt, Int.not_le] at h) <;> (try (exfalso; omega))))
      refine ⟨none, h0, rfl, fun j hj => absurd hj (Nat.not_lt_zero j), ?_⟩
      rintro (_|_|_|_|i) o' ho' <;> simp at ho'
    · have ez : (fun i => if i < nby x then dig 256 x (31 - (o + i)) else 0) = lbZ x := by
        funext i
        unfold lbZ
        split
        · rename_i hi
          rw [ho3 (by omega)]; congr 1; omega
        · rfl
      rw [ez]
      clear hO2
      refine next_of 1000 ?_
      repeat' (first
        | with_reducible refine And.intro (by first | omega | assumption | (constructor <;> assumption) | (simp; done) | (simp; omega) | (simp [*]; done)) ?_
        | simp (maxSteps := 4000000) (disch := omega) only [go_sem, Nat.reduceBEq, Nat.reduceAdd, Nat.reduceMul, Nat.reduceSub, Nat.reduceLT, Nat.reduceLeDiff, Int.reduceToNat, Int.reduceLT, Int.reduceLE, Int.reduceAdd, Int.reduceMul, Int.reduceSub, Int.reduceNeg, Int.reduceDiv, Int.reduceMod, Nat.reduceBNe, Nat.reduceGT, Int.reduceBEq, Int.reduceBNe, Int.reduceGT, Nat.reduceDiv, Nat.reduceMod, Nat.reducePow, Int.reducePow, gt_iff_lt, ge_iff_le, List.reduceReplicate, ↓reduceIte]
        | with_reducible refine roundS (next_of 1000 ?_)
        | with_reducible refine drawS_of mixed (by kernel_rfl) (dg_of 1000 ?_)
        | with_reducible refine endD_of (by kernel_rfl) (next_of 1000 ?_)
        | with_reducible refine next_of 1000 ?_
        | ((first | refine condS_split (fun h => ?_) (fun h => ?_) | refine testS_split (fun h => ?_) (fun h => ?_) | refine testD_split (fun h => ?_) (fun h => ?_)) <;> (try simp only [bne_iff_ne, ne_eq, beq_iff_eq, decide_eq_true_eq, decide_eq_false_iff_not, Bool.not_eq_true, Bool.not_eq_false, Bool.not_true, Bool.not_false, bne_eq_false_iff_eq, beq_eq_false_iff_ne, Bool.and_eq_true, Bool.or_eq_true, Bool.and_eq_false_imp, Bool.or_eq_false_iff, Bool.not_eq_true', Bool.not_eq_false', Int.not_lt, Int.not_le] at h) <;> (try (exfalso; omega))))
      refine ⟨some cap, ⟨hc1, hc2⟩, rfl, fun j hj => absurd hj (Nat.not_lt_zero j), ?_⟩
      rintro (_|_|_|_|i) o' ho'
      · simp at ho'
      · simp at ho'
      · simp at ho'
      · simp at ho'; subst ho'; simp
      · simp at ho'
end Go.Proofs.YtbilnedgpgpanaaDoor
