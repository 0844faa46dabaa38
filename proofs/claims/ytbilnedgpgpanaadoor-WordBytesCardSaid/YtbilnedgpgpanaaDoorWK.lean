/- Part of a proof over the seat YtbilnedgpgpanaaDoor. -/
import Derived.Test.YtbilnedgpgpanaaDoorWJ
namespace Go.Proofs.YtbilnedgpgpanaaDoor
open Go Go.Ew
set_option maxRecDepth 100000
set_option linter.unusedSimpArgs false
set_option linter.unusedVariables false
set_option maxHeartbeats 1000000
theorem in116 : codeIn Tryd.f116.ntmps (Tryd.f116.body.getD .skip) = true := by kernel_rfl
theorem ups_ints (k : Nat) (K : IntKind) (x : Nat → Int) (n : Nat) : ups k (ints K x n) = ints K x n := by
  have : ∀ l : List Nat, ups k (l.map fun i => EV.int K (x i)) = l.map fun i => EV.int K (x i) := by
    intro l; induction l with
    | nil => simp [ups]
    | cons a l ih => simp [ups, up, ih]
  exact this _
attribute [go_sem] ups_ints
theorem keep {C : Cx} {w0 w : World} {n : Nat} {hs : List (Nat × Option EObj)} {bs : Nat → Nat} (hh : HRel C (base w0) n hs bs w) {b : Nat} {o : Obj} (h : w0.heap[b]? = some o) : w.heap[b]? = some o := by
  rw [(hh.frame b (heap_lt h)).2]; exact h
theorem num_limbs {z : Nat → Int} {L N : Nat} (hz : ∀ j, 0 ≤ z j ∧ z j < 18446744073709551616) (hN : num 18446744073709551616 z L = (N : Int)) : limbs N ≤ L ∧ num 18446744073709551616 z (limbs N) = (N : Int) ∧ ∀ i, i < L → z i = dig 18446744073709551616 N i := by
  have hzd : ∀ i, i < L → z i = dig 18446744073709551616 N i := dig_num (b := 18446744073709551616) (by decide) (fun i _ => hz i) hN
  have hNlt : N < 18446744073709551616 ^ L := by
    have := (num_bd (b := 18446744073709551616) (k := L) (fun i _ => hz i)).2
    rw [hN] at this; exact Int.ofNat_lt.1 this
  have hl := limbs_le.2 hNlt
  refine ⟨hl, ?_, hzd⟩
  rw [num_congr (y := dig 18446744073709551616 N) (fun i hi => hzd i (by omega)), num_dig, Nat.mod_eq_of_lt (limbs_le.1 (Nat.le_refl _))]
/-- The slices u and v: the numbers N and D. -/
structure UV (w : World) (bu bv : Nat) (z y : Nat → Int) (Lu Lv L L' : Nat) (N D : Nat) (Tu Tv : TypeId) : Prop where
  u : w.heap[bu]? = some (.cells (intsV .u64 z Lu).toArray Tu (0, 0))
  v : w.heap[bv]? = some (.cells (intsV .u64 y Lv).toArray Tv (0, 0))
  hz : ∀ j, 0 ≤ z j ∧ z j < 18446744073709551616
  hy : ∀ j, 0 ≤ y j ∧ y j < 18446744073709551616
  hL : L ≤ Lu
  hL' : L' ≤ Lv
  su : L < 1000000
  sv : L' < 1000000
  hN : num 18446744073709551616 z L = (N : Int)
  hD : num 18446744073709551616 y L' = (D : Int)
theorem divide_short {w : World} {bu bv : Nat} {z y : Nat → Int} {Lu Lv L L' N D : Nat} {Tu Tv : TypeId} (h : UV w bu bv z y Lu Lv L L' N D Tu Tv) {cu cv : Nat} (hcu : L ≤ cu) (hcv : L' ≤ cv) (h1 : limbs D = 1) :
    Calls Tryd.prog 116 #[.slice (some ⟨bu, 0, none⟩) L cu, .slice (some ⟨bv, 0, none⟩) L' cv] w
      (RetN (.tup [.sl 0 0 (limbs N) (limbs N), .sl 1 0 1 1]) [.cells (ints .u64 (dig 18446744073709551616 (N / D)) (limbs N)) 22 (0, 0), .cells [.int .u64 ((N % D : Nat) : Int)] 22 (0, 0)] w) := by
  obtain ⟨l1, l2, l3⟩ := num_limbs h.hz h.hN
  obtain ⟨m1, m2, m3⟩ := num_limbs h.hy h.hD
  have hD1 : D < 18446744073709551616 ^ 1 := limbs_le.1 (Nat.le_of_eq h1)
  have hD0 : 0 < D := by
    rcases Nat.eq_zero_or_pos D with h0 | h0
    · rw [h0] at h1; exact absurd h1 (by decide)
    · exact h0
  rw [Nat.pow_one] at hD1
  have hy0 : y 0 = (D : Int) := by rw [m3 0 (by omega), dig, Nat.pow_zero, Nat.div_one, Nat.mod_eq_of_lt hD1]
  have hku := heap_lt h.u
  have hkv := heap_lt h.v
  have rc := raw_ints h.v
  have rs := raw_some h.v
  have su := h.su
  have sv := h.sv
  have hL := h.hL
  have hL' := h.hL'
  refine new_calls _ _ [.raw (.slice (some ⟨bu, 0, none⟩) L cu), .raw (.slice (some ⟨bv, 0, none⟩) L' cv)] Tryd.func116 rfl in116 (by simp [Tryd.f116]) (by simp [closeds, closed]) (next_of 1000 ?_)
  simp (maxSteps := 4000000) (disch := omega) only [go_sem, Nat.reduceBEq, Nat.reduceAdd, Nat.reduceMul, Nat.reduceSub, Nat.reduceLT, Nat.reduceLeDiff, Int.reduceToNat, Int.reduceLT, Int.reduceLE, Int.reduceAdd, Int.reduceMul, Int.reduceSub, Int.reduceNeg, Int.reduceDiv, Int.reduceMod, Nat.reduceBNe, Nat.reduceGT, Int.reduceBEq, Int.reduceBNe, Int.reduceGT, Nat.reduceDiv, Nat.reduceMod, Nat.reducePow, Int.reducePow, gt_iff_lt, ge_iff_le, List.reduceReplicate, ↓reduceIte, Tryd.f116]
  repeat (with_reducible refine And.intro (by first | omega | assumption | (constructor <;> assumption) | (simp; done) | (simp; omega) | (simp [*]; done)) ?_)
  refine callS_pure (.raw (.slice (some ⟨bu, 0, none⟩) (limbs N) cu)) en128 (by simp [closed]) (fun bs w' hh => trim_calls (keep hh h.u) h.hz hL (by omega) hcu h.hN) (next_of 1000 ?_)
  simp (maxSteps := 4000000) (disch := omega) only [go_sem, Nat.reduceBEq, Nat.reduceAdd, Nat.reduceMul, Nat.reduceSub, Nat.reduceLT, Nat.reduceLeDiff, Int.reduceToNat, Int.reduceLT, Int.reduceLE, Int.reduceAdd, Int.reduceMul, Int.reduceSub, Int.reduceNeg, Int.reduceDiv, Int.reduceMod, Nat.reduceBNe, Nat.reduceGT, Int.reduceBEq, Int.reduceBNe, Int.reduceGT, Nat.reduceDiv, Nat.reduceMod, Nat.reducePow, Int.reducePow, gt_iff_lt, ge_iff_le, List.reduceReplicate, ↓reduceIte]
  repeat (with_reducible refine And.intro (by first | omega | assumption | (constructor <;> assumption) | (simp; done) | (simp; omega) | (simp [*]; done)) ?_)
  refine callS_pure (.raw (.slice (some ⟨bv, 0, none⟩) (limbs D) cv)) en128 (by simp [closed]) (fun bs w' hh => trim_calls (keep hh h.v) h.hy hL' (by omega) hcv h.hD) (next_of 1000 ?_)
  rw [h1]
  have rc0 := rc 0 (by omega)
  have rs0 := rs 0 (by omega)
  repeat' (first
    | with_reducible refine And.intro (by first | omega | assumption | (constructor <;> assumption) | (simp; done) | (simp; omega) | (simp [*]; done)) ?_
    | simp (maxSteps := 4000000) (disch := omega) only [go_sem, Nat.reduceBEq, Nat.reduceAdd, Nat.reduceMul, Nat.reduceSub, Nat.reduceLT, Nat.reduceLeDiff, Int.reduceToNat, Int.reduceLT, Int.reduceLE, Int.reduceAdd, Int.reduceMul, Int.reduceSub, Int.reduceNeg, Int.reduceDiv, Int.reduceMod, Nat.reduceBNe, Nat.reduceGT, Int.reduceBEq, Int.reduceBNe, Int.reduceGT, Nat.reduceDiv, Nat.reduceMod, Nat.reducePow, Int.reducePow, gt_iff_lt, ge_iff_le, List.reduceReplicate, ↓reduceIte, add_spot, rc0, rs0, hy0]
    | with_reducible refine roundS (next_of 1000 ?_)
    | with_reducible refine drawS_of mixed (by kernel_rfl) (dg_of 1000 ?_)
    | with_reducible refine endD_of (by kernel_rfl) (next_of 1000 ?_)
    | with_reducible refine next_of 1000 ?_
    | ((first | refine condS_split (fun h => ?_) (fun h => ?_) | refine testS_split (fun h => ?_) (fun h => ?_) | refine testD_split (fun h => ?_) (fun h => ?_)) <;> (try simp only [bne_iff_ne, ne_eq, beq_iff_eq, decide_eq_true_eq, decide_eq_false_iff_not, Bool.not_eq_true, Bool.not_eq_false, Bool.not_true, Bool.not_false, bne_eq_false_iff_eq, beq_eq_false_iff_ne, Bool.and_eq_true, Bool.or_eq_true, Bool.and_eq_false_imp, Bool.or_eq_false_iff, Bool.not_eq_true', Bool.not_eq_false', Int.not_lt, Int.not_le] at h) <;> (try (exfalso; omega))))
  refine callS_new _ _ en129 ?_ ?_ (fun bs w' hh => short_calls (keep hh h.u) h.hz (Nat.le_trans l1 hL) (by omega) l2 hD0 hD1) (next_of 1000 ?_)
  · simp [closed, closeds]
  · simp [EObj.closed, closeds_ints, closeds, closed]
  repeat' (first
    | with_reducible refine And.intro (by first | omega | assumption | (constructor <;> assumption) | (simp; done) | (simp; omega) | (simp [*]; done)) ?_
    | simp (maxSteps := 4000000) (disch := omega) only [go_sem, Nat.reduceBEq, Nat.reduceAdd, Nat.reduceMul, Nat.reduceSub, Nat.reduceLT, Nat.reduceLeDiff, Int.reduceToNat, Int.reduceLT, Int.reduceLE, Int.reduceAdd, Int.reduceMul, Int.reduceSub, Int.reduceNeg, Int.reduceDiv, Int.reduceMod, Nat.reduceBNe, Nat.reduceGT, Int.reduceBEq, Int.reduceBNe, Int.reduceGT, Nat.reduceDiv, Nat.reduceMod, Nat.reducePow, Int.reducePow, gt_iff_lt, ge_iff_le, List.reduceReplicate, ↓reduceIte]
    | with_reducible refine roundS (next_of 1000 ?_)
    | with_reducible refine drawS_of mixed (by kernel_rfl) (dg_of 1000 ?_)
    | with_reducible refine endD_of (by kernel_rfl) (next_of 1000 ?_)
    | with_reducible refine next_of 1000 ?_
    | ((first | refine condS_split (fun h => ?_) (fun h => ?_) | refine testS_split (fun h => ?_) (fun h => ?_) | refine testD_split (fun h => ?_) (fun h => ?_)) <;> (try simp only [bne_iff_ne, ne_eq, beq_iff_eq, decide_eq_true_eq, decide_eq_false_iff_not, Bool.not_eq_true, Bool.not_eq_false, Bool.not_true, Bool.not_false, bne_eq_false_iff_eq, beq_eq_false_iff_ne, Bool.and_eq_true, Bool.or_eq_true, Bool.and_eq_false_imp, Bool.or_eq_false_iff, Bool.not_eq_true', Bool.not_eq_false', Int.not_lt, Int.not_le] at h) <;> (try (exfalso; omega))))
  rintro (_ | _ | k) o ho
  · simpa [go_sem] using ho
  · simpa [go_sem] using ho
  · simp at ho
theorem divide_less {w : World} {bu bv : Nat} {z y : Nat → Int} {Lu Lv L L' N D : Nat} {Tu Tv : TypeId} (h : UV w bu bv z y Lu Lv L L' N D Tu Tv) {cu cv : Nat} (hcu : L ≤ cu) (hcv : L' ≤ cv) (h1 : limbs D ≠ 1) (h2 : limbs N < limbs D) :
    Calls Tryd.prog 116 #[.slice (some ⟨bu, 0, none⟩) L cu, .slice (some ⟨bv, 0, none⟩) L' cv] w
      (Ret (.tuple #[.slice none 0 0, .slice (some ⟨bu, 0, none⟩) (limbs N) cu]) w) := by
  obtain ⟨l1, l2, l3⟩ := num_limbs h.hz h.hN
  obtain ⟨m1, m2, m3⟩ := num_limbs h.hy h.hD
  have su := h.su
  have sv := h.sv
  have hL := h.hL
  have hL' := h.hL'
  refine pure_calls [.raw (.slice (some ⟨bu, 0, none⟩) L cu), .raw (.slice (some ⟨bv, 0, none⟩) L' cv)] Tryd.func116 rfl in116 (by simp [Tryd.f116]) (by simp [closeds, closed]) (next_of 1000 ?_)
  simp (maxSteps := 4000000) (disch := omega) only [go_sem, Nat.reduceBEq, Nat.reduceAdd, Nat.reduceMul, Nat.reduceSub, Nat.reduceLT, Nat.reduceLeDiff, Int.reduceToNat, Int.reduceLT, Int.reduceLE, Int.reduceAdd, Int.reduceMul, Int.reduceSub, Int.reduceNeg, Int.reduceDiv, Int.reduceMod, Nat.reduceBNe, Nat.reduceGT, Int.reduceBEq, Int.reduceBNe, Int.reduceGT, Nat.reduceDiv, Nat.reduceMod, Nat.reducePow, Int.reducePow, gt_iff_lt, ge_iff_le, List.reduceReplicate, ↓reduceIte, Tryd.f116]
  repeat (with_reducible refine And.intro (by first | omega | assumption | (constructor <;> assumption) | (simp; done) | (simp; omega) | (simp [*]; done)) ?_)
  refine callS_pure (.raw (.slice (some ⟨bu, 0, none⟩) (limbs N) cu)) en128 (by simp [closed]) (fun bs w' hh => trim_calls (keep hh h.u) h.hz hL (by omega) hcu h.hN) (next_of 1000 ?_)
  simp (maxSteps := 4000000) (disch := omega) only [go_sem, Nat.reduceBEq, Nat.reduceAdd, Nat.reduceMul, Nat.reduceSub, Nat.reduceLT, Nat.reduceLeDiff, Int.reduceToNat, Int.reduceLT, Int.reduceLE, Int.reduceAdd, Int.reduceMul, Int.reduceSub, Int.reduceNeg, Int.reduceDiv, Int.reduceMod, Nat.reduceBNe, Nat.reduceGT, Int.reduceBEq, Int.reduceBNe, Int.reduceGT, Nat.reduceDiv, Nat.reduceMod, Nat.reducePow, Int.reducePow, gt_iff_lt, ge_iff_le, List.reduceReplicate, ↓reduceIte]
  repeat (with_reducible refine And.intro (by first | omega | assumption | (constructor <;> assumption) | (simp; done) | (simp; omega) | (simp [*]; done)) ?_)
  refine callS_pure (.raw (.slice (some ⟨bv, 0, none⟩) (limbs D) cv)) en128 (by simp [closed]) (fun bs w' hh => trim_calls (keep hh h.v) h.hy hL' (by omega) hcv h.hD) (next_of 1000 ?_)
  repeat' (first
    | with_reducible refine And.intro (by first | omega | assumption | (constructor <;> assumption) | (simp; done) | (simp; omega) | (simp [*]; done)) ?_
    | simp (maxSteps := 4000000) (disch := omega) only [go_sem, Nat.reduceBEq, Nat.reduceAdd, Nat.reduceMul, Nat.reduceSub, Nat.reduceLT, Nat.reduceLeDiff, Int.reduceToNat, Int.reduceLT, Int.reduceLE, Int.reduceAdd, Int.reduceMul, Int.reduceSub, Int.reduceNeg, Int.reduceDiv, Int.reduceMod, Nat.reduceBNe, Nat.reduceGT, Int.reduceBEq, Int.reduceBNe, Int.reduceGT, Nat.reduceDiv, Nat.reduceMod, Nat.reducePow, Int.reducePow, gt_iff_lt, ge_iff_le, List.reduceReplicate, ↓reduceIte]
    | with_reducible refine roundS (next_of 1000 ?_)
    | with_reducible refine drawS_of mixed (by kernel_rfl) (dg_of 1000 ?_)
    | with_reducible refine endD_of (by kernel_rfl) (next_of 1000 ?_)
    | with_reducible refine next_of 1000 ?_
    | ((first | refine condS_split (fun h => ?_) (fun h => ?_) | refine testS_split (fun h => ?_) (fun h => ?_) | refine testD_split (fun h => ?_) (fun h => ?_)) <;> (try simp only [bne_iff_ne, ne_eq, beq_iff_eq, decide_eq_true_eq, decide_eq_false_iff_not, Bool.not_eq_true, Bool.not_eq_false, Bool.not_true, Bool.not_false, bne_eq_false_iff_eq, beq_eq_false_iff_ne, Bool.and_eq_true, Bool.or_eq_true, Bool.and_eq_false_imp, Bool.or_eq_false_iff, Bool.not_eq_true', Bool.not_eq_false', Int.not_lt, Int.not_le] at h) <;> (try (exfalso; omega))))
  intro bs; simp [real, reals]
end Go.Proofs.YtbilnedgpgpanaaDoor
