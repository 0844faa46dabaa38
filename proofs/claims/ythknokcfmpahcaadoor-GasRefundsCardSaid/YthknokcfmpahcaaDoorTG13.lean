/- Part of a proof over the seat YthknokcfmpahcaaDoor. -/
import Derived.Test.YthknokcfmpahcaaDoorTG7
namespace Go.Proofs.YthknokcfmpahcaaDoor
open Go Go.Ew
set_option maxRecDepth 100000
set_option linter.unusedSimpArgs false
set_option linter.unusedVariables false
set_option maxHeartbeats 1000000
theorem in8 : codeIn Tryd.f8.ntmps (Tryd.f8.body.getD .skip) = true := by kernel_rfl
/-- A slice of words that came in. -/
structure WordsAt (w : World) (a : Option Addr) (n : Nat) (v : Nat → Nat → Int) : Prop where
  at' : ∀ i, i < n → ∃ b off, a = some ⟨b, off, none⟩ ∧ ∀ j, j < 4 → w.cell? ⟨b, off + i * 4 + j, none⟩ = some (.int .u64 (v i j))
  r : ∀ i, i < n → wIn (v i)
  len : n < 9223372036854775808
theorem range4 : List.range 4 = [0, 1, 2, 3] := rfl
def stC (xn nf fz warm : Bool) : Int := (if xn || !nf then 100 else if fz then 20000 else 2900) + (if warm then 0 else 2100)
def stR (xn nf fz xz nz xf : Bool) : Int := if xn then 0 else if nf then (if !fz && xz then 4800 else 0)
    else (if !fz then (if nz then -4800 else 0) + (if xz then 4800 else 0) else 0) + (if xf then (if fz then 19900 else 2800) else 0)
theorem storeV_eq (xn nf fz xz nz xf warm : Bool) : storeV xn nf fz xz nz xf warm = .tuple #[.int .u64 (stC xn nf fz warm), .int .i64 (stR xn nf fz xz nz xf)] := rfl
def phi (fz nz : Bool) : Int := if !fz && nz then 4800 else 0
theorem stR_phi (xn nf fz xz nz xf : Bool) (h1 : nf = true → nz = fz) (h2 : xn = true → xz = nz) (h3 : xf = true → xz = fz) : phi fz xz ≤ phi fz nz + stR xn nf fz xz nz xf := by
  revert h1 h2 h3; cases xn <;> cases nf <;> cases fz <;> cases xz <;> cases nz <;> cases xf <;> decide
theorem stR_le (xn nf fz xz nz xf : Bool) : -4800 ≤ stR xn nf fz xz nz xf ∧ stR xn nf fz xz nz xf ≤ 30000 := by
  cases xn <;> cases nf <;> cases fz <;> cases xz <;> cases nz <;> cases xf <;> decide
theorem stC_le (xn nf fz warm : Bool) : 0 ≤ stC xn nf fz warm ∧ stC xn nf fz warm ≤ 30000 := by
  cases xn <;> cases nf <;> cases fz <;> cases warm <;> decide
theorem law_refunds (f : Nat → Int) (hf : wIn f) (a : Option Addr) (n cap : Nat) (v : Nat → Nat → Int) (w : World) (hv : WordsAt w a n v) :
    Calls Tryd.prog 8 #[wV f, .slice a n cap] w (Ret (.bool true) w) := by
  refine pure_calls [.agg [.int .u64 (f 0), .int .u64 (f 1), .int .u64 (f 2), .int .u64 (f 3)], .raw (.slice a n cap)] Tryd.func8 rfl in8 (by simp [Tryd.f8]) (by simp [closeds, closed]) ?_
  refine next_of 1000 ?_
  simp (maxSteps := 4000000) (disch := omega) only [go_sem, Nat.reduceBEq, Nat.reduceAdd, Nat.reduceMul, Nat.reduceSub, Nat.reduceLT, Nat.reduceLeDiff, Int.reduceToNat, Int.reduceLT, Int.reduceLE, Int.reduceAdd, Int.reduceMul, Int.reduceSub, Int.reduceNeg, Int.reduceDiv, Int.reduceMod, Nat.reduceBNe, Nat.reduceGT, Int.reduceBEq, Int.reduceBNe, Int.reduceGT, Nat.reduceDiv, Nat.reduceMod, Nat.reducePow, gt_iff_lt, ge_iff_le, List.reduceReplicate, Tryd.f8]
  repeat (with_reducible refine And.intro (by first | omega | assumption | (constructor <;> assumption) | (simp; done) | (simp [*]; done)) ?_)
  refine callS_pure (.bool true) en15 (by simp [closed]) (fun bs w _ => awake_calls w) ?_
  refine next_of 1000 ?_
  simp (maxSteps := 4000000) (disch := omega) only [go_sem, Nat.reduceBEq, Nat.reduceAdd, Nat.reduceMul, Nat.reduceSub, Nat.reduceLT, Nat.reduceLeDiff, Int.reduceToNat, Int.reduceLT, Int.reduceLE, Int.reduceAdd, Int.reduceMul, Int.reduceSub, Int.reduceNeg, Int.reduceDiv, Int.reduceMod, Nat.reduceBNe, Nat.reduceGT, Int.reduceBEq, Int.reduceBNe, Int.reduceGT, Nat.reduceDiv, Nat.reduceMod, Nat.reducePow, gt_iff_lt, ge_iff_le, List.reduceReplicate]
  repeat (with_reducible refine And.intro (by first | omega | assumption | (constructor <;> assumption) | (simp; done) | (simp [*]; done)) ?_)
  have hn := hv.len
  refine loopS (S := Nat × (Nat → Int) × Int) (fun s => s.1 ≤ n ∧ s.1 ≤ 1000 ∧ phi (lw f == [0, 0, 0, 0]) (lw s.2.1 == [0, 0, 0, 0]) ≤ s.2.2 ∧ s.2.2 ≤ s.1 * 30000)
    (fun s => ⟨[(1, .raw (.slice a n cap)), (2, .ptr 0 0), (5, .ptr 1 0), (6, .int .i64 s.2.2), (7, .int .i64 s.1)], 2,
      [(1, some (.cells [.int .u64 (s.2.1 0), .int .u64 (s.2.1 1), .int .u64 (s.2.1 2), .int .u64 (s.2.1 3)] 30 (0, 0))), (0, some (.cells [.int .u64 (f 0), .int .u64 (f 1), .int .u64 (f 2), .int .u64 (f 3)] 30 (0, 0)))], base w, []⟩)
    (fun s => n - s.1) (0, f, 0) ⟨by simp, by simp, by cases h : (lw f == [0, 0, 0, 0]) <;> simp [phi, h], by simp⟩ (weak_of (by simp [wσ, go_sem, closed, closeds]) (by simp [whs, go_sem, EObj.closed, closed, closeds]) (by simp [*]) rfl rfl (by simp)) ?_
  rintro ⟨i, x, sum⟩ ⟨hi, hi2, hphi, hsum⟩
  simp only at hi hi2 hphi hsum
  have hp0 : 0 ≤ phi (lw f == [0, 0, 0, 0]) (lw x == [0, 0, 0, 0]) := by unfold phi; split <;> omega
  refine next_of 1000 ?_
  simp (maxSteps := 4000000) (disch := omega) only [go_sem, Nat.reduceBEq, Nat.reduceAdd, Nat.reduceMul, Nat.reduceSub, Nat.reduceLT, Nat.reduceLeDiff, Int.reduceToNat, Int.reduceLT, Int.reduceLE, Int.reduceAdd, Int.reduceMul, Int.reduceSub, Int.reduceNeg, Int.reduceDiv, Int.reduceMod, Nat.reduceBNe, Nat.reduceGT, Int.reduceBEq, Int.reduceBNe, Int.reduceGT, Nat.reduceDiv, Nat.reduceMod, Nat.reducePow, gt_iff_lt, ge_iff_le, List.reduceReplicate]
  repeat (with_reducible refine And.intro (by first | omega | assumption | (constructor <;> assumption) | (simp; done) | (simp [*]; done)) ?_)
  refine testS_split (fun h1 => ?_) (fun h1 => ?_)
  all_goals (try simp only [bne_iff_ne, ne_eq, beq_iff_eq, decide_eq_true_eq, decide_eq_false_iff_not, Bool.not_eq_true, Bool.not_eq_false, Bool.not_true, Bool.not_false, bne_eq_false_iff_eq, beq_eq_false_iff_ne, Bool.and_eq_true, Bool.or_eq_true, Bool.and_eq_false_imp, Bool.or_eq_false_iff, Bool.not_eq_true', Bool.not_eq_false', Int.not_lt, Int.not_le] at h1)
  · obtain ⟨b, off, rfl, hc⟩ := hv.at' i (by omega)
    have c0 : w.cell? ⟨b, off + i * 4, none⟩ = some (.int .u64 (v i 0)) := hc 0 (by omega)
    have c1 : w.cell? ⟨b, off + i * 4 + 1, none⟩ = some (.int .u64 (v i 1)) := hc 1 (by omega)
    have c2 : w.cell? ⟨b, off + i * 4 + 2, none⟩ = some (.int .u64 (v i 2)) := hc 2 (by omega)
    have c3 : w.cell? ⟨b, off + i * 4 + 3, none⟩ = some (.int .u64 (v i 3)) := hc 3 (by omega)
    have hb : b < w.heap.size := cell_lt (by rw [c0]; rfl)
    have hall : ∀ j, j < 4 → (w.cell? ⟨b, off + i * 4 + j, none⟩).isSome = true := fun j hj => by rw [hc j hj]; rfl
    simp (maxSteps := 4000000) (disch := omega) only [go_sem, Nat.reduceBEq, Nat.reduceAdd, Nat.reduceMul, Nat.reduceSub, Nat.reduceLT, Nat.reduceLeDiff, Int.reduceToNat, Int.reduceLT, Int.reduceLE, Int.reduceAdd, Int.reduceMul, Int.reduceSub, Int.reduceNeg, Int.reduceDiv, Int.reduceMod, Nat.reduceBNe, Nat.reduceGT, Int.reduceBEq, Int.reduceBNe, Int.reduceGT, Nat.reduceDiv, Nat.reduceMod, Nat.reducePow, gt_iff_lt, ge_iff_le, List.reduceReplicate]
    repeat (with_reducible refine And.intro (by first | omega | assumption | (constructor <;> assumption) | (simp; done) | (simp [*]; done)) ?_)
    refine condS_split (fun h2 => ?_) (fun h2 => ?_)
    all_goals (try simp only [bne_iff_ne, ne_eq, beq_iff_eq, decide_eq_true_eq, decide_eq_false_iff_not, Bool.not_eq_true, Bool.not_eq_false, Bool.not_true, Bool.not_false, bne_eq_false_iff_eq, beq_eq_false_iff_ne, Bool.and_eq_true, Bool.or_eq_true, Bool.and_eq_false_imp, Bool.or_eq_false_iff, Bool.not_eq_true', Bool.not_eq_false', Int.not_lt, Int.not_le] at h2)
    · simp (maxSteps := 4000000) (disch := omega) only [go_sem, Nat.reduceBEq, Nat.reduceAdd, Nat.reduceMul, Nat.reduceSub, Nat.reduceLT, Nat.reduceLeDiff, Int.reduceToNat, Int.reduceLT, Int.reduceLE, Int.reduceAdd, Int.reduceMul, Int.reduceSub, Int.reduceNeg, Int.reduceDiv, Int.reduceMod, Nat.reduceBNe, Nat.reduceGT, Int.reduceBEq, Int.reduceBNe, Int.reduceGT, Nat.reduceDiv, Nat.reduceMod, Nat.reducePow, gt_iff_lt, ge_iff_le, List.reduceReplicate]
      repeat (with_reducible refine And.intro (by first | omega | assumption | (constructor <;> assumption) | (simp; done) | (simp [*]; done)) ?_)
      refine drawS_of mixed (by kernel_rfl) (dg_of 1000 ?_)
      simp (maxSteps := 4000000) (disch := omega) only [go_sem, Nat.reduceBEq, Nat.reduceAdd, Nat.reduceMul, Nat.reduceSub, Nat.reduceLT, Nat.reduceLeDiff, Int.reduceToNat, Int.reduceLT, Int.reduceLE, Int.reduceAdd, Int.reduceMul, Int.reduceSub, Int.reduceNeg, Int.reduceDiv, Int.reduceMod, Nat.reduceBNe, Nat.reduceGT, Int.reduceBEq, Int.reduceBNe, Int.reduceGT, Nat.reduceDiv, Nat.reduceMod, Nat.reducePow, gt_iff_lt, ge_iff_le, List.reduceReplicate, Int.toNat_natCast, range4, add_spot, rawCell, Nat.add_zero, c0, c1, c2, c3, Option.getD_some]
      repeat (with_reducible refine And.intro (by first | omega | assumption | (constructor <;> assumption) | (simp; done) | (simp [*]; done)) ?_)
      refine callD_pure (.tup [.int .u64 (stC (lw (v i) == lw x) (lw x == lw f) (lw f == [0, 0, 0, 0]) (decide (0 < (i : Int)))), .int .i64 (stR (lw (v i) == lw x) (lw x == lw f) (lw f == [0, 0, 0, 0]) (lw (v i) == [0, 0, 0, 0]) (lw x == [0, 0, 0, 0]) (lw (v i) == lw f))]) [] en22 (by simp [closed, closeds])
        (fun y bs w _ _ _ => by have := store_calls f x (v i) (decide (0 < (i : Int))) w; rw [storeV_eq] at this; exact this) (dg_of 1000 ?_)
      have hle := stR_le (lw (v i) == lw x) (lw x == lw f) (lw f == [0, 0, 0, 0]) (lw (v i) == [0, 0, 0, 0]) (lw x == [0, 0, 0, 0]) (lw (v i) == lw f)
      have hcl := stC_le (lw (v i) == lw x) (lw x == lw f) (lw f == [0, 0, 0, 0]) (decide (0 < (i : Int)))
      have hph := stR_phi (lw (v i) == lw x) (lw x == lw f) (lw f == [0, 0, 0, 0]) (lw (v i) == [0, 0, 0, 0]) (lw x == [0, 0, 0, 0]) (lw (v i) == lw f) (fun h => by rw [beq_iff_eq] at h; rw [h]) (fun h => by rw [beq_iff_eq] at h; rw [h]) (fun h => by rw [beq_iff_eq] at h; rw [h])
      have hph0 : 0 ≤ phi (lw f == [0, 0, 0, 0]) (lw (v i) == [0, 0, 0, 0]) := by unfold phi; split <;> omega
      have hcost : ((lw (v i) == lw x) = true ∨ (lw x == lw f) = false → stC (lw (v i) == lw x) (lw x == lw f) (lw f == [0, 0, 0, 0]) (decide (0 < (i : Int))) = 100 + (if decide (0 < (i : Int)) then 0 else 2100)) ∧
          ((lw (v i) == lw x) = false → (lw x == lw f) = true → 2900 ≤ stC (lw (v i) == lw x) (lw x == lw f) (lw f == [0, 0, 0, 0]) (decide (0 < (i : Int)))) := by
        cases (lw (v i) == lw x) <;> cases (lw x == lw f) <;> cases (lw f == [0, 0, 0, 0]) <;> cases (decide (0 < (i : Int))) <;> decide
      generalize stC (lw (v i) == lw x) (lw x == lw f) (lw f == [0, 0, 0, 0]) (decide (0 < (i : Int))) = C at *
      generalize stR (lw (v i) == lw x) (lw x == lw f) (lw f == [0, 0, 0, 0]) (lw (v i) == [0, 0, 0, 0]) (lw x == [0, 0, 0, 0]) (lw (v i) == lw f) = R at *
      have hnf : ([x 0, x 1, x 2, x 3] == [f 0, f 1, f 2, f 3]) = (lw x == lw f) := rfl
      have hxn : ([v i 0, v i 1, v i 2, v i 3] == [x 0, x 1, x 2, x 3]) = (lw (v i) == lw x) := rfl
      have hxn' : ([v i 0, v i 1, v i 2, v i 3] != [x 0, x 1, x 2, x 3]) = !(lw (v i) == lw x) := rfl
      simp (maxSteps := 4000000) (disch := omega) only [go_sem, Nat.reduceBEq, Nat.reduceAdd, Nat.reduceMul, Nat.reduceSub, Nat.reduceLT, Nat.reduceLeDiff, Int.reduceToNat, Int.reduceLT, Int.reduceLE, Int.reduceAdd, Int.reduceMul, Int.reduceSub, Int.reduceNeg, Int.reduceDiv, Int.reduceMod, Nat.reduceBNe, Nat.reduceGT, Int.reduceBEq, Int.reduceBNe, Int.reduceGT, Nat.reduceDiv, Nat.reduceMod, Nat.reducePow, gt_iff_lt, ge_iff_le, List.reduceReplicate]
      repeat (with_reducible refine And.intro (by first | omega | assumption | (constructor <;> assumption) | (simp; done) | (simp [*]; done)) ?_)
      refine endD_of (by kernel_rfl) (next_of 1000 ?_)
      simp (maxSteps := 4000000) (disch := omega) only [go_sem, Nat.reduceBEq, Nat.reduceAdd, Nat.reduceMul, Nat.reduceSub, Nat.reduceLT, Nat.reduceLeDiff, Int.reduceToNat, Int.reduceLT, Int.reduceLE, Int.reduceAdd, Int.reduceMul, Int.reduceSub, Int.reduceNeg, Int.reduceDiv, Int.reduceMod, Nat.reduceBNe, Nat.reduceGT, Int.reduceBEq, Int.reduceBNe, Int.reduceGT, Nat.reduceDiv, Nat.reduceMod, Nat.reducePow, gt_iff_lt, ge_iff_le, List.reduceReplicate]
      repeat (with_reducible refine And.intro (by first | omega | assumption | (constructor <;> assumption) | (simp; done) | (simp [*]; done)) ?_)
      refine drawS_of mixed (by kernel_rfl) (dg_of 1000 ?_)
      simp (maxSteps := 4000000) (disch := omega) only [go_sem, Nat.reduceBEq, Nat.reduceAdd, Nat.reduceMul, Nat.reduceSub, Nat.reduceLT, Nat.reduceLeDiff, Int.reduceToNat, Int.reduceLT, Int.reduceLE, Int.reduceAdd, Int.reduceMul, Int.reduceSub, Int.reduceNeg, Int.reduceDiv, Int.reduceMod, Nat.reduceBNe, Nat.reduceGT, Int.reduceBEq, Int.reduceBNe, Int.reduceGT, Nat.reduceDiv, Nat.reduceMod, Nat.reducePow, gt_iff_lt, ge_iff_le, List.reduceReplicate, Int.toNat_natCast, range4, add_spot, rawCell, Nat.add_zero, c0, c1, c2, c3, Option.getD_some, hnf, hxn, hxn']
      repeat (with_reducible refine And.intro (by first | omega | assumption | (constructor <;> assumption) | (simp; done) | (simp [*]; done)) ?_)
      generalize (lw x == lw f) = nf at *
      generalize (lw (v i) == lw x) = xn at *
      refine testD_split (fun h3 => ?_) (fun h3 => ?_)
      all_goals (try simp only [bne_iff_ne, ne_eq, beq_iff_eq, decide_eq_true_eq, decide_eq_false_iff_not, Bool.not_eq_true, Bool.not_eq_false, Bool.not_true, Bool.not_false, bne_eq_false_iff_eq, beq_eq_false_iff_ne, Bool.and_eq_true, Bool.or_eq_true, Bool.and_eq_false_imp, Bool.or_eq_false_iff, Bool.not_eq_true', Bool.not_eq_false', Int.not_lt, Int.not_le] at h3)
      · simp (maxSteps := 4000000) (disch := omega) only [go_sem, Nat.reduceBEq, Nat.reduceAdd, Nat.reduceMul, Nat.reduceSub, Nat.reduceLT, Nat.reduceLeDiff, Int.reduceToNat, Int.reduceLT, Int.reduceLE, Int.reduceAdd, Int.reduceMul, Int.reduceSub, Int.reduceNeg, Int.reduceDiv, Int.reduceMod, Nat.reduceBNe, Nat.reduceGT, Int.reduceBEq, Int.reduceBNe, Int.reduceGT, Nat.reduceDiv, Nat.reduceMod, Nat.reducePow, gt_iff_lt, ge_iff_le, List.reduceReplicate, Int.toNat_natCast, range4, add_spot, rawCell, Nat.add_zero, c0, c1, c2, c3, Option.getD_some, hnf, hxn, hxn']
        repeat (with_reducible refine And.intro (by first | omega | assumption | (constructor <;> assumption) | (simp; done) | (simp [*]; done)) ?_)
        refine endD_of (by kernel_rfl) (next_of 1000 ?_)
        subst h3
        cases xn
        · have hC := hcost.2 rfl rfl
          clear hcost
          repeat' (first
            | with_reducible refine And.intro (by first | omega | assumption | (constructor <;> assumption) | (simp; done) | (simp [*]; done)) ?_
            | simp (maxSteps := 4000000) (disch := omega) only [go_sem, Nat.reduceBEq, Nat.reduceAdd, Nat.reduceMul, Nat.reduceSub, Nat.reduceLT, Nat.reduceLeDiff, Int.reduceToNat, Int.reduceLT, Int.reduceLE, Int.reduceAdd, Int.reduceMul, Int.reduceSub, Int.reduceNeg, Int.reduceDiv, Int.reduceMod, Nat.reduceBNe, Nat.reduceGT, Int.reduceBEq, Int.reduceBNe, Int.reduceGT, Nat.reduceDiv, Nat.reduceMod, Nat.reducePow, gt_iff_lt, ge_iff_le, List.reduceReplicate, Int.toNat_natCast, range4, add_spot, rawCell, Nat.add_zero, c0, c1, c2, c3, Option.getD_some]
            | (refine condS_split (fun h => ?_) (fun h => ?_) <;> (try simp only [bne_iff_ne, ne_eq, beq_iff_eq, decide_eq_true_eq, decide_eq_false_iff_not, Bool.not_eq_true, Bool.not_eq_false, Bool.not_true, Bool.not_false, bne_eq_false_iff_eq, beq_eq_false_iff_ne, Bool.and_eq_true, Bool.or_eq_true, Bool.and_eq_false_imp, Bool.or_eq_false_iff, Bool.not_eq_true', Bool.not_eq_false', Int.not_lt, Int.not_le] at h) <;> (try (exfalso; omega)))
            | (refine testS_split (fun h => ?_) (fun h => ?_) <;> (try simp only [bne_iff_ne, ne_eq, beq_iff_eq, decide_eq_true_eq, decide_eq_false_iff_not, Bool.not_eq_true, Bool.not_eq_false, Bool.not_true, Bool.not_false, bne_eq_false_iff_eq, beq_eq_false_iff_ne, Bool.and_eq_true, Bool.or_eq_true, Bool.and_eq_false_imp, Bool.or_eq_false_iff, Bool.not_eq_true', Bool.not_eq_false', Int.not_lt, Int.not_le] at h) <;> (try (exfalso; omega))))
          all_goals exact ⟨(i + 1, v i, sum + R), ⟨by omega, by omega, by simp only; omega, by simp only; omega⟩, (weak_of (by simp [wσ, go_sem, closed]) (by simp [whs, go_sem, EObj.closed, closed, closeds]) (by simp [*]) rfl rfl (by simp)), by omega⟩
        · have hC0 := hcost.1 (.inl rfl)
          have hC : (0 < (i : Int) → C = 100) ∧ (¬ 0 < (i : Int) → C = 2200) := ⟨fun hh => by simpa [show 0 < i by omega] using hC0, fun hh => by simpa [show ¬ 0 < i by omega] using hC0⟩
          clear hcost
          repeat' (first
            | with_reducible refine And.intro (by first | omega | assumption | (constructor <;> assumption) | (simp; done) | (simp [*]; done)) ?_
            | simp (maxSteps := 4000000) (disch := omega) only [go_sem, Nat.reduceBEq, Nat.reduceAdd, Nat.reduceMul, Nat.reduceSub, Nat.reduceLT, Nat.reduceLeDiff, Int.reduceToNat, Int.reduceLT, Int.reduceLE, Int.reduceAdd, Int.reduceMul, Int.reduceSub, Int.reduceNeg, Int.reduceDiv, Int.reduceMod, Nat.reduceBNe, Nat.reduceGT, Int.reduceBEq, Int.reduceBNe, Int.reduceGT, Nat.reduceDiv, Nat.reduceMod, Nat.reducePow, gt_iff_lt, ge_iff_le, List.reduceReplicate, Int.toNat_natCast, range4, add_spot, rawCell, Nat.add_zero, c0, c1, c2, c3, Option.getD_some]
            | (refine condS_split (fun h => ?_) (fun h => ?_) <;> (try simp only [bne_iff_ne, ne_eq, beq_iff_eq, decide_eq_true_eq, decide_eq_false_iff_not, Bool.not_eq_true, Bool.not_eq_false, Bool.not_true, Bool.not_false, bne_eq_false_iff_eq, beq_eq_false_iff_ne, Bool.and_eq_true, Bool.or_eq_true, Bool.and_eq_false_imp, Bool.or_eq_false_iff, Bool.not_eq_true', Bool.not_eq_false', Int.not_lt, Int.not_le] at h) <;> (try (exfalso; omega)))
            | (refine testS_split (fun h => ?_) (fun h => ?_) <;> (try simp only [bne_iff_ne, ne_eq, beq_iff_eq, decide_eq_true_eq, decide_eq_false_iff_not, Bool.not_eq_true, Bool.not_eq_false, Bool.not_true, Bool.not_false, bne_eq_false_iff_eq, beq_eq_false_iff_ne, Bool.and_eq_true, Bool.or_eq_true, Bool.and_eq_false_imp, Bool.or_eq_false_iff, Bool.not_eq_true', Bool.not_eq_false', Int.not_lt, Int.not_le] at h) <;> (try (exfalso; omega))))
          all_goals exact ⟨(i + 1, v i, sum + R), ⟨by omega, by omega, by simp only; omega, by simp only; omega⟩, (weak_of (by simp [wσ, go_sem, closed]) (by simp [whs, go_sem, EObj.closed, closed, closeds]) (by simp [*]) rfl rfl (by simp)), by omega⟩
      · simp (maxSteps := 4000000) (disch := omega) only [go_sem, Nat.reduceBEq, Nat.reduceAdd, Nat.reduceMul, Nat.reduceSub, Nat.reduceLT, Nat.reduceLeDiff, Int.reduceToNat, Int.reduceLT, Int.reduceLE, Int.reduceAdd, Int.reduceMul, Int.reduceSub, Int.reduceNeg, Int.reduceDiv, Int.reduceMod, Nat.reduceBNe, Nat.reduceGT, Int.reduceBEq, Int.reduceBNe, Int.reduceGT, Nat.reduceDiv, Nat.reduceMod, Nat.reducePow, gt_iff_lt, ge_iff_le, List.reduceReplicate, hnf, hxn, hxn']
        repeat (with_reducible refine And.intro (by first | omega | assumption | (constructor <;> assumption) | (simp; done) | (simp [*]; done)) ?_)
        refine endD_of (by kernel_rfl) (next_of 1000 ?_)
        subst h3
        have hC0 := hcost.1 (.inr rfl)
        have hC : (0 < (i : Int) → C = 100) ∧ (¬ 0 < (i : Int) → C = 2200) := ⟨fun hh => by simpa [show 0 < i by omega] using hC0, fun hh => by simpa [show ¬ 0 < i by omega] using hC0⟩
        clear hcost
        repeat' (first
          | with_reducible refine And.intro (by first | omega | assumption | (constructor <;> assumption) | (simp; done) | (simp [*]; done)) ?_
          | simp (maxSteps := 4000000) (disch := omega) only [go_sem, Nat.reduceBEq, Nat.reduceAdd, Nat.reduceMul, Nat.reduceSub, Nat.reduceLT, Nat.reduceLeDiff, Int.reduceToNat, Int.reduceLT, Int.reduceLE, Int.reduceAdd, Int.reduceMul, Int.reduceSub, Int.reduceNeg, Int.reduceDiv, Int.reduceMod, Nat.reduceBNe, Nat.reduceGT, Int.reduceBEq, Int.reduceBNe, Int.reduceGT, Nat.reduceDiv, Nat.reduceMod, Nat.reducePow, gt_iff_lt, ge_iff_le, List.reduceReplicate, Int.toNat_natCast, range4, add_spot, rawCell, Nat.add_zero, c0, c1, c2, c3, Option.getD_some]
          | (refine condS_split (fun h => ?_) (fun h => ?_) <;> (try simp only [bne_iff_ne, ne_eq, beq_iff_eq, decide_eq_true_eq, decide_eq_false_iff_not, Bool.not_eq_true, Bool.not_eq_false, Bool.not_true, Bool.not_false, bne_eq_false_iff_eq, beq_eq_false_iff_ne, Bool.and_eq_true, Bool.or_eq_true, Bool.and_eq_false_imp, Bool.or_eq_false_iff, Bool.not_eq_true', Bool.not_eq_false', Int.not_lt, Int.not_le] at h) <;> (try (exfalso; omega)))
          | (refine testS_split (fun h => ?_) (fun h => ?_) <;> (try simp only [bne_iff_ne, ne_eq, beq_iff_eq, decide_eq_true_eq, decide_eq_false_iff_not, Bool.not_eq_true, Bool.not_eq_false, Bool.not_true, Bool.not_false, bne_eq_false_iff_eq, beq_eq_false_iff_ne, Bool.and_eq_true, Bool.or_eq_true, Bool.and_eq_false_imp, Bool.or_eq_false_iff, Bool.not_eq_true', Bool.not_eq_false', Int.not_lt, Int.not_le] at h) <;> (try (exfalso; omega))))
        all_goals exact ⟨(i + 1, v i, sum + R), ⟨by omega, by omega, by simp only; omega, by simp only; omega⟩, (weak_of (by simp [wσ, go_sem, closed]) (by simp [whs, go_sem, EObj.closed, closed, closeds]) (by simp [*]) rfl rfl (by simp)), by omega⟩
    · simp (maxSteps := 4000000) (disch := omega) only [go_sem, Nat.reduceBEq, Nat.reduceAdd, Nat.reduceMul, Nat.reduceSub, Nat.reduceLT, Nat.reduceLeDiff, Int.reduceToNat, Int.reduceLT, Int.reduceLE, Int.reduceAdd, Int.reduceMul, Int.reduceSub, Int.reduceNeg, Int.reduceDiv, Int.reduceMod, Nat.reduceBNe, Nat.reduceGT, Int.reduceBEq, Int.reduceBNe, Int.reduceGT, Nat.reduceDiv, Nat.reduceMod, Nat.reducePow, gt_iff_lt, ge_iff_le, List.reduceReplicate]
      repeat (with_reducible refine And.intro (by first | omega | assumption | (constructor <;> assumption) | (simp; done) | (simp [*]; done)) ?_)
      refine next_of 1000 ?_
      simp (maxSteps := 4000000) (disch := omega) only [go_sem, Nat.reduceBEq, Nat.reduceAdd, Nat.reduceMul, Nat.reduceSub, Nat.reduceLT, Nat.reduceLeDiff, Int.reduceToNat, Int.reduceLT, Int.reduceLE, Int.reduceAdd, Int.reduceMul, Int.reduceSub, Int.reduceNeg, Int.reduceDiv, Int.reduceMod, Nat.reduceBNe, Nat.reduceGT, Int.reduceBEq, Int.reduceBNe, Int.reduceGT, Nat.reduceDiv, Nat.reduceMod, Nat.reducePow, gt_iff_lt, ge_iff_le, List.reduceReplicate]
      repeat (with_reducible refine And.intro (by first | omega | assumption | (constructor <;> assumption) | (simp; done) | (simp [*]; done)) ?_)
      intro bs; simp [real]
  · simp (maxSteps := 4000000) (disch := omega) only [go_sem, Nat.reduceBEq, Nat.reduceAdd, Nat.reduceMul, Nat.reduceSub, Nat.reduceLT, Nat.reduceLeDiff, Int.reduceToNat, Int.reduceLT, Int.reduceLE, Int.reduceAdd, Int.reduceMul, Int.reduceSub, Int.reduceNeg, Int.reduceDiv, Int.reduceMod, Nat.reduceBNe, Nat.reduceGT, Int.reduceBEq, Int.reduceBNe, Int.reduceGT, Nat.reduceDiv, Nat.reduceMod, Nat.reducePow, gt_iff_lt, ge_iff_le, List.reduceReplicate]
    repeat (with_reducible refine And.intro (by first | omega | assumption | (constructor <;> assumption) | (simp; done) | (simp [*]; done)) ?_)
    refine next_of 1000 ?_
    simp (maxSteps := 4000000) (disch := omega) only [go_sem, Nat.reduceBEq, Nat.reduceAdd, Nat.reduceMul, Nat.reduceSub, Nat.reduceLT, Nat.reduceLeDiff, Int.reduceToNat, Int.reduceLT, Int.reduceLE, Int.reduceAdd, Int.reduceMul, Int.reduceSub, Int.reduceNeg, Int.reduceDiv, Int.reduceMod, Nat.reduceBNe, Nat.reduceGT, Int.reduceBEq, Int.reduceBNe, Int.reduceGT, Nat.reduceDiv, Nat.reduceMod, Nat.reducePow, gt_iff_lt, ge_iff_le, List.reduceReplicate]
    repeat (with_reducible refine And.intro (by first | omega | assumption | (constructor <;> assumption) | (simp; done) | (simp [*]; done)) ?_)
    intro bs; simp [real]
end Go.Proofs.YthknokcfmpahcaaDoor
