/- Part of a proof over the seat Ytepabkjfnpaijaa. -/
import Derived.Test.YtepabkjfnpaijaaKL
namespace Go.Proofs.Ytepabkjfnpaijaa
open Go RowKit Go.Ew
set_option maxRecDepth 100000
set_option linter.unusedSimpArgs false
set_option linter.unusedVariables false
set_option maxHeartbeats 4000000
theorem in26 : codeIn Try.f26.ntmps (Try.f26.body.getD .skip) = true := by kernel_rfl
theorem in14 : codeIn Try.f14.ntmps (Try.f14.body.getD .skip) = true := by kernel_rfl
theorem in15 : codeIn Try.f15.ntmps (Try.f15.body.getD .skip) = true := by kernel_rfl
theorem in11 : codeIn Try.f11.ntmps (Try.f11.body.getD .skip) = true := by kernel_rfl
theorem in13 : codeIn Try.f13.ntmps (Try.f13.body.getD .skip) = true := by kernel_rfl
theorem bitsF_ap (p : List UInt8) (i : Nat) : bitsF p i = (bitN p i : Int) := rfl
theorem with_fn (F : Blm) (p : List UInt8) (n : Nat) (B : Base) (ad : Option Addr) (cap : Nat) (h : BytesAt B ad p) (hn : p.length = n) (hp : n < 2 ^ 46) :
    Does Try.prog 26 [.agg (ints .u8 (fB F) 256), .raw (.slice ad n cap)] B (fun _ : Unit => .agg (ints .u8 (fB (withP F p)) 256)) (fun _ _ => True) := by
  refine fn_of en26 (fun s B B' hB hR => hR) Try.func26 rfl in26 (by simp [Try.f26]) (by simp [closeds, closed, closeds_ints]) (fun B0 hB0 => next_of 1000 ?_)
  replace h := h.ext hB0
  repeat' (first | simp (maxSteps := 4000000) (disch := omega) only [go_sem, Nat.reduceBEq, Nat.reduceAdd, Nat.reduceMul, Nat.reduceSub, Nat.reduceLT, Nat.reduceLeDiff, Int.reduceToNat, Int.reduceLT, Int.reduceLE, Int.reduceAdd, Int.reduceMul, Int.reduceSub, Int.reduceNeg, Int.reduceDiv, Int.reduceMod, Nat.reduceBNe, Nat.reduceGT, Int.reduceBEq, Int.reduceBNe, Int.reduceGT, Nat.reduceDiv, Nat.reduceMod, Nat.reducePow, Int.reducePow, gt_iff_lt, ge_iff_le, List.reduceReplicate, ↓reduceIte, Try.f26] | refine callS_fp (refbits_fn p n _ _ _ h hn hp) (by simp [closed, closeds, closeds_ints, closed_wE]) (next_of 1000 ?_))
  refine loopU (S := Nat) (fun i => i ≤ 3)
    (fun i => ⟨[(9, .int .i64 (i : Nat)), (8, .agg (ints .i64 (bitsF p) 3)), (4, .ptr 1 0), (2, .ptr 0 0)], 2, [(1, some (.cells (ints .u8 (fun _ => 0) 256) 27 (0, 0))), (0, some (.cells (ints .u8 (fB (withK F p i)) 256) 27 (0, 0)))], B0, []⟩)
    (fun i => 3 - i) 0 (by simp) (Weak.sub (weak_of (by simp [wσ, go_sem, closed, closeds, lE_closed, closeds_ints, withK] <;> omega) (by simp [whs, Go.Ew.hget, go_sem, EObj.closed, closed, closeds, lE_closed, closeds_ints, withK]) (by simp [*]) rfl rfl (by simp))) ?_
  intro i hi
  refine next_of 1000 ?_
  simp (maxSteps := 4000000) (disch := omega) only [go_sem, Nat.reduceBEq, Nat.reduceAdd, Nat.reduceMul, Nat.reduceSub, Nat.reduceLT, Nat.reduceLeDiff, Int.reduceToNat, Int.reduceLT, Int.reduceLE, Int.reduceAdd, Int.reduceMul, Int.reduceSub, Int.reduceNeg, Int.reduceDiv, Int.reduceMod, Nat.reduceBNe, Nat.reduceGT, Int.reduceBEq, Int.reduceBNe, Int.reduceGT, Nat.reduceDiv, Nat.reduceMod, Nat.reducePow, Int.reducePow, gt_iff_lt, ge_iff_le, List.reduceReplicate, ↓reduceIte]
  repeat (with_reducible refine And.intro (by first | omega | assumption | (constructor <;> assumption) | (simp; done) | (simp; omega) | (simp [*]; done) | ((repeat' refine And.intro ?_ ?_) <;> first | omega | assumption | (refine SlOk.so (n := ?_) ?_ ?_; rotate_left; assumption; omega) | (simp; done) | fail) | fail) ?_)
  refine condS_split (fun h2 => ?_) (fun h2 => ?_)
  all_goals (try simp only [bne_iff_ne, ne_eq, beq_iff_eq, decide_eq_true_eq, decide_eq_false_iff_not, Bool.not_eq_true, Bool.not_eq_false, Bool.not_true, Bool.not_false, bne_eq_false_iff_eq, beq_eq_false_iff_ne, Bool.and_eq_true, Bool.or_eq_true, Bool.and_eq_false_imp, Bool.or_eq_false_iff, Bool.not_eq_true', Bool.not_eq_false', Int.not_lt, Int.not_le] at h2)
  · have hb := bitN_lt p i
    have e8 : ((255 : Int) - (bitN p i : Int) / 8).toNat = 255 - bitN p i / 8 := by omega
    have e9 : (bitN p i : Int) % 8 = ((bitN p i % 8 : Nat) : Int) := by omega
    have e10 := shl8 (bitN p i % 8) (by omega)
    repeat' (first | with_reducible refine And.intro (by first | omega | assumption | (constructor <;> assumption) | (simp; done) | (simp; omega) | (simp [*]; done) | ((repeat' refine And.intro ?_ ?_) <;> first | omega | assumption | (refine SlOk.so (n := ?_) ?_ ?_; rotate_left; assumption; omega) | (simp; done) | fail) | fail) ?_ | simp (maxSteps := 4000000) (disch := omega) only [go_sem, Nat.reduceBEq, Nat.reduceAdd, Nat.reduceMul, Nat.reduceSub, Nat.reduceLT, Nat.reduceLeDiff, Int.reduceToNat, Int.reduceLT, Int.reduceLE, Int.reduceAdd, Int.reduceMul, Int.reduceSub, Int.reduceNeg, Int.reduceDiv, Int.reduceMod, Nat.reduceBNe, Nat.reduceGT, Int.reduceBEq, Int.reduceBNe, Int.reduceGT, Nat.reduceDiv, Nat.reduceMod, Nat.reducePow, Int.reducePow, gt_iff_lt, ge_iff_le, List.reduceReplicate, ↓reduceIte, Int.toNat_natCast, e8, e9, e10, bitsF_ap, fB_ap, or8, fB_set])
    exact ⟨i + 1, by omega, Weak.sub (weak_of (by simp [wσ, go_sem, closed, closeds, lE_closed, closeds_ints, withK] <;> omega) (by simp [whs, Go.Ew.hget, go_sem, EObj.closed, closed, closeds, lE_closed, closeds_ints, withK]) (by simp [*]) rfl rfl (by simp)), by omega⟩
  · obtain rfl : i = 3 := by omega
    repeat' (first | simp (maxSteps := 4000000) (disch := omega) only [go_sem, Nat.reduceBEq, Nat.reduceAdd, Nat.reduceMul, Nat.reduceSub, Nat.reduceLT, Nat.reduceLeDiff, Int.reduceToNat, Int.reduceLT, Int.reduceLE, Int.reduceAdd, Int.reduceMul, Int.reduceSub, Int.reduceNeg, Int.reduceDiv, Int.reduceMod, Nat.reduceBNe, Nat.reduceGT, Int.reduceBEq, Int.reduceBNe, Int.reduceGT, Nat.reduceDiv, Nat.reduceMod, Nat.reducePow, Int.reducePow, gt_iff_lt, ge_iff_le, List.reduceReplicate, ↓reduceIte] | with_reducible refine next_of 1000 ?_)
    exact ⟨BExt.refl _, (), rfl, by simp [closed, closeds_ints]⟩
theorem mayB_no (F : Blm) (p : List UInt8) (i : Nat) (hi : i < 3) (h : hasB F (bitN p i) = false) : mayB F p = false := by
  cases hm : mayB F p
  · rfl
  · simp only [mayB, List.all_eq_true] at hm
    rw [hm i (by simp [hi])] at h
    cases h
theorem may_fn (F : Blm) (p : List UInt8) (n : Nat) (B : Base) (ad : Option Addr) (cap : Nat) (h : BytesAt B ad p) (hn : p.length = n) (hp : n < 2 ^ 46) :
    Does Try.prog 14 [.agg (ints .u8 (fB F) 256), .raw (.slice ad n cap)] B (fun _ : Unit => .bool (mayB F p)) (fun _ _ => True) := by
  refine fn_of en14 (fun s B B' hB hR => hR) Try.func14 rfl in14 (by simp [Try.f14]) (by simp [closeds, closed, closeds_ints]) (fun B0 hB0 => next_of 1000 ?_)
  replace h := h.ext hB0
  repeat' (first | simp (maxSteps := 4000000) (disch := omega) only [go_sem, Nat.reduceBEq, Nat.reduceAdd, Nat.reduceMul, Nat.reduceSub, Nat.reduceLT, Nat.reduceLeDiff, Int.reduceToNat, Int.reduceLT, Int.reduceLE, Int.reduceAdd, Int.reduceMul, Int.reduceSub, Int.reduceNeg, Int.reduceDiv, Int.reduceMod, Nat.reduceBNe, Nat.reduceGT, Int.reduceBEq, Int.reduceBNe, Int.reduceGT, Nat.reduceDiv, Nat.reduceMod, Nat.reducePow, Int.reducePow, gt_iff_lt, ge_iff_le, List.reduceReplicate, ↓reduceIte, Try.f14] | refine callS_fp (bits_fn p n _ _ _ h hn hp) (by simp [closed, closeds, closeds_ints, closed_wE]) (next_of 1000 ?_))
  refine loopU (S := Nat) (fun i => i ≤ 3 ∧ ∀ k, k < i → hasB F (bitN p k) = true)
    (fun i => ⟨[(9, .int .i64 (i : Nat)), (8, .agg (ints .i64 (bitsF p) 3)), (2, .ptr 0 0)], 1, [(0, some (.cells (ints .u8 (fB F) 256) 27 (0, 0)))], B0, []⟩)
    (fun i => 3 - i) 0 (by simp) (Weak.sub (weak_of (by simp [wσ, go_sem, closed, closeds, lE_closed, closeds_ints] <;> omega) (by simp [whs, Go.Ew.hget, go_sem, EObj.closed, closed, closeds, lE_closed, closeds_ints]) (by simp [*]) rfl rfl (by simp))) ?_
  rintro i ⟨hi, hk⟩
  refine next_of 1000 ?_
  simp (maxSteps := 4000000) (disch := omega) only [go_sem, Nat.reduceBEq, Nat.reduceAdd, Nat.reduceMul, Nat.reduceSub, Nat.reduceLT, Nat.reduceLeDiff, Int.reduceToNat, Int.reduceLT, Int.reduceLE, Int.reduceAdd, Int.reduceMul, Int.reduceSub, Int.reduceNeg, Int.reduceDiv, Int.reduceMod, Nat.reduceBNe, Nat.reduceGT, Int.reduceBEq, Int.reduceBNe, Int.reduceGT, Nat.reduceDiv, Nat.reduceMod, Nat.reducePow, Int.reducePow, gt_iff_lt, ge_iff_le, List.reduceReplicate, ↓reduceIte]
  repeat (with_reducible refine And.intro (by first | omega | assumption | (constructor <;> assumption) | (simp; done) | (simp; omega) | (simp [*]; done) | ((repeat' refine And.intro ?_ ?_) <;> first | omega | assumption | (refine SlOk.so (n := ?_) ?_ ?_; rotate_left; assumption; omega) | (simp; done) | fail) | fail) ?_)
  refine condS_split (fun h2 => ?_) (fun h2 => ?_)
  all_goals (try simp only [bne_iff_ne, ne_eq, beq_iff_eq, decide_eq_true_eq, decide_eq_false_iff_not, Bool.not_eq_true, Bool.not_eq_false, Bool.not_true, Bool.not_false, bne_eq_false_iff_eq, beq_eq_false_iff_ne, Bool.and_eq_true, Bool.or_eq_true, Bool.and_eq_false_imp, Bool.or_eq_false_iff, Bool.not_eq_true', Bool.not_eq_false', Int.not_lt, Int.not_le] at h2)
  · have hb := bitN_lt p i
    have e8 : ((255 : Int) - (bitN p i : Int) / 8).toNat = 255 - bitN p i / 8 := by omega
    have e9 : (bitN p i : Int) % 8 = ((bitN p i % 8 : Nat) : Int) := by omega
    have e10 := shr8 (F (255 - bitN p i / 8)) (bitN p i % 8) (by omega)
    have e11 := bit8 (F (255 - bitN p i / 8)) (bitN p i % 8) (by omega)
    repeat' (first | with_reducible refine And.intro (by first | omega | assumption | (constructor <;> assumption) | (simp; done) | (simp; omega) | (simp [*]; done) | ((repeat' refine And.intro ?_ ?_) <;> first | omega | assumption | (refine SlOk.so (n := ?_) ?_ ?_; rotate_left; assumption; omega) | (simp; done) | fail) | fail) ?_ | simp (maxSteps := 4000000) (disch := omega) only [go_sem, Nat.reduceBEq, Nat.reduceAdd, Nat.reduceMul, Nat.reduceSub, Nat.reduceLT, Nat.reduceLeDiff, Int.reduceToNat, Int.reduceLT, Int.reduceLE, Int.reduceAdd, Int.reduceMul, Int.reduceSub, Int.reduceNeg, Int.reduceDiv, Int.reduceMod, Nat.reduceBNe, Nat.reduceGT, Int.reduceBEq, Int.reduceBNe, Int.reduceGT, Nat.reduceDiv, Nat.reduceMod, Nat.reducePow, Int.reducePow, gt_iff_lt, ge_iff_le, List.reduceReplicate, ↓reduceIte, Int.toNat_natCast, e8, e9, e10, bitsF_ap, fB_ap, and8] | ((first | refine condS_split (fun h => ?_) (fun h => ?_) | refine testS_split (fun h => ?_) (fun h => ?_) | refine testT_split (fun h => ?_) (fun h => ?_)) <;> (try simp only [bne_iff_ne, ne_eq, beq_iff_eq, decide_eq_true_eq, decide_eq_false_iff_not, Bool.not_eq_true, Bool.not_eq_false, Bool.not_true, Bool.not_false, bne_eq_false_iff_eq, beq_eq_false_iff_ne, Bool.and_eq_true, Bool.or_eq_true, Bool.and_eq_false_imp, Bool.or_eq_false_iff, Bool.not_eq_true', Bool.not_eq_false', Int.not_lt, Int.not_le] at h) <;> (try (exfalso; omega))))
    · have hx : hasB F (bitN p i) = false := by rw [e11] at *; assumption
      exact ⟨BExt.refl _, (), by rw [mayB_no F p i (by omega) hx], by simp [closed]⟩
    · have hx : hasB F (bitN p i) = true := by
        rw [e11] at *
        unfold hasB
        revert h
        cases BitVec.getLsbD (F (255 - bitN p i / 8)) (bitN p i % 8) <;> simp
      exact ⟨i + 1, ⟨by omega, fun k hk' => by
        rcases Nat.lt_or_ge k i with h3 | h3
        · exact hk k h3
        · obtain rfl : k = i := by omega
          exact hx⟩, Weak.sub (weak_of (by simp [wσ, go_sem, closed, closeds, lE_closed, closeds_ints] <;> omega) (by simp [whs, Go.Ew.hget, go_sem, EObj.closed, closed, closeds, lE_closed, closeds_ints]) (by simp [*]) rfl rfl (by simp)), by omega⟩
  · obtain rfl : i = 3 := by omega
    repeat' (first | simp (maxSteps := 4000000) (disch := omega) only [go_sem, Nat.reduceBEq, Nat.reduceAdd, Nat.reduceMul, Nat.reduceSub, Nat.reduceLT, Nat.reduceLeDiff, Int.reduceToNat, Int.reduceLT, Int.reduceLE, Int.reduceAdd, Int.reduceMul, Int.reduceSub, Int.reduceNeg, Int.reduceDiv, Int.reduceMod, Nat.reduceBNe, Nat.reduceGT, Int.reduceBEq, Int.reduceBNe, Int.reduceGT, Nat.reduceDiv, Nat.reduceMod, Nat.reducePow, Int.reducePow, gt_iff_lt, ge_iff_le, List.reduceReplicate, ↓reduceIte] | with_reducible refine next_of 1000 ?_)
    exact ⟨BExt.refl _, (), by rw [show mayB F p = true by simp only [mayB, List.all_eq_true]; exact fun k hk' => hk k (by simpa using hk')], by simp [closed]⟩
theorem ints_isInt (k : IntKind) (f : Nat → Int) (n : Nat) : (ints k f n).all (EV.isInt k) = true := by
  simp [ints, EV.isInt]
theorem ints_num (k : IntKind) (f : Nat → Int) (n : Nat) : (ints k f n).map EV.num = (List.range n).map f := by
  simp [ints, EV.num, Function.comp_def]
/-- Whether two filters are one. -/
def eqB (F G : Blm) : Bool := (List.range 256).all fun i => decide (F i = G i)
theorem eqB_iff (F G : Blm) : eqB F G = true ↔ ∀ i, i < 256 → F i = G i := by simp [eqB]
theorem map_eq_iff {f g : Nat → Int} {n : Nat} : (List.range n).map f = (List.range n).map g ↔ ∀ i, i < n → f i = g i := by
  constructor
  · intro h i hi
    have := congrArg (fun l => l[i]?) h
    simpa [hi] using this
  · intro h
    apply List.map_congr_left
    intro a ha
    exact h a (by simpa using ha)
theorem eq8 (F G : Blm) : (List.map EV.num (ints .u8 (fB F) 256) == List.map EV.num (ints .u8 (fB G) 256)) = eqB F G := by
  rw [ints_num, ints_num, Bool.eq_iff_iff, eqB_iff, beq_iff_eq, map_eq_iff]
  constructor
  · intro h i hi; exact n8_inj (h i hi)
  · intro h i hi; simp only [fB]; rw [h i hi]
theorem eqB_may (F : Blm) (p : List UInt8) : eqB (withP F p) F = mayB F p := by
  rw [Bool.eq_iff_iff, mayB_iff, eqB_iff]
theorem refmay_fn (F : Blm) (p : List UInt8) (n : Nat) (B : Base) (ad : Option Addr) (cap : Nat) (h : BytesAt B ad p) (hn : p.length = n) (hp : n < 2 ^ 46) :
    Does Try.prog 15 [.agg (ints .u8 (fB F) 256), .raw (.slice ad n cap)] B (fun _ : Unit => .bool (mayB F p)) (fun _ _ => True) := by
  refine fn_of en15 (fun s B B' hB hR => hR) Try.func15 rfl in15 (by simp [Try.f15]) (by simp [closeds, closed, closeds_ints]) (fun B0 hB0 => next_of 1000 ?_)
  replace h := h.ext hB0
  repeat' (first | simp (maxSteps := 4000000) (disch := omega) only [go_sem, Nat.reduceBEq, Nat.reduceAdd, Nat.reduceMul, Nat.reduceSub, Nat.reduceLT, Nat.reduceLeDiff, Int.reduceToNat, Int.reduceLT, Int.reduceLE, Int.reduceAdd, Int.reduceMul, Int.reduceSub, Int.reduceNeg, Int.reduceDiv, Int.reduceMod, Nat.reduceBNe, Nat.reduceGT, Int.reduceBEq, Int.reduceBNe, Int.reduceGT, Nat.reduceDiv, Nat.reduceMod, Nat.reducePow, Int.reducePow, gt_iff_lt, ge_iff_le, List.reduceReplicate, ↓reduceIte, Try.f15, ints_isInt, eq8, eqB_may] | with_reducible refine drawT_of (id := 1) [0, 1, 3, 2, 4, 5] mixed (by kernel_rfl) (by simp) (fun hin => dt_of 1000 hin ?_) | with_reducible refine endT_of (by kernel_rfl) (nmT_of (by kernel_rfl)) (next_of 1000 ?_) | refine callT_fp (with_fn F p n _ _ _ h hn hp) (by simp [closed, closeds, closeds_ints, closed_wE]) (by kernel_rfl) (ck_of (by kernel_rfl) (nmT_of (by kernel_rfl))) (fun hin => dt_of 1000 hin ?_))
  exact ⟨BExt.refl _, (), trivial⟩
def orK (F G : Blm) (i : Nat) : Blm := fun j => if j < i then F j ||| G j else F j
theorem orK_zero (F G : Blm) : orK F G 0 = F := funext fun j => if_neg (by omega)
theorem orK_step (F G : Blm) (i : Nat) : setF (fB (orK F G i)) i (n8 (orK F G i i ||| G i)) = fB (orK F G (i + 1)) := by
  funext j
  simp only [setF, fB, orK]
  by_cases h : j = i
  · subst h; rw [if_pos rfl, if_pos (Nat.lt_succ_self _), if_neg (Nat.lt_irrefl _)]
  · rw [if_neg h]
    by_cases h2 : j < i
    · rw [if_pos h2, if_pos (by omega)]
    · rw [if_neg h2, if_neg (by omega)]
theorem orK_all (F G : Blm) : ints .u8 (fB (orK F G 256)) 256 = ints .u8 (fB (orB F G)) 256 := ints_congr fun j hj => by simp only [fB, orK, orB, if_pos hj]
theorem add_fn (F G : Blm) (B : Base) :
    Does Try.prog 11 [.agg (ints .u8 (fB F) 256), .agg (ints .u8 (fB G) 256)] B (fun _ : Unit => .agg (ints .u8 (fB (orB F G)) 256)) (fun _ _ => True) := by
  refine fn_of en11 (fun s B B' hB hR => hR) Try.func11 rfl in11 (by simp [Try.f11]) (by simp [closeds, closed, closeds_ints]) (fun B0 hB0 => next_of 1000 ?_)
  repeat' (simp (maxSteps := 4000000) (disch := omega) only [go_sem, Nat.reduceBEq, Nat.reduceAdd, Nat.reduceMul, Nat.reduceSub, Nat.reduceLT, Nat.reduceLeDiff, Int.reduceToNat, Int.reduceLT, Int.reduceLE, Int.reduceAdd, Int.reduceMul, Int.reduceSub, Int.reduceNeg, Int.reduceDiv, Int.reduceMod, Nat.reduceBNe, Nat.reduceGT, Int.reduceBEq, Int.reduceBNe, Int.reduceGT, Nat.reduceDiv, Nat.reduceMod, Nat.reducePow, Int.reducePow, gt_iff_lt, ge_iff_le, List.reduceReplicate, ↓reduceIte, Try.f11])
  refine loopU (S := Nat) (fun i => i ≤ 256)
    (fun i => ⟨[(6, .int .i64 (i : Nat)), (4, .ptr 2 0), (3, .ptr 1 0), (2, .ptr 0 0)], 3, [(2, some (.cells (ints .u8 (fun _ => 0) 256) 27 (0, 0))), (1, some (.cells (ints .u8 (fB G) 256) 27 (0, 0))), (0, some (.cells (ints .u8 (fB (orK F G i)) 256) 27 (0, 0)))], B0, []⟩)
    (fun i => 256 - i) 0 (by simp) (Weak.sub (weak_of (by simp [wσ, go_sem, closed, closeds, lE_closed, closeds_ints, orK_zero] <;> omega) (by simp [whs, Go.Ew.hget, go_sem, EObj.closed, closed, closeds, lE_closed, closeds_ints, orK_zero]) (by simp [*]) rfl rfl (by simp))) ?_
  intro i hi
  refine next_of 1000 ?_
  simp (maxSteps := 4000000) (disch := omega) only [go_sem, Nat.reduceBEq, Nat.reduceAdd, Nat.reduceMul, Nat.reduceSub, Nat.reduceLT, Nat.reduceLeDiff, Int.reduceToNat, Int.reduceLT, Int.reduceLE, Int.reduceAdd, Int.reduceMul, Int.reduceSub, Int.reduceNeg, Int.reduceDiv, Int.reduceMod, Nat.reduceBNe, Nat.reduceGT, Int.reduceBEq, Int.reduceBNe, Int.reduceGT, Nat.reduceDiv, Nat.reduceMod, Nat.reducePow, Int.reducePow, gt_iff_lt, ge_iff_le, List.reduceReplicate, ↓reduceIte]
  repeat (with_reducible refine And.intro (by first | omega | assumption | (constructor <;> assumption) | (simp; done) | (simp; omega) | (simp [*]; done) | ((repeat' refine And.intro ?_ ?_) <;> first | omega | assumption | (refine SlOk.so (n := ?_) ?_ ?_; rotate_left; assumption; omega) | (simp; done) | fail) | fail) ?_)
  refine condS_split (fun h2 => ?_) (fun h2 => ?_)
  all_goals (try simp only [bne_iff_ne, ne_eq, beq_iff_eq, decide_eq_true_eq, decide_eq_false_iff_not, Bool.not_eq_true, Bool.not_eq_false, Bool.not_true, Bool.not_false, bne_eq_false_iff_eq, beq_eq_false_iff_ne, Bool.and_eq_true, Bool.or_eq_true, Bool.and_eq_false_imp, Bool.or_eq_false_iff, Bool.not_eq_true', Bool.not_eq_false', Int.not_lt, Int.not_le] at h2)
  · repeat' (first | with_reducible refine And.intro (by first | omega | assumption | (constructor <;> assumption) | (simp; done) | (simp; omega) | (simp [*]; done) | ((repeat' refine And.intro ?_ ?_) <;> first | omega | assumption | (refine SlOk.so (n := ?_) ?_ ?_; rotate_left; assumption; omega) | (simp; done) | fail) | fail) ?_ | simp (maxSteps := 4000000) (disch := omega) only [go_sem, Nat.reduceBEq, Nat.reduceAdd, Nat.reduceMul, Nat.reduceSub, Nat.reduceLT, Nat.reduceLeDiff, Int.reduceToNat, Int.reduceLT, Int.reduceLE, Int.reduceAdd, Int.reduceMul, Int.reduceSub, Int.reduceNeg, Int.reduceDiv, Int.reduceMod, Nat.reduceBNe, Nat.reduceGT, Int.reduceBEq, Int.reduceBNe, Int.reduceGT, Nat.reduceDiv, Nat.reduceMod, Nat.reducePow, Int.reducePow, gt_iff_lt, ge_iff_le, List.reduceReplicate, ↓reduceIte, Int.toNat_natCast, fB_ap, or8, orK_step] | with_reducible refine drawT_of (id := 4) [0, 1, 2, 3, 4, 5, 6, 7, 8] mixed (by kernel_rfl) (by simp) (fun hin => dt_of 1000 hin ?_) | with_reducible refine endT_of (by kernel_rfl) (nmT_of (by kernel_rfl)) (next_of 1000 ?_))
    exact ⟨i + 1, by omega, Weak.sub (weak_of (by simp [wσ, go_sem, closed, closeds, lE_closed, closeds_ints] <;> omega) (by simp [whs, Go.Ew.hget, go_sem, EObj.closed, closed, closeds, lE_closed, closeds_ints]) (by simp [*]) rfl rfl (by simp)), by omega⟩
  · obtain rfl : i = 256 := by omega
    repeat' (first | simp (maxSteps := 4000000) (disch := omega) only [go_sem, Nat.reduceBEq, Nat.reduceAdd, Nat.reduceMul, Nat.reduceSub, Nat.reduceLT, Nat.reduceLeDiff, Int.reduceToNat, Int.reduceLT, Int.reduceLE, Int.reduceAdd, Int.reduceMul, Int.reduceSub, Int.reduceNeg, Int.reduceDiv, Int.reduceMod, Nat.reduceBNe, Nat.reduceGT, Int.reduceBEq, Int.reduceBNe, Int.reduceGT, Nat.reduceDiv, Nat.reduceMod, Nat.reducePow, Int.reducePow, gt_iff_lt, ge_iff_le, List.reduceReplicate, ↓reduceIte, orK_all] | with_reducible refine next_of 1000 ?_)
    exact ⟨BExt.refl _, (), closeds_ints _ _ _ _⟩
theorem refadd_fn (F G : Blm) (B : Base) :
    Does Try.prog 13 [.agg (ints .u8 (fB F) 256), .agg (ints .u8 (fB G) 256)] B (fun _ : Unit => .agg (ints .u8 (fB (orB F G)) 256)) (fun _ _ => True) := by
  refine fn_of en13 (fun s B B' hB hR => hR) Try.func13 rfl in13 (by simp [Try.f13]) (by simp [closeds, closed, closeds_ints]) (fun B0 hB0 => next_of 1000 ?_)
  repeat' (simp (maxSteps := 4000000) (disch := omega) only [go_sem, Nat.reduceBEq, Nat.reduceAdd, Nat.reduceMul, Nat.reduceSub, Nat.reduceLT, Nat.reduceLeDiff, Int.reduceToNat, Int.reduceLT, Int.reduceLE, Int.reduceAdd, Int.reduceMul, Int.reduceSub, Int.reduceNeg, Int.reduceDiv, Int.reduceMod, Nat.reduceBNe, Nat.reduceGT, Int.reduceBEq, Int.reduceBNe, Int.reduceGT, Nat.reduceDiv, Nat.reduceMod, Nat.reducePow, Int.reducePow, gt_iff_lt, ge_iff_le, List.reduceReplicate, ↓reduceIte, Try.f13])
  refine loopU (S := Nat) (fun i => i ≤ 256)
    (fun i => ⟨[(6, .int .i64 (i : Nat)), (4, .ptr 2 0), (3, .ptr 1 0), (2, .ptr 0 0)], 3, [(2, some (.cells (ints .u8 (fun _ => 0) 256) 27 (0, 0))), (1, some (.cells (ints .u8 (fB G) 256) 27 (0, 0))), (0, some (.cells (ints .u8 (fB (orK F G i)) 256) 27 (0, 0)))], B0, []⟩)
    (fun i => 256 - i) 0 (by simp) (Weak.sub (weak_of (by simp [wσ, go_sem, closed, closeds, lE_closed, closeds_ints, orK_zero] <;> omega) (by simp [whs, Go.Ew.hget, go_sem, EObj.closed, closed, closeds, lE_closed, closeds_ints, orK_zero]) (by simp [*]) rfl rfl (by simp))) ?_
  intro i hi
  refine next_of 1000 ?_
  simp (maxSteps := 4000000) (disch := omega) only [go_sem, Nat.reduceBEq, Nat.reduceAdd, Nat.reduceMul, Nat.reduceSub, Nat.reduceLT, Nat.reduceLeDiff, Int.reduceToNat, Int.reduceLT, Int.reduceLE, Int.reduceAdd, Int.reduceMul, Int.reduceSub, Int.reduceNeg, Int.reduceDiv, Int.reduceMod, Nat.reduceBNe, Nat.reduceGT, Int.reduceBEq, Int.reduceBNe, Int.reduceGT, Nat.reduceDiv, Nat.reduceMod, Nat.reducePow, Int.reducePow, gt_iff_lt, ge_iff_le, List.reduceReplicate, ↓reduceIte]
  repeat (with_reducible refine And.intro (by first | omega | assumption | (constructor <;> assumption) | (simp; done) | (simp; omega) | (simp [*]; done) | ((repeat' refine And.intro ?_ ?_) <;> first | omega | assumption | (refine SlOk.so (n := ?_) ?_ ?_; rotate_left; assumption; omega) | (simp; done) | fail) | fail) ?_)
  refine condS_split (fun h2 => ?_) (fun h2 => ?_)
  all_goals (try simp only [bne_iff_ne, ne_eq, beq_iff_eq, decide_eq_true_eq, decide_eq_false_iff_not, Bool.not_eq_true, Bool.not_eq_false, Bool.not_true, Bool.not_false, bne_eq_false_iff_eq, beq_eq_false_iff_ne, Bool.and_eq_true, Bool.or_eq_true, Bool.and_eq_false_imp, Bool.or_eq_false_iff, Bool.not_eq_true', Bool.not_eq_false', Int.not_lt, Int.not_le] at h2)
  · repeat' (first | with_reducible refine And.intro (by first | omega | assumption | (constructor <;> assumption) | (simp; done) | (simp; omega) | (simp [*]; done) | ((repeat' refine And.intro ?_ ?_) <;> first | omega | assumption | (refine SlOk.so (n := ?_) ?_ ?_; rotate_left; assumption; omega) | (simp; done) | fail) | fail) ?_ | simp (maxSteps := 4000000) (disch := omega) only [go_sem, Nat.reduceBEq, Nat.reduceAdd, Nat.reduceMul, Nat.reduceSub, Nat.reduceLT, Nat.reduceLeDiff, Int.reduceToNat, Int.reduceLT, Int.reduceLE, Int.reduceAdd, Int.reduceMul, Int.reduceSub, Int.reduceNeg, Int.reduceDiv, Int.reduceMod, Nat.reduceBNe, Nat.reduceGT, Int.reduceBEq, Int.reduceBNe, Int.reduceGT, Nat.reduceDiv, Nat.reduceMod, Nat.reducePow, Int.reducePow, gt_iff_lt, ge_iff_le, List.reduceReplicate, ↓reduceIte, Int.toNat_natCast, fB_ap, or8, orK_step] | with_reducible refine drawT_of (id := 4) [0, 1, 2, 3, 4, 5, 6, 7, 8] mixed (by kernel_rfl) (by simp) (fun hin => dt_of 1000 hin ?_) | with_reducible refine endT_of (by kernel_rfl) (nmT_of (by kernel_rfl)) (next_of 1000 ?_))
    exact ⟨i + 1, by omega, Weak.sub (weak_of (by simp [wσ, go_sem, closed, closeds, lE_closed, closeds_ints] <;> omega) (by simp [whs, Go.Ew.hget, go_sem, EObj.closed, closed, closeds, lE_closed, closeds_ints]) (by simp [*]) rfl rfl (by simp)), by omega⟩
  · obtain rfl : i = 256 := by omega
    repeat' (first | simp (maxSteps := 4000000) (disch := omega) only [go_sem, Nat.reduceBEq, Nat.reduceAdd, Nat.reduceMul, Nat.reduceSub, Nat.reduceLT, Nat.reduceLeDiff, Int.reduceToNat, Int.reduceLT, Int.reduceLE, Int.reduceAdd, Int.reduceMul, Int.reduceSub, Int.reduceNeg, Int.reduceDiv, Int.reduceMod, Nat.reduceBNe, Nat.reduceGT, Int.reduceBEq, Int.reduceBNe, Int.reduceGT, Nat.reduceDiv, Nat.reduceMod, Nat.reducePow, Int.reducePow, gt_iff_lt, ge_iff_le, List.reduceReplicate, ↓reduceIte, orK_all] | with_reducible refine next_of 1000 ?_)
    exact ⟨BExt.refl _, (), closeds_ints _ _ _ _⟩
end Go.Proofs.Ytepabkjfnpaijaa
