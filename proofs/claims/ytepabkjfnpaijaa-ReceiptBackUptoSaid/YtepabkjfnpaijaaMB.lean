/- Part of a proof over the seat Ytepabkjfnpaijaa. -/
import Derived.Test.YtepabkjfnpaijaaMA
namespace Go.Proofs.Ytepabkjfnpaijaa
open Go RowKit Go.Ew
set_option maxRecDepth 100000
set_option linter.unusedSimpArgs false
set_option linter.unusedVariables false
set_option maxHeartbeats 4000000
theorem in32 : codeIn Try.f32.ntmps (Try.f32.body.getD .skip) = true := by kernel_rfl
theorem in19 : codeIn Try.f19.ntmps (Try.f19.body.getD .skip) = true := by kernel_rfl
/-- A receipt, and where its logs lie. -/
structure RcV where
  ty : UInt8
  ok : Int
  gas : Nat
  F : Blm
  lA : Option Addr
  lc : Nat
  L : List LogV
def rcE (r : RcV) : List EV := .int .u8 (r.ty.toNat : Int) :: .int .i64 r.ok :: .int .u64 (r.gas : Int) :: (ints .u8 (fB r.F) 256 ++ [.raw (.slice r.lA r.L.length r.lc)])
theorem rc_len (r : RcV) : (rcE r).length = 260 := by simp [rcE, ints_len]
theorem rc_0 (r : RcV) (d : EV) : (rcE r).getD 0 d = .int .u8 (r.ty.toNat : Int) := rfl
theorem rc_1 (r : RcV) (d : EV) : (rcE r).getD 1 d = .int .i64 r.ok := rfl
theorem rc_2 (r : RcV) (d : EV) : (rcE r).getD 2 d = .int .u64 (r.gas : Int) := rfl
theorem rc_259 (r : RcV) (d : EV) : (rcE r).getD 259 d = .raw (.slice r.lA r.L.length r.lc) := by
  have : (rcE r)[259]? = some (.raw (.slice r.lA r.L.length r.lc)) := by
    show (ints .u8 (fB r.F) 256 ++ [.raw (.slice r.lA r.L.length r.lc)])[256]? = _
    rw [List.getElem?_append_right (by rw [ints_len]; omega), ints_len]; rfl
  rw [List.getD_eq_getElem?_getD, this]; rfl
theorem rc_bl (r : RcV) : ((rcE r).drop 3).take 256 = ints .u8 (fB r.F) 256 := by
  simp only [rcE, List.drop_succ_cons, List.drop_zero]
  rw [List.take_append_of_le_length (by rw [ints_len]; omega), List.take_of_length_le (by rw [ints_len]; omega)]
theorem rc_all (r : RcV) : (rcE r).take 260 = rcE r := List.take_of_length_le (by rw [rc_len]; omega)
theorem oneAll_append (a b : List EV) : oneAll (a ++ b) = (oneAll a && oneAll b) := by
  induction a with
  | nil => rfl
  | cons v a ih => simp only [List.cons_append, oneAll, ih, Bool.and_assoc]
theorem oneAll_ints (k : IntKind) (z : Nat → Int) (n : Nat) : oneAll (ints k z n) = true := by
  unfold ints
  generalize List.range n = l
  induction l with
  | nil => rfl
  | cons i l ih => rw [List.map_cons, oneAll, ih]; rfl
theorem rc_one (r : RcV) : oneAll (rcE r) = true := by
  simp only [rcE, oneAll, oneAll_append, oneAll_ints]; rfl
theorem rc_closed (n : Nat) (r : RcV) : closeds n (rcE r) := by
  simp only [rcE, closeds]
  exact ⟨by simp [closed], by simp [closed], by simp [closed], closeds_append.2 ⟨closeds_ints _ _ _ _, by simp [closeds, closed]⟩⟩
/-- Whether a receipt may be. -/
def mayR (r : RcV) : Bool := (r.L.all fun g => decide (g.tn ≤ 4)) && (decide ((r.ty.toNat : Int) ≤ 3) && (r.ok == 0 || r.ok == 1) && eqB r.F (allB zB (marksL r.L)))
theorem mayr_fn {B : Base} {r : RcV} (h : LogsAt B r.lA r.L) : Does Try.prog 32 [.agg (rcE r)] B (fun _ : Unit => .bool (mayR r)) (fun _ _ => True) := by
  refine fn_of en32 (fun s B B' hB hR => hR) Try.func32 rfl in32 (by simp [Try.f32]) ⟨rc_closed 0 r, trivial⟩ (fun B0 hB0 => next_of 1000 ?_)
  replace h := h.ext hB0
  have hrc : ∀ n, closeds n (rcE r) := fun n => rc_closed n r
  repeat' (first | with_reducible refine And.intro (by first | omega | assumption | (constructor <;> assumption) | (simp; done) | (simp; omega) | (simp [*]; done) | ((repeat' refine And.intro ?_ ?_) <;> first | omega | assumption | (refine SlOk.so (n := ?_) ?_ ?_; rotate_left; assumption; omega) | (simp; done) | fail) | fail) ?_ | simp (maxSteps := 4000000) (disch := omega) only [go_sem, Nat.reduceBEq, Nat.reduceAdd, Nat.reduceMul, Nat.reduceSub, Nat.reduceLT, Nat.reduceLeDiff, Int.reduceToNat, Int.reduceLT, Int.reduceLE, Int.reduceAdd, Int.reduceMul, Int.reduceSub, Int.reduceNeg, Int.reduceDiv, Int.reduceMod, Nat.reduceBNe, Nat.reduceGT, Int.reduceBEq, Int.reduceBNe, Int.reduceGT, Nat.reduceDiv, Nat.reduceMod, Nat.reducePow, Int.reducePow, gt_iff_lt, ge_iff_le, List.reduceReplicate, ↓reduceIte, Try.f32, rc_len, rc_0, rc_1, rc_2, rc_259, rc_bl, rc_one])
  refine loopU (S := Nat) (fun i => i ≤ r.L.length ∧ (r.L.take i).all (fun g => decide (g.tn ≤ 4)) = true)
    (fun i => ⟨[(8, .int .i64 (i : Nat)), (7, .int .i64 (r.L.length : Nat)), (6, .raw (.slice r.lA r.L.length r.lc)), (1, .ptr 0 0)], 1, [(0, some (.cells (rcE r) 45 (0, 0)))], B0, []⟩)
    (fun i => r.L.length - i) 0 ⟨Nat.zero_le _, rfl⟩ (Weak.sub (weak_of (by simp [wσ, go_sem, closed, closeds, lE_closed, hrc] <;> omega) (by simp [whs, Go.Ew.hget, go_sem, EObj.closed, closed, closeds, lE_closed, hrc]) (by simp [*]) rfl rfl (by simp))) ?_
  rintro i ⟨hi, hall⟩
  have hlen := h.len
  refine next_of 1000 ?_
  simp (maxSteps := 4000000) (disch := omega) only [go_sem, Nat.reduceBEq, Nat.reduceAdd, Nat.reduceMul, Nat.reduceSub, Nat.reduceLT, Nat.reduceLeDiff, Int.reduceToNat, Int.reduceLT, Int.reduceLE, Int.reduceAdd, Int.reduceMul, Int.reduceSub, Int.reduceNeg, Int.reduceDiv, Int.reduceMod, Nat.reduceBNe, Nat.reduceGT, Int.reduceBEq, Int.reduceBNe, Int.reduceGT, Nat.reduceDiv, Nat.reduceMod, Nat.reducePow, Int.reducePow, gt_iff_lt, ge_iff_le, List.reduceReplicate, ↓reduceIte]
  repeat (with_reducible refine And.intro (by first | omega | assumption | (constructor <;> assumption) | (simp; done) | (simp; omega) | (simp [*]; done) | ((repeat' refine And.intro ?_ ?_) <;> first | omega | assumption | (refine SlOk.so (n := ?_) ?_ ?_; rotate_left; assumption; omega) | (simp; done) | fail) | fail) ?_)
  refine condS_split (fun h2 => ?_) (fun h2 => ?_)
  all_goals (try simp only [bne_iff_ne, ne_eq, beq_iff_eq, decide_eq_true_eq, decide_eq_false_iff_not, Bool.not_eq_true, Bool.not_eq_false, Bool.not_true, Bool.not_false, bne_eq_false_iff_eq, beq_eq_false_iff_ne, Bool.and_eq_true, Bool.or_eq_true, Bool.and_eq_false_imp, Bool.or_eq_false_iff, Bool.not_eq_true', Bool.not_eq_false', Int.not_lt, Int.not_le] at h2)
  · have hi2 : i < r.L.length := by omega
    obtain ⟨l1, l2, l3, l4⟩ := h.ld hi2
    have h1 := h.ok _ (List.getElem_mem hi2)
    have hm := List.getElem_mem hi2
    have htk : (r.L.take (i + 1)) = r.L.take i ++ [r.L[i]] := List.take_succ_eq_append_getElem hi2
    obtain ⟨g, hg⟩ : ∃ g, g = r.L[i] := ⟨_, rfl⟩
    rw [← hg] at l1 h1 htk hm
    have ht := h1.tb
    have f1 : oneAll g.ev = true := logE_one rfl rfl
    have f2 : ∀ u v, (logE g.ad u v).length = 22 := fun u v => logE_len h1.ha
    have f3 : ∀ u v d, (logE g.ad u v).getD 20 d = u := fun u v d => logE_20 h1.ha
    repeat' (first | with_reducible refine And.intro (by first | omega | assumption | (constructor <;> assumption) | (simp; done) | (simp; omega) | (simp [*]; done) | ((repeat' refine And.intro ?_ ?_) <;> first | omega | assumption | (refine SlOk.so (n := ?_) ?_ ?_; rotate_left; assumption; omega) | (simp; done) | fail) | fail) ?_ | simp (maxSteps := 4000000) (disch := omega) only [go_sem, Nat.reduceBEq, Nat.reduceAdd, Nat.reduceMul, Nat.reduceSub, Nat.reduceLT, Nat.reduceLeDiff, Int.reduceToNat, Int.reduceLT, Int.reduceLE, Int.reduceAdd, Int.reduceMul, Int.reduceSub, Int.reduceNeg, Int.reduceDiv, Int.reduceMod, Nat.reduceBNe, Nat.reduceGT, Int.reduceBEq, Int.reduceBNe, Int.reduceGT, Nat.reduceDiv, Nat.reduceMod, Nat.reducePow, Int.reducePow, gt_iff_lt, ge_iff_le, List.reduceReplicate, ↓reduceIte, Int.toNat_natCast, l1, f1, f2, f3, logE_splice h1.ha] | ((first | refine condS_split (fun h => ?_) (fun h => ?_) | refine testS_split (fun h => ?_) (fun h => ?_) | refine testT_split (fun h => ?_) (fun h => ?_)) <;> (try simp only [bne_iff_ne, ne_eq, beq_iff_eq, decide_eq_true_eq, decide_eq_false_iff_not, Bool.not_eq_true, Bool.not_eq_false, Bool.not_true, Bool.not_false, bne_eq_false_iff_eq, beq_eq_false_iff_ne, Bool.and_eq_true, Bool.or_eq_true, Bool.and_eq_false_imp, Bool.or_eq_false_iff, Bool.not_eq_true', Bool.not_eq_false', Int.not_lt, Int.not_le] at h) <;> (try (exfalso; omega))))
    · have hx : mayR r = false := by
        have : (r.L.all fun g => decide (g.tn ≤ 4)) = false := by
          rw [List.all_eq_false]; exact ⟨g, hm, by simp; omega⟩
        rw [mayR, this]; rfl
      exact ⟨BExt.refl _, (), by rw [hx], by simp [closed]⟩
    · exact ⟨i + 1, ⟨hi2, by rw [htk, List.all_append, hall]; simp; omega⟩, Weak.sub (weak_of (by simp [wσ, go_sem, closed, closeds, lE_closed, hrc] <;> omega) (by simp [whs, Go.Ew.hget, go_sem, EObj.closed, closed, closeds, lE_closed, hrc]) (by simp [*]) rfl rfl (by simp)), by omega⟩
  · obtain rfl : i = r.L.length := by omega
    rw [List.take_length] at hall
    have hmr : mayR r = (decide ((r.ty.toNat : Int) ≤ 3) && (r.ok == 0 || r.ok == 1) && eqB r.F (allB zB (marksL r.L))) := by rw [mayR, hall]; rfl
    rw [hmr]
    have hof := of_fn r.L r.L.length _ r.lA r.lc h rfl
    clear h
    repeat' (first | with_reducible refine And.intro (by first | omega | assumption | (constructor <;> assumption) | (simp; done) | (simp; omega) | (simp [*]; done) | ((repeat' refine And.intro ?_ ?_) <;> first | omega | assumption | (refine SlOk.so (n := ?_) ?_ ?_; rotate_left; assumption; omega) | (simp; done) | fail) | fail) ?_ | simp (maxSteps := 4000000) (disch := omega) only [go_sem, Nat.reduceBEq, Nat.reduceAdd, Nat.reduceMul, Nat.reduceSub, Nat.reduceLT, Nat.reduceLeDiff, Int.reduceToNat, Int.reduceLT, Int.reduceLE, Int.reduceAdd, Int.reduceMul, Int.reduceSub, Int.reduceNeg, Int.reduceDiv, Int.reduceMod, Nat.reduceBNe, Nat.reduceGT, Int.reduceBEq, Int.reduceBNe, Int.reduceGT, Nat.reduceDiv, Nat.reduceMod, Nat.reducePow, Int.reducePow, gt_iff_lt, ge_iff_le, List.reduceReplicate, ↓reduceIte, rc_len, rc_0, rc_1, rc_2, rc_259, rc_bl, rc_one, ints_isInt, eq8] | with_reducible refine drawT_of (id := 7) [0, 1, 2, 3, 4, 5, 6, 7, 8, 9, 10, 11, 12, 13, 14, 15, 16, 17, 18, 19, 20, 21] mixed (by kernel_rfl) (by simp) (fun hin => dt_of 1000 hin ?_) | with_reducible refine endT_of (by kernel_rfl) (nmT_of (by kernel_rfl)) (next_of 1000 ?_) | refine callT_fp (hof) (by simp [closed, closeds, closeds_ints, closed_wE]) (by kernel_rfl) (ck_of (by kernel_rfl) (nmT_of (by kernel_rfl))) (fun hin => dt_of 1000 hin ?_) | with_reducible refine next_of 1000 ?_ | ((first | refine condS_split (fun h => ?_) (fun h => ?_) | refine testS_split (fun h => ?_) (fun h => ?_) | refine testT_split (fun h => ?_) (fun h => ?_)) <;> (try simp only [bne_iff_ne, ne_eq, beq_iff_eq, decide_eq_true_eq, decide_eq_false_iff_not, Bool.not_eq_true, Bool.not_eq_false, Bool.not_true, Bool.not_false, bne_eq_false_iff_eq, beq_eq_false_iff_ne, Bool.and_eq_true, Bool.or_eq_true, Bool.and_eq_false_imp, Bool.or_eq_false_iff, Bool.not_eq_true', Bool.not_eq_false', Int.not_lt, Int.not_le] at h) <;> (try (exfalso; omega))))
    all_goals exact ⟨BExt.refl _, (), by simp_all <;> (intros; omega), by simp [closed]⟩
end Go.Proofs.Ytepabkjfnpaijaa

