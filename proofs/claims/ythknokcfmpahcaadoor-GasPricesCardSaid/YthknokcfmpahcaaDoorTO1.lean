/- Part of a proof over the seat YthknokcfmpahcaaDoor. -/
import Derived.Test.YthknokcfmpahcaaDoorTG7
import Derived.Test.YthknokcfmpahcaaDoorEng3
namespace Go.Proofs.YthknokcfmpahcaaDoor
open Go Go.Ew
set_option maxRecDepth 100000
set_option linter.unusedSimpArgs false
set_option linter.unusedVariables false
set_option maxHeartbeats 4000000
theorem in60 : codeIn Tryd.f60.ntmps (Tryd.f60.body.getD .skip) = true := by kernel_rfl
theorem in57 : codeIn Tryd.f57.ntmps (Tryd.f57.body.getD .skip) = true := by kernel_rfl
theorem in74 : codeIn Tryd.f74.ntmps (Tryd.f74.body.getD .skip) = true := by kernel_rfl
theorem in81 : codeIn Tryd.f81.ntmps (Tryd.f81.body.getD .skip) = true := by kernel_rfl
theorem in82 : codeIn Tryd.f82.ntmps (Tryd.f82.body.getD .skip) = true := by kernel_rfl
/-- The table: opcode, name, gas, pops, pushes. -/
def opTab : List (Int × ByteArray × Int × Int × Int) := [
  (0, ⟨#[83, 84, 79, 80]⟩, 0, 0, 0),
  (1, ⟨#[65, 68, 68]⟩, 3, 2, 1),
  (2, ⟨#[77, 85, 76]⟩, 5, 2, 1),
  (3, ⟨#[83, 85, 66]⟩, 3, 2, 1),
  (4, ⟨#[68, 73, 86]⟩, 5, 2, 1),
  (5, ⟨#[83, 68, 73, 86]⟩, 5, 2, 1),
  (6, ⟨#[77, 79, 68]⟩, 5, 2, 1),
  (7, ⟨#[83, 77, 79, 68]⟩, 5, 2, 1),
  (8, ⟨#[65, 68, 68, 77, 79, 68]⟩, 8, 3, 1),
  (9, ⟨#[77, 85, 76, 77, 79, 68]⟩, 8, 3, 1),
  (10, ⟨#[69, 88, 80]⟩, 10, 2, 1),
  (11, ⟨#[83, 73, 71, 78, 69, 88, 84, 69, 78, 68]⟩, 5, 2, 1),
  (16, ⟨#[76, 84]⟩, 3, 2, 1),
  (17, ⟨#[71, 84]⟩, 3, 2, 1),
  (18, ⟨#[83, 76, 84]⟩, 3, 2, 1),
  (19, ⟨#[83, 71, 84]⟩, 3, 2, 1),
  (20, ⟨#[69, 81]⟩, 3, 2, 1),
  (21, ⟨#[73, 83, 90, 69, 82, 79]⟩, 3, 1, 1),
  (22, ⟨#[65, 78, 68]⟩, 3, 2, 1),
  (23, ⟨#[79, 82]⟩, 3, 2, 1),
  (24, ⟨#[88, 79, 82]⟩, 3, 2, 1),
  (25, ⟨#[78, 79, 84]⟩, 3, 1, 1),
  (26, ⟨#[66, 89, 84, 69]⟩, 3, 2, 1),
  (27, ⟨#[83, 72, 76]⟩, 3, 2, 1),
  (28, ⟨#[83, 72, 82]⟩, 3, 2, 1),
  (29, ⟨#[83, 65, 82]⟩, 3, 2, 1),
  (32, ⟨#[75, 69, 67, 67, 65, 75, 50, 53, 54]⟩, 30, 2, 1),
  (48, ⟨#[65, 68, 68, 82, 69, 83, 83]⟩, 2, 0, 1),
  (49, ⟨#[66, 65, 76, 65, 78, 67, 69]⟩, 0, 1, 1),
  (50, ⟨#[79, 82, 73, 71, 73, 78]⟩, 2, 0, 1),
  (51, ⟨#[67, 65, 76, 76, 69, 82]⟩, 2, 0, 1),
  (52, ⟨#[67, 65, 76, 76, 86, 65, 76, 85, 69]⟩, 2, 0, 1),
  (53, ⟨#[67, 65, 76, 76, 68, 65, 84, 65, 76, 79, 65, 68]⟩, 3, 1, 1),
  (54, ⟨#[67, 65, 76, 76, 68, 65, 84, 65, 83, 73, 90, 69]⟩, 2, 0, 1),
  (55, ⟨#[67, 65, 76, 76, 68, 65, 84, 65, 67, 79, 80, 89]⟩, 3, 3, 0),
  (56, ⟨#[67, 79, 68, 69, 83, 73, 90, 69]⟩, 2, 0, 1),
  (57, ⟨#[67, 79, 68, 69, 67, 79, 80, 89]⟩, 3, 3, 0),
  (58, ⟨#[71, 65, 83, 80, 82, 73, 67, 69]⟩, 2, 0, 1),
  (59, ⟨#[69, 88, 84, 67, 79, 68, 69, 83, 73, 90, 69]⟩, 0, 1, 1),
  (60, ⟨#[69, 88, 84, 67, 79, 68, 69, 67, 79, 80, 89]⟩, 0, 4, 0),
  (61, ⟨#[82, 69, 84, 85, 82, 78, 68, 65, 84, 65, 83, 73, 90, 69]⟩, 2, 0, 1),
  (62, ⟨#[82, 69, 84, 85, 82, 78, 68, 65, 84, 65, 67, 79, 80, 89]⟩, 3, 3, 0),
  (63, ⟨#[69, 88, 84, 67, 79, 68, 69, 72, 65, 83, 72]⟩, 0, 1, 1),
  (64, ⟨#[66, 76, 79, 67, 75, 72, 65, 83, 72]⟩, 20, 1, 1),
  (65, ⟨#[67, 79, 73, 78, 66, 65, 83, 69]⟩, 2, 0, 1),
  (66, ⟨#[84, 73, 77, 69, 83, 84, 65, 77, 80]⟩, 2, 0, 1),
  (67, ⟨#[78, 85, 77, 66, 69, 82]⟩, 2, 0, 1),
  (68, ⟨#[80, 82, 69, 86, 82, 65, 78, 68, 65, 79]⟩, 2, 0, 1),
  (69, ⟨#[71, 65, 83, 76, 73, 77, 73, 84]⟩, 2, 0, 1),
  (70, ⟨#[67, 72, 65, 73, 78, 73, 68]⟩, 2, 0, 1),
  (71, ⟨#[83, 69, 76, 70, 66, 65, 76, 65, 78, 67, 69]⟩, 5, 0, 1),
  (72, ⟨#[66, 65, 83, 69, 70, 69, 69]⟩, 2, 0, 1),
  (73, ⟨#[66, 76, 79, 66, 72, 65, 83, 72]⟩, 3, 1, 1),
  (74, ⟨#[66, 76, 79, 66, 66, 65, 83, 69, 70, 69, 69]⟩, 2, 0, 1),
  (80, ⟨#[80, 79, 80]⟩, 2, 1, 0),
  (81, ⟨#[77, 76, 79, 65, 68]⟩, 3, 1, 1),
  (82, ⟨#[77, 83, 84, 79, 82, 69]⟩, 3, 2, 0),
  (83, ⟨#[77, 83, 84, 79, 82, 69, 56]⟩, 3, 2, 0),
  (84, ⟨#[83, 76, 79, 65, 68]⟩, 0, 1, 1),
  (85, ⟨#[83, 83, 84, 79, 82, 69]⟩, 0, 2, 0),
  (86, ⟨#[74, 85, 77, 80]⟩, 8, 1, 0),
  (87, ⟨#[74, 85, 77, 80, 73]⟩, 10, 2, 0),
  (88, ⟨#[80, 67]⟩, 2, 0, 1),
  (89, ⟨#[77, 83, 73, 90, 69]⟩, 2, 0, 1),
  (90, ⟨#[71, 65, 83]⟩, 2, 0, 1),
  (91, ⟨#[74, 85, 77, 80, 68, 69, 83, 84]⟩, 1, 0, 0),
  (92, ⟨#[84, 76, 79, 65, 68]⟩, 100, 1, 1),
  (93, ⟨#[84, 83, 84, 79, 82, 69]⟩, 100, 2, 0),
  (94, ⟨#[77, 67, 79, 80, 89]⟩, 3, 3, 0),
  (95, ⟨#[80, 85, 83, 72, 48]⟩, 2, 0, 1),
  (240, ⟨#[67, 82, 69, 65, 84, 69]⟩, 32000, 3, 1),
  (241, ⟨#[67, 65, 76, 76]⟩, 0, 7, 1),
  (242, ⟨#[67, 65, 76, 76, 67, 79, 68, 69]⟩, 0, 7, 1),
  (243, ⟨#[82, 69, 84, 85, 82, 78]⟩, 0, 2, 0),
  (244, ⟨#[68, 69, 76, 69, 71, 65, 84, 69, 67, 65, 76, 76]⟩, 0, 6, 1),
  (245, ⟨#[67, 82, 69, 65, 84, 69, 50]⟩, 32000, 4, 1),
  (250, ⟨#[83, 84, 65, 84, 73, 67, 67, 65, 76, 76]⟩, 0, 6, 1),
  (253, ⟨#[82, 69, 86, 69, 82, 84]⟩, 0, 2, 0),
  (255, ⟨#[83, 69, 76, 70, 68, 69, 83, 84, 82, 85, 67, 84]⟩, 5000, 1, 0)]
def rowE (r : Int × ByteArray × Int × Int × Int) : List EV := [.int .i64 r.1, .str r.2.1, .int .u64 r.2.2.1, .int .i64 r.2.2.2.1, .int .i64 r.2.2.2.2]
def rowsE : List EV := opTab.flatMap rowE
theorem efill_eq {p : Nat → Option (Nat × Nat)} {c : List EV} {l : List (Nat × EV)} {r : List EV} (h : efill p c l = some r) : efill p c l = some r := h
theorem rows_calls (w : World) : Calls Tryd.prog 60 #[] w (RetN (.sl 0 0 79 79) [.cells rowsE 79 (0, 0)] w) := by
  refine new_calls _ _ [] Tryd.func60 rfl in60 (by simp [Tryd.f60]) (by simp [closeds]) ?_
  refine next_of 3000 ?_
  simp (maxSteps := 4000000) (disch := omega) only [go_sem, Nat.reduceBEq, Nat.reduceAdd, Nat.reduceMul, Nat.reduceSub, Nat.reduceLT, Nat.reduceLeDiff, Int.reduceToNat, Int.reduceLT, Int.reduceLE, Int.reduceAdd, Int.reduceMul, Int.reduceSub, Int.reduceNeg, Int.reduceDiv, Int.reduceMod, Nat.reduceBNe, Nat.reduceGT, Int.reduceBEq, Int.reduceBNe, Int.reduceGT, Nat.reduceDiv, Nat.reduceMod, Nat.reducePow, Int.reducePow, gt_iff_lt, ge_iff_le, List.reduceReplicate, ↓reduceIte, Tryd.f60, rep, List.flatten_cons, List.flatten_nil]
  repeat (with_reducible refine And.intro (by first | omega | assumption | (constructor <;> assumption) | (simp; done) | (simp; omega) | (simp [*]; done) | ((repeat' refine And.intro ?_ ?_) <;> first | omega | assumption | (refine SlOk.so (n := ?_) ?_ ?_; rotate_left; assumption; omega) | (simp; done) | fail) | fail) ?_)
  rintro (_ | i) o h
  · simp only [List.getElem?_cons_zero, Option.some.injEq] at h
    subst h
    kernel_rfl
  · simp at h
/-- The digits of a number under 100, as small() cuts them. -/
def digS : ByteArray := ⟨#[48, 49, 50, 51, 52, 53, 54, 55, 56, 57, 97, 98, 99, 100, 101, 102, 103, 104, 105, 106, 107, 108, 109, 110, 111, 112, 113, 114, 115, 116, 117, 118, 119, 120, 121, 122]⟩
def hunS : ByteArray := ⟨(([48, 48, 48, 49, 48, 50, 48, 51, 48, 52, 48, 53, 48, 54, 48, 55, 48, 56, 48, 57, 49, 48, 49, 49, 49, 50, 49, 51, 49, 52, 49, 53, 49, 54, 49, 55, 49, 56, 49, 57, 50, 48, 50, 49, 50, 50, 50, 51, 50, 52].append [50, 53, 50, 54, 50, 55, 50, 56, 50, 57, 51, 48, 51, 49, 51, 50, 51, 51, 51, 52, 51, 53, 51, 54, 51, 55, 51, 56, 51, 57, 52, 48, 52, 49, 52, 50, 52, 51, 52, 52, 52, 53, 52, 54, 52, 55, 52, 56, 52, 57]).append ([53, 48, 53, 49, 53, 50, 53, 51, 53, 52, 53, 53, 53, 54, 53, 55, 53, 56, 53, 57, 54, 48, 54, 49, 54, 50, 54, 51, 54, 52, 54, 53, 54, 54, 54, 55, 54, 56, 54, 57, 55, 48, 55, 49, 55, 50, 55, 51, 55, 52].append [55, 53, 55, 54, 55, 55, 55, 56, 55, 57, 56, 48, 56, 49, 56, 50, 56, 51, 56, 52, 56, 53, 56, 54, 56, 55, 56, 56, 56, 57, 57, 48, 57, 49, 57, 50, 57, 51, 57, 52, 57, 53, 57, 54, 57, 55, 57, 56, 57, 57])).toArray⟩
def digs (n : Int) : ByteArray := if n < 10 then digS.extract n.toNat (n + 1).toNat else hunS.extract (n * 2).toNat (n * 2 + 2).toNat
theorem small_calls10 (n : Int) (h : 0 ≤ n ∧ n < 100) (w : World) : Calls Tryd.prog 82 #[.int .i64 n] w (Ret (.string (digs n)) w) := by
  refine pure_calls [.int .i64 n] Tryd.func82 rfl in82 (by simp [Tryd.f82]) (by simp [closeds, closed]) ?_
  refine next_of 1000 ?_
  simp (maxSteps := 4000000) (disch := omega) only [go_sem, Nat.reduceBEq, Nat.reduceAdd, Nat.reduceMul, Nat.reduceSub, Nat.reduceLT, Nat.reduceLeDiff, Int.reduceToNat, Int.reduceLT, Int.reduceLE, Int.reduceAdd, Int.reduceMul, Int.reduceSub, Int.reduceNeg, Int.reduceDiv, Int.reduceMod, Nat.reduceBNe, Nat.reduceGT, Int.reduceBEq, Int.reduceBNe, Int.reduceGT, Nat.reduceDiv, Nat.reduceMod, Nat.reducePow, Int.reducePow, gt_iff_lt, ge_iff_le, List.reduceReplicate, ↓reduceIte, Tryd.f82]
  repeat (with_reducible refine And.intro (by first | omega | assumption | (constructor <;> assumption) | (simp; done) | (simp; omega) | (simp [*]; done) | ((repeat' refine And.intro ?_ ?_) <;> first | omega | assumption | (refine SlOk.so (n := ?_) ?_ ?_; rotate_left; assumption; omega) | (simp; done) | fail) | fail) ?_)
  refine condS_split (fun h1 => ?_) (fun h1 => ?_)
  all_goals (try simp only [bne_iff_ne, ne_eq, beq_iff_eq, decide_eq_true_eq, decide_eq_false_iff_not, Bool.not_eq_true, Bool.not_eq_false, Bool.not_true, Bool.not_false, bne_eq_false_iff_eq, beq_eq_false_iff_ne, Bool.and_eq_true, Bool.or_eq_true, Bool.and_eq_false_imp, Bool.or_eq_false_iff, Bool.not_eq_true', Bool.not_eq_false', Int.not_lt, Int.not_le] at h1)
  · simp (maxSteps := 4000000) (disch := omega) only [go_sem, Nat.reduceBEq, Nat.reduceAdd, Nat.reduceMul, Nat.reduceSub, Nat.reduceLT, Nat.reduceLeDiff, Int.reduceToNat, Int.reduceLT, Int.reduceLE, Int.reduceAdd, Int.reduceMul, Int.reduceSub, Int.reduceNeg, Int.reduceDiv, Int.reduceMod, Nat.reduceBNe, Nat.reduceGT, Int.reduceBEq, Int.reduceBNe, Int.reduceGT, Nat.reduceDiv, Nat.reduceMod, Nat.reducePow, Int.reducePow, gt_iff_lt, ge_iff_le, List.reduceReplicate, ↓reduceIte]
    repeat (with_reducible refine And.intro (by first | omega | assumption | (constructor <;> assumption) | (simp; done) | (simp; omega) | (simp [*]; done) | ((repeat' refine And.intro ?_ ?_) <;> first | omega | assumption | (refine SlOk.so (n := ?_) ?_ ?_; rotate_left; assumption; omega) | (simp; done) | fail) | fail) ?_)
    intro bs
    show Value.string _ = _
    unfold digs; rw [if_pos h1]; rfl
  · simp (maxSteps := 4000000) (disch := omega) only [go_sem, Nat.reduceBEq, Nat.reduceAdd, Nat.reduceMul, Nat.reduceSub, Nat.reduceLT, Nat.reduceLeDiff, Int.reduceToNat, Int.reduceLT, Int.reduceLE, Int.reduceAdd, Int.reduceMul, Int.reduceSub, Int.reduceNeg, Int.reduceDiv, Int.reduceMod, Nat.reduceBNe, Nat.reduceGT, Int.reduceBEq, Int.reduceBNe, Int.reduceGT, Nat.reduceDiv, Nat.reduceMod, Nat.reducePow, Int.reducePow, gt_iff_lt, ge_iff_le, List.reduceReplicate, ↓reduceIte]
    repeat (with_reducible refine And.intro (by first | omega | assumption | (constructor <;> assumption) | (simp; done) | (simp; omega) | (simp [*]; done) | ((repeat' refine And.intro ?_ ?_) <;> first | omega | assumption | (refine SlOk.so (n := ?_) ?_ ?_; rotate_left; assumption; omega) | (simp; done) | fail) | fail) ?_)
    intro bs
    show Value.string _ = _
    unfold digs; rw [if_neg (by omega)]; rfl
theorem itoa_calls (n : Int) (hn : 0 ≤ n ∧ n < 100) (w : World) : Calls Tryd.prog 57 #[.int .i64 n] w (Ret (.string (digs n)) w) := by
  have h81 : ∀ w, Calls Tryd.prog 81 #[.int .i64 n, .int .i64 10] w (Ret (.string (digs n)) w) := by
    intro w
    refine pure_calls [.int .i64 n, .int .i64 10] Tryd.func81 rfl in81 (by simp [Tryd.f81]) (by simp [closeds, closed]) ?_
    refine next_of 1000 ?_
    simp (maxSteps := 4000000) (disch := omega) only [go_sem, Nat.reduceBEq, Nat.reduceAdd, Nat.reduceMul, Nat.reduceSub, Nat.reduceLT, Nat.reduceLeDiff, Int.reduceToNat, Int.reduceLT, Int.reduceLE, Int.reduceAdd, Int.reduceMul, Int.reduceSub, Int.reduceNeg, Int.reduceDiv, Int.reduceMod, Nat.reduceBNe, Nat.reduceGT, Int.reduceBEq, Int.reduceBNe, Int.reduceGT, Nat.reduceDiv, Nat.reduceMod, Nat.reducePow, Int.reducePow, gt_iff_lt, ge_iff_le, List.reduceReplicate, ↓reduceIte, Tryd.f81]
    repeat (with_reducible refine And.intro (by first | omega | assumption | (constructor <;> assumption) | (simp; done) | (simp; omega) | (simp [*]; done) | ((repeat' refine And.intro ?_ ?_) <;> first | omega | assumption | (refine SlOk.so (n := ?_) ?_ ?_; rotate_left; assumption; omega) | (simp; done) | fail) | fail) ?_)
    repeat' (first
      | with_reducible refine And.intro (by first | omega | assumption | (constructor <;> assumption) | (simp; done) | (simp; omega) | (simp [*]; done) | ((repeat' refine And.intro ?_ ?_) <;> first | omega | assumption | (refine SlOk.so (n := ?_) ?_ ?_; rotate_left; assumption; omega) | (simp; done) | fail) | fail) ?_
      | simp (maxSteps := 4000000) (disch := omega) only [go_sem, Nat.reduceBEq, Nat.reduceAdd, Nat.reduceMul, Nat.reduceSub, Nat.reduceLT, Nat.reduceLeDiff, Int.reduceToNat, Int.reduceLT, Int.reduceLE, Int.reduceAdd, Int.reduceMul, Int.reduceSub, Int.reduceNeg, Int.reduceDiv, Int.reduceMod, Nat.reduceBNe, Nat.reduceGT, Int.reduceBEq, Int.reduceBNe, Int.reduceGT, Nat.reduceDiv, Nat.reduceMod, Nat.reducePow, Int.reducePow, gt_iff_lt, ge_iff_le, List.reduceReplicate, ↓reduceIte]
      | (refine condS_split (fun h => ?_) (fun h => ?_) <;> (try simp only [bne_iff_ne, ne_eq, beq_iff_eq, decide_eq_true_eq, decide_eq_false_iff_not, Bool.not_eq_true, Bool.not_eq_false, Bool.not_true, Bool.not_false, bne_eq_false_iff_eq, beq_eq_false_iff_ne, Bool.and_eq_true, Bool.or_eq_true, Bool.and_eq_false_imp, Bool.or_eq_false_iff, Bool.not_eq_true', Bool.not_eq_false', Int.not_lt, Int.not_le] at h) <;> (try (exfalso; omega)))
      | (refine testS_split (fun h => ?_) (fun h => ?_) <;> (try simp only [bne_iff_ne, ne_eq, beq_iff_eq, decide_eq_true_eq, decide_eq_false_iff_not, Bool.not_eq_true, Bool.not_eq_false, Bool.not_true, Bool.not_false, bne_eq_false_iff_eq, beq_eq_false_iff_ne, Bool.and_eq_true, Bool.or_eq_true, Bool.and_eq_false_imp, Bool.or_eq_false_iff, Bool.not_eq_true', Bool.not_eq_false', Int.not_lt, Int.not_le] at h) <;> (try (exfalso; omega))))
    refine callS_pure (.str (digs n)) en82 (by simp [closed]) (fun bs w _ => small_calls10 n hn w) ?_
    refine next_of 1000 ?_
    simp (maxSteps := 4000000) (disch := omega) only [go_sem, Nat.reduceBEq, Nat.reduceAdd, Nat.reduceMul, Nat.reduceSub, Nat.reduceLT, Nat.reduceLeDiff, Int.reduceToNat, Int.reduceLT, Int.reduceLE, Int.reduceAdd, Int.reduceMul, Int.reduceSub, Int.reduceNeg, Int.reduceDiv, Int.reduceMod, Nat.reduceBNe, Nat.reduceGT, Int.reduceBEq, Int.reduceBNe, Int.reduceGT, Nat.reduceDiv, Nat.reduceMod, Nat.reducePow, Int.reducePow, gt_iff_lt, ge_iff_le, List.reduceReplicate, ↓reduceIte]
    repeat (with_reducible refine And.intro (by first | omega | assumption | (constructor <;> assumption) | (simp; done) | (simp; omega) | (simp [*]; done) | ((repeat' refine And.intro ?_ ?_) <;> first | omega | assumption | (refine SlOk.so (n := ?_) ?_ ?_; rotate_left; assumption; omega) | (simp; done) | fail) | fail) ?_)
    intro bs; simp [real]
  have h74 : ∀ w, Calls Tryd.prog 74 #[.int .i64 n] w (Ret (.string (digs n)) w) := by
    intro w
    refine pure_calls [.int .i64 n] Tryd.func74 rfl in74 (by simp [Tryd.f74]) (by simp [closeds, closed]) ?_
    refine next_of 1000 ?_
    simp (maxSteps := 4000000) (disch := omega) only [go_sem, Nat.reduceBEq, Nat.reduceAdd, Nat.reduceMul, Nat.reduceSub, Nat.reduceLT, Nat.reduceLeDiff, Int.reduceToNat, Int.reduceLT, Int.reduceLE, Int.reduceAdd, Int.reduceMul, Int.reduceSub, Int.reduceNeg, Int.reduceDiv, Int.reduceMod, Nat.reduceBNe, Nat.reduceGT, Int.reduceBEq, Int.reduceBNe, Int.reduceGT, Nat.reduceDiv, Nat.reduceMod, Nat.reducePow, Int.reducePow, gt_iff_lt, ge_iff_le, List.reduceReplicate, ↓reduceIte, Tryd.f74]
    repeat (with_reducible refine And.intro (by first | omega | assumption | (constructor <;> assumption) | (simp; done) | (simp; omega) | (simp [*]; done) | ((repeat' refine And.intro ?_ ?_) <;> first | omega | assumption | (refine SlOk.so (n := ?_) ?_ ?_; rotate_left; assumption; omega) | (simp; done) | fail) | fail) ?_)
    refine callS_pure (.str (digs n)) en81 (by simp [closed]) (fun bs w _ => h81 w) ?_
    refine next_of 1000 ?_
    simp (maxSteps := 4000000) (disch := omega) only [go_sem, Nat.reduceBEq, Nat.reduceAdd, Nat.reduceMul, Nat.reduceSub, Nat.reduceLT, Nat.reduceLeDiff, Int.reduceToNat, Int.reduceLT, Int.reduceLE, Int.reduceAdd, Int.reduceMul, Int.reduceSub, Int.reduceNeg, Int.reduceDiv, Int.reduceMod, Nat.reduceBNe, Nat.reduceGT, Int.reduceBEq, Int.reduceBNe, Int.reduceGT, Nat.reduceDiv, Nat.reduceMod, Nat.reducePow, Int.reducePow, gt_iff_lt, ge_iff_le, List.reduceReplicate, ↓reduceIte]
    repeat (with_reducible refine And.intro (by first | omega | assumption | (constructor <;> assumption) | (simp; done) | (simp; omega) | (simp [*]; done) | ((repeat' refine And.intro ?_ ?_) <;> first | omega | assumption | (refine SlOk.so (n := ?_) ?_ ?_; rotate_left; assumption; omega) | (simp; done) | fail) | fail) ?_)
    intro bs; simp [real]
  refine pure_calls [.int .i64 n] Tryd.func57 rfl in57 (by simp [Tryd.f57]) (by simp [closeds, closed]) ?_
  refine next_of 1000 ?_
  simp (maxSteps := 4000000) (disch := omega) only [go_sem, Nat.reduceBEq, Nat.reduceAdd, Nat.reduceMul, Nat.reduceSub, Nat.reduceLT, Nat.reduceLeDiff, Int.reduceToNat, Int.reduceLT, Int.reduceLE, Int.reduceAdd, Int.reduceMul, Int.reduceSub, Int.reduceNeg, Int.reduceDiv, Int.reduceMod, Nat.reduceBNe, Nat.reduceGT, Int.reduceBEq, Int.reduceBNe, Int.reduceGT, Nat.reduceDiv, Nat.reduceMod, Nat.reducePow, Int.reducePow, gt_iff_lt, ge_iff_le, List.reduceReplicate, ↓reduceIte, Tryd.f57]
  repeat (with_reducible refine And.intro (by first | omega | assumption | (constructor <;> assumption) | (simp; done) | (simp; omega) | (simp [*]; done) | ((repeat' refine And.intro ?_ ?_) <;> first | omega | assumption | (refine SlOk.so (n := ?_) ?_ ?_; rotate_left; assumption; omega) | (simp; done) | fail) | fail) ?_)
  refine callS_pure (.str (digs n)) en74 (by simp [closed]) (fun bs w _ => h74 w) ?_
  refine next_of 1000 ?_
  simp (maxSteps := 4000000) (disch := omega) only [go_sem, Nat.reduceBEq, Nat.reduceAdd, Nat.reduceMul, Nat.reduceSub, Nat.reduceLT, Nat.reduceLeDiff, Int.reduceToNat, Int.reduceLT, Int.reduceLE, Int.reduceAdd, Int.reduceMul, Int.reduceSub, Int.reduceNeg, Int.reduceDiv, Int.reduceMod, Nat.reduceBNe, Nat.reduceGT, Int.reduceBEq, Int.reduceBNe, Int.reduceGT, Nat.reduceDiv, Nat.reduceMod, Nat.reducePow, Int.reducePow, gt_iff_lt, ge_iff_le, List.reduceReplicate, ↓reduceIte]
  repeat (with_reducible refine And.intro (by first | omega | assumption | (constructor <;> assumption) | (simp; done) | (simp; omega) | (simp [*]; done) | ((repeat' refine And.intro ?_ ?_) <;> first | omega | assumption | (refine SlOk.so (n := ?_) ?_ ?_; rotate_left; assumption; omega) | (simp; done) | fail) | fail) ?_)
  intro bs; simp [real]
end Go.Proofs.YthknokcfmpahcaaDoor
