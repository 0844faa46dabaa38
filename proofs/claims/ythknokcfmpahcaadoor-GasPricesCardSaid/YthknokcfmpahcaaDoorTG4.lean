/- Part of a proof over the seat YthknokcfmpahcaaDoor. -/
import Derived.Test.YthknokcfmpahcaaDoorTG1
import Derived.Test.YthknokcfmpahcaaDoorEng3
namespace Go.Proofs.YthknokcfmpahcaaDoor
open Go Go.Ew
set_option maxRecDepth 100000
set_option linter.unusedSimpArgs false
set_option linter.unusedVariables false
set_option maxHeartbeats 1000000
theorem in27 : codeIn Tryd.f27.ntmps (Tryd.f27.body.getD .skip) = true := by kernel_rfl
theorem in66 : codeIn Tryd.f66.ntmps (Tryd.f66.body.getD .skip) = true := by kernel_rfl
theorem in29 : codeIn Tryd.f29.ntmps (Tryd.f29.body.getD .skip) = true := by kernel_rfl
theorem in67 : codeIn Tryd.f67.ntmps (Tryd.f67.body.getD .skip) = true := by kernel_rfl
theorem in24 : codeIn Tryd.f24.ntmps (Tryd.f24.body.getD .skip) = true := by kernel_rfl
/-- The instructions of code c from place at on. -/
def codesF (c : List Int) : Nat → Nat → List (Nat × Int)
  | 0, _ => []
  | f + 1, at_ => if at_ < c.length then (at_, c.getD at_ 0) :: codesF c f (at_ + 1 + (if 95 < c.getD at_ 0 ∧ c.getD at_ 0 ≤ 127 then (c.getD at_ 0 - 95).toNat else 0)) else []
def codes (c : List Int) (at_ : Nat) : List (Nat × Int) := codesF c (c.length - at_) at_
def encC (p : Nat × Int) : Array Value := #[.int .i64 p.1, .int .u8 p.2]
/-- Codes$1 runs over the instructions. -/
theorem codes1_iter (W : World) (c : List Int) (p b off cap : Nat) (ad : Option Addr) (had : 0 < c.length → ad = some ⟨b, off, none⟩) (hp : W.cell? ⟨p, 0, none⟩ = some (.slice ad c.length cap)) (hc : ∀ i, i < c.length → W.cell? ⟨b, off + i, none⟩ = some (.int .u8 (c.getD i 0)))
    (hr : ∀ i, i < c.length → 0 ≤ c.getD i 0 ∧ c.getD i 0 < 256) (hl : c.length < 4611686018427387904) (Rd : Nat → Prop) (hRp : Rd p) (hRb : 0 < c.length → Rd b) (hRW : ∀ b, Rd b → b < W.heap.size) :
    IterOk Tryd.prog 66 (fun y => (reals (fun _ => 0) [.raw y, .raw (.pointer (some ⟨p, 0, none⟩))]).toArray) W Rd (codes c 0).length encC (fun k a _ => (codes c 0)[k]? = some a) := by
  refine iter_of (fun y => [.raw y, .raw (.pointer (some ⟨p, 0, none⟩))]) Tryd.func66 rfl in66 (fun y => by simp [Tryd.f66]) (fun y => by simp [closeds, closed]) ?_
  intro l J Jx hJ hJx hR h0 hB
  refine next_of 1000 ?_
  simp (disch := omega) only [go_sem, Tryd.f66]
  refine loopS (S := Nat × Nat × Base) (fun s => ItB W Rd s.2.2 ∧ J s.1 s.2.2.D s.2.2.w ∧ s.1 ≤ (codes c 0).length ∧ s.2.1 < 4611686018427388000 ∧ ∃ f, c.length ≤ s.2.1 + f ∧ (codes c 0).drop s.1 = codesF c f s.2.1)
    (fun s => ⟨[(3, .int .i64 s.2.1), (0, .raw (.func (.yield l) #[] #[])), (1, .raw (.pointer (some ⟨p, 0, none⟩)))], 0, [], s.2.2, []⟩) (fun s => c.length + 100 - s.2.1) (0, 0, base W) ⟨hB, h0, Nat.zero_le _, by simp, c.length, by simp, rfl⟩ ?_ ?_
  · exact (weak_of (by simp [wσ, go_sem, closed, closeds]) (by simp [whs, go_sem, EObj.closed, closed, closeds]) (by simp [*]) rfl rfl (by simp))
  rintro ⟨k, at', B⟩ ⟨hI, hJk, hk, hat, f, hf, hdrop⟩
  simp only at hI hJk hk hat hf hdrop
  have hBp : B.w.cell? ⟨p, 0, none⟩ = some (.slice ad c.length cap) := by rw [World.cell?_of_block (hI.rd p hRp)]; exact hp
  have hDp : B.D p := hI.D p (hRW p hRp)
  refine next_of 1000 ?_
  simp (maxSteps := 4000000) (disch := omega) only [go_sem, Nat.reduceBEq, Nat.reduceAdd, Nat.reduceMul, Nat.reduceSub, Nat.reduceLT, Nat.reduceLeDiff, Int.reduceToNat, Int.reduceLT, Int.reduceLE, Int.reduceAdd, Int.reduceMul, Int.reduceSub, Int.reduceNeg, Int.reduceDiv, Int.reduceMod, Nat.reduceBNe, Nat.reduceGT, Int.reduceBEq, Int.reduceBNe, Int.reduceGT, Nat.reduceDiv, Nat.reduceMod, Nat.reducePow, Int.reducePow, gt_iff_lt, ge_iff_le, List.reduceReplicate, ↓reduceIte, hBp, rawCell, Option.getD_some]
  repeat (with_reducible refine And.intro (by first | omega | assumption | (constructor <;> assumption) | (simp; done) | (simp; omega) | (simp [*]; done) | ((repeat' refine And.intro ?_ ?_) <;> first | omega | assumption | (refine SlOk.so (n := ?_) ?_ ?_; rotate_left; assumption; omega) | (simp; done) | fail) | fail) ?_)
  refine condS_split (fun h => ?_) (fun h => ?_)
  all_goals (try simp only [bne_iff_ne, ne_eq, beq_iff_eq, decide_eq_true_eq, decide_eq_false_iff_not, Bool.not_eq_true, Bool.not_eq_false, Bool.not_true, Bool.not_false, bne_eq_false_iff_eq, beq_eq_false_iff_ne, Bool.and_eq_true, Bool.or_eq_true, Bool.and_eq_false_imp, Bool.or_eq_false_iff, Bool.not_eq_true', Bool.not_eq_false', Int.not_lt, Int.not_le] at h)
  · have hat' : at' < c.length := by omega
    obtain rfl := had (by omega)
    have hRb := hRb (by omega)
    have hDb : B.D b := hI.D b (hRW b hRb)
    obtain ⟨f, rfl⟩ : ∃ f', f = f' + 1 := ⟨f - 1, by omega⟩
    have hcell : B.w.cell? ⟨b, off + at', none⟩ = some (.int .u8 (c.getD at' 0)) := by rw [World.cell?_of_block (hI.rd b hRb)]; exact hc at' hat'
    obtain ⟨r0, r1⟩ := hr at' hat'
    simp only [codesF, hat', if_true] at hdrop
    have hget : (codes c 0)[k]? = some (at', c.getD at' 0) := by
      have := congrArg (fun l => l[0]?) hdrop; simpa using this
    have hk' : k < (codes c 0).length := by
      rcases Nat.lt_or_ge k (codes c 0).length with h | h
      · exact h
      · rw [List.getElem?_eq_none h] at hget; simp at hget
    have hdrop' : (codes c 0).drop (k + 1) = codesF c f (at' + 1 + (if 95 < c.getD at' 0 ∧ c.getD at' 0 ≤ 127 then (c.getD at' 0 - 95).toNat else 0)) := by
      have := congrArg (fun l => l.drop 1) hdrop; simpa using this
    generalize c.getD at' 0 = op at *
    simp (maxSteps := 4000000) (disch := omega) only [go_sem, Nat.reduceBEq, Nat.reduceAdd, Nat.reduceMul, Nat.reduceSub, Nat.reduceLT, Nat.reduceLeDiff, Int.reduceToNat, Int.reduceLT, Int.reduceLE, Int.reduceAdd, Int.reduceMul, Int.reduceSub, Int.reduceNeg, Int.reduceDiv, Int.reduceMod, Nat.reduceBNe, Nat.reduceGT, Int.reduceBEq, Int.reduceBNe, Int.reduceGT, Nat.reduceDiv, Nat.reduceMod, Nat.reducePow, Int.reducePow, gt_iff_lt, ge_iff_le, List.reduceReplicate, ↓reduceIte, hBp, hcell, rawCell, Option.getD_some, Int.toNat_natCast]
    repeat (with_reducible refine And.intro (by first | omega | assumption | (constructor <;> assumption) | (simp; done) | (simp; omega) | (simp [*]; done) | ((repeat' refine And.intro ?_ ?_) <;> first | omega | assumption | (refine SlOk.so (n := ?_) ?_ ?_; rotate_left; assumption; omega) | (simp; done) | fail) | fail) ?_)
    refine yieldS (vs := [.int .i64 at', .int .u8 op]) (at', op) rfl rfl hR hJ rfl rfl (fun bs => rfl) hk' (fun w _ => hget) hJk hI hRW (fun B' hJ' hI' => next_of 1000 ?_) (fun B' hJ' hI' => next_of 1000 ?_)
    · simp (maxSteps := 4000000) (disch := omega) only [go_sem, Nat.reduceBEq, Nat.reduceAdd, Nat.reduceMul, Nat.reduceSub, Nat.reduceLT, Nat.reduceLeDiff, Int.reduceToNat, Int.reduceLT, Int.reduceLE, Int.reduceAdd, Int.reduceMul, Int.reduceSub, Int.reduceNeg, Int.reduceDiv, Int.reduceMod, Nat.reduceBNe, Nat.reduceGT, Int.reduceBEq, Int.reduceBNe, Int.reduceGT, Nat.reduceDiv, Nat.reduceMod, Nat.reducePow, Int.reducePow, gt_iff_lt, ge_iff_le, List.reduceReplicate, ↓reduceIte]
      repeat (with_reducible refine And.intro (by first | omega | assumption | (constructor <;> assumption) | (simp; done) | (simp; omega) | (simp [*]; done) | ((repeat' refine And.intro ?_ ?_) <;> first | omega | assumption | (refine SlOk.so (n := ?_) ?_ ?_; rotate_left; assumption; omega) | (simp; done) | fail) | fail) ?_)
      refine testS_split (fun h1 => ?_) (fun h1 => ?_)
      all_goals (try simp only [bne_iff_ne, ne_eq, beq_iff_eq, decide_eq_true_eq, decide_eq_false_iff_not, Bool.not_eq_true, Bool.not_eq_false, Bool.not_true, Bool.not_false, bne_eq_false_iff_eq, beq_eq_false_iff_ne, Bool.and_eq_true, Bool.or_eq_true, Bool.and_eq_false_imp, Bool.or_eq_false_iff, Bool.not_eq_true', Bool.not_eq_false', Int.not_lt, Int.not_le] at h1)
      · simp (maxSteps := 4000000) (disch := omega) only [go_sem, Nat.reduceBEq, Nat.reduceAdd, Nat.reduceMul, Nat.reduceSub, Nat.reduceLT, Nat.reduceLeDiff, Int.reduceToNat, Int.reduceLT, Int.reduceLE, Int.reduceAdd, Int.reduceMul, Int.reduceSub, Int.reduceNeg, Int.reduceDiv, Int.reduceMod, Nat.reduceBNe, Nat.reduceGT, Int.reduceBEq, Int.reduceBNe, Int.reduceGT, Nat.reduceDiv, Nat.reduceMod, Nat.reducePow, Int.reducePow, gt_iff_lt, ge_iff_le, List.reduceReplicate, ↓reduceIte]
        repeat (with_reducible refine And.intro (by first | omega | assumption | (constructor <;> assumption) | (simp; done) | (simp; omega) | (simp [*]; done) | ((repeat' refine And.intro ?_ ?_) <;> first | omega | assumption | (refine SlOk.so (n := ?_) ?_ ?_; rotate_left; assumption; omega) | (simp; done) | fail) | fail) ?_)
        refine condS_split (fun h2 => ?_) (fun h2 => ?_)
        all_goals (try simp only [bne_iff_ne, ne_eq, beq_iff_eq, decide_eq_true_eq, decide_eq_false_iff_not, Bool.not_eq_true, Bool.not_eq_false, Bool.not_true, Bool.not_false, bne_eq_false_iff_eq, beq_eq_false_iff_ne, Bool.and_eq_true, Bool.or_eq_true, Bool.and_eq_false_imp, Bool.or_eq_false_iff, Bool.not_eq_true', Bool.not_eq_false', Int.not_lt, Int.not_le] at h2)
        · simp (maxSteps := 4000000) (disch := omega) only [go_sem, Nat.reduceBEq, Nat.reduceAdd, Nat.reduceMul, Nat.reduceSub, Nat.reduceLT, Nat.reduceLeDiff, Int.reduceToNat, Int.reduceLT, Int.reduceLE, Int.reduceAdd, Int.reduceMul, Int.reduceSub, Int.reduceNeg, Int.reduceDiv, Int.reduceMod, Nat.reduceBNe, Nat.reduceGT, Int.reduceBEq, Int.reduceBNe, Int.reduceGT, Nat.reduceDiv, Nat.reduceMod, Nat.reducePow, Int.reducePow, gt_iff_lt, ge_iff_le, List.reduceReplicate, ↓reduceIte]
          repeat (with_reducible refine And.intro (by first | omega | assumption | (constructor <;> assumption) | (simp; done) | (simp; omega) | (simp [*]; done) | ((repeat' refine And.intro ?_ ?_) <;> first | omega | assumption | (refine SlOk.so (n := ?_) ?_ ?_; rotate_left; assumption; omega) | (simp; done) | fail) | fail) ?_)
          rw [if_pos (by omega)] at hdrop'
          refine ⟨(k + 1, at' + 1 + (op - 95).toNat, B'), ⟨hI', hJ', hk', ?_, f, ?_, hdrop'⟩, (weak_of (by simp [wσ, go_sem, closed]; omega) (by simp [whs]) (by simp) rfl rfl (by simp)), ?_⟩
          all_goals first | (simp only; omega) | skip
        · simp (maxSteps := 4000000) (disch := omega) only [go_sem, Nat.reduceBEq, Nat.reduceAdd, Nat.reduceMul, Nat.reduceSub, Nat.reduceLT, Nat.reduceLeDiff, Int.reduceToNat, Int.reduceLT, Int.reduceLE, Int.reduceAdd, Int.reduceMul, Int.reduceSub, Int.reduceNeg, Int.reduceDiv, Int.reduceMod, Nat.reduceBNe, Nat.reduceGT, Int.reduceBEq, Int.reduceBNe, Int.reduceGT, Nat.reduceDiv, Nat.reduceMod, Nat.reducePow, Int.reducePow, gt_iff_lt, ge_iff_le, List.reduceReplicate, ↓reduceIte]
          repeat (with_reducible refine And.intro (by first | omega | assumption | (constructor <;> assumption) | (simp; done) | (simp; omega) | (simp [*]; done) | ((repeat' refine And.intro ?_ ?_) <;> first | omega | assumption | (refine SlOk.so (n := ?_) ?_ ?_; rotate_left; assumption; omega) | (simp; done) | fail) | fail) ?_)
          rw [if_neg (by omega)] at hdrop'
          refine ⟨(k + 1, at' + 1, B'), ⟨hI', hJ', hk', ?_, f, ?_, hdrop'⟩, (weak_of (by simp [wσ, go_sem, closed, closeds]) (by simp [whs, go_sem, EObj.closed, closed, closeds]) (by simp [*]) rfl rfl (by simp)), ?_⟩
          all_goals first | (simp only; omega) | skip
      · simp (maxSteps := 4000000) (disch := omega) only [go_sem, Nat.reduceBEq, Nat.reduceAdd, Nat.reduceMul, Nat.reduceSub, Nat.reduceLT, Nat.reduceLeDiff, Int.reduceToNat, Int.reduceLT, Int.reduceLE, Int.reduceAdd, Int.reduceMul, Int.reduceSub, Int.reduceNeg, Int.reduceDiv, Int.reduceMod, Nat.reduceBNe, Nat.reduceGT, Int.reduceBEq, Int.reduceBNe, Int.reduceGT, Nat.reduceDiv, Nat.reduceMod, Nat.reducePow, Int.reducePow, gt_iff_lt, ge_iff_le, List.reduceReplicate, ↓reduceIte]
        repeat (with_reducible refine And.intro (by first | omega | assumption | (constructor <;> assumption) | (simp; done) | (simp; omega) | (simp [*]; done) | ((repeat' refine And.intro ?_ ?_) <;> first | omega | assumption | (refine SlOk.so (n := ?_) ?_ ?_; rotate_left; assumption; omega) | (simp; done) | fail) | fail) ?_)
        rw [if_neg (by omega)] at hdrop'
        refine ⟨(k + 1, at' + 1, B'), ⟨hI', hJ', hk', ?_, f, ?_, hdrop'⟩, (weak_of (by simp [wσ, go_sem, closed, closeds]) (by simp [whs, go_sem, EObj.closed, closed, closeds]) (by simp [*]) rfl rfl (by simp)), ?_⟩
        all_goals first | (simp only; omega) | skip
    · simp (maxSteps := 4000000) (disch := omega) only [go_sem, Nat.reduceBEq, Nat.reduceAdd, Nat.reduceMul, Nat.reduceSub, Nat.reduceLT, Nat.reduceLeDiff, Int.reduceToNat, Int.reduceLT, Int.reduceLE, Int.reduceAdd, Int.reduceMul, Int.reduceSub, Int.reduceNeg, Int.reduceDiv, Int.reduceMod, Nat.reduceBNe, Nat.reduceGT, Int.reduceBEq, Int.reduceBNe, Int.reduceGT, Nat.reduceDiv, Nat.reduceMod, Nat.reducePow, Int.reducePow, gt_iff_lt, ge_iff_le, List.reduceReplicate, ↓reduceIte]
      repeat (with_reducible refine And.intro (by first | omega | assumption | (constructor <;> assumption) | (simp; done) | (simp; omega) | (simp [*]; done) | ((repeat' refine And.intro ?_ ?_) <;> first | omega | assumption | (refine SlOk.so (n := ?_) ?_ ?_; rotate_left; assumption; omega) | (simp; done) | fail) | fail) ?_)
      exact ⟨hI', .inr ⟨k, hJ'⟩⟩
  · refine next_of 1000 ?_
    simp (maxSteps := 4000000) (disch := omega) only [go_sem, Nat.reduceBEq, Nat.reduceAdd, Nat.reduceMul, Nat.reduceSub, Nat.reduceLT, Nat.reduceLeDiff, Int.reduceToNat, Int.reduceLT, Int.reduceLE, Int.reduceAdd, Int.reduceMul, Int.reduceSub, Int.reduceNeg, Int.reduceDiv, Int.reduceMod, Nat.reduceBNe, Nat.reduceGT, Int.reduceBEq, Int.reduceBNe, Int.reduceGT, Nat.reduceDiv, Nat.reduceMod, Nat.reducePow, Int.reducePow, gt_iff_lt, ge_iff_le, List.reduceReplicate, ↓reduceIte]
    repeat (with_reducible refine And.intro (by first | omega | assumption | (constructor <;> assumption) | (simp; done) | (simp; omega) | (simp [*]; done) | ((repeat' refine And.intro ?_ ?_) <;> first | omega | assumption | (refine SlOk.so (n := ?_) ?_ ?_; rotate_left; assumption; omega) | (simp; done) | fail) | fail) ?_)
    have : k = (codes c 0).length := by
      have h2 : codesF c f at' = [] := by
        cases f with
        | zero => rfl
        | succ f => simp only [codesF]; rw [if_neg (by omega)]
      rw [h2, List.drop_eq_nil_iff] at hdrop; omega
    subst this
    exact ⟨hI, .inl hJk⟩
/-- What Codes hands back: a closure over a box with the code. -/
theorem codes_calls (a : Option Addr) (n m : Nat) (w : World) : Calls Tryd.prog 27 #[.slice a n m] w (RetN (.fn (.func 66) [] [.ptr 0 0]) [.cells [.raw (.slice a n m)] 41 (0, 0)] w) := by
  refine new_calls _ _ [.raw (.slice a n m)] Tryd.func27 rfl in27 (by simp [Tryd.f27]) (by simp [closeds, closed]) ?_
  refine next_of 1000 ?_
  simp (maxSteps := 4000000) (disch := omega) only [go_sem, Nat.reduceBEq, Nat.reduceAdd, Nat.reduceMul, Nat.reduceSub, Nat.reduceLT, Nat.reduceLeDiff, Int.reduceToNat, Int.reduceLT, Int.reduceLE, Int.reduceAdd, Int.reduceMul, Int.reduceSub, Int.reduceNeg, Int.reduceDiv, Int.reduceMod, Nat.reduceBNe, Nat.reduceGT, Int.reduceBEq, Int.reduceBNe, Int.reduceGT, Nat.reduceDiv, Nat.reduceMod, Nat.reducePow, Int.reducePow, gt_iff_lt, ge_iff_le, List.reduceReplicate, ↓reduceIte, Tryd.f27, Value.oneCell']
  repeat (with_reducible refine And.intro (by first | omega | assumption | (constructor <;> assumption) | (simp; done) | (simp; omega) | (simp [*]; done) | ((repeat' refine And.intro ?_ ?_) <;> first | omega | assumption | (refine SlOk.so (n := ?_) ?_ ?_; rotate_left; assumption; omega) | (simp; done) | fail) | fail) ?_)
  rintro (_ | i) o h <;> simp_all [hget]
theorem dests_calls (a : Option Addr) (n m : Nat) (w : World) : Calls Tryd.prog 29 #[.slice a n m] w (RetN (.fn (.func 67) [] [.ptr 0 0]) [.cells [.raw (.slice a n m)] 41 (0, 0)] w) := by
  refine new_calls _ _ [.raw (.slice a n m)] Tryd.func29 rfl in29 (by simp [Tryd.f29]) (by simp [closeds, closed]) ?_
  refine next_of 1000 ?_
  simp (maxSteps := 4000000) (disch := omega) only [go_sem, Nat.reduceBEq, Nat.reduceAdd, Nat.reduceMul, Nat.reduceSub, Nat.reduceLT, Nat.reduceLeDiff, Int.reduceToNat, Int.reduceLT, Int.reduceLE, Int.reduceAdd, Int.reduceMul, Int.reduceSub, Int.reduceNeg, Int.reduceDiv, Int.reduceMod, Nat.reduceBNe, Nat.reduceGT, Int.reduceBEq, Int.reduceBNe, Int.reduceGT, Nat.reduceDiv, Nat.reduceMod, Nat.reducePow, Int.reducePow, gt_iff_lt, ge_iff_le, List.reduceReplicate, ↓reduceIte, Tryd.f29, Value.oneCell']
  repeat (with_reducible refine And.intro (by first | omega | assumption | (constructor <;> assumption) | (simp; done) | (simp; omega) | (simp [*]; done) | ((repeat' refine And.intro ?_ ?_) <;> first | omega | assumption | (refine SlOk.so (n := ?_) ?_ ?_; rotate_left; assumption; omega) | (simp; done) | fail) | fail) ?_)
  rintro (_ | i) o h <;> simp_all [hget]
/-- Where one may jump to. -/
def dests (c : List Int) : List Nat := ((codes c 0).filter (fun p => p.2 == 91)).map (·.1)
def encD (p : Nat) : Array Value := #[.int .i64 p]
theorem dests_get (c : List Int) (k at' : Nat) (h : (codes c 0)[k]? = some (at', 91)) : (dests c)[(((codes c 0).take k).filter (fun p => p.2 == 91)).length]? = some at' := by
  have h2 : codes c 0 = (codes c 0).take k ++ (at', 91) :: (codes c 0).drop (k + 1) := by
    obtain ⟨hk, hg⟩ := List.getElem?_eq_some_iff.1 h
    rw [← hg, ← List.drop_eq_getElem_cons hk, List.take_append_drop]
  have h3 : dests c = (((codes c 0).take k).filter (fun p => p.2 == 91)).map (·.1) ++ at' :: (((codes c 0).drop (k + 1)).filter (fun p => p.2 == 91)).map (·.1) := by
    unfold dests
    conv => lhs; rw [h2]
    simp
  rw [h3, List.getElem?_append_right (by simp)]
  simp
/-- Dests$1 runs over the places. -/
theorem dests1_iter (W : World) (c : List Int) (p b off cap : Nat) (ad : Option Addr) (had : 0 < c.length → ad = some ⟨b, off, none⟩) (hp : W.cell? ⟨p, 0, none⟩ = some (.slice ad c.length cap)) (hc : ∀ i, i < c.length → W.cell? ⟨b, off + i, none⟩ = some (.int .u8 (c.getD i 0)))
    (hr : ∀ i, i < c.length → 0 ≤ c.getD i 0 ∧ c.getD i 0 < 256) (hl : c.length < 4611686018427387904) (Rd : Nat → Prop) (hRp : Rd p) (hRb : 0 < c.length → Rd b) (hRW : ∀ b, Rd b → b < W.heap.size) :
    IterOk Tryd.prog 67 (fun y => (reals (fun _ => 0) [.raw y, .raw (.pointer (some ⟨p, 0, none⟩))]).toArray) W Rd (dests c).length encD (fun k a _ => (dests c)[k]? = some a) := by
  refine iter_of (fun y => [.raw y, .raw (.pointer (some ⟨p, 0, none⟩))]) Tryd.func67 rfl in67 (fun y => by simp [Tryd.f67]) (fun y => by simp [closeds, closed]) ?_
  intro l J Jx hJ hJx hR h0 hB
  have hDp : p < W.heap.size := hRW p hRp
  refine next_of 1000 ?_
  simp (maxSteps := 4000000) (disch := omega) only [go_sem, Nat.reduceBEq, Nat.reduceAdd, Nat.reduceMul, Nat.reduceSub, Nat.reduceLT, Nat.reduceLeDiff, Int.reduceToNat, Int.reduceLT, Int.reduceLE, Int.reduceAdd, Int.reduceMul, Int.reduceSub, Int.reduceNeg, Int.reduceDiv, Int.reduceMod, Nat.reduceBNe, Nat.reduceGT, Int.reduceBEq, Int.reduceBNe, Int.reduceGT, Nat.reduceDiv, Nat.reduceMod, Nat.reducePow, Int.reducePow, gt_iff_lt, ge_iff_le, List.reduceReplicate, ↓reduceIte, Tryd.f67, Value.oneCell', hp, rawCell, Option.getD_some]
  repeat (with_reducible refine And.intro (by first | omega | assumption | (constructor <;> assumption) | (simp; done) | (simp; omega) | (simp [*]; done) | ((repeat' refine And.intro ?_ ?_) <;> first | omega | assumption | (refine SlOk.so (n := ?_) ?_ ?_; rotate_left; assumption; omega) | (simp; done) | fail) | fail) ?_)
  refine callS_new (.fn (.func 66) [] [.ptr 0 0]) [.cells [.raw (.slice ad c.length cap)] 41 (0, 0)] en27 (by simp [closed, closeds]) (by simp [EObj.closed, closed, closeds]) (fun bs w _ => codes_calls _ _ _ w) ?_
  refine next_of 1000 ?_
  simp (maxSteps := 4000000) (disch := omega) only [go_sem, Nat.reduceBEq, Nat.reduceAdd, Nat.reduceMul, Nat.reduceSub, Nat.reduceLT, Nat.reduceLeDiff, Int.reduceToNat, Int.reduceLT, Int.reduceLE, Int.reduceAdd, Int.reduceMul, Int.reduceSub, Int.reduceNeg, Int.reduceDiv, Int.reduceMod, Nat.reduceBNe, Nat.reduceGT, Int.reduceBEq, Int.reduceBNe, Int.reduceGT, Nat.reduceDiv, Nat.reduceMod, Nat.reducePow, Int.reducePow, gt_iff_lt, ge_iff_le, List.reduceReplicate, ↓reduceIte]
  repeat (with_reducible refine And.intro (by first | omega | assumption | (constructor <;> assumption) | (simp; done) | (simp; omega) | (simp [*]; done) | ((repeat' refine And.intro ?_ ?_) <;> first | omega | assumption | (refine SlOk.so (n := ?_) ?_ ?_; rotate_left; assumption; omega) | (simp; done) | fail) | fail) ?_)
  have hfl : ∀ k a, (codes c 0)[k]? = some a → (((codes c 0).take (k + 1)).filter (fun p => p.2 == 91)) = ((codes c 0).take k).filter (fun p => p.2 == 91) ++ (if a.2 = 91 then [a] else []) := by
    intro k a h
    rw [List.take_add_one, List.filter_append, h]
    by_cases e : a.2 = 91 <;> simp [e]
  refine rangeS rfl rfl en66 (by simp) ⟨by kernel_rfl, by kernel_rfl⟩ (S := Nat × Base)
    (fun k s => ItB W Rd s.2 ∧ J s.1 s.2.D s.2.w ∧ s.1 = (((codes c 0).take k).filter (fun p => p.2 == 91)).length)
    (fun cd s => cd = .ret ∧ ItB W Rd s.2 ∧ ∃ j, Jx j s.2.D s.2.w) (fun _ => 4)
    (fun _ => [(1, some (.cells [.raw (.slice ad c.length cap)] 41 (0, 0))), (0, some (.cells [.raw (.func (.yield l) #[] #[])] 87 (0, 0)))])
    (fun s => s.2) (0, base W) ⟨hB, h0, by simp⟩ (weak_of (by simp [wσ, go_sem, closed, closeds]) (by simp [whs, go_sem, EObj.closed, closed, closeds]) (by simp [*]) rfl rfl (by simp)) (fun s => by simp [hget]) ⟨fun _ _ _ => Nat.le_refl _, fun _ _ _ => Nat.le_refl _⟩ [1] Rd (by simp [hget])
    (fun q hq => ⟨hB.D q (hRW q hq), fun k s hs => ⟨hs.1.D q (hRW q hq), hs.1.rd q hq⟩, fun k s hs => ⟨hs.2.1.D q (hRW q hq), hs.2.1.rd q hq⟩⟩)
    (len := (codes c 0).length) (enc := encC) (El := fun k a _ => (codes c 0)[k]? = some a) (fun p => [.int .i64 p.1, .int .u8 p.2]) (fun p bs => rfl) (fun p => by simp [closeds, closed]) (fun p => rfl) ?_ (fun k a => (codes c 0)[k]? = some a) (fun k a w h => h) ?_ ?_ ?_ ?_ (fun cd s h => .inl h.1)
  · intro bs w hH
    have hl1 := (hH.live 1 _ rfl).2
    have hfr : ∀ q, q < W.heap.size → q < w.heap.size ∧ w.heap[q]? = W.heap[q]? := fun q hq => hH.frame q hq
    refine codes1_iter w c (bs 1) b off cap ad had ?_ ?_ hr hl _ (.inl ⟨1, by simp, rfl⟩) (fun h0 => .inr (hRb h0)) ?_
    · simp [World.cell?, hl1, EObj.real, reals, real]
    · intro i hi; rw [World.cell?_of_block (hfr b (hRW b (hRb (by omega)))).2]; exact hc i hi
    · rintro q (⟨i, hi, rfl⟩ | hq)
      · simp only [List.mem_singleton] at hi; subst hi; exact heap_lt hl1
      · exact (hfr q (hRW q hq)).1
  · rintro k ⟨j, B⟩ ⟨at', op⟩ l' olds e E r r' ⟨hI, hJj, hj⟩ hk hel holds
    simp only at hI hJj hj
    have hfk := hfl k _ hel
    refine next_of 1000 ?_
    simp (maxSteps := 4000000) (disch := omega) only [go_sem, Nat.reduceBEq, Nat.reduceAdd, Nat.reduceMul, Nat.reduceSub, Nat.reduceLT, Nat.reduceLeDiff, Int.reduceToNat, Int.reduceLT, Int.reduceLE, Int.reduceAdd, Int.reduceMul, Int.reduceSub, Int.reduceNeg, Int.reduceDiv, Int.reduceMod, Nat.reduceBNe, Nat.reduceGT, Int.reduceBEq, Int.reduceBNe, Int.reduceGT, Nat.reduceDiv, Nat.reduceMod, Nat.reducePow, Int.reducePow, gt_iff_lt, ge_iff_le, List.reduceReplicate, ↓reduceIte]
    repeat (with_reducible refine And.intro (by first | omega | assumption | (constructor <;> assumption) | (simp; done) | (simp; omega) | (simp [*]; done) | ((repeat' refine And.intro ?_ ?_) <;> first | omega | assumption | (refine SlOk.so (n := ?_) ?_ ?_; rotate_left; assumption; omega) | (simp; done) | fail) | fail) ?_)
    refine next_of 1000 ?_
    simp (maxSteps := 4000000) (disch := omega) only [go_sem, Nat.reduceBEq, Nat.reduceAdd, Nat.reduceMul, Nat.reduceSub, Nat.reduceLT, Nat.reduceLeDiff, Int.reduceToNat, Int.reduceLT, Int.reduceLE, Int.reduceAdd, Int.reduceMul, Int.reduceSub, Int.reduceNeg, Int.reduceDiv, Int.reduceMod, Nat.reduceBNe, Nat.reduceGT, Int.reduceBEq, Int.reduceBNe, Int.reduceGT, Nat.reduceDiv, Nat.reduceMod, Nat.reducePow, Int.reducePow, gt_iff_lt, ge_iff_le, List.reduceReplicate, ↓reduceIte]
    repeat (with_reducible refine And.intro (by first | omega | assumption | (constructor <;> assumption) | (simp; done) | (simp; omega) | (simp [*]; done) | ((repeat' refine And.intro ?_ ?_) <;> first | omega | assumption | (refine SlOk.so (n := ?_) ?_ ?_; rotate_left; assumption; omega) | (simp; done) | fail) | fail) ?_)
    have hst : ∀ q, q < W.heap.size → B.D q := hI.D
    refine testS_split (fun h1 => ?_) (fun h1 => ?_)
    all_goals (try simp only [bne_iff_ne, ne_eq, beq_iff_eq, decide_eq_true_eq, decide_eq_false_iff_not, Bool.not_eq_true, Bool.not_eq_false, Bool.not_true, Bool.not_false, bne_eq_false_iff_eq, beq_eq_false_iff_ne, Bool.and_eq_true, Bool.or_eq_true, Bool.and_eq_false_imp, Bool.or_eq_false_iff, Bool.not_eq_true', Bool.not_eq_false', Int.not_lt, Int.not_le] at h1)
    · subst h1
      have hdg := dests_get c k at' hel
      rw [← hj] at hdg
      have hjl : j < (dests c).length := by
        rcases Nat.lt_or_ge j (dests c).length with h | h
        · exact h
        · rw [List.getElem?_eq_none h] at hdg; simp at hdg
      simp only [if_true, List.append_eq] at hfk
      simp (maxSteps := 4000000) (disch := omega) only [go_sem, Nat.reduceBEq, Nat.reduceAdd, Nat.reduceMul, Nat.reduceSub, Nat.reduceLT, Nat.reduceLeDiff, Int.reduceToNat, Int.reduceLT, Int.reduceLE, Int.reduceAdd, Int.reduceMul, Int.reduceSub, Int.reduceNeg, Int.reduceDiv, Int.reduceMod, Nat.reduceBNe, Nat.reduceGT, Int.reduceBEq, Int.reduceBNe, Int.reduceGT, Nat.reduceDiv, Nat.reduceMod, Nat.reducePow, Int.reducePow, gt_iff_lt, ge_iff_le, List.reduceReplicate, ↓reduceIte]
      repeat (with_reducible refine And.intro (by first | omega | assumption | (constructor <;> assumption) | (simp; done) | (simp; omega) | (simp [*]; done) | ((repeat' refine And.intro ?_ ?_) <;> first | omega | assumption | (refine SlOk.so (n := ?_) ?_ ?_; rotate_left; assumption; omega) | (simp; done) | fail) | fail) ?_)
      refine yieldS (vs := [.int .i64 at']) at' rfl rfl hR hJ rfl rfl (fun bs => rfl) hjl (fun w _ => hdg) hJj hI hRW (fun B' hJ' hI' => next_of 1000 ?_) (fun B' hJ' hI' => next_of 1000 ?_)
      · simp (maxSteps := 4000000) (disch := omega) only [go_sem, Nat.reduceBEq, Nat.reduceAdd, Nat.reduceMul, Nat.reduceSub, Nat.reduceLT, Nat.reduceLeDiff, Int.reduceToNat, Int.reduceLT, Int.reduceLE, Int.reduceAdd, Int.reduceMul, Int.reduceSub, Int.reduceNeg, Int.reduceDiv, Int.reduceMod, Nat.reduceBNe, Nat.reduceGT, Int.reduceBEq, Int.reduceBNe, Int.reduceGT, Nat.reduceDiv, Nat.reduceMod, Nat.reducePow, Int.reducePow, gt_iff_lt, ge_iff_le, List.reduceReplicate, ↓reduceIte]
        repeat (with_reducible refine And.intro (by first | omega | assumption | (constructor <;> assumption) | (simp; done) | (simp; omega) | (simp [*]; done) | ((repeat' refine And.intro ?_ ?_) <;> first | omega | assumption | (refine SlOk.so (n := ?_) ?_ ?_; rotate_left; assumption; omega) | (simp; done) | fail) | fail) ?_)
        refine ⟨(j + 1, B'), ⟨hI', hJ', ?_⟩, (weak_of (by simp [wσ, go_sem, closed, closeds]) (by simp [whs, go_sem, EObj.closed, closed, closeds]) (by simp [*]) rfl rfl (by simp))⟩
        rw [hfk]; simp [hj]
      · simp (maxSteps := 4000000) (disch := omega) only [go_sem, Nat.reduceBEq, Nat.reduceAdd, Nat.reduceMul, Nat.reduceSub, Nat.reduceLT, Nat.reduceLeDiff, Int.reduceToNat, Int.reduceLT, Int.reduceLE, Int.reduceAdd, Int.reduceMul, Int.reduceSub, Int.reduceNeg, Int.reduceDiv, Int.reduceMod, Nat.reduceBNe, Nat.reduceGT, Int.reduceBEq, Int.reduceBNe, Int.reduceGT, Nat.reduceDiv, Nat.reduceMod, Nat.reducePow, Int.reducePow, gt_iff_lt, ge_iff_le, List.reduceReplicate, ↓reduceIte]
        repeat (with_reducible refine And.intro (by first | omega | assumption | (constructor <;> assumption) | (simp; done) | (simp; omega) | (simp [*]; done) | ((repeat' refine And.intro ?_ ?_) <;> first | omega | assumption | (refine SlOk.so (n := ?_) ?_ ?_; rotate_left; assumption; omega) | (simp; done) | fail) | fail) ?_)
        exact ⟨(j, B'), ⟨hI', j, hJ'⟩, (weak_of (by simp [wσ, go_sem, closed, closeds]) (by simp [whs, go_sem, EObj.closed, closed, closeds]) (by simp [*]) rfl rfl (by simp))⟩
    · rw [if_neg h1, List.append_nil] at hfk
      simp (maxSteps := 4000000) (disch := omega) only [go_sem, Nat.reduceBEq, Nat.reduceAdd, Nat.reduceMul, Nat.reduceSub, Nat.reduceLT, Nat.reduceLeDiff, Int.reduceToNat, Int.reduceLT, Int.reduceLE, Int.reduceAdd, Int.reduceMul, Int.reduceSub, Int.reduceNeg, Int.reduceDiv, Int.reduceMod, Nat.reduceBNe, Nat.reduceGT, Int.reduceBEq, Int.reduceBNe, Int.reduceGT, Nat.reduceDiv, Nat.reduceMod, Nat.reducePow, Int.reducePow, gt_iff_lt, ge_iff_le, List.reduceReplicate, ↓reduceIte]
      repeat (with_reducible refine And.intro (by first | omega | assumption | (constructor <;> assumption) | (simp; done) | (simp; omega) | (simp [*]; done) | ((repeat' refine And.intro ?_ ?_) <;> first | omega | assumption | (refine SlOk.so (n := ?_) ?_ ?_; rotate_left; assumption; omega) | (simp; done) | fail) | fail) ?_)
      refine ⟨(j, B), ⟨hI, hJj, ?_⟩, (weak_of (by simp [wσ, go_sem, closed, closeds]) (by simp [whs, go_sem, EObj.closed, closed, closeds]) (by simp [*]) rfl rfl (by simp))⟩
      rw [hfk]; exact hj
  · rintro ⟨j, B⟩ ⟨hI, hJj, hj⟩
    refine next_of 1000 ?_
    simp (maxSteps := 4000000) (disch := omega) only [go_sem, Nat.reduceBEq, Nat.reduceAdd, Nat.reduceMul, Nat.reduceSub, Nat.reduceLT, Nat.reduceLeDiff, Int.reduceToNat, Int.reduceLT, Int.reduceLE, Int.reduceAdd, Int.reduceMul, Int.reduceSub, Int.reduceNeg, Int.reduceDiv, Int.reduceMod, Nat.reduceBNe, Nat.reduceGT, Int.reduceBEq, Int.reduceBNe, Int.reduceGT, Nat.reduceDiv, Nat.reduceMod, Nat.reducePow, Int.reducePow, gt_iff_lt, ge_iff_le, List.reduceReplicate, ↓reduceIte]
    repeat (with_reducible refine And.intro (by first | omega | assumption | (constructor <;> assumption) | (simp; done) | (simp; omega) | (simp [*]; done) | ((repeat' refine And.intro ?_ ?_) <;> first | omega | assumption | (refine SlOk.so (n := ?_) ?_ ?_; rotate_left; assumption; omega) | (simp; done) | fail) | fail) ?_)
    simp only [List.take_length] at hj
    have : j = (dests c).length := by rw [hj]; simp [dests]
    subst this
    exact ⟨hI, .inl hJj⟩
  · rintro ⟨j, B⟩ ⟨_, hI, k, hJj⟩
    simp (maxSteps := 4000000) (disch := omega) only [go_sem, Nat.reduceBEq, Nat.reduceAdd, Nat.reduceMul, Nat.reduceSub, Nat.reduceLT, Nat.reduceLeDiff, Int.reduceToNat, Int.reduceLT, Int.reduceLE, Int.reduceAdd, Int.reduceMul, Int.reduceSub, Int.reduceNeg, Int.reduceDiv, Int.reduceMod, Nat.reduceBNe, Nat.reduceGT, Int.reduceBEq, Int.reduceBNe, Int.reduceGT, Nat.reduceDiv, Nat.reduceMod, Nat.reducePow, Int.reducePow, gt_iff_lt, ge_iff_le, List.reduceReplicate, ↓reduceIte]
    repeat (with_reducible refine And.intro (by first | omega | assumption | (constructor <;> assumption) | (simp; done) | (simp; omega) | (simp [*]; done) | ((repeat' refine And.intro ?_ ?_) <;> first | omega | assumption | (refine SlOk.so (n := ?_) ?_ ?_; rotate_left; assumption; omega) | (simp; done) | fail) | fail) ?_)
    exact ⟨hI, .inr ⟨k, hJj⟩⟩
  · rintro id s ⟨h, _⟩; simp at h
end Go.Proofs.YthknokcfmpahcaaDoor
