/- Part of a proof over the seat Ytepabkjfnpaijaa. -/
import Derived.Test.YtepabkjfnpaijaaKV
namespace Go.Proofs.Ytepabkjfnpaijaa
open Go RowKit Go.Ew
set_option maxRecDepth 100000
set_option linter.unusedSimpArgs false
set_option linter.unusedVariables false
set_option maxHeartbeats 4000000
theorem in94 : codeIn Try.f94.ntmps (Try.f94.body.getD .skip) = true := by kernel_rfl
theorem in102 : codeIn Try.f102.ntmps (Try.f102.body.getD .skip) = true := by kernel_rfl
theorem in81 : codeIn Try.f81.ntmps (Try.f81.body.getD .skip) = true := by kernel_rfl
theorem in59 : codeIn Try.f59.ntmps (Try.f59.body.getD .skip) = true := by kernel_rfl
theorem values_calls (a : Option Addr) (n m : Nat) (w : World) : Calls Try.prog 94 #[.slice a n m] w (RetN (.fn (.func 102) [] [.ptr 0 0]) [.cells [.raw (.slice a n m)] 77 (0, 0)] w) := by
  refine new_calls _ _ [.raw (.slice a n m)] Try.func94 rfl in94 (by simp [Try.f94]) (by simp [closeds, closed]) ?_
  refine next_of 1000 ?_
  simp (maxSteps := 4000000) (disch := omega) only [go_sem, Nat.reduceBEq, Nat.reduceAdd, Nat.reduceMul, Nat.reduceSub, Nat.reduceLT, Nat.reduceLeDiff, Int.reduceToNat, Int.reduceLT, Int.reduceLE, Int.reduceAdd, Int.reduceMul, Int.reduceSub, Int.reduceNeg, Int.reduceDiv, Int.reduceMod, Nat.reduceBNe, Nat.reduceGT, Int.reduceBEq, Int.reduceBNe, Int.reduceGT, Nat.reduceDiv, Nat.reduceMod, Nat.reducePow, Int.reducePow, gt_iff_lt, ge_iff_le, List.reduceReplicate, ↓reduceIte, Try.f94, Value.oneCell']
  repeat (with_reducible refine And.intro (by first | omega | assumption | (constructor <;> assumption) | (simp; done) | (simp; omega) | (simp [*]; done) | ((repeat' refine And.intro ?_ ?_) <;> first | omega | assumption | (refine SlOk.so (n := ?_) ?_ ?_; rotate_left; assumption; omega) | (simp; done) | fail) | fail) ?_)
  rintro (_ | i) o h <;> simp_all [hget]
theorem kids_calls (l : Int) (bA kA : Option Addr) (bn bc kn kc : Nat) (w : World) : Calls Try.prog 81 (reals (fun _ => 0) [.agg [.int .i64 l, .raw (.slice bA bn bc), .raw (.slice kA kn kc)]]).toArray w (RetN (.fn (.func 102) [] [.ptr 1 0]) [.cells [.int .i64 l, .raw (.slice bA bn bc), .raw (.slice kA kn kc)] 79 (0, 0), .cells [.raw (.slice kA kn kc)] 77 (0, 0)] w) := by
  refine new_calls _ _ [.agg [.int .i64 l, .raw (.slice bA bn bc), .raw (.slice kA kn kc)]] Try.func81 rfl in81 (by simp [Try.f81]) (by simp [closeds, closed]) ?_
  refine next_of 1000 ?_
  simp (maxSteps := 4000000) (disch := omega) only [go_sem, Nat.reduceBEq, Nat.reduceAdd, Nat.reduceMul, Nat.reduceSub, Nat.reduceLT, Nat.reduceLeDiff, Int.reduceToNat, Int.reduceLT, Int.reduceLE, Int.reduceAdd, Int.reduceMul, Int.reduceSub, Int.reduceNeg, Int.reduceDiv, Int.reduceMod, Nat.reduceBNe, Nat.reduceGT, Int.reduceBEq, Int.reduceBNe, Int.reduceGT, Nat.reduceDiv, Nat.reduceMod, Nat.reducePow, Int.reducePow, gt_iff_lt, ge_iff_le, List.reduceReplicate, ↓reduceIte, Try.f81, Value.oneCell']
  repeat (with_reducible refine And.intro (by first | omega | assumption | (constructor <;> assumption) | (simp; done) | (simp; omega) | (simp [*]; done) | ((repeat' refine And.intro ?_ ?_) <;> first | omega | assumption | (refine SlOk.so (n := ?_) ?_ ?_; rotate_left; assumption; omega) | (simp; done) | fail) | fail) ?_)
  refine callS_new (.fn (.func 102) [] [.ptr 0 0]) [.cells [.raw (.slice kA kn kc)] 77 (0, 0)] en94 (by simp [closed, closeds]) (by simp [EObj.closed, closed, closeds]) (fun bs w _ => values_calls _ _ _ w) (next_of 1000 ?_)
  simp (maxSteps := 4000000) (disch := omega) only [go_sem, Nat.reduceBEq, Nat.reduceAdd, Nat.reduceMul, Nat.reduceSub, Nat.reduceLT, Nat.reduceLeDiff, Int.reduceToNat, Int.reduceLT, Int.reduceLE, Int.reduceAdd, Int.reduceMul, Int.reduceSub, Int.reduceNeg, Int.reduceDiv, Int.reduceMod, Nat.reduceBNe, Nat.reduceGT, Int.reduceBEq, Int.reduceBNe, Int.reduceGT, Nat.reduceDiv, Nat.reduceMod, Nat.reducePow, Int.reducePow, gt_iff_lt, ge_iff_le, List.reduceReplicate, ↓reduceIte]
  repeat (with_reducible refine And.intro (by first | omega | assumption | (constructor <;> assumption) | (simp; done) | (simp; omega) | (simp [*]; done) | ((repeat' refine And.intro ?_ ?_) <;> first | omega | assumption | (refine SlOk.so (n := ?_) ?_ ?_; rotate_left; assumption; omega) | (simp; done) | fail) | fail) ?_)
  rintro (_ | _ | i) o h <;> simp_all [hget]
def encQ (q : Itm × Plc) : Array Value := (reals (fun _ => 0) [.agg (itE q.1 q.2)]).toArray
/-- The iterator over an item's kids. -/
theorem vals_iter (W : World) (qs : List (Itm × Plc)) (p cap : Nat) (ad : Option Addr) (DB : Nat → Prop) (hDB : ∀ b, DB b → b < W.heap.size) (hp : W.cell? ⟨p, 0, none⟩ = some (.slice ad qs.length cap)) (hc0 : CellsAt ⟨W, DB⟩ ad (qs.flatMap itC)) (hql : qs.length ≤ 1099511627776)
    (Rd : Nat → Prop) (hRp : Rd p) (hRB : ∀ b, DB b → Rd b) (hRW : ∀ b, Rd b → b < W.heap.size) :
    IterOk Try.prog 102 (fun y => (reals (fun _ => 0) [.raw y, .raw (.pointer (some ⟨p, 0, none⟩))]).toArray) W Rd qs.length encQ (fun k q _ _ => qs[k]? = some q) := by
  refine iter_of (fun y => [.raw y, .raw (.pointer (some ⟨p, 0, none⟩))]) Try.func102 rfl in102 (fun y => by simp [Try.f102]) (fun y => by simp [closeds, closed]) ?_
  intro l J Jx hJ hJx hR h0 hB
  have hDp : p < W.heap.size := hRW p hRp
  have hX : ∀ B', ItB W Rd B' → BExt ⟨W, DB⟩ B' := fun B' h => ⟨fun b hb => h.D b (hDB b hb), fun b hb => h.rd b (hRB b hb), h.size, h.os, h.tape, h.output⟩
  refine next_of 1000 ?_
  simp (maxSteps := 4000000) (disch := omega) only [go_sem, Nat.reduceBEq, Nat.reduceAdd, Nat.reduceMul, Nat.reduceSub, Nat.reduceLT, Nat.reduceLeDiff, Int.reduceToNat, Int.reduceLT, Int.reduceLE, Int.reduceAdd, Int.reduceMul, Int.reduceSub, Int.reduceNeg, Int.reduceDiv, Int.reduceMod, Nat.reduceBNe, Nat.reduceGT, Int.reduceBEq, Int.reduceBNe, Int.reduceGT, Nat.reduceDiv, Nat.reduceMod, Nat.reducePow, Int.reducePow, gt_iff_lt, ge_iff_le, List.reduceReplicate, ↓reduceIte, Try.f102, Value.oneCell', hp, rawCell, Option.getD_some]
  repeat (with_reducible refine And.intro (by first | omega | assumption | (constructor <;> assumption) | (simp; done) | (simp; omega) | (simp [*]; done) | ((repeat' refine And.intro ?_ ?_) <;> first | omega | assumption | (refine SlOk.so (n := ?_) ?_ ?_; rotate_left; assumption; omega) | (simp; done) | fail) | fail) ?_)
  refine loopU (S := Nat × Base) (fun s => ItB W Rd s.2 ∧ s.1 ≤ qs.length ∧ J s.1 s.2.D s.2.w)
    (fun s => ⟨[(7, .int .i64 (s.1 : Nat)), (6, .int .i64 (qs.length : Nat)), (5, .raw (.slice ad qs.length cap)), (0, .raw (.func (.yield l) #[] #[]))], 0, [], s.2, []⟩) (fun s => qs.length - s.1) (0, base W) ⟨hB, Nat.zero_le _, h0⟩ (Weak.sub (weak_of (by simp [wσ, go_sem, closed, closeds, lE_closed] <;> omega) (by simp [whs, Go.Ew.hget, go_sem, EObj.closed, closed, closeds, lE_closed]) (by simp [*]) rfl rfl (by simp))) ?_
  rintro ⟨i, B⟩ ⟨hI, hi, hJi⟩
  simp only at hI hi hJi ⊢
  have hc := hc0.ext (hX _ hI)
  refine next_of 1000 ?_
  simp (maxSteps := 4000000) (disch := omega) only [go_sem, Nat.reduceBEq, Nat.reduceAdd, Nat.reduceMul, Nat.reduceSub, Nat.reduceLT, Nat.reduceLeDiff, Int.reduceToNat, Int.reduceLT, Int.reduceLE, Int.reduceAdd, Int.reduceMul, Int.reduceSub, Int.reduceNeg, Int.reduceDiv, Int.reduceMod, Nat.reduceBNe, Nat.reduceGT, Int.reduceBEq, Int.reduceBNe, Int.reduceGT, Nat.reduceDiv, Nat.reduceMod, Nat.reducePow, Int.reducePow, gt_iff_lt, ge_iff_le, List.reduceReplicate, ↓reduceIte]
  repeat (with_reducible refine And.intro (by first | omega | assumption | (constructor <;> assumption) | (simp; done) | (simp; omega) | (simp [*]; done) | ((repeat' refine And.intro ?_ ?_) <;> first | omega | assumption | (refine SlOk.so (n := ?_) ?_ ?_; rotate_left; assumption; omega) | (simp; done) | fail) | fail) ?_)
  refine condS_split (fun h2 => ?_) (fun h2 => ?_)
  all_goals (try simp only [bne_iff_ne, ne_eq, beq_iff_eq, decide_eq_true_eq, decide_eq_false_iff_not, Bool.not_eq_true, Bool.not_eq_false, Bool.not_true, Bool.not_false, bne_eq_false_iff_eq, beq_eq_false_iff_ne, Bool.and_eq_true, Bool.or_eq_true, Bool.and_eq_false_imp, Bool.or_eq_false_iff, Bool.not_eq_true', Bool.not_eq_false', Int.not_lt, Int.not_le] at h2)
  · have hi2 : i < qs.length := by omega
    obtain ⟨l1, l2, l3, l4⟩ := kid_ld hc hi2
    have hem : qs[i]? = some qs[i] := List.getElem?_eq_getElem hi2
    obtain ⟨q, hq0⟩ : ∃ q, q = qs[i] := ⟨_, rfl⟩
    rw [← hq0] at l1 hem
    repeat' (first | with_reducible refine And.intro (by first | omega | assumption | (constructor <;> assumption) | (simp; done) | (simp; omega) | (simp [*]; done) | ((repeat' refine And.intro ?_ ?_) <;> first | omega | assumption | (refine SlOk.so (n := ?_) ?_ ?_; rotate_left; assumption; omega) | (simp; done) | fail) | fail) ?_ | simp (maxSteps := 4000000) (disch := omega) only [go_sem, Nat.reduceBEq, Nat.reduceAdd, Nat.reduceMul, Nat.reduceSub, Nat.reduceLT, Nat.reduceLeDiff, Int.reduceToNat, Int.reduceLT, Int.reduceLE, Int.reduceAdd, Int.reduceMul, Int.reduceSub, Int.reduceNeg, Int.reduceDiv, Int.reduceMod, Nat.reduceBNe, Nat.reduceGT, Int.reduceBEq, Int.reduceBNe, Int.reduceGT, Nat.reduceDiv, Nat.reduceMod, Nat.reducePow, Int.reducePow, gt_iff_lt, ge_iff_le, List.reduceReplicate, ↓reduceIte, Int.toNat_natCast, l1])
    refine yieldS (vs := [.agg (itE q.1 q.2)]) q rfl rfl hR hJ rfl rfl (fun bs => by simp only [encQ]; rw [reals_closed0 bs (fun _ => 0) (by simp [closeds, closed])]) hi2 (fun w _ => hem) hJi hI hRW (fun B2 hJ2 hI2 => next_of 1000 ?_) (fun B2 hJ2 hI2 => next_of 1000 ?_)
    · repeat' (simp (maxSteps := 4000000) (disch := omega) only [go_sem, Nat.reduceBEq, Nat.reduceAdd, Nat.reduceMul, Nat.reduceSub, Nat.reduceLT, Nat.reduceLeDiff, Int.reduceToNat, Int.reduceLT, Int.reduceLE, Int.reduceAdd, Int.reduceMul, Int.reduceSub, Int.reduceNeg, Int.reduceDiv, Int.reduceMod, Nat.reduceBNe, Nat.reduceGT, Int.reduceBEq, Int.reduceBNe, Int.reduceGT, Nat.reduceDiv, Nat.reduceMod, Nat.reducePow, Int.reducePow, gt_iff_lt, ge_iff_le, List.reduceReplicate, ↓reduceIte])
      exact ⟨(i + 1, B2), ⟨hI2, hi2, hJ2⟩, Weak.sub (weak_of (by simp [wσ, go_sem, closed, closeds, lE_closed] <;> omega) (by simp [whs, Go.Ew.hget, go_sem, EObj.closed, closed, closeds, lE_closed]) (by simp [*]) rfl rfl (by simp)), by simp only; omega⟩
    · repeat' (simp (maxSteps := 4000000) (disch := omega) only [go_sem, Nat.reduceBEq, Nat.reduceAdd, Nat.reduceMul, Nat.reduceSub, Nat.reduceLT, Nat.reduceLeDiff, Int.reduceToNat, Int.reduceLT, Int.reduceLE, Int.reduceAdd, Int.reduceMul, Int.reduceSub, Int.reduceNeg, Int.reduceDiv, Int.reduceMod, Nat.reduceBNe, Nat.reduceGT, Int.reduceBEq, Int.reduceBNe, Int.reduceGT, Nat.reduceDiv, Nat.reduceMod, Nat.reducePow, Int.reducePow, gt_iff_lt, ge_iff_le, List.reduceReplicate, ↓reduceIte])
      exact ⟨hI2, .inr ⟨_, hJ2⟩⟩
  · obtain rfl : i = qs.length := by omega
    repeat' (first | simp (maxSteps := 4000000) (disch := omega) only [go_sem, Nat.reduceBEq, Nat.reduceAdd, Nat.reduceMul, Nat.reduceSub, Nat.reduceLT, Nat.reduceLeDiff, Int.reduceToNat, Int.reduceLT, Int.reduceLE, Int.reduceAdd, Int.reduceMul, Int.reduceSub, Int.reduceNeg, Int.reduceDiv, Int.reduceMod, Nat.reduceBNe, Nat.reduceGT, Int.reduceBEq, Int.reduceBNe, Int.reduceGT, Nat.reduceDiv, Nat.reduceMod, Nat.reducePow, Int.reducePow, gt_iff_lt, ge_iff_le, List.reduceReplicate, ↓reduceIte] | with_reducible refine next_of 1000 ?_)
    exact ⟨hI, .inl hJi⟩
end Go.Proofs.Ytepabkjfnpaijaa

