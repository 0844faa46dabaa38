/- Part of a proof over the seat Ytepabkjfnpaijaa. -/
import Derived.Test.YtepabkjfnpaijaaKP
namespace Go.Proofs.Ytepabkjfnpaijaa
open Go RowKit Go.Ew
set_option maxRecDepth 100000
set_option linter.unusedSimpArgs false
set_option linter.unusedVariables false
set_option maxHeartbeats 4000000
theorem in24 : codeIn Try.f24.ntmps (Try.f24.body.getD .skip) = true := by kernel_rfl
theorem in55 : codeIn Try.f55.ntmps (Try.f55.body.getD .skip) = true := by kernel_rfl
theorem in9 : codeIn Try.f9.ntmps (Try.f9.body.getD .skip) = true := by kernel_rfl
/-- Bytes of a block of one's own, seen from outside. -/
theorem own_bytes {C : Cx} {B : Base} {n : Nat} {hs : List (Nat × Option EObj)} {bs : Nat → Nat} {w : World} (hh : HRel C B n hs bs w) {j off m : Nat} {cs : List EV} {T : TypeId} {fr : Nat × Nat} {xs : List UInt8}
    (hg : hget hs j = some (.cells cs T fr)) (hcs : (cs.drop off).take m = xs.map bE) (D : Nat → Prop) (hD : D (bs j)) : BytesAt ⟨w, D⟩ (some ⟨bs j, off, none⟩) xs := by
  have hlive := (hh.live j _ hg).2
  simp only [EObj.real] at hlive
  refine ⟨?_, fun _ => rfl, fun i hi => ?_⟩
  · intro a ha _
    cases ha
    exact hD
  · have e : adrAt (some (⟨bs j, off, none⟩ : Addr)) i = ⟨bs j, off + i, none⟩ := by
      rw [adrAt_some]
      unfold Addr.add
      split
      · rename_i h0; subst h0; rfl
      · simp
    have hi' : i < xs.length := by simpa using hi
    have e3 : cs[off + i]? = (xs.map bE)[i]? := by
      have h3 := congrArg (fun l => l[i]?) hcs
      simp only [List.getElem?_take, List.getElem?_drop] at h3
      split at h3
      · exact h3
      · rw [List.getElem?_eq_getElem (by simpa using hi')] at h3; cases h3
    rw [e, cellHeap hlive, List.getElem?_toArray, reals_eq, List.getElem?_map, e3, ← List.getElem?_map, ← reals_eq, reals_bE]
theorem marks_calls (a : Option Addr) (n m : Nat) (w : World) : Calls Try.prog 24 #[.slice a n m] w (RetN (.fn (.func 55) [] [.ptr 0 0]) [.cells [.raw (.slice a n m)] 22 (0, 0)] w) := by
  refine new_calls _ _ [.raw (.slice a n m)] Try.func24 rfl in24 (by simp [Try.f24]) (by simp [closeds, closed]) ?_
  refine next_of 1000 ?_
  simp (maxSteps := 4000000) (disch := omega) only [go_sem, Nat.reduceBEq, Nat.reduceAdd, Nat.reduceMul, Nat.reduceSub, Nat.reduceLT, Nat.reduceLeDiff, Int.reduceToNat, Int.reduceLT, Int.reduceLE, Int.reduceAdd, Int.reduceMul, Int.reduceSub, Int.reduceNeg, Int.reduceDiv, Int.reduceMod, Nat.reduceBNe, Nat.reduceGT, Int.reduceBEq, Int.reduceBNe, Int.reduceGT, Nat.reduceDiv, Nat.reduceMod, Nat.reducePow, Int.reducePow, gt_iff_lt, ge_iff_le, List.reduceReplicate, ↓reduceIte, Try.f24, Value.oneCell']
  repeat (with_reducible refine And.intro (by first | omega | assumption | (constructor <;> assumption) | (simp; done) | (simp; omega) | (simp [*]; done) | ((repeat' refine And.intro ?_ ?_) <;> first | omega | assumption | (refine SlOk.so (n := ?_) ?_ ?_; rotate_left; assumption; omega) | (simp; done) | fail) | fail) ?_)
  rintro (_ | i) o h <;> simp_all [hget]
def encM (a : Option Addr × Nat × Nat) : Array Value := #[.slice a.1 a.2.1 a.2.2]
def elM (ms : List (List UInt8)) (k : Nat) (a : Option Addr × Nat × Nat) (D : Nat → Prop) (w : World) : Prop :=
  ∃ m, ms[k]? = some m ∧ m.length = a.2.1 ∧ BytesAt ⟨w, fun b => b < w.heap.size ∧ ¬ D b⟩ a.1 m
theorem marks_take (L : List LogV) {i k : Nat} (hi : i < L.length) (hk : k < L[i].tn) : (marksL L)[(marksL (L.take i)).length + 1 + k]? = some (L[i].top k) := by
  have e : L = L.take i ++ L[i] :: L.drop (i + 1) := by rw [← List.drop_eq_getElem_cons hi, List.take_append_drop]
  have h2 : marksL L = marksL (L.take i) ++ (L[i].marks ++ marksL (L.drop (i + 1))) := by
    conv => lhs; rw [e]
    simp only [marksL, List.flatMap_append, List.flatMap_cons]
  rw [h2, List.getElem?_append_right (by omega), show (marksL (L.take i)).length + 1 + k - (marksL (L.take i)).length = k + 1 by omega, LogV.marks, List.cons_append, List.getElem?_cons_succ, List.getElem?_append_left (by rw [tops_len]; exact hk),
    List.getElem?_eq_getElem (by rw [tops_len]; exact hk), tops_get hk]
theorem marks_at (L : List LogV) {i : Nat} (hi : i < L.length) : (marksL L)[(marksL (L.take i)).length]? = some L[i].ad := by
  have e : L = L.take i ++ L[i] :: L.drop (i + 1) := by rw [← List.drop_eq_getElem_cons hi, List.take_append_drop]
  have h2 : marksL L = marksL (L.take i) ++ (L[i].marks ++ marksL (L.drop (i + 1))) := by
    conv => lhs; rw [e]
    simp only [marksL, List.flatMap_append, List.flatMap_cons]
  rw [h2, List.getElem?_append_right (by omega), Nat.sub_self]
  rfl
theorem marks_len (L : List LogV) {i : Nat} (hi : i < L.length) : (marksL (L.take (i + 1))).length = (marksL (L.take i)).length + 1 + L[i].tn := by
  rw [List.take_succ_eq_append_getElem hi, marksL, List.flatMap_append, List.length_append]
  simp only [List.flatMap_cons, List.flatMap_nil, List.append_nil, LogV.marks, List.length_cons, tops_len, marksL]
  omega
/-- marks$1 runs over the texts. -/
theorem marks1_iter (W : World) (L : List LogV) (p cap : Nat) (ad : Option Addr) (DB : Nat → Prop) (hDB : ∀ b, DB b → b < W.heap.size) (hp : W.cell? ⟨p, 0, none⟩ = some (.slice ad L.length cap)) (hL : LogsAt ⟨W, DB⟩ ad L)
    (Rd : Nat → Prop) (hRp : Rd p) (hRB : ∀ b, DB b → Rd b) (hRW : ∀ b, Rd b → b < W.heap.size) :
    IterOk Try.prog 55 (fun y => (reals (fun _ => 0) [.raw y, .raw (.pointer (some ⟨p, 0, none⟩))]).toArray) W Rd (marksL L).length encM (elM (marksL L)) := by
  refine iter_of (fun y => [.raw y, .raw (.pointer (some ⟨p, 0, none⟩))]) Try.func55 rfl in55 (fun y => by simp [Try.f55]) (fun y => by simp [closeds, closed]) ?_
  intro l J Jx hJ hJx hR h0 hB
  have hDp : p < W.heap.size := hRW p hRp
  have hX : ∀ B', ItB W Rd B' → BExt ⟨W, DB⟩ B' := fun B' h => ⟨fun b hb => h.D b (hDB b hb), fun b hb => h.rd b (hRB b hb), h.size, h.os, h.tape, h.output⟩
  have hlen := hL.len
  refine next_of 1000 ?_
  simp (maxSteps := 4000000) (disch := omega) only [go_sem, Nat.reduceBEq, Nat.reduceAdd, Nat.reduceMul, Nat.reduceSub, Nat.reduceLT, Nat.reduceLeDiff, Int.reduceToNat, Int.reduceLT, Int.reduceLE, Int.reduceAdd, Int.reduceMul, Int.reduceSub, Int.reduceNeg, Int.reduceDiv, Int.reduceMod, Nat.reduceBNe, Nat.reduceGT, Int.reduceBEq, Int.reduceBNe, Int.reduceGT, Nat.reduceDiv, Nat.reduceMod, Nat.reducePow, Int.reducePow, gt_iff_lt, ge_iff_le, List.reduceReplicate, ↓reduceIte, Try.f55, Value.oneCell', hp, rawCell, Option.getD_some]
  repeat (with_reducible refine And.intro (by first | omega | assumption | (constructor <;> assumption) | (simp; done) | (simp; omega) | (simp [*]; done) | ((repeat' refine And.intro ?_ ?_) <;> first | omega | assumption | (refine SlOk.so (n := ?_) ?_ ?_; rotate_left; assumption; omega) | (simp; done) | fail) | fail) ?_)
  refine loopU (S := Nat × Base) (fun s => ItB W Rd s.2 ∧ s.1 ≤ L.length ∧ J (marksL (L.take s.1)).length s.2.D s.2.w)
    (fun s => ⟨[(9, .int .i64 (s.1 : Nat)), (8, .int .i64 (L.length : Nat)), (7, .raw (.slice ad L.length cap)), (0, .raw (.func (.yield l) #[] #[]))], 0, [], s.2, []⟩) (fun s => L.length - s.1) (0, base W) ⟨hB, Nat.zero_le _, h0⟩ (Weak.sub (weak_of (by simp [wσ, go_sem, closed, closeds, lE_closed] <;> omega) (by simp [whs, Go.Ew.hget, go_sem, EObj.closed, closed, closeds, lE_closed]) (by simp [*]) rfl rfl (by simp))) ?_
  rintro ⟨i, B⟩ ⟨hI, hi, hJi⟩
  simp only at hI hi hJi ⊢
  have h := hL.ext (hX _ hI)
  refine next_of 1000 ?_
  simp (maxSteps := 4000000) (disch := omega) only [go_sem, Nat.reduceBEq, Nat.reduceAdd, Nat.reduceMul, Nat.reduceSub, Nat.reduceLT, Nat.reduceLeDiff, Int.reduceToNat, Int.reduceLT, Int.reduceLE, Int.reduceAdd, Int.reduceMul, Int.reduceSub, Int.reduceNeg, Int.reduceDiv, Int.reduceMod, Nat.reduceBNe, Nat.reduceGT, Int.reduceBEq, Int.reduceBNe, Int.reduceGT, Nat.reduceDiv, Nat.reduceMod, Nat.reducePow, Int.reducePow, gt_iff_lt, ge_iff_le, List.reduceReplicate, ↓reduceIte]
  repeat (with_reducible refine And.intro (by first | omega | assumption | (constructor <;> assumption) | (simp; done) | (simp; omega) | (simp [*]; done) | ((repeat' refine And.intro ?_ ?_) <;> first | omega | assumption | (refine SlOk.so (n := ?_) ?_ ?_; rotate_left; assumption; omega) | (simp; done) | fail) | fail) ?_)
  refine condS_split (fun h2 => ?_) (fun h2 => ?_)
  all_goals (try simp only [bne_iff_ne, ne_eq, beq_iff_eq, decide_eq_true_eq, decide_eq_false_iff_not, Bool.not_eq_true, Bool.not_eq_false, Bool.not_true, Bool.not_false, bne_eq_false_iff_eq, beq_eq_false_iff_ne, Bool.and_eq_true, Bool.or_eq_true, Bool.and_eq_false_imp, Bool.or_eq_false_iff, Bool.not_eq_true', Bool.not_eq_false', Int.not_lt, Int.not_le] at h2)
  · have hi2 : i < L.length := by omega
    obtain ⟨l1, l2, l3, l4⟩ := h.ld hi2
    have h1 := h.ok _ (List.getElem_mem hi2)
    have em := marks_at L hi2
    have et := fun k hk => marks_take L (k := k) hi2 hk
    have en := marks_len L hi2
    obtain ⟨g, hg⟩ : ∃ g, g = L[i] := ⟨_, rfl⟩
    rw [← hg] at l1 h1 em en
    simp only [← hg] at et
    have ht := h1.tb
    have f1 : oneAll g.ev = true := logE_one rfl rfl
    have f2 : ∀ u v, (logE g.ad u v).length = 22 := fun u v => logE_len h1.ha
    have f3 : ∀ u v d, (logE g.ad u v).getD 20 d = u := fun u v d => logE_20 h1.ha
    have f4 : ∀ u v d, (logE g.ad u v).getD 21 d = v := fun u v d => logE_21 h1.ha
    have hlt : (marksL (L.take i)).length < (marksL L).length := by
      rcases Nat.lt_or_ge (marksL (L.take i)).length (marksL L).length with h | h
      · exact h
      · rw [List.getElem?_eq_none h] at em; cases em
    repeat' (first | with_reducible refine And.intro (by first | omega | assumption | (constructor <;> assumption) | (simp; done) | (simp; omega) | (simp [*]; done) | ((repeat' refine And.intro ?_ ?_) <;> first | omega | assumption | (refine SlOk.so (n := ?_) ?_ ?_; rotate_left; assumption; omega) | (simp; done) | fail) | fail) ?_ | simp (maxSteps := 4000000) (disch := omega) only [go_sem, Nat.reduceBEq, Nat.reduceAdd, Nat.reduceMul, Nat.reduceSub, Nat.reduceLT, Nat.reduceLeDiff, Int.reduceToNat, Int.reduceLT, Int.reduceLE, Int.reduceAdd, Int.reduceMul, Int.reduceSub, Int.reduceNeg, Int.reduceDiv, Int.reduceMod, Nat.reduceBNe, Nat.reduceGT, Int.reduceBEq, Int.reduceBNe, Int.reduceGT, Nat.reduceDiv, Nat.reduceMod, Nat.reducePow, Int.reducePow, gt_iff_lt, ge_iff_le, List.reduceReplicate, ↓reduceIte, Int.toNat_natCast, l1, f1, f2, f3, f4, logE_splice h1.ha])
    refine yieldH (vs := [.sl 0 0 20 20]) (fun bs => (some ⟨bs 0, 0, none⟩, 20, 20)) rfl rfl hR hJ rfl rfl hlt (fun bs w hH => ⟨rfl, g.ad, em, h1.ha, own_bytes hH rfl (logE_ad h1.ha) _ ⟨heap_lt (hH.live 0 _ rfl).2, hH.new 0 _ rfl⟩⟩) hJi hI hRW (fun B2 hJ2 hI2 => next_of 1000 ?_) (fun B2 hJ2 hI2 => next_of 1000 ?_)
    · repeat' (first | with_reducible refine And.intro (by first | omega | assumption | (constructor <;> assumption) | (simp; done) | (simp; omega) | (simp [*]; done) | ((repeat' refine And.intro ?_ ?_) <;> first | omega | assumption | (refine SlOk.so (n := ?_) ?_ ?_; rotate_left; assumption; omega) | (simp; done) | fail) | fail) ?_ | simp (maxSteps := 4000000) (disch := omega) only [go_sem, Nat.reduceBEq, Nat.reduceAdd, Nat.reduceMul, Nat.reduceSub, Nat.reduceLT, Nat.reduceLeDiff, Int.reduceToNat, Int.reduceLT, Int.reduceLE, Int.reduceAdd, Int.reduceMul, Int.reduceSub, Int.reduceNeg, Int.reduceDiv, Int.reduceMod, Nat.reduceBNe, Nat.reduceGT, Int.reduceBEq, Int.reduceBNe, Int.reduceGT, Nat.reduceDiv, Nat.reduceMod, Nat.reducePow, Int.reducePow, gt_iff_lt, ge_iff_le, List.reduceReplicate, ↓reduceIte, f1, f2, f3, f4])
      refine loopU (S := Nat × Base) (fun s => ItB W Rd s.2 ∧ s.1 ≤ g.tn ∧ J ((marksL (L.take i)).length + 1 + s.1) s.2.D s.2.w)
        (fun s => ⟨[(21, .int .i64 (s.1 : Nat)), (20, .int .i64 (g.tn : Nat)), (19, .raw (.slice g.tA g.tn g.tc)), (9, .int .i64 (i : Nat)), (8, .int .i64 (L.length : Nat)), (7, .raw (.slice ad L.length cap)), (0, .raw (.func (.yield l) #[] #[]))], 0, [], s.2, []⟩) (fun s => g.tn - s.1) (0, B2) ⟨hI2, Nat.zero_le _, hJ2⟩ (Weak.sub (weak_of (by simp [wσ, go_sem, closed, closeds, lE_closed] <;> omega) (by simp [whs, Go.Ew.hget, go_sem, EObj.closed, closed, closeds, lE_closed]) (by simp [*]) rfl rfl (by simp))) ?_
      rintro ⟨k, B3⟩ ⟨hI3, hk, hJk⟩
      simp only at hI3 hk hJk ⊢
      have h1' : g.Ok B3 := (hL.ext (hX _ hI3)).ok g (by rw [hg]; exact List.getElem_mem hi2)
      refine next_of 1000 ?_
      simp (maxSteps := 4000000) (disch := omega) only [go_sem, Nat.reduceBEq, Nat.reduceAdd, Nat.reduceMul, Nat.reduceSub, Nat.reduceLT, Nat.reduceLeDiff, Int.reduceToNat, Int.reduceLT, Int.reduceLE, Int.reduceAdd, Int.reduceMul, Int.reduceSub, Int.reduceNeg, Int.reduceDiv, Int.reduceMod, Nat.reduceBNe, Nat.reduceGT, Int.reduceBEq, Int.reduceBNe, Int.reduceGT, Nat.reduceDiv, Nat.reduceMod, Nat.reducePow, Int.reducePow, gt_iff_lt, ge_iff_le, List.reduceReplicate, ↓reduceIte]
      repeat (with_reducible refine And.intro (by first | omega | assumption | (constructor <;> assumption) | (simp; done) | (simp; omega) | (simp [*]; done) | ((repeat' refine And.intro ?_ ?_) <;> first | omega | assumption | (refine SlOk.so (n := ?_) ?_ ?_; rotate_left; assumption; omega) | (simp; done) | fail) | fail) ?_)
      refine condS_split (fun h3 => ?_) (fun h3 => ?_)
      all_goals (try simp only [bne_iff_ne, ne_eq, beq_iff_eq, decide_eq_true_eq, decide_eq_false_iff_not, Bool.not_eq_true, Bool.not_eq_false, Bool.not_true, Bool.not_false, bne_eq_false_iff_eq, beq_eq_false_iff_ne, Bool.and_eq_true, Bool.or_eq_true, Bool.and_eq_false_imp, Bool.or_eq_false_iff, Bool.not_eq_true', Bool.not_eq_false', Int.not_lt, Int.not_le] at h3)
      · have hk2 : k < g.tn := by omega
        obtain ⟨m1, m2, m3, m4⟩ := h1'.ldT hk2
        have hq := top_len h1' hk2
        have hem := et k hk2
        obtain ⟨q, hq0⟩ : ∃ q, q = g.top k := ⟨_, rfl⟩
        rw [← hq0] at m1 hq hem
        have q1 := bE_one q
        have hlt2 : (marksL (L.take i)).length + 1 + k < (marksL L).length := by
          rcases Nat.lt_or_ge ((marksL (L.take i)).length + 1 + k) (marksL L).length with h | h
          · exact h
          · rw [List.getElem?_eq_none h] at hem; cases hem
        repeat' (first | with_reducible refine And.intro (by first | omega | assumption | (constructor <;> assumption) | (simp; done) | (simp; omega) | (simp [*]; done) | ((repeat' refine And.intro ?_ ?_) <;> first | omega | assumption | (refine SlOk.so (n := ?_) ?_ ?_; rotate_left; assumption; omega) | (simp; done) | fail) | fail) ?_ | simp (maxSteps := 4000000) (disch := omega) only [go_sem, Nat.reduceBEq, Nat.reduceAdd, Nat.reduceMul, Nat.reduceSub, Nat.reduceLT, Nat.reduceLeDiff, Int.reduceToNat, Int.reduceLT, Int.reduceLE, Int.reduceAdd, Int.reduceMul, Int.reduceSub, Int.reduceNeg, Int.reduceDiv, Int.reduceMod, Nat.reduceBNe, Nat.reduceGT, Int.reduceBEq, Int.reduceBNe, Int.reduceGT, Nat.reduceDiv, Nat.reduceMod, Nat.reducePow, Int.reducePow, gt_iff_lt, ge_iff_le, List.reduceReplicate, ↓reduceIte, Int.toNat_natCast, m1, q1, List.length_map, hq, bE_splice hq])
        refine yieldH (vs := [.sl 0 0 32 32]) (fun bs => (some ⟨bs 0, 0, none⟩, 32, 32)) rfl rfl hR hJ rfl rfl hlt2 (fun bs w hH => ⟨rfl, q, hem, hq, own_bytes hH rfl (bE_all hq) _ ⟨heap_lt (hH.live 0 _ rfl).2, hH.new 0 _ rfl⟩⟩) hJk hI3 hRW (fun B4 hJ4 hI4 => next_of 1000 ?_) (fun B4 hJ4 hI4 => next_of 1000 ?_)
        · repeat' (simp (maxSteps := 4000000) (disch := omega) only [go_sem, Nat.reduceBEq, Nat.reduceAdd, Nat.reduceMul, Nat.reduceSub, Nat.reduceLT, Nat.reduceLeDiff, Int.reduceToNat, Int.reduceLT, Int.reduceLE, Int.reduceAdd, Int.reduceMul, Int.reduceSub, Int.reduceNeg, Int.reduceDiv, Int.reduceMod, Nat.reduceBNe, Nat.reduceGT, Int.reduceBEq, Int.reduceBNe, Int.reduceGT, Nat.reduceDiv, Nat.reduceMod, Nat.reducePow, Int.reducePow, gt_iff_lt, ge_iff_le, List.reduceReplicate, ↓reduceIte])
          exact ⟨(k + 1, B4), ⟨hI4, hk2, hJ4⟩, Weak.sub (weak_of (by simp [wσ, go_sem, closed, closeds, lE_closed] <;> omega) (by simp [whs, Go.Ew.hget, go_sem, EObj.closed, closed, closeds, lE_closed]) (by simp [*]) rfl rfl (by simp)), by simp only; omega⟩
        · repeat' (simp (maxSteps := 4000000) (disch := omega) only [go_sem, Nat.reduceBEq, Nat.reduceAdd, Nat.reduceMul, Nat.reduceSub, Nat.reduceLT, Nat.reduceLeDiff, Int.reduceToNat, Int.reduceLT, Int.reduceLE, Int.reduceAdd, Int.reduceMul, Int.reduceSub, Int.reduceNeg, Int.reduceDiv, Int.reduceMod, Nat.reduceBNe, Nat.reduceGT, Int.reduceBEq, Int.reduceBNe, Int.reduceGT, Nat.reduceDiv, Nat.reduceMod, Nat.reducePow, Int.reducePow, gt_iff_lt, ge_iff_le, List.reduceReplicate, ↓reduceIte])
          exact ⟨hI4, .inr ⟨_, hJ4⟩⟩
      · obtain rfl : k = g.tn := by omega
        repeat' (first | simp (maxSteps := 4000000) (disch := omega) only [go_sem, Nat.reduceBEq, Nat.reduceAdd, Nat.reduceMul, Nat.reduceSub, Nat.reduceLT, Nat.reduceLeDiff, Int.reduceToNat, Int.reduceLT, Int.reduceLE, Int.reduceAdd, Int.reduceMul, Int.reduceSub, Int.reduceNeg, Int.reduceDiv, Int.reduceMod, Nat.reduceBNe, Nat.reduceGT, Int.reduceBEq, Int.reduceBNe, Int.reduceGT, Nat.reduceDiv, Nat.reduceMod, Nat.reducePow, Int.reducePow, gt_iff_lt, ge_iff_le, List.reduceReplicate, ↓reduceIte] | with_reducible refine next_of 1000 ?_)
        exact ⟨(i + 1, B3), ⟨hI3, hi2, by rw [en]; exact hJk⟩, Weak.sub (weak_of (by simp [wσ, go_sem, closed, closeds, lE_closed] <;> omega) (by simp [whs, Go.Ew.hget, go_sem, EObj.closed, closed, closeds, lE_closed]) (by simp [*]) rfl rfl (by simp)), by simp only; omega⟩
    · repeat' (simp (maxSteps := 4000000) (disch := omega) only [go_sem, Nat.reduceBEq, Nat.reduceAdd, Nat.reduceMul, Nat.reduceSub, Nat.reduceLT, Nat.reduceLeDiff, Int.reduceToNat, Int.reduceLT, Int.reduceLE, Int.reduceAdd, Int.reduceMul, Int.reduceSub, Int.reduceNeg, Int.reduceDiv, Int.reduceMod, Nat.reduceBNe, Nat.reduceGT, Int.reduceBEq, Int.reduceBNe, Int.reduceGT, Nat.reduceDiv, Nat.reduceMod, Nat.reducePow, Int.reducePow, gt_iff_lt, ge_iff_le, List.reduceReplicate, ↓reduceIte])
      exact ⟨hI2, .inr ⟨_, hJ2⟩⟩
  · obtain rfl : i = L.length := by omega
    repeat' (first | simp (maxSteps := 4000000) (disch := omega) only [go_sem, Nat.reduceBEq, Nat.reduceAdd, Nat.reduceMul, Nat.reduceSub, Nat.reduceLT, Nat.reduceLeDiff, Int.reduceToNat, Int.reduceLT, Int.reduceLE, Int.reduceAdd, Int.reduceMul, Int.reduceSub, Int.reduceNeg, Int.reduceDiv, Int.reduceMod, Nat.reduceBNe, Nat.reduceGT, Int.reduceBEq, Int.reduceBNe, Int.reduceGT, Nat.reduceDiv, Nat.reduceMod, Nat.reducePow, Int.reducePow, gt_iff_lt, ge_iff_le, List.reduceReplicate, ↓reduceIte] | with_reducible refine next_of 1000 ?_)
    exact ⟨hI, .inl (by rw [List.take_length] at hJi; exact hJi)⟩
theorem marks_le {B : Base} {L : List LogV} (h : ∀ g ∈ L, g.Ok B) (m : List UInt8) (hm : m ∈ marksL L) : m.length ≤ 32 := by
  obtain ⟨g, hg, hm⟩ := List.mem_flatMap.1 hm
  rcases List.mem_cons.1 hm with rfl | hm
  · rw [(h g hg).ha]; omega
  · obtain ⟨k, _, rfl⟩ := List.mem_map.1 hm
    simp only [LogV.top, List.length_take]; omega
theorem of_fn (L : List LogV) (n : Nat) (B : Base) (ad : Option Addr) (cap : Nat) (h : LogsAt B ad L) (hn : L.length = n) :
    Does Try.prog 9 [.raw (.slice ad n cap)] B (fun _ : Unit => .agg (ints .u8 (fB (allB zB (marksL L))) 256)) (fun _ _ => True) := by
  refine fn_of en9 (fun s B B' hB hR => hR) Try.func9 rfl in9 (by simp [Try.f9]) (by simp [closeds, closed, closeds_ints]) (fun B0 hB0 => next_of 1000 ?_)
  replace h := h.ext hB0
  subst hn
  repeat' (simp (maxSteps := 4000000) (disch := omega) only [go_sem, Nat.reduceBEq, Nat.reduceAdd, Nat.reduceMul, Nat.reduceSub, Nat.reduceLT, Nat.reduceLeDiff, Int.reduceToNat, Int.reduceLT, Int.reduceLE, Int.reduceAdd, Int.reduceMul, Int.reduceSub, Int.reduceNeg, Int.reduceDiv, Int.reduceMod, Nat.reduceBNe, Nat.reduceGT, Int.reduceBEq, Int.reduceBNe, Int.reduceGT, Nat.reduceDiv, Nat.reduceMod, Nat.reducePow, Int.reducePow, gt_iff_lt, ge_iff_le, List.reduceReplicate, ↓reduceIte, Try.f9])
  refine callS_new (.fn (.func 55) [] [.ptr 0 0]) [.cells [.raw (.slice ad L.length cap)] 22 (0, 0)] en24 (by simp [closed, closeds]) (by simp [EObj.closed, closed, closeds]) (fun bs w _ => marks_calls _ _ _ w) (next_of 1000 ?_)
  repeat' (simp (maxSteps := 4000000) (disch := omega) only [go_sem, Nat.reduceBEq, Nat.reduceAdd, Nat.reduceMul, Nat.reduceSub, Nat.reduceLT, Nat.reduceLeDiff, Int.reduceToNat, Int.reduceLT, Int.reduceLE, Int.reduceAdd, Int.reduceMul, Int.reduceSub, Int.reduceNeg, Int.reduceDiv, Int.reduceMod, Nat.reduceBNe, Nat.reduceGT, Int.reduceBEq, Int.reduceBNe, Int.reduceGT, Nat.reduceDiv, Nat.reduceMod, Nat.reducePow, Int.reducePow, gt_iff_lt, ge_iff_le, List.reduceReplicate, ↓reduceIte])
  refine rangeE rfl rfl en55 (by simp) ⟨by kernel_rfl, by kernel_rfl⟩ (S := Nat)
    (fun k s => s = k) (fun cd s => False) (fun _ => 5)
    (fun s => [(2, some (.cells [.raw (.slice ad L.length cap)] 22 (0, 0))), (1, some (.cells (ints .u8 (fB (allB zB ((marksL L).take s))) 256) 27 (0, 0))), (0, some (.cells (ints .u8 (fun _ => 0) 256) 27 (0, 0)))])
    (fun _ => B0) (0 : Nat) rfl (weak_of (by simp [wσ, go_sem, closed, closeds, lE_closed, closeds_ints, allB, zB_fB] <;> omega) (by simp [whs, Go.Ew.hget, go_sem, EObj.closed, closed, closeds, lE_closed, closeds_ints, allB, zB_fB]) (by simp [*]) rfl rfl (by simp)) (fun s => by simp [hget]) ⟨fun _ _ _ => Nat.le_refl _, fun _ _ h => h.elim⟩ [2] (fun q => B0.D q) (by simp [hget])
    (fun q hq => ⟨hq, fun k s hs => ⟨hq, rfl⟩, fun k s hs => hs.elim⟩)
    (len := (marksL L).length) (enc := encM) (El := elM (marksL L)) (fun a => [.raw (.slice a.1 a.2.1 a.2.2)]) (fun p bs => rfl) (fun p => by simp [closeds, closed]) (fun p => rfl) ?_
    (fun k a w E => ∃ m, (marksL L)[k]? = some m ∧ m.length = a.2.1 ∧ BytesAt ⟨w, E⟩ a.1 m) (fun k a D w E h hE => ?_) ?_ ?_ ?_ ?_ (fun cd s h => h.elim)
  · intro bs w2 hH
    have hl1 := (hH.live 2 _ rfl).2
    refine marks1_iter w2 L (bs 2) cap ad B0.D (fun b hb => (hH.frame b hb).1) (by simp [World.cell?, hl1, EObj.real, reals, real]) (h.ext hH.ext) _ (.inl ⟨2, by simp, rfl⟩) (fun b hb => .inr hb) ?_
    rintro q (⟨i, hi, rfl⟩ | hq)
    · simp only [List.mem_singleton] at hi; subst hi; exact heap_lt hl1
    · exact (hH.frame q hq).1
  · obtain ⟨m, h1, h2, h3⟩ := h
    exact ⟨m, h1, h2, h3.ext ⟨fun b hb => hE b hb.1 hb.2, fun _ _ => rfl, Nat.le_refl _, rfl, rfl, rfl⟩⟩
  · rintro k s ⟨am, nm, cm⟩ l' olds e E r r' rfl hk ⟨m, h1, h2, h3⟩ holds
    have hml : m.length ≤ 32 := marks_le h.ok m (List.mem_of_getElem? h1)
    have e1 : allB zB ((marksL L).take (s + 1)) = withP (allB zB ((marksL L).take s)) m := by
      rw [List.take_add_one, h1, Option.toList_some, allB_append, allB_one]
    obtain ⟨F, hF⟩ : ∃ F, F = allB zB ((marksL L).take s) := ⟨_, rfl⟩
    rw [← hF] at e1
    simp only [← hF]
    simp only at h2 h3
    refine next_of 1000 ?_
    simp (maxSteps := 4000000) (disch := omega) only [go_sem, Nat.reduceBEq, Nat.reduceAdd, Nat.reduceMul, Nat.reduceSub, Nat.reduceLT, Nat.reduceLeDiff, Int.reduceToNat, Int.reduceLT, Int.reduceLE, Int.reduceAdd, Int.reduceMul, Int.reduceSub, Int.reduceNeg, Int.reduceDiv, Int.reduceMod, Nat.reduceBNe, Nat.reduceGT, Int.reduceBEq, Int.reduceBNe, Int.reduceGT, Nat.reduceDiv, Nat.reduceMod, Nat.reducePow, Int.reducePow, gt_iff_lt, ge_iff_le, List.reduceReplicate, ↓reduceIte]
    repeat (with_reducible refine And.intro (by first | omega | assumption | (constructor <;> assumption) | (simp; done) | (simp; omega) | (simp [*]; done) | ((repeat' refine And.intro ?_ ?_) <;> first | omega | assumption | (refine SlOk.so (n := ?_) ?_ ?_; rotate_left; assumption; omega) | (simp; done) | fail) | fail) ?_)
    refine next_of 1000 ?_
    repeat' (simp (maxSteps := 4000000) (disch := omega) only [go_sem, Nat.reduceBEq, Nat.reduceAdd, Nat.reduceMul, Nat.reduceSub, Nat.reduceLT, Nat.reduceLeDiff, Int.reduceToNat, Int.reduceLT, Int.reduceLE, Int.reduceAdd, Int.reduceMul, Int.reduceSub, Int.reduceNeg, Int.reduceDiv, Int.reduceMod, Nat.reduceBNe, Nat.reduceGT, Int.reduceBEq, Int.reduceBNe, Int.reduceGT, Nat.reduceDiv, Nat.reduceMod, Nat.reducePow, Int.reducePow, gt_iff_lt, ge_iff_le, List.reduceReplicate, ↓reduceIte])
    refine callS_fpw en25 (by simp [closed, closeds]) (fun w hw1 hw2 => bits_fn m nm _ am cm (h3.ext ⟨fun b hb => .inr hb, hw2.same, hw2.size, hw2.os, hw2.tape, hw2.output⟩) h2 (by omega)) (by simp [closed, closeds_ints]) (next_of 1000 ?_)
    repeat' (simp (maxSteps := 4000000) (disch := omega) only [go_sem, Nat.reduceBEq, Nat.reduceAdd, Nat.reduceMul, Nat.reduceSub, Nat.reduceLT, Nat.reduceLeDiff, Int.reduceToNat, Int.reduceLT, Int.reduceLE, Int.reduceAdd, Int.reduceMul, Int.reduceSub, Int.reduceNeg, Int.reduceDiv, Int.reduceMod, Nat.reduceBNe, Nat.reduceGT, Int.reduceBEq, Int.reduceBNe, Int.reduceGT, Nat.reduceDiv, Nat.reduceMod, Nat.reducePow, Int.reducePow, gt_iff_lt, ge_iff_le, List.reduceReplicate, ↓reduceIte])
    refine loopU (S := Nat) (fun i => i ≤ 3)
      (fun i => ⟨[(12, .int .i64 (i : Nat)), (11, .agg (ints .i64 (bitsF m) 3)), (8, .fn (.func 55) [] [.ptr 2 0]), (3, .ptr 1 0), (2, .ptr 0 0)], 5, [(4, some (.obj (.loop r'))), (3, some (.obj (.deferred (some [])))), (2, some (.cells [.raw (.slice ad L.length cap)] 22 (0, 0))), (1, some (.cells (ints .u8 (fB (withK F m i)) 256) 27 (0, 0))), (0, some (.cells (ints .u8 (fun _ => 0) 256) 27 (0, 0)))], B0, []⟩)
      (fun i => 3 - i) 0 (by simp) (Weak.sub (weak_of (by simp [wσ, go_sem, closed, closeds, lE_closed, closeds_ints, withK, holds] <;> omega) (by simp [whs, Go.Ew.hget, go_sem, EObj.closed, closed, closeds, lE_closed, closeds_ints, withK, holds]) (by simp [*]) rfl rfl (by simp))) ?_
    intro i hi
    refine next_of 1000 ?_
    simp (maxSteps := 4000000) (disch := omega) only [go_sem, Nat.reduceBEq, Nat.reduceAdd, Nat.reduceMul, Nat.reduceSub, Nat.reduceLT, Nat.reduceLeDiff, Int.reduceToNat, Int.reduceLT, Int.reduceLE, Int.reduceAdd, Int.reduceMul, Int.reduceSub, Int.reduceNeg, Int.reduceDiv, Int.reduceMod, Nat.reduceBNe, Nat.reduceGT, Int.reduceBEq, Int.reduceBNe, Int.reduceGT, Nat.reduceDiv, Nat.reduceMod, Nat.reducePow, Int.reducePow, gt_iff_lt, ge_iff_le, List.reduceReplicate, ↓reduceIte]
    repeat (with_reducible refine And.intro (by first | omega | assumption | (constructor <;> assumption) | (simp; done) | (simp; omega) | (simp [*]; done) | ((repeat' refine And.intro ?_ ?_) <;> first | omega | assumption | (refine SlOk.so (n := ?_) ?_ ?_; rotate_left; assumption; omega) | (simp; done) | fail) | fail) ?_)
    refine condS_split (fun h2 => ?_) (fun h2 => ?_)
    all_goals (try simp only [bne_iff_ne, ne_eq, beq_iff_eq, decide_eq_true_eq, decide_eq_false_iff_not, Bool.not_eq_true, Bool.not_eq_false, Bool.not_true, Bool.not_false, bne_eq_false_iff_eq, beq_eq_false_iff_ne, Bool.and_eq_true, Bool.or_eq_true, Bool.and_eq_false_imp, Bool.or_eq_false_iff, Bool.not_eq_true', Bool.not_eq_false', Int.not_lt, Int.not_le] at h2)
    · have hb := bitN_lt m i
      have e8 : ((255 : Int) - (bitN m i : Int) / 8).toNat = 255 - bitN m i / 8 := by omega
      have e9 : (bitN m i : Int) % 8 = ((bitN m i % 8 : Nat) : Int) := by omega
      have e10 := shl8 (bitN m i % 8) (by omega)
      repeat' (first | with_reducible refine And.intro (by first | omega | assumption | (constructor <;> assumption) | (simp; done) | (simp; omega) | (simp [*]; done) | ((repeat' refine And.intro ?_ ?_) <;> first | omega | assumption | (refine SlOk.so (n := ?_) ?_ ?_; rotate_left; assumption; omega) | (simp; done) | fail) | fail) ?_ | simp (maxSteps := 4000000) (disch := omega) only [go_sem, Nat.reduceBEq, Nat.reduceAdd, Nat.reduceMul, Nat.reduceSub, Nat.reduceLT, Nat.reduceLeDiff, Int.reduceToNat, Int.reduceLT, Int.reduceLE, Int.reduceAdd, Int.reduceMul, Int.reduceSub, Int.reduceNeg, Int.reduceDiv, Int.reduceMod, Nat.reduceBNe, Nat.reduceGT, Int.reduceBEq, Int.reduceBNe, Int.reduceGT, Nat.reduceDiv, Nat.reduceMod, Nat.reducePow, Int.reducePow, gt_iff_lt, ge_iff_le, List.reduceReplicate, ↓reduceIte, Int.toNat_natCast, e8, e9, e10, bitsF_ap, fB_ap, or8, fB_set] | with_reducible refine drawT_of (id := 7) [0, 1, 2, 3, 4, 5, 6, 7, 8, 9, 10] mixed (by kernel_rfl) (by simp) (fun hin => dt_of 1000 hin ?_) | with_reducible refine endT_of (by kernel_rfl) (nmT_of (by kernel_rfl)) (next_of 1000 ?_))
      exact ⟨i + 1, by omega, Weak.sub (weak_of (by simp [wσ, go_sem, closed, closeds, lE_closed, closeds_ints, withK, holds] <;> omega) (by simp [whs, Go.Ew.hget, go_sem, EObj.closed, closed, closeds, lE_closed, closeds_ints, withK, holds]) (by simp [*]) rfl rfl (by simp)), by omega⟩
    · obtain rfl : i = 3 := by omega
      repeat' (first | simp (maxSteps := 4000000) (disch := omega) only [go_sem, Nat.reduceBEq, Nat.reduceAdd, Nat.reduceMul, Nat.reduceSub, Nat.reduceLT, Nat.reduceLeDiff, Int.reduceToNat, Int.reduceLT, Int.reduceLE, Int.reduceAdd, Int.reduceMul, Int.reduceSub, Int.reduceNeg, Int.reduceDiv, Int.reduceMod, Nat.reduceBNe, Nat.reduceGT, Int.reduceBEq, Int.reduceBNe, Int.reduceGT, Nat.reduceDiv, Nat.reduceMod, Nat.reducePow, Int.reducePow, gt_iff_lt, ge_iff_le, List.reduceReplicate, ↓reduceIte] | with_reducible refine next_of 1000 ?_)
      have e2 : withK F m 3 = allB zB ((marksL L).take (s + 1)) := e1.symm
      exact ⟨s + 1, rfl, (weak_of (by simp [wσ, go_sem, closed, closeds, lE_closed, closeds_ints, holds, e2] <;> omega) (by simp [whs, Go.Ew.hget, go_sem, EObj.closed, closed, closeds, lE_closed, closeds_ints, holds, e2]) (by simp [*]) rfl rfl (by simp))⟩
  · rintro s rfl
    rw [List.take_length]
    refine next_of 1000 ?_
    repeat' (simp (maxSteps := 4000000) (disch := omega) only [go_sem, Nat.reduceBEq, Nat.reduceAdd, Nat.reduceMul, Nat.reduceSub, Nat.reduceLT, Nat.reduceLeDiff, Int.reduceToNat, Int.reduceLT, Int.reduceLE, Int.reduceAdd, Int.reduceMul, Int.reduceSub, Int.reduceNeg, Int.reduceDiv, Int.reduceMod, Nat.reduceBNe, Nat.reduceGT, Int.reduceBEq, Int.reduceBNe, Int.reduceGT, Nat.reduceDiv, Nat.reduceMod, Nat.reducePow, Int.reducePow, gt_iff_lt, ge_iff_le, List.reduceReplicate, ↓reduceIte])
    exact ⟨BExt.refl _, (), closeds_ints _ _ _ _⟩
  · intro s hs; exact hs.elim
  · intro id s hs; exact hs.elim
end Go.Proofs.Ytepabkjfnpaijaa

