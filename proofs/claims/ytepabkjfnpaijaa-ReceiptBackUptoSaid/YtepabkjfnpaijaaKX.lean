/- Part of a proof over the seat Ytepabkjfnpaijaa. -/
import Derived.Test.YtepabkjfnpaijaaKW
namespace Go.Proofs.Ytepabkjfnpaijaa
open Go RowKit Go.Ew
set_option maxRecDepth 100000
set_option linter.unusedSimpArgs false
set_option linter.unusedVariables false
set_option maxHeartbeats 4000000
mutual
/-- Why an item may not be. -/
def chk : Itm → Nat → Int
  | .mk l b ks, d => if l = 1 ∧ 64 ≤ d then 44 else if (l ≠ 0 ∧ l ≠ 1) ∨ (l = 0 ∧ ks ≠ []) ∨ (l = 1 ∧ b ≠ []) then 40 else chkL ks (d + 1)
def chkL : List Itm → Nat → Int
  | [], _ => 0
  | k :: ks, d => if chk k d = 0 then chkL ks d else chk k d
end
theorem chkL_zero {ks : List Itm} {d : Nat} (h : ∀ k ∈ ks, chk k d = 0) : chkL ks d = 0 := by
  induction ks with
  | nil => rfl
  | cons k ks ih => rw [chkL, if_pos (h k (by simp))]; exact ih fun a ha => h a (by simp [ha])
theorem chkL_at {ks : List Itm} {d i : Nat} (hi : i < ks.length) (h : ∀ j (hj : j < i), chk (ks[j]'(by omega)) d = 0) (hn : chk ks[i] d ≠ 0) : chkL ks d = chk ks[i] d := by
  induction ks generalizing i with
  | nil => simp at hi
  | cons k ks ih =>
    cases i with
    | zero => rw [chkL]; simp only [List.getElem_cons_zero] at hn ⊢; rw [if_neg hn]
    | succ i =>
      have h0 := h 0 (by omega)
      simp only [List.getElem_cons_zero] at h0
      rw [chkL, if_pos h0]
      simp only [List.getElem_cons_succ] at hn ⊢
      exact ih (by simpa using hi) (fun j hj => by have := h (j + 1) (by omega); simpa using this) hn
theorem check_fn {B : Base} {t : Itm} {s : Plc} (h : ItAt B t s) : ∀ d : Nat, d ≤ 64 →
    Does Try.prog 59 [.agg (itE t s), .int .i64 (d : Nat)] B (fun _ : Unit => .int .i64 (chk t d)) (fun _ _ => True) := by
  induction h with
  | mk l b qs s hb hbl hc hql hk ih =>
  intro d hd
  have e1 : (Itm.mk l b (qs.map Prod.fst)).list = l := rfl
  have e2 : (Itm.mk l b (qs.map Prod.fst)).bytes = b := rfl
  have e3 : (Itm.mk l b (qs.map Prod.fst)).kids.length = qs.length := List.length_map _
  simp only [itE, e1, e2, e3]
  refine fn_of en59 (fun s B B' hB hR => hR) Try.func59 rfl in59 (by simp [Try.f59]) (by simp [closeds, closed]) (fun B0 hB0 => next_of 1000 ?_)
  replace hc := hc.ext hB0
  obtain ⟨K, hK⟩ : ∃ K, K = qs.map Prod.fst := ⟨_, rfl⟩
  have hKl : K.length = qs.length := by rw [hK, List.length_map]
  have hK0 : (K ≠ []) = (0 < qs.length) := by rw [← hKl]; exact propext List.length_pos_iff.symm
  have hb0 : (b ≠ []) = (0 < b.length) := propext List.length_pos_iff.symm
  simp only [← hK, chk, hK0, hb0]
  by_cases hl1 : l = 1
  · subst hl1
    by_cases hd1 : 64 ≤ d
    · rw [if_pos ⟨rfl, hd1⟩]
      repeat' (first | with_reducible refine And.intro (by first | omega | assumption | (constructor <;> assumption) | (simp; done) | (simp; omega) | (simp [*]; done) | ((repeat' refine And.intro ?_ ?_) <;> first | omega | assumption | (refine SlOk.so (n := ?_) ?_ ?_; rotate_left; assumption; omega) | (simp; done) | fail) | fail) ?_ | simp (maxSteps := 4000000) (disch := omega) only [go_sem, Nat.reduceBEq, Nat.reduceAdd, Nat.reduceMul, Nat.reduceSub, Nat.reduceLT, Nat.reduceLeDiff, Int.reduceToNat, Int.reduceLT, Int.reduceLE, Int.reduceAdd, Int.reduceMul, Int.reduceSub, Int.reduceNeg, Int.reduceDiv, Int.reduceMod, Nat.reduceBNe, Nat.reduceGT, Int.reduceBEq, Int.reduceBNe, Int.reduceGT, Nat.reduceDiv, Nat.reduceMod, Nat.reducePow, Int.reducePow, gt_iff_lt, ge_iff_le, List.reduceReplicate, ↓reduceIte, Try.f59] | ((first | refine condS_split (fun h => ?_) (fun h => ?_) | refine testS_split (fun h => ?_) (fun h => ?_) | refine testT_split (fun h => ?_) (fun h => ?_)) <;> (try simp only [bne_iff_ne, ne_eq, beq_iff_eq, decide_eq_true_eq, decide_eq_false_iff_not, Bool.not_eq_true, Bool.not_eq_false, Bool.not_true, Bool.not_false, bne_eq_false_iff_eq, beq_eq_false_iff_ne, Bool.and_eq_true, Bool.or_eq_true, Bool.and_eq_false_imp, Bool.or_eq_false_iff, Bool.not_eq_true', Bool.not_eq_false', Int.not_lt, Int.not_le] at h) <;> (try (exfalso; omega))))
      exact ⟨BExt.refl _, (), by simp [closed]⟩
    · rw [if_neg (by omega)]
      by_cases hbl0 : 0 < b.length
      · rw [if_pos (.inr (.inr ⟨rfl, hbl0⟩))]
        repeat' (first | with_reducible refine And.intro (by first | omega | assumption | (constructor <;> assumption) | (simp; done) | (simp; omega) | (simp [*]; done) | ((repeat' refine And.intro ?_ ?_) <;> first | omega | assumption | (refine SlOk.so (n := ?_) ?_ ?_; rotate_left; assumption; omega) | (simp; done) | fail) | fail) ?_ | simp (maxSteps := 4000000) (disch := omega) only [go_sem, Nat.reduceBEq, Nat.reduceAdd, Nat.reduceMul, Nat.reduceSub, Nat.reduceLT, Nat.reduceLeDiff, Int.reduceToNat, Int.reduceLT, Int.reduceLE, Int.reduceAdd, Int.reduceMul, Int.reduceSub, Int.reduceNeg, Int.reduceDiv, Int.reduceMod, Nat.reduceBNe, Nat.reduceGT, Int.reduceBEq, Int.reduceBNe, Int.reduceGT, Nat.reduceDiv, Nat.reduceMod, Nat.reducePow, Int.reducePow, gt_iff_lt, ge_iff_le, List.reduceReplicate, ↓reduceIte, Try.f59] | ((first | refine condS_split (fun h => ?_) (fun h => ?_) | refine testS_split (fun h => ?_) (fun h => ?_) | refine testT_split (fun h => ?_) (fun h => ?_)) <;> (try simp only [bne_iff_ne, ne_eq, beq_iff_eq, decide_eq_true_eq, decide_eq_false_iff_not, Bool.not_eq_true, Bool.not_eq_false, Bool.not_true, Bool.not_false, bne_eq_false_iff_eq, beq_eq_false_iff_ne, Bool.and_eq_true, Bool.or_eq_true, Bool.and_eq_false_imp, Bool.or_eq_false_iff, Bool.not_eq_true', Bool.not_eq_false', Int.not_lt, Int.not_le] at h) <;> (try (exfalso; omega))))
        exact ⟨BExt.refl _, (), by simp [closed]⟩
      · rw [if_neg (by omega)]
        have ih' : ∀ q ∈ qs, Does Try.prog 59 [.agg (itE q.1 q.2), .int .i64 ((d + 1 : Nat) : Int)] B0 (fun _ : Unit => .int .i64 (chk q.1 (d + 1))) (fun _ _ => True) := fun q hq => Does_ext (ih q hq (d + 1) (by omega)) hB0
        repeat' (first | with_reducible refine And.intro (by first | omega | assumption | (constructor <;> assumption) | (simp; done) | (simp; omega) | (simp [*]; done) | ((repeat' refine And.intro ?_ ?_) <;> first | omega | assumption | (refine SlOk.so (n := ?_) ?_ ?_; rotate_left; assumption; omega) | (simp; done) | fail) | fail) ?_ | simp (maxSteps := 4000000) (disch := omega) only [go_sem, Nat.reduceBEq, Nat.reduceAdd, Nat.reduceMul, Nat.reduceSub, Nat.reduceLT, Nat.reduceLeDiff, Int.reduceToNat, Int.reduceLT, Int.reduceLE, Int.reduceAdd, Int.reduceMul, Int.reduceSub, Int.reduceNeg, Int.reduceDiv, Int.reduceMod, Nat.reduceBNe, Nat.reduceGT, Int.reduceBEq, Int.reduceBNe, Int.reduceGT, Nat.reduceDiv, Nat.reduceMod, Nat.reducePow, Int.reducePow, gt_iff_lt, ge_iff_le, List.reduceReplicate, ↓reduceIte, Try.f59] | ((first | refine condS_split (fun h => ?_) (fun h => ?_) | refine testS_split (fun h => ?_) (fun h => ?_) | refine testT_split (fun h => ?_) (fun h => ?_)) <;> (try simp only [bne_iff_ne, ne_eq, beq_iff_eq, decide_eq_true_eq, decide_eq_false_iff_not, Bool.not_eq_true, Bool.not_eq_false, Bool.not_true, Bool.not_false, bne_eq_false_iff_eq, beq_eq_false_iff_ne, Bool.and_eq_true, Bool.or_eq_true, Bool.and_eq_false_imp, Bool.or_eq_false_iff, Bool.not_eq_true', Bool.not_eq_false', Int.not_lt, Int.not_le] at h) <;> (try (exfalso; omega))))
        refine callS_new (.fn (.func 102) [] [.ptr 1 0]) [.cells [.int .i64 1, .raw (.slice s.bA b.length s.bc), .raw (.slice s.kA qs.length s.kc)] 79 (0, 0), .cells [.raw (.slice s.kA qs.length s.kc)] 77 (0, 0)] en81 (by simp [closed, closeds]) (by simp [EObj.closed, closed, closeds]) (fun bs w _ => by rw [reals_closed0 bs (fun _ => 0) (by simp [closeds, closed])]; exact kids_calls _ _ _ _ _ _ _ w) (next_of 1000 ?_)
        repeat' (simp (maxSteps := 4000000) (disch := omega) only [go_sem, Nat.reduceBEq, Nat.reduceAdd, Nat.reduceMul, Nat.reduceSub, Nat.reduceLT, Nat.reduceLeDiff, Int.reduceToNat, Int.reduceLT, Int.reduceLE, Int.reduceAdd, Int.reduceMul, Int.reduceSub, Int.reduceNeg, Int.reduceDiv, Int.reduceMod, Nat.reduceBNe, Nat.reduceGT, Int.reduceBEq, Int.reduceBNe, Int.reduceGT, Nat.reduceDiv, Nat.reduceMod, Nat.reducePow, Int.reducePow, gt_iff_lt, ge_iff_le, List.reduceReplicate, ↓reduceIte])
        refine rangeS rfl rfl en102 (by simp) ⟨by kernel_rfl, by kernel_rfl⟩ (S := Int)
          (fun k e => e = 0 ∧ ∀ j, j < k → ∀ q, qs[j]? = some q → chk q.1 (d + 1) = 0) (fun cd e => cd = .ret ∧ e ≠ 0 ∧ chkL K (d + 1) = e) (fun _ => 7)
          (fun e => [(4, some (.cells [.raw (.slice s.kA qs.length s.kc)] 77 (0, 0))), (2, some (.cells [.int .i64 e] 49 (0, 0))), (1, some (.cells [.int .i64 (d : Nat)] 3 (0, 0)))])
          (fun _ => B0) (0 : Int) ⟨rfl, fun j hj => absurd hj (Nat.not_lt_zero j)⟩ (weak_of (by simp [wσ, go_sem, closed, closeds, lE_closed] <;> omega) (by simp [whs, Go.Ew.hget, go_sem, EObj.closed, closed, closeds, lE_closed]) (by simp [*]) rfl rfl (by simp)) (fun s => by simp [hget]) ⟨fun _ _ _ => Nat.le_refl _, fun _ _ _ => Nat.le_refl _⟩ [4] (fun q => B0.D q) (by simp [hget])
          (fun q hq => ⟨hq, fun k s hs => ⟨hq, rfl⟩, fun k s hs => ⟨hq, rfl⟩⟩)
          (len := qs.length) (enc := encQ) (El := fun k q _ _ => qs[k]? = some q) (fun q => [.agg (itE q.1 q.2)]) (fun q bs => by simp only [encQ]; rw [reals_closed0 bs (fun _ => 0) (by simp [closeds, closed])]) (fun q => by simp [closeds, closed]) (fun q => rfl) ?_
          (fun k q => qs[k]? = some q) (fun k q D w h => h) ?_ ?_ ?_ ?_ (fun cd s h => .inl h.1)
        · intro bs w2 hH
          have hl1 := (hH.live 4 _ rfl).2
          refine vals_iter w2 qs (bs 4) s.kc s.kA B0.D (fun b hb => (hH.frame b hb).1) (by simp [World.cell?, hl1, EObj.real, reals, real]) (hc.ext hH.ext) hql _ (.inl ⟨4, by simp, rfl⟩) (fun b hb => .inr hb) ?_
          rintro q (⟨i, hi, rfl⟩ | hq)
          · simp only [List.mem_singleton] at hi; subst hi; exact heap_lt hl1
          · exact (hH.frame q hq).1
        · rintro k e q l' olds e' E r r' ⟨rfl, hz⟩ hk2 hq holds
          have hx := ih' q (List.mem_of_getElem? hq)
          obtain ⟨ec, hec⟩ : ∃ ec, ec = chk q.1 (d + 1) := ⟨_, rfl⟩
          rw [← hec] at hx
          have hcast : ((d : Int) + 1) = ((d + 1 : Nat) : Int) := by push_cast; rfl
          refine next_of 1000 ?_
          repeat' (first | simp (maxSteps := 4000000) (disch := omega) only [go_sem, Nat.reduceBEq, Nat.reduceAdd, Nat.reduceMul, Nat.reduceSub, Nat.reduceLT, Nat.reduceLeDiff, Int.reduceToNat, Int.reduceLT, Int.reduceLE, Int.reduceAdd, Int.reduceMul, Int.reduceSub, Int.reduceNeg, Int.reduceDiv, Int.reduceMod, Nat.reduceBNe, Nat.reduceGT, Int.reduceBEq, Int.reduceBNe, Int.reduceGT, Nat.reduceDiv, Nat.reduceMod, Nat.reducePow, Int.reducePow, gt_iff_lt, ge_iff_le, List.reduceReplicate, ↓reduceIte, hcast] | refine callS_fp (hx) (by simp [closed, closeds, closeds_ints, closed_wE]) (next_of 1000 ?_) | with_reducible refine next_of 1000 ?_ | ((first | refine condS_split (fun h => ?_) (fun h => ?_) | refine testS_split (fun h => ?_) (fun h => ?_) | refine testT_split (fun h => ?_) (fun h => ?_)) <;> (try simp only [bne_iff_ne, ne_eq, beq_iff_eq, decide_eq_true_eq, decide_eq_false_iff_not, Bool.not_eq_true, Bool.not_eq_false, Bool.not_true, Bool.not_false, bne_eq_false_iff_eq, beq_eq_false_iff_ne, Bool.and_eq_true, Bool.or_eq_true, Bool.and_eq_false_imp, Bool.or_eq_false_iff, Bool.not_eq_true', Bool.not_eq_false', Int.not_lt, Int.not_le] at h) <;> (try (exfalso; omega))))
          · refine ⟨ec, ⟨by assumption, ?_⟩, (weak_of (by simp [wσ, go_sem, closed, closeds, lE_closed, holds] <;> omega) (by simp [whs, Go.Ew.hget, go_sem, EObj.closed, closed, closeds, lE_closed, holds]) (by simp [*]) rfl rfl (by simp))⟩
            obtain ⟨hlt, hge⟩ := List.getElem?_eq_some_iff.1 hq
            have hKk : K[k]'(by omega) = q.1 := by simp [hK, hge]
            rw [chkL_at (ks := K) (i := k) (by omega) (fun j hj => by
              have := hz j hj (qs[j]'(by omega)) (List.getElem?_eq_getElem (by omega))
              simpa [hK] using this) (by rw [hKk, ← hec]; assumption), hKk, ← hec]
          · refine ⟨0, ⟨rfl, fun j hj q' hq' => ?_⟩, (weak_of (by simp [wσ, go_sem, closed, closeds, lE_closed, holds] <;> omega) (by simp [whs, Go.Ew.hget, go_sem, EObj.closed, closed, closeds, lE_closed, holds]) (by simp [*]) rfl rfl (by simp))⟩
            rcases Nat.lt_or_ge j k with h3 | h3
            · exact hz j h3 q' hq'
            · obtain rfl : j = k := by omega
              rw [hq] at hq'; cases hq'
              rw [← hec]; assumption
        · rintro e ⟨rfl, hz⟩
          have hz0 : chkL K (d + 1) = 0 := chkL_zero fun k hk2 => by
            rw [hK] at hk2
            obtain ⟨q, hq, rfl⟩ := List.mem_map.1 hk2
            obtain ⟨i, hi, rfl⟩ := List.getElem_of_mem hq
            exact hz i hi _ (List.getElem?_eq_getElem hi)
          rw [hz0]
          refine next_of 1000 ?_
          repeat' (simp (maxSteps := 4000000) (disch := omega) only [go_sem, Nat.reduceBEq, Nat.reduceAdd, Nat.reduceMul, Nat.reduceSub, Nat.reduceLT, Nat.reduceLeDiff, Int.reduceToNat, Int.reduceLT, Int.reduceLE, Int.reduceAdd, Int.reduceMul, Int.reduceSub, Int.reduceNeg, Int.reduceDiv, Int.reduceMod, Nat.reduceBNe, Nat.reduceGT, Int.reduceBEq, Int.reduceBNe, Int.reduceGT, Nat.reduceDiv, Nat.reduceMod, Nat.reducePow, Int.reducePow, gt_iff_lt, ge_iff_le, List.reduceReplicate, ↓reduceIte])
          exact ⟨BExt.refl _, (), trivial⟩
        · rintro e ⟨_, hne, he⟩
          rw [he]
          repeat' (simp (maxSteps := 4000000) (disch := omega) only [go_sem, Nat.reduceBEq, Nat.reduceAdd, Nat.reduceMul, Nat.reduceSub, Nat.reduceLT, Nat.reduceLeDiff, Int.reduceToNat, Int.reduceLT, Int.reduceLE, Int.reduceAdd, Int.reduceMul, Int.reduceSub, Int.reduceNeg, Int.reduceDiv, Int.reduceMod, Nat.reduceBNe, Nat.reduceGT, Int.reduceBEq, Int.reduceBNe, Int.reduceGT, Nat.reduceDiv, Nat.reduceMod, Nat.reducePow, Int.reducePow, gt_iff_lt, ge_iff_le, List.reduceReplicate, ↓reduceIte])
          exact ⟨BExt.refl _, (), by simp [closed]⟩
        · rintro id e ⟨h, _⟩; cases h
  · rw [if_neg (fun h => hl1 h.1)]
    by_cases hl0 : l = 0
    · subst hl0
      by_cases hq0 : 0 < qs.length
      · rw [if_pos (.inr (.inl ⟨rfl, hq0⟩))]
        repeat' (first | with_reducible refine And.intro (by first | omega | assumption | (constructor <;> assumption) | (simp; done) | (simp; omega) | (simp [*]; done) | ((repeat' refine And.intro ?_ ?_) <;> first | omega | assumption | (refine SlOk.so (n := ?_) ?_ ?_; rotate_left; assumption; omega) | (simp; done) | fail) | fail) ?_ | simp (maxSteps := 4000000) (disch := omega) only [go_sem, Nat.reduceBEq, Nat.reduceAdd, Nat.reduceMul, Nat.reduceSub, Nat.reduceLT, Nat.reduceLeDiff, Int.reduceToNat, Int.reduceLT, Int.reduceLE, Int.reduceAdd, Int.reduceMul, Int.reduceSub, Int.reduceNeg, Int.reduceDiv, Int.reduceMod, Nat.reduceBNe, Nat.reduceGT, Int.reduceBEq, Int.reduceBNe, Int.reduceGT, Nat.reduceDiv, Nat.reduceMod, Nat.reducePow, Int.reducePow, gt_iff_lt, ge_iff_le, List.reduceReplicate, ↓reduceIte, Try.f59] | ((first | refine condS_split (fun h => ?_) (fun h => ?_) | refine testS_split (fun h => ?_) (fun h => ?_) | refine testT_split (fun h => ?_) (fun h => ?_)) <;> (try simp only [bne_iff_ne, ne_eq, beq_iff_eq, decide_eq_true_eq, decide_eq_false_iff_not, Bool.not_eq_true, Bool.not_eq_false, Bool.not_true, Bool.not_false, bne_eq_false_iff_eq, beq_eq_false_iff_ne, Bool.and_eq_true, Bool.or_eq_true, Bool.and_eq_false_imp, Bool.or_eq_false_iff, Bool.not_eq_true', Bool.not_eq_false', Int.not_lt, Int.not_le] at h) <;> (try (exfalso; omega))))
        exact ⟨BExt.refl _, (), by simp [closed]⟩
      · rw [if_neg (by omega)]
        have ih' : ∀ q ∈ qs, Does Try.prog 59 [.agg (itE q.1 q.2), .int .i64 ((d + 1 : Nat) : Int)] B0 (fun _ : Unit => .int .i64 (chk q.1 (d + 1))) (fun _ _ => True) := fun q hq => by
          have := List.length_pos_of_mem hq; omega
        repeat' (first | with_reducible refine And.intro (by first | omega | assumption | (constructor <;> assumption) | (simp; done) | (simp; omega) | (simp [*]; done) | ((repeat' refine And.intro ?_ ?_) <;> first | omega | assumption | (refine SlOk.so (n := ?_) ?_ ?_; rotate_left; assumption; omega) | (simp; done) | fail) | fail) ?_ | simp (maxSteps := 4000000) (disch := omega) only [go_sem, Nat.reduceBEq, Nat.reduceAdd, Nat.reduceMul, Nat.reduceSub, Nat.reduceLT, Nat.reduceLeDiff, Int.reduceToNat, Int.reduceLT, Int.reduceLE, Int.reduceAdd, Int.reduceMul, Int.reduceSub, Int.reduceNeg, Int.reduceDiv, Int.reduceMod, Nat.reduceBNe, Nat.reduceGT, Int.reduceBEq, Int.reduceBNe, Int.reduceGT, Nat.reduceDiv, Nat.reduceMod, Nat.reducePow, Int.reducePow, gt_iff_lt, ge_iff_le, List.reduceReplicate, ↓reduceIte, Try.f59] | ((first | refine condS_split (fun h => ?_) (fun h => ?_) | refine testS_split (fun h => ?_) (fun h => ?_) | refine testT_split (fun h => ?_) (fun h => ?_)) <;> (try simp only [bne_iff_ne, ne_eq, beq_iff_eq, decide_eq_true_eq, decide_eq_false_iff_not, Bool.not_eq_true, Bool.not_eq_false, Bool.not_true, Bool.not_false, bne_eq_false_iff_eq, beq_eq_false_iff_ne, Bool.and_eq_true, Bool.or_eq_true, Bool.and_eq_false_imp, Bool.or_eq_false_iff, Bool.not_eq_true', Bool.not_eq_false', Int.not_lt, Int.not_le] at h) <;> (try (exfalso; omega))))
        refine callS_new (.fn (.func 102) [] [.ptr 1 0]) [.cells [.int .i64 0, .raw (.slice s.bA b.length s.bc), .raw (.slice s.kA qs.length s.kc)] 79 (0, 0), .cells [.raw (.slice s.kA qs.length s.kc)] 77 (0, 0)] en81 (by simp [closed, closeds]) (by simp [EObj.closed, closed, closeds]) (fun bs w _ => by rw [reals_closed0 bs (fun _ => 0) (by simp [closeds, closed])]; exact kids_calls _ _ _ _ _ _ _ w) (next_of 1000 ?_)
        repeat' (simp (maxSteps := 4000000) (disch := omega) only [go_sem, Nat.reduceBEq, Nat.reduceAdd, Nat.reduceMul, Nat.reduceSub, Nat.reduceLT, Nat.reduceLeDiff, Int.reduceToNat, Int.reduceLT, Int.reduceLE, Int.reduceAdd, Int.reduceMul, Int.reduceSub, Int.reduceNeg, Int.reduceDiv, Int.reduceMod, Nat.reduceBNe, Nat.reduceGT, Int.reduceBEq, Int.reduceBNe, Int.reduceGT, Nat.reduceDiv, Nat.reduceMod, Nat.reducePow, Int.reducePow, gt_iff_lt, ge_iff_le, List.reduceReplicate, ↓reduceIte])
        refine rangeS rfl rfl en102 (by simp) ⟨by kernel_rfl, by kernel_rfl⟩ (S := Int)
          (fun k e => e = 0 ∧ ∀ j, j < k → ∀ q, qs[j]? = some q → chk q.1 (d + 1) = 0) (fun cd e => cd = .ret ∧ e ≠ 0 ∧ chkL K (d + 1) = e) (fun _ => 7)
          (fun e => [(4, some (.cells [.raw (.slice s.kA qs.length s.kc)] 77 (0, 0))), (2, some (.cells [.int .i64 e] 49 (0, 0))), (1, some (.cells [.int .i64 (d : Nat)] 3 (0, 0)))])
          (fun _ => B0) (0 : Int) ⟨rfl, fun j hj => absurd hj (Nat.not_lt_zero j)⟩ (weak_of (by simp [wσ, go_sem, closed, closeds, lE_closed] <;> omega) (by simp [whs, Go.Ew.hget, go_sem, EObj.closed, closed, closeds, lE_closed]) (by simp [*]) rfl rfl (by simp)) (fun s => by simp [hget]) ⟨fun _ _ _ => Nat.le_refl _, fun _ _ _ => Nat.le_refl _⟩ [4] (fun q => B0.D q) (by simp [hget])
          (fun q hq => ⟨hq, fun k s hs => ⟨hq, rfl⟩, fun k s hs => ⟨hq, rfl⟩⟩)
          (len := qs.length) (enc := encQ) (El := fun k q _ _ => qs[k]? = some q) (fun q => [.agg (itE q.1 q.2)]) (fun q bs => by simp only [encQ]; rw [reals_closed0 bs (fun _ => 0) (by simp [closeds, closed])]) (fun q => by simp [closeds, closed]) (fun q => rfl) ?_
          (fun k q => qs[k]? = some q) (fun k q D w h => h) ?_ ?_ ?_ ?_ (fun cd s h => .inl h.1)
        · intro bs w2 hH
          have hl1 := (hH.live 4 _ rfl).2
          refine vals_iter w2 qs (bs 4) s.kc s.kA B0.D (fun b hb => (hH.frame b hb).1) (by simp [World.cell?, hl1, EObj.real, reals, real]) (hc.ext hH.ext) hql _ (.inl ⟨4, by simp, rfl⟩) (fun b hb => .inr hb) ?_
          rintro q (⟨i, hi, rfl⟩ | hq)
          · simp only [List.mem_singleton] at hi; subst hi; exact heap_lt hl1
          · exact (hH.frame q hq).1
        · rintro k e q l' olds e' E r r' ⟨rfl, hz⟩ hk2 hq holds
          omega
        · rintro e ⟨rfl, hz⟩
          have hz0 : chkL K (d + 1) = 0 := chkL_zero fun k hk2 => by
            rw [hK] at hk2
            obtain ⟨q, hq, rfl⟩ := List.mem_map.1 hk2
            obtain ⟨i, hi, rfl⟩ := List.getElem_of_mem hq
            exact hz i hi _ (List.getElem?_eq_getElem hi)
          rw [hz0]
          refine next_of 1000 ?_
          repeat' (simp (maxSteps := 4000000) (disch := omega) only [go_sem, Nat.reduceBEq, Nat.reduceAdd, Nat.reduceMul, Nat.reduceSub, Nat.reduceLT, Nat.reduceLeDiff, Int.reduceToNat, Int.reduceLT, Int.reduceLE, Int.reduceAdd, Int.reduceMul, Int.reduceSub, Int.reduceNeg, Int.reduceDiv, Int.reduceMod, Nat.reduceBNe, Nat.reduceGT, Int.reduceBEq, Int.reduceBNe, Int.reduceGT, Nat.reduceDiv, Nat.reduceMod, Nat.reducePow, Int.reducePow, gt_iff_lt, ge_iff_le, List.reduceReplicate, ↓reduceIte])
          exact ⟨BExt.refl _, (), trivial⟩
        · rintro e ⟨_, hne, he⟩
          rw [he]
          repeat' (simp (maxSteps := 4000000) (disch := omega) only [go_sem, Nat.reduceBEq, Nat.reduceAdd, Nat.reduceMul, Nat.reduceSub, Nat.reduceLT, Nat.reduceLeDiff, Int.reduceToNat, Int.reduceLT, Int.reduceLE, Int.reduceAdd, Int.reduceMul, Int.reduceSub, Int.reduceNeg, Int.reduceDiv, Int.reduceMod, Nat.reduceBNe, Nat.reduceGT, Int.reduceBEq, Int.reduceBNe, Int.reduceGT, Nat.reduceDiv, Nat.reduceMod, Nat.reducePow, Int.reducePow, gt_iff_lt, ge_iff_le, List.reduceReplicate, ↓reduceIte])
          exact ⟨BExt.refl _, (), by simp [closed]⟩
        · rintro id e ⟨h, _⟩; cases h
    · rw [if_pos (.inl ⟨hl0, hl1⟩)]
      repeat' (first | with_reducible refine And.intro (by first | omega | assumption | (constructor <;> assumption) | (simp; done) | (simp; omega) | (simp [*]; done) | ((repeat' refine And.intro ?_ ?_) <;> first | omega | assumption | (refine SlOk.so (n := ?_) ?_ ?_; rotate_left; assumption; omega) | (simp; done) | fail) | fail) ?_ | simp (maxSteps := 4000000) (disch := omega) only [go_sem, Nat.reduceBEq, Nat.reduceAdd, Nat.reduceMul, Nat.reduceSub, Nat.reduceLT, Nat.reduceLeDiff, Int.reduceToNat, Int.reduceLT, Int.reduceLE, Int.reduceAdd, Int.reduceMul, Int.reduceSub, Int.reduceNeg, Int.reduceDiv, Int.reduceMod, Nat.reduceBNe, Nat.reduceGT, Int.reduceBEq, Int.reduceBNe, Int.reduceGT, Nat.reduceDiv, Nat.reduceMod, Nat.reducePow, Int.reducePow, gt_iff_lt, ge_iff_le, List.reduceReplicate, ↓reduceIte, Try.f59] | ((first | refine condS_split (fun h => ?_) (fun h => ?_) | refine testS_split (fun h => ?_) (fun h => ?_) | refine testT_split (fun h => ?_) (fun h => ?_)) <;> (try simp only [bne_iff_ne, ne_eq, beq_iff_eq, decide_eq_true_eq, decide_eq_false_iff_not, Bool.not_eq_true, Bool.not_eq_false, Bool.not_true, Bool.not_false, bne_eq_false_iff_eq, beq_eq_false_iff_ne, Bool.and_eq_true, Bool.or_eq_true, Bool.and_eq_false_imp, Bool.or_eq_false_iff, Bool.not_eq_true', Bool.not_eq_false', Int.not_lt, Int.not_le] at h) <;> (try (exfalso; omega))))
      exact ⟨BExt.refl _, (), by simp [closed]⟩
end Go.Proofs.Ytepabkjfnpaijaa

