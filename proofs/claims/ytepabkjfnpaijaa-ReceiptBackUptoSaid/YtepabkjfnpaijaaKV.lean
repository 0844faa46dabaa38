/- Part of a proof over the seat Ytepabkjfnpaijaa. -/
import Derived.Test.YtepabkjfnpaijaaKU
namespace Go.Proofs.Ytepabkjfnpaijaa
open Go RowKit Go.Ew
set_option maxRecDepth 100000
set_option linter.unusedSimpArgs false
set_option linter.unusedVariables false
set_option maxHeartbeats 4000000
mutual
/-- An item's form. -/
def form : Itm → List UInt8
  | .mk l b ks => if l = 1 then hd 192 (formL ks).length ++ formL ks else if b.length = 1 ∧ b.getD 0 0 < 128 then b else hd 128 b.length ++ b
def formL : List Itm → List UInt8
  | [] => []
  | k :: ks => form k ++ formL ks
end
def pay : Itm → List UInt8
  | .mk l b ks => if l = 1 then formL ks else b
mutual
/-- Whether an item may be. -/
def okI : Itm → Bool
  | .mk l b ks => ((l == 0 && ks.isEmpty) || (l == 1 && b.isEmpty)) && okL ks
def okL : List Itm → Bool
  | [] => true
  | k :: ks => okI k && okL ks
end
theorem okL_iff {ks : List Itm} : okL ks = true ↔ ∀ k ∈ ks, okI k = true := by
  induction ks with
  | nil => simp [okL]
  | cons k ks ih => simp [okL, ih]
theorem formL_append (a b : List Itm) : formL (a ++ b) = formL a ++ formL b := by
  induction a with
  | nil => rfl
  | cons k a ih => simp only [List.cons_append, formL, ih, List.append_assoc]
theorem formL_take {ks : List Itm} {i : Nat} (hi : i < ks.length) : formL (ks.take (i + 1)) = formL (ks.take i) ++ form ks[i] := by
  rw [List.take_succ_eq_append_getElem hi, formL_append]; simp [formL]
theorem formL_le {ks : List Itm} (i : Nat) : (formL (ks.take i)).length ≤ (formL ks).length := by
  have : formL ks = formL (ks.take i) ++ formL (ks.drop i) := by rw [← formL_append, List.take_append_drop]
  rw [this, List.length_append]; omega
theorem form_le {ks : List Itm} {k : Itm} (h : k ∈ ks) : (form k).length ≤ (formL ks).length := by
  obtain ⟨i, hi, rfl⟩ := List.getElem_of_mem h
  have h1 := formL_take hi
  have h2 := formL_le (ks := ks) (i + 1)
  rw [h1, List.length_append] at h2; omega
theorem hd_le {base n : Nat} (h : n < 4611686018427387904) : 1 ≤ (hd base n).length ∧ (hd base n).length ≤ 9 := by
  have := nby_8 (n := n) (by omega)
  rw [hd_len]; split <;> omega
theorem size_fn {B : Base} {t : Itm} {s : Plc} (h : ItAt B t s) (hok : okI t = true) (hf : (form t).length < 1152921504606846976) :
    Does Try.prog 82 [.agg (itE t s)] B (fun _ : Unit => .tup [.int .i64 ((form t).length : Nat), .int .i64 ((pay t).length : Nat)]) (fun _ _ => True) := by
  induction h with
  | mk l b qs s hb hbl hc hql hk ih =>
  have e1 : (Itm.mk l b (qs.map Prod.fst)).list = l := rfl
  have e2 : (Itm.mk l b (qs.map Prod.fst)).bytes = b := rfl
  have e3 : (Itm.mk l b (qs.map Prod.fst)).kids.length = qs.length := List.length_map _
  simp only [itE, e1, e2, e3]
  refine fn_of en82 (fun s B B' hB hR => hR) Try.func82 rfl in82 (by simp [Try.f82]) (by simp [closeds, closed]) (fun B0 hB0 => next_of 1000 ?_)
  replace hb := hb.ext hB0
  replace hc := hc.ext hB0
  obtain ⟨K, hK⟩ : ∃ K, K = qs.map Prod.fst := ⟨_, rfl⟩
  have hKl : K.length = qs.length := by rw [hK, List.length_map]
  rw [← hK] at hok hf
  simp only [← hK]
  simp only [okI, Bool.and_eq_true, Bool.or_eq_true, beq_iff_eq, List.isEmpty_iff] at hok
  obtain ⟨hs, hkids⟩ := hok
  rcases hs with ⟨rfl, hks⟩ | ⟨rfl, rfl⟩
  · subst hks
    have hq0 : qs.length = 0 := by rw [← hKl]; rfl
    have n10 : ((0 : Int) = 1) = False := by simp
    simp only [form, show ((0 : Int) = 1) = False from n10, if_false] at hf
    by_cases h1 : b.length = 1
    · obtain ⟨c0, hc0⟩ : ∃ c0 : UInt8, c0 = b.getD 0 0 := ⟨_, rfl⟩
      have hl0 : rawCell B0 (adrAt s.bA 0) = .int .u8 (c0.toNat : Int) := by rw [hb.ld 0 (by omega), hc0]; rfl
      have hlt : (c0 < 128) = ((c0.toNat : Int) < 128) := propext ⟨fun h => by have : c0.toNat < 128 := h; omega, fun h => by show c0.toNat < 128; omega⟩
      simp only [form, n10, if_false, pay, h1, ← hc0, hlt, true_and]
      have hs0 := hb.lS 0 (by omega)
      have hd0 := hb.lD (by omega)
      have hso := hb.ok.so (by omega)
      have hcr := c0.toNat_lt
      repeat' (first | with_reducible refine And.intro (by first | omega | assumption | (constructor <;> assumption) | (simp; done) | (simp; omega) | (simp [*]; done) | ((repeat' refine And.intro ?_ ?_) <;> first | omega | assumption | (refine SlOk.so (n := ?_) ?_ ?_; rotate_left; assumption; omega) | (simp; done) | fail) | fail) ?_ | simp (maxSteps := 4000000) (disch := omega) only [go_sem, Nat.reduceBEq, Nat.reduceAdd, Nat.reduceMul, Nat.reduceSub, Nat.reduceLT, Nat.reduceLeDiff, Int.reduceToNat, Int.reduceLT, Int.reduceLE, Int.reduceAdd, Int.reduceMul, Int.reduceSub, Int.reduceNeg, Int.reduceDiv, Int.reduceMod, Nat.reduceBNe, Nat.reduceGT, Int.reduceBEq, Int.reduceBNe, Int.reduceGT, Nat.reduceDiv, Nat.reduceMod, Nat.reducePow, Int.reducePow, gt_iff_lt, ge_iff_le, List.reduceReplicate, ↓reduceIte, Try.f82, hl0, Int.toNat_zero] | ((first | refine condS_split (fun h => ?_) (fun h => ?_) | refine testS_split (fun h => ?_) (fun h => ?_) | refine testT_split (fun h => ?_) (fun h => ?_)) <;> (try simp only [bne_iff_ne, ne_eq, beq_iff_eq, decide_eq_true_eq, decide_eq_false_iff_not, Bool.not_eq_true, Bool.not_eq_false, Bool.not_true, Bool.not_false, bne_eq_false_iff_eq, beq_eq_false_iff_ne, Bool.and_eq_true, Bool.or_eq_true, Bool.and_eq_false_imp, Bool.or_eq_false_iff, Bool.not_eq_true', Bool.not_eq_false', Int.not_lt, Int.not_le] at h) <;> (try (exfalso; omega))))
      · rw [if_pos (by assumption), h1]
        exact ⟨BExt.refl _, (), rfl, by simp [closed, closeds]⟩
      · refine callS_f (head_fn 128 1 (by omega) (by omega) _) (fun _ => by simp [closed]) (fun s B2 hB2 hR => next_of 1000 ?_)
        have hh := hd_le (base := 128) (n := 1) (by omega)
        rw [if_neg (by omega), List.length_append, h1]
        repeat' (first | with_reducible refine And.intro (by first | omega | assumption | (constructor <;> assumption) | (simp; done) | (simp; omega) | (simp [*]; done) | ((repeat' refine And.intro ?_ ?_) <;> first | omega | assumption | (refine SlOk.so (n := ?_) ?_ ?_; rotate_left; assumption; omega) | (simp; done) | fail) | fail) ?_ | simp (maxSteps := 4000000) (disch := omega) only [go_sem, Nat.reduceBEq, Nat.reduceAdd, Nat.reduceMul, Nat.reduceSub, Nat.reduceLT, Nat.reduceLeDiff, Int.reduceToNat, Int.reduceLT, Int.reduceLE, Int.reduceAdd, Int.reduceMul, Int.reduceSub, Int.reduceNeg, Int.reduceDiv, Int.reduceMod, Nat.reduceBNe, Nat.reduceGT, Int.reduceBEq, Int.reduceBNe, Int.reduceGT, Nat.reduceDiv, Nat.reduceMod, Nat.reducePow, Int.reducePow, gt_iff_lt, ge_iff_le, List.reduceReplicate, ↓reduceIte])
        exact ⟨(), by simp [Int.add_comm], by simp [closed, closeds]⟩
    · have h1' : ¬ ((b.length : Int) = 1) := by omega
      simp only [form, n10, if_false, pay, show ¬ (b.length = 1 ∧ b.getD 0 0 < 128) from fun h => h1 h.1]
      repeat' (first | with_reducible refine And.intro (by first | omega | assumption | (constructor <;> assumption) | (simp; done) | (simp; omega) | (simp [*]; done) | ((repeat' refine And.intro ?_ ?_) <;> first | omega | assumption | (refine SlOk.so (n := ?_) ?_ ?_; rotate_left; assumption; omega) | (simp; done) | fail) | fail) ?_ | simp (maxSteps := 4000000) (disch := omega) only [go_sem, Nat.reduceBEq, Nat.reduceAdd, Nat.reduceMul, Nat.reduceSub, Nat.reduceLT, Nat.reduceLeDiff, Int.reduceToNat, Int.reduceLT, Int.reduceLE, Int.reduceAdd, Int.reduceMul, Int.reduceSub, Int.reduceNeg, Int.reduceDiv, Int.reduceMod, Nat.reduceBNe, Nat.reduceGT, Int.reduceBEq, Int.reduceBNe, Int.reduceGT, Nat.reduceDiv, Nat.reduceMod, Nat.reducePow, Int.reducePow, gt_iff_lt, ge_iff_le, List.reduceReplicate, ↓reduceIte, Try.f82] | ((first | refine condS_split (fun h => ?_) (fun h => ?_) | refine testS_split (fun h => ?_) (fun h => ?_) | refine testT_split (fun h => ?_) (fun h => ?_)) <;> (try simp only [bne_iff_ne, ne_eq, beq_iff_eq, decide_eq_true_eq, decide_eq_false_iff_not, Bool.not_eq_true, Bool.not_eq_false, Bool.not_true, Bool.not_false, bne_eq_false_iff_eq, beq_eq_false_iff_ne, Bool.and_eq_true, Bool.or_eq_true, Bool.and_eq_false_imp, Bool.or_eq_false_iff, Bool.not_eq_true', Bool.not_eq_false', Int.not_lt, Int.not_le] at h) <;> (try (exfalso; omega))))
      refine callS_f (head_fn 128 b.length (by omega) (by omega) _) (fun _ => by simp [closed]) (fun s B2 hB2 hR => next_of 1000 ?_)
      have hh := hd_le (base := 128) (n := b.length) (by omega)
      rw [List.length_append]
      repeat' (first | with_reducible refine And.intro (by first | omega | assumption | (constructor <;> assumption) | (simp; done) | (simp; omega) | (simp [*]; done) | ((repeat' refine And.intro ?_ ?_) <;> first | omega | assumption | (refine SlOk.so (n := ?_) ?_ ?_; rotate_left; assumption; omega) | (simp; done) | fail) | fail) ?_ | simp (maxSteps := 4000000) (disch := omega) only [go_sem, Nat.reduceBEq, Nat.reduceAdd, Nat.reduceMul, Nat.reduceSub, Nat.reduceLT, Nat.reduceLeDiff, Int.reduceToNat, Int.reduceLT, Int.reduceLE, Int.reduceAdd, Int.reduceMul, Int.reduceSub, Int.reduceNeg, Int.reduceDiv, Int.reduceMod, Nat.reduceBNe, Nat.reduceGT, Int.reduceBEq, Int.reduceBNe, Int.reduceGT, Nat.reduceDiv, Nat.reduceMod, Nat.reducePow, Int.reducePow, gt_iff_lt, ge_iff_le, List.reduceReplicate, ↓reduceIte])
      exact ⟨(), by simp [Int.add_comm], by simp [closed, closeds]⟩
  · simp only [form, ↓reduceIte, List.length_append] at hf
    have ih' : ∀ q ∈ qs, Does Try.prog 82 [.agg (itE q.1 q.2)] B0 (fun _ : Unit => .tup [.int .i64 ((form q.1).length : Nat), .int .i64 ((pay q.1).length : Nat)]) (fun _ _ => True) := fun q hq => by
      have hm : q.1 ∈ K := by rw [hK]; exact List.mem_map_of_mem hq
      exact Does_ext (ih q hq (okL_iff.1 hkids _ hm) (by have := form_le hm; omega)) hB0
    repeat' (first | with_reducible refine And.intro (by first | omega | assumption | (constructor <;> assumption) | (simp; done) | (simp; omega) | (simp [*]; done) | ((repeat' refine And.intro ?_ ?_) <;> first | omega | assumption | (refine SlOk.so (n := ?_) ?_ ?_; rotate_left; assumption; omega) | (simp; done) | fail) | fail) ?_ | simp (maxSteps := 4000000) (disch := omega) only [go_sem, Nat.reduceBEq, Nat.reduceAdd, Nat.reduceMul, Nat.reduceSub, Nat.reduceLT, Nat.reduceLeDiff, Int.reduceToNat, Int.reduceLT, Int.reduceLE, Int.reduceAdd, Int.reduceMul, Int.reduceSub, Int.reduceNeg, Int.reduceDiv, Int.reduceMod, Nat.reduceBNe, Nat.reduceGT, Int.reduceBEq, Int.reduceBNe, Int.reduceGT, Nat.reduceDiv, Nat.reduceMod, Nat.reducePow, Int.reducePow, gt_iff_lt, ge_iff_le, List.reduceReplicate, ↓reduceIte, Try.f82, List.length_nil])
    refine loopU (S := Nat) (fun i => i ≤ qs.length)
      (fun i => ⟨[(18, .int .i64 (i : Nat)), (17, .int .i64 (qs.length : Nat)), (16, .raw (.slice s.kA qs.length s.kc)), (4, .int .i64 ((formL (K.take i)).length : Nat))], 0, [], B0, []⟩)
      (fun i => qs.length - i) 0 (Nat.zero_le _) (Weak.sub (weak_of (by simp [wσ, go_sem, closed, closeds, lE_closed, formL] <;> omega) (by simp [whs, Go.Ew.hget, go_sem, EObj.closed, closed, closeds, lE_closed, formL]) (by simp [*]) rfl rfl (by simp))) ?_
    intro i hi
    have hle := formL_le (ks := K) i
    refine next_of 1000 ?_
    simp (maxSteps := 4000000) (disch := omega) only [go_sem, Nat.reduceBEq, Nat.reduceAdd, Nat.reduceMul, Nat.reduceSub, Nat.reduceLT, Nat.reduceLeDiff, Int.reduceToNat, Int.reduceLT, Int.reduceLE, Int.reduceAdd, Int.reduceMul, Int.reduceSub, Int.reduceNeg, Int.reduceDiv, Int.reduceMod, Nat.reduceBNe, Nat.reduceGT, Int.reduceBEq, Int.reduceBNe, Int.reduceGT, Nat.reduceDiv, Nat.reduceMod, Nat.reducePow, Int.reducePow, gt_iff_lt, ge_iff_le, List.reduceReplicate, ↓reduceIte]
    repeat (with_reducible refine And.intro (by first | omega | assumption | (constructor <;> assumption) | (simp; done) | (simp; omega) | (simp [*]; done) | ((repeat' refine And.intro ?_ ?_) <;> first | omega | assumption | (refine SlOk.so (n := ?_) ?_ ?_; rotate_left; assumption; omega) | (simp; done) | fail) | fail) ?_)
    refine condS_split (fun h2 => ?_) (fun h2 => ?_)
    all_goals (try simp only [bne_iff_ne, ne_eq, beq_iff_eq, decide_eq_true_eq, decide_eq_false_iff_not, Bool.not_eq_true, Bool.not_eq_false, Bool.not_true, Bool.not_false, bne_eq_false_iff_eq, beq_eq_false_iff_ne, Bool.and_eq_true, Bool.or_eq_true, Bool.and_eq_false_imp, Bool.or_eq_false_iff, Bool.not_eq_true', Bool.not_eq_false', Int.not_lt, Int.not_le] at h2)
    · have hi2 : i < qs.length := by omega
      obtain ⟨l1, l2, l3, l4⟩ := kid_ld hc hi2
      have hq := ih' _ (List.getElem_mem hi2)
      have hft := formL_take (ks := K) (i := i) (by omega)
      have hle2 := formL_le (ks := K) (i + 1)
      have hKi : K[i]'(by omega) = qs[i].1 := by simp [hK]
      rw [hKi] at hft
      obtain ⟨q, hq0⟩ : ∃ q, q = qs[i] := ⟨_, rfl⟩
      rw [← hq0] at l1 hq hft
      have hlen : (formL (K.take (i + 1))).length = (formL (K.take i)).length + (form q.1).length := by rw [hft, List.length_append]
      have hcast : ((formL (K.take (i + 1))).length : Int) = ((formL (K.take i)).length : Int) + ((form q.1).length : Int) := by rw [hlen]; push_cast; rfl
      repeat' (first | with_reducible refine And.intro (by first | omega | assumption | (constructor <;> assumption) | (simp; done) | (simp; omega) | (simp [*]; done) | ((repeat' refine And.intro ?_ ?_) <;> first | omega | assumption | (refine SlOk.so (n := ?_) ?_ ?_; rotate_left; assumption; omega) | (simp; done) | fail) | fail) ?_ | simp (maxSteps := 4000000) (disch := omega) only [go_sem, Nat.reduceBEq, Nat.reduceAdd, Nat.reduceMul, Nat.reduceSub, Nat.reduceLT, Nat.reduceLeDiff, Int.reduceToNat, Int.reduceLT, Int.reduceLE, Int.reduceAdd, Int.reduceMul, Int.reduceSub, Int.reduceNeg, Int.reduceDiv, Int.reduceMod, Nat.reduceBNe, Nat.reduceGT, Int.reduceBEq, Int.reduceBNe, Int.reduceGT, Nat.reduceDiv, Nat.reduceMod, Nat.reducePow, Int.reducePow, gt_iff_lt, ge_iff_le, List.reduceReplicate, ↓reduceIte, Int.toNat_natCast, l1] | refine callS_fp (hq) (by simp [closed, closeds, closeds_ints, closed_wE]) (next_of 1000 ?_))
      exact ⟨i + 1, hi2, Weak.sub (weak_of (by simp [wσ, go_sem, closed, closeds, lE_closed, hcast] <;> omega) (by simp [whs, Go.Ew.hget, go_sem, EObj.closed, closed, closeds, lE_closed, hcast]) (by simp [*]) rfl rfl (by simp)), by omega⟩
    · obtain rfl : i = qs.length := by omega
      rw [← hKl, List.take_length] at hle ⊢
      repeat' (first | simp (maxSteps := 4000000) (disch := omega) only [go_sem, Nat.reduceBEq, Nat.reduceAdd, Nat.reduceMul, Nat.reduceSub, Nat.reduceLT, Nat.reduceLeDiff, Int.reduceToNat, Int.reduceLT, Int.reduceLE, Int.reduceAdd, Int.reduceMul, Int.reduceSub, Int.reduceNeg, Int.reduceDiv, Int.reduceMod, Nat.reduceBNe, Nat.reduceGT, Int.reduceBEq, Int.reduceBNe, Int.reduceGT, Nat.reduceDiv, Nat.reduceMod, Nat.reducePow, Int.reducePow, gt_iff_lt, ge_iff_le, List.reduceReplicate, ↓reduceIte] | with_reducible refine next_of 1000 ?_)
      refine callS_f (head_fn 128 (formL K).length (by omega) (by omega) _) (fun _ => by simp [closed]) (fun s B2 hB2 hR => next_of 1000 ?_)
      have hh := hd_le (base := 128) (n := (formL K).length) (by omega)
      have hh2 : (hd 192 (formL K).length).length = (hd 128 (formL K).length).length := by rw [hd_len, hd_len]
      repeat' (first | with_reducible refine And.intro (by first | omega | assumption | (constructor <;> assumption) | (simp; done) | (simp; omega) | (simp [*]; done) | ((repeat' refine And.intro ?_ ?_) <;> first | omega | assumption | (refine SlOk.so (n := ?_) ?_ ?_; rotate_left; assumption; omega) | (simp; done) | fail) | fail) ?_ | simp (maxSteps := 4000000) (disch := omega) only [go_sem, Nat.reduceBEq, Nat.reduceAdd, Nat.reduceMul, Nat.reduceSub, Nat.reduceLT, Nat.reduceLeDiff, Int.reduceToNat, Int.reduceLT, Int.reduceLE, Int.reduceAdd, Int.reduceMul, Int.reduceSub, Int.reduceNeg, Int.reduceDiv, Int.reduceMod, Nat.reduceBNe, Nat.reduceGT, Int.reduceBEq, Int.reduceBNe, Int.reduceGT, Nat.reduceDiv, Nat.reduceMod, Nat.reducePow, Int.reducePow, gt_iff_lt, ge_iff_le, List.reduceReplicate, ↓reduceIte])
      refine ⟨(), ?_, by simp [closed, closeds]⟩
      simp only [form, pay, ↓reduceIte, List.length_append, hh2]
      simp [Int.add_comm]
end Go.Proofs.Ytepabkjfnpaijaa

