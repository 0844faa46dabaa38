/- Part of a proof over the seat Ytepabkjfnpaijaa. -/
import Derived.Test.YtepabkjfnpaijaaNB
namespace Go.Proofs.Ytepabkjfnpaijaa
open Go RowKit Go.Ew
set_option maxRecDepth 100000
set_option linter.unusedSimpArgs false
set_option linter.unusedVariables false
set_option maxHeartbeats 4000000
/-- Whether a text is looked for, as far as the first j of the list tell. -/
def hasT (l : List (List UInt8)) (j : Nat) (k : List UInt8) : Bool := decide (l = []) || decide (k ∈ l.take j)
theorem hasT_zero (l : List (List UInt8)) (k : List UInt8) : (((l.length : Nat) : Int) == 0) = hasT l 0 k := by
  rw [Bool.eq_iff_iff]
  simp [hasT]
theorem hasT_succ {l : List (List UInt8)} {j : Nat} {k : List UInt8} (hj : j < l.length) : hasT l (j + 1) k = (hasT l j k || decide (l[j] = k)) := by
  have hl : l ≠ [] := by rintro rfl; simp at hj
  rw [Bool.eq_iff_iff]
  simp only [hasT, List.take_succ_eq_append_getElem hj, decide_eq_false hl, Bool.false_or, Bool.or_eq_true, decide_eq_true_eq, List.mem_append, List.mem_singleton]
  exact ⟨fun h => h.elim .inl (fun h => .inr h.symm), fun h => h.elim .inl (fun h => .inr h.symm)⟩
theorem hasT_all (l : List (List UInt8)) (k : List UInt8) : hasT l l.length k = hasK l k := by rw [hasT, List.take_length]; rfl
theorem looked_fn {B : Base} (g : LogV) (A : List (List UInt8)) (T : List KsV) (n m : Nat) (aA tA : Option Addr) (ac tc : Nat) (hg : g.Ok B) (hA : KeysAt B 20 aA A) (hT : TopsAt B tA T) (hn : A.length = n) (hm : T.length = m) :
    Does Try.prog 31 [.agg g.ev, .raw (.slice aA n ac), .raw (.slice tA m tc)] B (fun _ : Unit => .bool (lookB A (T.map KsV.l) g)) (fun _ _ => True) := by
  have hgc : ∀ n, closeds n g.ev := fun n => logE_closed (by simp [closed]) (by simp [closed])
  refine fn_of en31 (fun s B B' hB hR => hR) Try.func31 rfl in31 (by simp [Try.f31]) ⟨hgc 0, by simp [closed, closeds]⟩ (fun B0 hB0 => next_of 1000 ?_)
  replace hA := hA.ext hB0
  replace hT := hT.ext hB0
  replace hg := hg.ext hB0
  subst hn
  subst hm
  have hlA := hA.len
  have hlT := hT.len
  have ht := hg.tb
  have f1 : oneAll g.ev = true := logE_one rfl rfl
  have f2 : ∀ u v, (logE g.ad u v).length = 22 := fun u v => logE_len hg.ha
  have f3 : ∀ u v d, (logE g.ad u v).getD 20 d = u := fun u v d => logE_20 hg.ha
  have f4 : ∀ u v, List.take 20 (logE g.ad u v) = g.ad.map bE := fun u v => by have := logE_ad (u := u) (v := v) hg.ha; simpa using this
  have hga := hg.ha
  repeat' (simp (maxSteps := 4000000) (disch := omega) only [go_sem, Nat.reduceBEq, Nat.reduceAdd, Nat.reduceMul, Nat.reduceSub, Nat.reduceLT, Nat.reduceLeDiff, Int.reduceToNat, Int.reduceLT, Int.reduceLE, Int.reduceAdd, Int.reduceMul, Int.reduceSub, Int.reduceNeg, Int.reduceDiv, Int.reduceMod, Nat.reduceBNe, Nat.reduceGT, Int.reduceBEq, Int.reduceBNe, Int.reduceGT, Nat.reduceDiv, Nat.reduceMod, Nat.reducePow, Int.reducePow, gt_iff_lt, ge_iff_le, List.reduceReplicate, ↓reduceIte, Try.f31, f1, f2, f3])
  refine loopU (S := Nat) (fun i => i ≤ A.length)
    (fun i => ⟨[(20, .int .i64 (i : Nat)), (19, .int .i64 (A.length : Nat)), (18, .raw (.slice aA A.length ac)), (7, .bool (hasT A i g.ad)), (3, .ptr 0 0), (2, .raw (.slice tA T.length tc))], 1, [(0, some (.cells g.ev 36 (0, 0)))], B0, []⟩)
    (fun i => A.length - i) 0 (Nat.zero_le _) (Weak.sub (weak_of (by simp [wσ, go_sem, closed, closeds, lE_closed, hgc, hasT_zero A g.ad] <;> omega) (by simp [whs, Go.Ew.hget, go_sem, EObj.closed, closed, closeds, lE_closed, hgc, hasT_zero A g.ad]) (by simp [*]) rfl rfl (by simp))) ?_
  intro i hi
  rcases Nat.lt_or_ge i A.length with hi2 | hi2
  · refine next_of 1000 ?_
    simp (maxSteps := 4000000) (disch := omega) only [go_sem, Nat.reduceBEq, Nat.reduceAdd, Nat.reduceMul, Nat.reduceSub, Nat.reduceLT, Nat.reduceLeDiff, Int.reduceToNat, Int.reduceLT, Int.reduceLE, Int.reduceAdd, Int.reduceMul, Int.reduceSub, Int.reduceNeg, Int.reduceDiv, Int.reduceMod, Nat.reduceBNe, Nat.reduceGT, Int.reduceBEq, Int.reduceBNe, Int.reduceGT, Nat.reduceDiv, Nat.reduceMod, Nat.reducePow, Int.reducePow, gt_iff_lt, ge_iff_le, List.reduceReplicate, ↓reduceIte]
    repeat (with_reducible refine And.intro (by first | omega | assumption | (constructor <;> assumption) | (simp; done) | (simp; omega) | (simp [*]; done) | ((repeat' refine And.intro ?_ ?_) <;> first | omega | assumption | (refine SlOk.so (n := ?_) ?_ ?_; rotate_left; assumption; omega) | (simp; done) | fail) | fail) ?_)
    refine condS_split (fun h2 => ?_) (fun h2 => by simp at h2; omega)
    obtain ⟨l1, l2, l3, l4⟩ := hA.ld (by omega) hi2
    have hq := hA.ok _ (List.getElem_mem hi2)
    have hsu := hasT_succ (k := g.ad) hi2
    obtain ⟨q, hq0⟩ : ∃ q, q = A[i] := ⟨_, rfl⟩
    rw [← hq0] at l1 hq hsu
    have q1 := bE_one q
    have q2 : List.take 20 (q.map bE) = q.map bE := List.take_of_length_le (by simp [hq])
    have i1 := bE_isInt q
    have i2 := bE_isInt g.ad
    have e1 := numEq q g.ad
    cases hb : hasT A i g.ad with
    | true =>
      rw [hb, Bool.true_or] at hsu
      repeat' (first | with_reducible refine And.intro (by first | omega | assumption | (constructor <;> assumption) | (simp; done) | (simp; omega) | (simp [*]; done) | ((repeat' refine And.intro ?_ ?_) <;> first | omega | assumption | (refine SlOk.so (n := ?_) ?_ ?_; rotate_left; assumption; omega) | (simp; done) | fail) | fail) ?_ | simp (maxSteps := 4000000) (disch := omega) only [go_sem, Nat.reduceBEq, Nat.reduceAdd, Nat.reduceMul, Nat.reduceSub, Nat.reduceLT, Nat.reduceLeDiff, Int.reduceToNat, Int.reduceLT, Int.reduceLE, Int.reduceAdd, Int.reduceMul, Int.reduceSub, Int.reduceNeg, Int.reduceDiv, Int.reduceMod, Nat.reduceBNe, Nat.reduceGT, Int.reduceBEq, Int.reduceBNe, Int.reduceGT, Nat.reduceDiv, Nat.reduceMod, Nat.reducePow, Int.reducePow, gt_iff_lt, ge_iff_le, List.reduceReplicate, ↓reduceIte, Int.toNat_natCast, l1, q1, q2, List.length_map, hq, bE_splice hq, f1, f2, f3, f4])
      exact ⟨i + 1, hi2, Weak.sub (weak_of (by simp [wσ, go_sem, closed, closeds, lE_closed, hgc, hsu] <;> omega) (by simp [whs, Go.Ew.hget, go_sem, EObj.closed, closed, closeds, lE_closed, hgc, hsu]) (by simp [*]) rfl rfl (by simp)), by omega⟩
    | false =>
      rw [hb, Bool.false_or] at hsu
      repeat' (first | with_reducible refine And.intro (by first | omega | assumption | (constructor <;> assumption) | (simp; done) | (simp; omega) | (simp [*]; done) | ((repeat' refine And.intro ?_ ?_) <;> first | omega | assumption | (refine SlOk.so (n := ?_) ?_ ?_; rotate_left; assumption; omega) | (simp; done) | fail) | fail) ?_ | simp (maxSteps := 4000000) (disch := omega) only [go_sem, Nat.reduceBEq, Nat.reduceAdd, Nat.reduceMul, Nat.reduceSub, Nat.reduceLT, Nat.reduceLeDiff, Int.reduceToNat, Int.reduceLT, Int.reduceLE, Int.reduceAdd, Int.reduceMul, Int.reduceSub, Int.reduceNeg, Int.reduceDiv, Int.reduceMod, Nat.reduceBNe, Nat.reduceGT, Int.reduceBEq, Int.reduceBNe, Int.reduceGT, Nat.reduceDiv, Nat.reduceMod, Nat.reducePow, Int.reducePow, gt_iff_lt, ge_iff_le, List.reduceReplicate, ↓reduceIte, Int.toNat_natCast, l1, q1, q2, List.length_map, hq, bE_splice hq, f1, f2, f3, f4, e1, i1, i2, hga])
      exact ⟨i + 1, hi2, Weak.sub (weak_of (by simp [wσ, go_sem, closed, closeds, lE_closed, hgc, hsu] <;> omega) (by simp [whs, Go.Ew.hget, go_sem, EObj.closed, closed, closeds, lE_closed, hgc, hsu]) (by simp [*]) rfl rfl (by simp)), by omega⟩
  · obtain rfl : i = A.length := by omega
    refine next_of 1000 ?_
    simp (maxSteps := 4000000) (disch := omega) only [go_sem, Nat.reduceBEq, Nat.reduceAdd, Nat.reduceMul, Nat.reduceSub, Nat.reduceLT, Nat.reduceLeDiff, Int.reduceToNat, Int.reduceLT, Int.reduceLE, Int.reduceAdd, Int.reduceMul, Int.reduceSub, Int.reduceNeg, Int.reduceDiv, Int.reduceMod, Nat.reduceBNe, Nat.reduceGT, Int.reduceBEq, Int.reduceBNe, Int.reduceGT, Nat.reduceDiv, Nat.reduceMod, Nat.reducePow, Int.reducePow, gt_iff_lt, ge_iff_le, List.reduceReplicate, ↓reduceIte]
    repeat (with_reducible refine And.intro (by first | omega | assumption | (constructor <;> assumption) | (simp; done) | (simp; omega) | (simp [*]; done) | ((repeat' refine And.intro ?_ ?_) <;> first | omega | assumption | (refine SlOk.so (n := ?_) ?_ ?_; rotate_left; assumption; omega) | (simp; done) | fail) | fail) ?_)
    refine condS_split (fun h2 => by simp at h2) (fun h2 => ?_)
    repeat' (first | simp (maxSteps := 4000000) (disch := omega) only [go_sem, Nat.reduceBEq, Nat.reduceAdd, Nat.reduceMul, Nat.reduceSub, Nat.reduceLT, Nat.reduceLeDiff, Int.reduceToNat, Int.reduceLT, Int.reduceLE, Int.reduceAdd, Int.reduceMul, Int.reduceSub, Int.reduceNeg, Int.reduceDiv, Int.reduceMod, Nat.reduceBNe, Nat.reduceGT, Int.reduceBEq, Int.reduceBNe, Int.reduceGT, Nat.reduceDiv, Nat.reduceMod, Nat.reducePow, Int.reducePow, gt_iff_lt, ge_iff_le, List.reduceReplicate, ↓reduceIte, hasT_all] | with_reducible refine next_of 1000 ?_)
    refine loopU (S := Nat) (fun i => i ≤ T.length ∧ i ≤ g.tn)
      (fun i => ⟨[(34, .int .i64 (i : Nat)), (33, .int .i64 (T.length : Nat)), (32, .raw (.slice tA T.length tc)), (7, .bool (hasK A g.ad && fitK g (T.map KsV.l) i)), (3, .ptr 0 0)], 1, [(0, some (.cells g.ev 36 (0, 0)))], B0, []⟩)
      (fun i => T.length - i) 0 ⟨Nat.zero_le _, Nat.zero_le _⟩ (Weak.sub (weak_of (by simp [wσ, go_sem, closed, closeds, lE_closed, hgc, fitK_zero, Bool.and_true] <;> omega) (by simp [whs, Go.Ew.hget, go_sem, EObj.closed, closed, closeds, lE_closed, hgc, fitK_zero, Bool.and_true]) (by simp [*]) rfl rfl (by simp))) ?_
    rintro i ⟨hi, hit⟩
    rcases Nat.lt_or_ge i T.length with hi2 | hi2
    · refine next_of 1000 ?_
      simp (maxSteps := 4000000) (disch := omega) only [go_sem, Nat.reduceBEq, Nat.reduceAdd, Nat.reduceMul, Nat.reduceSub, Nat.reduceLT, Nat.reduceLeDiff, Int.reduceToNat, Int.reduceLT, Int.reduceLE, Int.reduceAdd, Int.reduceMul, Int.reduceSub, Int.reduceNeg, Int.reduceDiv, Int.reduceMod, Nat.reduceBNe, Nat.reduceGT, Int.reduceBEq, Int.reduceBNe, Int.reduceGT, Nat.reduceDiv, Nat.reduceMod, Nat.reducePow, Int.reducePow, gt_iff_lt, ge_iff_le, List.reduceReplicate, ↓reduceIte]
      repeat (with_reducible refine And.intro (by first | omega | assumption | (constructor <;> assumption) | (simp; done) | (simp; omega) | (simp [*]; done) | ((repeat' refine And.intro ?_ ?_) <;> first | omega | assumption | (refine SlOk.so (n := ?_) ?_ ?_; rotate_left; assumption; omega) | (simp; done) | fail) | fail) ?_)
      refine condS_split (fun h2 => ?_) (fun h2 => by simp at h2; omega)
      obtain ⟨l1, l2, l3, l4⟩ := hT.ld hi2
      have hk := hT.ok _ (List.getElem_mem hi2)
      have hgd : (T.map KsV.l).getD i [] = (T[i]).l := by rw [getD_at (by simpa using hi2)]; simp
      have hsu := fitK_succ g (T.map KsV.l) i
      rw [hgd] at hsu
      obtain ⟨q, hq0⟩ : ∃ q, q = T[i] := ⟨_, rfl⟩
      rw [← hq0] at l1 hk hgd hsu
      have hlk := hk.len
      rcases Nat.lt_or_ge i g.tn with hit2 | hit2
      · have c1 : decide ((g.tn : Int) ≤ (i : Int)) = false := decide_eq_false (by omega)
        have hk0 := top_len hg hit2
        obtain ⟨m1, m2, m3, m4⟩ := hg.ldT hit2
        obtain ⟨k, hk1⟩ : ∃ k, k = g.top i := ⟨_, rfl⟩
        rw [← hk1] at m1 hk0 hsu
        repeat' (first | with_reducible refine And.intro (by first | omega | assumption | (constructor <;> assumption) | (simp; done) | (simp; omega) | (simp [*]; done) | ((repeat' refine And.intro ?_ ?_) <;> first | omega | assumption | (refine SlOk.so (n := ?_) ?_ ?_; rotate_left; assumption; omega) | (simp; done) | fail) | fail) ?_ | simp (maxSteps := 4000000) (disch := omega) only [go_sem, Nat.reduceBEq, Nat.reduceAdd, Nat.reduceMul, Nat.reduceSub, Nat.reduceLT, Nat.reduceLeDiff, Int.reduceToNat, Int.reduceLT, Int.reduceLE, Int.reduceAdd, Int.reduceMul, Int.reduceSub, Int.reduceNeg, Int.reduceDiv, Int.reduceMod, Nat.reduceBNe, Nat.reduceGT, Int.reduceBEq, Int.reduceBNe, Int.reduceGT, Nat.reduceDiv, Nat.reduceMod, Nat.reducePow, Int.reducePow, gt_iff_lt, ge_iff_le, List.reduceReplicate, ↓reduceIte, Int.toNat_natCast, l1, f1, f2, f3, c1])
        refine loopU (S := Nat) (fun j => j ≤ q.l.length)
          (fun j => ⟨[(49, .int .i64 (j : Nat)), (48, .int .i64 (q.l.length : Nat)), (47, .raw (.slice q.ad q.l.length q.c)), (12, .bool (hasT q.l j k)), (10, .int .i64 (i : Nat)), (34, .int .i64 (i : Nat)), (33, .int .i64 (T.length : Nat)), (32, .raw (.slice tA T.length tc)), (7, .bool (hasK A g.ad && fitK g (T.map KsV.l) i)), (3, .ptr 0 0)], 1, [(0, some (.cells g.ev 36 (0, 0)))], B0, []⟩)
          (fun j => q.l.length - j) 0 (Nat.zero_le _) (Weak.sub (weak_of (by simp [wσ, go_sem, closed, closeds, lE_closed, hgc, hasT_zero q.l k] <;> omega) (by simp [whs, Go.Ew.hget, go_sem, EObj.closed, closed, closeds, lE_closed, hgc, hasT_zero q.l k]) (by simp [*]) rfl rfl (by simp))) ?_
        intro j hj
        rcases Nat.lt_or_ge j q.l.length with hj2 | hj2
        · refine next_of 1000 ?_
          simp (maxSteps := 4000000) (disch := omega) only [go_sem, Nat.reduceBEq, Nat.reduceAdd, Nat.reduceMul, Nat.reduceSub, Nat.reduceLT, Nat.reduceLeDiff, Int.reduceToNat, Int.reduceLT, Int.reduceLE, Int.reduceAdd, Int.reduceMul, Int.reduceSub, Int.reduceNeg, Int.reduceDiv, Int.reduceMod, Nat.reduceBNe, Nat.reduceGT, Int.reduceBEq, Int.reduceBNe, Int.reduceGT, Nat.reduceDiv, Nat.reduceMod, Nat.reducePow, Int.reducePow, gt_iff_lt, ge_iff_le, List.reduceReplicate, ↓reduceIte]
          repeat (with_reducible refine And.intro (by first | omega | assumption | (constructor <;> assumption) | (simp; done) | (simp; omega) | (simp [*]; done) | ((repeat' refine And.intro ?_ ?_) <;> first | omega | assumption | (refine SlOk.so (n := ?_) ?_ ?_; rotate_left; assumption; omega) | (simp; done) | fail) | fail) ?_)
          refine condS_split (fun h2 => ?_) (fun h2 => by simp at h2; omega)
          obtain ⟨n1, n2, n3, n4⟩ := hk.ld (by omega) hj2
          have hp := hk.ok _ (List.getElem_mem hj2)
          have hsj := hasT_succ (k := k) hj2
          obtain ⟨p, hp0⟩ : ∃ p, p = q.l[j] := ⟨_, rfl⟩
          rw [← hp0] at n1 hp hsj
          have q1 := bE_one p
          have q2 : List.take 32 (p.map bE) = p.map bE := List.take_of_length_le (by simp [hp])
          have i1 := bE_isInt p
          have i2 := bE_isInt k
          have e1 := numEq p k
          cases hb : hasT q.l j k with
          | true =>
            rw [hb, Bool.true_or] at hsj
            repeat' (first | with_reducible refine And.intro (by first | omega | assumption | (constructor <;> assumption) | (simp; done) | (simp; omega) | (simp [*]; done) | ((repeat' refine And.intro ?_ ?_) <;> first | omega | assumption | (refine SlOk.so (n := ?_) ?_ ?_; rotate_left; assumption; omega) | (simp; done) | fail) | fail) ?_ | simp (maxSteps := 4000000) (disch := omega) only [go_sem, Nat.reduceBEq, Nat.reduceAdd, Nat.reduceMul, Nat.reduceSub, Nat.reduceLT, Nat.reduceLeDiff, Int.reduceToNat, Int.reduceLT, Int.reduceLE, Int.reduceAdd, Int.reduceMul, Int.reduceSub, Int.reduceNeg, Int.reduceDiv, Int.reduceMod, Nat.reduceBNe, Nat.reduceGT, Int.reduceBEq, Int.reduceBNe, Int.reduceGT, Nat.reduceDiv, Nat.reduceMod, Nat.reducePow, Int.reducePow, gt_iff_lt, ge_iff_le, List.reduceReplicate, ↓reduceIte, Int.toNat_natCast, n1, m1, q1, q2, List.length_map, hp, bE_splice hp, f1, f2, f3, f4, e1, i1, i2, hk0] | with_reducible refine drawT_of (id := 16) [0, 1, 2, 3, 4, 5, 6, 7, 8, 9, 10] mixed (by kernel_rfl) (by simp) (fun hin => dt_of 1000 hin ?_) | with_reducible refine endT_of (by kernel_rfl) (nmT_of (by kernel_rfl)) (next_of 1000 ?_))
            exact ⟨j + 1, hj2, Weak.sub (weak_of (by simp [wσ, go_sem, closed, closeds, lE_closed, hgc, hsj] <;> omega) (by simp [whs, Go.Ew.hget, go_sem, EObj.closed, closed, closeds, lE_closed, hgc, hsj]) (by simp [*]) rfl rfl (by simp)), by omega⟩
          | false =>
            rw [hb, Bool.false_or] at hsj
            repeat' (first | with_reducible refine And.intro (by first | omega | assumption | (constructor <;> assumption) | (simp; done) | (simp; omega) | (simp [*]; done) | ((repeat' refine And.intro ?_ ?_) <;> first | omega | assumption | (refine SlOk.so (n := ?_) ?_ ?_; rotate_left; assumption; omega) | (simp; done) | fail) | fail) ?_ | simp (maxSteps := 4000000) (disch := omega) only [go_sem, Nat.reduceBEq, Nat.reduceAdd, Nat.reduceMul, Nat.reduceSub, Nat.reduceLT, Nat.reduceLeDiff, Int.reduceToNat, Int.reduceLT, Int.reduceLE, Int.reduceAdd, Int.reduceMul, Int.reduceSub, Int.reduceNeg, Int.reduceDiv, Int.reduceMod, Nat.reduceBNe, Nat.reduceGT, Int.reduceBEq, Int.reduceBNe, Int.reduceGT, Nat.reduceDiv, Nat.reduceMod, Nat.reducePow, Int.reducePow, gt_iff_lt, ge_iff_le, List.reduceReplicate, ↓reduceIte, Int.toNat_natCast, n1, m1, q1, q2, List.length_map, hp, bE_splice hp, f1, f2, f3, f4, e1, i1, i2, hk0] | with_reducible refine drawT_of (id := 16) [0, 1, 2, 3, 4, 5, 6, 7, 8, 9, 10] mixed (by kernel_rfl) (by simp) (fun hin => dt_of 1000 hin ?_) | with_reducible refine endT_of (by kernel_rfl) (nmT_of (by kernel_rfl)) (next_of 1000 ?_))
            exact ⟨j + 1, hj2, Weak.sub (weak_of (by simp [wσ, go_sem, closed, closeds, lE_closed, hgc, hsj] <;> omega) (by simp [whs, Go.Ew.hget, go_sem, EObj.closed, closed, closeds, lE_closed, hgc, hsj]) (by simp [*]) rfl rfl (by simp)), by omega⟩
        · obtain rfl : j = q.l.length := by omega
          refine next_of 1000 ?_
          simp (maxSteps := 4000000) (disch := omega) only [go_sem, Nat.reduceBEq, Nat.reduceAdd, Nat.reduceMul, Nat.reduceSub, Nat.reduceLT, Nat.reduceLeDiff, Int.reduceToNat, Int.reduceLT, Int.reduceLE, Int.reduceAdd, Int.reduceMul, Int.reduceSub, Int.reduceNeg, Int.reduceDiv, Int.reduceMod, Nat.reduceBNe, Nat.reduceGT, Int.reduceBEq, Int.reduceBNe, Int.reduceGT, Nat.reduceDiv, Nat.reduceMod, Nat.reducePow, Int.reducePow, gt_iff_lt, ge_iff_le, List.reduceReplicate, ↓reduceIte]
          repeat (with_reducible refine And.intro (by first | omega | assumption | (constructor <;> assumption) | (simp; done) | (simp; omega) | (simp [*]; done) | ((repeat' refine And.intro ?_ ?_) <;> first | omega | assumption | (refine SlOk.so (n := ?_) ?_ ?_; rotate_left; assumption; omega) | (simp; done) | fail) | fail) ?_)
          refine condS_split (fun h2 => by simp at h2) (fun h2 => ?_)
          cases hb : (hasK A g.ad && fitK g (T.map KsV.l) i) with
          | true =>
            rw [Bool.and_eq_true] at hb
            repeat' (first | simp (maxSteps := 4000000) (disch := omega) only [go_sem, Nat.reduceBEq, Nat.reduceAdd, Nat.reduceMul, Nat.reduceSub, Nat.reduceLT, Nat.reduceLeDiff, Int.reduceToNat, Int.reduceLT, Int.reduceLE, Int.reduceAdd, Int.reduceMul, Int.reduceSub, Int.reduceNeg, Int.reduceDiv, Int.reduceMod, Nat.reduceBNe, Nat.reduceGT, Int.reduceBEq, Int.reduceBNe, Int.reduceGT, Nat.reduceDiv, Nat.reduceMod, Nat.reducePow, Int.reducePow, gt_iff_lt, ge_iff_le, List.reduceReplicate, ↓reduceIte, hasT_all] | with_reducible refine next_of 1000 ?_)
            exact ⟨i + 1, ⟨hi2, hit2⟩, Weak.sub (weak_of (by simp [wσ, go_sem, closed, closeds, lE_closed, hgc, hsu, hb.1, hb.2, Bool.true_and] <;> omega) (by simp [whs, Go.Ew.hget, go_sem, EObj.closed, closed, closeds, lE_closed, hgc, hsu, hb.1, hb.2, Bool.true_and]) (by simp [*]) rfl rfl (by simp)), by omega⟩
          | false =>
            repeat' (first | simp (maxSteps := 4000000) (disch := omega) only [go_sem, Nat.reduceBEq, Nat.reduceAdd, Nat.reduceMul, Nat.reduceSub, Nat.reduceLT, Nat.reduceLeDiff, Int.reduceToNat, Int.reduceLT, Int.reduceLE, Int.reduceAdd, Int.reduceMul, Int.reduceSub, Int.reduceNeg, Int.reduceDiv, Int.reduceMod, Nat.reduceBNe, Nat.reduceGT, Int.reduceBEq, Int.reduceBNe, Int.reduceGT, Nat.reduceDiv, Nat.reduceMod, Nat.reducePow, Int.reducePow, gt_iff_lt, ge_iff_le, List.reduceReplicate, ↓reduceIte, hasT_all] | with_reducible refine next_of 1000 ?_)
            exact ⟨i + 1, ⟨hi2, hit2⟩, Weak.sub (weak_of (by simp [wσ, go_sem, closed, closeds, lE_closed, hgc, hsu, ← Bool.and_assoc, hb, Bool.false_and] <;> omega) (by simp [whs, Go.Ew.hget, go_sem, EObj.closed, closed, closeds, lE_closed, hgc, hsu, ← Bool.and_assoc, hb, Bool.false_and]) (by simp [*]) rfl rfl (by simp)), by omega⟩
      · have c1 : decide ((g.tn : Int) ≤ (i : Int)) = true := decide_eq_true (by omega)
        repeat' (first | with_reducible refine And.intro (by first | omega | assumption | (constructor <;> assumption) | (simp; done) | (simp; omega) | (simp [*]; done) | ((repeat' refine And.intro ?_ ?_) <;> first | omega | assumption | (refine SlOk.so (n := ?_) ?_ ?_; rotate_left; assumption; omega) | (simp; done) | fail) | fail) ?_ | simp (maxSteps := 4000000) (disch := omega) only [go_sem, Nat.reduceBEq, Nat.reduceAdd, Nat.reduceMul, Nat.reduceSub, Nat.reduceLT, Nat.reduceLeDiff, Int.reduceToNat, Int.reduceLT, Int.reduceLE, Int.reduceAdd, Int.reduceMul, Int.reduceSub, Int.reduceNeg, Int.reduceDiv, Int.reduceMod, Nat.reduceBNe, Nat.reduceGT, Int.reduceBEq, Int.reduceBNe, Int.reduceGT, Nat.reduceDiv, Nat.reduceMod, Nat.reducePow, Int.reducePow, gt_iff_lt, ge_iff_le, List.reduceReplicate, ↓reduceIte, Int.toNat_natCast, l1, f1, f2, f3, c1])
        exact ⟨BExt.refl _, (), by simp only [lookB, fitB, List.length_map]; rw [decide_eq_false (show ¬ T.length ≤ g.tn by omega), Bool.false_and, Bool.and_false], trivial⟩
    · obtain rfl : i = T.length := by omega
      refine next_of 1000 ?_
      simp (maxSteps := 4000000) (disch := omega) only [go_sem, Nat.reduceBEq, Nat.reduceAdd, Nat.reduceMul, Nat.reduceSub, Nat.reduceLT, Nat.reduceLeDiff, Int.reduceToNat, Int.reduceLT, Int.reduceLE, Int.reduceAdd, Int.reduceMul, Int.reduceSub, Int.reduceNeg, Int.reduceDiv, Int.reduceMod, Nat.reduceBNe, Nat.reduceGT, Int.reduceBEq, Int.reduceBNe, Int.reduceGT, Nat.reduceDiv, Nat.reduceMod, Nat.reducePow, Int.reducePow, gt_iff_lt, ge_iff_le, List.reduceReplicate, ↓reduceIte]
      repeat (with_reducible refine And.intro (by first | omega | assumption | (constructor <;> assumption) | (simp; done) | (simp; omega) | (simp [*]; done) | ((repeat' refine And.intro ?_ ?_) <;> first | omega | assumption | (refine SlOk.so (n := ?_) ?_ ?_; rotate_left; assumption; omega) | (simp; done) | fail) | fail) ?_)
      refine condS_split (fun h2 => by simp at h2) (fun h2 => ?_)
      repeat' (first | simp (maxSteps := 4000000) (disch := omega) only [go_sem, Nat.reduceBEq, Nat.reduceAdd, Nat.reduceMul, Nat.reduceSub, Nat.reduceLT, Nat.reduceLeDiff, Int.reduceToNat, Int.reduceLT, Int.reduceLE, Int.reduceAdd, Int.reduceMul, Int.reduceSub, Int.reduceNeg, Int.reduceDiv, Int.reduceMod, Nat.reduceBNe, Nat.reduceGT, Int.reduceBEq, Int.reduceBNe, Int.reduceGT, Nat.reduceDiv, Nat.reduceMod, Nat.reducePow, Int.reducePow, gt_iff_lt, ge_iff_le, List.reduceReplicate, ↓reduceIte] | with_reducible refine next_of 1000 ?_)
      exact ⟨BExt.refl _, (), by simp only [lookB, fitB, List.length_map]; rw [decide_eq_true hit, Bool.true_and], trivial⟩
end Go.Proofs.Ytepabkjfnpaijaa
