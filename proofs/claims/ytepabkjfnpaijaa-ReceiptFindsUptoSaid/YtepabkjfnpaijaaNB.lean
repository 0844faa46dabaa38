/- Part of a proof over the seat Ytepabkjfnpaijaa. -/
import Derived.Test.YtepabkjfnpaijaaNA
import Derived.Test.YtepabkjfnpaijaaEng3
namespace Go.Proofs.Ytepabkjfnpaijaa
open Go RowKit Go.Ew
set_option maxRecDepth 100000
set_option linter.unusedSimpArgs false
set_option linter.unusedVariables false
set_option maxHeartbeats 4000000
theorem in30 : codeIn Try.f30.ntmps (Try.f30.body.getD .skip) = true := by kernel_rfl
theorem in31 : codeIn Try.f31.ntmps (Try.f31.body.getD .skip) = true := by kernel_rfl
/-- Lists of texts, each in a slice of its own. -/
structure KsV where
  ad : Option Addr
  c : Nat
  l : List (List UInt8)
structure TopsAt (B : Base) (ad : Option Addr) (T : List KsV) : Prop where
  c : CellsAt B ad (T.map fun t => Value.slice t.ad t.l.length t.c)
  ok : ∀ t ∈ T, KeysAt B 32 t.ad t.l
  len : T.length ≤ 1048576
theorem TopsAt.ext {B B' : Base} {ad : Option Addr} {T : List KsV} (h : TopsAt B ad T) (e : BExt B B') : TopsAt B' ad T := ⟨h.c.ext e, fun t ht => (h.ok t ht).ext e, h.len⟩
theorem TopsAt.ld {B : Base} {ad : Option Addr} {T : List KsV} (h : TopsAt B ad T) {i : Nat} (hi : i < T.length) :
    rawCell B (adrAt ad i) = .raw (.slice T[i].ad T[i].l.length T[i].c) ∧ B.D (adr ad).block ∧ (B.w.cell? (adrAt ad i)).isSome = true ∧ ad.isSome = true := by
  have := h.c.raw (j := i) (v := Value.slice T[i].ad T[i].l.length T[i].c) (by rw [List.getElem?_map, List.getElem?_eq_getElem hi]; rfl)
  exact ⟨this.1, this.2.1, this.2.2, h.c.so (by simp; omega)⟩
structure SetsAt (B : Base) (ad : Option Addr) (qs : List (Nat × List (List UInt8))) : Prop where
  c : CellsAt B ad (qs.map fun q => Value.map (some q.1))
  ok : ∀ q ∈ qs, MapAt B q.1 q.2 ∧ (∀ k ∈ q.2, k.length = 32) ∧ q.2.length ≤ 1048576
  len : qs.length ≤ 1048576
theorem SetsAt.ext {B B' : Base} {ad : Option Addr} {qs : List (Nat × List (List UInt8))} (h : SetsAt B ad qs) (e : BExt B B') : SetsAt B' ad qs := ⟨h.c.ext e, fun t ht => ⟨(h.ok t ht).1.ext e, (h.ok t ht).2⟩, h.len⟩
theorem SetsAt.ld {B : Base} {ad : Option Addr} {qs : List (Nat × List (List UInt8))} (h : SetsAt B ad qs) {i : Nat} (hi : i < qs.length) :
    rawCell B (adrAt ad i) = .raw (.map (some qs[i].1)) ∧ B.D (adr ad).block ∧ (B.w.cell? (adrAt ad i)).isSome = true ∧ ad.isSome = true := by
  have := h.c.raw (j := i) (v := Value.map (some qs[i].1)) (by rw [List.getElem?_map, List.getElem?_eq_getElem hi]; rfl)
  exact ⟨this.1, this.2.1, this.2.2, h.c.so (by simp; omega)⟩
/-- Whether the first n topics are among those that are looked for. -/
def fitK (g : LogV) (S : List (List (List UInt8))) (n : Nat) : Bool := (List.range n).all fun i => hasK (S.getD i []) (g.top i)
theorem fitK_zero (g : LogV) (S : List (List (List UInt8))) : fitK g S 0 = true := rfl
theorem fitK_succ (g : LogV) (S : List (List (List UInt8))) (n : Nat) : fitK g S (n + 1) = (fitK g S n && hasK (S.getD n []) (g.top n)) := by
  simp [fitK, List.range_succ]
theorem fitK_no {g : LogV} {S : List (List (List UInt8))} {i n : Nat} (hi : i < n) (h : hasK (S.getD i []) (g.top i) = false) : fitK g S n = false := by
  rw [Bool.eq_false_iff]
  intro hn
  have := List.all_eq_true.1 hn i (List.mem_range.2 hi)
  rw [h] at this; cases this
def fitB (g : LogV) (S : List (List (List UInt8))) : Bool := decide (S.length ≤ g.tn) && fitK g S S.length
def lookB (A : List (List UInt8)) (T : List (List (List UInt8))) (g : LogV) : Bool := hasK A g.ad && fitB g T
theorem numEq (a b : List UInt8) : (List.map EV.num (a.map bE) == List.map EV.num (b.map bE)) = decide (a = b) := by
  have e : ∀ l : List UInt8, List.map EV.num (l.map bE) = l.map (fun x => (x.toNat : Int)) := fun l => by simp [bE, EV.num, Function.comp_def]
  rw [Bool.eq_iff_iff, beq_iff_eq, decide_eq_true_eq, e, e]
  refine ⟨fun h => ?_, fun h => by rw [h]⟩
  exact (List.map_inj_right (fun x y h => UInt8.toNat_inj.1 (Int.ofNat_inj.1 h))).1 h
theorem bE_isInt (l : List UInt8) : (l.map bE).all (EV.isInt .u8) = true := by simp [bE, EV.isInt]
theorem getD_at {S : List (List (List UInt8))} {i : Nat} (hi : i < S.length) : S.getD i [] = S[i] := by rw [List.getD_eq_getElem?_getD, List.getElem?_eq_getElem hi]; rfl
theorem fits_fn {B : Base} (g : LogV) (qs : List (Nat × List (List UInt8))) (n : Nat) (ad : Option Addr) (cap : Nat) (hg : g.Ok B) (hqs : SetsAt B ad qs) (hn : qs.length = n) :
    Does Try.prog 30 [.agg g.ev, .raw (.slice ad n cap)] B (fun _ : Unit => .bool (fitB g (qs.map Prod.snd))) (fun _ _ => True) := by
  have hgc : ∀ n, closeds n g.ev := fun n => logE_closed (by simp [closed]) (by simp [closed])
  refine fn_of en30 (fun s B B' hB hR => hR) Try.func30 rfl in30 (by simp [Try.f30]) ⟨hgc 0, by simp [closed, closeds]⟩ (fun B0 hB0 => next_of 1000 ?_)
  replace hqs := hqs.ext hB0
  replace hg := hg.ext hB0
  subst hn
  have hlen := hqs.len
  have ht := hg.tb
  have f1 : oneAll g.ev = true := logE_one rfl rfl
  have f2 : ∀ u v, (logE g.ad u v).length = 22 := fun u v => logE_len hg.ha
  have f3 : ∀ u v d, (logE g.ad u v).getD 20 d = u := fun u v d => logE_20 hg.ha
  repeat' (first | with_reducible refine And.intro (by first | omega | assumption | (constructor <;> assumption) | (simp; done) | (simp; omega) | (simp [*]; done) | ((repeat' refine And.intro ?_ ?_) <;> first | omega | assumption | (refine SlOk.so (n := ?_) ?_ ?_; rotate_left; assumption; omega) | (simp; done) | fail) | fail) ?_ | simp (maxSteps := 4000000) (disch := omega) only [go_sem, Nat.reduceBEq, Nat.reduceAdd, Nat.reduceMul, Nat.reduceSub, Nat.reduceLT, Nat.reduceLeDiff, Int.reduceToNat, Int.reduceLT, Int.reduceLE, Int.reduceAdd, Int.reduceMul, Int.reduceSub, Int.reduceNeg, Int.reduceDiv, Int.reduceMod, Nat.reduceBNe, Nat.reduceGT, Int.reduceBEq, Int.reduceBNe, Int.reduceGT, Nat.reduceDiv, Nat.reduceMod, Nat.reducePow, Int.reducePow, gt_iff_lt, ge_iff_le, List.reduceReplicate, ↓reduceIte, Try.f30, f1, f2, f3] | ((first | refine condS_split (fun h => ?_) (fun h => ?_) | refine testS_split (fun h => ?_) (fun h => ?_) | refine testT_split (fun h => ?_) (fun h => ?_)) <;> (try simp only [bne_iff_ne, ne_eq, beq_iff_eq, decide_eq_true_eq, decide_eq_false_iff_not, Bool.not_eq_true, Bool.not_eq_false, Bool.not_true, Bool.not_false, bne_eq_false_iff_eq, beq_eq_false_iff_ne, Bool.and_eq_true, Bool.or_eq_true, Bool.and_eq_false_imp, Bool.or_eq_false_iff, Bool.not_eq_true', Bool.not_eq_false', Int.not_lt, Int.not_le] at h) <;> (try (exfalso; omega))))
  · exact ⟨BExt.refl _, (), by simp only [fitB, List.length_map]; rw [decide_eq_false (by omega)]; rfl, trivial⟩
  · have h2 := h
    refine loopU (S := Nat) (fun i => i ≤ qs.length ∧ fitK g (qs.map Prod.snd) i = true)
      (fun i => ⟨[(15, .int .i64 (i : Nat)), (14, .int .i64 (qs.length : Nat)), (13, .raw (.slice ad qs.length cap)), (2, .ptr 0 0)], 1, [(0, some (.cells g.ev 36 (0, 0)))], B0, []⟩)
      (fun i => qs.length - i) 0 ⟨Nat.zero_le _, rfl⟩ (Weak.sub (weak_of (by simp [wσ, go_sem, closed, closeds, lE_closed, hgc] <;> omega) (by simp [whs, Go.Ew.hget, go_sem, EObj.closed, closed, closeds, lE_closed, hgc]) (by simp [*]) rfl rfl (by simp))) ?_
    rintro i ⟨hi, hfit⟩
    refine next_of 1000 ?_
    simp (maxSteps := 4000000) (disch := omega) only [go_sem, Nat.reduceBEq, Nat.reduceAdd, Nat.reduceMul, Nat.reduceSub, Nat.reduceLT, Nat.reduceLeDiff, Int.reduceToNat, Int.reduceLT, Int.reduceLE, Int.reduceAdd, Int.reduceMul, Int.reduceSub, Int.reduceNeg, Int.reduceDiv, Int.reduceMod, Nat.reduceBNe, Nat.reduceGT, Int.reduceBEq, Int.reduceBNe, Int.reduceGT, Nat.reduceDiv, Nat.reduceMod, Nat.reducePow, Int.reducePow, gt_iff_lt, ge_iff_le, List.reduceReplicate, ↓reduceIte]
    repeat (with_reducible refine And.intro (by first | omega | assumption | (constructor <;> assumption) | (simp; done) | (simp; omega) | (simp [*]; done) | ((repeat' refine And.intro ?_ ?_) <;> first | omega | assumption | (refine SlOk.so (n := ?_) ?_ ?_; rotate_left; assumption; omega) | (simp; done) | fail) | fail) ?_)
    refine condS_split (fun h3 => ?_) (fun h3 => ?_)
    all_goals (try simp only [bne_iff_ne, ne_eq, beq_iff_eq, decide_eq_true_eq, decide_eq_false_iff_not, Bool.not_eq_true, Bool.not_eq_false, Bool.not_true, Bool.not_false, bne_eq_false_iff_eq, beq_eq_false_iff_ne, Bool.and_eq_true, Bool.or_eq_true, Bool.and_eq_false_imp, Bool.or_eq_false_iff, Bool.not_eq_true', Bool.not_eq_false', Int.not_lt, Int.not_le] at h3)
    · have hi2 : i < qs.length := by omega
      obtain ⟨l1, l2, l3, l4⟩ := hqs.ld hi2
      obtain ⟨hm, hk, hkl⟩ := hqs.ok _ (List.getElem_mem hi2)
      obtain ⟨m1, m2, m3, m4⟩ := hg.ldT (k := i) (by omega)
      have hq := top_len hg (k := i) (by omega)
      have hfn := has32_fn _ _ _ _ hm hk hkl hq
      have hgd : (qs.map Prod.snd).getD i [] = (qs[i]).2 := by rw [getD_at (by simpa using hi2)]; simp
      have hsu := fitK_succ g (qs.map Prod.snd) i
      rw [hgd] at hsu
      obtain ⟨q, hq0⟩ : ∃ q, q = qs[i] := ⟨_, rfl⟩
      rw [← hq0] at l1 hfn hgd hsu
      obtain ⟨k, hk0⟩ : ∃ k, k = g.top i := ⟨_, rfl⟩
      rw [← hk0] at m1 hq hfn hsu
      repeat' (first | with_reducible refine And.intro (by first | omega | assumption | (constructor <;> assumption) | (simp; done) | (simp; omega) | (simp [*]; done) | ((repeat' refine And.intro ?_ ?_) <;> first | omega | assumption | (refine SlOk.so (n := ?_) ?_ ?_; rotate_left; assumption; omega) | (simp; done) | fail) | fail) ?_ | simp (maxSteps := 4000000) (disch := omega) only [go_sem, Nat.reduceBEq, Nat.reduceAdd, Nat.reduceMul, Nat.reduceSub, Nat.reduceLT, Nat.reduceLeDiff, Int.reduceToNat, Int.reduceLT, Int.reduceLE, Int.reduceAdd, Int.reduceMul, Int.reduceSub, Int.reduceNeg, Int.reduceDiv, Int.reduceMod, Nat.reduceBNe, Nat.reduceGT, Int.reduceBEq, Int.reduceBNe, Int.reduceGT, Nat.reduceDiv, Nat.reduceMod, Nat.reducePow, Int.reducePow, gt_iff_lt, ge_iff_le, List.reduceReplicate, ↓reduceIte, Int.toNat_natCast, l1, m1, f1, f2, f3] | refine callS_fp (hfn) (by simp [closed, closeds, closeds_ints, closed_wE]) (next_of 1000 ?_) | ((first | refine condS_split (fun h => ?_) (fun h => ?_) | refine testS_split (fun h => ?_) (fun h => ?_) | refine testT_split (fun h => ?_) (fun h => ?_)) <;> (try simp only [bne_iff_ne, ne_eq, beq_iff_eq, decide_eq_true_eq, decide_eq_false_iff_not, Bool.not_eq_true, Bool.not_eq_false, Bool.not_true, Bool.not_false, bne_eq_false_iff_eq, beq_eq_false_iff_ne, Bool.and_eq_true, Bool.or_eq_true, Bool.and_eq_false_imp, Bool.or_eq_false_iff, Bool.not_eq_true', Bool.not_eq_false', Int.not_lt, Int.not_le] at h) <;> (try (exfalso; omega))))
      · exact ⟨BExt.refl _, (), by
          have hno : fitK g (qs.map Prod.snd) (qs.map Prod.snd).length = false := fitK_no (i := i) (by simpa using hi2) (by rw [hgd, ← hk0]; simpa using h)
          simp only [fitB]; rw [hno]; simp, trivial⟩
      · exact ⟨i + 1, ⟨hi2, by rw [hsu, hfit]; simpa using h⟩, Weak.sub (weak_of (by simp [wσ, go_sem, closed, closeds, lE_closed, hgc] <;> omega) (by simp [whs, Go.Ew.hget, go_sem, EObj.closed, closed, closeds, lE_closed, hgc]) (by simp [*]) rfl rfl (by simp)), by omega⟩
    · obtain rfl : i = qs.length := by omega
      repeat' (first | simp (maxSteps := 4000000) (disch := omega) only [go_sem, Nat.reduceBEq, Nat.reduceAdd, Nat.reduceMul, Nat.reduceSub, Nat.reduceLT, Nat.reduceLeDiff, Int.reduceToNat, Int.reduceLT, Int.reduceLE, Int.reduceAdd, Int.reduceMul, Int.reduceSub, Int.reduceNeg, Int.reduceDiv, Int.reduceMod, Nat.reduceBNe, Nat.reduceGT, Int.reduceBEq, Int.reduceBNe, Int.reduceGT, Nat.reduceDiv, Nat.reduceMod, Nat.reducePow, Int.reducePow, gt_iff_lt, ge_iff_le, List.reduceReplicate, ↓reduceIte] | with_reducible refine next_of 1000 ?_)
      exact ⟨BExt.refl _, (), by simp only [fitB, List.length_map]; rw [hfit, decide_eq_true (by omega)]; rfl, trivial⟩
end Go.Proofs.Ytepabkjfnpaijaa
