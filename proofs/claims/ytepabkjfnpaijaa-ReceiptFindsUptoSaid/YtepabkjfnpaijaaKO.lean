/- Part of a proof over the seat Ytepabkjfnpaijaa. -/
import Derived.Test.YtepabkjfnpaijaaKN
namespace Go.Proofs.Ytepabkjfnpaijaa
open Go RowKit Go.Ew
set_option maxRecDepth 100000
set_option linter.unusedSimpArgs false
set_option linter.unusedVariables false
set_option maxHeartbeats 4000000
theorem bytes_lds {B : Base} {ad : Option Addr} {l : List UInt8} (h : BytesAt B ad l) {o n : Nat} (hn : o + n ≤ l.length) (h0 : 0 < n) :
    rawCells B (adrAt ad o) n = ((l.drop o).take n).map bE ∧ B.D (adr ad).block ∧ LiveAt B (adrAt ad o) n ∧ ad.isSome = true := by
  have e : ∀ j, (adrAt ad o).add j = adrAt ad (o + j) := fun j => by unfold adrAt; rw [add_add]
  refine ⟨?_, h.lD (by omega), fun j hj => by rw [e]; exact h.lS _ (by omega), h.ok.so (by omega)⟩
  unfold rawCells
  apply List.ext_getElem
  · simp; omega
  · intro j h1 h2
    simp only [List.length_map, List.length_range] at h1
    simp only [List.getElem_map, List.getElem_range, e, List.getElem_take, List.getElem_drop]
    rw [h.ld _ (by omega), List.getD_eq_getElem?_getD, List.getElem?_eq_getElem (by omega)]; rfl
theorem bE_one (l : List UInt8) : oneAll (l.map bE) = true := by
  induction l with
  | nil => rfl
  | cons a l ih => simp only [List.map_cons, oneAll, Bool.and_eq_true]; exact ⟨rfl, ih⟩
theorem bE_splice {l : List UInt8} {n : Nat} (h : l.length = n) (h2 : 1 < n) (f : Nat → Int) : splice (ints .u8 f n) 0 (l.map bE) = l.map bE :=
  splice_all (by simp [ints_len, h]) (by simp; omega)
theorem bE_all {l : List UInt8} {n : Nat} (h : l.length = n) : ((l.map bE).drop 0).take n = l.map bE := by
  rw [List.drop_zero, List.take_of_length_le (by simp; omega)]
theorem logE_ad {ad : List UInt8} {u v : EV} (h : ad.length = 20) : ((logE ad u v).drop 0).take 20 = ad.map bE := by
  rw [List.drop_zero, logE, List.take_append_of_le_length (by simp; omega), List.take_of_length_le (by simp; omega)]
/-- A log's topics, and all its texts. -/
def LogV.top (g : LogV) (k : Nat) : List UInt8 := (g.tp.drop (32 * k)).take 32
def LogV.tops (g : LogV) : List (List UInt8) := (List.range g.tn).map g.top
def LogV.marks (g : LogV) : List (List UInt8) := g.ad :: g.tops
def marksL (L : List LogV) : List (List UInt8) := L.flatMap LogV.marks
theorem top_len {B : Base} {g : LogV} (h : g.Ok B) {k : Nat} (hk : k < g.tn) : (g.top k).length = 32 := by
  have := h.ht
  simp [LogV.top]; omega
theorem tops_len (g : LogV) : g.tops.length = g.tn := by simp [LogV.tops]
theorem tops_get {g : LogV} {k : Nat} (hk : k < g.tn) : g.tops[k]'(by rw [tops_len]; exact hk) = g.top k := by simp [LogV.tops]
theorem allB_append (F : Blm) (ps qs : List (List UInt8)) : allB F (ps ++ qs) = allB (allB F ps) qs := List.foldl_append
theorem allB_one (F : Blm) (p : List UInt8) : allB F [p] = withP F p := rfl
theorem allB_tops {F : Blm} {g : LogV} {k : Nat} (hk : k < g.tn) : withP (allB F (g.tops.take k)) (g.top k) = allB F (g.tops.take (k + 1)) := by
  rw [List.take_succ_eq_append_getElem (by rw [tops_len]; exact hk), allB_append, tops_get hk, allB_one]
theorem allB_logs {F : Blm} {L : List LogV} {i : Nat} (hi : i < L.length) : allB (withP (allB F (marksL (L.take i))) L[i].ad) L[i].tops = allB F (marksL (L.take (i + 1))) := by
  rw [List.take_succ_eq_append_getElem hi, marksL, marksL, List.flatMap_append, allB_append]
  simp only [List.flatMap_cons, List.flatMap_nil, List.append_nil, LogV.marks]
  rfl
theorem LogV.Ok.ldT {B : Base} {g : LogV} (h : g.Ok B) {k : Nat} (hk : k < g.tn) :
    rawCells B (adrAt g.tA (k * 32)) 32 = (g.top k).map bE ∧ B.D (adr g.tA).block ∧ LiveAt B (adrAt g.tA (k * 32)) 32 ∧ g.tA.isSome = true := by
  have := h.ht
  have := bytes_lds h.tB (o := k * 32) (n := 32) (by omega) (by omega)
  rwa [Nat.mul_comm k 32] at this ⊢
theorem refof_fn (L : List LogV) (n : Nat) (B : Base) (ad : Option Addr) (cap : Nat) (h : LogsAt B ad L) (hn : L.length = n) :
    Does Try.prog 12 [.raw (.slice ad n cap)] B (fun _ : Unit => .agg (ints .u8 (fB (allB zB (marksL L))) 256)) (fun _ _ => True) := by
  refine fn_of en12 (fun s B B' hB hR => hR) Try.func12 rfl in12 (by simp [Try.f12]) (by simp [closeds, closed, closeds_ints]) (fun B0 hB0 => next_of 1000 ?_)
  replace h := h.ext hB0
  subst hn
  repeat' (simp (maxSteps := 4000000) (disch := omega) only [go_sem, Nat.reduceBEq, Nat.reduceAdd, Nat.reduceMul, Nat.reduceSub, Nat.reduceLT, Nat.reduceLeDiff, Int.reduceToNat, Int.reduceLT, Int.reduceLE, Int.reduceAdd, Int.reduceMul, Int.reduceSub, Int.reduceNeg, Int.reduceDiv, Int.reduceMod, Nat.reduceBNe, Nat.reduceGT, Int.reduceBEq, Int.reduceBNe, Int.reduceGT, Nat.reduceDiv, Nat.reduceMod, Nat.reducePow, Int.reducePow, gt_iff_lt, ge_iff_le, List.reduceReplicate, ↓reduceIte, Try.f12])
  refine loopU (S := Nat) (fun i => i ≤ L.length)
    (fun i => ⟨[(10, .int .i64 (i : Nat)), (9, .int .i64 (L.length : Nat)), (8, .raw (.slice ad L.length cap)), (3, .ptr 1 0), (2, .ptr 0 0)], 2, [(1, some (.cells (ints .u8 (fB (allB zB (marksL (L.take i)))) 256) 27 (0, 0))), (0, some (.cells (ints .u8 (fun _ => 0) 256) 27 (0, 0)))], B0, []⟩)
    (fun i => L.length - i) 0 (by simp) (Weak.sub (weak_of (by simp [wσ, go_sem, closed, closeds, lE_closed, closeds_ints, marksL, allB, zB_fB] <;> omega) (by simp [whs, Go.Ew.hget, go_sem, EObj.closed, closed, closeds, lE_closed, closeds_ints, marksL, allB, zB_fB]) (by simp [*]) rfl rfl (by simp))) ?_
  intro i hi
  have hlen := h.len
  refine next_of 1000 ?_
  simp (maxSteps := 4000000) (disch := omega) only [go_sem, Nat.reduceBEq, Nat.reduceAdd, Nat.reduceMul, Nat.reduceSub, Nat.reduceLT, Nat.reduceLeDiff, Int.reduceToNat, Int.reduceLT, Int.reduceLE, Int.reduceAdd, Int.reduceMul, Int.reduceSub, Int.reduceNeg, Int.reduceDiv, Int.reduceMod, Nat.reduceBNe, Nat.reduceGT, Int.reduceBEq, Int.reduceBNe, Int.reduceGT, Nat.reduceDiv, Nat.reduceMod, Nat.reducePow, Int.reducePow, gt_iff_lt, ge_iff_le, List.reduceReplicate, ↓reduceIte]
  repeat (with_reducible refine And.intro (by first | omega | assumption | (constructor <;> assumption) | (simp; done) | (simp; omega) | (simp [*]; done) | ((repeat' refine And.intro ?_ ?_) <;> first | omega | assumption | (refine SlOk.so (n := ?_) ?_ ?_; rotate_left; assumption; omega) | (simp; done) | fail) | fail) ?_)
  refine condS_split (fun h2 => ?_) (fun h2 => ?_)
  all_goals (try simp only [bne_iff_ne, ne_eq, beq_iff_eq, decide_eq_true_eq, decide_eq_false_iff_not, Bool.not_eq_true, Bool.not_eq_false, Bool.not_true, Bool.not_false, bne_eq_false_iff_eq, beq_eq_false_iff_ne, Bool.and_eq_true, Bool.or_eq_true, Bool.and_eq_false_imp, Bool.or_eq_false_iff, Bool.not_eq_true', Bool.not_eq_false', Int.not_lt, Int.not_le] at h2)
  · have hi2 : i < L.length := by omega
    obtain ⟨l1, l2, l3, l4⟩ := h.ld hi2
    have h1 := h.ok _ (List.getElem_mem hi2)
    have e1 := allB_logs (F := zB) hi2
    obtain ⟨g, hg⟩ : ∃ g, g = L[i] := ⟨_, rfl⟩
    rw [← hg] at l1 h1 e1
    have ht := h1.tb
    have f1 : oneAll g.ev = true := logE_one rfl rfl
    have f2 : ∀ u v, (logE g.ad u v).length = 22 := fun u v => logE_len h1.ha
    have f3 : ∀ u v d, (logE g.ad u v).getD 20 d = u := fun u v d => logE_20 h1.ha
    have f4 : ∀ u v d, (logE g.ad u v).getD 21 d = v := fun u v d => logE_21 h1.ha
    obtain ⟨F, hF⟩ : ∃ F, F = allB zB (marksL (L.take i)) := ⟨_, rfl⟩
    rw [← hF] at e1 ⊢
    repeat' (first | with_reducible refine And.intro (by first | omega | assumption | (constructor <;> assumption) | (simp; done) | (simp; omega) | (simp [*]; done) | ((repeat' refine And.intro ?_ ?_) <;> first | omega | assumption | (refine SlOk.so (n := ?_) ?_ ?_; rotate_left; assumption; omega) | (simp; done) | fail) | fail) ?_ | simp (maxSteps := 4000000) (disch := omega) only [go_sem, Nat.reduceBEq, Nat.reduceAdd, Nat.reduceMul, Nat.reduceSub, Nat.reduceLT, Nat.reduceLeDiff, Int.reduceToNat, Int.reduceLT, Int.reduceLE, Int.reduceAdd, Int.reduceMul, Int.reduceSub, Int.reduceNeg, Int.reduceDiv, Int.reduceMod, Nat.reduceBNe, Nat.reduceGT, Int.reduceBEq, Int.reduceBNe, Int.reduceGT, Nat.reduceDiv, Nat.reduceMod, Nat.reducePow, Int.reducePow, gt_iff_lt, ge_iff_le, List.reduceReplicate, ↓reduceIte, Int.toNat_natCast, l1, f1, f2, f3, f4, logE_splice h1.ha] | with_reducible refine drawT_of (id := 5) [0, 1, 2, 3, 4] mixed (by kernel_rfl) (by simp) (fun hin => dt_of 1000 hin ?_) | with_reducible refine endT_of (by kernel_rfl) (nmT_of (by kernel_rfl)) (next_of 1000 ?_) | refine callT_ro 2 0 20 20 [.agg (ints .u8 (fB F) 256)] g.ad en26 (by simp [closeds, closed, closeds_ints]) rfl rfl (logE_ad h1.ha) (by simp [closed, closeds_ints]) (fun B ad cap hb => with_fn F g.ad 20 B ad cap hb h1.ha (by omega)) (by kernel_rfl) (ck_of (by kernel_rfl) (nmT_of (by kernel_rfl))) (fun hin => dt_of 1000 hin ?_))
    refine loopU (S := Nat) (fun k => k ≤ g.tn)
      (fun k => ⟨[(21, .int .i64 (k : Nat)), (20, .int .i64 (g.tn : Nat)), (19, .raw (.slice g.tA g.tn g.tc)), (10, .int .i64 (i : Nat)), (9, .int .i64 (L.length : Nat)), (8, .raw (.slice ad L.length cap)), (3, .ptr 1 0), (2, .ptr 0 0)], 2, [(1, some (.cells (ints .u8 (fB (allB (withP F g.ad) (g.tops.take k))) 256) 27 (0, 0))), (0, some (.cells (ints .u8 (fun _ => 0) 256) 27 (0, 0)))], B0, []⟩)
      (fun k => g.tn - k) 0 (by simp) (Weak.sub (weak_of (by simp [wσ, go_sem, closed, closeds, lE_closed, closeds_ints, allB] <;> omega) (by simp [whs, Go.Ew.hget, go_sem, EObj.closed, closed, closeds, lE_closed, closeds_ints, allB]) (by simp [*]) rfl rfl (by simp))) ?_
    intro k hk
    refine next_of 1000 ?_
    simp (maxSteps := 4000000) (disch := omega) only [go_sem, Nat.reduceBEq, Nat.reduceAdd, Nat.reduceMul, Nat.reduceSub, Nat.reduceLT, Nat.reduceLeDiff, Int.reduceToNat, Int.reduceLT, Int.reduceLE, Int.reduceAdd, Int.reduceMul, Int.reduceSub, Int.reduceNeg, Int.reduceDiv, Int.reduceMod, Nat.reduceBNe, Nat.reduceGT, Int.reduceBEq, Int.reduceBNe, Int.reduceGT, Nat.reduceDiv, Nat.reduceMod, Nat.reducePow, Int.reducePow, gt_iff_lt, ge_iff_le, List.reduceReplicate, ↓reduceIte]
    repeat (with_reducible refine And.intro (by first | omega | assumption | (constructor <;> assumption) | (simp; done) | (simp; omega) | (simp [*]; done) | ((repeat' refine And.intro ?_ ?_) <;> first | omega | assumption | (refine SlOk.so (n := ?_) ?_ ?_; rotate_left; assumption; omega) | (simp; done) | fail) | fail) ?_)
    refine condS_split (fun h3 => ?_) (fun h3 => ?_)
    all_goals (try simp only [bne_iff_ne, ne_eq, beq_iff_eq, decide_eq_true_eq, decide_eq_false_iff_not, Bool.not_eq_true, Bool.not_eq_false, Bool.not_true, Bool.not_false, bne_eq_false_iff_eq, beq_eq_false_iff_ne, Bool.and_eq_true, Bool.or_eq_true, Bool.and_eq_false_imp, Bool.or_eq_false_iff, Bool.not_eq_true', Bool.not_eq_false', Int.not_lt, Int.not_le] at h3)
    · have hk2 : k < g.tn := by omega
      obtain ⟨m1, m2, m3, m4⟩ := h1.ldT hk2
      have e2 := allB_tops (F := withP F g.ad) hk2
      have hq := top_len h1 hk2
      obtain ⟨q, hq0⟩ : ∃ q, q = g.top k := ⟨_, rfl⟩
      rw [← hq0] at m1 e2 hq
      obtain ⟨G, hG⟩ : ∃ G, G = allB (withP F g.ad) (g.tops.take k) := ⟨_, rfl⟩
      rw [← hG] at e2 ⊢
      have q1 := bE_one q
      repeat' (first | with_reducible refine And.intro (by first | omega | assumption | (constructor <;> assumption) | (simp; done) | (simp; omega) | (simp [*]; done) | ((repeat' refine And.intro ?_ ?_) <;> first | omega | assumption | (refine SlOk.so (n := ?_) ?_ ?_; rotate_left; assumption; omega) | (simp; done) | fail) | fail) ?_ | simp (maxSteps := 4000000) (disch := omega) only [go_sem, Nat.reduceBEq, Nat.reduceAdd, Nat.reduceMul, Nat.reduceSub, Nat.reduceLT, Nat.reduceLeDiff, Int.reduceToNat, Int.reduceLT, Int.reduceLE, Int.reduceAdd, Int.reduceMul, Int.reduceSub, Int.reduceNeg, Int.reduceDiv, Int.reduceMod, Nat.reduceBNe, Nat.reduceGT, Int.reduceBEq, Int.reduceBNe, Int.reduceGT, Nat.reduceDiv, Nat.reduceMod, Nat.reducePow, Int.reducePow, gt_iff_lt, ge_iff_le, List.reduceReplicate, ↓reduceIte, Int.toNat_natCast, m1, q1, List.length_map, hq, bE_splice hq] | with_reducible refine drawT_of (id := 9) [0, 1, 2, 3] mixed (by kernel_rfl) (by simp) (fun hin => dt_of 1000 hin ?_) | with_reducible refine endT_of (by kernel_rfl) (nmT_of (by kernel_rfl)) (next_of 1000 ?_) | refine callT_ro 2 0 32 32 [.agg (ints .u8 (fB G) 256)] q en26 (by simp [closeds, closed, closeds_ints]) rfl rfl (bE_all hq) (by simp [closed, closeds_ints]) (fun B ad cap hb => with_fn G q 32 B ad cap hb hq (by omega)) (by kernel_rfl) (ck_of (by kernel_rfl) (nmT_of (by kernel_rfl))) (fun hin => dt_of 1000 hin ?_))
      exact ⟨k + 1, hk2, Weak.sub (weak_of (by simp [wσ, go_sem, closed, closeds, lE_closed, closeds_ints, e2] <;> omega) (by simp [whs, Go.Ew.hget, go_sem, EObj.closed, closed, closeds, lE_closed, closeds_ints, e2]) (by simp [*]) rfl rfl (by simp)), by omega⟩
    · obtain rfl : k = g.tn := by omega
      repeat' (first | simp (maxSteps := 4000000) (disch := omega) only [go_sem, Nat.reduceBEq, Nat.reduceAdd, Nat.reduceMul, Nat.reduceSub, Nat.reduceLT, Nat.reduceLeDiff, Int.reduceToNat, Int.reduceLT, Int.reduceLE, Int.reduceAdd, Int.reduceMul, Int.reduceSub, Int.reduceNeg, Int.reduceDiv, Int.reduceMod, Nat.reduceBNe, Nat.reduceGT, Int.reduceBEq, Int.reduceBNe, Int.reduceGT, Nat.reduceDiv, Nat.reduceMod, Nat.reducePow, Int.reducePow, gt_iff_lt, ge_iff_le, List.reduceReplicate, ↓reduceIte] | with_reducible refine next_of 1000 ?_)
      exact ⟨i + 1, hi2, Weak.sub (weak_of (by simp [wσ, go_sem, closed, closeds, lE_closed, closeds_ints, ← e1, List.take_of_length_le (Nat.le_of_eq (tops_len g))] <;> omega) (by simp [whs, Go.Ew.hget, go_sem, EObj.closed, closed, closeds, lE_closed, closeds_ints, ← e1, List.take_of_length_le (Nat.le_of_eq (tops_len g))]) (by simp [*]) rfl rfl (by simp)), by omega⟩
  · obtain rfl : i = L.length := by omega
    repeat' (first | simp (maxSteps := 4000000) (disch := omega) only [go_sem, Nat.reduceBEq, Nat.reduceAdd, Nat.reduceMul, Nat.reduceSub, Nat.reduceLT, Nat.reduceLeDiff, Int.reduceToNat, Int.reduceLT, Int.reduceLE, Int.reduceAdd, Int.reduceMul, Int.reduceSub, Int.reduceNeg, Int.reduceDiv, Int.reduceMod, Nat.reduceBNe, Nat.reduceGT, Int.reduceBEq, Int.reduceBNe, Int.reduceGT, Nat.reduceDiv, Nat.reduceMod, Nat.reducePow, Int.reducePow, gt_iff_lt, ge_iff_le, List.reduceReplicate, ↓reduceIte, List.take_length] | with_reducible refine next_of 1000 ?_)
    exact ⟨BExt.refl _, (), closeds_ints _ _ _ _⟩
end Go.Proofs.Ytepabkjfnpaijaa
