/- Part of a proof over the seat YthknokcfmpahcaaDoor. -/
import Derived.Test.YthknokcfmpahcaaDoorTP0
namespace Go.Proofs.YthknokcfmpahcaaDoor
open Go Go.Ew
set_option maxRecDepth 100000
set_option linter.unusedSimpArgs false
set_option linter.unusedVariables false
set_option maxHeartbeats 2000000
theorem in9 : codeIn Tryd.f9.ntmps (Tryd.f9.body.getD .skip) = true := by kernel_rfl
/-- The bytes of a slice of code that came in. -/
structure CodeAt (w : World) (c : List Int) (ad : Option Addr) (b off : Nat) : Prop where
  had : 0 < c.length → ad = some ⟨b, off, none⟩
  hc : ∀ i, i < c.length → w.cell? ⟨b, off + i, none⟩ = some (.int .u8 (c.getD i 0))
  hr : ∀ i, i < c.length → 0 ≤ c.getD i 0 ∧ c.getD i 0 < 256
  hl : c.length ≤ 140737488355328
  hb : 0 < c.length → b < w.heap.size
theorem CodeAt.at {w w' : World} {c : List Int} {ad : Option Addr} {b off : Nat} (h : CodeAt w c ad b off) (hf : ∀ q, q < w.heap.size → q < w'.heap.size ∧ w'.heap[q]? = w.heap[q]?) : CodeAt w' c ad b off :=
  ⟨h.had, fun i hi => by rw [World.cell?_of_block (hf b (h.hb (by omega))).2]; exact h.hc i hi, h.hr, h.hl, fun h0 => (hf b (h.hb h0)).1⟩
theorem CodeAt.dest {w : World} {c : List Int} {ad : Option Addr} {b off cap : Nat} (h : CodeAt w c ad b off) (a : Int) (ha : -9223372036854775808 ≤ a ∧ a < 9223372036854775808) :
    Calls Tryd.prog 24 #[.slice ad c.length cap, .int .i64 a] w (Ret (.bool (destB c a)) w) :=
  dest_calls w c b off cap ad h.had a ha h.hc h.hr (by have := h.hl; omega) h.hb
theorem tiles_calls (c : List Int) (ad : Option Addr) (b off cap : Nat) (w : World) (hca : CodeAt w c ad b off) (hop : ∀ n w, 0 ≤ n ∧ n < 256 → Calls Tryd.prog 13 #[.int .u8 n] w (Ret (real (fun _ => 0) (opE n)) w)) :
    Calls Tryd.prog 9 #[.slice ad c.length cap] w (Ret (.bool true) w) := by
  have hl := hca.hl
  refine pure_calls [.raw (.slice ad c.length cap)] Tryd.func9 rfl in9 (by simp [Tryd.f9]) (by simp [closeds, closed]) ?_
  refine next_of 1000 ?_
  simp (maxSteps := 4000000) (disch := omega) only [go_sem, Nat.reduceBEq, Nat.reduceAdd, Nat.reduceMul, Nat.reduceSub, Nat.reduceLT, Nat.reduceLeDiff, Int.reduceToNat, Int.reduceLT, Int.reduceLE, Int.reduceAdd, Int.reduceMul, Int.reduceSub, Int.reduceNeg, Int.reduceDiv, Int.reduceMod, Nat.reduceBNe, Nat.reduceGT, Int.reduceBEq, Int.reduceBNe, Int.reduceGT, Nat.reduceDiv, Nat.reduceMod, Nat.reducePow, Int.reducePow, gt_iff_lt, ge_iff_le, List.reduceReplicate, ↓reduceIte, Tryd.f9]
  repeat (with_reducible refine And.intro (by first | omega | assumption | (constructor <;> assumption) | (simp; done) | (simp; omega) | (simp [*]; done) | ((repeat' refine And.intro ?_ ?_) <;> first | omega | assumption | (refine SlOk.so (n := ?_) ?_ ?_; rotate_left; assumption; omega) | (simp; done) | fail) | fail) ?_)
  refine ⟨rfl, ?_⟩
  refine callS_pure (.bool true) en15 (by simp [closed]) (fun bs w _ => awake_calls w) ?_
  refine next_of 1000 ?_
  simp (maxSteps := 4000000) (disch := omega) only [go_sem, Nat.reduceBEq, Nat.reduceAdd, Nat.reduceMul, Nat.reduceSub, Nat.reduceLT, Nat.reduceLeDiff, Int.reduceToNat, Int.reduceLT, Int.reduceLE, Int.reduceAdd, Int.reduceMul, Int.reduceSub, Int.reduceNeg, Int.reduceDiv, Int.reduceMod, Nat.reduceBNe, Nat.reduceGT, Int.reduceBEq, Int.reduceBNe, Int.reduceGT, Nat.reduceDiv, Nat.reduceMod, Nat.reducePow, Int.reducePow, gt_iff_lt, ge_iff_le, List.reduceReplicate, ↓reduceIte]
  repeat (with_reducible refine And.intro (by first | omega | assumption | (constructor <;> assumption) | (simp; done) | (simp; omega) | (simp [*]; done) | ((repeat' refine And.intro ?_ ?_) <;> first | omega | assumption | (refine SlOk.so (n := ?_) ?_ ?_; rotate_left; assumption; omega) | (simp; done) | fail) | fail) ?_)
  refine callS_new (.fn (.func 66) [] [.ptr 0 0]) [.cells [.raw (.slice ad c.length cap)] 41 (0, 0)] en27 (by simp [closed, closeds]) (by simp [EObj.closed, closed, closeds]) (fun bs w _ => codes_calls _ _ _ w) ?_
  refine next_of 1000 ?_
  simp (maxSteps := 4000000) (disch := omega) only [go_sem, Nat.reduceBEq, Nat.reduceAdd, Nat.reduceMul, Nat.reduceSub, Nat.reduceLT, Nat.reduceLeDiff, Int.reduceToNat, Int.reduceLT, Int.reduceLE, Int.reduceAdd, Int.reduceMul, Int.reduceSub, Int.reduceNeg, Int.reduceDiv, Int.reduceMod, Nat.reduceBNe, Nat.reduceGT, Int.reduceBEq, Int.reduceBNe, Int.reduceGT, Nat.reduceDiv, Nat.reduceMod, Nat.reducePow, Int.reducePow, gt_iff_lt, ge_iff_le, List.reduceReplicate, ↓reduceIte]
  repeat (with_reducible refine And.intro (by first | omega | assumption | (constructor <;> assumption) | (simp; done) | (simp; omega) | (simp [*]; done) | ((repeat' refine And.intro ?_ ?_) <;> first | omega | assumption | (refine SlOk.so (n := ?_) ?_ ?_; rotate_left; assumption; omega) | (simp; done) | fail) | fail) ?_)
  refine rangeS rfl rfl en66 (by simp) ⟨by kernel_rfl, by kernel_rfl⟩ (S := Int)
    (fun k s => s = (posF c (codes c 0) 0 k : Nat)) (fun cd s => False) (fun _ => 6)
    (fun s => [(3, some (.cells [.raw (.slice ad c.length cap)] 41 (0, 0))), (2, some (.cells [.int .i64 s] 3 (0, 0))), (1, some (.cells [.bool false] 4 (0, 0))), (0, some (.cells [.raw (.slice ad c.length cap)] 41 (0, 0)))])
    (fun _ => base w) 0 rfl (weak_of (by simp [wσ, go_sem, closed, closeds]) (by simp [whs, go_sem, EObj.closed, closed, closeds]) (by simp [*]) rfl rfl (by simp)) (fun s => by simp [hget]) ⟨fun _ _ _ => Nat.le_refl _, fun _ _ h => h.elim⟩ [3] (fun q => q = b ∧ 0 < c.length) (by simp [hget])
    (fun q hq => ⟨by rw [hq.1]; exact hca.hb hq.2, fun k s hs => ⟨by rw [hq.1]; exact hca.hb hq.2, rfl⟩, fun k s hs => hs.elim⟩)
    (len := (codes c 0).length) (enc := encC) (El := fun k a _ => (codes c 0)[k]? = some a) (fun p => [.int .i64 p.1, .int .u8 p.2]) (fun p bs => rfl) (fun p => by simp [closeds, closed]) (fun p => rfl) ?_ (fun k a => (codes c 0)[k]? = some a) (fun k a w h => h) ?_ ?_ ?_ ?_ (fun cd s h => h.elim)
  · intro bs w2 hH
    have hl1 := (hH.live 3 _ rfl).2
    have h2   := hca.at (fun q hq => hH.frame q hq)
    refine codes1_iter w2 c (bs 3) b off cap ad hca.had ?_ h2.hc hca.hr (by omega) _ (.inl ⟨3, by simp, rfl⟩) (fun h0 => .inr ⟨rfl, h0⟩) ?_
    · simp [World.cell?, hl1, EObj.real, reals, real]
    · rintro q (⟨i, hi, rfl⟩ | hq)
      · simp only [List.mem_singleton] at hi; subst hi; exact heap_lt hl1
      · rw [hq.1]; exact h2.hb hq.2
  · rintro k s ⟨at', op⟩ l' olds e E r r' rfl hk hel holds
    have hm := List.mem_of_getElem? hel
    obtain ⟨_, hlt, hop2⟩ := codesF_mem hm
    simp only at hlt hop2
    have hpos := (codesF_pos (c := c) (f := c.length) (a := 0) (by omega) k).1 _ hel
    have hpos2 : posF c (codes c 0) 0 (k + 1) = nx c at' := by simp only [posF, hel]
    have hpos3 : at' = posF c (codes c 0) 0 k := hpos
    rw [← hpos3]
    have hcell := hca.hc at' hlt
    have hrr := hca.hr at' hlt
    have hd1 := destB_at hm
    have hd2 : ∀ j : Nat, at' < j → j < nx c at' → destB c j = false := fun j h1 h2 => destB_in hm h1 h2
    have hnx : ((nx c at' : Nat) : Int) = at' + 1 + dataI op ∧ 0 ≤ dataI op ∧ dataI op ≤ 32 := by
      rw [hop2]; unfold nx dataI; split <;> omega
    obtain ⟨hbl, rfl⟩ : b < w.heap.size ∧ ad = some ⟨b, off, none⟩ := ⟨hca.hb (by omega), hca.had (by omega)⟩
    rw [← hop2] at hcell hrr
    simp only at hd1
    refine next_of 1000 ?_
    simp (maxSteps := 4000000) (disch := omega) only [go_sem, Nat.reduceBEq, Nat.reduceAdd, Nat.reduceMul, Nat.reduceSub, Nat.reduceLT, Nat.reduceLeDiff, Int.reduceToNat, Int.reduceLT, Int.reduceLE, Int.reduceAdd, Int.reduceMul, Int.reduceSub, Int.reduceNeg, Int.reduceDiv, Int.reduceMod, Nat.reduceBNe, Nat.reduceGT, Int.reduceBEq, Int.reduceBNe, Int.reduceGT, Nat.reduceDiv, Nat.reduceMod, Nat.reducePow, Int.reducePow, gt_iff_lt, ge_iff_le, List.reduceReplicate, ↓reduceIte]
    repeat (with_reducible refine And.intro (by first | omega | assumption | (constructor <;> assumption) | (simp; done) | (simp; omega) | (simp [*]; done) | ((repeat' refine And.intro ?_ ?_) <;> first | omega | assumption | (refine SlOk.so (n := ?_) ?_ ?_; rotate_left; assumption; omega) | (simp; done) | fail) | fail) ?_)
    refine next_of 1000 ?_
    repeat' (first
      | with_reducible refine And.intro (by first | omega | assumption | (constructor <;> assumption) | (simp; done) | (simp; omega) | (simp [*]; done) | ((repeat' refine And.intro ?_ ?_) <;> first | omega | assumption | (refine SlOk.so (n := ?_) ?_ ?_; rotate_left; assumption; omega) | (simp; done) | fail) | fail) ?_
      | simp (maxSteps := 4000000) (disch := omega) only [go_sem, Nat.reduceBEq, Nat.reduceAdd, Nat.reduceMul, Nat.reduceSub, Nat.reduceLT, Nat.reduceLeDiff, Int.reduceToNat, Int.reduceLT, Int.reduceLE, Int.reduceAdd, Int.reduceMul, Int.reduceSub, Int.reduceNeg, Int.reduceDiv, Int.reduceMod, Nat.reduceBNe, Nat.reduceGT, Int.reduceBEq, Int.reduceBNe, Int.reduceGT, Nat.reduceDiv, Nat.reduceMod, Nat.reducePow, Int.reducePow, gt_iff_lt, ge_iff_le, List.reduceReplicate, ↓reduceIte, hcell, rawCell, Option.getD_some, Int.toNat_natCast, bne_self_eq_false, beq_self_eq_true]
      | with_reducible refine roundS (next_of 1000 ?_)
      | with_reducible refine drawS_of mixed (by kernel_rfl) (dg_of 1000 ?_)
      | with_reducible refine endD_of (by kernel_rfl) (next_of 1000 ?_)
      | with_reducible refine next_of 1000 ?_
      | ((first | refine condS_split (fun h => ?_) (fun h => ?_) | refine testS_split (fun h => ?_) (fun h => ?_) | refine testD_split (fun h => ?_) (fun h => ?_)) <;> (try simp only [bne_iff_ne, ne_eq, beq_iff_eq, decide_eq_true_eq, decide_eq_false_iff_not, Bool.not_eq_true, Bool.not_eq_false, Bool.not_true, Bool.not_false, bne_eq_false_iff_eq, beq_eq_false_iff_ne, Bool.and_eq_true, Bool.or_eq_true, Bool.and_eq_false_imp, Bool.or_eq_false_iff, Bool.not_eq_true', Bool.not_eq_false', Int.not_lt, Int.not_le] at h) <;> (try (exfalso; omega))))
    all_goals try (exfalso; first | (rename_i h9; exact h9 trivial) | omega)
    obtain ⟨s1, g1, p1, q1, b1, hopE⟩ := opE_data op
    refine callS_pure (.tup [.agg [.str s1, .int .u64 g1, .int .i64 p1, .int .i64 q1, .int .i64 (dataI op)], .bool b1]) en13 (by simp [closed, closeds]) (fun bs w _ => ?_) (next_of 1000 ?_)
    · have := hop op w hrr
      rw [hopE] at this
      exact this
    clear hopE hop
    generalize dataI op = dd at *
    repeat' (first
      | with_reducible refine And.intro (by first | omega | assumption | (constructor <;> assumption) | (simp; done) | (simp; omega) | (simp [*]; done) | ((repeat' refine And.intro ?_ ?_) <;> first | omega | assumption | (refine SlOk.so (n := ?_) ?_ ?_; rotate_left; assumption; omega) | (simp; done) | fail) | fail) ?_
      | simp (maxSteps := 4000000) (disch := omega) only [go_sem, Nat.reduceBEq, Nat.reduceAdd, Nat.reduceMul, Nat.reduceSub, Nat.reduceLT, Nat.reduceLeDiff, Int.reduceToNat, Int.reduceLT, Int.reduceLE, Int.reduceAdd, Int.reduceMul, Int.reduceSub, Int.reduceNeg, Int.reduceDiv, Int.reduceMod, Nat.reduceBNe, Nat.reduceGT, Int.reduceBEq, Int.reduceBNe, Int.reduceGT, Nat.reduceDiv, Nat.reduceMod, Nat.reducePow, Int.reducePow, gt_iff_lt, ge_iff_le, List.reduceReplicate, ↓reduceIte, Int.toNat_natCast]
      | with_reducible refine roundS (next_of 1000 ?_)
      | with_reducible refine drawS_of mixed (by kernel_rfl) (dg_of 1000 ?_)
      | with_reducible refine endD_of (by kernel_rfl) (next_of 1000 ?_)
      | with_reducible refine next_of 1000 ?_
      | ((first | refine condS_split (fun h => ?_) (fun h => ?_) | refine testS_split (fun h => ?_) (fun h => ?_) | refine testD_split (fun h => ?_) (fun h => ?_)) <;> (try simp only [bne_iff_ne, ne_eq, beq_iff_eq, decide_eq_true_eq, decide_eq_false_iff_not, Bool.not_eq_true, Bool.not_eq_false, Bool.not_true, Bool.not_false, bne_eq_false_iff_eq, beq_eq_false_iff_ne, Bool.and_eq_true, Bool.or_eq_true, Bool.and_eq_false_imp, Bool.or_eq_false_iff, Bool.not_eq_true', Bool.not_eq_false', Int.not_lt, Int.not_le] at h) <;> (try (exfalso; omega))))
    have h3 : ∀ (w2 : World) {n : Nat} {hs : List (Nat × Option EObj)} {bs : Nat → Nat}, HRel ⟨Tryd.prog, 85, some l', olds, e, E⟩ (base w) n hs bs w2 → CodeAt w2 c (some ⟨b, off, none⟩) b off := fun w2 _ _ _ hr => hca.at (fun q hq => hr.frame q hq)
    refine callS_pure (.bool (op == 91)) en24 (by simp [closed]) (fun bs w2 hH => ?_) (next_of 1000 ?_)
    · have := (h3 w2 hH).dest (cap := cap) at' (by omega)
      rw [hd1] at this
      exact this
    repeat' (first
      | with_reducible refine And.intro (by first | omega | assumption | (constructor <;> assumption) | (simp; done) | (simp; omega) | (simp [*]; done) | ((repeat' refine And.intro ?_ ?_) <;> first | omega | assumption | (refine SlOk.so (n := ?_) ?_ ?_; rotate_left; assumption; omega) | (simp; done) | fail) | fail) ?_
      | simp (maxSteps := 4000000) (disch := omega) only [go_sem, Nat.reduceBEq, Nat.reduceAdd, Nat.reduceMul, Nat.reduceSub, Nat.reduceLT, Nat.reduceLeDiff, Int.reduceToNat, Int.reduceLT, Int.reduceLE, Int.reduceAdd, Int.reduceMul, Int.reduceSub, Int.reduceNeg, Int.reduceDiv, Int.reduceMod, Nat.reduceBNe, Nat.reduceGT, Int.reduceBEq, Int.reduceBNe, Int.reduceGT, Nat.reduceDiv, Nat.reduceMod, Nat.reducePow, Int.reducePow, gt_iff_lt, ge_iff_le, List.reduceReplicate, ↓reduceIte, bne_self_eq_false]
      | with_reducible refine roundS (next_of 1000 ?_)
      | with_reducible refine drawS_of mixed (by kernel_rfl) (dg_of 1000 ?_)
      | with_reducible refine endD_of (by kernel_rfl) (next_of 1000 ?_)
      | with_reducible refine next_of 1000 ?_
      | ((first | refine condS_split (fun h => ?_) (fun h => ?_) | refine testS_split (fun h => ?_) (fun h => ?_) | refine testD_split (fun h => ?_) (fun h => ?_)) <;> (try simp only [bne_iff_ne, ne_eq, beq_iff_eq, decide_eq_true_eq, decide_eq_false_iff_not, Bool.not_eq_true, Bool.not_eq_false, Bool.not_true, Bool.not_false, bne_eq_false_iff_eq, beq_eq_false_iff_ne, Bool.and_eq_true, Bool.or_eq_true, Bool.and_eq_false_imp, Bool.or_eq_false_iff, Bool.not_eq_true', Bool.not_eq_false', Int.not_lt, Int.not_le] at h) <;> (try (exfalso; omega))))
    all_goals try (exfalso; first | (rename_i h9; exact h9 trivial) | omega)
    refine loopU (S := Nat) (fun j => at' < j ∧ j ≤ nx c at')
      (fun j => ⟨[(8, .int .i64 (j : Nat)), (6, .ptr 6 0), (5, .int .u8 op), (4, .int .i64 (at' : Nat)), (3, .ptr 2 0), (2, .ptr 1 0), (1, .ptr 0 0)], 7,
        [(6, some (.cells [.str s1, .int .u64 g1, .int .i64 p1, .int .i64 q1, .int .i64 dd] 24 (0, 0))), (5, some (.obj (.loop r'))), (4, some (.obj (.deferred (some [])))), (3, some (.cells [.raw (.slice (some ⟨b, off, none⟩) c.length cap)] 41 (0, 0))), (2, some (.cells [.int .i64 (at' : Nat)] 3 (0, 0))), (1, some (.cells [.bool false] 4 (0, 0))), (0, some (.cells [.raw (.slice (some ⟨b, off, none⟩) c.length cap)] 41 (0, 0)))], base w, []⟩)
      (fun j => nx c at' + 1 - j) (at' + 1) ⟨by omega, by unfold nx; omega⟩ (Weak.sub (weak_of (by simp [wσ, go_sem, closed, closeds]) (by simp [whs, go_sem, EObj.closed, closed, closeds]) (by simp [*]) rfl rfl (by simp))) ?_
    rintro j ⟨hj1, hj2⟩
    refine next_of 1000 ?_
    repeat' (first
      | with_reducible refine And.intro (by first | omega | assumption | (constructor <;> assumption) | (simp; done) | (simp; omega) | (simp [*]; done) | ((repeat' refine And.intro ?_ ?_) <;> first | omega | assumption | (refine SlOk.so (n := ?_) ?_ ?_; rotate_left; assumption; omega) | (simp; done) | fail) | fail) ?_
      | simp (maxSteps := 4000000) (disch := omega) only [go_sem, Nat.reduceBEq, Nat.reduceAdd, Nat.reduceMul, Nat.reduceSub, Nat.reduceLT, Nat.reduceLeDiff, Int.reduceToNat, Int.reduceLT, Int.reduceLE, Int.reduceAdd, Int.reduceMul, Int.reduceSub, Int.reduceNeg, Int.reduceDiv, Int.reduceMod, Nat.reduceBNe, Nat.reduceGT, Int.reduceBEq, Int.reduceBNe, Int.reduceGT, Nat.reduceDiv, Nat.reduceMod, Nat.reducePow, Int.reducePow, gt_iff_lt, ge_iff_le, List.reduceReplicate, ↓reduceIte]
      | with_reducible refine roundS (next_of 1000 ?_)
      | with_reducible refine drawS_of mixed (by kernel_rfl) (dg_of 1000 ?_)
      | with_reducible refine endD_of (by kernel_rfl) (next_of 1000 ?_)
      | with_reducible refine next_of 1000 ?_
      | ((first | refine condS_split (fun h => ?_) (fun h => ?_) | refine testS_split (fun h => ?_) (fun h => ?_) | refine testD_split (fun h => ?_) (fun h => ?_)) <;> (try simp only [bne_iff_ne, ne_eq, beq_iff_eq, decide_eq_true_eq, decide_eq_false_iff_not, Bool.not_eq_true, Bool.not_eq_false, Bool.not_true, Bool.not_false, bne_eq_false_iff_eq, beq_eq_false_iff_ne, Bool.and_eq_true, Bool.or_eq_true, Bool.and_eq_false_imp, Bool.or_eq_false_iff, Bool.not_eq_true', Bool.not_eq_false', Int.not_lt, Int.not_le] at h) <;> (try (exfalso; omega))))
    all_goals try exact ⟨at' + 1 + dd, (by rw [hpos2]; exact hnx.1.symm), (weak_of (by simp [wσ, go_sem, closed, closeds]) (by simp [whs, go_sem, EObj.closed, closed, closeds]) (by simp [*]) rfl rfl (by simp))⟩
    rename_i hA hB
    refine callS_pure (.bool false) en24 (by simp [closed]) (fun bs w2 hH => ?_) (next_of 1000 ?_)
    · have := (h3 w2 hH).dest (cap := cap) j (by omega)
      rw [hd2 j hj1 (by omega)] at this
      exact this
    repeat' (first
      | with_reducible refine And.intro (by first | omega | assumption | (constructor <;> assumption) | (simp; done) | (simp; omega) | (simp [*]; done) | ((repeat' refine And.intro ?_ ?_) <;> first | omega | assumption | (refine SlOk.so (n := ?_) ?_ ?_; rotate_left; assumption; omega) | (simp; done) | fail) | fail) ?_
      | simp (maxSteps := 4000000) (disch := omega) only [go_sem, Nat.reduceBEq, Nat.reduceAdd, Nat.reduceMul, Nat.reduceSub, Nat.reduceLT, Nat.reduceLeDiff, Int.reduceToNat, Int.reduceLT, Int.reduceLE, Int.reduceAdd, Int.reduceMul, Int.reduceSub, Int.reduceNeg, Int.reduceDiv, Int.reduceMod, Nat.reduceBNe, Nat.reduceGT, Int.reduceBEq, Int.reduceBNe, Int.reduceGT, Nat.reduceDiv, Nat.reduceMod, Nat.reducePow, Int.reducePow, gt_iff_lt, ge_iff_le, List.reduceReplicate, ↓reduceIte]
      | with_reducible refine roundS (next_of 1000 ?_)
      | with_reducible refine drawS_of mixed (by kernel_rfl) (dg_of 1000 ?_)
      | with_reducible refine endD_of (by kernel_rfl) (next_of 1000 ?_)
      | with_reducible refine next_of 1000 ?_
      | ((first | refine condS_split (fun h => ?_) (fun h => ?_) | refine testS_split (fun h => ?_) (fun h => ?_) | refine testD_split (fun h => ?_) (fun h => ?_)) <;> (try simp only [bne_iff_ne, ne_eq, beq_iff_eq, decide_eq_true_eq, decide_eq_false_iff_not, Bool.not_eq_true, Bool.not_eq_false, Bool.not_true, Bool.not_false, bne_eq_false_iff_eq, beq_eq_false_iff_ne, Bool.and_eq_true, Bool.or_eq_true, Bool.and_eq_false_imp, Bool.or_eq_false_iff, Bool.not_eq_true', Bool.not_eq_false', Int.not_lt, Int.not_le] at h) <;> (try (exfalso; omega))))
    exact ⟨j + 1, ⟨by omega, by omega⟩, Weak.sub (weak_of (by simp [wσ, go_sem, closed, closeds]) (by simp [whs, go_sem, EObj.closed, closed, closeds]) (by simp [*]) rfl rfl (by simp)), by omega⟩
  · rintro s rfl
    have hend := (codesF_pos (c := c) (f := c.length) (a := 0) (by omega) (codes c 0).length).2 rfl
    have hend2 : c.length ≤ posF c (codes c 0) 0 (codes c 0).length := hend
    generalize posF c (codes c 0) 0 (codes c 0).length = q at *
    have h4 : ∀ (w2 : World) {n : Nat} {hs : List (Nat × Option EObj)} {bs : Nat → Nat}, HRel ⟨Tryd.prog, 85, none, [], w, fun _ => False⟩ (base w) n hs bs w2 → CodeAt w2 c ad b off := fun w2 _ _ _ hr => hca.at (fun q hq => hr.frame q hq)
    refine next_of 1000 ?_
    repeat' (first
      | with_reducible refine And.intro (by first | omega | assumption | (constructor <;> assumption) | (simp; done) | (simp; omega) | (simp [*]; done) | ((repeat' refine And.intro ?_ ?_) <;> first | omega | assumption | (refine SlOk.so (n := ?_) ?_ ?_; rotate_left; assumption; omega) | (simp; done) | fail) | fail) ?_
      | simp (maxSteps := 4000000) (disch := omega) only [go_sem, Nat.reduceBEq, Nat.reduceAdd, Nat.reduceMul, Nat.reduceSub, Nat.reduceLT, Nat.reduceLeDiff, Int.reduceToNat, Int.reduceLT, Int.reduceLE, Int.reduceAdd, Int.reduceMul, Int.reduceSub, Int.reduceNeg, Int.reduceDiv, Int.reduceMod, Nat.reduceBNe, Nat.reduceGT, Int.reduceBEq, Int.reduceBNe, Int.reduceGT, Nat.reduceDiv, Nat.reduceMod, Nat.reducePow, Int.reducePow, gt_iff_lt, ge_iff_le, List.reduceReplicate, ↓reduceIte]
      | with_reducible refine roundS (next_of 1000 ?_)
      | with_reducible refine drawS_of mixed (by kernel_rfl) (dg_of 1000 ?_)
      | with_reducible refine endD_of (by kernel_rfl) (next_of 1000 ?_)
      | with_reducible refine next_of 1000 ?_
      | ((first | refine condS_split (fun h => ?_) (fun h => ?_) | refine testS_split (fun h => ?_) (fun h => ?_) | refine testD_split (fun h => ?_) (fun h => ?_)) <;> (try simp only [bne_iff_ne, ne_eq, beq_iff_eq, decide_eq_true_eq, decide_eq_false_iff_not, Bool.not_eq_true, Bool.not_eq_false, Bool.not_true, Bool.not_false, bne_eq_false_iff_eq, beq_eq_false_iff_ne, Bool.and_eq_true, Bool.or_eq_true, Bool.and_eq_false_imp, Bool.or_eq_false_iff, Bool.not_eq_true', Bool.not_eq_false', Int.not_lt, Int.not_le] at h) <;> (try (exfalso; omega))))
    refine callS_pure (.bool false) en24 (by simp [closed]) (fun bs w2 hH => ?_) (next_of 1000 ?_)
    · have := (h4 w2 hH).dest (cap := cap) (-1) (by omega)
      rw [destB_out (by omega)] at this
      exact this
    repeat' (first
      | with_reducible refine And.intro (by first | omega | assumption | (constructor <;> assumption) | (simp; done) | (simp; omega) | (simp [*]; done) | ((repeat' refine And.intro ?_ ?_) <;> first | omega | assumption | (refine SlOk.so (n := ?_) ?_ ?_; rotate_left; assumption; omega) | (simp; done) | fail) | fail) ?_
      | simp (maxSteps := 4000000) (disch := omega) only [go_sem, Nat.reduceBEq, Nat.reduceAdd, Nat.reduceMul, Nat.reduceSub, Nat.reduceLT, Nat.reduceLeDiff, Int.reduceToNat, Int.reduceLT, Int.reduceLE, Int.reduceAdd, Int.reduceMul, Int.reduceSub, Int.reduceNeg, Int.reduceDiv, Int.reduceMod, Nat.reduceBNe, Nat.reduceGT, Int.reduceBEq, Int.reduceBNe, Int.reduceGT, Nat.reduceDiv, Nat.reduceMod, Nat.reducePow, Int.reducePow, gt_iff_lt, ge_iff_le, List.reduceReplicate, ↓reduceIte]
      | with_reducible refine roundS (next_of 1000 ?_)
      | with_reducible refine drawS_of mixed (by kernel_rfl) (dg_of 1000 ?_)
      | with_reducible refine endD_of (by kernel_rfl) (next_of 1000 ?_)
      | with_reducible refine next_of 1000 ?_
      | ((first | refine condS_split (fun h => ?_) (fun h => ?_) | refine testS_split (fun h => ?_) (fun h => ?_) | refine testD_split (fun h => ?_) (fun h => ?_)) <;> (try simp only [bne_iff_ne, ne_eq, beq_iff_eq, decide_eq_true_eq, decide_eq_false_iff_not, Bool.not_eq_true, Bool.not_eq_false, Bool.not_true, Bool.not_false, bne_eq_false_iff_eq, beq_eq_false_iff_ne, Bool.and_eq_true, Bool.or_eq_true, Bool.and_eq_false_imp, Bool.or_eq_false_iff, Bool.not_eq_true', Bool.not_eq_false', Int.not_lt, Int.not_le] at h) <;> (try (exfalso; omega))))
    refine callS_pure (.bool false) en24 (by simp [closed]) (fun bs w2 hH => ?_) (next_of 1000 ?_)
    · have := (h4 w2 hH).dest (cap := cap) (c.length : Nat) (by omega)
      rw [destB_out (by omega)] at this
      exact this
    repeat' (first
      | with_reducible refine And.intro (by first | omega | assumption | (constructor <;> assumption) | (simp; done) | (simp; omega) | (simp [*]; done) | ((repeat' refine And.intro ?_ ?_) <;> first | omega | assumption | (refine SlOk.so (n := ?_) ?_ ?_; rotate_left; assumption; omega) | (simp; done) | fail) | fail) ?_
      | simp (maxSteps := 4000000) (disch := omega) only [go_sem, Nat.reduceBEq, Nat.reduceAdd, Nat.reduceMul, Nat.reduceSub, Nat.reduceLT, Nat.reduceLeDiff, Int.reduceToNat, Int.reduceLT, Int.reduceLE, Int.reduceAdd, Int.reduceMul, Int.reduceSub, Int.reduceNeg, Int.reduceDiv, Int.reduceMod, Nat.reduceBNe, Nat.reduceGT, Int.reduceBEq, Int.reduceBNe, Int.reduceGT, Nat.reduceDiv, Nat.reduceMod, Nat.reducePow, Int.reducePow, gt_iff_lt, ge_iff_le, List.reduceReplicate, ↓reduceIte]
      | with_reducible refine roundS (next_of 1000 ?_)
      | with_reducible refine drawS_of mixed (by kernel_rfl) (dg_of 1000 ?_)
      | with_reducible refine endD_of (by kernel_rfl) (next_of 1000 ?_)
      | with_reducible refine next_of 1000 ?_
      | ((first | refine condS_split (fun h => ?_) (fun h => ?_) | refine testS_split (fun h => ?_) (fun h => ?_) | refine testD_split (fun h => ?_) (fun h => ?_)) <;> (try simp only [bne_iff_ne, ne_eq, beq_iff_eq, decide_eq_true_eq, decide_eq_false_iff_not, Bool.not_eq_true, Bool.not_eq_false, Bool.not_true, Bool.not_false, bne_eq_false_iff_eq, beq_eq_false_iff_ne, Bool.and_eq_true, Bool.or_eq_true, Bool.and_eq_false_imp, Bool.or_eq_false_iff, Bool.not_eq_true', Bool.not_eq_false', Int.not_lt, Int.not_le] at h) <;> (try (exfalso; omega))))
    all_goals first | exact fun bs => rfl | (exfalso; omega)
  · exact fun s h => h.elim
  · exact fun id s h => h.elim
end Go.Proofs.YthknokcfmpahcaaDoor
