/- Part of a proof over the seat YthknokcfmpahcaaDoor. -/
import Derived.Test.YthknokcfmpahcaaDoorTC0
namespace Go.Proofs.YthknokcfmpahcaaDoor
open Go RowKit Go.Ew
set_option maxRecDepth 100000
set_option linter.unusedSimpArgs false
set_option linter.unusedVariables false
set_option maxHeartbeats 4000000
theorem in6 : codeIn Tryd.f6.ntmps (Tryd.f6.body.getD .skip) = true := by kernel_rfl
theorem destB_mem {c : List Int} {a : Int} (ha : -9223372036854775808 ≤ a ∧ a < 9223372036854775808) : destB c a = true ↔ ∃ d ∈ dests c, (d : Int) = a := by
  by_cases h : a < 0
  · rw [destB_out (.inl h)]
    constructor
    · intro h; cases h
    · rintro ⟨d, _, hd⟩; omega
  · obtain ⟨n, rfl⟩ : ∃ n : Nat, a = n := ⟨a.toNat, by omega⟩
    rw [destB_iff]
    refine ⟨fun h => ⟨n, h, rfl⟩, fun ⟨d, h1, h2⟩ => ?_⟩
    have : d = n := by omega
    subst this; exact h1
theorem dests_len {c : List Int} (hl : c.length ≤ 1048576) : (dests c).length ≤ 1048576 := by
  have := codesF_len (c := c) (c.length - 0) 0
  unfold dests codes
  rw [List.length_map]
  have h2 := List.length_filter_le (fun p : Nat × Int => p.2 == 91) (codesF c (c.length - 0) 0)
  omega
theorem refdest_fn (c : List Int) (ad : Option Addr) (cap : Nat) (a : Int) (ha : -9223372036854775808 ≤ a ∧ a < 9223372036854775808) (B : Base) (h : IntsAt B .u8 ad c) (hr : ∀ i, i < c.length → 0 ≤ c.getD i 0 ∧ c.getD i 0 < 256) (hl : c.length ≤ 1048576) :
    Does Tryd.prog 25 [.raw (.slice ad c.length cap), .int .i64 a] B (fun _ : Unit => .bool (destB c a)) (fun _ _ => True) := by
  refine fn_of en25 (fun s B B' hB hR => hR) Tryd.func25 rfl in25 (by simp [Tryd.f25]) (by simp [closeds, closed]) (fun B0 hB0 => next_of 1000 ?_)
  replace h := h.ext hB0
  simp (maxSteps := 4000000) (disch := omega) only [go_sem, Nat.reduceBEq, Nat.reduceAdd, Nat.reduceMul, Nat.reduceSub, Nat.reduceLT, Nat.reduceLeDiff, Int.reduceToNat, Int.reduceLT, Int.reduceLE, Int.reduceAdd, Int.reduceMul, Int.reduceSub, Int.reduceNeg, Int.reduceDiv, Int.reduceMod, Nat.reduceBNe, Nat.reduceGT, Int.reduceBEq, Int.reduceBNe, Int.reduceGT, Nat.reduceDiv, Nat.reduceMod, Nat.reducePow, Int.reducePow, gt_iff_lt, ge_iff_le, List.reduceReplicate, ↓reduceIte, Tryd.f25]
  repeat (with_reducible refine And.intro (by first | omega | assumption | (constructor <;> assumption) | (simp; done) | (simp; omega) | (simp [*]; done) | ((repeat' refine And.intro ?_ ?_) <;> first | omega | assumption | (refine SlOk.so (n := ?_) ?_ ?_; rotate_left; assumption; omega) | (simp; done) | fail) | fail) ?_)
  refine callS_f (refdests_fn c ad cap B0 h hr hl) (fun _ => trivial) (fun s B1 hB1 hc1 => next_of 1000 ?_)
  obtain ⟨ad1, cap1⟩ := s
  simp only at hc1
  have hdl := dests_len hl
  simp (maxSteps := 4000000) (disch := omega) only [go_sem, Nat.reduceBEq, Nat.reduceAdd, Nat.reduceMul, Nat.reduceSub, Nat.reduceLT, Nat.reduceLeDiff, Int.reduceToNat, Int.reduceLT, Int.reduceLE, Int.reduceAdd, Int.reduceMul, Int.reduceSub, Int.reduceNeg, Int.reduceDiv, Int.reduceMod, Nat.reduceBNe, Nat.reduceGT, Int.reduceBEq, Int.reduceBNe, Int.reduceGT, Nat.reduceDiv, Nat.reduceMod, Nat.reducePow, Int.reducePow, gt_iff_lt, ge_iff_le, List.reduceReplicate, ↓reduceIte]
  repeat (with_reducible refine And.intro (by first | omega | assumption | (constructor <;> assumption) | (simp; done) | (simp; omega) | (simp [*]; done) | ((repeat' refine And.intro ?_ ?_) <;> first | omega | assumption | (refine SlOk.so (n := ?_) ?_ ?_; rotate_left; assumption; omega) | (simp; done) | fail) | fail) ?_)
  refine loopU (S := Nat) (fun i => i ≤ (dests c).length ∧ ∀ j d, j < i → (dests c)[j]? = some d → (d : Int) ≠ a)
    (fun i => ⟨[(6, .int .i64 (i : Nat)), (5, .raw (.slice ad1 (dests c).length cap1)), (1, .int .i64 a)], 0, [], B1, []⟩) (fun i => (dests c).length - i) 0 ⟨Nat.zero_le _, fun j d hj => absurd hj (Nat.not_lt_zero j)⟩ (Weak.sub (weak_of (by simp [wσ, go_sem, closed, closeds, lE_closed] <;> omega) (by simp [whs, Go.Ew.hget, go_sem, EObj.closed, closed, closeds, lE_closed]) (by simp [*]) rfl rfl (by simp))) ?_
  rintro i ⟨hi, hne⟩
  refine next_of 1000 ?_
  simp (maxSteps := 4000000) (disch := omega) only [go_sem, Nat.reduceBEq, Nat.reduceAdd, Nat.reduceMul, Nat.reduceSub, Nat.reduceLT, Nat.reduceLeDiff, Int.reduceToNat, Int.reduceLT, Int.reduceLE, Int.reduceAdd, Int.reduceMul, Int.reduceSub, Int.reduceNeg, Int.reduceDiv, Int.reduceMod, Nat.reduceBNe, Nat.reduceGT, Int.reduceBEq, Int.reduceBNe, Int.reduceGT, Nat.reduceDiv, Nat.reduceMod, Nat.reducePow, Int.reducePow, gt_iff_lt, ge_iff_le, List.reduceReplicate, ↓reduceIte]
  repeat (with_reducible refine And.intro (by first | omega | assumption | (constructor <;> assumption) | (simp; done) | (simp; omega) | (simp [*]; done) | ((repeat' refine And.intro ?_ ?_) <;> first | omega | assumption | (refine SlOk.so (n := ?_) ?_ ?_; rotate_left; assumption; omega) | (simp; done) | fail) | fail) ?_)
  refine condS_split (fun h1 => ?_) (fun h1 => ?_)
  all_goals (try simp only [bne_iff_ne, ne_eq, beq_iff_eq, decide_eq_true_eq, decide_eq_false_iff_not, Bool.not_eq_true, Bool.not_eq_false, Bool.not_true, Bool.not_false, bne_eq_false_iff_eq, beq_eq_false_iff_ne, Bool.and_eq_true, Bool.or_eq_true, Bool.and_eq_false_imp, Bool.or_eq_false_iff, Bool.not_eq_true', Bool.not_eq_false', Int.not_lt, Int.not_le] at h1)
  · have hi' : i < (dests c).length := by omega
    obtain ⟨d, hd⟩ : ∃ d, (dests c)[i]? = some d := ⟨_, List.getElem?_eq_getElem hi'⟩
    obtain ⟨a1, a2, a3⟩ := hc1.raw (j := i) (v := .int .i64 d) (by rw [List.getElem?_map, hd]; rfl)
    simp only [ofScalar] at a1
    have so1 : ad1.isSome = true := hc1.so (by simp; omega)
    simp (maxSteps := 4000000) (disch := omega) only [go_sem, Nat.reduceBEq, Nat.reduceAdd, Nat.reduceMul, Nat.reduceSub, Nat.reduceLT, Nat.reduceLeDiff, Int.reduceToNat, Int.reduceLT, Int.reduceLE, Int.reduceAdd, Int.reduceMul, Int.reduceSub, Int.reduceNeg, Int.reduceDiv, Int.reduceMod, Nat.reduceBNe, Nat.reduceGT, Int.reduceBEq, Int.reduceBNe, Int.reduceGT, Nat.reduceDiv, Nat.reduceMod, Nat.reducePow, Int.reducePow, gt_iff_lt, ge_iff_le, List.reduceReplicate, ↓reduceIte, a1, a2, a3, Int.toNat_natCast]
    repeat (with_reducible refine And.intro (by first | omega | assumption | (constructor <;> assumption) | (simp; done) | (simp; omega) | (simp [*]; done) | ((repeat' refine And.intro ?_ ?_) <;> first | omega | assumption | (refine SlOk.so (n := ?_) ?_ ?_; rotate_left; assumption; omega) | (simp; done) | fail) | fail) ?_)
    refine condS_split (fun h2 => ?_) (fun h2 => ?_)
    all_goals (try simp only [bne_iff_ne, ne_eq, beq_iff_eq, decide_eq_true_eq, decide_eq_false_iff_not, Bool.not_eq_true, Bool.not_eq_false, Bool.not_true, Bool.not_false, bne_eq_false_iff_eq, beq_eq_false_iff_ne, Bool.and_eq_true, Bool.or_eq_true, Bool.and_eq_false_imp, Bool.or_eq_false_iff, Bool.not_eq_true', Bool.not_eq_false', Int.not_lt, Int.not_le] at h2)
    · simp (maxSteps := 4000000) (disch := omega) only [go_sem, Nat.reduceBEq, Nat.reduceAdd, Nat.reduceMul, Nat.reduceSub, Nat.reduceLT, Nat.reduceLeDiff, Int.reduceToNat, Int.reduceLT, Int.reduceLE, Int.reduceAdd, Int.reduceMul, Int.reduceSub, Int.reduceNeg, Int.reduceDiv, Int.reduceMod, Nat.reduceBNe, Nat.reduceGT, Int.reduceBEq, Int.reduceBNe, Int.reduceGT, Nat.reduceDiv, Nat.reduceMod, Nat.reducePow, Int.reducePow, gt_iff_lt, ge_iff_le, List.reduceReplicate, ↓reduceIte]
      repeat (with_reducible refine And.intro (by first | omega | assumption | (constructor <;> assumption) | (simp; done) | (simp; omega) | (simp [*]; done) | ((repeat' refine And.intro ?_ ?_) <;> first | omega | assumption | (refine SlOk.so (n := ?_) ?_ ?_; rotate_left; assumption; omega) | (simp; done) | fail) | fail) ?_)
      refine ⟨(), ?_, trivial⟩
      rw [(destB_mem ha).2 ⟨d, List.mem_of_getElem? hd, h2⟩]
    · simp (maxSteps := 4000000) (disch := omega) only [go_sem, Nat.reduceBEq, Nat.reduceAdd, Nat.reduceMul, Nat.reduceSub, Nat.reduceLT, Nat.reduceLeDiff, Int.reduceToNat, Int.reduceLT, Int.reduceLE, Int.reduceAdd, Int.reduceMul, Int.reduceSub, Int.reduceNeg, Int.reduceDiv, Int.reduceMod, Nat.reduceBNe, Nat.reduceGT, Int.reduceBEq, Int.reduceBNe, Int.reduceGT, Nat.reduceDiv, Nat.reduceMod, Nat.reducePow, Int.reducePow, gt_iff_lt, ge_iff_le, List.reduceReplicate, ↓reduceIte]
      repeat (with_reducible refine And.intro (by first | omega | assumption | (constructor <;> assumption) | (simp; done) | (simp; omega) | (simp [*]; done) | ((repeat' refine And.intro ?_ ?_) <;> first | omega | assumption | (refine SlOk.so (n := ?_) ?_ ?_; rotate_left; assumption; omega) | (simp; done) | fail) | fail) ?_)
      refine ⟨i + 1, ⟨by omega, fun j d' hj hd' => ?_⟩, Weak.sub (weak_of (by simp [wσ, go_sem, closed, closeds, lE_closed] <;> omega) (by simp [whs, Go.Ew.hget, go_sem, EObj.closed, closed, closeds, lE_closed]) (by simp [*]) rfl rfl (by simp)), by omega⟩
      rcases Nat.lt_or_ge j i with h | h
      · exact hne j d' h hd'
      · have : j = i := by omega
        subst this
        rw [hd] at hd'
        cases hd'
        exact h2
  · have hi' : i = (dests c).length := by omega
    simp (maxSteps := 4000000) (disch := omega) only [go_sem, Nat.reduceBEq, Nat.reduceAdd, Nat.reduceMul, Nat.reduceSub, Nat.reduceLT, Nat.reduceLeDiff, Int.reduceToNat, Int.reduceLT, Int.reduceLE, Int.reduceAdd, Int.reduceMul, Int.reduceSub, Int.reduceNeg, Int.reduceDiv, Int.reduceMod, Nat.reduceBNe, Nat.reduceGT, Int.reduceBEq, Int.reduceBNe, Int.reduceGT, Nat.reduceDiv, Nat.reduceMod, Nat.reducePow, Int.reducePow, gt_iff_lt, ge_iff_le, List.reduceReplicate, ↓reduceIte]
    repeat (with_reducible refine And.intro (by first | omega | assumption | (constructor <;> assumption) | (simp; done) | (simp; omega) | (simp [*]; done) | ((repeat' refine And.intro ?_ ?_) <;> first | omega | assumption | (refine SlOk.so (n := ?_) ?_ ?_; rotate_left; assumption; omega) | (simp; done) | fail) | fail) ?_)
    refine next_of 1000 ?_
    simp (maxSteps := 4000000) (disch := omega) only [go_sem, Nat.reduceBEq, Nat.reduceAdd, Nat.reduceMul, Nat.reduceSub, Nat.reduceLT, Nat.reduceLeDiff, Int.reduceToNat, Int.reduceLT, Int.reduceLE, Int.reduceAdd, Int.reduceMul, Int.reduceSub, Int.reduceNeg, Int.reduceDiv, Int.reduceMod, Nat.reduceBNe, Nat.reduceGT, Int.reduceBEq, Int.reduceBNe, Int.reduceGT, Nat.reduceDiv, Nat.reduceMod, Nat.reducePow, Int.reducePow, gt_iff_lt, ge_iff_le, List.reduceReplicate, ↓reduceIte]
    repeat (with_reducible refine And.intro (by first | omega | assumption | (constructor <;> assumption) | (simp; done) | (simp; omega) | (simp [*]; done) | ((repeat' refine And.intro ?_ ?_) <;> first | omega | assumption | (refine SlOk.so (n := ?_) ?_ ?_; rotate_left; assumption; omega) | (simp; done) | fail) | fail) ?_)
    refine ⟨(), ?_, trivial⟩
    suffices hx : destB c a = false by rw [hx]
    refine Bool.eq_false_iff.2 (fun h => ?_)
    obtain ⟨d, hm, hd⟩ := (destB_mem ha).1 h
    obtain ⟨j, hj⟩ := List.getElem?_of_mem hm
    have : j < (dests c).length := by
      rcases Nat.lt_or_ge j (dests c).length with h | h
      · exact h
      · rw [List.getElem?_eq_none h] at hj; cases hj
    exact hne j d (by omega) hj hd
theorem law_code (c : List Int) (ad : Option Addr) (cap : Nat) (a most : Int) (ha : -9223372036854775808 ≤ a ∧ a < 9223372036854775808) (hm : -9223372036854775808 ≤ most ∧ most < 9223372036854775808) (w : World) (h : IntsAt (base w) .u8 ad c) (hr : ∀ i, i < c.length → 0 ≤ c.getD i 0 ∧ c.getD i 0 < 256) (hl : c.length ≤ 1048576) :
    Calls Tryd.prog 6 #[.slice ad c.length cap, .int .i64 a, .int .i64 most] w (Ret (.bool true) w) := by
  refine pure_callsX [.raw (.slice ad c.length cap), .int .i64 a, .int .i64 most] Tryd.func6 rfl in6 (by simp [Tryd.f6]) (by simp [closeds, closed]) ?_
  generalize base w = B0 at h ⊢
  have hB1 := BExt.refl B0
  refine next_of 1000 ?_
  simp (maxSteps := 4000000) (disch := omega) only [go_sem, Nat.reduceBEq, Nat.reduceAdd, Nat.reduceMul, Nat.reduceSub, Nat.reduceLT, Nat.reduceLeDiff, Int.reduceToNat, Int.reduceLT, Int.reduceLE, Int.reduceAdd, Int.reduceMul, Int.reduceSub, Int.reduceNeg, Int.reduceDiv, Int.reduceMod, Nat.reduceBNe, Nat.reduceGT, Int.reduceBEq, Int.reduceBNe, Int.reduceGT, Nat.reduceDiv, Nat.reduceMod, Nat.reducePow, Int.reducePow, gt_iff_lt, ge_iff_le, List.reduceReplicate, ↓reduceIte, Tryd.f6]
  repeat (with_reducible refine And.intro (by first | omega | assumption | (constructor <;> assumption) | (simp; done) | (simp; omega) | (simp [*]; done) | ((repeat' refine And.intro ?_ ?_) <;> first | omega | assumption | (refine SlOk.so (n := ?_) ?_ ?_; rotate_left; assumption; omega) | (simp; done) | fail) | fail) ?_)
  have hsrc : ∀ hs, ∃ c', srcOf B0 hs 1 (.raw (.slice ad c.length cap)) = some (c.length, c.map (EV.int .u8), c') ∧ c' := fun hs => by
    have := CellsAt.src (n := c.length) (cap := cap) (sz := 1) h (by omega) (by simp) hs
    rw [List.map_map] at this
    exact this
  have hi0 : closeds 0 (c.map (EV.int .u8)) := by rw [closeds_iff]; intro v hv; obtain ⟨p, _, rfl⟩ := List.mem_map.1 hv; simp [closed]
  have hi1 : oneAll (c.map (EV.int .u8)) = true := one_allInt (fun v hv => by obtain ⟨p, _, rfl⟩ := List.mem_map.1 hv; exact ⟨_, _, rfl⟩)
  refine appendL (T := 5) (zs := [.int .u8 0]) (l := some (0, [])) (xs := []) 2 0 rfl Tryd.underlying41 (.inl ⟨_, Tryd.underlying41⟩) zr5 cz5 (by simp) (by simp [closeds, closed]) rfl rfl rfl (by simp [lOk, maxLen]) rfl (by simp [closeds]) (Classical.choose_spec (hsrc _)).1 (Classical.choose_spec (hsrc _)).2 hi1 (by simp [maxLen]; omega) (by rw [by5]; omega) (fun l' hl' => ?_)
  simp only [Nat.zero_add, List.nil_append] at hl' ⊢
  refine freezeL 3 c.length (T := 5) rfl hl' (by simp) hi0 (by simp [closeds, closed]) (by simp) (fun b ad2 cap2 B2 hE hfz hD hso hcell => next_of 1000 ?_)
  have h2 : IntsAt B2 .u8 ad2 c := cellsAt_frz hD hso (fun h => by rw [List.length_eq_zero_iff.1 h]; rfl) hcell (by rw [reals_eq, List.map_map]; rfl)
  replace hB1 := hB1.trans hE
  replace h := h.ext hE
  simp (maxSteps := 4000000) (disch := omega) only [go_sem, Nat.reduceBEq, Nat.reduceAdd, Nat.reduceMul, Nat.reduceSub, Nat.reduceLT, Nat.reduceLeDiff, Int.reduceToNat, Int.reduceLT, Int.reduceLE, Int.reduceAdd, Int.reduceMul, Int.reduceSub, Int.reduceNeg, Int.reduceDiv, Int.reduceMod, Nat.reduceBNe, Nat.reduceGT, Int.reduceBEq, Int.reduceBNe, Int.reduceGT, Nat.reduceDiv, Nat.reduceMod, Nat.reducePow, Int.reducePow, gt_iff_lt, ge_iff_le, List.reduceReplicate, ↓reduceIte, hfz]
  repeat (with_reducible refine And.intro (by first | omega | assumption | (constructor <;> assumption) | (simp; done) | (simp; omega) | (simp [*]; done) | ((repeat' refine And.intro ?_ ?_) <;> first | omega | assumption | (refine SlOk.so (n := ?_) ?_ ?_; rotate_left; assumption; omega) | (simp; done) | fail) | fail) ?_)
  obtain ⟨bl, off, hpl, hpc⟩ := h.place
  have hdest : ∀ {n : Nat} {hs : List (Nat × Option EObj)} {bs : Nat → Nat} {w2 : World}, HRel ⟨Tryd.prog, 101, none, [], w, fun _ => False⟩ B2 n hs bs w2 → Calls Tryd.prog 24 #[.slice ad2 c.length cap2, .int .i64 a] w2 (Ret (.bool (destB c a)) w2) := by
    intro n hs bs w2 hh
    have h3 := h2.ext hh.ext
    refine dest_calls w2 c b 0 cap2 ad2 (fun h0 => ?_) a ha (fun i hi => ?_) hr (by omega) (fun h0 => ?_)
    · obtain ⟨a', ha'⟩ := Option.isSome_iff_exists.1 (hso h0)
      rw [ha', (hD a' ha').1]
    · obtain ⟨a', ha'⟩ := Option.isSome_iff_exists.1 (hso (by omega))
      have e := h3.lc i hi
      rw [ha', (hD a' ha').1, adrAt_some, add_spot] at e
      exact e
    · obtain ⟨a', ha'⟩ := Option.isSome_iff_exists.1 (hso h0)
      exact (hh.frame b (hD a' ha').2).1
  refine callS_pure (.bool (destB c a)) en24 trivial (fun bs w2 hh => hdest hh) (next_of 1000 ?_)
  simp (maxSteps := 4000000) (disch := omega) only [go_sem, Nat.reduceBEq, Nat.reduceAdd, Nat.reduceMul, Nat.reduceSub, Nat.reduceLT, Nat.reduceLeDiff, Int.reduceToNat, Int.reduceLT, Int.reduceLE, Int.reduceAdd, Int.reduceMul, Int.reduceSub, Int.reduceNeg, Int.reduceDiv, Int.reduceMod, Nat.reduceBNe, Nat.reduceGT, Int.reduceBEq, Int.reduceBNe, Int.reduceGT, Nat.reduceDiv, Nat.reduceMod, Nat.reducePow, Int.reducePow, gt_iff_lt, ge_iff_le, List.reduceReplicate, ↓reduceIte]
  repeat (with_reducible refine And.intro (by first | omega | assumption | (constructor <;> assumption) | (simp; done) | (simp; omega) | (simp [*]; done) | ((repeat' refine And.intro ?_ ?_) <;> first | omega | assumption | (refine SlOk.so (n := ?_) ?_ ?_; rotate_left; assumption; omega) | (simp; done) | fail) | fail) ?_)
  refine callS_f (refdest_fn c ad cap a ha B2 h hr hl) (fun _ => trivial) (fun _ B3 hB3 _ => next_of 1000 ?_)
  replace hB1 := hB1.trans hB3
  replace h := h.ext hB3
  simp (maxSteps := 4000000) (disch := omega) only [go_sem, Nat.reduceBEq, Nat.reduceAdd, Nat.reduceMul, Nat.reduceSub, Nat.reduceLT, Nat.reduceLeDiff, Int.reduceToNat, Int.reduceLT, Int.reduceLE, Int.reduceAdd, Int.reduceMul, Int.reduceSub, Int.reduceNeg, Int.reduceDiv, Int.reduceMod, Nat.reduceBNe, Nat.reduceGT, Int.reduceBEq, Int.reduceBNe, Int.reduceGT, Nat.reduceDiv, Nat.reduceMod, Nat.reducePow, Int.reducePow, gt_iff_lt, ge_iff_le, List.reduceReplicate, ↓reduceIte, bne_self_eq_false]
  repeat (with_reducible refine And.intro (by first | omega | assumption | (constructor <;> assumption) | (simp; done) | (simp; omega) | (simp [*]; done) | ((repeat' refine And.intro ?_ ?_) <;> first | omega | assumption | (refine SlOk.so (n := ?_) ?_ ?_; rotate_left; assumption; omega) | (simp; done) | fail) | fail) ?_)
  refine callS_pure (.bool true) en15 trivial (fun bs w _ => awake_calls w) (next_of 1000 ?_)
  simp (maxSteps := 4000000) (disch := omega) only [go_sem, Nat.reduceBEq, Nat.reduceAdd, Nat.reduceMul, Nat.reduceSub, Nat.reduceLT, Nat.reduceLeDiff, Int.reduceToNat, Int.reduceLT, Int.reduceLE, Int.reduceAdd, Int.reduceMul, Int.reduceSub, Int.reduceNeg, Int.reduceDiv, Int.reduceMod, Nat.reduceBNe, Nat.reduceGT, Int.reduceBEq, Int.reduceBNe, Int.reduceGT, Nat.reduceDiv, Nat.reduceMod, Nat.reducePow, Int.reducePow, gt_iff_lt, ge_iff_le, List.reduceReplicate, ↓reduceIte]
  repeat (with_reducible refine And.intro (by first | omega | assumption | (constructor <;> assumption) | (simp; done) | (simp; omega) | (simp [*]; done) | ((repeat' refine And.intro ?_ ?_) <;> first | omega | assumption | (refine SlOk.so (n := ?_) ?_ ?_; rotate_left; assumption; omega) | (simp; done) | fail) | fail) ?_)
  refine callS_f (refcodes_fn c ad cap B3 h hr hl) (fun _ => trivial) (fun s B4 hB4 hcs => next_of 1000 ?_)
  obtain ⟨adw, capw⟩ := s
  simp only at hcs
  replace hB1 := hB1.trans hB4
  replace h := h.ext hB4
  simp (maxSteps := 4000000) (disch := omega) only [go_sem, Nat.reduceBEq, Nat.reduceAdd, Nat.reduceMul, Nat.reduceSub, Nat.reduceLT, Nat.reduceLeDiff, Int.reduceToNat, Int.reduceLT, Int.reduceLE, Int.reduceAdd, Int.reduceMul, Int.reduceSub, Int.reduceNeg, Int.reduceDiv, Int.reduceMod, Nat.reduceBNe, Nat.reduceGT, Int.reduceBEq, Int.reduceBNe, Int.reduceGT, Nat.reduceDiv, Nat.reduceMod, Nat.reducePow, Int.reducePow, gt_iff_lt, ge_iff_le, List.reduceReplicate, ↓reduceIte]
  repeat (with_reducible refine And.intro (by first | omega | assumption | (constructor <;> assumption) | (simp; done) | (simp; omega) | (simp [*]; done) | ((repeat' refine And.intro ?_ ?_) <;> first | omega | assumption | (refine SlOk.so (n := ?_) ?_ ?_; rotate_left; assumption; omega) | (simp; done) | fail) | fail) ?_)
  have hB34 := hB4
  have hB23 := hB3
  have hiter : ∀ {n : Nat} {hs : List (Nat × Option EObj)} {bs : Nat → Nat} {w2 : World} {nc : Nat} {Rn : List Nat}, HRel ⟨Tryd.prog, 101, none, [], w, fun _ => False⟩ B4 n hs bs w2 → (∀ i ∈ Rn, ∃ o, w2.heap[bs i]? = some o) → nc ∈ Rn → w2.cell? ⟨bs nc, 0, none⟩ = some (.slice ad c.length cap) →
      IterOk Tryd.prog 66 (fun y => (reals bs ([] ++ [.raw y] ++ [.ptr nc 0])).toArray) w2 (fun b => (∃ i ∈ Rn, b = bs i) ∨ (b = bl ∧ 0 < c.length)) (codes c 0).length encC (fun k a _ => (codes c 0)[k]? = some a) := by
    intro n hs bs w2 nc Rn hH hlv hnc hcell
    have h3 := h.ext hH.ext
    refine codes1_iter w2 c (bs nc) bl off cap ad (fun h0 => (hpl h0).1) hcell (fun i hi => ?_) hr (by omega) _ (.inl ⟨nc, hnc, rfl⟩) (fun h0 => .inr ⟨rfl, h0⟩) ?_
    · have e := h3.lc i hi
      rw [(hpl (by omega)).1, adrAt_some, add_spot] at e
      exact e
    · rintro q (⟨i, hi, rfl⟩ | ⟨rfl, h0⟩)
      · obtain ⟨o, ho⟩ := hlv i hi; exact heap_lt ho
      · exact (hH.frame _ (hB34.D _ (hB23.D _ (hpl h0).2))).1
  have hiter2 : ∀ {B5 : Base} {n : Nat} {hs : List (Nat × Option EObj)} {bs : Nat → Nat} {w2 : World} {nc : Nat} {Rn : List Nat}, BExt B4 B5 → HRel ⟨Tryd.prog, 101, none, [], w, fun _ => False⟩ B5 n hs bs w2 → (∀ i ∈ Rn, ∃ o, w2.heap[bs i]? = some o) → nc ∈ Rn → w2.cell? ⟨bs nc, 0, none⟩ = some (.slice ad c.length cap) →
      IterOk Tryd.prog 67 (fun y => (reals bs ([] ++ [.raw y] ++ [.ptr nc 0])).toArray) w2 (fun b => (∃ i ∈ Rn, b = bs i) ∨ (b = bl ∧ 0 < c.length)) (dests c).length encD (fun k a _ => (dests c)[k]? = some a) := by
    intro B5 n hs bs w2 nc Rn hB45 hH hlv hnc hcell
    have h3 := (h.ext hB45).ext hH.ext
    refine dests1_iter w2 c (bs nc) bl off cap ad (fun h0 => (hpl h0).1) hcell (fun i hi => ?_) hr (by omega) _ (.inl ⟨nc, hnc, rfl⟩) (fun h0 => .inr ⟨rfl, h0⟩) ?_
    · have e := h3.lc i hi
      rw [(hpl (by omega)).1, adrAt_some, add_spot] at e
      exact e
    · rintro q (⟨i, hi, rfl⟩ | ⟨rfl, h0⟩)
      · obtain ⟨o, ho⟩ := hlv i hi; exact heap_lt ho
      · exact (hH.frame _ (hB45.D _ (hB34.D _ (hB23.D _ (hpl h0).2)))).1
  have hdl := dests_len hl
  have hcl : (codes c 0).length ≤ 1048576 := by have := codesF_len (c := c) (c.length - 0) 0; unfold codes; omega
  refine packS [4, 5] 2 (by simp) (by simp) (by simp) (by simp) (next_of 1000 ?_)
  simp (maxSteps := 4000000) (disch := omega) only [go_sem, Nat.reduceBEq, Nat.reduceAdd, Nat.reduceMul, Nat.reduceSub, Nat.reduceLT, Nat.reduceLeDiff, Int.reduceToNat, Int.reduceLT, Int.reduceLE, Int.reduceAdd, Int.reduceMul, Int.reduceSub, Int.reduceNeg, Int.reduceDiv, Int.reduceMod, Nat.reduceBNe, Nat.reduceGT, Int.reduceBEq, Int.reduceBNe, Int.reduceGT, Nat.reduceDiv, Nat.reduceMod, Nat.reducePow, Int.reducePow, gt_iff_lt, ge_iff_le, List.reduceReplicate, ↓reduceIte]
  repeat (with_reducible refine And.intro (by first | omega | assumption | (constructor <;> assumption) | (simp; done) | (simp; omega) | (simp [*]; done) | ((repeat' refine And.intro ?_ ?_) <;> first | omega | assumption | (refine SlOk.so (n := ?_) ?_ ?_; rotate_left; assumption; omega) | (simp; done) | fail) | fail) ?_)
  refine loopS_rounds 3 (roundS (next_of 1000 ?_))
  simp (maxSteps := 4000000) (disch := omega) only [go_sem, Nat.reduceBEq, Nat.reduceAdd, Nat.reduceMul, Nat.reduceSub, Nat.reduceLT, Nat.reduceLeDiff, Int.reduceToNat, Int.reduceLT, Int.reduceLE, Int.reduceAdd, Int.reduceMul, Int.reduceSub, Int.reduceNeg, Int.reduceDiv, Int.reduceMod, Nat.reduceBNe, Nat.reduceGT, Int.reduceBEq, Int.reduceBNe, Int.reduceGT, Nat.reduceDiv, Nat.reduceMod, Nat.reducePow, Int.reducePow, gt_iff_lt, ge_iff_le, List.reduceReplicate, ↓reduceIte]
  repeat (with_reducible refine And.intro (by first | omega | assumption | (constructor <;> assumption) | (simp; done) | (simp; omega) | (simp [*]; done) | ((repeat' refine And.intro ?_ ?_) <;> first | omega | assumption | (refine SlOk.so (n := ?_) ?_ ?_; rotate_left; assumption; omega) | (simp; done) | fail) | fail) ?_)
  refine callS_new (.fn (.func 66) [] [.ptr 0 0]) [.cells [.raw (.slice ad c.length cap)] 41 (0, 0)] en27 (by simp [closed, closeds]) (by simp [EObj.closed, closed, closeds]) (fun bs w _ => codes_calls _ _ _ w) (next_of 1000 ?_)
  simp (maxSteps := 4000000) (disch := omega) only [go_sem, Nat.reduceBEq, Nat.reduceAdd, Nat.reduceMul, Nat.reduceSub, Nat.reduceLT, Nat.reduceLeDiff, Int.reduceToNat, Int.reduceLT, Int.reduceLE, Int.reduceAdd, Int.reduceMul, Int.reduceSub, Int.reduceNeg, Int.reduceDiv, Int.reduceMod, Nat.reduceBNe, Nat.reduceGT, Int.reduceBEq, Int.reduceBNe, Int.reduceGT, Nat.reduceDiv, Nat.reduceMod, Nat.reducePow, Int.reducePow, gt_iff_lt, ge_iff_le, List.reduceReplicate, ↓reduceIte]
  repeat (with_reducible refine And.intro (by first | omega | assumption | (constructor <;> assumption) | (simp; done) | (simp; omega) | (simp [*]; done) | ((repeat' refine And.intro ?_ ?_) <;> first | omega | assumption | (refine SlOk.so (n := ?_) ?_ ?_; rotate_left; assumption; omega) | (simp; done) | fail) | fail) ?_)
  refine rangeS rfl rfl en66 (by simp) ⟨by kernel_rfl, by kernel_rfl⟩ (S := Nat)
    (fun k s => s = k) (fun cd s => False) (fun _ => 8)
    (fun s => [(5, some (.cells [.raw (.slice ad c.length cap)] 41 (0, 0))), (4, some (.cells [.int .i64 (s : Nat)] 3 (0, 0))), (3, some (.cells [.int .i64 0] 3 (0, 0))), (2, some (.cells [.raw (.slice adw (codes c 0).length capw)] 43 (0, 0))), (1, some (.cells [.bool false] 4 (0, 0))), (0, some (.cells [.int .i64 most] 3 (0, 0)))])
    (fun _ => B4) (0 : Nat) rfl (weak_of (by simp [wσ, go_sem, closed, closeds]) (by simp [whs, go_sem, EObj.closed, closed, closeds]) (by simp [*]) rfl rfl (by simp)) (fun s => by simp [hget]) ⟨fun _ _ _ => Nat.le_refl _, fun _ _ _ => Nat.le_refl _⟩ [5] (fun q => q = bl ∧ 0 < c.length) (by simp [hget])
    (fun q hq => ⟨by rw [hq.1]; exact hB34.D _ (hB23.D _ (hpl hq.2).2), fun k s hs => ⟨by rw [hq.1]; exact hB34.D _ (hB23.D _ (hpl hq.2).2), rfl⟩, fun k s hs => ⟨by rw [hq.1]; exact hB34.D _ (hB23.D _ (hpl hq.2).2), rfl⟩⟩)
    (len := (codes c 0).length) (enc := encC) (El := fun k a _ => (codes c 0)[k]? = some a) (fun p => [.int .i64 p.1, .int .u8 p.2]) (fun p bs => rfl) (fun p => by simp [closeds, closed]) (fun p => rfl) ?_ (fun k a => (codes c 0)[k]? = some a) (fun k a w h => h) ?_ ?_ ?_ ?_ (fun cd s h => h.elim)
  · intro bs w2 hH
    have hl1 := (hH.live 5 _ rfl).2
    exact hiter (nc := 5) (Rn := [5]) hH (fun i hi => by simp only [List.mem_singleton] at hi; subst hi; exact ⟨_, hl1⟩) (by simp) (by simp [World.cell?, hl1, EObj.real, reals, real])
  · rintro k s ⟨at', op⟩ l' olds e E r r' rfl hk hel holds
    have hge : ∀ j, j < 2 → ((codes c 0).flatMap cV)[s * 2 + j]? = (cV (at', op))[j]? := fun j hj => flat_getk (sz := 2) (fun a => rfl) _ _ _ _ hel hj
    obtain ⟨a1, a2, a3⟩ := hcs.raw (j := s * 2) (v := .int .i64 at') (by have := hge 0 (by omega); simpa [cV] using this)
    obtain ⟨b1, b2, b3⟩ := hcs.raw (j := s * 2 + 1) (v := .int .u8 op) (by have := hge 1 (by omega); simpa [cV] using this)
    simp only [ofScalar] at a1 b1
    have so1 : adw.isSome = true := hcs.so (by rw [flat_len (sz := 2) (fun a => rfl)]; omega)
    refine next_of 1000 ?_
    simp (maxSteps := 4000000) (disch := omega) only [go_sem, Nat.reduceBEq, Nat.reduceAdd, Nat.reduceMul, Nat.reduceSub, Nat.reduceLT, Nat.reduceLeDiff, Int.reduceToNat, Int.reduceLT, Int.reduceLE, Int.reduceAdd, Int.reduceMul, Int.reduceSub, Int.reduceNeg, Int.reduceDiv, Int.reduceMod, Nat.reduceBNe, Nat.reduceGT, Int.reduceBEq, Int.reduceBNe, Int.reduceGT, Nat.reduceDiv, Nat.reduceMod, Nat.reducePow, Int.reducePow, gt_iff_lt, ge_iff_le, List.reduceReplicate, ↓reduceIte]
    repeat (with_reducible refine And.intro (by first | omega | assumption | (constructor <;> assumption) | (simp; done) | (simp; omega) | (simp [*]; done) | ((repeat' refine And.intro ?_ ?_) <;> first | omega | assumption | (refine SlOk.so (n := ?_) ?_ ?_; rotate_left; assumption; omega) | (simp; done) | fail) | fail) ?_)
    refine next_of 1000 ?_
    repeat' (first
      | with_reducible refine And.intro (by first | omega | assumption | (constructor <;> assumption) | (simp; done) | (simp; omega) | (simp [*]; done) | ((repeat' refine And.intro ?_ ?_) <;> first | omega | assumption | (refine SlOk.so (n := ?_) ?_ ?_; rotate_left; assumption; omega) | (simp; done) | fail) | fail) ?_
      | simp (maxSteps := 4000000) (disch := omega) only [go_sem, Nat.reduceBEq, Nat.reduceAdd, Nat.reduceMul, Nat.reduceSub, Nat.reduceLT, Nat.reduceLeDiff, Int.reduceToNat, Int.reduceLT, Int.reduceLE, Int.reduceAdd, Int.reduceMul, Int.reduceSub, Int.reduceNeg, Int.reduceDiv, Int.reduceMod, Nat.reduceBNe, Nat.reduceGT, Int.reduceBEq, Int.reduceBNe, Int.reduceGT, Nat.reduceDiv, Nat.reduceMod, Nat.reducePow, Int.reducePow, gt_iff_lt, ge_iff_le, List.reduceReplicate, ↓reduceIte, a1, a2, a3, b1, b2, b3, Int.toNat_natCast, bne_self_eq_false]
      | with_reducible refine roundS (next_of 1000 ?_)
      | with_reducible refine drawS_of mixed (by kernel_rfl) (dg_of 1000 ?_)
      | with_reducible refine endD_of (by kernel_rfl) (next_of 1000 ?_)
      | with_reducible refine next_of 1000 ?_
      | ((first | refine condS_split (fun h => ?_) (fun h => ?_) | refine testS_split (fun h => ?_) (fun h => ?_) | refine testD_split (fun h => ?_) (fun h => ?_)) <;> (try simp only [bne_iff_ne, ne_eq, beq_iff_eq, decide_eq_true_eq, decide_eq_false_iff_not, Bool.not_eq_true, Bool.not_eq_false, Bool.not_true, Bool.not_false, bne_eq_false_iff_eq, beq_eq_false_iff_ne, Bool.and_eq_true, Bool.or_eq_true, Bool.and_eq_false_imp, Bool.or_eq_false_iff, Bool.not_eq_true', Bool.not_eq_false', Int.not_lt, Int.not_le] at h) <;> (try (exfalso; omega))))
    exact ⟨s + 1, rfl, (weak_of (by simp [wσ, go_sem, closed, closeds]) (by simp [whs, go_sem, EObj.closed, closed, closeds]) (by simp [*]) rfl rfl (by simp))⟩
  · rintro s rfl
    refine next_of 1000 ?_
    repeat' (first
      | with_reducible refine And.intro (by first | omega | assumption | (constructor <;> assumption) | (simp; done) | (simp; omega) | (simp [*]; done) | ((repeat' refine And.intro ?_ ?_) <;> first | omega | assumption | (refine SlOk.so (n := ?_) ?_ ?_; rotate_left; assumption; omega) | (simp; done) | fail) | fail) ?_
      | simp (maxSteps := 4000000) (disch := omega) only [go_sem, Nat.reduceBEq, Nat.reduceAdd, Nat.reduceMul, Nat.reduceSub, Nat.reduceLT, Nat.reduceLeDiff, Int.reduceToNat, Int.reduceLT, Int.reduceLE, Int.reduceAdd, Int.reduceMul, Int.reduceSub, Int.reduceNeg, Int.reduceDiv, Int.reduceMod, Nat.reduceBNe, Nat.reduceGT, Int.reduceBEq, Int.reduceBNe, Int.reduceGT, Nat.reduceDiv, Nat.reduceMod, Nat.reducePow, Int.reducePow, gt_iff_lt, ge_iff_le, List.reduceReplicate, ↓reduceIte, Int.toNat_natCast, bne_self_eq_false]
      | with_reducible refine roundS (next_of 1000 ?_)
      | with_reducible refine drawS_of mixed (by kernel_rfl) (dg_of 1000 ?_)
      | with_reducible refine endD_of (by kernel_rfl) (next_of 1000 ?_)
      | with_reducible refine next_of 1000 ?_
      | ((first | refine condS_split (fun h => ?_) (fun h => ?_) | refine testS_split (fun h => ?_) (fun h => ?_) | refine testD_split (fun h => ?_) (fun h => ?_)) <;> (try simp only [bne_iff_ne, ne_eq, beq_iff_eq, decide_eq_true_eq, decide_eq_false_iff_not, Bool.not_eq_true, Bool.not_eq_false, Bool.not_true, Bool.not_false, bne_eq_false_iff_eq, beq_eq_false_iff_ne, Bool.and_eq_true, Bool.or_eq_true, Bool.and_eq_false_imp, Bool.or_eq_false_iff, Bool.not_eq_true', Bool.not_eq_false', Int.not_lt, Int.not_le] at h) <;> (try (exfalso; omega))))
    refine callS_new (.fn (.func 66) [] [.ptr 0 0]) [.cells [.raw (.slice ad c.length cap)] 41 (0, 0)] en27 (by simp [closed, closeds]) (by simp [EObj.closed, closed, closeds]) (fun bs w _ => codes_calls _ _ _ w) (next_of 1000 ?_)
    simp (maxSteps := 4000000) (disch := omega) only [go_sem, Nat.reduceBEq, Nat.reduceAdd, Nat.reduceMul, Nat.reduceSub, Nat.reduceLT, Nat.reduceLeDiff, Int.reduceToNat, Int.reduceLT, Int.reduceLE, Int.reduceAdd, Int.reduceMul, Int.reduceSub, Int.reduceNeg, Int.reduceDiv, Int.reduceMod, Nat.reduceBNe, Nat.reduceGT, Int.reduceBEq, Int.reduceBNe, Int.reduceGT, Nat.reduceDiv, Nat.reduceMod, Nat.reducePow, Int.reducePow, gt_iff_lt, ge_iff_le, List.reduceReplicate, ↓reduceIte]
    repeat (with_reducible refine And.intro (by first | omega | assumption | (constructor <;> assumption) | (simp; done) | (simp; omega) | (simp [*]; done) | ((repeat' refine And.intro ?_ ?_) <;> first | omega | assumption | (refine SlOk.so (n := ?_) ?_ ?_; rotate_left; assumption; omega) | (simp; done) | fail) | fail) ?_)
    refine rangeS rfl rfl en66 (by simp) ⟨by kernel_rfl, by kernel_rfl⟩ (S := Nat)
      (fun k s => s = k) (fun cd s => cd = .exit 2) (fun _ => 13)
      (fun s => [(10, some (.cells [.raw (.slice ad c.length cap)] 41 (0, 0))), (9, some (.cells [.int .i64 (s : Nat)] 3 (0, 0))), (8, some (.cells [.int .i64 1] 3 (0, 0))), (6, some (.obj (.deferred (some [])))), (2, some (.cells [.raw (.slice adw (codes c 0).length capw)] 43 (0, 0))), (1, some (.cells [.bool false] 4 (0, 0))), (0, some (.cells [.int .i64 most] 3 (0, 0)))])
      (fun _ => B4) (0 : Nat) rfl (weak_of (by simp [wσ, go_sem, closed, closeds]) (by simp [whs, go_sem, EObj.closed, closed, closeds]) (by simp [*]) rfl rfl (by simp)) (fun s => by simp [hget]) ⟨fun _ _ _ => Nat.le_refl _, fun _ _ _ => Nat.le_refl _⟩ [10] (fun q => q = bl ∧ 0 < c.length) (by simp [hget])
      (fun q hq => ⟨by rw [hq.1]; exact hB34.D _ (hB23.D _ (hpl hq.2).2), fun k s hs => ⟨by rw [hq.1]; exact hB34.D _ (hB23.D _ (hpl hq.2).2), rfl⟩, fun k s hs => ⟨by rw [hq.1]; exact hB34.D _ (hB23.D _ (hpl hq.2).2), rfl⟩⟩)
      (len := (codes c 0).length) (enc := encC) (El := fun k a _ => (codes c 0)[k]? = some a) (fun p => [.int .i64 p.1, .int .u8 p.2]) (fun p bs => rfl) (fun p => by simp [closeds, closed]) (fun p => rfl) ?_ (fun k a => (codes c 0)[k]? = some a) (fun k a w h => h) ?_ ?_ ?_ ?_ (fun cd s h => .inr ⟨_, h⟩)
    · intro bs w2 hH
      have hl1 := (hH.live 10 _ rfl).2
      exact hiter (nc := 10) (Rn := [10]) hH (fun i hi => by simp only [List.mem_singleton] at hi; subst hi; exact ⟨_, hl1⟩) (by simp) (by simp [World.cell?, hl1, EObj.real, reals, real])
    · rintro k s ⟨at', op⟩ l' olds e E r r' rfl hk hel holds
      have hge : ∀ j, j < 2 → ((codes c 0).flatMap cV)[s * 2 + j]? = (cV (at', op))[j]? := fun j hj => flat_getk (sz := 2) (fun a => rfl) _ _ _ _ hel hj
      obtain ⟨a1, a2, a3⟩ := hcs.raw (j := s * 2) (v := .int .i64 at') (by have := hge 0 (by omega); simpa [cV] using this)
      obtain ⟨b1, b2, b3⟩ := hcs.raw (j := s * 2 + 1) (v := .int .u8 op) (by have := hge 1 (by omega); simpa [cV] using this)
      simp only [ofScalar] at a1 b1
      have so1 : adw.isSome = true := hcs.so (by rw [flat_len (sz := 2) (fun a => rfl)]; omega)
      refine next_of 1000 ?_
      simp (maxSteps := 4000000) (disch := omega) only [go_sem, Nat.reduceBEq, Nat.reduceAdd, Nat.reduceMul, Nat.reduceSub, Nat.reduceLT, Nat.reduceLeDiff, Int.reduceToNat, Int.reduceLT, Int.reduceLE, Int.reduceAdd, Int.reduceMul, Int.reduceSub, Int.reduceNeg, Int.reduceDiv, Int.reduceMod, Nat.reduceBNe, Nat.reduceGT, Int.reduceBEq, Int.reduceBNe, Int.reduceGT, Nat.reduceDiv, Nat.reduceMod, Nat.reducePow, Int.reducePow, gt_iff_lt, ge_iff_le, List.reduceReplicate, ↓reduceIte]
      repeat (with_reducible refine And.intro (by first | omega | assumption | (constructor <;> assumption) | (simp; done) | (simp; omega) | (simp [*]; done) | ((repeat' refine And.intro ?_ ?_) <;> first | omega | assumption | (refine SlOk.so (n := ?_) ?_ ?_; rotate_left; assumption; omega) | (simp; done) | fail) | fail) ?_)
      refine next_of 1000 ?_
      repeat' (first
        | with_reducible refine And.intro (by first | omega | assumption | (constructor <;> assumption) | (simp; done) | (simp; omega) | (simp [*]; done) | ((repeat' refine And.intro ?_ ?_) <;> first | omega | assumption | (refine SlOk.so (n := ?_) ?_ ?_; rotate_left; assumption; omega) | (simp; done) | fail) | fail) ?_
        | simp (maxSteps := 4000000) (disch := omega) only [go_sem, Nat.reduceBEq, Nat.reduceAdd, Nat.reduceMul, Nat.reduceSub, Nat.reduceLT, Nat.reduceLeDiff, Int.reduceToNat, Int.reduceLT, Int.reduceLE, Int.reduceAdd, Int.reduceMul, Int.reduceSub, Int.reduceNeg, Int.reduceDiv, Int.reduceMod, Nat.reduceBNe, Nat.reduceGT, Int.reduceBEq, Int.reduceBNe, Int.reduceGT, Nat.reduceDiv, Nat.reduceMod, Nat.reducePow, Int.reducePow, gt_iff_lt, ge_iff_le, List.reduceReplicate, ↓reduceIte, a1, a2, a3, b1, b2, b3, Int.toNat_natCast, bne_self_eq_false]
        | with_reducible refine roundS (next_of 1000 ?_)
        | with_reducible refine drawS_of mixed (by kernel_rfl) (dg_of 1000 ?_)
        | with_reducible refine endD_of (by kernel_rfl) (next_of 1000 ?_)
        | with_reducible refine next_of 1000 ?_
        | ((first | refine condS_split (fun h => ?_) (fun h => ?_) | refine testS_split (fun h => ?_) (fun h => ?_) | refine testD_split (fun h => ?_) (fun h => ?_)) <;> (try simp only [bne_iff_ne, ne_eq, beq_iff_eq, decide_eq_true_eq, decide_eq_false_iff_not, Bool.not_eq_true, Bool.not_eq_false, Bool.not_true, Bool.not_false, bne_eq_false_iff_eq, beq_eq_false_iff_ne, Bool.and_eq_true, Bool.or_eq_true, Bool.and_eq_false_imp, Bool.or_eq_false_iff, Bool.not_eq_true', Bool.not_eq_false', Int.not_lt, Int.not_le] at h) <;> (try (exfalso; omega))))
      · exact ⟨s + 1, (weak_of (by simp [wσ, go_sem, closed, closeds]) (by simp [whs, go_sem, EObj.closed, closed, closeds]) (by simp [*]) rfl rfl (by simp))⟩
      · exact ⟨s + 1, rfl, (weak_of (by simp [wσ, go_sem, closed, closeds]) (by simp [whs, go_sem, EObj.closed, closed, closeds]) (by simp [*]) rfl rfl (by simp))⟩
    · rintro s rfl
      refine next_of 1000 ?_
      repeat' (first
        | with_reducible refine And.intro (by first | omega | assumption | (constructor <;> assumption) | (simp; done) | (simp; omega) | (simp [*]; done) | ((repeat' refine And.intro ?_ ?_) <;> first | omega | assumption | (refine SlOk.so (n := ?_) ?_ ?_; rotate_left; assumption; omega) | (simp; done) | fail) | fail) ?_
        | simp (maxSteps := 4000000) (disch := omega) only [go_sem, Nat.reduceBEq, Nat.reduceAdd, Nat.reduceMul, Nat.reduceSub, Nat.reduceLT, Nat.reduceLeDiff, Int.reduceToNat, Int.reduceLT, Int.reduceLE, Int.reduceAdd, Int.reduceMul, Int.reduceSub, Int.reduceNeg, Int.reduceDiv, Int.reduceMod, Nat.reduceBNe, Nat.reduceGT, Int.reduceBEq, Int.reduceBNe, Int.reduceGT, Nat.reduceDiv, Nat.reduceMod, Nat.reducePow, Int.reducePow, gt_iff_lt, ge_iff_le, List.reduceReplicate, ↓reduceIte, Int.toNat_natCast, bne_self_eq_false]
        | with_reducible refine roundS (next_of 1000 ?_)
        | with_reducible refine drawS_of mixed (by kernel_rfl) (dg_of 1000 ?_)
        | with_reducible refine endD_of (by kernel_rfl) (next_of 1000 ?_)
        | with_reducible refine next_of 1000 ?_
        | ((first | refine condS_split (fun h => ?_) (fun h => ?_) | refine testS_split (fun h => ?_) (fun h => ?_) | refine testD_split (fun h => ?_) (fun h => ?_)) <;> (try simp only [bne_iff_ne, ne_eq, beq_iff_eq, decide_eq_true_eq, decide_eq_false_iff_not, Bool.not_eq_true, Bool.not_eq_false, Bool.not_true, Bool.not_false, bne_eq_false_iff_eq, beq_eq_false_iff_ne, Bool.and_eq_true, Bool.or_eq_true, Bool.and_eq_false_imp, Bool.or_eq_false_iff, Bool.not_eq_true', Bool.not_eq_false', Int.not_lt, Int.not_le] at h) <;> (try (exfalso; omega))))
      refine callS_f (refdests_fn c ad cap B4 h hr hl) (fun _ => trivial) (fun s' B5 hB5 hds => next_of 1000 ?_)
      obtain ⟨add, capd⟩ := s'
      simp only at hds
      replace hB1 := hB1.trans hB5
      replace h := h.ext hB5
      have hB45 := hB5
      simp (maxSteps := 4000000) (disch := omega) only [go_sem, Nat.reduceBEq, Nat.reduceAdd, Nat.reduceMul, Nat.reduceSub, Nat.reduceLT, Nat.reduceLeDiff, Int.reduceToNat, Int.reduceLT, Int.reduceLE, Int.reduceAdd, Int.reduceMul, Int.reduceSub, Int.reduceNeg, Int.reduceDiv, Int.reduceMod, Nat.reduceBNe, Nat.reduceGT, Int.reduceBEq, Int.reduceBNe, Int.reduceGT, Nat.reduceDiv, Nat.reduceMod, Nat.reducePow, Int.reducePow, gt_iff_lt, ge_iff_le, List.reduceReplicate, ↓reduceIte]
      repeat (with_reducible refine And.intro (by first | omega | assumption | (constructor <;> assumption) | (simp; done) | (simp; omega) | (simp [*]; done) | ((repeat' refine And.intro ?_ ?_) <;> first | omega | assumption | (refine SlOk.so (n := ?_) ?_ ?_; rotate_left; assumption; omega) | (simp; done) | fail) | fail) ?_)
      refine callS_new (.fn (.func 67) [] [.ptr 0 0]) [.cells [.raw (.slice ad c.length cap)] 41 (0, 0)] en29 (by simp [closed, closeds]) (by simp [EObj.closed, closed, closeds]) (fun bs w _ => dests_calls _ _ _ w) (next_of 1000 ?_)
      simp (maxSteps := 4000000) (disch := omega) only [go_sem, Nat.reduceBEq, Nat.reduceAdd, Nat.reduceMul, Nat.reduceSub, Nat.reduceLT, Nat.reduceLeDiff, Int.reduceToNat, Int.reduceLT, Int.reduceLE, Int.reduceAdd, Int.reduceMul, Int.reduceSub, Int.reduceNeg, Int.reduceDiv, Int.reduceMod, Nat.reduceBNe, Nat.reduceGT, Int.reduceBEq, Int.reduceBNe, Int.reduceGT, Nat.reduceDiv, Nat.reduceMod, Nat.reducePow, Int.reducePow, gt_iff_lt, ge_iff_le, List.reduceReplicate, ↓reduceIte]
      repeat (with_reducible refine And.intro (by first | omega | assumption | (constructor <;> assumption) | (simp; done) | (simp; omega) | (simp [*]; done) | ((repeat' refine And.intro ?_ ?_) <;> first | omega | assumption | (refine SlOk.so (n := ?_) ?_ ?_; rotate_left; assumption; omega) | (simp; done) | fail) | fail) ?_)
      refine rangeS rfl rfl en67 (by simp) ⟨by kernel_rfl, by kernel_rfl⟩ (S := Nat)
        (fun k s => s = k) (fun cd s => False) (fun _ => 19)
        (fun s => [(16, some (.cells [.raw (.slice ad c.length cap)] 41 (0, 0))), (15, some (.cells [.int .i64 (s : Nat)] 3 (0, 0))), (14, some (.cells [.raw (.slice add (dests c).length capd)] 50 (0, 0))), (11, some (.obj (.deferred (some [])))), (6, some (.obj (.deferred (some [])))), (1, some (.cells [.bool false] 4 (0, 0)))])
        (fun _ => B5) (0 : Nat) rfl (weak_of (by simp [wσ, go_sem, closed, closeds]) (by simp [whs, go_sem, EObj.closed, closed, closeds]) (by simp [*]) rfl rfl (by simp)) (fun s => by simp [hget]) ⟨fun _ _ _ => Nat.le_refl _, fun _ _ h => h.elim⟩ [16] (fun q => q = bl ∧ 0 < c.length) (by simp [hget])
        (fun q hq => ⟨by rw [hq.1]; exact hB45.D _ (hB34.D _ (hB23.D _ (hpl hq.2).2)), fun k s hs => ⟨by rw [hq.1]; exact hB45.D _ (hB34.D _ (hB23.D _ (hpl hq.2).2)), rfl⟩, fun k s hs => hs.elim⟩)
        (len := (dests c).length) (enc := encD) (El := fun k a _ => (dests c)[k]? = some a) (fun p => [.int .i64 p]) (fun p bs => rfl) (fun p => by simp [closeds, closed]) (fun p => rfl) ?_ (fun k a => (dests c)[k]? = some a) (fun k a w h => h) ?_ ?_ ?_ ?_ (fun cd s h => h.elim)
      · intro bs w2 hH
        have hl1 := (hH.live 16 _ rfl).2
        exact hiter2 (nc := 16) (Rn := [16]) hB45 hH (fun i hi => by simp only [List.mem_singleton] at hi; subst hi; exact ⟨_, hl1⟩) (by simp) (by simp [World.cell?, hl1, EObj.real, reals, real])
      · rintro k s d l' olds e E r r' rfl hk hel holds
        obtain ⟨a1, a2, a3⟩ := hds.raw (j := s) (v := .int .i64 d) (by rw [List.getElem?_map, hel]; rfl)
        simp only [ofScalar] at a1
        have so1 : add.isSome = true := hds.so (by simp; omega)
        refine next_of 1000 ?_
        simp (maxSteps := 4000000) (disch := omega) only [go_sem, Nat.reduceBEq, Nat.reduceAdd, Nat.reduceMul, Nat.reduceSub, Nat.reduceLT, Nat.reduceLeDiff, Int.reduceToNat, Int.reduceLT, Int.reduceLE, Int.reduceAdd, Int.reduceMul, Int.reduceSub, Int.reduceNeg, Int.reduceDiv, Int.reduceMod, Nat.reduceBNe, Nat.reduceGT, Int.reduceBEq, Int.reduceBNe, Int.reduceGT, Nat.reduceDiv, Nat.reduceMod, Nat.reducePow, Int.reducePow, gt_iff_lt, ge_iff_le, List.reduceReplicate, ↓reduceIte]
        repeat (with_reducible refine And.intro (by first | omega | assumption | (constructor <;> assumption) | (simp; done) | (simp; omega) | (simp [*]; done) | ((repeat' refine And.intro ?_ ?_) <;> first | omega | assumption | (refine SlOk.so (n := ?_) ?_ ?_; rotate_left; assumption; omega) | (simp; done) | fail) | fail) ?_)
        refine next_of 1000 ?_
        repeat' (first
          | with_reducible refine And.intro (by first | omega | assumption | (constructor <;> assumption) | (simp; done) | (simp; omega) | (simp [*]; done) | ((repeat' refine And.intro ?_ ?_) <;> first | omega | assumption | (refine SlOk.so (n := ?_) ?_ ?_; rotate_left; assumption; omega) | (simp; done) | fail) | fail) ?_
          | simp (maxSteps := 4000000) (disch := omega) only [go_sem, Nat.reduceBEq, Nat.reduceAdd, Nat.reduceMul, Nat.reduceSub, Nat.reduceLT, Nat.reduceLeDiff, Int.reduceToNat, Int.reduceLT, Int.reduceLE, Int.reduceAdd, Int.reduceMul, Int.reduceSub, Int.reduceNeg, Int.reduceDiv, Int.reduceMod, Nat.reduceBNe, Nat.reduceGT, Int.reduceBEq, Int.reduceBNe, Int.reduceGT, Nat.reduceDiv, Nat.reduceMod, Nat.reducePow, Int.reducePow, gt_iff_lt, ge_iff_le, List.reduceReplicate, ↓reduceIte, a1, a2, a3, Int.toNat_natCast, bne_self_eq_false]
          | with_reducible refine roundS (next_of 1000 ?_)
          | with_reducible refine drawS_of mixed (by kernel_rfl) (dg_of 1000 ?_)
          | with_reducible refine endD_of (by kernel_rfl) (next_of 1000 ?_)
          | with_reducible refine next_of 1000 ?_
          | ((first | refine condS_split (fun h => ?_) (fun h => ?_) | refine testS_split (fun h => ?_) (fun h => ?_) | refine testD_split (fun h => ?_) (fun h => ?_)) <;> (try simp only [bne_iff_ne, ne_eq, beq_iff_eq, decide_eq_true_eq, decide_eq_false_iff_not, Bool.not_eq_true, Bool.not_eq_false, Bool.not_true, Bool.not_false, bne_eq_false_iff_eq, beq_eq_false_iff_ne, Bool.and_eq_true, Bool.or_eq_true, Bool.and_eq_false_imp, Bool.or_eq_false_iff, Bool.not_eq_true', Bool.not_eq_false', Int.not_lt, Int.not_le] at h) <;> (try (exfalso; omega))))
        exact ⟨s + 1, rfl, (weak_of (by simp [wσ, go_sem, closed, closeds]) (by simp [whs, go_sem, EObj.closed, closed, closeds]) (by simp [*]) rfl rfl (by simp))⟩
      · rintro s rfl
        refine next_of 1000 ?_
        repeat' (first
          | with_reducible refine And.intro (by first | omega | assumption | (constructor <;> assumption) | (simp; done) | (simp; omega) | (simp [*]; done) | ((repeat' refine And.intro ?_ ?_) <;> first | omega | assumption | (refine SlOk.so (n := ?_) ?_ ?_; rotate_left; assumption; omega) | (simp; done) | fail) | fail) ?_
          | simp (maxSteps := 4000000) (disch := omega) only [go_sem, Nat.reduceBEq, Nat.reduceAdd, Nat.reduceMul, Nat.reduceSub, Nat.reduceLT, Nat.reduceLeDiff, Int.reduceToNat, Int.reduceLT, Int.reduceLE, Int.reduceAdd, Int.reduceMul, Int.reduceSub, Int.reduceNeg, Int.reduceDiv, Int.reduceMod, Nat.reduceBNe, Nat.reduceGT, Int.reduceBEq, Int.reduceBNe, Int.reduceGT, Nat.reduceDiv, Nat.reduceMod, Nat.reducePow, Int.reducePow, gt_iff_lt, ge_iff_le, List.reduceReplicate, ↓reduceIte, Int.toNat_natCast, bne_self_eq_false]
          | with_reducible refine roundS (next_of 1000 ?_)
          | with_reducible refine drawS_of mixed (by kernel_rfl) (dg_of 1000 ?_)
          | with_reducible refine endD_of (by kernel_rfl) (next_of 1000 ?_)
          | with_reducible refine next_of 1000 ?_
          | ((first | refine condS_split (fun h => ?_) (fun h => ?_) | refine testS_split (fun h => ?_) (fun h => ?_) | refine testD_split (fun h => ?_) (fun h => ?_)) <;> (try simp only [bne_iff_ne, ne_eq, beq_iff_eq, decide_eq_true_eq, decide_eq_false_iff_not, Bool.not_eq_true, Bool.not_eq_false, Bool.not_true, Bool.not_false, bne_eq_false_iff_eq, beq_eq_false_iff_ne, Bool.and_eq_true, Bool.or_eq_true, Bool.and_eq_false_imp, Bool.or_eq_false_iff, Bool.not_eq_true', Bool.not_eq_false', Int.not_lt, Int.not_le] at h) <;> (try (exfalso; omega))))
        exact fun bs => rfl
      · exact fun s h => h.elim
      · exact fun id s h => h.elim
    · exact fun s h => by cases h
    · rintro id s h
      cases h
      refine next_of 1000 ?_
      repeat' (first
        | with_reducible refine And.intro (by first | omega | assumption | (constructor <;> assumption) | (simp; done) | (simp; omega) | (simp [*]; done) | ((repeat' refine And.intro ?_ ?_) <;> first | omega | assumption | (refine SlOk.so (n := ?_) ?_ ?_; rotate_left; assumption; omega) | (simp; done) | fail) | fail) ?_
        | simp (maxSteps := 4000000) (disch := omega) only [go_sem, Nat.reduceBEq, Nat.reduceAdd, Nat.reduceMul, Nat.reduceSub, Nat.reduceLT, Nat.reduceLeDiff, Int.reduceToNat, Int.reduceLT, Int.reduceLE, Int.reduceAdd, Int.reduceMul, Int.reduceSub, Int.reduceNeg, Int.reduceDiv, Int.reduceMod, Nat.reduceBNe, Nat.reduceGT, Int.reduceBEq, Int.reduceBNe, Int.reduceGT, Nat.reduceDiv, Nat.reduceMod, Nat.reducePow, Int.reducePow, gt_iff_lt, ge_iff_le, List.reduceReplicate, ↓reduceIte, Int.toNat_natCast, bne_self_eq_false]
        | with_reducible refine roundS (next_of 1000 ?_)
        | with_reducible refine drawS_of mixed (by kernel_rfl) (dg_of 1000 ?_)
        | with_reducible refine endD_of (by kernel_rfl) (next_of 1000 ?_)
        | with_reducible refine next_of 1000 ?_
        | ((first | refine condS_split (fun h => ?_) (fun h => ?_) | refine testS_split (fun h => ?_) (fun h => ?_) | refine testD_split (fun h => ?_) (fun h => ?_)) <;> (try simp only [bne_iff_ne, ne_eq, beq_iff_eq, decide_eq_true_eq, decide_eq_false_iff_not, Bool.not_eq_true, Bool.not_eq_false, Bool.not_true, Bool.not_false, bne_eq_false_iff_eq, beq_eq_false_iff_ne, Bool.and_eq_true, Bool.or_eq_true, Bool.and_eq_false_imp, Bool.or_eq_false_iff, Bool.not_eq_true', Bool.not_eq_false', Int.not_lt, Int.not_le] at h) <;> (try (exfalso; omega))))
      refine callS_f (refdests_fn c ad cap B4 h hr hl) (fun _ => trivial) (fun s' B5 hB5 hds => next_of 1000 ?_)
      obtain ⟨add, capd⟩ := s'
      simp only at hds
      replace hB1 := hB1.trans hB5
      replace h := h.ext hB5
      have hB45 := hB5
      simp (maxSteps := 4000000) (disch := omega) only [go_sem, Nat.reduceBEq, Nat.reduceAdd, Nat.reduceMul, Nat.reduceSub, Nat.reduceLT, Nat.reduceLeDiff, Int.reduceToNat, Int.reduceLT, Int.reduceLE, Int.reduceAdd, Int.reduceMul, Int.reduceSub, Int.reduceNeg, Int.reduceDiv, Int.reduceMod, Nat.reduceBNe, Nat.reduceGT, Int.reduceBEq, Int.reduceBNe, Int.reduceGT, Nat.reduceDiv, Nat.reduceMod, Nat.reducePow, Int.reducePow, gt_iff_lt, ge_iff_le, List.reduceReplicate, ↓reduceIte]
      repeat (with_reducible refine And.intro (by first | omega | assumption | (constructor <;> assumption) | (simp; done) | (simp; omega) | (simp [*]; done) | ((repeat' refine And.intro ?_ ?_) <;> first | omega | assumption | (refine SlOk.so (n := ?_) ?_ ?_; rotate_left; assumption; omega) | (simp; done) | fail) | fail) ?_)
      refine callS_new (.fn (.func 67) [] [.ptr 0 0]) [.cells [.raw (.slice ad c.length cap)] 41 (0, 0)] en29 (by simp [closed, closeds]) (by simp [EObj.closed, closed, closeds]) (fun bs w _ => dests_calls _ _ _ w) (next_of 1000 ?_)
      simp (maxSteps := 4000000) (disch := omega) only [go_sem, Nat.reduceBEq, Nat.reduceAdd, Nat.reduceMul, Nat.reduceSub, Nat.reduceLT, Nat.reduceLeDiff, Int.reduceToNat, Int.reduceLT, Int.reduceLE, Int.reduceAdd, Int.reduceMul, Int.reduceSub, Int.reduceNeg, Int.reduceDiv, Int.reduceMod, Nat.reduceBNe, Nat.reduceGT, Int.reduceBEq, Int.reduceBNe, Int.reduceGT, Nat.reduceDiv, Nat.reduceMod, Nat.reducePow, Int.reducePow, gt_iff_lt, ge_iff_le, List.reduceReplicate, ↓reduceIte]
      repeat (with_reducible refine And.intro (by first | omega | assumption | (constructor <;> assumption) | (simp; done) | (simp; omega) | (simp [*]; done) | ((repeat' refine And.intro ?_ ?_) <;> first | omega | assumption | (refine SlOk.so (n := ?_) ?_ ?_; rotate_left; assumption; omega) | (simp; done) | fail) | fail) ?_)
      refine rangeS rfl rfl en67 (by simp) ⟨by kernel_rfl, by kernel_rfl⟩ (S := Nat)
        (fun k s => s = k) (fun cd s => False) (fun _ => 19)
        (fun s => [(16, some (.cells [.raw (.slice ad c.length cap)] 41 (0, 0))), (15, some (.cells [.int .i64 (s : Nat)] 3 (0, 0))), (14, some (.cells [.raw (.slice add (dests c).length capd)] 50 (0, 0))), (11, some (.obj (.deferred (some [])))), (6, some (.obj (.deferred (some [])))), (1, some (.cells [.bool false] 4 (0, 0)))])
        (fun _ => B5) (0 : Nat) rfl (weak_of (by simp [wσ, go_sem, closed, closeds]) (by simp [whs, go_sem, EObj.closed, closed, closeds]) (by simp [*]) rfl rfl (by simp)) (fun s => by simp [hget]) ⟨fun _ _ _ => Nat.le_refl _, fun _ _ h => h.elim⟩ [16] (fun q => q = bl ∧ 0 < c.length) (by simp [hget])
        (fun q hq => ⟨by rw [hq.1]; exact hB45.D _ (hB34.D _ (hB23.D _ (hpl hq.2).2)), fun k s hs => ⟨by rw [hq.1]; exact hB45.D _ (hB34.D _ (hB23.D _ (hpl hq.2).2)), rfl⟩, fun k s hs => hs.elim⟩)
        (len := (dests c).length) (enc := encD) (El := fun k a _ => (dests c)[k]? = some a) (fun p => [.int .i64 p]) (fun p bs => rfl) (fun p => by simp [closeds, closed]) (fun p => rfl) ?_ (fun k a => (dests c)[k]? = some a) (fun k a w h => h) ?_ ?_ ?_ ?_ (fun cd s h => h.elim)
      · intro bs w2 hH
        have hl1 := (hH.live 16 _ rfl).2
        exact hiter2 (nc := 16) (Rn := [16]) hB45 hH (fun i hi => by simp only [List.mem_singleton] at hi; subst hi; exact ⟨_, hl1⟩) (by simp) (by simp [World.cell?, hl1, EObj.real, reals, real])
      · rintro k s d l' olds e E r r' rfl hk hel holds
        obtain ⟨a1, a2, a3⟩ := hds.raw (j := s) (v := .int .i64 d) (by rw [List.getElem?_map, hel]; rfl)
        simp only [ofScalar] at a1
        have so1 : add.isSome = true := hds.so (by simp; omega)
        refine next_of 1000 ?_
        simp (maxSteps := 4000000) (disch := omega) only [go_sem, Nat.reduceBEq, Nat.reduceAdd, Nat.reduceMul, Nat.reduceSub, Nat.reduceLT, Nat.reduceLeDiff, Int.reduceToNat, Int.reduceLT, Int.reduceLE, Int.reduceAdd, Int.reduceMul, Int.reduceSub, Int.reduceNeg, Int.reduceDiv, Int.reduceMod, Nat.reduceBNe, Nat.reduceGT, Int.reduceBEq, Int.reduceBNe, Int.reduceGT, Nat.reduceDiv, Nat.reduceMod, Nat.reducePow, Int.reducePow, gt_iff_lt, ge_iff_le, List.reduceReplicate, ↓reduceIte]
        repeat (with_reducible refine And.intro (by first | omega | assumption | (constructor <;> assumption) | (simp; done) | (simp; omega) | (simp [*]; done) | ((repeat' refine And.intro ?_ ?_) <;> first | omega | assumption | (refine SlOk.so (n := ?_) ?_ ?_; rotate_left; assumption; omega) | (simp; done) | fail) | fail) ?_)
        refine next_of 1000 ?_
        repeat' (first
          | with_reducible refine And.intro (by first | omega | assumption | (constructor <;> assumption) | (simp; done) | (simp; omega) | (simp [*]; done) | ((repeat' refine And.intro ?_ ?_) <;> first | omega | assumption | (refine SlOk.so (n := ?_) ?_ ?_; rotate_left; assumption; omega) | (simp; done) | fail) | fail) ?_
          | simp (maxSteps := 4000000) (disch := omega) only [go_sem, Nat.reduceBEq, Nat.reduceAdd, Nat.reduceMul, Nat.reduceSub, Nat.reduceLT, Nat.reduceLeDiff, Int.reduceToNat, Int.reduceLT, Int.reduceLE, Int.reduceAdd, Int.reduceMul, Int.reduceSub, Int.reduceNeg, Int.reduceDiv, Int.reduceMod, Nat.reduceBNe, Nat.reduceGT, Int.reduceBEq, Int.reduceBNe, Int.reduceGT, Nat.reduceDiv, Nat.reduceMod, Nat.reducePow, Int.reducePow, gt_iff_lt, ge_iff_le, List.reduceReplicate, ↓reduceIte, a1, a2, a3, Int.toNat_natCast, bne_self_eq_false]
          | with_reducible refine roundS (next_of 1000 ?_)
          | with_reducible refine drawS_of mixed (by kernel_rfl) (dg_of 1000 ?_)
          | with_reducible refine endD_of (by kernel_rfl) (next_of 1000 ?_)
          | with_reducible refine next_of 1000 ?_
          | ((first | refine condS_split (fun h => ?_) (fun h => ?_) | refine testS_split (fun h => ?_) (fun h => ?_) | refine testD_split (fun h => ?_) (fun h => ?_)) <;> (try simp only [bne_iff_ne, ne_eq, beq_iff_eq, decide_eq_true_eq, decide_eq_false_iff_not, Bool.not_eq_true, Bool.not_eq_false, Bool.not_true, Bool.not_false, bne_eq_false_iff_eq, beq_eq_false_iff_ne, Bool.and_eq_true, Bool.or_eq_true, Bool.and_eq_false_imp, Bool.or_eq_false_iff, Bool.not_eq_true', Bool.not_eq_false', Int.not_lt, Int.not_le] at h) <;> (try (exfalso; omega))))
        exact ⟨s + 1, rfl, (weak_of (by simp [wσ, go_sem, closed, closeds]) (by simp [whs, go_sem, EObj.closed, closed, closeds]) (by simp [*]) rfl rfl (by simp))⟩
      · rintro s rfl
        refine next_of 1000 ?_
        repeat' (first
          | with_reducible refine And.intro (by first | omega | assumption | (constructor <;> assumption) | (simp; done) | (simp; omega) | (simp [*]; done) | ((repeat' refine And.intro ?_ ?_) <;> first | omega | assumption | (refine SlOk.so (n := ?_) ?_ ?_; rotate_left; assumption; omega) | (simp; done) | fail) | fail) ?_
          | simp (maxSteps := 4000000) (disch := omega) only [go_sem, Nat.reduceBEq, Nat.reduceAdd, Nat.reduceMul, Nat.reduceSub, Nat.reduceLT, Nat.reduceLeDiff, Int.reduceToNat, Int.reduceLT, Int.reduceLE, Int.reduceAdd, Int.reduceMul, Int.reduceSub, Int.reduceNeg, Int.reduceDiv, Int.reduceMod, Nat.reduceBNe, Nat.reduceGT, Int.reduceBEq, Int.reduceBNe, Int.reduceGT, Nat.reduceDiv, Nat.reduceMod, Nat.reducePow, Int.reducePow, gt_iff_lt, ge_iff_le, List.reduceReplicate, ↓reduceIte, Int.toNat_natCast, bne_self_eq_false]
          | with_reducible refine roundS (next_of 1000 ?_)
          | with_reducible refine drawS_of mixed (by kernel_rfl) (dg_of 1000 ?_)
          | with_reducible refine endD_of (by kernel_rfl) (next_of 1000 ?_)
          | with_reducible refine next_of 1000 ?_
          | ((first | refine condS_split (fun h => ?_) (fun h => ?_) | refine testS_split (fun h => ?_) (fun h => ?_) | refine testD_split (fun h => ?_) (fun h => ?_)) <;> (try simp only [bne_iff_ne, ne_eq, beq_iff_eq, decide_eq_true_eq, decide_eq_false_iff_not, Bool.not_eq_true, Bool.not_eq_false, Bool.not_true, Bool.not_false, bne_eq_false_iff_eq, beq_eq_false_iff_ne, Bool.and_eq_true, Bool.or_eq_true, Bool.and_eq_false_imp, Bool.or_eq_false_iff, Bool.not_eq_true', Bool.not_eq_false', Int.not_lt, Int.not_le] at h) <;> (try (exfalso; omega))))
        exact fun bs => rfl
      · exact fun s h => h.elim
      · exact fun id s h => h.elim
  · exact fun s h => h.elim
  · exact fun id s h => h.elim
end Go.Proofs.YthknokcfmpahcaaDoor
