/- Part of a proof over the seat YthknokcfmpahcaaDoor. -/
import Derived.Test.YthknokcfmpahcaaDoorTP0
import Derived.Test.YthknokcfmpahcaaDoorLG
namespace Go.Proofs.YthknokcfmpahcaaDoor
open Go RowKit Go.Ew
set_option maxRecDepth 100000
set_option linter.unusedSimpArgs false
set_option linter.unusedVariables false
set_option maxHeartbeats 2000000
theorem in25 : codeIn Tryd.f25.ntmps (Tryd.f25.body.getD .skip) = true := by kernel_rfl
theorem in26 : codeIn Tryd.f26.ntmps (Tryd.f26.body.getD .skip) = true := by kernel_rfl
theorem in28 : codeIn Tryd.f28.ntmps (Tryd.f28.body.getD .skip) = true := by kernel_rfl
def cE (p : Nat × Int) : List EV := [.int .i64 p.1, .int .u8 p.2]
def cV (p : Nat × Int) : List Value := [.int .i64 p.1, .int .u8 p.2]
theorem take_succ_flat {α β : Type} (f : α → List β) (l : List α) (k : Nat) (a : α) (h : l[k]? = some a) : (l.take (k + 1)).flatMap f = (l.take k).flatMap f ++ f a := by
  rw [List.take_add_one, h]; simp
theorem flat_len {α β : Type} {f : α → List β} {sz : Nat} (h : ∀ a, (f a).length = sz) (l : List α) : (l.flatMap f).length = l.length * sz := by
  induction l with
  | nil => simp
  | cons a l ih => simp [List.flatMap_cons, ih, h, Nat.succ_mul]; omega
theorem flat_getk {α β : Type} {f : α → List β} {sz : Nat} (h : ∀ a, (f a).length = sz) : ∀ (l : List α) (i k : Nat) (a : α), l[i]? = some a → k < sz → (l.flatMap f)[i * sz + k]? = (f a)[k]?
  | [], i, k, a, hi, _ => by simp at hi
  | b :: l, 0, k, a, hi, hk => by
    simp at hi; subst hi
    simp only [Nat.zero_mul, Nat.zero_add, List.flatMap_cons]
    rw [List.getElem?_append_left (by rw [h]; exact hk)]
  | b :: l, i + 1, k, a, hi, hk => by
    have ih := flat_getk h l i k a (by simpa using hi) hk
    rw [List.flatMap_cons, List.getElem?_append_right (by rw [h, Nat.succ_mul]; omega), h, show (i + 1) * sz + k - sz = i * sz + k by rw [Nat.succ_mul]; omega]
    exact ih
theorem codesF_len {c : List Int} : ∀ (f a : Nat), (codesF c f a).length ≤ c.length - a
  | 0, a => by simp [codesF]
  | f + 1, a => by
    simp only [codesF]
    split
    · have := codesF_len (c := c) f (a + 1 + (if 95 < c.getD a 0 ∧ c.getD a 0 ≤ 127 then (c.getD a 0 - 95).toNat else 0))
      simp only [List.length_cons]; omega
    · simp
theorem enc26 : Enters Tryd.prog 26 := by intro args w; rfl
theorem refcodes_fn (c : List Int) (ad : Option Addr) (cap : Nat) (B : Base) (h : IntsAt B .u8 ad c) (hr : ∀ i, i < c.length → 0 ≤ c.getD i 0 ∧ c.getD i 0 < 256) (hl : c.length ≤ 1048576) :
    Does Tryd.prog 26 [.raw (.slice ad c.length cap)] B (fun s : Option Addr × Nat => .raw (.slice s.1 (codes c 0).length s.2)) (fun s B' => CellsAt B' s.1 ((codes c 0).flatMap cV)) := by
  have hcl := codesF_len (c := c) (c.length - 0) 0
  have hcl : (codes c 0).length ≤ c.length := by unfold codes; omega
  refine fn_of en26 (fun s B B' hB hR => hR.ext hB) Tryd.func26 rfl in26 (by simp [Tryd.f26]) (by simp [closeds, closed]) (fun B0 hB0 => next_of 1000 ?_)
  replace h := h.ext hB0
  have ho := h.ok
  simp (maxSteps := 4000000) (disch := omega) only [go_sem, Nat.reduceBEq, Nat.reduceAdd, Nat.reduceMul, Nat.reduceSub, Nat.reduceLT, Nat.reduceLeDiff, Int.reduceToNat, Int.reduceLT, Int.reduceLE, Int.reduceAdd, Int.reduceMul, Int.reduceSub, Int.reduceNeg, Int.reduceDiv, Int.reduceMod, Nat.reduceBNe, Nat.reduceGT, Int.reduceBEq, Int.reduceBNe, Int.reduceGT, Nat.reduceDiv, Nat.reduceMod, Nat.reducePow, Int.reducePow, gt_iff_lt, ge_iff_le, List.reduceReplicate, ↓reduceIte, Tryd.f26]
  repeat (with_reducible refine And.intro (by first | omega | assumption | (constructor <;> assumption) | (simp; done) | (simp; omega) | (simp [*]; done) | ((repeat' refine And.intro ?_ ?_) <;> first | omega | assumption | (refine SlOk.so (n := ?_) ?_ ?_; rotate_left; assumption; omega) | (simp; done) | fail) | fail) ?_)
  refine loopU (S := Nat × Nat × Lst) (fun s => lOk [.int .i64 0, .int .u8 0] s.1 s.2.2 ∧ s.1 ≤ (codes c 0).length ∧ s.2.1 < 2000000 ∧ ∃ f, c.length ≤ s.2.1 + f ∧ (codes c 0).drop s.1 = codesF c f s.2.1)
    (fun s => ⟨[(4, .int .i64 (s.2.1 : Nat)), (3, lE 0 s.1 s.2.2), (0, .raw (.slice ad c.length cap))], 1, [(0, lO 49 (((codes c 0).take s.1).flatMap cE) s.2.2)], B0, []⟩) (fun s => c.length + 100 - s.2.1) (0, 0, none)
    ⟨rfl, Nat.zero_le _, by simp, c.length, by simp, rfl⟩ (Weak.sub (weak_of (by simp [wσ, go_sem, closed, closeds, lE, lO]) (by simp [whs, go_sem, EObj.closed, closed, closeds, lE, lO]) (by simp [*]) rfl rfl (by simp))) ?_
  rintro ⟨k, at', l⟩ ⟨hl, hk, hat, f, hf, hdrop⟩
  simp only at hl hk hat hf hdrop
  refine next_of 1000 ?_
  simp (maxSteps := 4000000) (disch := omega) only [go_sem, Nat.reduceBEq, Nat.reduceAdd, Nat.reduceMul, Nat.reduceSub, Nat.reduceLT, Nat.reduceLeDiff, Int.reduceToNat, Int.reduceLT, Int.reduceLE, Int.reduceAdd, Int.reduceMul, Int.reduceSub, Int.reduceNeg, Int.reduceDiv, Int.reduceMod, Nat.reduceBNe, Nat.reduceGT, Int.reduceBEq, Int.reduceBNe, Int.reduceGT, Nat.reduceDiv, Nat.reduceMod, Nat.reducePow, Int.reducePow, gt_iff_lt, ge_iff_le, List.reduceReplicate, ↓reduceIte]
  repeat (with_reducible refine And.intro (by first | omega | assumption | (constructor <;> assumption) | (simp; done) | (simp; omega) | (simp [*]; done) | ((repeat' refine And.intro ?_ ?_) <;> first | omega | assumption | (refine SlOk.so (n := ?_) ?_ ?_; rotate_left; assumption; omega) | (simp; done) | fail) | fail) ?_)
  refine condS_split (fun h1 => ?_) (fun h1 => ?_)
  all_goals (try simp only [bne_iff_ne, ne_eq, beq_iff_eq, decide_eq_true_eq, decide_eq_false_iff_not, Bool.not_eq_true, Bool.not_eq_false, Bool.not_true, Bool.not_false, bne_eq_false_iff_eq, beq_eq_false_iff_ne, Bool.and_eq_true, Bool.or_eq_true, Bool.and_eq_false_imp, Bool.or_eq_false_iff, Bool.not_eq_true', Bool.not_eq_false', Int.not_lt, Int.not_le] at h1)
  · have hat' : at' < c.length := by omega
    obtain ⟨f, rfl⟩ : ∃ f', f = f' + 1 := ⟨f - 1, by omega⟩
    simp only [codesF, hat', if_true] at hdrop
    have hget : (codes c 0)[k]? = some (at', c.getD at' 0) := by
      have := congrArg (fun l => l[0]?) hdrop; simpa using this
    have hk' : k < (codes c 0).length := by
      rcases Nat.lt_or_ge k (codes c 0).length with h | h
      · exact h
      · rw [List.getElem?_eq_none h] at hget; simp at hget
    have hdrop' : (codes c 0).drop (k + 1) = codesF c f (at' + 1 + (if 95 < c.getD at' 0 ∧ c.getD at' 0 ≤ 127 then (c.getD at' 0 - 95).toNat else 0)) := by
      have := congrArg (fun l => l.drop 1) hdrop; simpa using this
    have hxs := take_succ_flat cE (codes c 0) k _ hget
    have hld := h.ld at' hat'
    have hlD := h.lD (by omega)
    have hlS := h.lS at' hat'
    obtain ⟨r0, r1⟩ := hr at' hat'
    generalize c.getD at' 0 = op at *
    have hlen : (((codes c 0).take k).flatMap cE).length = k * 2 := by rw [flat_len (sz := 2) (fun a => rfl), List.length_take]; omega
    have hc0 : closeds 0 (((codes c 0).take k).flatMap cE) := by
      rw [closeds_iff]; intro v hv; obtain ⟨p, _, hp⟩ := List.mem_flatMap.1 hv; simp [cE] at hp; rcases hp with rfl | rfl <;> simp [closed]
    simp (maxSteps := 4000000) (disch := omega) only [go_sem, Nat.reduceBEq, Nat.reduceAdd, Nat.reduceMul, Nat.reduceSub, Nat.reduceLT, Nat.reduceLeDiff, Int.reduceToNat, Int.reduceLT, Int.reduceLE, Int.reduceAdd, Int.reduceMul, Int.reduceSub, Int.reduceNeg, Int.reduceDiv, Int.reduceMod, Nat.reduceBNe, Nat.reduceGT, Int.reduceBEq, Int.reduceBNe, Int.reduceGT, Nat.reduceDiv, Nat.reduceMod, Nat.reducePow, Int.reducePow, gt_iff_lt, ge_iff_le, List.reduceReplicate, ↓reduceIte, hld, hlD, hlS, Int.toNat_natCast]
    repeat (with_reducible refine And.intro (by first | omega | assumption | (constructor <;> assumption) | (simp; done) | (simp; omega) | (simp [*]; done) | ((repeat' refine And.intro ?_ ?_) <;> first | omega | assumption | (refine SlOk.so (n := ?_) ?_ ?_; rotate_left; assumption; omega) | (simp; done) | fail) | fail) ?_)
    refine appendL (T := 49) (zs := [.int .i64 0, .int .u8 0]) 0 k rfl Tryd.underlying43 (.inl ⟨_, Tryd.underlying43⟩) zr49 cz49 (by simp) (by simp [closeds, closed]) rfl rfl rfl hl hlen hc0 rfl (by simp) (by simp [oneAll, EV.one]) (by simp [maxLen]; omega) (by rw [by49]; omega) (fun l' hl' => ?_)
    have hc1 : closeds 0 (((codes c 0).take k).flatMap cE ++ [EV.int .i64 at', EV.int .u8 op]) := closeds_append.2 ⟨hc0, by simp [cE, closeds, closed]⟩
    have hz : closeds 0 [EV.int .i64 0, EV.int .u8 0] := by simp [closeds, closed]
    refine packS [2] 0 (by simp) (by simp) (by simp) (by simp) (next_of 1000 ?_)
    simp only [List.drop_zero, List.take_succ_cons, List.take_zero, Nat.one_mul]
    repeat' (first
      | with_reducible refine And.intro (by first | omega | assumption | (constructor <;> assumption) | (simp; done) | (simp; omega) | (simp [*]; done) | ((repeat' refine And.intro ?_ ?_) <;> first | omega | assumption | (refine SlOk.so (n := ?_) ?_ ?_; rotate_left; assumption; omega) | (simp; done) | fail) | fail) ?_
      | simp (maxSteps := 4000000) (disch := omega) only [go_sem, Nat.reduceBEq, Nat.reduceAdd, Nat.reduceMul, Nat.reduceSub, Nat.reduceLT, Nat.reduceLeDiff, Int.reduceToNat, Int.reduceLT, Int.reduceLE, Int.reduceAdd, Int.reduceMul, Int.reduceSub, Int.reduceNeg, Int.reduceDiv, Int.reduceMod, Nat.reduceBNe, Nat.reduceGT, Int.reduceBEq, Int.reduceBNe, Int.reduceGT, Nat.reduceDiv, Nat.reduceMod, Nat.reducePow, Int.reducePow, gt_iff_lt, ge_iff_le, List.reduceReplicate, ↓reduceIte, hld, hlD, hlS, Int.toNat_natCast, okC_lE' (ks := [2]) (k := 0) (r := 2) rfl, pkO_lO (ks := [2]) (k := 0) hl' hc1 hz]
      | with_reducible refine roundS (next_of 1000 ?_)
      | with_reducible refine drawS_of mixed (by kernel_rfl) (dg_of 1000 ?_)
      | with_reducible refine endD_of (by kernel_rfl) (next_of 1000 ?_)
      | with_reducible refine next_of 1000 ?_
      | ((first | refine condS_split (fun h => ?_) (fun h => ?_) | refine testS_split (fun h => ?_) (fun h => ?_) | refine testD_split (fun h => ?_) (fun h => ?_)) <;> (try simp only [bne_iff_ne, ne_eq, beq_iff_eq, decide_eq_true_eq, decide_eq_false_iff_not, Bool.not_eq_true, Bool.not_eq_false, Bool.not_true, Bool.not_false, bne_eq_false_iff_eq, beq_eq_false_iff_ne, Bool.and_eq_true, Bool.or_eq_true, Bool.and_eq_false_imp, Bool.or_eq_false_iff, Bool.not_eq_true', Bool.not_eq_false', Int.not_lt, Int.not_le] at h) <;> (try (exfalso; omega))))
    · refine ⟨(k + 1, at' + 1 + (op - 95).toNat, l'), ⟨hl', hk', by simp only; omega, f, by simp only at hf ⊢; omega, by rw [hdrop', if_pos (by omega)]⟩, Weak.sub (weak_of (by simp [wσ, go_sem, closed, closeds, lE_closed, hxs, cE, clO_lO hl' hc1 hz] <;> omega) (by simp [whs, Go.Ew.hget, go_sem, EObj.closed, closed, closeds, lE_closed, hxs, cE, clO_lO hl' hc1 hz]) (by simp [*]) rfl rfl (by simp)), by simp only; omega⟩
    all_goals refine ⟨(k + 1, at' + 1, l'), ⟨hl', hk', by simp only; omega, f, by simp only at hf ⊢; omega, by rw [hdrop', if_neg (by omega)]⟩, Weak.sub (weak_of (by simp [wσ, go_sem, closed, closeds, lE_closed, hxs, cE, clO_lO hl' hc1 hz] <;> omega) (by simp [whs, Go.Ew.hget, go_sem, EObj.closed, closed, closeds, lE_closed, hxs, cE, clO_lO hl' hc1 hz]) (by simp [*]) rfl rfl (by simp)), by simp only; omega⟩
  · have hkl : k = (codes c 0).length := by
      have : (codes c 0).drop k = [] := by rw [hdrop, codesF_nil c _ _ (by omega)]
      have := List.drop_eq_nil_iff.1 this
      omega
    subst hkl
    have hcc : closeds 0 ((codes c 0).flatMap cE) := by
      rw [closeds_iff]; intro v hv; obtain ⟨p, _, hp⟩ := List.mem_flatMap.1 hv; simp [cE] at hp; rcases hp with rfl | rfl <;> simp [closed]
    have hz : closeds 0 [EV.int .i64 0, EV.int .u8 0] := by simp [closeds, closed]
    rw [List.take_length]
    simp (maxSteps := 4000000) (disch := omega) only [go_sem, Nat.reduceBEq, Nat.reduceAdd, Nat.reduceMul, Nat.reduceSub, Nat.reduceLT, Nat.reduceLeDiff, Int.reduceToNat, Int.reduceLT, Int.reduceLE, Int.reduceAdd, Int.reduceMul, Int.reduceSub, Int.reduceNeg, Int.reduceDiv, Int.reduceMod, Nat.reduceBNe, Nat.reduceGT, Int.reduceBEq, Int.reduceBNe, Int.reduceGT, Nat.reduceDiv, Nat.reduceMod, Nat.reducePow, Int.reducePow, gt_iff_lt, ge_iff_le, List.reduceReplicate, ↓reduceIte]
    repeat (with_reducible refine And.intro (by first | omega | assumption | (constructor <;> assumption) | (simp; done) | (simp; omega) | (simp [*]; done) | ((repeat' refine And.intro ?_ ?_) <;> first | omega | assumption | (refine SlOk.so (n := ?_) ?_ ?_; rotate_left; assumption; omega) | (simp; done) | fail) | fail) ?_)
    refine freezeL 0 (codes c 0).length (T := 49) rfl hl (by rw [flat_len (sz := 2) (fun a => rfl)]; rfl) hcc hz (by simp) (fun b ad' cap' B' hE hfz hD hso hcell => next_of 1000 ?_)
    simp (maxSteps := 4000000) (disch := omega) only [go_sem, Nat.reduceBEq, Nat.reduceAdd, Nat.reduceMul, Nat.reduceSub, Nat.reduceLT, Nat.reduceLeDiff, Int.reduceToNat, Int.reduceLT, Int.reduceLE, Int.reduceAdd, Int.reduceMul, Int.reduceSub, Int.reduceNeg, Int.reduceDiv, Int.reduceMod, Nat.reduceBNe, Nat.reduceGT, Int.reduceBEq, Int.reduceBNe, Int.reduceGT, Nat.reduceDiv, Nat.reduceMod, Nat.reducePow, Int.reducePow, gt_iff_lt, ge_iff_le, List.reduceReplicate, ↓reduceIte, hfz]
    repeat (with_reducible refine And.intro (by first | omega | assumption | (constructor <;> assumption) | (simp; done) | (simp; omega) | (simp [*]; done) | ((repeat' refine And.intro ?_ ?_) <;> first | omega | assumption | (refine SlOk.so (n := ?_) ?_ ?_; rotate_left; assumption; omega) | (simp; done) | fail) | fail) ?_)
    exact ⟨(ad', cap'), rfl, trivial, cellsAt_frz hD hso (fun h => by rw [List.length_eq_zero_iff.1 h]; rfl) hcell (reals_flat _ _ _ (fun a => rfl) _)⟩
def dk (c : List Int) (k : Nat) : List Nat := (((codes c 0).take k).filter (fun p => p.2 == 91)).map (·.1)
def dE (d : Nat) : EV := .int .i64 d
/-- The document's places where one may jump to. -/
theorem refdests_fn (c : List Int) (ad : Option Addr) (cap : Nat) (B : Base) (h : IntsAt B .u8 ad c) (hr : ∀ i, i < c.length → 0 ≤ c.getD i 0 ∧ c.getD i 0 < 256) (hl : c.length ≤ 1048576) :
    Does Tryd.prog 28 [.raw (.slice ad c.length cap)] B (fun s : Option Addr × Nat => .raw (.slice s.1 (dests c).length s.2)) (fun s B' => CellsAt B' s.1 ((dests c).map (fun (d : Nat) => Value.int .i64 d))) := by
  refine fn_of en28 (fun s B B' hB hR => hR.ext hB) Tryd.func28 rfl in28 (by simp [Tryd.f28]) (by simp [closeds, closed]) (fun B0 hB0 => next_of 1000 ?_)
  replace h := h.ext hB0
  simp (maxSteps := 4000000) (disch := omega) only [go_sem, Nat.reduceBEq, Nat.reduceAdd, Nat.reduceMul, Nat.reduceSub, Nat.reduceLT, Nat.reduceLeDiff, Int.reduceToNat, Int.reduceLT, Int.reduceLE, Int.reduceAdd, Int.reduceMul, Int.reduceSub, Int.reduceNeg, Int.reduceDiv, Int.reduceMod, Nat.reduceBNe, Nat.reduceGT, Int.reduceBEq, Int.reduceBNe, Int.reduceGT, Nat.reduceDiv, Nat.reduceMod, Nat.reducePow, Int.reducePow, gt_iff_lt, ge_iff_le, List.reduceReplicate, ↓reduceIte, Tryd.f28]
  repeat (with_reducible refine And.intro (by first | omega | assumption | (constructor <;> assumption) | (simp; done) | (simp; omega) | (simp [*]; done) | ((repeat' refine And.intro ?_ ?_) <;> first | omega | assumption | (refine SlOk.so (n := ?_) ?_ ?_; rotate_left; assumption; omega) | (simp; done) | fail) | fail) ?_)
  refine callS_f (refcodes_fn c ad cap B0 h hr hl) (fun _ => trivial) (fun s B1 hB1 hc1 => next_of 1000 ?_)
  obtain ⟨ad1, cap1⟩ := s
  simp only at hc1
  simp (maxSteps := 4000000) (disch := omega) only [go_sem, Nat.reduceBEq, Nat.reduceAdd, Nat.reduceMul, Nat.reduceSub, Nat.reduceLT, Nat.reduceLeDiff, Int.reduceToNat, Int.reduceLT, Int.reduceLE, Int.reduceAdd, Int.reduceMul, Int.reduceSub, Int.reduceNeg, Int.reduceDiv, Int.reduceMod, Nat.reduceBNe, Nat.reduceGT, Int.reduceBEq, Int.reduceBNe, Int.reduceGT, Nat.reduceDiv, Nat.reduceMod, Nat.reducePow, Int.reducePow, gt_iff_lt, ge_iff_le, List.reduceReplicate, ↓reduceIte]
  repeat (with_reducible refine And.intro (by first | omega | assumption | (constructor <;> assumption) | (simp; done) | (simp; omega) | (simp [*]; done) | ((repeat' refine And.intro ?_ ?_) <;> first | omega | assumption | (refine SlOk.so (n := ?_) ?_ ?_; rotate_left; assumption; omega) | (simp; done) | fail) | fail) ?_)
  have hz : closeds 0 [EV.int .i64 0] := by simp [closeds, closed]
  have hlc : (codes c 0).length ≤ 1048576 := by have := codesF_len (c := c) (c.length - 0) 0; unfold codes; omega
  refine loopU (S := Nat × Nat × Lst) (fun s => lOk [.int .i64 0] s.2.1 s.2.2 ∧ s.1 ≤ (codes c 0).length ∧ s.2.1 = (dk c s.1).length)
    (fun s => ⟨[(5, .int .i64 (s.1 : Nat)), (4, .raw (.slice ad1 (codes c 0).length cap1)), (3, lE 0 s.2.1 s.2.2)], 1, [(0, lO 3 ((dk c s.1).map dE) s.2.2)], B1, []⟩) (fun s => (codes c 0).length - s.1) (0, 0, none)
    ⟨rfl, Nat.zero_le _, rfl⟩ (Weak.sub (weak_of (by simp [wσ, go_sem, closed, closeds, lE_closed, lE, lO, dk] <;> omega) (by simp [whs, Go.Ew.hget, go_sem, EObj.closed, closed, closeds, lE_closed, lE, lO, dk]) (by simp [*]) rfl rfl (by simp))) ?_
  rintro ⟨k, m, l⟩ ⟨hl1, hk, hm⟩
  simp only at hl1 hk hm
  subst hm
  have hd0 : closeds 0 ((dk c k).map dE) := by
    rw [closeds_iff]; intro v hv; obtain ⟨p, _, rfl⟩ := List.mem_map.1 hv; simp [dE, closed]
  have hdl : (dk c k).length ≤ k := by
    unfold dk; rw [List.length_map]; exact Nat.le_trans (List.length_filter_le _ _) (by rw [List.length_take]; omega)
  refine next_of 1000 ?_
  simp (maxSteps := 4000000) (disch := omega) only [go_sem, Nat.reduceBEq, Nat.reduceAdd, Nat.reduceMul, Nat.reduceSub, Nat.reduceLT, Nat.reduceLeDiff, Int.reduceToNat, Int.reduceLT, Int.reduceLE, Int.reduceAdd, Int.reduceMul, Int.reduceSub, Int.reduceNeg, Int.reduceDiv, Int.reduceMod, Nat.reduceBNe, Nat.reduceGT, Int.reduceBEq, Int.reduceBNe, Int.reduceGT, Nat.reduceDiv, Nat.reduceMod, Nat.reducePow, Int.reducePow, gt_iff_lt, ge_iff_le, List.reduceReplicate, ↓reduceIte]
  repeat (with_reducible refine And.intro (by first | omega | assumption | (constructor <;> assumption) | (simp; done) | (simp; omega) | (simp [*]; done) | ((repeat' refine And.intro ?_ ?_) <;> first | omega | assumption | (refine SlOk.so (n := ?_) ?_ ?_; rotate_left; assumption; omega) | (simp; done) | fail) | fail) ?_)
  refine condS_split (fun h1 => ?_) (fun h1 => ?_)
  all_goals (try simp only [bne_iff_ne, ne_eq, beq_iff_eq, decide_eq_true_eq, decide_eq_false_iff_not, Bool.not_eq_true, Bool.not_eq_false, Bool.not_true, Bool.not_false, bne_eq_false_iff_eq, beq_eq_false_iff_ne, Bool.and_eq_true, Bool.or_eq_true, Bool.and_eq_false_imp, Bool.or_eq_false_iff, Bool.not_eq_true', Bool.not_eq_false', Int.not_lt, Int.not_le] at h1)
  · have hk' : k < (codes c 0).length := by omega
    obtain ⟨⟨a, op⟩, hget⟩ : ∃ p, (codes c 0)[k]? = some p := ⟨_, List.getElem?_eq_getElem hk'⟩
    have hge : ∀ j, j < 2 → ((codes c 0).flatMap cV)[k * 2 + j]? = (cV (a, op))[j]? := fun j hj => flat_getk (sz := 2) (fun a => rfl) _ _ _ _ hget hj
    obtain ⟨a1, a2, a3⟩ := hc1.raw (j := k * 2) (v := .int .i64 a) (by have := hge 0 (by omega); simpa [cV] using this)
    obtain ⟨b1, b2, b3⟩ := hc1.raw (j := k * 2 + 1) (v := .int .u8 op) (by have := hge 1 (by omega); simpa [cV] using this)
    simp only [ofScalar] at a1 b1
    have so1 : ad1.isSome = true := hc1.so (by rw [flat_len (sz := 2) (fun a => rfl)]; omega)
    have hdk : dk c (k + 1) = dk c k ++ (if op = 91 then [a] else []) := by
      unfold dk
      rw [List.take_add_one, hget]
      by_cases h : op = 91 <;> simp [h]
    simp (maxSteps := 4000000) (disch := omega) only [go_sem, Nat.reduceBEq, Nat.reduceAdd, Nat.reduceMul, Nat.reduceSub, Nat.reduceLT, Nat.reduceLeDiff, Int.reduceToNat, Int.reduceLT, Int.reduceLE, Int.reduceAdd, Int.reduceMul, Int.reduceSub, Int.reduceNeg, Int.reduceDiv, Int.reduceMod, Nat.reduceBNe, Nat.reduceGT, Int.reduceBEq, Int.reduceBNe, Int.reduceGT, Nat.reduceDiv, Nat.reduceMod, Nat.reducePow, Int.reducePow, gt_iff_lt, ge_iff_le, List.reduceReplicate, ↓reduceIte, a1, a2, a3, b1, b2, b3, Int.toNat_natCast]
    repeat (with_reducible refine And.intro (by first | omega | assumption | (constructor <;> assumption) | (simp; done) | (simp; omega) | (simp [*]; done) | ((repeat' refine And.intro ?_ ?_) <;> first | omega | assumption | (refine SlOk.so (n := ?_) ?_ ?_; rotate_left; assumption; omega) | (simp; done) | fail) | fail) ?_)
    refine condS_split (fun h2 => ?_) (fun h2 => ?_)
    all_goals (try simp only [bne_iff_ne, ne_eq, beq_iff_eq, decide_eq_true_eq, decide_eq_false_iff_not, Bool.not_eq_true, Bool.not_eq_false, Bool.not_true, Bool.not_false, bne_eq_false_iff_eq, beq_eq_false_iff_ne, Bool.and_eq_true, Bool.or_eq_true, Bool.and_eq_false_imp, Bool.or_eq_false_iff, Bool.not_eq_true', Bool.not_eq_false', Int.not_lt, Int.not_le] at h2)
    · subst h2
      rw [if_pos rfl] at hdk
      simp (maxSteps := 4000000) (disch := omega) only [go_sem, Nat.reduceBEq, Nat.reduceAdd, Nat.reduceMul, Nat.reduceSub, Nat.reduceLT, Nat.reduceLeDiff, Int.reduceToNat, Int.reduceLT, Int.reduceLE, Int.reduceAdd, Int.reduceMul, Int.reduceSub, Int.reduceNeg, Int.reduceDiv, Int.reduceMod, Nat.reduceBNe, Nat.reduceGT, Int.reduceBEq, Int.reduceBNe, Int.reduceGT, Nat.reduceDiv, Nat.reduceMod, Nat.reducePow, Int.reducePow, gt_iff_lt, ge_iff_le, List.reduceReplicate, ↓reduceIte, a1, a2, a3, b1, b2, b3, Int.toNat_natCast]
      repeat (with_reducible refine And.intro (by first | omega | assumption | (constructor <;> assumption) | (simp; done) | (simp; omega) | (simp [*]; done) | ((repeat' refine And.intro ?_ ?_) <;> first | omega | assumption | (refine SlOk.so (n := ?_) ?_ ?_; rotate_left; assumption; omega) | (simp; done) | fail) | fail) ?_)
      refine appendL (T := 3) (zs := [.int .i64 0]) 0 (dk c k).length rfl Tryd.underlying50 (.inl ⟨_, Tryd.underlying50⟩) zr3 cz3 (by simp) (by simp [closeds, closed]) rfl rfl rfl hl1 (by simp) hd0 rfl (by simp) (by simp [oneAll, EV.one]) (by simp [maxLen]; omega) (by rw [by3]; omega) (fun l' hl' => ?_)
      have hd1 : closeds 0 ((dk c k).map dE ++ [EV.int .i64 a]) := closeds_append.2 ⟨hd0, by simp [closeds, closed]⟩
      refine packS [2] 0 (by simp) (by simp) (by simp) (by simp) (next_of 1000 ?_)
      simp only [List.drop_zero, List.take_succ_cons, List.take_zero, Nat.one_mul]
      simp (maxSteps := 4000000) (disch := omega) only [go_sem, Nat.reduceBEq, Nat.reduceAdd, Nat.reduceMul, Nat.reduceSub, Nat.reduceLT, Nat.reduceLeDiff, Int.reduceToNat, Int.reduceLT, Int.reduceLE, Int.reduceAdd, Int.reduceMul, Int.reduceSub, Int.reduceNeg, Int.reduceDiv, Int.reduceMod, Nat.reduceBNe, Nat.reduceGT, Int.reduceBEq, Int.reduceBNe, Int.reduceGT, Nat.reduceDiv, Nat.reduceMod, Nat.reducePow, Int.reducePow, gt_iff_lt, ge_iff_le, List.reduceReplicate, ↓reduceIte, okC_lE' (ks := [2]) (k := 0) (r := 2) rfl, pkO_lO (ks := [2]) (k := 0) hl' hd1 hz]
      repeat (with_reducible refine And.intro (by first | omega | assumption | (constructor <;> assumption) | (simp; done) | (simp; omega) | (simp [*]; done) | ((repeat' refine And.intro ?_ ?_) <;> first | omega | assumption | (refine SlOk.so (n := ?_) ?_ ?_; rotate_left; assumption; omega) | (simp; done) | fail) | fail) ?_)
      refine ⟨(k + 1, (dk c k).length + 1, l'), ⟨hl', hk', by simp [hdk]⟩, Weak.sub (weak_of (by simp [wσ, go_sem, closed, closeds, lE_closed, hdk, dE, clO_lO hl' hd1 hz] <;> omega) (by simp [whs, Go.Ew.hget, go_sem, EObj.closed, closed, closeds, lE_closed, hdk, dE, clO_lO hl' hd1 hz]) (by simp [*]) rfl rfl (by simp)), by simp only; omega⟩
    · rw [if_neg h2, List.append_nil] at hdk
      simp (maxSteps := 4000000) (disch := omega) only [go_sem, Nat.reduceBEq, Nat.reduceAdd, Nat.reduceMul, Nat.reduceSub, Nat.reduceLT, Nat.reduceLeDiff, Int.reduceToNat, Int.reduceLT, Int.reduceLE, Int.reduceAdd, Int.reduceMul, Int.reduceSub, Int.reduceNeg, Int.reduceDiv, Int.reduceMod, Nat.reduceBNe, Nat.reduceGT, Int.reduceBEq, Int.reduceBNe, Int.reduceGT, Nat.reduceDiv, Nat.reduceMod, Nat.reducePow, Int.reducePow, gt_iff_lt, ge_iff_le, List.reduceReplicate, ↓reduceIte]
      repeat (with_reducible refine And.intro (by first | omega | assumption | (constructor <;> assumption) | (simp; done) | (simp; omega) | (simp [*]; done) | ((repeat' refine And.intro ?_ ?_) <;> first | omega | assumption | (refine SlOk.so (n := ?_) ?_ ?_; rotate_left; assumption; omega) | (simp; done) | fail) | fail) ?_)
      refine ⟨(k + 1, (dk c k).length, l), ⟨hl1, hk', by simp only [hdk]⟩, Weak.sub (weak_of (by simp [wσ, go_sem, closed, closeds, lE_closed, hdk, clO_lO hl1 hd0 hz] <;> omega) (by simp [whs, Go.Ew.hget, go_sem, EObj.closed, closed, closeds, lE_closed, hdk, clO_lO hl1 hd0 hz]) (by simp [*]) rfl rfl (by simp)), by simp only; omega⟩
  · have hkl : k = (codes c 0).length := by omega
    subst hkl
    have e1 : dk c (codes c 0).length = dests c := by unfold dk dests; rw [List.take_length]
    rw [e1] at hl1 hd0 ⊢
    simp (maxSteps := 4000000) (disch := omega) only [go_sem, Nat.reduceBEq, Nat.reduceAdd, Nat.reduceMul, Nat.reduceSub, Nat.reduceLT, Nat.reduceLeDiff, Int.reduceToNat, Int.reduceLT, Int.reduceLE, Int.reduceAdd, Int.reduceMul, Int.reduceSub, Int.reduceNeg, Int.reduceDiv, Int.reduceMod, Nat.reduceBNe, Nat.reduceGT, Int.reduceBEq, Int.reduceBNe, Int.reduceGT, Nat.reduceDiv, Nat.reduceMod, Nat.reducePow, Int.reducePow, gt_iff_lt, ge_iff_le, List.reduceReplicate, ↓reduceIte]
    repeat (with_reducible refine And.intro (by first | omega | assumption | (constructor <;> assumption) | (simp; done) | (simp; omega) | (simp [*]; done) | ((repeat' refine And.intro ?_ ?_) <;> first | omega | assumption | (refine SlOk.so (n := ?_) ?_ ?_; rotate_left; assumption; omega) | (simp; done) | fail) | fail) ?_)
    refine freezeL 0 (dests c).length (T := 3) rfl hl1 (by simp) hd0 hz (by simp) (fun b ad' cap' B' hE hfz hD hso hcell => next_of 1000 ?_)
    simp (maxSteps := 4000000) (disch := omega) only [go_sem, Nat.reduceBEq, Nat.reduceAdd, Nat.reduceMul, Nat.reduceSub, Nat.reduceLT, Nat.reduceLeDiff, Int.reduceToNat, Int.reduceLT, Int.reduceLE, Int.reduceAdd, Int.reduceMul, Int.reduceSub, Int.reduceNeg, Int.reduceDiv, Int.reduceMod, Nat.reduceBNe, Nat.reduceGT, Int.reduceBEq, Int.reduceBNe, Int.reduceGT, Nat.reduceDiv, Nat.reduceMod, Nat.reducePow, Int.reducePow, gt_iff_lt, ge_iff_le, List.reduceReplicate, ↓reduceIte, hfz]
    repeat (with_reducible refine And.intro (by first | omega | assumption | (constructor <;> assumption) | (simp; done) | (simp; omega) | (simp [*]; done) | ((repeat' refine And.intro ?_ ?_) <;> first | omega | assumption | (refine SlOk.so (n := ?_) ?_ ?_; rotate_left; assumption; omega) | (simp; done) | fail) | fail) ?_)
    exact ⟨hB1.trans hE, (ad', cap'), rfl, trivial, cellsAt_frz hD hso (fun h => by rw [List.length_eq_zero_iff.1 h]; rfl) hcell (by rw [reals_eq, List.map_map]; rfl)⟩
end Go.Proofs.YthknokcfmpahcaaDoor
