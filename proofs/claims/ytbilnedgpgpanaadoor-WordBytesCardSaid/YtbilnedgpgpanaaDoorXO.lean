/- Part of a proof over the seat YtbilnedgpgpanaaDoor. -/
import Derived.Test.YtbilnedgpgpanaaDoorXD
import Derived.Test.YtbilnedgpgpanaaDoorWR
import Derived.Test.YtbilnedgpgpanaaDoorWO
namespace Go.Proofs.YtbilnedgpgpanaaDoor
open Go RowKit Go.Ew
set_option maxRecDepth 100000
set_option linter.unusedSimpArgs false
set_option linter.unusedVariables false
set_option maxHeartbeats 1000000
theorem in55 : codeIn Tryd.f55.ntmps (Tryd.f55.body.getD .skip) = true := by kernel_rfl
theorem ints_cutk (k : IntKind) (z : Nat → Int) (len cap : Nat) (h : len ≤ cap) : ints k z cap = ints k z len ++ (List.range (cap - len)).map (fun i => EV.int k (z (len + i))) := by
  obtain ⟨d, rfl⟩ := Nat.exists_eq_add_of_le h
  rw [Nat.add_sub_cancel_left, ints, ints, List.range_add, List.map_append, List.map_map]
  rfl
theorem ints_drop (k : IntKind) (z : Nat → Int) (n a L : Nat) (h : a + L ≤ n) : ((ints k z n).drop a).take L = ints k (fun j => z (a + j)) L := by
  apply List.ext_getElem
  · simp [ints]; omega
  · intro i h1 h2
    simp [ints]
/-- A slice of the call's own, of numbers: or nil. -/
theorem own_any {k : IntKind} {n r len : Nat} {e : EV} {oo : Option EObj} {z : Nat → Int} {T : TypeId} (h : Own n T [.int k 0] r e oo len (ints k z len)) :
    (len = 0 ∧ e = .raw (.slice none 0 0)) ∨ ∃ cap, e = .sl r 0 len cap ∧ len ≤ cap ∧ cap ≤ maxLen ∧ oo = some (.cells (ints k (fun i => if i < len then z i else 0) cap) T (0, 0)) := by
  obtain ⟨h1, ⟨he, _, h3⟩ | ⟨cap, rest, rfl, h4, h5, ⟨h6, h7⟩, rfl, h8⟩⟩ := h
  · exact .inl ⟨h3, he⟩
  · refine .inr ⟨cap, rfl, h4, h5, ?_⟩
    rw [ints_cutk _ _ len cap h4]
    have e1 : ints k (fun i => if i < len then z i else 0) len = ints k z len := ints_congr (fun i hi => if_pos hi)
    have e2 : rest = (List.range (cap - len)).map (fun i => EV.int k (if len + i < len then z (len + i) else 0)) := by
      simp only [List.length_singleton, Nat.mul_one] at h6
      apply List.ext_getElem (by simpa using h6)
      intro i hi hj
      have := h7 _ (List.getElem_mem hi)
      simp only [List.mem_singleton] at this
      rw [this]
      simp only [List.getElem_map, List.getElem_range]
      rw [if_neg (by omega)]
    rw [e1, ← e2]
theorem oneAll_ints (k : IntKind) (z : Nat → Int) (n : Nat) : oneAll (ints k z n) = true := by
  unfold ints
  generalize List.range n = l
  induction l with
  | nil => rfl
  | cons i l ih => rw [List.map_cons, oneAll, ih]; rfl
/-- How many bytes a word needs. -/
def nby (x : Nat) : Nat := (blen x + 7) / 8
theorem nby_le {x : Nat} (hx : x < 115792089237316195423570985008687907853269984665640564039457584007913129639936) : nby x ≤ 32 := by
  have : blen x ≤ 256 := blen_le.2 (by omega)
  unfold nby; omega
/-- The bytes, the highest first. -/
def lbZ (x : Nat) : Nat → Int := fun i => if i < nby x then dig 256 x (nby x - 1 - i) else 0
theorem least_calls (x : Nat) (hx : x < 115792089237316195423570985008687907853269984665640564039457584007913129639936) (bs : Nat → Nat) (w : World) : Calls Tryd.prog 55 (reals bs [wE x]).toArray w (fun e w' => ∃ s : Option Nat,
    (match s with | none => nby x = 0 | some cap => nby x ≤ cap ∧ cap ≤ maxLen) ∧ RetW [] (match s with | none => .raw (.slice none 0 0) | some cap => .sl 2 0 (nby x) cap) 3
      (match s with | none => [none, none, none] | some cap => [none, none, some (.cells (ints .u8 (lbZ x) cap) 5 (0, 0))]) w e w') := by
  have e0 : (reals bs [wE x]).toArray = (reals (bsOf []) [wE x]).toArray := by simp [reals, wV_real]
  rw [e0]
  have hbl : blen x ≤ 256 := blen_le.2 (by omega)
  have hL := nby_le hx
  have c1 := bytes_p x hx
  have c2 := bits_p x hx
  have eL : ((blen x : Int) + 7) / 8 = (nby x : Int) := by unfold nby; omega
  have eF : (32 - (nby x : Int)).toNat = 32 - nby x := by omega
  refine wr_calls (fun s : Option Nat => match s with | none => nby x = 0 | some cap => nby x ≤ cap ∧ cap ≤ maxLen) (fun s => match s with | none => .raw (.slice none 0 0) | some cap => .sl 2 0 (nby x) cap) (fun _ => 3)
    (fun s => match s with | none => [none, none, none] | some cap => [none, none, some (.cells (ints .u8 (lbZ x) cap) 5 (0, 0))]) [] [] [wE x] Tryd.func55 rfl in55 (by simp [Tryd.f55]) (by simp [closeds, closed_wE]) rfl (by simp) (by simp) (next_of 1000 ?_)
  simp (maxSteps := 4000000) (disch := omega) only [go_sem, Nat.reduceBEq, Nat.reduceAdd, Nat.reduceMul, Nat.reduceSub, Nat.reduceLT, Nat.reduceLeDiff, Int.reduceToNat, Int.reduceLT, Int.reduceLE, Int.reduceAdd, Int.reduceMul, Int.reduceSub, Int.reduceNeg, Int.reduceDiv, Int.reduceMod, Nat.reduceBNe, Nat.reduceGT, Int.reduceBEq, Int.reduceBNe, Int.reduceGT, Nat.reduceDiv, Nat.reduceMod, Nat.reducePow, Int.reducePow, gt_iff_lt, ge_iff_le, List.reduceReplicate, ↓reduceIte, Tryd.f55]
  repeat (with_reducible refine And.intro (by first | omega | assumption | (constructor <;> assumption) | (simp; done) | (simp; omega) | (simp [*]; done)) ?_)
  have e3 : 32 - (32 - nby x) = nby x := by omega
  obtain ⟨o, ho, ho2, ho3⟩ : ∃ o, (if 32 = 32 - nby x then 0 else 32 - nby x) = o ∧ o + nby x ≤ 32 ∧ (nby x ≠ 0 → o = 32 - nby x) := by
    by_cases h0 : nby x = 0
    · exact ⟨0, by rw [if_pos (by omega)], by omega, fun h => absurd h0 h⟩
    · exact ⟨32 - nby x, by rw [if_neg (by omega)], by omega, fun _ => rfl⟩
  repeat' (first
    | with_reducible refine And.intro (by first | omega | assumption | (constructor <;> assumption) | (simp; done) | (simp; omega) | (simp [*]; done)) ?_
    | simp (maxSteps := 4000000) (disch := omega) only [go_sem, Nat.reduceBEq, Nat.reduceAdd, Nat.reduceMul, Nat.reduceSub, Nat.reduceLT, Nat.reduceLeDiff, Int.reduceToNat, Int.reduceLT, Int.reduceLE, Int.reduceAdd, Int.reduceMul, Int.reduceSub, Int.reduceNeg, Int.reduceDiv, Int.reduceMod, Nat.reduceBNe, Nat.reduceGT, Int.reduceBEq, Int.reduceBNe, Int.reduceGT, Nat.reduceDiv, Nat.reduceMod, Nat.reducePow, Int.reducePow, gt_iff_lt, ge_iff_le, List.reduceReplicate, ↓reduceIte, eL, eF, e3, ho]
    | with_reducible refine roundS (next_of 1000 ?_)
    | with_reducible refine drawS_of mixed (by kernel_rfl) (dg_of 1000 ?_)
    | with_reducible refine endD_of (by kernel_rfl) (next_of 1000 ?_)
    | refine callS_p (c1) (next_of 1000 ?_)
    | refine callD_p (c1) (dg_of 1000 ?_)
    | refine callS_p (c2) (next_of 1000 ?_)
    | refine callD_p (c2) (dg_of 1000 ?_)
    | with_reducible refine next_of 1000 ?_
    | (refine condS_split (fun h => ?_) (fun h => ?_) <;> (try simp only [bne_iff_ne, ne_eq, beq_iff_eq, decide_eq_true_eq, decide_eq_false_iff_not, Bool.not_eq_true, Bool.not_eq_false, Bool.not_true, Bool.not_false, bne_eq_false_iff_eq, beq_eq_false_iff_ne, Bool.and_eq_true, Bool.or_eq_true, Bool.and_eq_false_imp, Bool.or_eq_false_iff, Bool.not_eq_true', Bool.not_eq_false', Int.not_lt, Int.not_le] at h) <;> (try (exfalso; omega)))
    | (refine testS_split (fun h => ?_) (fun h => ?_) <;> (try simp only [bne_iff_ne, ne_eq, beq_iff_eq, decide_eq_true_eq, decide_eq_false_iff_not, Bool.not_eq_true, Bool.not_eq_false, Bool.not_true, Bool.not_false, bne_eq_false_iff_eq, beq_eq_false_iff_ne, Bool.and_eq_true, Bool.or_eq_true, Bool.and_eq_false_imp, Bool.or_eq_false_iff, Bool.not_eq_true', Bool.not_eq_false', Int.not_lt, Int.not_le] at h) <;> (try (exfalso; omega)))
    | (refine testD_split (fun h => ?_) (fun h => ?_) <;> (try simp only [bne_iff_ne, ne_eq, beq_iff_eq, decide_eq_true_eq, decide_eq_false_iff_not, Bool.not_eq_true, Bool.not_eq_false, Bool.not_true, Bool.not_false, bne_eq_false_iff_eq, beq_eq_false_iff_ne, Bool.and_eq_true, Bool.or_eq_true, Bool.and_eq_false_imp, Bool.or_eq_false_iff, Bool.not_eq_true', Bool.not_eq_false', Int.not_lt, Int.not_le] at h) <;> (try (exfalso; omega))))
  refine appendS (T := 5) 50 0 [] rfl Tryd.underlying54 (.inl ⟨_, Tryd.underlying54⟩) zr5 cz5 (by simp) rfl rfl (Own.nil _ _ _ _) rfl (by simp [ints_len]; omega) (by simp only [List.length_singleton, Nat.mul_one]; rw [ints_drop _ _ _ _ _ ho2]; exact oneAll_ints _ _ _) (by simp [maxLen]; omega) (by rw [by5]; omega) (fun e' oo' hO => ?_)
  have hO2 : Own 3 5 [.int .u8 0] 2 e' oo' (nby x) (ints .u8 (fun j => dig 256 x (31 - (o + j))) (nby x)) := by
    rw [← ints_drop .u8 (fun j => dig 256 x (31 - j)) 32 o (nby x) ho2]
    simpa using hO
  clear hO
  rcases own_any hO2 with ⟨h0, rfl⟩ | ⟨cap, rfl, hc1, hc2, rfl⟩
  · refine next_of 1000 ?_
    repeat' (first
      | with_reducible refine And.intro (by first | omega | assumption | (constructor <;> assumption) | (simp; done) | (simp; omega) | (simp [*]; done)) ?_
      | simp (maxSteps := 4000000) (disch := omega) only [go_sem, Nat.reduceBEq, Nat.reduceAdd, Nat.reduceMul, Nat.reduceSub, Nat.reduceLT, Nat.reduceLeDiff, Int.reduceToNat, Int.reduceLT, Int.reduceLE, Int.reduceAdd, Int.reduceMul, Int.reduceSub, Int.reduceNeg, Int.reduceDiv, Int.reduceMod, Nat.reduceBNe, Nat.reduceGT, Int.reduceBEq, Int.reduceBNe, Int.reduceGT, Nat.reduceDiv, Nat.reduceMod, Nat.reducePow, Int.reducePow, gt_iff_lt, ge_iff_le, List.reduceReplicate, ↓reduceIte]
      | with_reducible refine roundS (next_of 1000 ?_)
      | with_reducible refine drawS_of mixed (by kernel_rfl) (dg_of 1000 ?_)
      | with_reducible refine endD_of (by kernel_rfl) (next_of 1000 ?_)
      | with_reducible refine next_of 1000 ?_
      | (refine condS_split (fun h => ?_) (fun h => ?_) <;> (try simp only [bne_iff_ne, ne_eq, beq_iff_eq, decide_eq_true_eq, decide_eq_false_iff_not, Bool.not_eq_true, Bool.not_eq_false, Bool.not_true, Bool.not_false, bne_eq_false_iff_eq, beq_eq_false_iff_ne, Bool.and_eq_true, Bool.or_eq_true, Bool.and_eq_false_imp, Bool.or_eq_false_iff, Bool.not_eq_true', Bool.not_eq_false', Int.not_lt, Int.not_le] at h) <;> (try (exfalso; omega)))
      | (refine testS_split (fun h => ?_) (fun h => ?_) <;> (try simp only [bne_iff_ne, ne_eq, beq_iff_eq, decide_eq_true_eq, decide_eq_false_iff_not, Bool.not_eq_true, Bool.not_eq_false, Bool.not_true, Bool.not_false, bne_eq_false_iff_eq, beq_eq_false_iff_ne, Bool.and_eq_true, Bool.or_eq_true, Bool.and_eq_false_imp, Bool.or_eq_false_iff, Bool.not_eq_true', Bool.not_eq_false', Int.not_lt, Int.not_le] at h) <;> (try (exfalso; omega)))
      | (refine testD_split (fun h => ?_) (fun h => ?_) <;> (try simp only [bne_iff_ne, ne_eq, beq_iff_eq, decide_eq_true_eq, decide_eq_false_iff_not, Bool.not_eq_true, Bool.not_eq_false, Bool.not_true, Bool.not_false, bne_eq_false_iff_eq, beq_eq_false_iff_ne, Bool.and_eq_true, Bool.or_eq_true, Bool.and_eq_false_imp, Bool.or_eq_false_iff, Bool.not_eq_true', Bool.not_eq_false', Int.not_lt, Int.not_le] at h) <;> (try (exfalso; omega))))
    refine ⟨none, h0, rfl, fun j hj => absurd hj (Nat.not_lt_zero j), ?_⟩
    rintro (_|_|_|i) o' ho' <;> simp at ho'
  · have ez : (fun i => if i < nby x then dig 256 x (31 - (o + i)) else 0) = lbZ x := by
      funext i
      unfold lbZ
      split
      · rename_i hi
        rw [ho3 (by omega)]; congr 1; omega
      · rfl
    rw [ez]
    clear hO2
    refine next_of 1000 ?_
    repeat' (first
      | with_reducible refine And.intro (by first | omega | assumption | (constructor <;> assumption) | (simp; done) | (simp; omega) | (simp [*]; done)) ?_
      | simp (maxSteps := 4000000) (disch := omega) only [go_sem, Nat.reduceBEq, Nat.reduceAdd, Nat.reduceMul, Nat.reduceSub, Nat.reduceLT, Nat.reduceLeDiff, Int.reduceToNat, Int.reduceLT, Int.reduceLE, Int.reduceAdd, Int.reduceMul, Int.reduceSub, Int.reduceNeg, Int.reduceDiv, Int.reduceMod, Nat.reduceBNe, Nat.reduceGT, Int.reduceBEq, Int.reduceBNe, Int.reduceGT, Nat.reduceDiv, Nat.reduceMod, Nat.reducePow, Int.reducePow, gt_iff_lt, ge_iff_le, List.reduceReplicate, ↓reduceIte]
      | with_reducible refine roundS (next_of 1000 ?_)
      | with_reducible refine drawS_of mixed (by kernel_rfl) (dg_of 1000 ?_)
      | with_reducible refine endD_of (by kernel_rfl) (next_of 1000 ?_)
      | with_reducible refine next_of 1000 ?_
      | (refine condS_split (fun h => ?_) (fun h => ?_) <;> (try simp only [bne_iff_ne, ne_eq, beq_iff_eq, decide_eq_true_eq, decide_eq_false_iff_not, Bool.not_eq_true, Bool.not_eq_false, Bool.not_true, Bool.not_false, bne_eq_false_iff_eq, beq_eq_false_iff_ne, Bool.and_eq_true, Bool.or_eq_true, Bool.and_eq_false_imp, Bool.or_eq_false_iff, Bool.not_eq_true', Bool.not_eq_false', Int.not_lt, Int.not_le] at h) <;> (try (exfalso; omega)))
      | (refine testS_split (fun h => ?_) (fun h => ?_) <;> (try simp only [bne_iff_ne, ne_eq, beq_iff_eq, decide_eq_true_eq, decide_eq_false_iff_not, Bool.not_eq_true, Bool.not_eq_false, Bool.not_true, Bool.not_false, bne_eq_false_iff_eq, beq_eq_false_iff_ne, Bool.and_eq_true, Bool.or_eq_true, Bool.and_eq_false_imp, Bool.or_eq_false_iff, Bool.not_eq_true', Bool.not_eq_false', Int.not_lt, Int.not_le] at h) <;> (try (exfalso; omega)))
      | (refine testD_split (fun h => ?_) (fun h => ?_) <;> (try simp only [bne_iff_ne, ne_eq, beq_iff_eq, decide_eq_true_eq, decide_eq_false_iff_not, Bool.not_eq_true, Bool.not_eq_false, Bool.not_true, Bool.not_false, bne_eq_false_iff_eq, beq_eq_false_iff_ne, Bool.and_eq_true, Bool.or_eq_true, Bool.and_eq_false_imp, Bool.or_eq_false_iff, Bool.not_eq_true', Bool.not_eq_false', Int.not_lt, Int.not_le] at h) <;> (try (exfalso; omega))))
    refine ⟨some cap, ⟨hc1, hc2⟩, rfl, fun j hj => absurd hj (Nat.not_lt_zero j), ?_⟩
    rintro (_|_|_|i) o' ho'
    · simp at ho'
    · simp at ho'
    · simp at ho'; subst ho'; simp
    · simp at ho'
end Go.Proofs.YtbilnedgpgpanaaDoor
