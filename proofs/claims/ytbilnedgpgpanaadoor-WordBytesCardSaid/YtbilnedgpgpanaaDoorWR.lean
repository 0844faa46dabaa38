/- Part of a proof over the seat YtbilnedgpgpanaaDoor. -/
import Derived.Test.YtbilnedgpgpanaaDoorWQ
import Derived.Test.YtbilnedgpgpanaaDoorWM
import Derived.Test.YtbilnedgpgpanaaDoorWE
namespace Go.Proofs.YtbilnedgpgpanaaDoor
open Go Go.Ew
set_option maxRecDepth 100000
set_option linter.unusedSimpArgs false
set_option linter.unusedVariables false
set_option maxHeartbeats 1000000
theorem in57 : codeIn Tryd.f57.ntmps (Tryd.f57.body.getD .skip) = true := by kernel_rfl
theorem pow_256 (i : Nat) : 256 ^ i = 18446744073709551616 ^ (i / 8) * 2 ^ (8 * (i % 8)) := by
  have e : (18446744073709551616 : Nat) = 2 ^ 64 := by decide
  have e8 : (256 : Nat) = 2 ^ 8 := by decide
  rw [e, e8, ← Nat.pow_mul, ← Nat.pow_mul, ← Nat.pow_add]; congr 1; omega
theorem two_le56 {s : Nat} (hs : s ≤ 56) : 2 ^ s ≤ 72057594037927936 := Nat.le_trans (Nat.pow_le_pow_right (by omega) hs) (by decide)
theorem read_digit {N c i : Nat} (hN : N < 256 ^ i) (hc : c < 256) (q : Nat) :
    dig 18446744073709551616 (N + c * 256 ^ i) q = if q = i / 8 then bOr .u64 (dig 18446744073709551616 N q) (bShl .u64 (c : Int) (8 * ((i : Int) % 8))) else dig 18446744073709551616 N q := by
  rw [pow_256] at hN ⊢
  obtain ⟨s, hs⟩ : ∃ s, s = 8 * (i % 8) := ⟨_, rfl⟩
  have hsi : (8 * ((i : Int) % 8)).toNat = s := by omega
  have hs56 : s ≤ 56 := by omega
  have h2 := two_le56 hs56
  rw [← hs] at hN ⊢
  generalize i / 8 = q0 at *
  have hP : 0 < 18446744073709551616 ^ q0 := Nat.pow_pos (by omega)
  split
  · rename_i e; subst e
    have a1 : N / 18446744073709551616 ^ q < 2 ^ s := Nat.div_lt_of_lt_mul hN
    have a2 : (N + c * (18446744073709551616 ^ q * 2 ^ s)) / 18446744073709551616 ^ q = N / 18446744073709551616 ^ q + c * 2 ^ s := by
      rw [show c * (18446744073709551616 ^ q * 2 ^ s) = 18446744073709551616 ^ q * (c * 2 ^ s) by rw [Nat.mul_left_comm], Nat.add_mul_div_left _ _ hP]
    have a3 : c * 2 ^ s ≤ 255 * 2 ^ s := Nat.mul_le_mul_right _ (by omega)
    rw [dig, dig, a2]
    generalize N / 18446744073709551616 ^ q = N1 at *
    generalize hK : c * 2 ^ s = K at *
    have b1 : (N1 + K) % 18446744073709551616 = N1 + K := Nat.mod_eq_of_lt (by omega)
    have b2 : N1 % 18446744073709551616 = N1 := Nat.mod_eq_of_lt (by omega)
    have a4 : ((c : Int) * 2 ^ s) % 18446744073709551616 = (K : Int) := by
      rw [show ((c : Int) * 2 ^ s) = (K : Int) by rw [← hK]; simp]
      exact Int.emod_eq_of_lt (by omega) (by omega)
    have a5 : (K : Int) % ((2 ^ s : Nat) : Int) = 0 := by rw [← hK, ← Int.natCast_emod, Nat.mul_mod_left]; rfl
    rw [b1, b2, bShl_u64 (by omega) (by omega), hsi, a4, bOr_comm, bOr_add (s := s) (by omega) (by omega) (by omega) (by omega) a5 (by omega)]
    omega
  · rename_i hne
    rcases Nat.lt_or_ge q q0 with h | h
    · obtain ⟨d, hd⟩ : ∃ d, q0 = q + 1 + d := ⟨q0 - q - 1, by omega⟩
      have hQ : 0 < 18446744073709551616 ^ q := Nat.pow_pos (by omega)
      have e : c * (18446744073709551616 ^ q0 * 2 ^ s) = 18446744073709551616 ^ q * (18446744073709551616 * (18446744073709551616 ^ d * 2 ^ s * c)) := by
        rw [hd, Nat.pow_add, Nat.pow_succ]; grind
      rw [dig, dig, e, Nat.add_mul_div_left _ _ hQ, Nat.add_mul_mod_self_left]
    · have hlt : q0 + 1 ≤ q := by omega
      have e1 : 18446744073709551616 ^ (q0 + 1) ≤ 18446744073709551616 ^ q := Nat.pow_le_pow_right (by omega) hlt
      have e2 : 18446744073709551616 ^ q0 * 2 ^ s * 256 ≤ 18446744073709551616 ^ (q0 + 1) := by
        rw [Nat.pow_succ, Nat.mul_assoc]; exact Nat.mul_le_mul_left _ (by omega)
      have e3 : c * (18446744073709551616 ^ q0 * 2 ^ s) ≤ 255 * (18446744073709551616 ^ q0 * 2 ^ s) := Nat.mul_le_mul_right _ (by omega)
      rw [dig_big (by omega), dig_big (by omega)]
theorem read_long {w : World} {a : Option Addr} {L cap : Nat} (hL : 32 < L) (h63 : L < 9223372036854775808) : Calls Tryd.prog 57 #[.slice a L cap] w (Ret (.tuple #[wV 0, .int .i64 2]) w) := by
  refine pure_calls [.raw (.slice a L cap)] Tryd.func57 rfl in57 (by simp [Tryd.f57]) (by simp [closeds, closed]) (next_of 1000 ?_)
  simp (maxSteps := 4000000) (disch := omega) only [go_sem, Nat.reduceBEq, Nat.reduceAdd, Nat.reduceMul, Nat.reduceSub, Nat.reduceLT, Nat.reduceLeDiff, Int.reduceToNat, Int.reduceLT, Int.reduceLE, Int.reduceAdd, Int.reduceMul, Int.reduceSub, Int.reduceNeg, Int.reduceDiv, Int.reduceMod, Nat.reduceBNe, Nat.reduceGT, Int.reduceBEq, Int.reduceBNe, Int.reduceGT, Nat.reduceDiv, Nat.reduceMod, Nat.reducePow, Int.reducePow, gt_iff_lt, ge_iff_le, List.reduceReplicate, ↓reduceIte, Tryd.f57]
  repeat (with_reducible refine And.intro (by first | omega | assumption | (constructor <;> assumption) | (simp; done) | (simp; omega) | (simp [*]; done)) ?_)
  repeat' (first
    | with_reducible refine And.intro (by first | omega | assumption | (constructor <;> assumption) | (simp; done) | (simp; omega) | (simp [*]; done)) ?_
    | simp (maxSteps := 4000000) (disch := omega) only [go_sem, Nat.reduceBEq, Nat.reduceAdd, Nat.reduceMul, Nat.reduceSub, Nat.reduceLT, Nat.reduceLeDiff, Int.reduceToNat, Int.reduceLT, Int.reduceLE, Int.reduceAdd, Int.reduceMul, Int.reduceSub, Int.reduceNeg, Int.reduceDiv, Int.reduceMod, Nat.reduceBNe, Nat.reduceGT, Int.reduceBEq, Int.reduceBNe, Int.reduceGT, Nat.reduceDiv, Nat.reduceMod, Nat.reducePow, Int.reducePow, gt_iff_lt, ge_iff_le, List.reduceReplicate, ↓reduceIte, z4]
    | with_reducible refine roundS (next_of 1000 ?_)
    | with_reducible refine drawS_of mixed (by kernel_rfl) (dg_of 1000 ?_)
    | with_reducible refine endD_of (by kernel_rfl) (next_of 1000 ?_)
    | with_reducible refine next_of 1000 ?_
    | ((first | refine condS_split (fun h => ?_) (fun h => ?_) | refine testS_split (fun h => ?_) (fun h => ?_) | refine testD_split (fun h => ?_) (fun h => ?_)) <;> (try simp only [bne_iff_ne, ne_eq, beq_iff_eq, decide_eq_true_eq, decide_eq_false_iff_not, Bool.not_eq_true, Bool.not_eq_false, Bool.not_true, Bool.not_false, bne_eq_false_iff_eq, beq_eq_false_iff_ne, Bool.and_eq_true, Bool.or_eq_true, Bool.and_eq_false_imp, Bool.or_eq_false_iff, Bool.not_eq_true', Bool.not_eq_false', Int.not_lt, Int.not_le] at h) <;> (try (exfalso; omega))))
  intro bs; simp only [real, reals]; rfl
theorem raw_intsK {w : World} {b L : Nat} {k : IntKind} {z : Nat → Int} {T : TypeId} (h : w.heap[b]? = some (.cells (intsV k z L).toArray T (0, 0))) : ∀ j, j < L → rawCell (base w) ⟨b, j, none⟩ = .int k (z j) := by
  intro j hj
  simp [rawCell, base, cell_of_heap h, intsV, hj, ofScalar]
theorem raw_someK {w : World} {b L : Nat} {k : IntKind} {z : Nat → Int} {T : TypeId} (h : w.heap[b]? = some (.cells (intsV k z L).toArray T (0, 0))) : ∀ j, j < L → (w.cell? ⟨b, j, none⟩).isSome = true := by
  intro j hj
  simp [cell_of_heap h, intsV, hj]
/-- The number that the last i bytes of L are. -/
def lastN (z : Nat → Int) (L i : Nat) : Nat := (num 256 (fun j => z (L - 1 - j)) i).toNat
theorem lastN_zero (z : Nat → Int) (L : Nat) : lastN z L 0 = 0 := rfl
theorem lastN_lt {z : Nat → Int} (hz : ∀ j, 0 ≤ z j ∧ z j < 256) (L i : Nat) : (lastN z L i : Int) = num 256 (fun j => z (L - 1 - j)) i ∧ lastN z L i < 256 ^ i := by
  have := num_bd (b := 256) (k := i) (z := fun j => z (L - 1 - j)) (fun j _ => hz _)
  unfold lastN
  constructor
  · omega
  · apply Int.ofNat_lt.1
    rw [Int.toNat_of_nonneg this.1]; exact this.2
theorem lastN_succ {z : Nat → Int} (hz : ∀ j, 0 ≤ z j ∧ z j < 256) {L i c : Nat} (hc : z (L - 1 - i) = (c : Int)) : lastN z L (i + 1) = lastN z L i + c * 256 ^ i := by
  have h1 := (lastN_lt hz L i).1
  have h2 := (lastN_lt hz L (i + 1)).1
  rw [num, ← h1, hc] at h2
  have h3 : (c : Int) * ((256 ^ i : Nat) : Int) = ((c * 256 ^ i : Nat) : Int) := by simp
  rw [h3] at h2
  omega
theorem z4i : ints .u64 (dig 18446744073709551616 0) 4 = [.int .u64 0, .int .u64 0, .int .u64 0, .int .u64 0] := by rw [← wC_ints]; rfl
theorem z4z : ints .u64 (fun _ => 0) 4 = [.int .u64 0, .int .u64 0, .int .u64 0, .int .u64 0] := rfl
theorem read_calls {w : World} {b Lb L cap : Nat} {z : Nat → Int} {T : TypeId} (h : w.heap[b]? = some (.cells (intsV .u8 z Lb).toArray T (0, 0))) (hz : ∀ j, 0 ≤ z j ∧ z j < 256) (hL : L ≤ Lb) (hL32 : L ≤ 32) :
    Calls Tryd.prog 57 #[.slice (some ⟨b, 0, none⟩) L cap] w (Ret (.tuple #[wV (lastN z L L), .int .i64 0]) w) := by
  have hk := heap_lt h
  have rc := raw_intsK h
  have rs := raw_someK h
  refine pure_calls [.raw (.slice (some ⟨b, 0, none⟩) L cap)] Tryd.func57 rfl in57 (by simp [Tryd.f57]) (by simp [closeds, closed]) (next_of 1000 ?_)
  simp (maxSteps := 4000000) (disch := omega) only [go_sem, Nat.reduceBEq, Nat.reduceAdd, Nat.reduceMul, Nat.reduceSub, Nat.reduceLT, Nat.reduceLeDiff, Int.reduceToNat, Int.reduceLT, Int.reduceLE, Int.reduceAdd, Int.reduceMul, Int.reduceSub, Int.reduceNeg, Int.reduceDiv, Int.reduceMod, Nat.reduceBNe, Nat.reduceGT, Int.reduceBEq, Int.reduceBNe, Int.reduceGT, Nat.reduceDiv, Nat.reduceMod, Nat.reducePow, Int.reducePow, gt_iff_lt, ge_iff_le, List.reduceReplicate, ↓reduceIte, Tryd.f57]
  repeat (with_reducible refine And.intro (by first | omega | assumption | (constructor <;> assumption) | (simp; done) | (simp; omega) | (simp [*]; done)) ?_)
  repeat' (first
    | with_reducible refine And.intro (by first | omega | assumption | (constructor <;> assumption) | (simp; done) | (simp; omega) | (simp [*]; done)) ?_
    | simp (maxSteps := 4000000) (disch := omega) only [go_sem, Nat.reduceBEq, Nat.reduceAdd, Nat.reduceMul, Nat.reduceSub, Nat.reduceLT, Nat.reduceLeDiff, Int.reduceToNat, Int.reduceLT, Int.reduceLE, Int.reduceAdd, Int.reduceMul, Int.reduceSub, Int.reduceNeg, Int.reduceDiv, Int.reduceMod, Nat.reduceBNe, Nat.reduceGT, Int.reduceBEq, Int.reduceBNe, Int.reduceGT, Nat.reduceDiv, Nat.reduceMod, Nat.reducePow, Int.reducePow, gt_iff_lt, ge_iff_le, List.reduceReplicate, ↓reduceIte]
    | with_reducible refine roundS (next_of 1000 ?_)
    | with_reducible refine drawS_of mixed (by kernel_rfl) (dg_of 1000 ?_)
    | with_reducible refine endD_of (by kernel_rfl) (next_of 1000 ?_)
    | with_reducible refine next_of 1000 ?_
    | ((first | refine condS_split (fun h => ?_) (fun h => ?_) | refine testS_split (fun h => ?_) (fun h => ?_) | refine testD_split (fun h => ?_) (fun h => ?_)) <;> (try simp only [bne_iff_ne, ne_eq, beq_iff_eq, decide_eq_true_eq, decide_eq_false_iff_not, Bool.not_eq_true, Bool.not_eq_false, Bool.not_true, Bool.not_false, bne_eq_false_iff_eq, beq_eq_false_iff_ne, Bool.and_eq_true, Bool.or_eq_true, Bool.and_eq_false_imp, Bool.or_eq_false_iff, Bool.not_eq_true', Bool.not_eq_false', Int.not_lt, Int.not_le] at h) <;> (try (exfalso; omega))))
  refine loopU (S := Nat) (fun i => i ≤ L)
    (fun i => ⟨[(12, .int .i64 (i : Nat)), (11, .int .i64 (L : Nat)), (4, .ptr 1 0), (3, .int .i64 0), (2, .ptr 0 0), (0, .raw (.slice (some ⟨b, 0, none⟩) L cap))], 2,
      [(1, some (.cells (ints .u64 (dig 18446744073709551616 (lastN z L i)) 4) 24 (0, 0))), (0, some (.cells (ints .u64 (fun _ => 0) 4) 24 (0, 0)))], base w, []⟩)
    (fun i => L - i) 0 (by omega) (Weak.sub (weak_of (by simp [wσ, go_sem, closed, closeds, closeds_ints, lastN_zero, z4i, z4z]) (by simp [whs, go_sem, EObj.closed, closed, closeds, closeds_ints, lastN_zero, z4i, z4z]) (by simp [*]) rfl rfl (by simp))) ?_
  intro i hi
  refine next_of 1000 ?_
  simp (maxSteps := 4000000) (disch := omega) only [go_sem, Nat.reduceBEq, Nat.reduceAdd, Nat.reduceMul, Nat.reduceSub, Nat.reduceLT, Nat.reduceLeDiff, Int.reduceToNat, Int.reduceLT, Int.reduceLE, Int.reduceAdd, Int.reduceMul, Int.reduceSub, Int.reduceNeg, Int.reduceDiv, Int.reduceMod, Nat.reduceBNe, Nat.reduceGT, Int.reduceBEq, Int.reduceBNe, Int.reduceGT, Nat.reduceDiv, Nat.reduceMod, Nat.reducePow, Int.reducePow, gt_iff_lt, ge_iff_le, List.reduceReplicate, ↓reduceIte]
  repeat (with_reducible refine And.intro (by first | omega | assumption | (constructor <;> assumption) | (simp; done) | (simp; omega) | (simp [*]; done)) ?_)
  refine condS_split (fun h => ?_) (fun h => ?_)
  all_goals (try simp only [bne_iff_ne, ne_eq, beq_iff_eq, decide_eq_true_eq, decide_eq_false_iff_not, Bool.not_eq_true, Bool.not_eq_false, Bool.not_true, Bool.not_false, bne_eq_false_iff_eq, beq_eq_false_iff_ne, Bool.and_eq_true, Bool.or_eq_true, Bool.and_eq_false_imp, Bool.or_eq_false_iff, Bool.not_eq_true', Bool.not_eq_false', Int.not_lt, Int.not_le] at h)
  · have hiL : i < L := by omega
    have e1 : (((L : Int) - 1) - (i : Int)).toNat = L - 1 - i := by omega
    have e2 : ((i : Int) / 8).toNat = i / 8 := by omega
    obtain ⟨c, hc⟩ : ∃ c : Nat, z (L - 1 - i) = (c : Int) := ⟨(z (L - 1 - i)).toNat, by have := hz (L - 1 - i); omega⟩
    have hc2 : c < 256 := by have := hz (L - 1 - i); omega
    have rc1 := rc (L - 1 - i) (by omega)
    have rs1 := rs (L - 1 - i) (by omega)
    rw [hc] at rc1
    repeat' (first
      | with_reducible refine And.intro (by first | omega | assumption | (constructor <;> assumption) | (simp; done) | (simp; omega) | (simp [*]; done)) ?_
      | simp (maxSteps := 4000000) (disch := omega) only [go_sem, Nat.reduceBEq, Nat.reduceAdd, Nat.reduceMul, Nat.reduceSub, Nat.reduceLT, Nat.reduceLeDiff, Int.reduceToNat, Int.reduceLT, Int.reduceLE, Int.reduceAdd, Int.reduceMul, Int.reduceSub, Int.reduceNeg, Int.reduceDiv, Int.reduceMod, Nat.reduceBNe, Nat.reduceGT, Int.reduceBEq, Int.reduceBNe, Int.reduceGT, Nat.reduceDiv, Nat.reduceMod, Nat.reducePow, Int.reducePow, gt_iff_lt, ge_iff_le, List.reduceReplicate, ↓reduceIte, e1, e2, add_spot, Nat.zero_add, rc1, rs1]
      | with_reducible refine roundS (next_of 1000 ?_)
      | with_reducible refine drawS_of mixed (by kernel_rfl) (dg_of 1000 ?_)
      | with_reducible refine endD_of (by kernel_rfl) (next_of 1000 ?_)
      | with_reducible refine next_of 1000 ?_
      | ((first | refine condS_split (fun h => ?_) (fun h => ?_) | refine testS_split (fun h => ?_) (fun h => ?_) | refine testD_split (fun h => ?_) (fun h => ?_)) <;> (try simp only [bne_iff_ne, ne_eq, beq_iff_eq, decide_eq_true_eq, decide_eq_false_iff_not, Bool.not_eq_true, Bool.not_eq_false, Bool.not_true, Bool.not_false, bne_eq_false_iff_eq, beq_eq_false_iff_ne, Bool.and_eq_true, Bool.or_eq_true, Bool.and_eq_false_imp, Bool.or_eq_false_iff, Bool.not_eq_true', Bool.not_eq_false', Int.not_lt, Int.not_le] at h) <;> (try (exfalso; omega))))
    have he : setF (dig 18446744073709551616 (lastN z L i)) (i / 8) (bOr .u64 (dig 18446744073709551616 (lastN z L i) (i / 8)) ((c : Int) * 2 ^ (8 * ((i : Int) % 8)).toNat % 18446744073709551616)) = dig 18446744073709551616 (lastN z L (i + 1)) := by
      funext q
      rw [lastN_succ hz hc, read_digit (lastN_lt hz L i).2 hc2, bShl_u64 (by omega) (by omega)]
      simp only [setF]
      split
      · rename_i e; subst e; simp
      · rfl
    rw [he]
    exact ⟨i + 1, by omega, Weak.sub (weak_of (by simp [wσ, go_sem, closed, closeds, closeds_ints]) (by simp [whs, go_sem, EObj.closed, closed, closeds, closeds_ints]) (by simp [*]) rfl rfl (by simp)), by omega⟩
  · have hiL : i = L := by omega
    subst hiL
    simp (maxSteps := 4000000) (disch := omega) only [go_sem, Nat.reduceBEq, Nat.reduceAdd, Nat.reduceMul, Nat.reduceSub, Nat.reduceLT, Nat.reduceLeDiff, Int.reduceToNat, Int.reduceLT, Int.reduceLE, Int.reduceAdd, Int.reduceMul, Int.reduceSub, Int.reduceNeg, Int.reduceDiv, Int.reduceMod, Nat.reduceBNe, Nat.reduceGT, Int.reduceBEq, Int.reduceBNe, Int.reduceGT, Nat.reduceDiv, Nat.reduceMod, Nat.reducePow, Int.reducePow, gt_iff_lt, ge_iff_le, List.reduceReplicate, ↓reduceIte]
    repeat (with_reducible refine And.intro (by first | omega | assumption | (constructor <;> assumption) | (simp; done) | (simp; omega) | (simp [*]; done)) ?_)
    repeat' (first
      | with_reducible refine And.intro (by first | omega | assumption | (constructor <;> assumption) | (simp; done) | (simp; omega) | (simp [*]; done)) ?_
      | simp (maxSteps := 4000000) (disch := omega) only [go_sem, Nat.reduceBEq, Nat.reduceAdd, Nat.reduceMul, Nat.reduceSub, Nat.reduceLT, Nat.reduceLeDiff, Int.reduceToNat, Int.reduceLT, Int.reduceLE, Int.reduceAdd, Int.reduceMul, Int.reduceSub, Int.reduceNeg, Int.reduceDiv, Int.reduceMod, Nat.reduceBNe, Nat.reduceGT, Int.reduceBEq, Int.reduceBNe, Int.reduceGT, Nat.reduceDiv, Nat.reduceMod, Nat.reducePow, Int.reducePow, gt_iff_lt, ge_iff_le, List.reduceReplicate, ↓reduceIte]
      | with_reducible refine roundS (next_of 1000 ?_)
      | with_reducible refine drawS_of mixed (by kernel_rfl) (dg_of 1000 ?_)
      | with_reducible refine endD_of (by kernel_rfl) (next_of 1000 ?_)
      | with_reducible refine next_of 1000 ?_
      | ((first | refine condS_split (fun h => ?_) (fun h => ?_) | refine testS_split (fun h => ?_) (fun h => ?_) | refine testD_split (fun h => ?_) (fun h => ?_)) <;> (try simp only [bne_iff_ne, ne_eq, beq_iff_eq, decide_eq_true_eq, decide_eq_false_iff_not, Bool.not_eq_true, Bool.not_eq_false, Bool.not_true, Bool.not_false, bne_eq_false_iff_eq, beq_eq_false_iff_ne, Bool.and_eq_true, Bool.or_eq_true, Bool.and_eq_false_imp, Bool.or_eq_false_iff, Bool.not_eq_true', Bool.not_eq_false', Int.not_lt, Int.not_le] at h) <;> (try (exfalso; omega))))
    intro bs
    have := wV_real bs (lastN z i i)
    rw [wE_ints] at this
    simp only [real, reals] at this ⊢
    rw [this]
end Go.Proofs.YtbilnedgpgpanaaDoor
