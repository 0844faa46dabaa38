/- Part of a proof over the seat YtbilnedgpgpanaaDoor. -/
import Derived.Test.YtbilnedgpgpanaaDoorWV
import Derived.Test.YtbilnedgpgpanaaDoorEng3
namespace Go.Proofs.YtbilnedgpgpanaaDoor
open Go RowKit Go.Ew
set_option maxRecDepth 100000
set_option linter.unusedSimpArgs false
set_option linter.unusedVariables false
set_option maxHeartbeats 1000000
theorem in78 : codeIn Tryd.f78.ntmps (Tryd.f78.body.getD .skip) = true := by kernel_rfl
/-- Halves of limbs: 2^32. -/
structure MIn (x y i : Nat) (z : Nat → Int) : Prop where
  bd : ∀ j, 0 ≤ z j ∧ z j < 4294967296
  v : num 4294967296 z 17 = ((x % 4294967296 ^ i * y : Nat) : Int)
  z : ∀ j, i + 8 ≤ j → z j = 0
structure MIn2 (x y i k : Nat) (z : Nat → Int) (c : Int) : Prop where
  bd : ∀ j, 0 ≤ z j ∧ z j < 4294967296
  c0 : 0 ≤ c
  c1 : c < 4294967296
  v : num 4294967296 z 17 + c * (4294967296 ^ (i + k) : Nat) = ((x % 4294967296 ^ i * y + (x / 4294967296 ^ i % 4294967296) * (y % 4294967296 ^ k) * 4294967296 ^ i : Nat) : Int)
  z : ∀ j, i + 8 ≤ j → z j = 0
theorem setF_bd32 {z : Nat → Int} {j : Nat} {v : Int} (h : ∀ j, 0 ≤ z j ∧ z j < 4294967296) (h0 : 0 ≤ v) (h1 : v < 4294967296) : ∀ i, 0 ≤ setF z j v i ∧ setF z j v i < 4294967296 := by
  intro i; unfold setF; split
  · exact ⟨h0, h1⟩
  · exact h i
theorem wide_step32 {N c p z0 lo c' P R : Int} (h : N + c * P = R) (hs : z0 + c + p = lo + c' * 4294967296) : N + (lo - z0) * P + c' * (P * 4294967296) = R + p * P := by
  grind
theorem MIn2.next {x y i k : Nat} {z : Nat → Int} {c lo c' : Int} (h : MIn2 x y i k z c) (hi : i < 8) (hk : k < 8) (l0 : 0 ≤ lo) (l1 : lo < 4294967296) (c0 : 0 ≤ c') (c1 : c' < 4294967296)
    (hs : z (i + k) + c + dig 4294967296 x i * dig 4294967296 y k = lo + c' * 4294967296) : MIn2 x y i (k + 1) (setF z (i + k) lo) c' := by
  refine ⟨setF_bd32 h.bd l0 l1, c0, c1, ?_, fun j hj => by simp only [setF]; rw [if_neg (by omega)]; exact h.z j hj⟩
  rw [num_setF (by omega)]
  have e1 : ((4294967296 ^ (i + (k + 1)) : Nat) : Int) = (4294967296 ^ (i + k) : Nat) * 4294967296 := by rw [← Nat.add_assoc, Nat.pow_succ]; simp
  rw [e1, wide_step32 h.v hs]
  rw [Nat.mod_pow_succ (x := y)]
  unfold dig
  simp only [Int.natCast_add, Int.natCast_mul, Nat.pow_add, Int.mul_add, Int.add_mul]
  generalize ((x % 4294967296 ^ i : Nat) : Int) = a
  generalize ((x / 4294967296 ^ i % 4294967296 : Nat) : Int) = b
  generalize ((y / 4294967296 ^ k % 4294967296 : Nat) : Int) = d
  generalize ((y % 4294967296 ^ k : Nat) : Int) = e
  generalize ((4294967296 ^ i : Nat) : Int) = p
  generalize ((4294967296 ^ k : Nat) : Int) = q
  grind
theorem times_p (x y : Nat) (hx : x < 115792089237316195423570985008687907853269984665640564039457584007913129639936) (hy : y < 115792089237316195423570985008687907853269984665640564039457584007913129639936) : Pure Tryd.prog 78 [wE x, wE y] (lE (x * y)) := by
  have hpp : ∀ i k : Nat, 0 ≤ dig 4294967296 x i * dig 4294967296 y k ∧ dig 4294967296 x i * dig 4294967296 y k ≤ 18446744065119617025 := by
    intro i k
    have h1 := bd32 x i
    have h2 := bd32 y k
    exact ⟨Int.mul_nonneg h1.1 h2.1, Int.le_trans (Int.mul_le_mul (show dig 4294967296 x i ≤ 4294967295 by omega) (show dig 4294967296 y k ≤ 4294967295 by omega) h2.1 (by omega)) (by omega)⟩
  have c1 := fromword_p x hx
  have c2 := fromword_p y hy
  unfold lE at c1 c2 ⊢
  refine pure_p (args := [wE x, wE y]) en78 (by simp [closed, closeds, closed_wE, closeds_ints]) Tryd.func78 rfl in78 (by simp [Tryd.f78]) (by simp [closeds, closed, closed_wE, closeds_ints]) (fun w => next_of 1000 ?_)
  simp (maxSteps := 4000000) (disch := omega) only [go_sem, Nat.reduceBEq, Nat.reduceAdd, Nat.reduceMul, Nat.reduceSub, Nat.reduceLT, Nat.reduceLeDiff, Int.reduceToNat, Int.reduceLT, Int.reduceLE, Int.reduceAdd, Int.reduceMul, Int.reduceSub, Int.reduceNeg, Int.reduceDiv, Int.reduceMod, Nat.reduceBNe, Nat.reduceGT, Int.reduceBEq, Int.reduceBNe, Int.reduceGT, Nat.reduceDiv, Nat.reduceMod, Nat.reducePow, Int.reducePow, gt_iff_lt, ge_iff_le, List.reduceReplicate, ↓reduceIte, Tryd.f78]
  repeat (with_reducible refine And.intro (by first | omega | assumption | (constructor <;> assumption) | (simp; done) | (simp; omega) | (simp [*]; done)) ?_)
  repeat' (first
    | with_reducible refine And.intro (by first | omega | assumption | (constructor <;> assumption) | (simp; done) | (simp; omega) | (simp [*]; done)) ?_
    | simp (maxSteps := 4000000) (disch := omega) only [go_sem, Nat.reduceBEq, Nat.reduceAdd, Nat.reduceMul, Nat.reduceSub, Nat.reduceLT, Nat.reduceLeDiff, Int.reduceToNat, Int.reduceLT, Int.reduceLE, Int.reduceAdd, Int.reduceMul, Int.reduceSub, Int.reduceNeg, Int.reduceDiv, Int.reduceMod, Nat.reduceBNe, Nat.reduceGT, Int.reduceBEq, Int.reduceBNe, Int.reduceGT, Nat.reduceDiv, Nat.reduceMod, Nat.reducePow, Int.reducePow, gt_iff_lt, ge_iff_le, List.reduceReplicate, ↓reduceIte]
    | with_reducible refine roundS (next_of 1000 ?_)
    | with_reducible refine drawN_of (id := 1) mixed (by kernel_rfl) (by simp; done) (dg_of 1000 ?_)
    | with_reducible refine endN_of (by kernel_rfl) rfl (by simp [nmRes, off_eq, offL, av, avs, EObj.av, sentE, avs_ints, avs_wC, hasEdge_eq, edgeL, Region.binds]) (next_of 1000 ?_)
    | refine callS_p (c1) (next_of 1000 ?_)
    | refine callD_p (c1) (dg_of 1000 ?_)
    | refine callS_p (c2) (next_of 1000 ?_)
    | refine callD_p (c2) (dg_of 1000 ?_)
    | with_reducible refine next_of 1000 ?_
    | ((first | refine condS_split (fun h => ?_) (fun h => ?_) | refine testS_split (fun h => ?_) (fun h => ?_) | refine testD_split (fun h => ?_) (fun h => ?_)) <;> (try simp only [bne_iff_ne, ne_eq, beq_iff_eq, decide_eq_true_eq, decide_eq_false_iff_not, Bool.not_eq_true, Bool.not_eq_false, Bool.not_true, Bool.not_false, bne_eq_false_iff_eq, beq_eq_false_iff_ne, Bool.and_eq_true, Bool.or_eq_true, Bool.and_eq_false_imp, Bool.or_eq_false_iff, Bool.not_eq_true', Bool.not_eq_false', Int.not_lt, Int.not_le] at h) <;> (try (exfalso; omega))))
  refine reName (fun i => if i = 3 then 100005 else if i = 4 then 100006 else if i = 5 then 200000 else i) ⟨[(8, .int .i64 0), (7, .ptr 5 0), (6, .ptr 4 0), (5, .ptr 3 0), (4, .ptr 2 0)], 6, [(5, some (.cells (ints .u64 (fun _ => 0) 17) 72 (0, 0))), (4, some (.cells (ints .u64 (dig 4294967296 y) 17) 72 (0, 0))), (3, some (.cells (ints .u64 (dig 4294967296 x) 17) 72 (0, 0))), (2, some (.cells (ints .u64 (fun _ => 0) 17) 72 (0, 0)))], base w, []⟩ (by simp [wσR, ren, rens, rens_wC, closed, closeds, closeds_wC, closeds_ints, go_sem]) (by simp [whsR, go_sem, EObj.ren, ren, rens, rens_wC, EObj.closed, closed, closeds, closeds_wC, closeds_ints]) (by simp only [List.map_cons, List.map_nil]; decide) rfl rfl rfl rfl ?_
  refine loopU (S := Nat × (Nat → Int)) (fun s => s.1 ≤ 8 ∧ MIn x y s.1 s.2)
    (fun s => ⟨[(8, .int .i64 (s.1 : Nat)), (7, .ptr 5 0), (6, .ptr 4 0), (5, .ptr 3 0), (4, .ptr 2 0)], 6,
      [(5, some (.cells (ints .u64 s.2 17) 72 (0, 0))), (4, some (.cells (ints .u64 (dig 4294967296 y) 17) 72 (0, 0))), (3, some (.cells (ints .u64 (dig 4294967296 x) 17) 72 (0, 0))), (2, some (.cells (ints .u64 (fun _ => 0) 17) 72 (0, 0)))], base w, []⟩)
    (fun s => 8 - s.1) (0, fun _ => 0) ⟨by omega, ⟨fun j => ⟨Int.le_refl _, by show (0 : Int) < 4294967296; omega⟩, by simp [num, Nat.mod_one], fun _ _ => rfl⟩⟩ (Weak.sub (weak_of (by simp [wσ, go_sem, closed, closeds, closeds_ints]) (by simp [whs, go_sem, EObj.closed, closed, closeds, closeds_ints]) (by simp [*]) rfl rfl (by simp))) ?_
  rintro ⟨i, z⟩ ⟨hi, hw⟩
  simp only at hi hw
  refine next_of 1000 ?_
  simp (maxSteps := 4000000) (disch := omega) only [go_sem, Nat.reduceBEq, Nat.reduceAdd, Nat.reduceMul, Nat.reduceSub, Nat.reduceLT, Nat.reduceLeDiff, Int.reduceToNat, Int.reduceLT, Int.reduceLE, Int.reduceAdd, Int.reduceMul, Int.reduceSub, Int.reduceNeg, Int.reduceDiv, Int.reduceMod, Nat.reduceBNe, Nat.reduceGT, Int.reduceBEq, Int.reduceBNe, Int.reduceGT, Nat.reduceDiv, Nat.reduceMod, Nat.reducePow, Int.reducePow, gt_iff_lt, ge_iff_le, List.reduceReplicate, ↓reduceIte]
  repeat (with_reducible refine And.intro (by first | omega | assumption | (constructor <;> assumption) | (simp; done) | (simp; omega) | (simp [*]; done)) ?_)
  refine condS_split (fun h => ?_) (fun h => ?_)
  all_goals (try simp only [bne_iff_ne, ne_eq, beq_iff_eq, decide_eq_true_eq, decide_eq_false_iff_not, Bool.not_eq_true, Bool.not_eq_false, Bool.not_true, Bool.not_false, bne_eq_false_iff_eq, beq_eq_false_iff_ne, Bool.and_eq_true, Bool.or_eq_true, Bool.and_eq_false_imp, Bool.or_eq_false_iff, Bool.not_eq_true', Bool.not_eq_false', Int.not_lt, Int.not_le] at h)
  · simp (maxSteps := 4000000) (disch := omega) only [go_sem, Nat.reduceBEq, Nat.reduceAdd, Nat.reduceMul, Nat.reduceSub, Nat.reduceLT, Nat.reduceLeDiff, Int.reduceToNat, Int.reduceLT, Int.reduceLE, Int.reduceAdd, Int.reduceMul, Int.reduceSub, Int.reduceNeg, Int.reduceDiv, Int.reduceMod, Nat.reduceBNe, Nat.reduceGT, Int.reduceBEq, Int.reduceBNe, Int.reduceGT, Nat.reduceDiv, Nat.reduceMod, Nat.reducePow, Int.reducePow, gt_iff_lt, ge_iff_le, List.reduceReplicate, ↓reduceIte]
    repeat (with_reducible refine And.intro (by first | omega | assumption | (constructor <;> assumption) | (simp; done) | (simp; omega) | (simp [*]; done)) ?_)
    refine loopU (S := Nat × (Nat → Int) × Int) (fun s => s.1 ≤ 8 ∧ MIn2 x y i s.1 s.2.1 s.2.2)
      (fun s => ⟨[(10, .int .i64 (s.1 : Nat)), (9, .int .u64 s.2.2), (8, .int .i64 (i : Nat)), (7, .ptr 5 0), (6, .ptr 4 0), (5, .ptr 3 0), (4, .ptr 2 0)], 6,
        [(5, some (.cells (ints .u64 s.2.1 17) 72 (0, 0))), (4, some (.cells (ints .u64 (dig 4294967296 y) 17) 72 (0, 0))), (3, some (.cells (ints .u64 (dig 4294967296 x) 17) 72 (0, 0))), (2, some (.cells (ints .u64 (fun _ => 0) 17) 72 (0, 0)))], base w, []⟩)
      (fun s => 8 - s.1) (0, z, 0) ⟨by omega, ⟨hw.bd, by simp, by simp, by simpa [Nat.mod_one] using hw.v, hw.z⟩⟩ (Weak.sub (weak_of (by simp [wσ, go_sem, closed, closeds, closeds_ints]) (by simp [whs, go_sem, EObj.closed, closed, closeds, closeds_ints]) (by simp [*]) rfl rfl (by simp))) ?_
    rintro ⟨k, z, c⟩ ⟨hk, hw2⟩
    simp only at hk hw2
    refine next_of 1000 ?_
    simp (maxSteps := 4000000) (disch := omega) only [go_sem, Nat.reduceBEq, Nat.reduceAdd, Nat.reduceMul, Nat.reduceSub, Nat.reduceLT, Nat.reduceLeDiff, Int.reduceToNat, Int.reduceLT, Int.reduceLE, Int.reduceAdd, Int.reduceMul, Int.reduceSub, Int.reduceNeg, Int.reduceDiv, Int.reduceMod, Nat.reduceBNe, Nat.reduceGT, Int.reduceBEq, Int.reduceBNe, Int.reduceGT, Nat.reduceDiv, Nat.reduceMod, Nat.reducePow, Int.reducePow, gt_iff_lt, ge_iff_le, List.reduceReplicate, ↓reduceIte]
    repeat (with_reducible refine And.intro (by first | omega | assumption | (constructor <;> assumption) | (simp; done) | (simp; omega) | (simp [*]; done)) ?_)
    refine condS_split (fun h2 => ?_) (fun h2 => ?_)
    all_goals (try simp only [bne_iff_ne, ne_eq, beq_iff_eq, decide_eq_true_eq, decide_eq_false_iff_not, Bool.not_eq_true, Bool.not_eq_false, Bool.not_true, Bool.not_false, bne_eq_false_iff_eq, beq_eq_false_iff_ne, Bool.and_eq_true, Bool.or_eq_true, Bool.and_eq_false_imp, Bool.or_eq_false_iff, Bool.not_eq_true', Bool.not_eq_false', Int.not_lt, Int.not_le] at h2)
    · have h3 := hpp i k
      have h4 := hw2.bd (i + k)
      have h5 := hw2.c0
      have h6 := hw2.c1
      have e1 : (((i : Nat) : Int) + (k : Nat)).toNat = i + k := by omega
      obtain ⟨p, hp⟩ : ∃ p, p = dig 4294967296 x i * dig 4294967296 y k := ⟨_, rfl⟩
      rw [← hp] at h3
      repeat' (first
        | with_reducible refine And.intro (by first | omega | assumption | (constructor <;> assumption) | (simp; done) | (simp; omega) | (simp [*]; done)) ?_
        | simp (maxSteps := 4000000) (disch := omega) only [go_sem, Nat.reduceBEq, Nat.reduceAdd, Nat.reduceMul, Nat.reduceSub, Nat.reduceLT, Nat.reduceLeDiff, Int.reduceToNat, Int.reduceLT, Int.reduceLE, Int.reduceAdd, Int.reduceMul, Int.reduceSub, Int.reduceNeg, Int.reduceDiv, Int.reduceMod, Nat.reduceBNe, Nat.reduceGT, Int.reduceBEq, Int.reduceBNe, Int.reduceGT, Nat.reduceDiv, Nat.reduceMod, Nat.reducePow, Int.reducePow, gt_iff_lt, ge_iff_le, List.reduceReplicate, ↓reduceIte, Int.toNat_natCast, e1, ← hp]
        | with_reducible refine roundS (next_of 1000 ?_)
        | with_reducible refine drawS_of mixed (by kernel_rfl) (dg_of 1000 ?_)
        | with_reducible refine endD_of (by kernel_rfl) (next_of 1000 ?_)
        | with_reducible refine next_of 1000 ?_
        | ((first | refine condS_split (fun h => ?_) (fun h => ?_) | refine testS_split (fun h => ?_) (fun h => ?_) | refine testD_split (fun h => ?_) (fun h => ?_)) <;> (try simp only [bne_iff_ne, ne_eq, beq_iff_eq, decide_eq_true_eq, decide_eq_false_iff_not, Bool.not_eq_true, Bool.not_eq_false, Bool.not_true, Bool.not_false, bne_eq_false_iff_eq, beq_eq_false_iff_ne, Bool.and_eq_true, Bool.or_eq_true, Bool.and_eq_false_imp, Bool.or_eq_false_iff, Bool.not_eq_true', Bool.not_eq_false', Int.not_lt, Int.not_le] at h) <;> (try (exfalso; omega))))
      exact ⟨(k + 1, setF z (i + k) ((z (i + k) + p + c) % 4294967296), (z (i + k) + p + c) / 4294967296), ⟨by show k + 1 ≤ 8; omega, hw2.next (by omega) (by omega) (by omega) (by omega) (by show 0 ≤ (z (i + k) + p + c) / 4294967296; omega) (by show (z (i + k) + p + c) / 4294967296 < 4294967296; omega) (by rw [← hp]; show z (i + k) + c + p = (z (i + k) + p + c) % 4294967296 + (z (i + k) + p + c) / 4294967296 * 4294967296; omega)⟩, Weak.sub (weak_of (by simp [wσ, go_sem, closed, closeds, closeds_ints]) (by simp [whs, go_sem, EObj.closed, closed, closeds, closeds_ints]) (by simp [*]) rfl rfl (by simp)), by show 8 - (k + 1) < 8 - k; omega⟩
    · have hk8 : k = 8 := by omega
      subst hk8
      have h5 := hw2.c0
      have h6 := hw2.c1
      have e1 : (((i : Nat) : Int) + 8).toNat = i + 8 := by omega
      have hz0 := hw2.z (i + 8) (Nat.le_refl _)
      repeat' (first
        | with_reducible refine And.intro (by first | omega | assumption | (constructor <;> assumption) | (simp; done) | (simp; omega) | (simp [*]; done)) ?_
        | simp (maxSteps := 4000000) (disch := omega) only [go_sem, Nat.reduceBEq, Nat.reduceAdd, Nat.reduceMul, Nat.reduceSub, Nat.reduceLT, Nat.reduceLeDiff, Int.reduceToNat, Int.reduceLT, Int.reduceLE, Int.reduceAdd, Int.reduceMul, Int.reduceSub, Int.reduceNeg, Int.reduceDiv, Int.reduceMod, Nat.reduceBNe, Nat.reduceGT, Int.reduceBEq, Int.reduceBNe, Int.reduceGT, Nat.reduceDiv, Nat.reduceMod, Nat.reducePow, Int.reducePow, gt_iff_lt, ge_iff_le, List.reduceReplicate, ↓reduceIte, e1, hz0, Int.zero_add]
        | with_reducible refine roundS (next_of 1000 ?_)
        | with_reducible refine drawS_of mixed (by kernel_rfl) (dg_of 1000 ?_)
        | with_reducible refine endD_of (by kernel_rfl) (next_of 1000 ?_)
        | with_reducible refine next_of 1000 ?_
        | ((first | refine condS_split (fun h => ?_) (fun h => ?_) | refine testS_split (fun h => ?_) (fun h => ?_) | refine testD_split (fun h => ?_) (fun h => ?_)) <;> (try simp only [bne_iff_ne, ne_eq, beq_iff_eq, decide_eq_true_eq, decide_eq_false_iff_not, Bool.not_eq_true, Bool.not_eq_false, Bool.not_true, Bool.not_false, bne_eq_false_iff_eq, beq_eq_false_iff_ne, Bool.and_eq_true, Bool.or_eq_true, Bool.and_eq_false_imp, Bool.or_eq_false_iff, Bool.not_eq_true', Bool.not_eq_false', Int.not_lt, Int.not_le] at h) <;> (try (exfalso; omega))))
      refine ⟨(i + 1, setF z (i + 8) c), ⟨by show i + 1 ≤ 8; omega, ⟨setF_bd32 hw2.bd h5 h6, ?_, fun j hj => by simp only [setF]; rw [if_neg (by omega)]; exact hw2.z j (by omega)⟩⟩, Weak.sub (weak_of (by simp [wσ, go_sem, closed, closeds, closeds_ints]) (by simp [whs, go_sem, EObj.closed, closed, closeds, closeds_ints]) (by simp [*]) rfl rfl (by simp)), by show 8 - (i + 1) < 8 - i; omega⟩
      show num 4294967296 (setF z (i + 8) c) 17 = ((x % 4294967296 ^ (i + 1) * y : Nat) : Int)
      rw [num_setF (by omega), hz0, Int.sub_zero, hw2.v, Nat.mod_pow_succ (x := x)]
      have : y % 4294967296 ^ 8 = y := Nat.mod_eq_of_lt (by omega)
      rw [this, Nat.add_mul, Nat.mul_comm (4294967296 ^ i), Nat.mul_right_comm]
  · have hi8 : i = 8 := by omega
    subst hi8
    simp (maxSteps := 4000000) (disch := omega) only [go_sem, Nat.reduceBEq, Nat.reduceAdd, Nat.reduceMul, Nat.reduceSub, Nat.reduceLT, Nat.reduceLeDiff, Int.reduceToNat, Int.reduceLT, Int.reduceLE, Int.reduceAdd, Int.reduceMul, Int.reduceSub, Int.reduceNeg, Int.reduceDiv, Int.reduceMod, Nat.reduceBNe, Nat.reduceGT, Int.reduceBEq, Int.reduceBNe, Int.reduceGT, Nat.reduceDiv, Nat.reduceMod, Nat.reducePow, Int.reducePow, gt_iff_lt, ge_iff_le, List.reduceReplicate, ↓reduceIte]
    repeat (with_reducible refine And.intro (by first | omega | assumption | (constructor <;> assumption) | (simp; done) | (simp; omega) | (simp [*]; done)) ?_)
    repeat' (first
      | with_reducible refine And.intro (by first | omega | assumption | (constructor <;> assumption) | (simp; done) | (simp; omega) | (simp [*]; done)) ?_
      | simp (maxSteps := 4000000) (disch := omega) only [go_sem, Nat.reduceBEq, Nat.reduceAdd, Nat.reduceMul, Nat.reduceSub, Nat.reduceLT, Nat.reduceLeDiff, Int.reduceToNat, Int.reduceLT, Int.reduceLE, Int.reduceAdd, Int.reduceMul, Int.reduceSub, Int.reduceNeg, Int.reduceDiv, Int.reduceMod, Nat.reduceBNe, Nat.reduceGT, Int.reduceBEq, Int.reduceBNe, Int.reduceGT, Nat.reduceDiv, Nat.reduceMod, Nat.reducePow, Int.reducePow, gt_iff_lt, ge_iff_le, List.reduceReplicate, ↓reduceIte]
      | with_reducible refine roundS (next_of 1000 ?_)
      | with_reducible refine drawS_of mixed (by kernel_rfl) (dg_of 1000 ?_)
      | with_reducible refine endD_of (by kernel_rfl) (next_of 1000 ?_)
      | with_reducible refine next_of 1000 ?_
      | ((first | refine condS_split (fun h => ?_) (fun h => ?_) | refine testS_split (fun h => ?_) (fun h => ?_) | refine testD_split (fun h => ?_) (fun h => ?_)) <;> (try simp only [bne_iff_ne, ne_eq, beq_iff_eq, decide_eq_true_eq, decide_eq_false_iff_not, Bool.not_eq_true, Bool.not_eq_false, Bool.not_true, Bool.not_false, bne_eq_false_iff_eq, beq_eq_false_iff_ne, Bool.and_eq_true, Bool.or_eq_true, Bool.and_eq_false_imp, Bool.or_eq_false_iff, Bool.not_eq_true', Bool.not_eq_false', Int.not_lt, Int.not_le] at h) <;> (try (exfalso; omega))))
    have hv := hw.v
    rw [Nat.mod_eq_of_lt (show x < 4294967296 ^ 8 by omega)] at hv
    rw [ints_num (by decide) (fun i _ => hw.bd i) hv]
end Go.Proofs.YtbilnedgpgpanaaDoor
