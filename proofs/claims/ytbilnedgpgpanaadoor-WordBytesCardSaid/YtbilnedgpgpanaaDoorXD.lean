/- Part of a proof over the seat YtbilnedgpgpanaaDoor. -/
import Derived.Test.YtbilnedgpgpanaaDoorXC
import Derived.Test.YtbilnedgpgpanaaDoorWQ
namespace Go.Proofs.YtbilnedgpgpanaaDoor
open Go RowKit Go.Ew
set_option maxRecDepth 100000
set_option linter.unusedSimpArgs false
set_option linter.unusedVariables false
set_option maxHeartbeats 1000000
theorem in37 : codeIn Tryd.f37.ntmps (Tryd.f37.body.getD .skip) = true := by kernel_rfl
theorem nib_of (n i : Nat) (hi : i < 64) : dig 18446744073709551616 n (i / 16) / 2 ^ (4 * (i % 16)) % 16 = ((n / 16 ^ i % 16 : Nat) : Int) := by
  have e : (18446744073709551616 : Nat) = 2 ^ 64 := by decide
  have e8 : (16 : Nat) = 2 ^ 4 := by decide
  have e2 : n / 16 ^ i = n / 2 ^ (64 * (i / 16)) / 2 ^ (4 * (i % 16)) := by
    rw [show (16 : Nat) ^ i = 2 ^ (4 * i) by rw [Nat.pow_mul], Nat.div_div_eq_div_mul, ← Nat.pow_add]; congr 2; omega
  rw [dig, e2, e, ← Nat.pow_mul]
  generalize n / 2 ^ (64 * (i / 16)) = q
  have h3 : 2 ^ 64 = 2 ^ (4 * (i % 16)) * 2 ^ (64 - 4 * (i % 16)) := by rw [← Nat.pow_add]; congr 1; omega
  have h4 : q % 2 ^ 64 / 2 ^ (4 * (i % 16)) % 16 = q / 2 ^ (4 * (i % 16)) % 16 := by
    rw [h3, Nat.mod_mul_right_div_self, show 64 - 4 * (i % 16) = 4 + (60 - 4 * (i % 16)) by omega, Nat.pow_add, ← e8, Nat.mod_mul_right_mod]
  rw [← h4]
  simp
theorem nibE (x i : Nat) (hi : i < 64) : bAnd .u64 (bShr .u64 (dig 18446744073709551616 x ((i : Int) / 16).toNat) (4 * ((i : Int) % 16))) 15 = ((x / 16 ^ i % 16 : Nat) : Int) := by
  have h0 := dig_nn 18446744073709551616 x ((i : Int) / 16).toNat
  have h1 := dig_lt (b := 18446744073709551616) (by decide) x ((i : Int) / 16).toNat
  have e1 : ((i : Int) / 16).toNat = i / 16 := by omega
  have e2 : (4 * ((i : Int) % 16)).toNat = 4 * (i % 16) := by omega
  have hp : (0 : Int) < 2 ^ (4 * (i % 16)) := Int.pow_pos (by omega)
  rw [bShr_u64 h0 (by omega) (by omega), e2, bAnd_15 (Int.ediv_nonneg h0 (Int.le_of_lt hp)) (Int.lt_of_le_of_lt (Int.ediv_le_self _ h0) h1), e1, nib_of x i hi]
theorem one_dig (v : Nat) (h : v < 16) : (ByteArray.extract ⟨#[48, 49, 50, 51, 52, 53, 54, 55, 56, 57, 97, 98, 99, 100, 101, 102]⟩ v 16).extract 0 1 = strL [dcC v] := by
  have : ∀ v, v < 16 → ((ByteArray.extract ⟨#[48, 49, 50, 51, 52, 53, 54, 55, 56, 57, 97, 98, 99, 100, 101, 102]⟩ v 16).extract 0 1).data = (strL [dcC v]).data := by decide
  exact ByteArray.ext (this v h)
theorem one_size (v : Nat) (h : v < 16) : (ByteArray.extract ⟨#[48, 49, 50, 51, 52, 53, 54, 55, 56, 57, 97, 98, 99, 100, 101, 102]⟩ v 16).size = 16 - v := by
  have : ∀ v, v < 16 → (ByteArray.extract ⟨#[48, 49, 50, 51, 52, 53, 54, 55, 56, 57, 97, 98, 99, 100, 101, 102]⟩ v 16).size = 16 - v := by decide
  exact this v h
theorem hex_len (x : Nat) (h : x ≠ 0) : nd 16 x = (blen x + 3) / 4 := by
  have h1 : 0 < blen x := lt_blen.2 (by omega)
  have e : ∀ k, (16 : Nat) ^ k = 2 ^ (4 * k) := fun k => by rw [Nat.pow_mul]
  refine nd_eq (by omega) (by omega) ?_ ?_
  · rw [e]; exact blen_le.1 (by omega)
  · right; rw [e]; exact lt_blen.1 (by omega)
theorem hex_p (x : Nat) (hx : x < 115792089237316195423570985008687907853269984665640564039457584007913129639936) : Pure Tryd.prog 37 [wE x] (.str (strL (48 :: 120 :: txtL 16 x))) := by
  have hb : Pure Tryd.prog 86 [.agg (ints .u64 (dig 18446744073709551616 x) 4)] (.int .i64 (blen x)) := by rw [← wE_ints]; exact bits_p x hx
  have hbl : blen x ≤ 256 := blen_le.2 (by omega)
  obtain ⟨N, hN⟩ : ∃ N, N = (blen x + 3) / 4 := ⟨_, rfl⟩
  have eN : ((blen x : Int) + 3) / 4 = (N : Int) := by omega
  have hN64 : N ≤ 64 := by omega
  rw [wE_ints x]
  refine pure_p (args := [.agg (ints .u64 (dig 18446744073709551616 x) 4)]) en37 (by simp [closed, closeds, closed_wE, closeds_ints]) Tryd.func37 rfl in37 (by simp [Tryd.f37]) (by simp [closeds, closed, closed_wE, closeds_ints]) (fun w => next_of 1000 ?_)
  simp (maxSteps := 4000000) (disch := omega) only [go_sem, Nat.reduceBEq, Nat.reduceAdd, Nat.reduceMul, Nat.reduceSub, Nat.reduceLT, Nat.reduceLeDiff, Int.reduceToNat, Int.reduceLT, Int.reduceLE, Int.reduceAdd, Int.reduceMul, Int.reduceSub, Int.reduceNeg, Int.reduceDiv, Int.reduceMod, Nat.reduceBNe, Nat.reduceGT, Int.reduceBEq, Int.reduceBNe, Int.reduceGT, Nat.reduceDiv, Nat.reduceMod, Nat.reducePow, Int.reducePow, gt_iff_lt, ge_iff_le, List.reduceReplicate, ↓reduceIte, Tryd.f37]
  repeat (with_reducible refine And.intro (by first | omega | assumption | (constructor <;> assumption) | (simp; done) | (simp; omega) | (simp [*]; done)) ?_)
  repeat' (first
    | with_reducible refine And.intro (by first | omega | assumption | (constructor <;> assumption) | (simp; done) | (simp; omega) | (simp [*]; done)) ?_
    | simp (maxSteps := 4000000) (disch := omega) only [go_sem, Nat.reduceBEq, Nat.reduceAdd, Nat.reduceMul, Nat.reduceSub, Nat.reduceLT, Nat.reduceLeDiff, Int.reduceToNat, Int.reduceLT, Int.reduceLE, Int.reduceAdd, Int.reduceMul, Int.reduceSub, Int.reduceNeg, Int.reduceDiv, Int.reduceMod, Nat.reduceBNe, Nat.reduceGT, Int.reduceBEq, Int.reduceBNe, Int.reduceGT, Nat.reduceDiv, Nat.reduceMod, Nat.reducePow, Int.reducePow, gt_iff_lt, ge_iff_le, List.reduceReplicate, ↓reduceIte, eN]
    | with_reducible refine roundS (next_of 1000 ?_)
    | with_reducible refine drawS_of mixed (by kernel_rfl) (dg_of 1000 ?_)
    | with_reducible refine endD_of (by kernel_rfl) (next_of 1000 ?_)
    | refine callS_p (hb) (next_of 1000 ?_)
    | refine callD_p (hb) (dg_of 1000 ?_)
    | with_reducible refine next_of 1000 ?_
    | ((first | refine condS_split (fun h => ?_) (fun h => ?_) | refine testS_split (fun h => ?_) (fun h => ?_) | refine testD_split (fun h => ?_) (fun h => ?_)) <;> (try simp only [bne_iff_ne, ne_eq, beq_iff_eq, decide_eq_true_eq, decide_eq_false_iff_not, Bool.not_eq_true, Bool.not_eq_false, Bool.not_true, Bool.not_false, bne_eq_false_iff_eq, beq_eq_false_iff_ne, Bool.and_eq_true, Bool.or_eq_true, Bool.and_eq_false_imp, Bool.or_eq_false_iff, Bool.not_eq_true', Bool.not_eq_false', Int.not_lt, Int.not_le] at h) <;> (try (exfalso; omega))))
  refine loopU (S := Nat × List UInt8) (fun s => s.1 ≤ N ∧ s.2 ++ digL 16 x s.1 = digL 16 x N)
    (fun s => ⟨[(4, .int .i64 (s.1 : Nat)), (3, .str (strL s.2)), (2, .str ⟨#[]⟩), (1, .ptr 0 0)], 1,
      [(0, some (.cells (ints .u64 (dig 18446744073709551616 x) 4) 24 (0, 0)))], base w, []⟩)
    (fun s => s.1) (N, []) ⟨Nat.le_refl _, rfl⟩ (Weak.sub (weak_of (by simp [wσ, go_sem, closed, closeds, closeds_ints, strL]) (by simp [whs, go_sem, EObj.closed, closed, closeds, closeds_ints, strL]) (by simp [*]) rfl rfl (by simp))) ?_
  rintro ⟨n, s⟩ ⟨hn, hs⟩
  simp only at hn hs
  have hl : s.length + n = N := by
    have := congrArg List.length hs
    rw [List.length_append, digL_len, digL_len] at this; exact this
  refine next_of 1000 ?_
  simp (maxSteps := 4000000) (disch := omega) only [go_sem, Nat.reduceBEq, Nat.reduceAdd, Nat.reduceMul, Nat.reduceSub, Nat.reduceLT, Nat.reduceLeDiff, Int.reduceToNat, Int.reduceLT, Int.reduceLE, Int.reduceAdd, Int.reduceMul, Int.reduceSub, Int.reduceNeg, Int.reduceDiv, Int.reduceMod, Nat.reduceBNe, Nat.reduceGT, Int.reduceBEq, Int.reduceBNe, Int.reduceGT, Nat.reduceDiv, Nat.reduceMod, Nat.reducePow, Int.reducePow, gt_iff_lt, ge_iff_le, List.reduceReplicate, ↓reduceIte]
  repeat (with_reducible refine And.intro (by first | omega | assumption | (constructor <;> assumption) | (simp; done) | (simp; omega) | (simp [*]; done)) ?_)
  refine condS_split (fun h => ?_) (fun h => ?_)
  all_goals (try simp only [bne_iff_ne, ne_eq, beq_iff_eq, decide_eq_true_eq, decide_eq_false_iff_not, Bool.not_eq_true, Bool.not_eq_false, Bool.not_true, Bool.not_false, bne_eq_false_iff_eq, beq_eq_false_iff_ne, Bool.and_eq_true, Bool.or_eq_true, Bool.and_eq_false_imp, Bool.or_eq_false_iff, Bool.not_eq_true', Bool.not_eq_false', Int.not_lt, Int.not_le] at h)
  · obtain ⟨i, rfl⟩ : ∃ i, n = i + 1 := ⟨n - 1, by omega⟩
    have e1 : (((i + 1 : Nat) : Int) - 1) = (i : Int) := by omega
    have hv : x / 16 ^ i % 16 < 16 := Nat.mod_lt _ (by omega)
    have e2 : ((x / 16 ^ i % 16 : Nat) : Int).toNat = x / 16 ^ i % 16 := Int.toNat_natCast _
    have hss : (strL s).size = s.length := strL_size s
    have hss1 : (strL [dcC (x / 16 ^ i % 16)]).size = 1 := strL_size _
    have h16 : (ByteArray.mk #[48, 49, 50, 51, 52, 53, 54, 55, 56, 57, 97, 98, 99, 100, 101, 102]).size = 16 := rfl
    have h16a : (#[48, 49, 50, 51, 52, 53, 54, 55, 56, 57, 97, 98, 99, 100, 101, 102] : Array UInt8).size = 16 := rfl
    repeat' (first
      | with_reducible refine And.intro (by first | omega | assumption | (constructor <;> assumption) | (simp; done) | (simp; omega) | (simp [*]; done)) ?_
      | simp (maxSteps := 4000000) (disch := omega) only [go_sem, Nat.reduceBEq, Nat.reduceAdd, Nat.reduceMul, Nat.reduceSub, Nat.reduceLT, Nat.reduceLeDiff, Int.reduceToNat, Int.reduceLT, Int.reduceLE, Int.reduceAdd, Int.reduceMul, Int.reduceSub, Int.reduceNeg, Int.reduceDiv, Int.reduceMod, Nat.reduceBNe, Nat.reduceGT, Int.reduceBEq, Int.reduceBNe, Int.reduceGT, Nat.reduceDiv, Nat.reduceMod, Nat.reducePow, Int.reducePow, gt_iff_lt, ge_iff_le, List.reduceReplicate, ↓reduceIte, e1, nibE x i (by omega), e2, h16, h16a, one_dig _ hv, one_size _ hv, strL_app]
      | with_reducible refine roundS (next_of 1000 ?_)
      | with_reducible refine drawS_of mixed (by kernel_rfl) (dg_of 1000 ?_)
      | with_reducible refine endD_of (by kernel_rfl) (next_of 1000 ?_)
      | with_reducible refine next_of 1000 ?_
      | ((first | refine condS_split (fun h => ?_) (fun h => ?_) | refine testS_split (fun h => ?_) (fun h => ?_) | refine testD_split (fun h => ?_) (fun h => ?_)) <;> (try simp only [bne_iff_ne, ne_eq, beq_iff_eq, decide_eq_true_eq, decide_eq_false_iff_not, Bool.not_eq_true, Bool.not_eq_false, Bool.not_true, Bool.not_false, bne_eq_false_iff_eq, beq_eq_false_iff_ne, Bool.and_eq_true, Bool.or_eq_true, Bool.and_eq_false_imp, Bool.or_eq_false_iff, Bool.not_eq_true', Bool.not_eq_false', Int.not_lt, Int.not_le] at h) <;> (try (exfalso; omega))))
    exact ⟨(i, s ++ [dcC (x / 16 ^ i % 16)]), ⟨by show i ≤ N; omega, by rw [← hs]; simp [digL]⟩, Weak.sub (weak_of (by simp [wσ, go_sem, closed, closeds, closeds_ints]) (by simp [whs, go_sem, EObj.closed, closed, closeds, closeds_ints]) (by simp [*]) rfl rfl (by simp)), by show i < i + 1; omega⟩
  · have hn0 : n = 0 := by omega
    subst hn0
    rw [show digL 16 x 0 = [] from rfl, List.append_nil] at hs
    have hss : (strL s).size = s.length := strL_size s
    have ht : (strL s).toList = s := by rw [ByteArray.toList_eq]; rfl
    have ht0 : (ByteArray.mk #[]).toList = [] := by rw [ByteArray.toList_eq]
    have hs' := hs
    have hlN : s.length ≤ 64 := by omega
    simp (maxSteps := 4000000) (disch := omega) only [go_sem, Nat.reduceBEq, Nat.reduceAdd, Nat.reduceMul, Nat.reduceSub, Nat.reduceLT, Nat.reduceLeDiff, Int.reduceToNat, Int.reduceLT, Int.reduceLE, Int.reduceAdd, Int.reduceMul, Int.reduceSub, Int.reduceNeg, Int.reduceDiv, Int.reduceMod, Nat.reduceBNe, Nat.reduceGT, Int.reduceBEq, Int.reduceBNe, Int.reduceGT, Nat.reduceDiv, Nat.reduceMod, Nat.reducePow, Int.reducePow, gt_iff_lt, ge_iff_le, List.reduceReplicate, ↓reduceIte]
    repeat (with_reducible refine And.intro (by first | omega | assumption | (constructor <;> assumption) | (simp; done) | (simp; omega) | (simp [*]; done)) ?_)
    repeat' (first
      | with_reducible refine And.intro (by first | omega | assumption | (constructor <;> assumption) | (simp; done) | (simp; omega) | (simp [*]; done)) ?_
      | simp (maxSteps := 4000000) (disch := omega) only [go_sem, Nat.reduceBEq, Nat.reduceAdd, Nat.reduceMul, Nat.reduceSub, Nat.reduceLT, Nat.reduceLeDiff, Int.reduceToNat, Int.reduceLT, Int.reduceLE, Int.reduceAdd, Int.reduceMul, Int.reduceSub, Int.reduceNeg, Int.reduceDiv, Int.reduceMod, Nat.reduceBNe, Nat.reduceGT, Int.reduceBEq, Int.reduceBNe, Int.reduceGT, Nat.reduceDiv, Nat.reduceMod, Nat.reducePow, Int.reducePow, gt_iff_lt, ge_iff_le, List.reduceReplicate, ↓reduceIte]
      | with_reducible refine roundS (next_of 1000 ?_)
      | with_reducible refine drawS_of mixed (by kernel_rfl) (dg_of 1000 ?_)
      | with_reducible refine endD_of (by kernel_rfl) (next_of 1000 ?_)
      | with_reducible refine next_of 1000 ?_
      | ((first | refine condS_split (fun h => ?_) (fun h => ?_) | refine testS_split (fun h => ?_) (fun h => ?_) | refine testD_split (fun h => ?_) (fun h => ?_)) <;> (try simp only [bne_iff_ne, ne_eq, beq_iff_eq, decide_eq_true_eq, decide_eq_false_iff_not, Bool.not_eq_true, Bool.not_eq_false, Bool.not_true, Bool.not_false, bne_eq_false_iff_eq, beq_eq_false_iff_ne, Bool.and_eq_true, Bool.or_eq_true, Bool.and_eq_false_imp, Bool.or_eq_false_iff, Bool.not_eq_true', Bool.not_eq_false', Int.not_lt, Int.not_le] at h) <;> (try (exfalso; omega))))
    · rw [ht, ht0] at h
      have hx0 : x = 0 := by
        have : blen x = 0 := by rw [h] at hl; simp only [List.length_nil] at hl; omega
        have := blen_le.1 (Nat.le_of_eq this)
        omega
      subst hx0
      have e0 : txtL 16 0 = [48] := by rw [txtL, show nd 16 0 = 1 by rw [nd]; simp]; rfl
      rw [e0]
      exact congrArg EV.str (strL_app [48, 120] [48])
    · rw [ht, ht0] at h
      have hl0 : s.length ≠ 0 := fun h0 => h (List.length_eq_zero_iff.1 h0)
      have hx0 : x ≠ 0 := by
        intro h0
        rw [h0] at hN
        rw [blen_zero] at hN
        omega
      rw [txtL, hex_len x hx0, ← hN, ← hs']
      exact congrArg EV.str (strL_app [48, 120] s)
end Go.Proofs.YtbilnedgpgpanaaDoor
