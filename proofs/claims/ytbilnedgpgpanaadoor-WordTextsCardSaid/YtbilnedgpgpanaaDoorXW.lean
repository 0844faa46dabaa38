/- Part of a proof over the seat YtbilnedgpgpanaaDoor. -/
import Derived.Test.YtbilnedgpgpanaaDoorXU
import Derived.Test.YtbilnedgpgpanaaDoorXD
import Derived.Test.YtbilnedgpgpanaaDoorXE
namespace Go.Proofs.YtbilnedgpgpanaaDoor
open Go RowKit Go.Ew
set_option maxRecDepth 100000
set_option linter.unusedSimpArgs false
set_option linter.unusedVariables false
set_option maxHeartbeats 2000000
theorem in115 : codeIn Tryd.f115.ntmps (Tryd.f115.body.getD .skip) = true := by kernel_rfl
theorem in87 : codeIn Tryd.f87.ntmps (Tryd.f87.body.getD .skip) = true := by kernel_rfl
theorem in38 : codeIn Tryd.f38.ntmps (Tryd.f38.body.getD .skip) = true := by kernel_rfl
theorem in40 : codeIn Tryd.f40.ntmps (Tryd.f40.body.getD .skip) = true := by kernel_rfl
theorem in85 : codeIn Tryd.f85.ntmps (Tryd.f85.body.getD .skip) = true := by kernel_rfl
theorem in36 : codeIn Tryd.f36.ntmps (Tryd.f36.body.getD .skip) = true := by kernel_rfl
theorem one_dig2 (v : Nat) (h : v < 16) : ByteArray.extract ⟨#[48, 49, 50, 51, 52, 53, 54, 55, 56, 57, 97, 98, 99, 100, 101, 102]⟩ v (v + 1) = strL [dcC v] := by
  have : ∀ v, v < 16 → (ByteArray.extract ⟨#[48, 49, 50, 51, 52, 53, 54, 55, 56, 57, 97, 98, 99, 100, 101, 102]⟩ v (v + 1)).data = (strL [dcC v]).data := by decide
  exact ByteArray.ext (this v h)
theorem digit_p (n : Nat) (hn : n < 16) : Pure Tryd.prog 115 [.int .u64 (n : Nat)] (.str (strL [dcC n])) := by
  have h16 : (ByteArray.mk #[48, 49, 50, 51, 52, 53, 54, 55, 56, 57, 97, 98, 99, 100, 101, 102]).size = 16 := rfl
  have h16a : (#[48, 49, 50, 51, 52, 53, 54, 55, 56, 57, 97, 98, 99, 100, 101, 102] : Array UInt8).size = 16 := rfl
  have e1 : ((n : Int) + 1).toNat = n + 1 := by omega
  have h1 : n + 1 ≤ 16 := by omega
  rw [← one_dig2 n hn]
  refine pure_p (args := [.int .u64 (n : Nat)]) en115 (by simp [closed, closeds, closed_wE, closeds_ints]) Tryd.func115 rfl in115 (by simp [Tryd.f115]) (by simp [closeds, closed, closed_wE, closeds_ints]) (fun w => next_of 1000 ?_)
  simp (maxSteps := 4000000) (disch := omega) only [go_sem, Nat.reduceBEq, Nat.reduceAdd, Nat.reduceMul, Nat.reduceSub, Nat.reduceLT, Nat.reduceLeDiff, Int.reduceToNat, Int.reduceLT, Int.reduceLE, Int.reduceAdd, Int.reduceMul, Int.reduceSub, Int.reduceNeg, Int.reduceDiv, Int.reduceMod, Nat.reduceBNe, Nat.reduceGT, Int.reduceBEq, Int.reduceBNe, Int.reduceGT, Nat.reduceDiv, Nat.reduceMod, Nat.reducePow, Int.reducePow, gt_iff_lt, ge_iff_le, List.reduceReplicate, ↓reduceIte, Tryd.f115, Int.toNat_natCast, e1, h16, h16a]
  repeat (with_reducible refine And.intro (by first | omega | assumption | (constructor <;> assumption) | (simp; done) | (simp; omega) | (simp [*]; done)) ?_)
  omega
theorem lim_ofR {m : Nat} (hm : m < 18446744073709551616) : wE m = lim (m : Nat) 0 0 0 := by
  simp only [wE, wC, EV.agg.injEq, List.cons.injEq, EV.int.injEq, true_and, and_true]
  refine ⟨?_, ?_, ?_, ?_⟩ <;> omega
theorem txt_k {b X k : Nat} (hb : 2 ≤ b) (hX : X < 115792089237316195423570985008687907853269984665640564039457584007913129639936) (h : X / b ^ k ≠ 0) : k < 256 := by
  rcases Nat.lt_or_ge k 256 with h1 | h1
  · exact h1
  · exfalso; apply h
    apply Nat.div_eq_of_lt
    exact Nat.lt_of_lt_of_le (Nat.lt_of_lt_of_le hX (by decide : 115792089237316195423570985008687907853269984665640564039457584007913129639936 ≤ 2 ^ 256)) (Nat.le_trans (Nat.pow_le_pow_right (by omega) h1) (Nat.pow_le_pow_left hb k))
theorem text_p (b X : Nat) (hb : 2 ≤ b) (hb' : b ≤ 16) (hX : X < 115792089237316195423570985008687907853269984665640564039457584007913129639936) : Pure Tryd.prog 87 [wE X, .int .u64 (b : Nat)] (.str (strL (txtL b X))) := by
  have c1 := rof_p b (by omega)
  refine pure_p (args := [wE X, .int .u64 (b : Nat)]) en87 (by simp [closed, closeds, closed_wE, closeds_ints]) Tryd.func87 rfl in87 (by simp [Tryd.f87]) (by simp [closeds, closed, closed_wE, closeds_ints]) (fun w => next_of 1000 ?_)
  simp (maxSteps := 4000000) (disch := omega) only [go_sem, Nat.reduceBEq, Nat.reduceAdd, Nat.reduceMul, Nat.reduceSub, Nat.reduceLT, Nat.reduceLeDiff, Int.reduceToNat, Int.reduceLT, Int.reduceLE, Int.reduceAdd, Int.reduceMul, Int.reduceSub, Int.reduceNeg, Int.reduceDiv, Int.reduceMod, Nat.reduceBNe, Nat.reduceGT, Int.reduceBEq, Int.reduceBNe, Int.reduceGT, Nat.reduceDiv, Nat.reduceMod, Nat.reducePow, Int.reducePow, gt_iff_lt, ge_iff_le, List.reduceReplicate, ↓reduceIte, Tryd.f87]
  repeat (with_reducible refine And.intro (by first | omega | assumption | (constructor <;> assumption) | (simp; done) | (simp; omega) | (simp [*]; done)) ?_)
  refine loopU (S := Nat × Nat) (fun s => s.2 = X / b ^ s.1 ∧ (s.1 = 0 ∨ s.2 ≠ 0))
    (fun s => ⟨[(5, .str (strL (digL b X s.1))), (4, .str ⟨#[]⟩), (2, .ptr 0 0), (1, .int .u64 (b : Nat))], 1,
      [(0, some (.cells (wC s.2) 23 (0, 0)))], base w, []⟩)
    (fun s => s.2) (0, X) ⟨by simp, .inl rfl⟩ (Weak.sub (weak_of (by simp [wσ, go_sem, closed, closeds, strL, digL]) (by simp [whs, go_sem, EObj.closed, closed, closeds, strL, digL]) (by simp [*]) rfl rfl (by simp))) ?_
  rintro ⟨k, y⟩ ⟨hy, hk⟩
  simp only at hy hk
  have hyX : y ≤ X := by rw [hy]; exact Nat.div_le_self _ _
  have hk256 : k < 256 := by
    rcases hk with h | h
    · omega
    · exact txt_k hb hX (by rw [← hy]; exact h)
  have hr : y % b < 16 := Nat.lt_of_lt_of_le (Nat.mod_lt _ (by omega)) hb'
  have c2 : Pure Tryd.prog 44 [wE y, wE b] (lim ((y % b : Nat) : Int) 0 0 0) := by
    have := rmod_p y b (by omega) (by omega)
    rwa [if_neg (by omega), lim_ofR (m := y % b) (by omega)] at this
  have hq : y / b < 115792089237316195423570985008687907853269984665640564039457584007913129639936 := Nat.lt_of_le_of_lt (Nat.div_le_self _ _) (by omega)
  have c3 := rdiv_p y b (by omega) (by omega)
  have c4 := digit_p (y % b) hr
  have c5 := rzero_p (y / b) hq
  have hss : (strL (digL b X k)).size = k := by rw [strL_size, digL_len]
  have hss1 : (strL [dcC (y % b)]).size = 1 := strL_size _
  have ed : strL [dcC (y % b)] ++ strL (digL b X k) = strL (digL b X (k + 1)) := by
    rw [strL_app, hy]; rfl
  have hnx : y / b = X / b ^ (k + 1) := by rw [hy, Nat.pow_succ, Nat.div_div_eq_div_mul]
  have hlt : y ≠ 0 → y / b < y := fun h => Nat.div_lt_self (by omega) (by omega)
  by_cases hz : y / b = 0
  · rw [show decide (y / b = 0) = true by simp [hz]] at c5
    refine next_of 1000 ?_
    repeat' (first
      | with_reducible refine And.intro (by first | omega | assumption | (constructor <;> assumption) | (simp; done) | (simp; omega) | (simp [*]; done)) ?_
      | simp (maxSteps := 4000000) (disch := omega) only [go_sem, Nat.reduceBEq, Nat.reduceAdd, Nat.reduceMul, Nat.reduceSub, Nat.reduceLT, Nat.reduceLeDiff, Int.reduceToNat, Int.reduceLT, Int.reduceLE, Int.reduceAdd, Int.reduceMul, Int.reduceSub, Int.reduceNeg, Int.reduceDiv, Int.reduceMod, Nat.reduceBNe, Nat.reduceGT, Int.reduceBEq, Int.reduceBNe, Int.reduceGT, Nat.reduceDiv, Nat.reduceMod, Nat.reducePow, Int.reducePow, gt_iff_lt, ge_iff_le, List.reduceReplicate, ↓reduceIte, ed]
      | with_reducible refine roundS (next_of 1000 ?_)
      | with_reducible refine drawS_of mixed (by kernel_rfl) (dg_of 1000 ?_)
      | with_reducible refine endD_of (by kernel_rfl) (next_of 1000 ?_)
      | refine callS_p (c1) (next_of 1000 ?_)
      | refine callD_p (c1) (dg_of 1000 ?_)
      | refine callS_p (c2) (next_of 1000 ?_)
      | refine callD_p (c2) (dg_of 1000 ?_)
      | refine callS_p (c3) (next_of 1000 ?_)
      | refine callD_p (c3) (dg_of 1000 ?_)
      | refine callS_p (c4) (next_of 1000 ?_)
      | refine callD_p (c4) (dg_of 1000 ?_)
      | refine callS_p (c5) (next_of 1000 ?_)
      | refine callD_p (c5) (dg_of 1000 ?_)
      | with_reducible refine next_of 1000 ?_
      | ((first | refine condS_split (fun h => ?_) (fun h => ?_) | refine testS_split (fun h => ?_) (fun h => ?_) | refine testD_split (fun h => ?_) (fun h => ?_)) <;> (try simp only [bne_iff_ne, ne_eq, beq_iff_eq, decide_eq_true_eq, decide_eq_false_iff_not, Bool.not_eq_true, Bool.not_eq_false, Bool.not_true, Bool.not_false, bne_eq_false_iff_eq, beq_eq_false_iff_ne, Bool.and_eq_true, Bool.or_eq_true, Bool.and_eq_false_imp, Bool.or_eq_false_iff, Bool.not_eq_true', Bool.not_eq_false', Int.not_lt, Int.not_le] at h) <;> (try (exfalso; omega))))
    have : nd b X = k + 1 := nd_eq hb (by omega) (by
        rw [hz] at hnx
        exact Nat.lt_of_div_eq_zero (Nat.pow_pos (by omega)) hnx.symm) (by
        rcases hk with h | h
        · left; omega
        · right
          rw [hy] at h
          rcases Nat.lt_or_ge X (b ^ k) with h1 | h1
          · exact absurd (Nat.div_eq_of_lt h1) h
          · exact h1)
    rw [txtL, this]
  · rw [show decide (y / b = 0) = false by simp [hz]] at c5
    have hy0 : y ≠ 0 := by rintro rfl; exact hz (Nat.zero_div _)
    refine next_of 1000 ?_
    repeat' (first
      | with_reducible refine And.intro (by first | omega | assumption | (constructor <;> assumption) | (simp; done) | (simp; omega) | (simp [*]; done)) ?_
      | simp (maxSteps := 4000000) (disch := omega) only [go_sem, Nat.reduceBEq, Nat.reduceAdd, Nat.reduceMul, Nat.reduceSub, Nat.reduceLT, Nat.reduceLeDiff, Int.reduceToNat, Int.reduceLT, Int.reduceLE, Int.reduceAdd, Int.reduceMul, Int.reduceSub, Int.reduceNeg, Int.reduceDiv, Int.reduceMod, Nat.reduceBNe, Nat.reduceGT, Int.reduceBEq, Int.reduceBNe, Int.reduceGT, Nat.reduceDiv, Nat.reduceMod, Nat.reducePow, Int.reducePow, gt_iff_lt, ge_iff_le, List.reduceReplicate, ↓reduceIte, ed]
      | with_reducible refine roundS (next_of 1000 ?_)
      | with_reducible refine drawS_of mixed (by kernel_rfl) (dg_of 1000 ?_)
      | with_reducible refine endD_of (by kernel_rfl) (next_of 1000 ?_)
      | refine callS_p (c1) (next_of 1000 ?_)
      | refine callD_p (c1) (dg_of 1000 ?_)
      | refine callS_p (c2) (next_of 1000 ?_)
      | refine callD_p (c2) (dg_of 1000 ?_)
      | refine callS_p (c3) (next_of 1000 ?_)
      | refine callD_p (c3) (dg_of 1000 ?_)
      | refine callS_p (c4) (next_of 1000 ?_)
      | refine callD_p (c4) (dg_of 1000 ?_)
      | refine callS_p (c5) (next_of 1000 ?_)
      | refine callD_p (c5) (dg_of 1000 ?_)
      | with_reducible refine next_of 1000 ?_
      | ((first | refine condS_split (fun h => ?_) (fun h => ?_) | refine testS_split (fun h => ?_) (fun h => ?_) | refine testD_split (fun h => ?_) (fun h => ?_)) <;> (try simp only [bne_iff_ne, ne_eq, beq_iff_eq, decide_eq_true_eq, decide_eq_false_iff_not, Bool.not_eq_true, Bool.not_eq_false, Bool.not_true, Bool.not_false, bne_eq_false_iff_eq, beq_eq_false_iff_ne, Bool.and_eq_true, Bool.or_eq_true, Bool.and_eq_false_imp, Bool.or_eq_false_iff, Bool.not_eq_true', Bool.not_eq_false', Int.not_lt, Int.not_le] at h) <;> (try (exfalso; omega))))
    exact ⟨(k + 1, y / b), ⟨hnx, .inr hz⟩, Weak.sub (weak_of (by simp [wσ, go_sem, closed, closeds]) (by simp [whs, go_sem, EObj.closed, closed, closeds]) (by simp [*]) rfl rfl (by simp)), hlt hy0⟩
theorem rhex_p (x : Nat) (hx : x < 115792089237316195423570985008687907853269984665640564039457584007913129639936) : Pure Tryd.prog 38 [wE x] (.str (strL (48 :: 120 :: txtL 16 x))) := by
  have c1 : Pure Tryd.prog 87 [wE x, .int .u64 16] (.str (strL (txtL 16 x))) := text_p 16 x (by omega) (by omega) hx
  have hn : nd 16 x ≤ 64 := nd_le (by omega) (by omega) (Nat.lt_of_lt_of_le hx (by decide))
  have hs : (strL (txtL 16 x)).size ≤ 64 := by rw [strL_size, txt_len]; exact hn
  have e : strL (48 :: 120 :: txtL 16 x) = ByteArray.mk #[48, 120] ++ strL (txtL 16 x) := (strL_app [48, 120] (txtL 16 x)).symm
  rw [e]
  have h2 : (ByteArray.mk #[48, 120]).size = 2 := rfl
  have h2a : (#[48, 120] : Array UInt8).size = 2 := rfl
  have hm : IntKind.i64.max = 9223372036854775807 := by decide
  generalize strL (txtL 16 x) = s at *
  have hms : ((2 + s.size : Nat) : Int) ≤ 9223372036854775807 := by omega
  refine pure_p (args := [wE x]) en38 (by simp [closed, closeds, closed_wE, closeds_ints]) Tryd.func38 rfl in38 (by simp [Tryd.f38]) (by simp [closeds, closed, closed_wE, closeds_ints]) (fun w => next_of 1000 ?_)
  simp (maxSteps := 4000000) (disch := omega) only [go_sem, Nat.reduceBEq, Nat.reduceAdd, Nat.reduceMul, Nat.reduceSub, Nat.reduceLT, Nat.reduceLeDiff, Int.reduceToNat, Int.reduceLT, Int.reduceLE, Int.reduceAdd, Int.reduceMul, Int.reduceSub, Int.reduceNeg, Int.reduceDiv, Int.reduceMod, Nat.reduceBNe, Nat.reduceGT, Int.reduceBEq, Int.reduceBNe, Int.reduceGT, Nat.reduceDiv, Nat.reduceMod, Nat.reducePow, Int.reducePow, gt_iff_lt, ge_iff_le, List.reduceReplicate, ↓reduceIte, Tryd.f38]
  repeat (with_reducible refine And.intro (by first | omega | assumption | (constructor <;> assumption) | (simp; done) | (simp; omega) | (simp [*]; done)) ?_)
  repeat' (first
    | with_reducible refine And.intro (by first | omega | assumption | (constructor <;> assumption) | (simp; done) | (simp; omega) | (simp [*]; done)) ?_
    | simp (maxSteps := 4000000) (disch := omega) only [go_sem, Nat.reduceBEq, Nat.reduceAdd, Nat.reduceMul, Nat.reduceSub, Nat.reduceLT, Nat.reduceLeDiff, Int.reduceToNat, Int.reduceLT, Int.reduceLE, Int.reduceAdd, Int.reduceMul, Int.reduceSub, Int.reduceNeg, Int.reduceDiv, Int.reduceMod, Nat.reduceBNe, Nat.reduceGT, Int.reduceBEq, Int.reduceBNe, Int.reduceGT, Nat.reduceDiv, Nat.reduceMod, Nat.reducePow, Int.reducePow, gt_iff_lt, ge_iff_le, List.reduceReplicate, ↓reduceIte, h2, h2a, hm]
    | with_reducible refine roundS (next_of 1000 ?_)
    | with_reducible refine drawS_of mixed (by kernel_rfl) (dg_of 1000 ?_)
    | with_reducible refine endD_of (by kernel_rfl) (next_of 1000 ?_)
    | refine callS_p (c1) (next_of 1000 ?_)
    | refine callD_p (c1) (dg_of 1000 ?_)
    | with_reducible refine next_of 1000 ?_
    | ((first | refine condS_split (fun h => ?_) (fun h => ?_) | refine testS_split (fun h => ?_) (fun h => ?_) | refine testD_split (fun h => ?_) (fun h => ?_)) <;> (try simp only [bne_iff_ne, ne_eq, beq_iff_eq, decide_eq_true_eq, decide_eq_false_iff_not, Bool.not_eq_true, Bool.not_eq_false, Bool.not_true, Bool.not_false, bne_eq_false_iff_eq, beq_eq_false_iff_ne, Bool.and_eq_true, Bool.or_eq_true, Bool.and_eq_false_imp, Bool.or_eq_false_iff, Bool.not_eq_true', Bool.not_eq_false', Int.not_lt, Int.not_le] at h) <;> (try (exfalso; omega))))
  exact hms
theorem rdec_p (x : Nat) (hx : x < 115792089237316195423570985008687907853269984665640564039457584007913129639936) : Pure Tryd.prog 40 [wE x] (.str (strL (txtL 10 x))) := by
  have c1 : Pure Tryd.prog 87 [wE x, .int .u64 10] (.str (strL (txtL 10 x))) := text_p 10 x (by omega) (by omega) hx
  generalize strL (txtL 10 x) = s at *
  refine pure_p (args := [wE x]) en40 (by simp [closed, closeds, closed_wE, closeds_ints]) Tryd.func40 rfl in40 (by simp [Tryd.f40]) (by simp [closeds, closed, closed_wE, closeds_ints]) (fun w => next_of 1000 ?_)
  simp (maxSteps := 4000000) (disch := omega) only [go_sem, Nat.reduceBEq, Nat.reduceAdd, Nat.reduceMul, Nat.reduceSub, Nat.reduceLT, Nat.reduceLeDiff, Int.reduceToNat, Int.reduceLT, Int.reduceLE, Int.reduceAdd, Int.reduceMul, Int.reduceSub, Int.reduceNeg, Int.reduceDiv, Int.reduceMod, Nat.reduceBNe, Nat.reduceGT, Int.reduceBEq, Int.reduceBNe, Int.reduceGT, Nat.reduceDiv, Nat.reduceMod, Nat.reducePow, Int.reducePow, gt_iff_lt, ge_iff_le, List.reduceReplicate, ↓reduceIte, Tryd.f40]
  repeat (with_reducible refine And.intro (by first | omega | assumption | (constructor <;> assumption) | (simp; done) | (simp; omega) | (simp [*]; done)) ?_)
  repeat' (first
    | with_reducible refine And.intro (by first | omega | assumption | (constructor <;> assumption) | (simp; done) | (simp; omega) | (simp [*]; done)) ?_
    | simp (maxSteps := 4000000) (disch := omega) only [go_sem, Nat.reduceBEq, Nat.reduceAdd, Nat.reduceMul, Nat.reduceSub, Nat.reduceLT, Nat.reduceLeDiff, Int.reduceToNat, Int.reduceLT, Int.reduceLE, Int.reduceAdd, Int.reduceMul, Int.reduceSub, Int.reduceNeg, Int.reduceDiv, Int.reduceMod, Nat.reduceBNe, Nat.reduceGT, Int.reduceBEq, Int.reduceBNe, Int.reduceGT, Nat.reduceDiv, Nat.reduceMod, Nat.reducePow, Int.reducePow, gt_iff_lt, ge_iff_le, List.reduceReplicate, ↓reduceIte]
    | with_reducible refine roundS (next_of 1000 ?_)
    | with_reducible refine drawS_of mixed (by kernel_rfl) (dg_of 1000 ?_)
    | with_reducible refine endD_of (by kernel_rfl) (next_of 1000 ?_)
    | refine callS_p (c1) (next_of 1000 ?_)
    | refine callD_p (c1) (dg_of 1000 ?_)
    | with_reducible refine next_of 1000 ?_
    | ((first | refine condS_split (fun h => ?_) (fun h => ?_) | refine testS_split (fun h => ?_) (fun h => ?_) | refine testD_split (fun h => ?_) (fun h => ?_)) <;> (try simp only [bne_iff_ne, ne_eq, beq_iff_eq, decide_eq_true_eq, decide_eq_false_iff_not, Bool.not_eq_true, Bool.not_eq_false, Bool.not_true, Bool.not_false, bne_eq_false_iff_eq, beq_eq_false_iff_ne, Bool.and_eq_true, Bool.or_eq_true, Bool.and_eq_false_imp, Bool.or_eq_false_iff, Bool.not_eq_true', Bool.not_eq_false', Int.not_lt, Int.not_le] at h) <;> (try (exfalso; omega))))
theorem value_p (c : Nat) (hc : c < 256) : Pure Tryd.prog 85 [.int .u8 (c : Nat)] (.int .u64 ((valD c : Nat) : Int)) := by
  have hv : ((valD c : Nat) : Int) = if (48 : Int) ≤ c ∧ (c : Int) ≤ 57 then (c : Int) - 48 else if (97 : Int) ≤ c ∧ (c : Int) ≤ 102 then (c : Int) - 87 else if (65 : Int) ≤ c ∧ (c : Int) ≤ 70 then (c : Int) - 55 else 16 := by
    unfold valD
    by_cases h1 : 48 ≤ c ∧ c ≤ 57
    · rw [if_pos h1, if_pos (by omega)]; omega
    · rw [if_neg h1, if_neg (show ¬((48 : Int) ≤ c ∧ (c : Int) ≤ 57) by omega)]
      by_cases h2 : 97 ≤ c ∧ c ≤ 102
      · rw [if_pos h2, if_pos (by omega)]; omega
      · rw [if_neg h2, if_neg (show ¬((97 : Int) ≤ c ∧ (c : Int) ≤ 102) by omega)]
        by_cases h3 : 65 ≤ c ∧ c ≤ 70
        · rw [if_pos h3, if_pos (by omega)]; omega
        · rw [if_neg h3, if_neg (show ¬((65 : Int) ≤ c ∧ (c : Int) ≤ 70) by omega)]; rfl
  rw [hv]
  clear hv
  refine pure_p (args := [.int .u8 (c : Nat)]) en85 (by simp [closed, closeds, closed_wE, closeds_ints]) Tryd.func85 rfl in85 (by simp [Tryd.f85]) (by simp [closeds, closed, closed_wE, closeds_ints]) (fun w => next_of 1000 ?_)
  simp (maxSteps := 4000000) (disch := omega) only [go_sem, Nat.reduceBEq, Nat.reduceAdd, Nat.reduceMul, Nat.reduceSub, Nat.reduceLT, Nat.reduceLeDiff, Int.reduceToNat, Int.reduceLT, Int.reduceLE, Int.reduceAdd, Int.reduceMul, Int.reduceSub, Int.reduceNeg, Int.reduceDiv, Int.reduceMod, Nat.reduceBNe, Nat.reduceGT, Int.reduceBEq, Int.reduceBNe, Int.reduceGT, Nat.reduceDiv, Nat.reduceMod, Nat.reducePow, Int.reducePow, gt_iff_lt, ge_iff_le, List.reduceReplicate, ↓reduceIte, Tryd.f85]
  repeat (with_reducible refine And.intro (by first | omega | assumption | (constructor <;> assumption) | (simp; done) | (simp; omega) | (simp [*]; done)) ?_)
  repeat' (first
    | with_reducible refine And.intro (by first | omega | assumption | (constructor <;> assumption) | (simp; done) | (simp; omega) | (simp [*]; done)) ?_
    | simp (maxSteps := 4000000) (disch := omega) only [go_sem, Nat.reduceBEq, Nat.reduceAdd, Nat.reduceMul, Nat.reduceSub, Nat.reduceLT, Nat.reduceLeDiff, Int.reduceToNat, Int.reduceLT, Int.reduceLE, Int.reduceAdd, Int.reduceMul, Int.reduceSub, Int.reduceNeg, Int.reduceDiv, Int.reduceMod, Nat.reduceBNe, Nat.reduceGT, Int.reduceBEq, Int.reduceBNe, Int.reduceGT, Nat.reduceDiv, Nat.reduceMod, Nat.reducePow, Int.reducePow, gt_iff_lt, ge_iff_le, List.reduceReplicate, ↓reduceIte]
    | with_reducible refine roundS (next_of 1000 ?_)
    | with_reducible refine drawS_of mixed (by kernel_rfl) (dg_of 1000 ?_)
    | with_reducible refine endD_of (by kernel_rfl) (next_of 1000 ?_)
    | with_reducible refine next_of 1000 ?_
    | ((first | refine condS_split (fun h => ?_) (fun h => ?_) | refine testS_split (fun h => ?_) (fun h => ?_) | refine testD_split (fun h => ?_) (fun h => ?_)) <;> (try simp only [bne_iff_ne, ne_eq, beq_iff_eq, decide_eq_true_eq, decide_eq_false_iff_not, Bool.not_eq_true, Bool.not_eq_false, Bool.not_true, Bool.not_false, bne_eq_false_iff_eq, beq_eq_false_iff_ne, Bool.and_eq_true, Bool.or_eq_true, Bool.and_eq_false_imp, Bool.or_eq_false_iff, Bool.not_eq_true', Bool.not_eq_false', Int.not_lt, Int.not_le] at h) <;> (try (exfalso; omega))))
  all_goals first | (rw [if_pos (by omega)]; first | done | (congr 1; omega)) | (rw [if_neg (by omega), if_pos (by omega)]; first | done | (congr 1; omega)) | (rw [if_neg (by omega), if_neg (by omega), if_pos (by omega)]; first | done | (congr 1; omega)) | (rw [if_neg (by omega), if_neg (by omega), if_neg (by omega)])
theorem valD_lt (c : Nat) : valD c ≤ 16 := by unfold valD; split <;> (try split) <;> (try split) <;> omega
theorem drop_valD {l : List UInt8} {i : Nat} (h : i < l.length) : (l.map fun c => valD c.toNat).drop i = valD (l.getD i 0).toNat :: (l.map fun c => valD c.toNat).drop (i + 1) := by
  rw [List.drop_eq_getElem_cons (by rw [List.length_map]; exact h)]
  rw [List.getElem_map, List.getD_eq_getElem?_getD, List.getElem?_eq_getElem h]; rfl
theorem dig8 {n : Nat} (h : n < 115792089237316195423570985008687907853269984665640564039457584007913129639936 * 17) : dig 4294967296 n 8 = 0 ↔ n < 115792089237316195423570985008687907853269984665640564039457584007913129639936 := by
  have e : (4294967296 : Nat) ^ 8 = 115792089237316195423570985008687907853269984665640564039457584007913129639936 := by decide
  unfold dig
  constructor
  · intro h0
    have h1 : n / 4294967296 ^ 8 % 4294967296 = 0 := by omega
    rw [e] at h1
    rw [Nat.mod_eq_of_lt (Nat.lt_of_lt_of_le (Nat.div_lt_of_lt_mul h) (by decide))] at h1
    exact (Nat.div_eq_zero_iff_lt (by decide)).1 h1
  · intro h0
    rw [e, Nat.div_eq_of_lt h0]; rfl
theorem hp_iff (l : List UInt8) : Lib.hasPrefix l [48, 120] = true ↔ 2 ≤ l.length ∧ l.getD 0 0 = 48 ∧ l.getD 1 0 = 120 := by
  match l with
  | [] => simp [Lib.hasPrefix]
  | [a] => simp [Lib.hasPrefix]
  | a :: b :: r => simp [Lib.hasPrefix, List.isPrefixOf]; constructor <;> (rintro ⟨h1, h2⟩; exact ⟨h1.symm, h2.symm⟩)
theorem ext2 (s : ByteArray) : (s.extract 2 s.size).data.toList = s.data.toList.drop 2 := by
  rw [ByteArray.data_extract, Array.toList_extract]
  have : s.size = s.data.toList.length := by rw [Array.length_toList]; rfl
  show (s.data.toList.drop 2).take (s.size - 2) = _
  exact List.take_of_length_le (by rw [List.length_drop]; omega)
theorem rparse_p (s : ByteArray) (hs : s.size ≤ 9223372036854775807) : Pure Tryd.prog 36 [.str s] (parseE s.data.toList) := by
  have hsz : s.data.toList.length = s.size := by rw [Array.length_toList]; rfl
  have hpi := hp_iff s.data.toList
  have h48 : ∀ c : UInt8, ((c.toNat : Nat) : Int) = 48 ↔ c = 48 := fun c => ⟨fun h => UInt8.toNat_inj.1 (by show _ = 48; omega), fun h => by subst h; rfl⟩
  have h120 : ∀ c : UInt8, ((c.toNat : Nat) : Int) = 120 ↔ c = 120 := fun c => ⟨fun h => UInt8.toNat_inj.1 (by show _ = 120; omega), fun h => by subst h; rfl⟩
  have hcl := parseE_cl s.data.toList
  unfold parseE at hcl ⊢
  rw [hsz] at hcl hpi ⊢
  have ht0 : ∀ t : ByteArray, t.data.toList.length = t.size := fun t => by rw [Array.length_toList]; rfl
  by_cases h80 : 80 < s.size
  · rw [if_pos h80]
    refine pure_p (args := [.str s]) en36 (by simp [closed, closeds, closed_wE, closeds_ints]) Tryd.func36 rfl in36 (by simp [Tryd.f36]) (by simp [closeds, closed, closed_wE, closeds_ints]) (fun w => next_of 1000 ?_)
    simp (maxSteps := 4000000) (disch := omega) only [go_sem, Nat.reduceBEq, Nat.reduceAdd, Nat.reduceMul, Nat.reduceSub, Nat.reduceLT, Nat.reduceLeDiff, Int.reduceToNat, Int.reduceLT, Int.reduceLE, Int.reduceAdd, Int.reduceMul, Int.reduceSub, Int.reduceNeg, Int.reduceDiv, Int.reduceMod, Nat.reduceBNe, Nat.reduceGT, Int.reduceBEq, Int.reduceBNe, Int.reduceGT, Nat.reduceDiv, Nat.reduceMod, Nat.reducePow, Int.reducePow, gt_iff_lt, ge_iff_le, List.reduceReplicate, ↓reduceIte, Tryd.f36]
    repeat (with_reducible refine And.intro (by first | omega | assumption | (constructor <;> assumption) | (simp; done) | (simp; omega) | (simp [*]; done)) ?_)
    repeat' (first
      | with_reducible refine And.intro (by first | omega | assumption | (constructor <;> assumption) | (simp; done) | (simp; omega) | (simp [*]; done)) ?_
      | simp (maxSteps := 4000000) (disch := omega) only [go_sem, Nat.reduceBEq, Nat.reduceAdd, Nat.reduceMul, Nat.reduceSub, Nat.reduceLT, Nat.reduceLeDiff, Int.reduceToNat, Int.reduceLT, Int.reduceLE, Int.reduceAdd, Int.reduceMul, Int.reduceSub, Int.reduceNeg, Int.reduceDiv, Int.reduceMod, Nat.reduceBNe, Nat.reduceGT, Int.reduceBEq, Int.reduceBNe, Int.reduceGT, Nat.reduceDiv, Nat.reduceMod, Nat.reducePow, Int.reducePow, gt_iff_lt, ge_iff_le, List.reduceReplicate, ↓reduceIte]
      | with_reducible refine roundS (next_of 1000 ?_)
      | with_reducible refine drawS_of mixed (by kernel_rfl) (dg_of 1000 ?_)
      | with_reducible refine endD_of (by kernel_rfl) (next_of 1000 ?_)
      | with_reducible refine next_of 1000 ?_
      | ((first | refine condS_split (fun h => ?_) (fun h => ?_) | refine testS_split (fun h => ?_) (fun h => ?_) | refine testD_split (fun h => ?_) (fun h => ?_)) <;> (try simp only [bne_iff_ne, ne_eq, beq_iff_eq, decide_eq_true_eq, decide_eq_false_iff_not, Bool.not_eq_true, Bool.not_eq_false, Bool.not_true, Bool.not_false, bne_eq_false_iff_eq, beq_eq_false_iff_ne, Bool.and_eq_true, Bool.or_eq_true, Bool.and_eq_false_imp, Bool.or_eq_false_iff, Bool.not_eq_true', Bool.not_eq_false', Int.not_lt, Int.not_le] at h) <;> (try (exfalso; omega))))
    rfl
  · rw [if_neg h80] at hcl ⊢
    by_cases hp : Lib.hasPrefix s.data.toList [48, 120] = true
    · rw [if_pos hp] at hcl ⊢
      obtain ⟨p1, p2, p3⟩ := hpi.1 hp
      obtain ⟨t, ht⟩ : ∃ t, t = s.extract 2 s.size := ⟨_, rfl⟩
      have htz := ht0 t
      have htl : t.data.toList = s.data.toList.drop 2 := by rw [ht]; exact ext2 s
      have hts : t.size = s.size - 2 := by rw [← ht0 t, htl, List.length_drop, hsz]
      rw [← htl] at hcl ⊢
      have q1 : ((s.data.toList.getD 0 0).toNat : Int) = 48 := (h48 _).2 p2
      have q2 : ((s.data.toList.getD 1 0).toNat : Int) = 120 := (h120 _).2 p3
      have p11 : (2 : Int) ≤ (s.size : Nat) := by omega
      generalize hR : readD 16 64 (t.data.toList.map fun c => valD c.toNat) = R at *
      unfold readD at hR
      rw [List.length_map, ht0 t] at hR
      refine pure_p (args := [.str s]) en36 hcl Tryd.func36 rfl in36 (by simp [Tryd.f36]) (by simp [closeds, closed]) (fun w => next_of 1000 ?_)
      simp (maxSteps := 4000000) (disch := omega) only [go_sem, Nat.reduceBEq, Nat.reduceAdd, Nat.reduceMul, Nat.reduceSub, Nat.reduceLT, Nat.reduceLeDiff, Int.reduceToNat, Int.reduceLT, Int.reduceLE, Int.reduceAdd, Int.reduceMul, Int.reduceSub, Int.reduceNeg, Int.reduceDiv, Int.reduceMod, Nat.reduceBNe, Nat.reduceGT, Int.reduceBEq, Int.reduceBNe, Int.reduceGT, Nat.reduceDiv, Nat.reduceMod, Nat.reducePow, Int.reducePow, gt_iff_lt, ge_iff_le, List.reduceReplicate, ↓reduceIte, Tryd.f36, q1, q2, p11, ← ht]
      repeat (with_reducible refine And.intro (by first | omega | assumption | (constructor <;> assumption) | (simp; done) | (simp; omega) | (simp [*]; done)) ?_)
      repeat' (first
        | with_reducible refine And.intro (by first | omega | assumption | (constructor <;> assumption) | (simp; done) | (simp; omega) | (simp [*]; done)) ?_
        | simp (maxSteps := 4000000) (disch := omega) only [go_sem, Nat.reduceBEq, Nat.reduceAdd, Nat.reduceMul, Nat.reduceSub, Nat.reduceLT, Nat.reduceLeDiff, Int.reduceToNat, Int.reduceLT, Int.reduceLE, Int.reduceAdd, Int.reduceMul, Int.reduceSub, Int.reduceNeg, Int.reduceDiv, Int.reduceMod, Nat.reduceBNe, Nat.reduceGT, Int.reduceBEq, Int.reduceBNe, Int.reduceGT, Nat.reduceDiv, Nat.reduceMod, Nat.reducePow, Int.reducePow, gt_iff_lt, ge_iff_le, List.reduceReplicate, ↓reduceIte, q1, q2, p11, ← ht]
        | with_reducible refine roundS (next_of 1000 ?_)
        | with_reducible refine drawS_of mixed (by kernel_rfl) (dg_of 1000 ?_)
        | with_reducible refine endD_of (by kernel_rfl) (next_of 1000 ?_)
        | with_reducible refine next_of 1000 ?_
        | ((first | refine condS_split (fun h => ?_) (fun h => ?_) | refine testS_split (fun h => ?_) (fun h => ?_) | refine testD_split (fun h => ?_) (fun h => ?_)) <;> (try simp only [bne_iff_ne, ne_eq, beq_iff_eq, decide_eq_true_eq, decide_eq_false_iff_not, Bool.not_eq_true, Bool.not_eq_false, Bool.not_true, Bool.not_false, bne_eq_false_iff_eq, beq_eq_false_iff_ne, Bool.and_eq_true, Bool.or_eq_true, Bool.and_eq_false_imp, Bool.or_eq_false_iff, Bool.not_eq_true', Bool.not_eq_false', Int.not_lt, Int.not_le] at h) <;> (try (exfalso; omega))))
      · rw [if_pos (by omega)] at hR
        rw [← hR]; rfl
      · rw [if_neg (by omega)] at hR
        refine loopU (S := Nat × Nat) (fun q => q.1 ≤ t.size ∧ q.2 < 115792089237316195423570985008687907853269984665640564039457584007913129639936 ∧ runD 16 ((t.data.toList.map fun c => valD c.toNat).drop q.1) q.2 = R)
          (fun q => ⟨[(7, .int .i64 (q.1 : Nat)), (6, .ptr 1 0), (4, .int .u64 16), (3, .int .i64 0), (2, .ptr 0 0), (0, .str t)], 2,
            [(1, some (.cells (wC q.2) 23 (0, 0))), (0, some (.cells (wC 0) 23 (0, 0)))], base w, []⟩)
          (fun q => t.size - q.1) (0, 0) ⟨by omega, by decide, by simpa using hR⟩ (Weak.sub (weak_of (by simp [wσ, go_sem, closed, closeds, z4w]) (by simp [whs, go_sem, EObj.closed, closed, closeds, z4w]) (by simp [*]) rfl rfl (by simp))) ?_
        rintro ⟨i, x⟩ ⟨hi, hx, hr⟩
        simp only at hi hx hr
        refine next_of 1000 ?_
        simp (maxSteps := 4000000) (disch := omega) only [go_sem, Nat.reduceBEq, Nat.reduceAdd, Nat.reduceMul, Nat.reduceSub, Nat.reduceLT, Nat.reduceLeDiff, Int.reduceToNat, Int.reduceLT, Int.reduceLE, Int.reduceAdd, Int.reduceMul, Int.reduceSub, Int.reduceNeg, Int.reduceDiv, Int.reduceMod, Nat.reduceBNe, Nat.reduceGT, Int.reduceBEq, Int.reduceBNe, Int.reduceGT, Nat.reduceDiv, Nat.reduceMod, Nat.reducePow, Int.reducePow, gt_iff_lt, ge_iff_le, List.reduceReplicate, ↓reduceIte]
        repeat (with_reducible refine And.intro (by first | omega | assumption | (constructor <;> assumption) | (simp; done) | (simp; omega) | (simp [*]; done)) ?_)
        refine condS_split (fun h => ?_) (fun h => ?_)
        all_goals (try simp only [bne_iff_ne, ne_eq, beq_iff_eq, decide_eq_true_eq, decide_eq_false_iff_not, Bool.not_eq_true, Bool.not_eq_false, Bool.not_true, Bool.not_false, bne_eq_false_iff_eq, beq_eq_false_iff_ne, Bool.and_eq_true, Bool.or_eq_true, Bool.and_eq_false_imp, Bool.or_eq_false_iff, Bool.not_eq_true', Bool.not_eq_false', Int.not_lt, Int.not_le] at h)
        · have hil : i < t.size := by omega
          rw [drop_valD (by omega), runD] at hr
          have hvl := valD_lt (t.data.toList.getD i 0).toNat
          have hcl := (t.data.toList.getD i 0).toNat_lt
          have c1 := value_p (t.data.toList.getD i 0).toNat (by omega)
          generalize hc : t.data.toList.getD i 0 = c at *
          generalize hv : valD c.toNat = v at *
          have hxb : x * 16 + v < 115792089237316195423570985008687907853269984665640564039457584007913129639936 * 17 := by omega
          have hd8 := dig8 hxb
          have c2 := rof_p 16 (by decide)
          have c3 := times_p x 16 hx (by decide)
          have c4 := rof_p v (by omega)
          have c5 := fromword_p v (by omega)
          have c6 := plus_p (x * 16) v
          have c7 := toword_p (x * 16 + v)
          unfold lE at c3 c5 c6 c7
          by_cases hvb : v < 16
          · simp only [hvb, true_and] at hr
            by_cases hov : x * 16 + v < 115792089237316195423570985008687907853269984665640564039457584007913129639936
            · rw [if_pos hov] at hr
              rw [Nat.mod_eq_of_lt hov] at c7
              have h80 : dig 4294967296 (x * 16 + v) 8 = 0 := hd8.2 hov
              repeat' (first
                | with_reducible refine And.intro (by first | omega | assumption | (constructor <;> assumption) | (simp; done) | (simp; omega) | (simp [*]; done)) ?_
                | simp (maxSteps := 4000000) (disch := omega) only [go_sem, Nat.reduceBEq, Nat.reduceAdd, Nat.reduceMul, Nat.reduceSub, Nat.reduceLT, Nat.reduceLeDiff, Int.reduceToNat, Int.reduceLT, Int.reduceLE, Int.reduceAdd, Int.reduceMul, Int.reduceSub, Int.reduceNeg, Int.reduceDiv, Int.reduceMod, Nat.reduceBNe, Nat.reduceGT, Int.reduceBEq, Int.reduceBNe, Int.reduceGT, Nat.reduceDiv, Nat.reduceMod, Nat.reducePow, Int.reducePow, gt_iff_lt, ge_iff_le, List.reduceReplicate, ↓reduceIte, hc, Int.toNat_natCast, h80]
                | with_reducible refine roundS (next_of 1000 ?_)
                | with_reducible refine drawS_of mixed (by kernel_rfl) (dg_of 1000 ?_)
                | with_reducible refine endD_of (by kernel_rfl) (next_of 1000 ?_)
                | refine callS_p (c1) (next_of 1000 ?_)
                | refine callD_p (c1) (dg_of 1000 ?_)
                | refine callS_p (c2) (next_of 1000 ?_)
                | refine callD_p (c2) (dg_of 1000 ?_)
                | refine callS_p (c3) (next_of 1000 ?_)
                | refine callD_p (c3) (dg_of 1000 ?_)
                | refine callS_p (c4) (next_of 1000 ?_)
                | refine callD_p (c4) (dg_of 1000 ?_)
                | refine callS_p (c5) (next_of 1000 ?_)
                | refine callD_p (c5) (dg_of 1000 ?_)
                | refine callS_p (c6) (next_of 1000 ?_)
                | refine callD_p (c6) (dg_of 1000 ?_)
                | refine callS_p (c7) (next_of 1000 ?_)
                | refine callD_p (c7) (dg_of 1000 ?_)
                | with_reducible refine next_of 1000 ?_
                | ((first | refine condS_split (fun h => ?_) (fun h => ?_) | refine testS_split (fun h => ?_) (fun h => ?_) | refine testD_split (fun h => ?_) (fun h => ?_)) <;> (try simp only [bne_iff_ne, ne_eq, beq_iff_eq, decide_eq_true_eq, decide_eq_false_iff_not, Bool.not_eq_true, Bool.not_eq_false, Bool.not_true, Bool.not_false, bne_eq_false_iff_eq, beq_eq_false_iff_ne, Bool.and_eq_true, Bool.or_eq_true, Bool.and_eq_false_imp, Bool.or_eq_false_iff, Bool.not_eq_true', Bool.not_eq_false', Int.not_lt, Int.not_le] at h) <;> (try (exfalso; omega))))
              exact ⟨(i + 1, x * 16 + v), ⟨by show i + 1 ≤ t.size; omega, hov, hr⟩, Weak.sub (weak_of (by simp [wσ, go_sem, closed, closeds]) (by simp [whs, go_sem, EObj.closed, closed, closeds]) (by simp [*]) rfl rfl (by simp)), by show t.size - (i + 1) < t.size - i; omega⟩
            · rw [if_neg hov] at hr
              have h80 : ¬ dig 4294967296 (x * 16 + v) 8 = 0 := fun h => hov (hd8.1 h)
              repeat' (first
                | with_reducible refine And.intro (by first | omega | assumption | (constructor <;> assumption) | (simp; done) | (simp; omega) | (simp [*]; done)) ?_
                | simp (maxSteps := 4000000) (disch := omega) only [go_sem, Nat.reduceBEq, Nat.reduceAdd, Nat.reduceMul, Nat.reduceSub, Nat.reduceLT, Nat.reduceLeDiff, Int.reduceToNat, Int.reduceLT, Int.reduceLE, Int.reduceAdd, Int.reduceMul, Int.reduceSub, Int.reduceNeg, Int.reduceDiv, Int.reduceMod, Nat.reduceBNe, Nat.reduceGT, Int.reduceBEq, Int.reduceBNe, Int.reduceGT, Nat.reduceDiv, Nat.reduceMod, Nat.reducePow, Int.reducePow, gt_iff_lt, ge_iff_le, List.reduceReplicate, ↓reduceIte, hc, Int.toNat_natCast]
                | with_reducible refine roundS (next_of 1000 ?_)
                | with_reducible refine drawS_of mixed (by kernel_rfl) (dg_of 1000 ?_)
                | with_reducible refine endD_of (by kernel_rfl) (next_of 1000 ?_)
                | refine callS_p (c1) (next_of 1000 ?_)
                | refine callD_p (c1) (dg_of 1000 ?_)
                | refine callS_p (c2) (next_of 1000 ?_)
                | refine callD_p (c2) (dg_of 1000 ?_)
                | refine callS_p (c3) (next_of 1000 ?_)
                | refine callD_p (c3) (dg_of 1000 ?_)
                | refine callS_p (c4) (next_of 1000 ?_)
                | refine callD_p (c4) (dg_of 1000 ?_)
                | refine callS_p (c5) (next_of 1000 ?_)
                | refine callD_p (c5) (dg_of 1000 ?_)
                | refine callS_p (c6) (next_of 1000 ?_)
                | refine callD_p (c6) (dg_of 1000 ?_)
                | refine callS_p (c7) (next_of 1000 ?_)
                | refine callD_p (c7) (dg_of 1000 ?_)
                | with_reducible refine next_of 1000 ?_
                | ((first | refine condS_split (fun h => ?_) (fun h => ?_) | refine testS_split (fun h => ?_) (fun h => ?_) | refine testD_split (fun h => ?_) (fun h => ?_)) <;> (try simp only [bne_iff_ne, ne_eq, beq_iff_eq, decide_eq_true_eq, decide_eq_false_iff_not, Bool.not_eq_true, Bool.not_eq_false, Bool.not_true, Bool.not_false, bne_eq_false_iff_eq, beq_eq_false_iff_ne, Bool.and_eq_true, Bool.or_eq_true, Bool.and_eq_false_imp, Bool.or_eq_false_iff, Bool.not_eq_true', Bool.not_eq_false', Int.not_lt, Int.not_le] at h) <;> (try (exfalso; omega))))
              rw [← hr]; rfl
          · rw [if_neg (by omega)] at hr
            repeat' (first
              | with_reducible refine And.intro (by first | omega | assumption | (constructor <;> assumption) | (simp; done) | (simp; omega) | (simp [*]; done)) ?_
              | simp (maxSteps := 4000000) (disch := omega) only [go_sem, Nat.reduceBEq, Nat.reduceAdd, Nat.reduceMul, Nat.reduceSub, Nat.reduceLT, Nat.reduceLeDiff, Int.reduceToNat, Int.reduceLT, Int.reduceLE, Int.reduceAdd, Int.reduceMul, Int.reduceSub, Int.reduceNeg, Int.reduceDiv, Int.reduceMod, Nat.reduceBNe, Nat.reduceGT, Int.reduceBEq, Int.reduceBNe, Int.reduceGT, Nat.reduceDiv, Nat.reduceMod, Nat.reducePow, Int.reducePow, gt_iff_lt, ge_iff_le, List.reduceReplicate, ↓reduceIte, hc, Int.toNat_natCast]
              | with_reducible refine roundS (next_of 1000 ?_)
              | with_reducible refine drawS_of mixed (by kernel_rfl) (dg_of 1000 ?_)
              | with_reducible refine endD_of (by kernel_rfl) (next_of 1000 ?_)
              | refine callS_p (c1) (next_of 1000 ?_)
              | refine callD_p (c1) (dg_of 1000 ?_)
              | refine callS_p (c2) (next_of 1000 ?_)
              | refine callD_p (c2) (dg_of 1000 ?_)
              | refine callS_p (c3) (next_of 1000 ?_)
              | refine callD_p (c3) (dg_of 1000 ?_)
              | refine callS_p (c4) (next_of 1000 ?_)
              | refine callD_p (c4) (dg_of 1000 ?_)
              | refine callS_p (c5) (next_of 1000 ?_)
              | refine callD_p (c5) (dg_of 1000 ?_)
              | refine callS_p (c6) (next_of 1000 ?_)
              | refine callD_p (c6) (dg_of 1000 ?_)
              | refine callS_p (c7) (next_of 1000 ?_)
              | refine callD_p (c7) (dg_of 1000 ?_)
              | with_reducible refine next_of 1000 ?_
              | ((first | refine condS_split (fun h => ?_) (fun h => ?_) | refine testS_split (fun h => ?_) (fun h => ?_) | refine testD_split (fun h => ?_) (fun h => ?_)) <;> (try simp only [bne_iff_ne, ne_eq, beq_iff_eq, decide_eq_true_eq, decide_eq_false_iff_not, Bool.not_eq_true, Bool.not_eq_false, Bool.not_true, Bool.not_false, bne_eq_false_iff_eq, beq_eq_false_iff_ne, Bool.and_eq_true, Bool.or_eq_true, Bool.and_eq_false_imp, Bool.or_eq_false_iff, Bool.not_eq_true', Bool.not_eq_false', Int.not_lt, Int.not_le] at h) <;> (try (exfalso; omega))))
            rw [← hr]; rfl
        · have hi' : i = t.size := by omega
          subst hi'
          rw [List.drop_eq_nil_of_le (by rw [List.length_map, ht0 t]; omega)] at hr
          simp (maxSteps := 4000000) (disch := omega) only [go_sem, Nat.reduceBEq, Nat.reduceAdd, Nat.reduceMul, Nat.reduceSub, Nat.reduceLT, Nat.reduceLeDiff, Int.reduceToNat, Int.reduceLT, Int.reduceLE, Int.reduceAdd, Int.reduceMul, Int.reduceSub, Int.reduceNeg, Int.reduceDiv, Int.reduceMod, Nat.reduceBNe, Nat.reduceGT, Int.reduceBEq, Int.reduceBNe, Int.reduceGT, Nat.reduceDiv, Nat.reduceMod, Nat.reducePow, Int.reducePow, gt_iff_lt, ge_iff_le, List.reduceReplicate, ↓reduceIte]
          repeat (with_reducible refine And.intro (by first | omega | assumption | (constructor <;> assumption) | (simp; done) | (simp; omega) | (simp [*]; done)) ?_)
          repeat' (first
            | with_reducible refine And.intro (by first | omega | assumption | (constructor <;> assumption) | (simp; done) | (simp; omega) | (simp [*]; done)) ?_
            | simp (maxSteps := 4000000) (disch := omega) only [go_sem, Nat.reduceBEq, Nat.reduceAdd, Nat.reduceMul, Nat.reduceSub, Nat.reduceLT, Nat.reduceLeDiff, Int.reduceToNat, Int.reduceLT, Int.reduceLE, Int.reduceAdd, Int.reduceMul, Int.reduceSub, Int.reduceNeg, Int.reduceDiv, Int.reduceMod, Nat.reduceBNe, Nat.reduceGT, Int.reduceBEq, Int.reduceBNe, Int.reduceGT, Nat.reduceDiv, Nat.reduceMod, Nat.reducePow, Int.reducePow, gt_iff_lt, ge_iff_le, List.reduceReplicate, ↓reduceIte]
            | with_reducible refine roundS (next_of 1000 ?_)
            | with_reducible refine drawS_of mixed (by kernel_rfl) (dg_of 1000 ?_)
            | with_reducible refine endD_of (by kernel_rfl) (next_of 1000 ?_)
            | with_reducible refine next_of 1000 ?_
            | ((first | refine condS_split (fun h => ?_) (fun h => ?_) | refine testS_split (fun h => ?_) (fun h => ?_) | refine testD_split (fun h => ?_) (fun h => ?_)) <;> (try simp only [bne_iff_ne, ne_eq, beq_iff_eq, decide_eq_true_eq, decide_eq_false_iff_not, Bool.not_eq_true, Bool.not_eq_false, Bool.not_true, Bool.not_false, bne_eq_false_iff_eq, beq_eq_false_iff_ne, Bool.and_eq_true, Bool.or_eq_true, Bool.and_eq_false_imp, Bool.or_eq_false_iff, Bool.not_eq_true', Bool.not_eq_false', Int.not_lt, Int.not_le] at h) <;> (try (exfalso; omega))))
          rw [runD] at hr
          rw [← hr]; rfl
      · rw [if_pos (by omega)] at hR
        rw [← hR]; rfl
    · rw [if_neg hp] at hcl ⊢
      by_cases h1 : 1 < s.size ∧ s.data.toList.getD 0 0 = 48
      · rw [if_pos h1] at hcl ⊢
        have q1 : ((s.data.toList.getD 0 0).toNat : Int) = 48 := (h48 _).2 h1.2
        have p11 : (2 : Int) ≤ (s.size : Nat) := by omega
        have p12 : (1 : Int) < (s.size : Nat) := by omega
        have q2 : ¬ ((s.data.toList.getD 1 0).toNat : Int) = 120 := fun h => hp (hpi.2 ⟨by omega, h1.2, (h120 _).1 h⟩)
        refine pure_p (args := [.str s]) en36 hcl Tryd.func36 rfl in36 (by simp [Tryd.f36]) (by simp [closeds, closed]) (fun w => next_of 1000 ?_)
        simp (maxSteps := 4000000) (disch := omega) only [go_sem, Nat.reduceBEq, Nat.reduceAdd, Nat.reduceMul, Nat.reduceSub, Nat.reduceLT, Nat.reduceLeDiff, Int.reduceToNat, Int.reduceLT, Int.reduceLE, Int.reduceAdd, Int.reduceMul, Int.reduceSub, Int.reduceNeg, Int.reduceDiv, Int.reduceMod, Nat.reduceBNe, Nat.reduceGT, Int.reduceBEq, Int.reduceBNe, Int.reduceGT, Nat.reduceDiv, Nat.reduceMod, Nat.reducePow, Int.reducePow, gt_iff_lt, ge_iff_le, List.reduceReplicate, ↓reduceIte, Tryd.f36, q1, p11, p12]
        repeat (with_reducible refine And.intro (by first | omega | assumption | (constructor <;> assumption) | (simp; done) | (simp; omega) | (simp [*]; done)) ?_)
        repeat' (first
          | with_reducible refine And.intro (by first | omega | assumption | (constructor <;> assumption) | (simp; done) | (simp; omega) | (simp [*]; done)) ?_
          | simp (maxSteps := 4000000) (disch := omega) only [go_sem, Nat.reduceBEq, Nat.reduceAdd, Nat.reduceMul, Nat.reduceSub, Nat.reduceLT, Nat.reduceLeDiff, Int.reduceToNat, Int.reduceLT, Int.reduceLE, Int.reduceAdd, Int.reduceMul, Int.reduceSub, Int.reduceNeg, Int.reduceDiv, Int.reduceMod, Nat.reduceBNe, Nat.reduceGT, Int.reduceBEq, Int.reduceBNe, Int.reduceGT, Nat.reduceDiv, Nat.reduceMod, Nat.reducePow, Int.reducePow, gt_iff_lt, ge_iff_le, List.reduceReplicate, ↓reduceIte, q1, p11, p12]
          | with_reducible refine roundS (next_of 1000 ?_)
          | with_reducible refine drawS_of mixed (by kernel_rfl) (dg_of 1000 ?_)
          | with_reducible refine endD_of (by kernel_rfl) (next_of 1000 ?_)
          | with_reducible refine next_of 1000 ?_
          | ((first | refine condS_split (fun h => ?_) (fun h => ?_) | refine testS_split (fun h => ?_) (fun h => ?_) | refine testD_split (fun h => ?_) (fun h => ?_)) <;> (try simp only [bne_iff_ne, ne_eq, beq_iff_eq, decide_eq_true_eq, decide_eq_false_iff_not, Bool.not_eq_true, Bool.not_eq_false, Bool.not_true, Bool.not_false, bne_eq_false_iff_eq, beq_eq_false_iff_ne, Bool.and_eq_true, Bool.or_eq_true, Bool.and_eq_false_imp, Bool.or_eq_false_iff, Bool.not_eq_true', Bool.not_eq_false', Int.not_lt, Int.not_le] at h) <;> (try (exfalso; omega))))
        all_goals first | (exfalso; omega) | rfl
      · rw [if_neg h1] at hcl ⊢
        generalize hR : readD 10 78 (s.data.toList.map fun c => valD c.toNat) = R at *
        unfold readD at hR
        rw [List.length_map, hsz] at hR
        by_cases h2 : 2 ≤ s.size
        · have hne : ¬ ((s.data.toList.getD 0 0).toNat : Int) = 48 := fun h => h1 ⟨by omega, (h48 _).1 h⟩
          have q1 : (((s.data.toList.getD 0 0).toNat : Int) == 48) = false := by simp only [beq_eq_false_iff_ne, ne_eq]; exact hne
          have p11 : (2 : Int) ≤ (s.size : Nat) := by omega
          have p12 : (1 : Int) < (s.size : Nat) := by omega
          refine pure_p (args := [.str s]) en36 hcl Tryd.func36 rfl in36 (by simp [Tryd.f36]) (by simp [closeds, closed]) (fun w => next_of 1000 ?_)
          simp (maxSteps := 4000000) (disch := omega) only [go_sem, Nat.reduceBEq, Nat.reduceAdd, Nat.reduceMul, Nat.reduceSub, Nat.reduceLT, Nat.reduceLeDiff, Int.reduceToNat, Int.reduceLT, Int.reduceLE, Int.reduceAdd, Int.reduceMul, Int.reduceSub, Int.reduceNeg, Int.reduceDiv, Int.reduceMod, Nat.reduceBNe, Nat.reduceGT, Int.reduceBEq, Int.reduceBNe, Int.reduceGT, Nat.reduceDiv, Nat.reduceMod, Nat.reducePow, Int.reducePow, gt_iff_lt, ge_iff_le, List.reduceReplicate, ↓reduceIte, Tryd.f36, q1, p11, p12]
          repeat (with_reducible refine And.intro (by first | omega | assumption | (constructor <;> assumption) | (simp; done) | (simp; omega) | (simp [*]; done)) ?_)
          repeat' (first
            | with_reducible refine And.intro (by first | omega | assumption | (constructor <;> assumption) | (simp; done) | (simp; omega) | (simp [*]; done)) ?_
            | simp (maxSteps := 4000000) (disch := omega) only [go_sem, Nat.reduceBEq, Nat.reduceAdd, Nat.reduceMul, Nat.reduceSub, Nat.reduceLT, Nat.reduceLeDiff, Int.reduceToNat, Int.reduceLT, Int.reduceLE, Int.reduceAdd, Int.reduceMul, Int.reduceSub, Int.reduceNeg, Int.reduceDiv, Int.reduceMod, Nat.reduceBNe, Nat.reduceGT, Int.reduceBEq, Int.reduceBNe, Int.reduceGT, Nat.reduceDiv, Nat.reduceMod, Nat.reducePow, Int.reducePow, gt_iff_lt, ge_iff_le, List.reduceReplicate, ↓reduceIte, q1, p11, p12]
            | with_reducible refine roundS (next_of 1000 ?_)
            | with_reducible refine drawS_of mixed (by kernel_rfl) (dg_of 1000 ?_)
            | with_reducible refine endD_of (by kernel_rfl) (next_of 1000 ?_)
            | with_reducible refine next_of 1000 ?_
            | ((first | refine condS_split (fun h => ?_) (fun h => ?_) | refine testS_split (fun h => ?_) (fun h => ?_) | refine testD_split (fun h => ?_) (fun h => ?_)) <;> (try simp only [bne_iff_ne, ne_eq, beq_iff_eq, decide_eq_true_eq, decide_eq_false_iff_not, Bool.not_eq_true, Bool.not_eq_false, Bool.not_true, Bool.not_false, bne_eq_false_iff_eq, beq_eq_false_iff_ne, Bool.and_eq_true, Bool.or_eq_true, Bool.and_eq_false_imp, Bool.or_eq_false_iff, Bool.not_eq_true', Bool.not_eq_false', Int.not_lt, Int.not_le] at h) <;> (try (exfalso; omega))))
          all_goals first | (rw [if_pos (by omega)] at hR; rw [← hR]; rfl) | skip
          rw [if_neg (by omega)] at hR
          refine loopU (S := Nat × Nat) (fun q => q.1 ≤ s.size ∧ q.2 < 115792089237316195423570985008687907853269984665640564039457584007913129639936 ∧ runD 10 ((s.data.toList.map fun c => valD c.toNat).drop q.1) q.2 = R)
            (fun q => ⟨[(7, .int .i64 (q.1 : Nat)), (6, .ptr 1 0), (4, .int .u64 10), (3, .int .i64 0), (2, .ptr 0 0), (0, .str s)], 2,
              [(1, some (.cells (wC q.2) 23 (0, 0))), (0, some (.cells (wC 0) 23 (0, 0)))], base w, []⟩)
            (fun q => s.size - q.1) (0, 0) ⟨by omega, by decide, by simpa using hR⟩ (Weak.sub (weak_of (by simp [wσ, go_sem, closed, closeds, z4w]) (by simp [whs, go_sem, EObj.closed, closed, closeds, z4w]) (by simp [*]) rfl rfl (by simp))) ?_
          rintro ⟨i, x⟩ ⟨hi, hx, hr⟩
          simp only at hi hx hr
          refine next_of 1000 ?_
          simp (maxSteps := 4000000) (disch := omega) only [go_sem, Nat.reduceBEq, Nat.reduceAdd, Nat.reduceMul, Nat.reduceSub, Nat.reduceLT, Nat.reduceLeDiff, Int.reduceToNat, Int.reduceLT, Int.reduceLE, Int.reduceAdd, Int.reduceMul, Int.reduceSub, Int.reduceNeg, Int.reduceDiv, Int.reduceMod, Nat.reduceBNe, Nat.reduceGT, Int.reduceBEq, Int.reduceBNe, Int.reduceGT, Nat.reduceDiv, Nat.reduceMod, Nat.reducePow, Int.reducePow, gt_iff_lt, ge_iff_le, List.reduceReplicate, ↓reduceIte]
          repeat (with_reducible refine And.intro (by first | omega | assumption | (constructor <;> assumption) | (simp; done) | (simp; omega) | (simp [*]; done)) ?_)
          refine condS_split (fun h => ?_) (fun h => ?_)
          all_goals (try simp only [bne_iff_ne, ne_eq, beq_iff_eq, decide_eq_true_eq, decide_eq_false_iff_not, Bool.not_eq_true, Bool.not_eq_false, Bool.not_true, Bool.not_false, bne_eq_false_iff_eq, beq_eq_false_iff_ne, Bool.and_eq_true, Bool.or_eq_true, Bool.and_eq_false_imp, Bool.or_eq_false_iff, Bool.not_eq_true', Bool.not_eq_false', Int.not_lt, Int.not_le] at h)
          · have hil : i < s.size := by omega
            rw [drop_valD (by omega), runD] at hr
            have hvl := valD_lt (s.data.toList.getD i 0).toNat
            have hcl := (s.data.toList.getD i 0).toNat_lt
            have c1 := value_p (s.data.toList.getD i 0).toNat (by omega)
            generalize hc : s.data.toList.getD i 0 = c at *
            generalize hv : valD c.toNat = v at *
            have hxb : x * 10 + v < 115792089237316195423570985008687907853269984665640564039457584007913129639936 * 17 := by omega
            have hd8 := dig8 hxb
            have c2 := rof_p 10 (by decide)
            have c3 := times_p x 10 hx (by decide)
            have c4 := rof_p v (by omega)
            have c5 := fromword_p v (by omega)
            have c6 := plus_p (x * 10) v
            have c7 := toword_p (x * 10 + v)
            unfold lE at c3 c5 c6 c7
            by_cases hvb : v < 10
            · simp only [hvb, true_and] at hr
              by_cases hov : x * 10 + v < 115792089237316195423570985008687907853269984665640564039457584007913129639936
              · rw [if_pos hov] at hr
                rw [Nat.mod_eq_of_lt hov] at c7
                have h80 : dig 4294967296 (x * 10 + v) 8 = 0 := hd8.2 hov
                repeat' (first
                  | with_reducible refine And.intro (by first | omega | assumption | (constructor <;> assumption) | (simp; done) | (simp; omega) | (simp [*]; done)) ?_
                  | simp (maxSteps := 4000000) (disch := omega) only [go_sem, Nat.reduceBEq, Nat.reduceAdd, Nat.reduceMul, Nat.reduceSub, Nat.reduceLT, Nat.reduceLeDiff, Int.reduceToNat, Int.reduceLT, Int.reduceLE, Int.reduceAdd, Int.reduceMul, Int.reduceSub, Int.reduceNeg, Int.reduceDiv, Int.reduceMod, Nat.reduceBNe, Nat.reduceGT, Int.reduceBEq, Int.reduceBNe, Int.reduceGT, Nat.reduceDiv, Nat.reduceMod, Nat.reducePow, Int.reducePow, gt_iff_lt, ge_iff_le, List.reduceReplicate, ↓reduceIte, hc, Int.toNat_natCast, h80]
                  | with_reducible refine roundS (next_of 1000 ?_)
                  | with_reducible refine drawS_of mixed (by kernel_rfl) (dg_of 1000 ?_)
                  | with_reducible refine endD_of (by kernel_rfl) (next_of 1000 ?_)
                  | refine callS_p (c1) (next_of 1000 ?_)
                  | refine callD_p (c1) (dg_of 1000 ?_)
                  | refine callS_p (c2) (next_of 1000 ?_)
                  | refine callD_p (c2) (dg_of 1000 ?_)
                  | refine callS_p (c3) (next_of 1000 ?_)
                  | refine callD_p (c3) (dg_of 1000 ?_)
                  | refine callS_p (c4) (next_of 1000 ?_)
                  | refine callD_p (c4) (dg_of 1000 ?_)
                  | refine callS_p (c5) (next_of 1000 ?_)
                  | refine callD_p (c5) (dg_of 1000 ?_)
                  | refine callS_p (c6) (next_of 1000 ?_)
                  | refine callD_p (c6) (dg_of 1000 ?_)
                  | refine callS_p (c7) (next_of 1000 ?_)
                  | refine callD_p (c7) (dg_of 1000 ?_)
                  | with_reducible refine next_of 1000 ?_
                  | ((first | refine condS_split (fun h => ?_) (fun h => ?_) | refine testS_split (fun h => ?_) (fun h => ?_) | refine testD_split (fun h => ?_) (fun h => ?_)) <;> (try simp only [bne_iff_ne, ne_eq, beq_iff_eq, decide_eq_true_eq, decide_eq_false_iff_not, Bool.not_eq_true, Bool.not_eq_false, Bool.not_true, Bool.not_false, bne_eq_false_iff_eq, beq_eq_false_iff_ne, Bool.and_eq_true, Bool.or_eq_true, Bool.and_eq_false_imp, Bool.or_eq_false_iff, Bool.not_eq_true', Bool.not_eq_false', Int.not_lt, Int.not_le] at h) <;> (try (exfalso; omega))))
                exact ⟨(i + 1, x * 10 + v), ⟨by show i + 1 ≤ s.size; omega, hov, hr⟩, Weak.sub (weak_of (by simp [wσ, go_sem, closed, closeds]) (by simp [whs, go_sem, EObj.closed, closed, closeds]) (by simp [*]) rfl rfl (by simp)), by show s.size - (i + 1) < s.size - i; omega⟩
              · rw [if_neg hov] at hr
                have h80 : ¬ dig 4294967296 (x * 10 + v) 8 = 0 := fun h => hov (hd8.1 h)
                repeat' (first
                  | with_reducible refine And.intro (by first | omega | assumption | (constructor <;> assumption) | (simp; done) | (simp; omega) | (simp [*]; done)) ?_
                  | simp (maxSteps := 4000000) (disch := omega) only [go_sem, Nat.reduceBEq, Nat.reduceAdd, Nat.reduceMul, Nat.reduceSub, Nat.reduceLT, Nat.reduceLeDiff, Int.reduceToNat, Int.reduceLT, Int.reduceLE, Int.reduceAdd, Int.reduceMul, Int.reduceSub, Int.reduceNeg, Int.reduceDiv, Int.reduceMod, Nat.reduceBNe, Nat.reduceGT, Int.reduceBEq, Int.reduceBNe, Int.reduceGT, Nat.reduceDiv, Nat.reduceMod, Nat.reducePow, Int.reducePow, gt_iff_lt, ge_iff_le, List.reduceReplicate, ↓reduceIte, hc, Int.toNat_natCast]
                  | with_reducible refine roundS (next_of 1000 ?_)
                  | with_reducible refine drawS_of mixed (by kernel_rfl) (dg_of 1000 ?_)
                  | with_reducible refine endD_of (by kernel_rfl) (next_of 1000 ?_)
                  | refine callS_p (c1) (next_of 1000 ?_)
                  | refine callD_p (c1) (dg_of 1000 ?_)
                  | refine callS_p (c2) (next_of 1000 ?_)
                  | refine callD_p (c2) (dg_of 1000 ?_)
                  | refine callS_p (c3) (next_of 1000 ?_)
                  | refine callD_p (c3) (dg_of 1000 ?_)
                  | refine callS_p (c4) (next_of 1000 ?_)
                  | refine callD_p (c4) (dg_of 1000 ?_)
                  | refine callS_p (c5) (next_of 1000 ?_)
                  | refine callD_p (c5) (dg_of 1000 ?_)
                  | refine callS_p (c6) (next_of 1000 ?_)
                  | refine callD_p (c6) (dg_of 1000 ?_)
                  | refine callS_p (c7) (next_of 1000 ?_)
                  | refine callD_p (c7) (dg_of 1000 ?_)
                  | with_reducible refine next_of 1000 ?_
                  | ((first | refine condS_split (fun h => ?_) (fun h => ?_) | refine testS_split (fun h => ?_) (fun h => ?_) | refine testD_split (fun h => ?_) (fun h => ?_)) <;> (try simp only [bne_iff_ne, ne_eq, beq_iff_eq, decide_eq_true_eq, decide_eq_false_iff_not, Bool.not_eq_true, Bool.not_eq_false, Bool.not_true, Bool.not_false, bne_eq_false_iff_eq, beq_eq_false_iff_ne, Bool.and_eq_true, Bool.or_eq_true, Bool.and_eq_false_imp, Bool.or_eq_false_iff, Bool.not_eq_true', Bool.not_eq_false', Int.not_lt, Int.not_le] at h) <;> (try (exfalso; omega))))
                rw [← hr]; rfl
            · rw [if_neg (by omega)] at hr
              repeat' (first
                | with_reducible refine And.intro (by first | omega | assumption | (constructor <;> assumption) | (simp; done) | (simp; omega) | (simp [*]; done)) ?_
                | simp (maxSteps := 4000000) (disch := omega) only [go_sem, Nat.reduceBEq, Nat.reduceAdd, Nat.reduceMul, Nat.reduceSub, Nat.reduceLT, Nat.reduceLeDiff, Int.reduceToNat, Int.reduceLT, Int.reduceLE, Int.reduceAdd, Int.reduceMul, Int.reduceSub, Int.reduceNeg, Int.reduceDiv, Int.reduceMod, Nat.reduceBNe, Nat.reduceGT, Int.reduceBEq, Int.reduceBNe, Int.reduceGT, Nat.reduceDiv, Nat.reduceMod, Nat.reducePow, Int.reducePow, gt_iff_lt, ge_iff_le, List.reduceReplicate, ↓reduceIte, hc, Int.toNat_natCast]
                | with_reducible refine roundS (next_of 1000 ?_)
                | with_reducible refine drawS_of mixed (by kernel_rfl) (dg_of 1000 ?_)
                | with_reducible refine endD_of (by kernel_rfl) (next_of 1000 ?_)
                | refine callS_p (c1) (next_of 1000 ?_)
                | refine callD_p (c1) (dg_of 1000 ?_)
                | refine callS_p (c2) (next_of 1000 ?_)
                | refine callD_p (c2) (dg_of 1000 ?_)
                | refine callS_p (c3) (next_of 1000 ?_)
                | refine callD_p (c3) (dg_of 1000 ?_)
                | refine callS_p (c4) (next_of 1000 ?_)
                | refine callD_p (c4) (dg_of 1000 ?_)
                | refine callS_p (c5) (next_of 1000 ?_)
                | refine callD_p (c5) (dg_of 1000 ?_)
                | refine callS_p (c6) (next_of 1000 ?_)
                | refine callD_p (c6) (dg_of 1000 ?_)
                | refine callS_p (c7) (next_of 1000 ?_)
                | refine callD_p (c7) (dg_of 1000 ?_)
                | with_reducible refine next_of 1000 ?_
                | ((first | refine condS_split (fun h => ?_) (fun h => ?_) | refine testS_split (fun h => ?_) (fun h => ?_) | refine testD_split (fun h => ?_) (fun h => ?_)) <;> (try simp only [bne_iff_ne, ne_eq, beq_iff_eq, decide_eq_true_eq, decide_eq_false_iff_not, Bool.not_eq_true, Bool.not_eq_false, Bool.not_true, Bool.not_false, bne_eq_false_iff_eq, beq_eq_false_iff_ne, Bool.and_eq_true, Bool.or_eq_true, Bool.and_eq_false_imp, Bool.or_eq_false_iff, Bool.not_eq_true', Bool.not_eq_false', Int.not_lt, Int.not_le] at h) <;> (try (exfalso; omega))))
              rw [← hr]; rfl
          · have hi' : i = s.size := by omega
            subst hi'
            rw [List.drop_eq_nil_of_le (by rw [List.length_map, hsz]; omega)] at hr
            simp (maxSteps := 4000000) (disch := omega) only [go_sem, Nat.reduceBEq, Nat.reduceAdd, Nat.reduceMul, Nat.reduceSub, Nat.reduceLT, Nat.reduceLeDiff, Int.reduceToNat, Int.reduceLT, Int.reduceLE, Int.reduceAdd, Int.reduceMul, Int.reduceSub, Int.reduceNeg, Int.reduceDiv, Int.reduceMod, Nat.reduceBNe, Nat.reduceGT, Int.reduceBEq, Int.reduceBNe, Int.reduceGT, Nat.reduceDiv, Nat.reduceMod, Nat.reducePow, Int.reducePow, gt_iff_lt, ge_iff_le, List.reduceReplicate, ↓reduceIte]
            repeat (with_reducible refine And.intro (by first | omega | assumption | (constructor <;> assumption) | (simp; done) | (simp; omega) | (simp [*]; done)) ?_)
            repeat' (first
              | with_reducible refine And.intro (by first | omega | assumption | (constructor <;> assumption) | (simp; done) | (simp; omega) | (simp [*]; done)) ?_
              | simp (maxSteps := 4000000) (disch := omega) only [go_sem, Nat.reduceBEq, Nat.reduceAdd, Nat.reduceMul, Nat.reduceSub, Nat.reduceLT, Nat.reduceLeDiff, Int.reduceToNat, Int.reduceLT, Int.reduceLE, Int.reduceAdd, Int.reduceMul, Int.reduceSub, Int.reduceNeg, Int.reduceDiv, Int.reduceMod, Nat.reduceBNe, Nat.reduceGT, Int.reduceBEq, Int.reduceBNe, Int.reduceGT, Nat.reduceDiv, Nat.reduceMod, Nat.reducePow, Int.reducePow, gt_iff_lt, ge_iff_le, List.reduceReplicate, ↓reduceIte]
              | with_reducible refine roundS (next_of 1000 ?_)
              | with_reducible refine drawS_of mixed (by kernel_rfl) (dg_of 1000 ?_)
              | with_reducible refine endD_of (by kernel_rfl) (next_of 1000 ?_)
              | with_reducible refine next_of 1000 ?_
              | ((first | refine condS_split (fun h => ?_) (fun h => ?_) | refine testS_split (fun h => ?_) (fun h => ?_) | refine testD_split (fun h => ?_) (fun h => ?_)) <;> (try simp only [bne_iff_ne, ne_eq, beq_iff_eq, decide_eq_true_eq, decide_eq_false_iff_not, Bool.not_eq_true, Bool.not_eq_false, Bool.not_true, Bool.not_false, bne_eq_false_iff_eq, beq_eq_false_iff_ne, Bool.and_eq_true, Bool.or_eq_true, Bool.and_eq_false_imp, Bool.or_eq_false_iff, Bool.not_eq_true', Bool.not_eq_false', Int.not_lt, Int.not_le] at h) <;> (try (exfalso; omega))))
            rw [runD] at hr
            rw [← hr]; rfl
        · refine pure_p (args := [.str s]) en36 hcl Tryd.func36 rfl in36 (by simp [Tryd.f36]) (by simp [closeds, closed]) (fun w => next_of 1000 ?_)
          simp (maxSteps := 4000000) (disch := omega) only [go_sem, Nat.reduceBEq, Nat.reduceAdd, Nat.reduceMul, Nat.reduceSub, Nat.reduceLT, Nat.reduceLeDiff, Int.reduceToNat, Int.reduceLT, Int.reduceLE, Int.reduceAdd, Int.reduceMul, Int.reduceSub, Int.reduceNeg, Int.reduceDiv, Int.reduceMod, Nat.reduceBNe, Nat.reduceGT, Int.reduceBEq, Int.reduceBNe, Int.reduceGT, Nat.reduceDiv, Nat.reduceMod, Nat.reducePow, Int.reducePow, gt_iff_lt, ge_iff_le, List.reduceReplicate, ↓reduceIte, Tryd.f36]
          repeat (with_reducible refine And.intro (by first | omega | assumption | (constructor <;> assumption) | (simp; done) | (simp; omega) | (simp [*]; done)) ?_)
          repeat' (first
            | with_reducible refine And.intro (by first | omega | assumption | (constructor <;> assumption) | (simp; done) | (simp; omega) | (simp [*]; done)) ?_
            | simp (maxSteps := 4000000) (disch := omega) only [go_sem, Nat.reduceBEq, Nat.reduceAdd, Nat.reduceMul, Nat.reduceSub, Nat.reduceLT, Nat.reduceLeDiff, Int.reduceToNat, Int.reduceLT, Int.reduceLE, Int.reduceAdd, Int.reduceMul, Int.reduceSub, Int.reduceNeg, Int.reduceDiv, Int.reduceMod, Nat.reduceBNe, Nat.reduceGT, Int.reduceBEq, Int.reduceBNe, Int.reduceGT, Nat.reduceDiv, Nat.reduceMod, Nat.reducePow, Int.reducePow, gt_iff_lt, ge_iff_le, List.reduceReplicate, ↓reduceIte]
            | with_reducible refine roundS (next_of 1000 ?_)
            | with_reducible refine drawS_of mixed (by kernel_rfl) (dg_of 1000 ?_)
            | with_reducible refine endD_of (by kernel_rfl) (next_of 1000 ?_)
            | with_reducible refine next_of 1000 ?_
            | ((first | refine condS_split (fun h => ?_) (fun h => ?_) | refine testS_split (fun h => ?_) (fun h => ?_) | refine testD_split (fun h => ?_) (fun h => ?_)) <;> (try simp only [bne_iff_ne, ne_eq, beq_iff_eq, decide_eq_true_eq, decide_eq_false_iff_not, Bool.not_eq_true, Bool.not_eq_false, Bool.not_true, Bool.not_false, bne_eq_false_iff_eq, beq_eq_false_iff_ne, Bool.and_eq_true, Bool.or_eq_true, Bool.and_eq_false_imp, Bool.or_eq_false_iff, Bool.not_eq_true', Bool.not_eq_false', Int.not_lt, Int.not_le] at h) <;> (try (exfalso; omega))))
          all_goals first | (rw [if_pos (by omega)] at hR; rw [← hR]; rfl) | skip
          rw [if_neg (by omega)] at hR
          refine loopU (S := Nat × Nat) (fun q => q.1 ≤ s.size ∧ q.2 < 115792089237316195423570985008687907853269984665640564039457584007913129639936 ∧ runD 10 ((s.data.toList.map fun c => valD c.toNat).drop q.1) q.2 = R)
            (fun q => ⟨[(7, .int .i64 (q.1 : Nat)), (6, .ptr 1 0), (4, .int .u64 10), (3, .int .i64 0), (2, .ptr 0 0), (0, .str s)], 2,
              [(1, some (.cells (wC q.2) 23 (0, 0))), (0, some (.cells (wC 0) 23 (0, 0)))], base w, []⟩)
            (fun q => s.size - q.1) (0, 0) ⟨by omega, by decide, by simpa using hR⟩ (Weak.sub (weak_of (by simp [wσ, go_sem, closed, closeds, z4w]) (by simp [whs, go_sem, EObj.closed, closed, closeds, z4w]) (by simp [*]) rfl rfl (by simp))) ?_
          rintro ⟨i, x⟩ ⟨hi, hx, hr⟩
          simp only at hi hx hr
          refine next_of 1000 ?_
          simp (maxSteps := 4000000) (disch := omega) only [go_sem, Nat.reduceBEq, Nat.reduceAdd, Nat.reduceMul, Nat.reduceSub, Nat.reduceLT, Nat.reduceLeDiff, Int.reduceToNat, Int.reduceLT, Int.reduceLE, Int.reduceAdd, Int.reduceMul, Int.reduceSub, Int.reduceNeg, Int.reduceDiv, Int.reduceMod, Nat.reduceBNe, Nat.reduceGT, Int.reduceBEq, Int.reduceBNe, Int.reduceGT, Nat.reduceDiv, Nat.reduceMod, Nat.reducePow, Int.reducePow, gt_iff_lt, ge_iff_le, List.reduceReplicate, ↓reduceIte]
          repeat (with_reducible refine And.intro (by first | omega | assumption | (constructor <;> assumption) | (simp; done) | (simp; omega) | (simp [*]; done)) ?_)
          refine condS_split (fun h => ?_) (fun h => ?_)
          all_goals (try simp only [bne_iff_ne, ne_eq, beq_iff_eq, decide_eq_true_eq, decide_eq_false_iff_not, Bool.not_eq_true, Bool.not_eq_false, Bool.not_true, Bool.not_false, bne_eq_false_iff_eq, beq_eq_false_iff_ne, Bool.and_eq_true, Bool.or_eq_true, Bool.and_eq_false_imp, Bool.or_eq_false_iff, Bool.not_eq_true', Bool.not_eq_false', Int.not_lt, Int.not_le] at h)
          · have hil : i < s.size := by omega
            rw [drop_valD (by omega), runD] at hr
            have hvl := valD_lt (s.data.toList.getD i 0).toNat
            have hcl := (s.data.toList.getD i 0).toNat_lt
            have c1 := value_p (s.data.toList.getD i 0).toNat (by omega)
            generalize hc : s.data.toList.getD i 0 = c at *
            generalize hv : valD c.toNat = v at *
            have hxb : x * 10 + v < 115792089237316195423570985008687907853269984665640564039457584007913129639936 * 17 := by omega
            have hd8 := dig8 hxb
            have c2 := rof_p 10 (by decide)
            have c3 := times_p x 10 hx (by decide)
            have c4 := rof_p v (by omega)
            have c5 := fromword_p v (by omega)
            have c6 := plus_p (x * 10) v
            have c7 := toword_p (x * 10 + v)
            unfold lE at c3 c5 c6 c7
            by_cases hvb : v < 10
            · simp only [hvb, true_and] at hr
              by_cases hov : x * 10 + v < 115792089237316195423570985008687907853269984665640564039457584007913129639936
              · rw [if_pos hov] at hr
                rw [Nat.mod_eq_of_lt hov] at c7
                have h80 : dig 4294967296 (x * 10 + v) 8 = 0 := hd8.2 hov
                repeat' (first
                  | with_reducible refine And.intro (by first | omega | assumption | (constructor <;> assumption) | (simp; done) | (simp; omega) | (simp [*]; done)) ?_
                  | simp (maxSteps := 4000000) (disch := omega) only [go_sem, Nat.reduceBEq, Nat.reduceAdd, Nat.reduceMul, Nat.reduceSub, Nat.reduceLT, Nat.reduceLeDiff, Int.reduceToNat, Int.reduceLT, Int.reduceLE, Int.reduceAdd, Int.reduceMul, Int.reduceSub, Int.reduceNeg, Int.reduceDiv, Int.reduceMod, Nat.reduceBNe, Nat.reduceGT, Int.reduceBEq, Int.reduceBNe, Int.reduceGT, Nat.reduceDiv, Nat.reduceMod, Nat.reducePow, Int.reducePow, gt_iff_lt, ge_iff_le, List.reduceReplicate, ↓reduceIte, hc, Int.toNat_natCast, h80]
                  | with_reducible refine roundS (next_of 1000 ?_)
                  | with_reducible refine drawS_of mixed (by kernel_rfl) (dg_of 1000 ?_)
                  | with_reducible refine endD_of (by kernel_rfl) (next_of 1000 ?_)
                  | refine callS_p (c1) (next_of 1000 ?_)
                  | refine callD_p (c1) (dg_of 1000 ?_)
                  | refine callS_p (c2) (next_of 1000 ?_)
                  | refine callD_p (c2) (dg_of 1000 ?_)
                  | refine callS_p (c3) (next_of 1000 ?_)
                  | refine callD_p (c3) (dg_of 1000 ?_)
                  | refine callS_p (c4) (next_of 1000 ?_)
                  | refine callD_p (c4) (dg_of 1000 ?_)
                  | refine callS_p (c5) (next_of 1000 ?_)
                  | refine callD_p (c5) (dg_of 1000 ?_)
                  | refine callS_p (c6) (next_of 1000 ?_)
                  | refine callD_p (c6) (dg_of 1000 ?_)
                  | refine callS_p (c7) (next_of 1000 ?_)
                  | refine callD_p (c7) (dg_of 1000 ?_)
                  | with_reducible refine next_of 1000 ?_
                  | ((first | refine condS_split (fun h => ?_) (fun h => ?_) | refine testS_split (fun h => ?_) (fun h => ?_) | refine testD_split (fun h => ?_) (fun h => ?_)) <;> (try simp only [bne_iff_ne, ne_eq, beq_iff_eq, decide_eq_true_eq, decide_eq_false_iff_not, Bool.not_eq_true, Bool.not_eq_false, Bool.not_true, Bool.not_false, bne_eq_false_iff_eq, beq_eq_false_iff_ne, Bool.and_eq_true, Bool.or_eq_true, Bool.and_eq_false_imp, Bool.or_eq_false_iff, Bool.not_eq_true', Bool.not_eq_false', Int.not_lt, Int.not_le] at h) <;> (try (exfalso; omega))))
                exact ⟨(i + 1, x * 10 + v), ⟨by show i + 1 ≤ s.size; omega, hov, hr⟩, Weak.sub (weak_of (by simp [wσ, go_sem, closed, closeds]) (by simp [whs, go_sem, EObj.closed, closed, closeds]) (by simp [*]) rfl rfl (by simp)), by show s.size - (i + 1) < s.size - i; omega⟩
              · rw [if_neg hov] at hr
                have h80 : ¬ dig 4294967296 (x * 10 + v) 8 = 0 := fun h => hov (hd8.1 h)
                repeat' (first
                  | with_reducible refine And.intro (by first | omega | assumption | (constructor <;> assumption) | (simp; done) | (simp; omega) | (simp [*]; done)) ?_
                  | simp (maxSteps := 4000000) (disch := omega) only [go_sem, Nat.reduceBEq, Nat.reduceAdd, Nat.reduceMul, Nat.reduceSub, Nat.reduceLT, Nat.reduceLeDiff, Int.reduceToNat, Int.reduceLT, Int.reduceLE, Int.reduceAdd, Int.reduceMul, Int.reduceSub, Int.reduceNeg, Int.reduceDiv, Int.reduceMod, Nat.reduceBNe, Nat.reduceGT, Int.reduceBEq, Int.reduceBNe, Int.reduceGT, Nat.reduceDiv, Nat.reduceMod, Nat.reducePow, Int.reducePow, gt_iff_lt, ge_iff_le, List.reduceReplicate, ↓reduceIte, hc, Int.toNat_natCast]
                  | with_reducible refine roundS (next_of 1000 ?_)
                  | with_reducible refine drawS_of mixed (by kernel_rfl) (dg_of 1000 ?_)
                  | with_reducible refine endD_of (by kernel_rfl) (next_of 1000 ?_)
                  | refine callS_p (c1) (next_of 1000 ?_)
                  | refine callD_p (c1) (dg_of 1000 ?_)
                  | refine callS_p (c2) (next_of 1000 ?_)
                  | refine callD_p (c2) (dg_of 1000 ?_)
                  | refine callS_p (c3) (next_of 1000 ?_)
                  | refine callD_p (c3) (dg_of 1000 ?_)
                  | refine callS_p (c4) (next_of 1000 ?_)
                  | refine callD_p (c4) (dg_of 1000 ?_)
                  | refine callS_p (c5) (next_of 1000 ?_)
                  | refine callD_p (c5) (dg_of 1000 ?_)
                  | refine callS_p (c6) (next_of 1000 ?_)
                  | refine callD_p (c6) (dg_of 1000 ?_)
                  | refine callS_p (c7) (next_of 1000 ?_)
                  | refine callD_p (c7) (dg_of 1000 ?_)
                  | with_reducible refine next_of 1000 ?_
                  | ((first | refine condS_split (fun h => ?_) (fun h => ?_) | refine testS_split (fun h => ?_) (fun h => ?_) | refine testD_split (fun h => ?_) (fun h => ?_)) <;> (try simp only [bne_iff_ne, ne_eq, beq_iff_eq, decide_eq_true_eq, decide_eq_false_iff_not, Bool.not_eq_true, Bool.not_eq_false, Bool.not_true, Bool.not_false, bne_eq_false_iff_eq, beq_eq_false_iff_ne, Bool.and_eq_true, Bool.or_eq_true, Bool.and_eq_false_imp, Bool.or_eq_false_iff, Bool.not_eq_true', Bool.not_eq_false', Int.not_lt, Int.not_le] at h) <;> (try (exfalso; omega))))
                rw [← hr]; rfl
            · rw [if_neg (by omega)] at hr
              repeat' (first
                | with_reducible refine And.intro (by first | omega | assumption | (constructor <;> assumption) | (simp; done) | (simp; omega) | (simp [*]; done)) ?_
                | simp (maxSteps := 4000000) (disch := omega) only [go_sem, Nat.reduceBEq, Nat.reduceAdd, Nat.reduceMul, Nat.reduceSub, Nat.reduceLT, Nat.reduceLeDiff, Int.reduceToNat, Int.reduceLT, Int.reduceLE, Int.reduceAdd, Int.reduceMul, Int.reduceSub, Int.reduceNeg, Int.reduceDiv, Int.reduceMod, Nat.reduceBNe, Nat.reduceGT, Int.reduceBEq, Int.reduceBNe, Int.reduceGT, Nat.reduceDiv, Nat.reduceMod, Nat.reducePow, Int.reducePow, gt_iff_lt, ge_iff_le, List.reduceReplicate, ↓reduceIte, hc, Int.toNat_natCast]
                | with_reducible refine roundS (next_of 1000 ?_)
                | with_reducible refine drawS_of mixed (by kernel_rfl) (dg_of 1000 ?_)
                | with_reducible refine endD_of (by kernel_rfl) (next_of 1000 ?_)
                | refine callS_p (c1) (next_of 1000 ?_)
                | refine callD_p (c1) (dg_of 1000 ?_)
                | refine callS_p (c2) (next_of 1000 ?_)
                | refine callD_p (c2) (dg_of 1000 ?_)
                | refine callS_p (c3) (next_of 1000 ?_)
                | refine callD_p (c3) (dg_of 1000 ?_)
                | refine callS_p (c4) (next_of 1000 ?_)
                | refine callD_p (c4) (dg_of 1000 ?_)
                | refine callS_p (c5) (next_of 1000 ?_)
                | refine callD_p (c5) (dg_of 1000 ?_)
                | refine callS_p (c6) (next_of 1000 ?_)
                | refine callD_p (c6) (dg_of 1000 ?_)
                | refine callS_p (c7) (next_of 1000 ?_)
                | refine callD_p (c7) (dg_of 1000 ?_)
                | with_reducible refine next_of 1000 ?_
                | ((first | refine condS_split (fun h => ?_) (fun h => ?_) | refine testS_split (fun h => ?_) (fun h => ?_) | refine testD_split (fun h => ?_) (fun h => ?_)) <;> (try simp only [bne_iff_ne, ne_eq, beq_iff_eq, decide_eq_true_eq, decide_eq_false_iff_not, Bool.not_eq_true, Bool.not_eq_false, Bool.not_true, Bool.not_false, bne_eq_false_iff_eq, beq_eq_false_iff_ne, Bool.and_eq_true, Bool.or_eq_true, Bool.and_eq_false_imp, Bool.or_eq_false_iff, Bool.not_eq_true', Bool.not_eq_false', Int.not_lt, Int.not_le] at h) <;> (try (exfalso; omega))))
              rw [← hr]; rfl
          · have hi' : i = s.size := by omega
            subst hi'
            rw [List.drop_eq_nil_of_le (by rw [List.length_map, hsz]; omega)] at hr
            simp (maxSteps := 4000000) (disch := omega) only [go_sem, Nat.reduceBEq, Nat.reduceAdd, Nat.reduceMul, Nat.reduceSub, Nat.reduceLT, Nat.reduceLeDiff, Int.reduceToNat, Int.reduceLT, Int.reduceLE, Int.reduceAdd, Int.reduceMul, Int.reduceSub, Int.reduceNeg, Int.reduceDiv, Int.reduceMod, Nat.reduceBNe, Nat.reduceGT, Int.reduceBEq, Int.reduceBNe, Int.reduceGT, Nat.reduceDiv, Nat.reduceMod, Nat.reducePow, Int.reducePow, gt_iff_lt, ge_iff_le, List.reduceReplicate, ↓reduceIte]
            repeat (with_reducible refine And.intro (by first | omega | assumption | (constructor <;> assumption) | (simp; done) | (simp; omega) | (simp [*]; done)) ?_)
            repeat' (first
              | with_reducible refine And.intro (by first | omega | assumption | (constructor <;> assumption) | (simp; done) | (simp; omega) | (simp [*]; done)) ?_
              | simp (maxSteps := 4000000) (disch := omega) only [go_sem, Nat.reduceBEq, Nat.reduceAdd, Nat.reduceMul, Nat.reduceSub, Nat.reduceLT, Nat.reduceLeDiff, Int.reduceToNat, Int.reduceLT, Int.reduceLE, Int.reduceAdd, Int.reduceMul, Int.reduceSub, Int.reduceNeg, Int.reduceDiv, Int.reduceMod, Nat.reduceBNe, Nat.reduceGT, Int.reduceBEq, Int.reduceBNe, Int.reduceGT, Nat.reduceDiv, Nat.reduceMod, Nat.reducePow, Int.reducePow, gt_iff_lt, ge_iff_le, List.reduceReplicate, ↓reduceIte]
              | with_reducible refine roundS (next_of 1000 ?_)
              | with_reducible refine drawS_of mixed (by kernel_rfl) (dg_of 1000 ?_)
              | with_reducible refine endD_of (by kernel_rfl) (next_of 1000 ?_)
              | with_reducible refine next_of 1000 ?_
              | ((first | refine condS_split (fun h => ?_) (fun h => ?_) | refine testS_split (fun h => ?_) (fun h => ?_) | refine testD_split (fun h => ?_) (fun h => ?_)) <;> (try simp only [bne_iff_ne, ne_eq, beq_iff_eq, decide_eq_true_eq, decide_eq_false_iff_not, Bool.not_eq_true, Bool.not_eq_false, Bool.not_true, Bool.not_false, bne_eq_false_iff_eq, beq_eq_false_iff_ne, Bool.and_eq_true, Bool.or_eq_true, Bool.and_eq_false_imp, Bool.or_eq_false_iff, Bool.not_eq_true', Bool.not_eq_false', Int.not_lt, Int.not_le] at h) <;> (try (exfalso; omega))))
            rw [runD] at hr
            rw [← hr]; rfl
end Go.Proofs.YtbilnedgpgpanaaDoor
