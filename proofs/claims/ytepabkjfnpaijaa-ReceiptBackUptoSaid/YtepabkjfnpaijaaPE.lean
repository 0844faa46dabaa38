/- Part of a proof over the seat Ytepabkjfnpaijaa. -/
import Derived.Test.YtepabkjfnpaijaaPD
namespace Go.Proofs.Ytepabkjfnpaijaa
open Go RowKit Go.Ew
set_option maxRecDepth 100000
set_option linter.unusedSimpArgs false
set_option linter.unusedVariables false
set_option maxHeartbeats 4000000
def asW (t : Itm) : Nat × Nat := if t.list ≠ 0 then (0, 45) else if 32 < t.bytes.length then (0, 46) else if 0 < t.bytes.length ∧ t.bytes.getD 0 0 = 0 then (0, 42) else (bvN t.bytes, 0)
theorem asWhole_fn {B : Base} {t : Itm} {s : Plc} (ht : ItAt B t s) :
    Does Try.prog 89 [.agg (itE t s)] B (fun _ : Unit => .tup [wE (asW t).1, .int .i64 ((asW t).2 : Nat)]) (fun _ _ => True) := by
  refine fn_of en89 (fun s B B' hB hR => hR) Try.func89 rfl in89 (by simp [Try.f89]) (by simp [closeds, closed]) (fun B0 hB0 => next_of 1000 ?_)
  replace ht := ht.ext hB0
  obtain ⟨hbt, hkl⟩ := bytes_of ht
  have z0 : wE 0 = .agg [.int .u64 0, .int .u64 0, .int .u64 0, .int .u64 0] := rfl
  by_cases h1 : t.list = 0
  · have c1 : (t.list == 0) = true := by simpa using h1
    rcases Nat.lt_or_ge 32 t.bytes.length with h2 | h2
    · have e1 : asW t = (0, 46) := by rw [asW, if_neg (by simpa using h1), if_pos h2]
      rw [e1, z0]
      repeat' (first | with_reducible refine And.intro (by first | omega | assumption | (constructor <;> assumption) | (simp; done) | (simp; omega) | (simp [*]; done) | ((repeat' refine And.intro ?_ ?_) <;> first | omega | assumption | (refine SlOk.so (n := ?_) ?_ ?_; rotate_left; assumption; omega) | (simp; done) | fail) | fail) ?_ | simp (maxSteps := 4000000) (disch := omega) only [go_sem, Nat.reduceBEq, Nat.reduceAdd, Nat.reduceMul, Nat.reduceSub, Nat.reduceLT, Nat.reduceLeDiff, Int.reduceToNat, Int.reduceLT, Int.reduceLE, Int.reduceAdd, Int.reduceMul, Int.reduceSub, Int.reduceNeg, Int.reduceDiv, Int.reduceMod, Nat.reduceBNe, Nat.reduceGT, Int.reduceBEq, Int.reduceBNe, Int.reduceGT, Nat.reduceDiv, Nat.reduceMod, Nat.reducePow, Int.reducePow, gt_iff_lt, ge_iff_le, List.reduceReplicate, ↓reduceIte, Try.f89, c1, bne] | ((first | refine condS_split (fun h => ?_) (fun h => ?_) | refine testS_split (fun h => ?_) (fun h => ?_) | refine testT_split (fun h => ?_) (fun h => ?_)) <;> (try simp only [bne_iff_ne, ne_eq, beq_iff_eq, decide_eq_true_eq, decide_eq_false_iff_not, Bool.not_eq_true, Bool.not_eq_false, Bool.not_true, Bool.not_false, bne_eq_false_iff_eq, beq_eq_false_iff_ne, Bool.and_eq_true, Bool.or_eq_true, Bool.and_eq_false_imp, Bool.or_eq_false_iff, Bool.not_eq_true', Bool.not_eq_false', Int.not_lt, Int.not_le] at h) <;> (try (exfalso; omega))))
      first | exact ⟨BExt.refl _, (), rfl, by simp [closed, closeds], trivial⟩ | exact ⟨(), rfl, by simp [closed, closeds], trivial⟩ | exact ⟨BExt.refl _, (), by simp [closed, closeds], trivial⟩ | exact ⟨(), by simp [closed, closeds], trivial⟩ | exact ⟨BExt.refl _, (), by simp [closed, closeds, bytes_any]⟩ | exact ⟨(), by simp [closed, closeds, bytes_any]⟩
    · by_cases h0 : t.bytes = []
      · have e1 : asW t = (bvN t.bytes, 0) := by rw [asW, if_neg (by simpa using h1), if_neg (by omega), if_neg (by rw [h0]; simp)]
        rw [e1]
        have hrd := read_fn t.bytes t.bytes.length B0 s.bA s.bc hbt rfl h2
        have hl0 : t.bytes.length = 0 := by rw [h0]; rfl
        have hv : bvN t.bytes = 0 := by rw [h0]; rfl
        rw [hv, z0, hl0] at hrd
        rw [hv, z0]
        repeat' (first | with_reducible refine And.intro (by first | omega | assumption | (constructor <;> assumption) | (simp; done) | (simp; omega) | (simp [*]; done) | ((repeat' refine And.intro ?_ ?_) <;> first | omega | assumption | (refine SlOk.so (n := ?_) ?_ ?_; rotate_left; assumption; omega) | (simp; done) | fail) | fail) ?_ | simp (maxSteps := 4000000) (disch := omega) only [go_sem, Nat.reduceBEq, Nat.reduceAdd, Nat.reduceMul, Nat.reduceSub, Nat.reduceLT, Nat.reduceLeDiff, Int.reduceToNat, Int.reduceLT, Int.reduceLE, Int.reduceAdd, Int.reduceMul, Int.reduceSub, Int.reduceNeg, Int.reduceDiv, Int.reduceMod, Nat.reduceBNe, Nat.reduceGT, Int.reduceBEq, Int.reduceBNe, Int.reduceGT, Nat.reduceDiv, Nat.reduceMod, Nat.reducePow, Int.reducePow, gt_iff_lt, ge_iff_le, List.reduceReplicate, ↓reduceIte, Try.f89, c1, bne, hl0] | refine callS_fp (hrd) (by simp [closed, closeds, closeds_ints, closed_wE]) (next_of 1000 ?_))
        first | exact ⟨BExt.refl _, (), rfl, by simp [closed, closeds], trivial⟩ | exact ⟨(), rfl, by simp [closed, closeds], trivial⟩ | exact ⟨BExt.refl _, (), by simp [closed, closeds], trivial⟩ | exact ⟨(), by simp [closed, closeds], trivial⟩ | exact ⟨BExt.refl _, (), by simp [closed, closeds, bytes_any]⟩ | exact ⟨(), by simp [closed, closeds, bytes_any]⟩
      · have hlen : 1 ≤ t.bytes.length := by
          rcases Nat.eq_zero_or_pos t.bytes.length with h3 | h3
          · exact absurd (List.length_eq_zero_iff.1 h3) h0
          · exact h3
        have m1 := hbt.ld 0 (by omega)
        have m2 := hbt.lS 0 (by omega)
        have m3 := hbt.lD (by omega)
        have m4 := hbt.ok.so (by omega)
        by_cases h3 : t.bytes.getD 0 0 = 0
        · have e1 : asW t = (0, 42) := by rw [asW, if_neg (by simpa using h1), if_neg (by omega), if_pos ⟨by omega, h3⟩]
          rw [e1, z0]
          rw [h3] at m1
          have m5 : rawCell B0 (adrAt s.bA 0) = .int .u8 0 := m1
          repeat' (first | with_reducible refine And.intro (by first | omega | assumption | (constructor <;> assumption) | (simp; done) | (simp; omega) | (simp [*]; done) | ((repeat' refine And.intro ?_ ?_) <;> first | omega | assumption | (refine SlOk.so (n := ?_) ?_ ?_; rotate_left; assumption; omega) | (simp; done) | fail) | fail) ?_ | simp (maxSteps := 4000000) (disch := omega) only [go_sem, Nat.reduceBEq, Nat.reduceAdd, Nat.reduceMul, Nat.reduceSub, Nat.reduceLT, Nat.reduceLeDiff, Int.reduceToNat, Int.reduceLT, Int.reduceLE, Int.reduceAdd, Int.reduceMul, Int.reduceSub, Int.reduceNeg, Int.reduceDiv, Int.reduceMod, Nat.reduceBNe, Nat.reduceGT, Int.reduceBEq, Int.reduceBNe, Int.reduceGT, Nat.reduceDiv, Nat.reduceMod, Nat.reducePow, Int.reducePow, gt_iff_lt, ge_iff_le, List.reduceReplicate, ↓reduceIte, Try.f89, c1, bne, m5] | ((first | refine condS_split (fun h => ?_) (fun h => ?_) | refine testS_split (fun h => ?_) (fun h => ?_) | refine testT_split (fun h => ?_) (fun h => ?_)) <;> (try simp only [bne_iff_ne, ne_eq, beq_iff_eq, decide_eq_true_eq, decide_eq_false_iff_not, Bool.not_eq_true, Bool.not_eq_false, Bool.not_true, Bool.not_false, bne_eq_false_iff_eq, beq_eq_false_iff_ne, Bool.and_eq_true, Bool.or_eq_true, Bool.and_eq_false_imp, Bool.or_eq_false_iff, Bool.not_eq_true', Bool.not_eq_false', Int.not_lt, Int.not_le] at h) <;> (try (exfalso; omega))))
          first | exact ⟨BExt.refl _, (), rfl, by simp [closed, closeds], trivial⟩ | exact ⟨(), rfl, by simp [closed, closeds], trivial⟩ | exact ⟨BExt.refl _, (), by simp [closed, closeds], trivial⟩ | exact ⟨(), by simp [closed, closeds], trivial⟩ | exact ⟨BExt.refl _, (), by simp [closed, closeds, bytes_any]⟩ | exact ⟨(), by simp [closed, closeds, bytes_any]⟩
        · have e1 : asW t = (bvN t.bytes, 0) := by rw [asW, if_neg (by simpa using h1), if_neg (by omega), if_neg (fun h => h3 h.2)]
          rw [e1]
          have hz : ((t.bytes.getD 0 0).toNat : Int) ≠ 0 := fun h => h3 (UInt8.toNat_inj.1 (by rw [UInt8.toNat_zero]; omega))
          obtain ⟨z, hz0⟩ : ∃ z : Int, z = ((t.bytes.getD 0 0).toNat : Int) := ⟨_, rfl⟩
          have m5 : rawCell B0 (adrAt s.bA 0) = .int .u8 z := by rw [m1, bE, hz0]
          rw [← hz0] at hz
          have c2 : (z == 0) = false := by simpa using hz
          have hrd := read_fn t.bytes t.bytes.length B0 s.bA s.bc hbt rfl h2
          obtain ⟨v1, v2, v3, v4, hw, -⟩ := wE_open (bvN t.bytes) (bvN_32 h2)
          rw [hw] at hrd ⊢
          repeat' (first | with_reducible refine And.intro (by first | omega | assumption | (constructor <;> assumption) | (simp; done) | (simp; omega) | (simp [*]; done) | ((repeat' refine And.intro ?_ ?_) <;> first | omega | assumption | (refine SlOk.so (n := ?_) ?_ ?_; rotate_left; assumption; omega) | (simp; done) | fail) | fail) ?_ | simp (maxSteps := 4000000) (disch := omega) only [go_sem, Nat.reduceBEq, Nat.reduceAdd, Nat.reduceMul, Nat.reduceSub, Nat.reduceLT, Nat.reduceLeDiff, Int.reduceToNat, Int.reduceLT, Int.reduceLE, Int.reduceAdd, Int.reduceMul, Int.reduceSub, Int.reduceNeg, Int.reduceDiv, Int.reduceMod, Nat.reduceBNe, Nat.reduceGT, Int.reduceBEq, Int.reduceBNe, Int.reduceGT, Nat.reduceDiv, Nat.reduceMod, Nat.reducePow, Int.reducePow, gt_iff_lt, ge_iff_le, List.reduceReplicate, ↓reduceIte, Try.f89, c1, bne, m5, c2] | refine callS_fp (hrd) (by simp [closed, closeds, closeds_ints, closed_wE]) (next_of 1000 ?_) | ((first | refine condS_split (fun h => ?_) (fun h => ?_) | refine testS_split (fun h => ?_) (fun h => ?_) | refine testT_split (fun h => ?_) (fun h => ?_)) <;> (try simp only [bne_iff_ne, ne_eq, beq_iff_eq, decide_eq_true_eq, decide_eq_false_iff_not, Bool.not_eq_true, Bool.not_eq_false, Bool.not_true, Bool.not_false, bne_eq_false_iff_eq, beq_eq_false_iff_ne, Bool.and_eq_true, Bool.or_eq_true, Bool.and_eq_false_imp, Bool.or_eq_false_iff, Bool.not_eq_true', Bool.not_eq_false', Int.not_lt, Int.not_le] at h) <;> (try (exfalso; omega))))
          first | exact ⟨BExt.refl _, (), rfl, by simp [closed, closeds], trivial⟩ | exact ⟨(), rfl, by simp [closed, closeds], trivial⟩ | exact ⟨BExt.refl _, (), by simp [closed, closeds], trivial⟩ | exact ⟨(), by simp [closed, closeds], trivial⟩ | exact ⟨BExt.refl _, (), by simp [closed, closeds, bytes_any]⟩ | exact ⟨(), by simp [closed, closeds, bytes_any]⟩
  · have c1 : (t.list == 0) = false := by simpa using h1
    have e1 : asW t = (0, 45) := by rw [asW, if_pos h1]
    rw [e1, z0]
    repeat' (first | with_reducible refine And.intro (by first | omega | assumption | (constructor <;> assumption) | (simp; done) | (simp; omega) | (simp [*]; done) | ((repeat' refine And.intro ?_ ?_) <;> first | omega | assumption | (refine SlOk.so (n := ?_) ?_ ?_; rotate_left; assumption; omega) | (simp; done) | fail) | fail) ?_ | simp (maxSteps := 4000000) (disch := omega) only [go_sem, Nat.reduceBEq, Nat.reduceAdd, Nat.reduceMul, Nat.reduceSub, Nat.reduceLT, Nat.reduceLeDiff, Int.reduceToNat, Int.reduceLT, Int.reduceLE, Int.reduceAdd, Int.reduceMul, Int.reduceSub, Int.reduceNeg, Int.reduceDiv, Int.reduceMod, Nat.reduceBNe, Nat.reduceGT, Int.reduceBEq, Int.reduceBNe, Int.reduceGT, Nat.reduceDiv, Nat.reduceMod, Nat.reducePow, Int.reducePow, gt_iff_lt, ge_iff_le, List.reduceReplicate, ↓reduceIte, Try.f89, c1, bne])
    first | exact ⟨BExt.refl _, (), rfl, by simp [closed, closeds], trivial⟩ | exact ⟨(), rfl, by simp [closed, closeds], trivial⟩ | exact ⟨BExt.refl _, (), by simp [closed, closeds], trivial⟩ | exact ⟨(), by simp [closed, closeds], trivial⟩ | exact ⟨BExt.refl _, (), by simp [closed, closeds, bytes_any]⟩ | exact ⟨(), by simp [closed, closeds, bytes_any]⟩
theorem asN_lt (t : Itm) : (asN t).1 < 18446744073709551616 := by
  unfold asN
  split
  · simp
  · split
    · simp
    · split
      · simp
      · exact bvN_8 (by omega)
theorem asNumber_fn {B : Base} {t : Itm} {s : Plc} (ht : ItAt B t s) :
    Does Try.prog 71 [.agg (itE t s)] B (fun _ : Unit => .tup [.int .u64 ((asN t).1 : Nat), .int .i64 ((asN t).2 : Nat)]) (fun _ _ => True) := by
  refine fn_of en71 (fun s B B' hB hR => hR) Try.func71 rfl in71 (by simp [Try.f71]) (by simp [closeds, closed]) (fun B0 hB0 => next_of 1000 ?_)
  replace ht := ht.ext hB0
  have hw := asWhole_fn ht
  by_cases h1 : t.list = 0
  · have c1 : (t.list == 0) = true := by simpa using h1
    rcases Nat.lt_or_ge 8 t.bytes.length with h2 | h2
    · have e1 : asN t = (0, 46) := by rw [asN, if_neg (by simpa using h1), if_pos h2]
      rw [e1]
      repeat' (first | with_reducible refine And.intro (by first | omega | assumption | (constructor <;> assumption) | (simp; done) | (simp; omega) | (simp [*]; done) | ((repeat' refine And.intro ?_ ?_) <;> first | omega | assumption | (refine SlOk.so (n := ?_) ?_ ?_; rotate_left; assumption; omega) | (simp; done) | fail) | fail) ?_ | simp (maxSteps := 4000000) (disch := omega) only [go_sem, Nat.reduceBEq, Nat.reduceAdd, Nat.reduceMul, Nat.reduceSub, Nat.reduceLT, Nat.reduceLeDiff, Int.reduceToNat, Int.reduceLT, Int.reduceLE, Int.reduceAdd, Int.reduceMul, Int.reduceSub, Int.reduceNeg, Int.reduceDiv, Int.reduceMod, Nat.reduceBNe, Nat.reduceGT, Int.reduceBEq, Int.reduceBNe, Int.reduceGT, Nat.reduceDiv, Nat.reduceMod, Nat.reducePow, Int.reducePow, gt_iff_lt, ge_iff_le, List.reduceReplicate, ↓reduceIte, Try.f71, c1, bne] | ((first | refine condS_split (fun h => ?_) (fun h => ?_) | refine testS_split (fun h => ?_) (fun h => ?_) | refine testT_split (fun h => ?_) (fun h => ?_)) <;> (try simp only [bne_iff_ne, ne_eq, beq_iff_eq, decide_eq_true_eq, decide_eq_false_iff_not, Bool.not_eq_true, Bool.not_eq_false, Bool.not_true, Bool.not_false, bne_eq_false_iff_eq, beq_eq_false_iff_ne, Bool.and_eq_true, Bool.or_eq_true, Bool.and_eq_false_imp, Bool.or_eq_false_iff, Bool.not_eq_true', Bool.not_eq_false', Int.not_lt, Int.not_le] at h) <;> (try (exfalso; omega))))
      first | exact ⟨BExt.refl _, (), rfl, by simp [closed, closeds], trivial⟩ | exact ⟨(), rfl, by simp [closed, closeds], trivial⟩ | exact ⟨BExt.refl _, (), by simp [closed, closeds], trivial⟩ | exact ⟨(), by simp [closed, closeds], trivial⟩ | exact ⟨BExt.refl _, (), by simp [closed, closeds, bytes_any]⟩ | exact ⟨(), by simp [closed, closeds, bytes_any]⟩
    · have e2 : asW t = if 0 < t.bytes.length ∧ t.bytes.getD 0 0 = 0 then (0, 42) else (bvN t.bytes, 0) := by rw [asW, if_neg (by simpa using h1), if_neg (by omega)]
      have e3 : asN t = if 0 < t.bytes.length ∧ t.bytes.getD 0 0 = 0 then (0, 42) else (bvN t.bytes, 0) := by rw [asN, if_neg (by simpa using h1), if_neg (by omega)]
      have e4 : asW t = asN t := by rw [e2, e3]
      rw [e4] at hw
      have hlt := asN_lt t
      have he : (asN t).2 = 0 ∨ (asN t).1 = 0 := by
        rw [e3]; split
        · exact .inr rfl
        · exact .inl rfl
      obtain ⟨v, e, hq⟩ : ∃ v e, asN t = (v, e) := ⟨_, _, rfl⟩
      rw [hq] at hw hlt he ⊢
      simp only at hw hlt he ⊢
      have hwv : wE v = .agg [.int .u64 (v : Int), .int .u64 0, .int .u64 0, .int .u64 0] := (wE_of (by constructor <;> omega)).symm
      rw [hwv] at hw
      by_cases hez : e = 0
      · subst hez
        repeat' (first | with_reducible refine And.intro (by first | omega | assumption | (constructor <;> assumption) | (simp; done) | (simp; omega) | (simp [*]; done) | ((repeat' refine And.intro ?_ ?_) <;> first | omega | assumption | (refine SlOk.so (n := ?_) ?_ ?_; rotate_left; assumption; omega) | (simp; done) | fail) | fail) ?_ | simp (maxSteps := 4000000) (disch := omega) only [go_sem, Nat.reduceBEq, Nat.reduceAdd, Nat.reduceMul, Nat.reduceSub, Nat.reduceLT, Nat.reduceLeDiff, Int.reduceToNat, Int.reduceLT, Int.reduceLE, Int.reduceAdd, Int.reduceMul, Int.reduceSub, Int.reduceNeg, Int.reduceDiv, Int.reduceMod, Nat.reduceBNe, Nat.reduceGT, Int.reduceBEq, Int.reduceBNe, Int.reduceGT, Nat.reduceDiv, Nat.reduceMod, Nat.reducePow, Int.reducePow, gt_iff_lt, ge_iff_le, List.reduceReplicate, ↓reduceIte, Try.f71, c1, bne] | refine callS_fp (hw) (by simp [closed, closeds, closeds_ints, closed_wE]) (next_of 1000 ?_) | ((first | refine condS_split (fun h => ?_) (fun h => ?_) | refine testS_split (fun h => ?_) (fun h => ?_) | refine testT_split (fun h => ?_) (fun h => ?_)) <;> (try simp only [bne_iff_ne, ne_eq, beq_iff_eq, decide_eq_true_eq, decide_eq_false_iff_not, Bool.not_eq_true, Bool.not_eq_false, Bool.not_true, Bool.not_false, bne_eq_false_iff_eq, beq_eq_false_iff_ne, Bool.and_eq_true, Bool.or_eq_true, Bool.and_eq_false_imp, Bool.or_eq_false_iff, Bool.not_eq_true', Bool.not_eq_false', Int.not_lt, Int.not_le] at h) <;> (try (exfalso; omega))))
        first | exact ⟨BExt.refl _, (), rfl, by simp [closed, closeds], trivial⟩ | exact ⟨(), rfl, by simp [closed, closeds], trivial⟩ | exact ⟨BExt.refl _, (), by simp [closed, closeds], trivial⟩ | exact ⟨(), by simp [closed, closeds], trivial⟩ | exact ⟨BExt.refl _, (), by simp [closed, closeds, bytes_any]⟩ | exact ⟨(), by simp [closed, closeds, bytes_any]⟩
      · have hv : v = 0 := by omega
        subst hv
        have hei : ((e : Nat) : Int) ≠ 0 := by omega
        repeat' (first | with_reducible refine And.intro (by first | omega | assumption | (constructor <;> assumption) | (simp; done) | (simp; omega) | (simp [*]; done) | ((repeat' refine And.intro ?_ ?_) <;> first | omega | assumption | (refine SlOk.so (n := ?_) ?_ ?_; rotate_left; assumption; omega) | (simp; done) | fail) | fail) ?_ | simp (maxSteps := 4000000) (disch := omega) only [go_sem, Nat.reduceBEq, Nat.reduceAdd, Nat.reduceMul, Nat.reduceSub, Nat.reduceLT, Nat.reduceLeDiff, Int.reduceToNat, Int.reduceLT, Int.reduceLE, Int.reduceAdd, Int.reduceMul, Int.reduceSub, Int.reduceNeg, Int.reduceDiv, Int.reduceMod, Nat.reduceBNe, Nat.reduceGT, Int.reduceBEq, Int.reduceBNe, Int.reduceGT, Nat.reduceDiv, Nat.reduceMod, Nat.reducePow, Int.reducePow, gt_iff_lt, ge_iff_le, List.reduceReplicate, ↓reduceIte, Try.f71, c1, bne] | refine callS_fp (hw) (by simp [closed, closeds, closeds_ints, closed_wE]) (next_of 1000 ?_) | ((first | refine condS_split (fun h => ?_) (fun h => ?_) | refine testS_split (fun h => ?_) (fun h => ?_) | refine testT_split (fun h => ?_) (fun h => ?_)) <;> (try simp only [bne_iff_ne, ne_eq, beq_iff_eq, decide_eq_true_eq, decide_eq_false_iff_not, Bool.not_eq_true, Bool.not_eq_false, Bool.not_true, Bool.not_false, bne_eq_false_iff_eq, beq_eq_false_iff_ne, Bool.and_eq_true, Bool.or_eq_true, Bool.and_eq_false_imp, Bool.or_eq_false_iff, Bool.not_eq_true', Bool.not_eq_false', Int.not_lt, Int.not_le] at h) <;> (try (exfalso; omega))))
        first | exact ⟨BExt.refl _, (), rfl, by simp [closed, closeds], trivial⟩ | exact ⟨(), rfl, by simp [closed, closeds], trivial⟩ | exact ⟨BExt.refl _, (), by simp [closed, closeds], trivial⟩ | exact ⟨(), by simp [closed, closeds], trivial⟩ | exact ⟨BExt.refl _, (), by simp [closed, closeds, bytes_any]⟩ | exact ⟨(), by simp [closed, closeds, bytes_any]⟩
  · have c1 : (t.list == 0) = false := by simpa using h1
    have e1 : asN t = (0, 45) := by rw [asN, if_pos h1]
    have e2 : asW t = (0, 45) := by rw [asW, if_pos h1]
    have z0 : wE 0 = .agg [.int .u64 0, .int .u64 0, .int .u64 0, .int .u64 0] := rfl
    rw [e2, z0] at hw
    rw [e1]
    repeat' (first | with_reducible refine And.intro (by first | omega | assumption | (constructor <;> assumption) | (simp; done) | (simp; omega) | (simp [*]; done) | ((repeat' refine And.intro ?_ ?_) <;> first | omega | assumption | (refine SlOk.so (n := ?_) ?_ ?_; rotate_left; assumption; omega) | (simp; done) | fail) | fail) ?_ | simp (maxSteps := 4000000) (disch := omega) only [go_sem, Nat.reduceBEq, Nat.reduceAdd, Nat.reduceMul, Nat.reduceSub, Nat.reduceLT, Nat.reduceLeDiff, Int.reduceToNat, Int.reduceLT, Int.reduceLE, Int.reduceAdd, Int.reduceMul, Int.reduceSub, Int.reduceNeg, Int.reduceDiv, Int.reduceMod, Nat.reduceBNe, Nat.reduceGT, Int.reduceBEq, Int.reduceBNe, Int.reduceGT, Nat.reduceDiv, Nat.reduceMod, Nat.reducePow, Int.reducePow, gt_iff_lt, ge_iff_le, List.reduceReplicate, ↓reduceIte, Try.f71, c1, bne] | refine callS_fp (hw) (by simp [closed, closeds, closeds_ints, closed_wE]) (next_of 1000 ?_))
    first | exact ⟨BExt.refl _, (), rfl, by simp [closed, closeds], trivial⟩ | exact ⟨(), rfl, by simp [closed, closeds], trivial⟩ | exact ⟨BExt.refl _, (), by simp [closed, closeds], trivial⟩ | exact ⟨(), by simp [closed, closeds], trivial⟩ | exact ⟨BExt.refl _, (), by simp [closed, closeds, bytes_any]⟩ | exact ⟨(), by simp [closed, closeds, bytes_any]⟩
theorem open_fn (b : List UInt8) (n : Nat) (B : Base) (ad : Option Addr) (cap : Nat) (hb : BytesAt B ad b) (hn : b.length = n) (hcap : n ≤ cap) (hc : n ≤ 1099511627776) (h0 : 1 ≤ n) (h1 : (b.getD 0 0).toNat < 128) :
    Does Try.prog 44 [.raw (.slice ad n cap)] B (fun u : Option Addr × Nat => .tup [bE (b.getD 0 0), .raw (.slice u.1 (n - 1) u.2), .int .i64 0]) (fun u B' => BytesAt B' u.1 (b.drop 1) ∧ n - 1 ≤ u.2) := by
  subst hn
  refine fn_of en44 (fun s B B' hB hR => ⟨hR.1.ext hB, hR.2⟩) Try.func44 rfl in44 (by simp [Try.f44]) (by simp [closeds, closed]) (fun B0 hB0 => next_of 1000 ?_)
  replace hb := hb.ext hB0
  have m1 := hb.ld 0 (by omega)
  have m2 := hb.lS 0 (by omega)
  have m3 := hb.lD (by omega)
  have m4 := hb.ok.so (by omega)
  obtain ⟨z, hz⟩ : ∃ z, z = (b.getD 0 0).toNat := ⟨_, rfl⟩
  have m5 : rawCell B0 (adrAt ad 0) = .int .u8 (z : Int) := by rw [m1, bE, hz]
  have eb : bE (b.getD 0 0) = .int .u8 (z : Int) := by rw [bE, hz]
  rw [← hz] at h1
  rw [eb]
  have c0 : (((b.length : Nat) : Int) == 0) = false := by rw [beq_eq_false_iff_ne]; omega
  repeat' (first | with_reducible refine And.intro (by first | omega | assumption | (constructor <;> assumption) | (simp; done) | (simp; omega) | (simp [*]; done) | ((repeat' refine And.intro ?_ ?_) <;> first | omega | assumption | (refine SlOk.so (n := ?_) ?_ ?_; rotate_left; assumption; omega) | (simp; done) | fail) | fail) ?_ | simp (maxSteps := 4000000) (disch := omega) only [go_sem, Nat.reduceBEq, Nat.reduceAdd, Nat.reduceMul, Nat.reduceSub, Nat.reduceLT, Nat.reduceLeDiff, Int.reduceToNat, Int.reduceLT, Int.reduceLE, Int.reduceAdd, Int.reduceMul, Int.reduceSub, Int.reduceNeg, Int.reduceDiv, Int.reduceMod, Nat.reduceBNe, Nat.reduceGT, Int.reduceBEq, Int.reduceBNe, Int.reduceGT, Nat.reduceDiv, Nat.reduceMod, Nat.reducePow, Int.reducePow, gt_iff_lt, ge_iff_le, List.reduceReplicate, ↓reduceIte, Try.f44, c0, m5] | with_reducible refine drawT_of (id := 4) [0, 1, 2, 3, 4, 5, 6, 7, 8] mixed (by kernel_rfl) (by simp) (fun hin => dt_of 1000 hin ?_) | ((first | refine condS_split (fun h => ?_) (fun h => ?_) | refine testS_split (fun h => ?_) (fun h => ?_) | refine testT_split (fun h => ?_) (fun h => ?_)) <;> (try simp only [bne_iff_ne, ne_eq, beq_iff_eq, decide_eq_true_eq, decide_eq_false_iff_not, Bool.not_eq_true, Bool.not_eq_false, Bool.not_true, Bool.not_false, bne_eq_false_iff_eq, beq_eq_false_iff_ne, Bool.and_eq_true, Bool.or_eq_true, Bool.and_eq_false_imp, Bool.or_eq_false_iff, Bool.not_eq_true', Bool.not_eq_false', Int.not_lt, Int.not_le] at h) <;> (try (exfalso; omega))))
  refine callT_f (clone_fn (b.drop 1) (b.length - 1) B0 _ (cap - 1) (bytes_from hb 1 hcap) (by simp) (by omega)) (fun _ => by simp [closed]) (by kernel_rfl) (ck_of (by kernel_rfl) (nmT_of (by kernel_rfl))) (fun hin2 s1 B1 hB1 hR1 => dt_of 1000 hin2 ?_)
  change BExt B0 B1 at hB1
  repeat' (first | with_reducible refine And.intro (by first | omega | assumption | (constructor <;> assumption) | (simp; done) | (simp; omega) | (simp [*]; done) | ((repeat' refine And.intro ?_ ?_) <;> first | omega | assumption | (refine SlOk.so (n := ?_) ?_ ?_; rotate_left; assumption; omega) | (simp; done) | fail) | fail) ?_ | simp (maxSteps := 4000000) (disch := omega) only [go_sem, Nat.reduceBEq, Nat.reduceAdd, Nat.reduceMul, Nat.reduceSub, Nat.reduceLT, Nat.reduceLeDiff, Int.reduceToNat, Int.reduceLT, Int.reduceLE, Int.reduceAdd, Int.reduceMul, Int.reduceSub, Int.reduceNeg, Int.reduceDiv, Int.reduceMod, Nat.reduceBNe, Nat.reduceGT, Int.reduceBEq, Int.reduceBNe, Int.reduceGT, Nat.reduceDiv, Nat.reduceMod, Nat.reducePow, Int.reducePow, gt_iff_lt, ge_iff_le, List.reduceReplicate, ↓reduceIte] | with_reducible refine endT_of (by kernel_rfl) (nmT_of (by kernel_rfl)) (next_of 1000 ?_))
  first | exact ⟨hB1, s1, rfl, by simp [closed, closeds], hR1⟩ | exact ⟨s1, rfl, by simp [closed, closeds], hR1⟩ | exact ⟨hB1, s1, by simp [closed, closeds], hR1⟩ | exact ⟨s1, by simp [closed, closeds], hR1⟩ | exact ⟨hB1, s1, by simp [closed, closeds, bytes_any]⟩ | exact ⟨s1, by simp [closed, closeds, bytes_any]⟩
end Go.Proofs.Ytepabkjfnpaijaa

