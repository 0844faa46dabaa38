/- Part of a proof over the seat Ytepabkjfnpaijaa. -/
import Derived.Test.YtepabkjfnpaijaaPA
namespace Go.Proofs.Ytepabkjfnpaijaa
open Go RowKit Go.Ew
set_option maxRecDepth 100000
set_option linter.unusedSimpArgs false
set_option linter.unusedVariables false
set_option maxHeartbeats 4000000
theorem in88 : codeIn Try.f88.ntmps (Try.f88.body.getD .skip) = true := by kernel_rfl
theorem bytes_any {B : Base} (ad : Option Addr) : BytesAt B ad [] := ⟨fun a _ h0 => absurd h0 (by simp), fun h => absurd h (by simp), fun j hj => absurd hj (by simp)⟩
theorem bytes_from {B : Base} {ad : Option Addr} {l : List UInt8} {cap : Nat} (h : BytesAt B ad l) (k : Nat) (hc : l.length ≤ cap) : BytesAt B (if cap = k then ad else ad.map (·.add k)) (l.drop k) := by
  split
  · rename_i e
    rw [List.drop_eq_nil_of_le (by omega)]
    exact bytes_any _
  · exact h.drop k
/-- What stands ahead of an item: whether it is a list, where its payload lies; or why it is none. -/
def finM (b : List UInt8) (ls fr n : Nat) : (Nat × Nat × Nat) × Nat :=
  if b.length - fr < n then ((0, 0, 0), 41) else if ls = 0 ∧ n = 1 ∧ (b.getD 1 0).toNat < 128 then ((0, 0, 0), 42) else ((ls, fr, fr + n), 0)
def tailM (b : List UInt8) (ls n : Nat) : (Nat × Nat × Nat) × Nat :=
  if n ≤ 55 then finM b ls 1 n else
  if (longM (b.drop 1) (n - 55)).2 ≠ 0 then ((0, 0, 0), (longM (b.drop 1) (n - 55)).2) else finM b ls (1 + (n - 55)) (longM (b.drop 1) (n - 55)).1
def headM (b : List UInt8) : (Nat × Nat × Nat) × Nat :=
  if b = [] then ((0, 0, 0), 41) else
  if (b.getD 0 0).toNat < 128 then ((0, 0, 1), 0) else
  if 192 ≤ (b.getD 0 0).toNat then tailM b 1 ((b.getD 0 0).toNat - 192) else tailM b 0 ((b.getD 0 0).toNat - 128)
abbrev pcE (p : Nat × Nat × Nat) : EV := .agg [.int .i64 (p.1 : Nat), .int .i64 (p.2.1 : Nat), .int .i64 (p.2.2 : Nat)]
theorem longM_ok {l : List UInt8} {k : Nat} (h : (longM l k).2 = 0) : k ≤ l.length ∧ 56 ≤ (longM l k).1 := by
  unfold longM at h ⊢
  split at h
  · simp at h
  · split at h
    · simp at h
    · split at h
      · simp at h
      · rename_i h1 h2 h3
        rw [if_neg h1, if_neg h2, if_neg h3]
        simp only; omega
theorem longM_err (l : List UInt8) (k : Nat) : (longM l k).2 ≤ 46 := by
  unfold longM; split
  · simp
  · split
    · simp
    · split <;> simp
/-- A head that is one: its bounds. -/
theorem finM_ok {b : List UInt8} {ls fr n : Nat} (h : (finM b ls fr n).2 = 0) : (finM b ls fr n).1 = (ls, fr, fr + n) ∧ ¬ b.length - fr < n := by
  unfold finM at h ⊢
  split at h
  · simp at h
  · split at h
    · simp at h
    · rename_i h1 h2
      rw [if_neg h1, if_neg h2]
      exact ⟨rfl, h1⟩
theorem tailM_ok {b : List UInt8} {ls n : Nat} (hb : 1 ≤ b.length) (h : (tailM b ls n).2 = 0) : (tailM b ls n).1.2.1 ≤ (tailM b ls n).1.2.2 ∧ (tailM b ls n).1.2.2 ≤ b.length ∧ 1 ≤ (tailM b ls n).1.2.2 ∧ (tailM b ls n).1.1 = ls := by
  unfold tailM at h ⊢
  split at h
  · rename_i h2
    rw [if_pos h2]
    obtain ⟨e1, e2⟩ := finM_ok h
    rw [e1]
    exact ⟨by simp only; omega, by simp only; omega, by simp only; omega, rfl⟩
  · rename_i h2
    rw [if_neg h2]
    split at h
    · rename_i h3; exact absurd h h3
    · rename_i h3
      rw [if_neg h3]
      obtain ⟨e1, e2⟩ := finM_ok h
      obtain ⟨e3, e4⟩ := longM_ok (l := b.drop 1) (k := n - 55) (by omega)
      rw [e1]
      simp only [List.length_drop] at e3
      exact ⟨by simp only; omega, by simp only; omega, by simp only; omega, rfl⟩
theorem headM_ok {b : List UInt8} (h : (headM b).2 = 0) : (headM b).1.2.1 ≤ (headM b).1.2.2 ∧ (headM b).1.2.2 ≤ b.length ∧ 1 ≤ (headM b).1.2.2 ∧ (headM b).1.1 ≤ 1 := by
  unfold headM at h ⊢
  split at h
  · simp at h
  · rename_i h0
    have hb : 1 ≤ b.length := by
      rcases Nat.eq_zero_or_pos b.length with h1 | h1
      · exact absurd (List.length_eq_zero_iff.1 h1) h0
      · exact h1
    rw [if_neg h0]
    split at h
    · rename_i h1
      rw [if_pos h1]; simp; omega
    · rename_i h1
      rw [if_neg h1]
      split at h
      · rename_i h2
        rw [if_pos h2]
        obtain ⟨a1, a2, a3, a4⟩ := tailM_ok hb h
        omega
      · rename_i h2
        rw [if_neg h2]
        obtain ⟨a1, a2, a3, a4⟩ := tailM_ok hb h
        omega
theorem finM_err (b : List UInt8) (ls fr n : Nat) : (finM b ls fr n).2 ≤ 46 := by
  unfold finM; split
  · simp
  · split <;> simp
theorem tailM_err (b : List UInt8) (ls n : Nat) : (tailM b ls n).2 ≤ 46 := by
  unfold tailM
  split
  · exact finM_err _ _ _ _
  · split
    · exact longM_err _ _
    · exact finM_err _ _ _ _
theorem headM_err (b : List UInt8) : (headM b).2 ≤ 46 := by
  unfold headM
  split
  · simp
  · split
    · simp
    · split <;> exact tailM_err _ _ _
theorem headI_fn (b : List UInt8) (n : Nat) (B : Base) (ad : Option Addr) (cap : Nat) (hb : BytesAt B ad b) (hn : b.length = n) (hcap : n ≤ cap) (hc : n ≤ 4611686018427387904) :
    Does Try.prog 88 [.raw (.slice ad n cap)] B (fun _ : Unit => .tup [pcE (headM b).1, .int .i64 ((headM b).2 : Nat)]) (fun _ _ => True) := by
  subst hn
  refine fn_of en88 (fun s B B' hB hR => hR) Try.func88 rfl in88 (by simp [Try.f88]) (by simp [closeds, closed]) (fun B0 hB0 => next_of 1000 ?_)
  replace hb := hb.ext hB0
  by_cases h0 : b = []
  · subst h0
    repeat' (simp (maxSteps := 4000000) (disch := omega) only [go_sem, Nat.reduceBEq, Nat.reduceAdd, Nat.reduceMul, Nat.reduceSub, Nat.reduceLT, Nat.reduceLeDiff, Int.reduceToNat, Int.reduceLT, Int.reduceLE, Int.reduceAdd, Int.reduceMul, Int.reduceSub, Int.reduceNeg, Int.reduceDiv, Int.reduceMod, Nat.reduceBNe, Nat.reduceGT, Int.reduceBEq, Int.reduceBNe, Int.reduceGT, Nat.reduceDiv, Nat.reduceMod, Nat.reducePow, Int.reducePow, gt_iff_lt, ge_iff_le, List.reduceReplicate, ↓reduceIte, Try.f88, List.length_nil])
    exact ⟨BExt.refl _, (), by simp [headM, closed, closeds]⟩
  · have hlen : 1 ≤ b.length := by
      rcases Nat.eq_zero_or_pos b.length with h1 | h1
      · exact absurd (List.length_eq_zero_iff.1 h1) h0
      · exact h1
    have c0 : (((b.length : Nat) : Int) == 0) = false := by rw [beq_eq_false_iff_ne]; omega
    have m1 := hb.ld 0 (by omega)
    have m2 := hb.lS 0 (by omega)
    have m3 := hb.lD (by omega)
    have m4 := hb.ok.so (by omega)
    have hM : headM b = if (b.getD 0 0).toNat < 128 then ((0, 0, 1), 0) else if 192 ≤ (b.getD 0 0).toNat then tailM b 1 ((b.getD 0 0).toNat - 192) else tailM b 0 ((b.getD 0 0).toNat - 128) := by unfold headM; rw [if_neg h0]
    obtain ⟨z, hz⟩ : ∃ z, z = (b.getD 0 0).toNat := ⟨_, rfl⟩
    have m5 : rawCell B0 (adrAt ad 0) = .int .u8 (z : Int) := by rw [m1, bE, hz]
    have hz2 : z < 256 := by rw [hz]; exact (b.getD 0 0).toNat_lt
    rw [← hz] at hM
    by_cases h1 : z < 128
    · rw [if_pos h1] at hM
      rw [hM]
      repeat' (first | with_reducible refine And.intro (by first | omega | assumption | (constructor <;> assumption) | (simp; done) | (simp; omega) | (simp [*]; done) | ((repeat' refine And.intro ?_ ?_) <;> first | omega | assumption | (refine SlOk.so (n := ?_) ?_ ?_; rotate_left; assumption; omega) | (simp; done) | fail) | fail) ?_ | simp (maxSteps := 4000000) (disch := omega) only [go_sem, Nat.reduceBEq, Nat.reduceAdd, Nat.reduceMul, Nat.reduceSub, Nat.reduceLT, Nat.reduceLeDiff, Int.reduceToNat, Int.reduceLT, Int.reduceLE, Int.reduceAdd, Int.reduceMul, Int.reduceSub, Int.reduceNeg, Int.reduceDiv, Int.reduceMod, Nat.reduceBNe, Nat.reduceGT, Int.reduceBEq, Int.reduceBNe, Int.reduceGT, Nat.reduceDiv, Nat.reduceMod, Nat.reducePow, Int.reducePow, gt_iff_lt, ge_iff_le, List.reduceReplicate, ↓reduceIte, Try.f88, c0, m5] | ((first | refine condS_split (fun h => ?_) (fun h => ?_) | refine testS_split (fun h => ?_) (fun h => ?_) | refine testT_split (fun h => ?_) (fun h => ?_)) <;> (try simp only [bne_iff_ne, ne_eq, beq_iff_eq, decide_eq_true_eq, decide_eq_false_iff_not, Bool.not_eq_true, Bool.not_eq_false, Bool.not_true, Bool.not_false, bne_eq_false_iff_eq, beq_eq_false_iff_ne, Bool.and_eq_true, Bool.or_eq_true, Bool.and_eq_false_imp, Bool.or_eq_false_iff, Bool.not_eq_true', Bool.not_eq_false', Int.not_lt, Int.not_le] at h) <;> (try (exfalso; omega))))
      exact ⟨BExt.refl _, (), by simp [closed, closeds]⟩
    · rw [if_neg h1] at hM
      by_cases h2 : 192 ≤ z
      · rw [if_pos h2] at hM
        by_cases h3 : z - 192 ≤ 55
        · rw [tailM, if_pos h3] at hM
          by_cases h4 : b.length - 1 < z - 192
          · rw [finM, if_pos h4] at hM
            rw [hM]
            repeat' (first | with_reducible refine And.intro (by first | omega | assumption | (constructor <;> assumption) | (simp; done) | (simp; omega) | (simp [*]; done) | ((repeat' refine And.intro ?_ ?_) <;> first | omega | assumption | (refine SlOk.so (n := ?_) ?_ ?_; rotate_left; assumption; omega) | (simp; done) | fail) | fail) ?_ | simp (maxSteps := 4000000) (disch := omega) only [go_sem, Nat.reduceBEq, Nat.reduceAdd, Nat.reduceMul, Nat.reduceSub, Nat.reduceLT, Nat.reduceLeDiff, Int.reduceToNat, Int.reduceLT, Int.reduceLE, Int.reduceAdd, Int.reduceMul, Int.reduceSub, Int.reduceNeg, Int.reduceDiv, Int.reduceMod, Nat.reduceBNe, Nat.reduceGT, Int.reduceBEq, Int.reduceBNe, Int.reduceGT, Nat.reduceDiv, Nat.reduceMod, Nat.reducePow, Int.reducePow, gt_iff_lt, ge_iff_le, List.reduceReplicate, ↓reduceIte, Try.f88, c0, m5] | ((first | refine condS_split (fun h => ?_) (fun h => ?_) | refine testS_split (fun h => ?_) (fun h => ?_) | refine testT_split (fun h => ?_) (fun h => ?_)) <;> (try simp only [bne_iff_ne, ne_eq, beq_iff_eq, decide_eq_true_eq, decide_eq_false_iff_not, Bool.not_eq_true, Bool.not_eq_false, Bool.not_true, Bool.not_false, bne_eq_false_iff_eq, beq_eq_false_iff_ne, Bool.and_eq_true, Bool.or_eq_true, Bool.and_eq_false_imp, Bool.or_eq_false_iff, Bool.not_eq_true', Bool.not_eq_false', Int.not_lt, Int.not_le] at h) <;> (try (exfalso; omega))))
            exact ⟨BExt.refl _, (), by simp [closed, closeds]⟩
          · rw [finM, if_neg h4, if_neg (by omega)] at hM
            rw [hM]
            repeat' (first | with_reducible refine And.intro (by first | omega | assumption | (constructor <;> assumption) | (simp; done) | (simp; omega) | (simp [*]; done) | ((repeat' refine And.intro ?_ ?_) <;> first | omega | assumption | (refine SlOk.so (n := ?_) ?_ ?_; rotate_left; assumption; omega) | (simp; done) | fail) | fail) ?_ | simp (maxSteps := 4000000) (disch := omega) only [go_sem, Nat.reduceBEq, Nat.reduceAdd, Nat.reduceMul, Nat.reduceSub, Nat.reduceLT, Nat.reduceLeDiff, Int.reduceToNat, Int.reduceLT, Int.reduceLE, Int.reduceAdd, Int.reduceMul, Int.reduceSub, Int.reduceNeg, Int.reduceDiv, Int.reduceMod, Nat.reduceBNe, Nat.reduceGT, Int.reduceBEq, Int.reduceBNe, Int.reduceGT, Nat.reduceDiv, Nat.reduceMod, Nat.reducePow, Int.reducePow, gt_iff_lt, ge_iff_le, List.reduceReplicate, ↓reduceIte, Try.f88, c0, m5] | ((first | refine condS_split (fun h => ?_) (fun h => ?_) | refine testS_split (fun h => ?_) (fun h => ?_) | refine testT_split (fun h => ?_) (fun h => ?_)) <;> (try simp only [bne_iff_ne, ne_eq, beq_iff_eq, decide_eq_true_eq, decide_eq_false_iff_not, Bool.not_eq_true, Bool.not_eq_false, Bool.not_true, Bool.not_false, bne_eq_false_iff_eq, beq_eq_false_iff_ne, Bool.and_eq_true, Bool.or_eq_true, Bool.and_eq_false_imp, Bool.or_eq_false_iff, Bool.not_eq_true', Bool.not_eq_false', Int.not_lt, Int.not_le] at h) <;> (try (exfalso; omega))))
            exact ⟨BExt.refl _, (), by simp [closed, closeds] <;> omega⟩
        · rw [tailM, if_neg h3] at hM
          have e5 : ((z : Int) - 192 - 55) = ((z - 192 - 55 : Nat) : Int) := by omega
          have hlg := long_fn (b.drop 1) (z - 192 - 55) (b.length - 1) B0 _ (cap - 1) (bytes_from hb 1 hcap) (by simp) (by omega) (by omega) (by omega) (by omega)
          have hvl := longM_le (b.drop 1) (z - 192 - 55)
          by_cases h4 : (longM (b.drop 1) (z - 192 - 55)).2 = 0
          · rw [if_neg (by omega)] at hM
            obtain ⟨hk1, hk2⟩ := longM_ok h4
            rw [h4] at hlg
            rw [List.length_drop] at hk1
            obtain ⟨v, hv⟩ : ∃ v, v = (longM (b.drop 1) (z - 192 - 55)).1 := ⟨_, rfl⟩
            rw [← hv] at hM hlg hvl hk2
            by_cases h5 : b.length - (1 + (z - 192 - 55)) < v
            · rw [finM, if_pos h5] at hM
              rw [hM]
              repeat' (first | with_reducible refine And.intro (by first | omega | assumption | (constructor <;> assumption) | (simp; done) | (simp; omega) | (simp [*]; done) | ((repeat' refine And.intro ?_ ?_) <;> first | omega | assumption | (refine SlOk.so (n := ?_) ?_ ?_; rotate_left; assumption; omega) | (simp; done) | fail) | fail) ?_ | simp (maxSteps := 4000000) (disch := omega) only [go_sem, Nat.reduceBEq, Nat.reduceAdd, Nat.reduceMul, Nat.reduceSub, Nat.reduceLT, Nat.reduceLeDiff, Int.reduceToNat, Int.reduceLT, Int.reduceLE, Int.reduceAdd, Int.reduceMul, Int.reduceSub, Int.reduceNeg, Int.reduceDiv, Int.reduceMod, Nat.reduceBNe, Nat.reduceGT, Int.reduceBEq, Int.reduceBNe, Int.reduceGT, Nat.reduceDiv, Nat.reduceMod, Nat.reducePow, Int.reducePow, gt_iff_lt, ge_iff_le, List.reduceReplicate, ↓reduceIte, Try.f88, c0, m5, e5] | refine callS_fp (hlg) (by simp [closed, closeds, closeds_ints, closed_wE]) (next_of 1000 ?_) | ((first | refine condS_split (fun h => ?_) (fun h => ?_) | refine testS_split (fun h => ?_) (fun h => ?_) | refine testT_split (fun h => ?_) (fun h => ?_)) <;> (try simp only [bne_iff_ne, ne_eq, beq_iff_eq, decide_eq_true_eq, decide_eq_false_iff_not, Bool.not_eq_true, Bool.not_eq_false, Bool.not_true, Bool.not_false, bne_eq_false_iff_eq, beq_eq_false_iff_ne, Bool.and_eq_true, Bool.or_eq_true, Bool.and_eq_false_imp, Bool.or_eq_false_iff, Bool.not_eq_true', Bool.not_eq_false', Int.not_lt, Int.not_le] at h) <;> (try (exfalso; omega))))
              exact ⟨BExt.refl _, (), by simp [closed, closeds]⟩
            · rw [finM, if_neg h5, if_neg (by omega)] at hM
              rw [hM]
              repeat' (first | with_reducible refine And.intro (by first | omega | assumption | (constructor <;> assumption) | (simp; done) | (simp; omega) | (simp [*]; done) | ((repeat' refine And.intro ?_ ?_) <;> first | omega | assumption | (refine SlOk.so (n := ?_) ?_ ?_; rotate_left; assumption; omega) | (simp; done) | fail) | fail) ?_ | simp (maxSteps := 4000000) (disch := omega) only [go_sem, Nat.reduceBEq, Nat.reduceAdd, Nat.reduceMul, Nat.reduceSub, Nat.reduceLT, Nat.reduceLeDiff, Int.reduceToNat, Int.reduceLT, Int.reduceLE, Int.reduceAdd, Int.reduceMul, Int.reduceSub, Int.reduceNeg, Int.reduceDiv, Int.reduceMod, Nat.reduceBNe, Nat.reduceGT, Int.reduceBEq, Int.reduceBNe, Int.reduceGT, Nat.reduceDiv, Nat.reduceMod, Nat.reducePow, Int.reducePow, gt_iff_lt, ge_iff_le, List.reduceReplicate, ↓reduceIte, Try.f88, c0, m5, e5] | refine callS_fp (hlg) (by simp [closed, closeds, closeds_ints, closed_wE]) (next_of 1000 ?_) | ((first | refine condS_split (fun h => ?_) (fun h => ?_) | refine testS_split (fun h => ?_) (fun h => ?_) | refine testT_split (fun h => ?_) (fun h => ?_)) <;> (try simp only [bne_iff_ne, ne_eq, beq_iff_eq, decide_eq_true_eq, decide_eq_false_iff_not, Bool.not_eq_true, Bool.not_eq_false, Bool.not_true, Bool.not_false, bne_eq_false_iff_eq, beq_eq_false_iff_ne, Bool.and_eq_true, Bool.or_eq_true, Bool.and_eq_false_imp, Bool.or_eq_false_iff, Bool.not_eq_true', Bool.not_eq_false', Int.not_lt, Int.not_le] at h) <;> (try (exfalso; omega))))
              exact ⟨BExt.refl _, (), by simp [closed, closeds] <;> omega⟩
          · rw [if_pos h4] at hM
            rw [hM]
            have hne : (((longM (b.drop 1) (z - 192 - 55)).2 : Nat) : Int) ≠ 0 := by omega
            have hvl2 := longM_err (b.drop 1) (z - 192 - 55)
            obtain ⟨v, hv⟩ : ∃ v, v = (longM (b.drop 1) (z - 192 - 55)).1 := ⟨_, rfl⟩
            obtain ⟨e, he⟩ : ∃ e, e = (longM (b.drop 1) (z - 192 - 55)).2 := ⟨_, rfl⟩
            rw [← hv] at hlg
            rw [← he] at hlg hne h4 ⊢
            repeat' (first | with_reducible refine And.intro (by first | omega | assumption | (constructor <;> assumption) | (simp; done) | (simp; omega) | (simp [*]; done) | ((repeat' refine And.intro ?_ ?_) <;> first | omega | assumption | (refine SlOk.so (n := ?_) ?_ ?_; rotate_left; assumption; omega) | (simp; done) | fail) | fail) ?_ | simp (maxSteps := 4000000) (disch := omega) only [go_sem, Nat.reduceBEq, Nat.reduceAdd, Nat.reduceMul, Nat.reduceSub, Nat.reduceLT, Nat.reduceLeDiff, Int.reduceToNat, Int.reduceLT, Int.reduceLE, Int.reduceAdd, Int.reduceMul, Int.reduceSub, Int.reduceNeg, Int.reduceDiv, Int.reduceMod, Nat.reduceBNe, Nat.reduceGT, Int.reduceBEq, Int.reduceBNe, Int.reduceGT, Nat.reduceDiv, Nat.reduceMod, Nat.reducePow, Int.reducePow, gt_iff_lt, ge_iff_le, List.reduceReplicate, ↓reduceIte, Try.f88, c0, m5, e5] | refine callS_fp (hlg) (by simp [closed, closeds, closeds_ints, closed_wE]) (next_of 1000 ?_) | ((first | refine condS_split (fun h => ?_) (fun h => ?_) | refine testS_split (fun h => ?_) (fun h => ?_) | refine testT_split (fun h => ?_) (fun h => ?_)) <;> (try simp only [bne_iff_ne, ne_eq, beq_iff_eq, decide_eq_true_eq, decide_eq_false_iff_not, Bool.not_eq_true, Bool.not_eq_false, Bool.not_true, Bool.not_false, bne_eq_false_iff_eq, beq_eq_false_iff_ne, Bool.and_eq_true, Bool.or_eq_true, Bool.and_eq_false_imp, Bool.or_eq_false_iff, Bool.not_eq_true', Bool.not_eq_false', Int.not_lt, Int.not_le] at h) <;> (try (exfalso; omega))))
            exact ⟨BExt.refl _, (), by simp [closed, closeds]⟩
      · rw [if_neg h2] at hM
        by_cases h3 : z - 128 ≤ 55
        · rw [tailM, if_pos h3] at hM
          by_cases h4 : b.length - 1 < z - 128
          · rw [finM, if_pos h4] at hM
            rw [hM]
            repeat' (first | with_reducible refine And.intro (by first | omega | assumption | (constructor <;> assumption) | (simp; done) | (simp; omega) | (simp [*]; done) | ((repeat' refine And.intro ?_ ?_) <;> first | omega | assumption | (refine SlOk.so (n := ?_) ?_ ?_; rotate_left; assumption; omega) | (simp; done) | fail) | fail) ?_ | simp (maxSteps := 4000000) (disch := omega) only [go_sem, Nat.reduceBEq, Nat.reduceAdd, Nat.reduceMul, Nat.reduceSub, Nat.reduceLT, Nat.reduceLeDiff, Int.reduceToNat, Int.reduceLT, Int.reduceLE, Int.reduceAdd, Int.reduceMul, Int.reduceSub, Int.reduceNeg, Int.reduceDiv, Int.reduceMod, Nat.reduceBNe, Nat.reduceGT, Int.reduceBEq, Int.reduceBNe, Int.reduceGT, Nat.reduceDiv, Nat.reduceMod, Nat.reducePow, Int.reducePow, gt_iff_lt, ge_iff_le, List.reduceReplicate, ↓reduceIte, Try.f88, c0, m5] | ((first | refine condS_split (fun h => ?_) (fun h => ?_) | refine testS_split (fun h => ?_) (fun h => ?_) | refine testT_split (fun h => ?_) (fun h => ?_)) <;> (try simp only [bne_iff_ne, ne_eq, beq_iff_eq, decide_eq_true_eq, decide_eq_false_iff_not, Bool.not_eq_true, Bool.not_eq_false, Bool.not_true, Bool.not_false, bne_eq_false_iff_eq, beq_eq_false_iff_ne, Bool.and_eq_true, Bool.or_eq_true, Bool.and_eq_false_imp, Bool.or_eq_false_iff, Bool.not_eq_true', Bool.not_eq_false', Int.not_lt, Int.not_le] at h) <;> (try (exfalso; omega))))
            exact ⟨BExt.refl _, (), by simp [closed, closeds]⟩
          · by_cases h5 : z - 128 = 1
            · have k1 := hb.ld 1 (by omega)
              have k2 := hb.lS 1 (by omega)
              obtain ⟨y, hy⟩ : ∃ y, y = (b.getD 1 0).toNat := ⟨_, rfl⟩
              have k5 : rawCell B0 (adrAt ad 1) = .int .u8 (y : Int) := by rw [k1, bE, hy]
              by_cases h6 : y < 128
              · rw [finM, if_neg h4, if_pos ⟨rfl, h5, by omega⟩] at hM
                rw [hM]
                repeat' (first | with_reducible refine And.intro (by first | omega | assumption | (constructor <;> assumption) | (simp; done) | (simp; omega) | (simp [*]; done) | ((repeat' refine And.intro ?_ ?_) <;> first | omega | assumption | (refine SlOk.so (n := ?_) ?_ ?_; rotate_left; assumption; omega) | (simp; done) | fail) | fail) ?_ | simp (maxSteps := 4000000) (disch := omega) only [go_sem, Nat.reduceBEq, Nat.reduceAdd, Nat.reduceMul, Nat.reduceSub, Nat.reduceLT, Nat.reduceLeDiff, Int.reduceToNat, Int.reduceLT, Int.reduceLE, Int.reduceAdd, Int.reduceMul, Int.reduceSub, Int.reduceNeg, Int.reduceDiv, Int.reduceMod, Nat.reduceBNe, Nat.reduceGT, Int.reduceBEq, Int.reduceBNe, Int.reduceGT, Nat.reduceDiv, Nat.reduceMod, Nat.reducePow, Int.reducePow, gt_iff_lt, ge_iff_le, List.reduceReplicate, ↓reduceIte, Try.f88, c0, m5, k5] | ((first | refine condS_split (fun h => ?_) (fun h => ?_) | refine testS_split (fun h => ?_) (fun h => ?_) | refine testT_split (fun h => ?_) (fun h => ?_)) <;> (try simp only [bne_iff_ne, ne_eq, beq_iff_eq, decide_eq_true_eq, decide_eq_false_iff_not, Bool.not_eq_true, Bool.not_eq_false, Bool.not_true, Bool.not_false, bne_eq_false_iff_eq, beq_eq_false_iff_ne, Bool.and_eq_true, Bool.or_eq_true, Bool.and_eq_false_imp, Bool.or_eq_false_iff, Bool.not_eq_true', Bool.not_eq_false', Int.not_lt, Int.not_le] at h) <;> (try (exfalso; omega))))
                exact ⟨BExt.refl _, (), by simp [closed, closeds]⟩
              · rw [finM, if_neg h4, if_neg (by omega)] at hM
                rw [hM]
                repeat' (first | with_reducible refine And.intro (by first | omega | assumption | (constructor <;> assumption) | (simp; done) | (simp; omega) | (simp [*]; done) | ((repeat' refine And.intro ?_ ?_) <;> first | omega | assumption | (refine SlOk.so (n := ?_) ?_ ?_; rotate_left; assumption; omega) | (simp; done) | fail) | fail) ?_ | simp (maxSteps := 4000000) (disch := omega) only [go_sem, Nat.reduceBEq, Nat.reduceAdd, Nat.reduceMul, Nat.reduceSub, Nat.reduceLT, Nat.reduceLeDiff, Int.reduceToNat, Int.reduceLT, Int.reduceLE, Int.reduceAdd, Int.reduceMul, Int.reduceSub, Int.reduceNeg, Int.reduceDiv, Int.reduceMod, Nat.reduceBNe, Nat.reduceGT, Int.reduceBEq, Int.reduceBNe, Int.reduceGT, Nat.reduceDiv, Nat.reduceMod, Nat.reducePow, Int.reducePow, gt_iff_lt, ge_iff_le, List.reduceReplicate, ↓reduceIte, Try.f88, c0, m5, k5] | ((first | refine condS_split (fun h => ?_) (fun h => ?_) | refine testS_split (fun h => ?_) (fun h => ?_) | refine testT_split (fun h => ?_) (fun h => ?_)) <;> (try simp only [bne_iff_ne, ne_eq, beq_iff_eq, decide_eq_true_eq, decide_eq_false_iff_not, Bool.not_eq_true, Bool.not_eq_false, Bool.not_true, Bool.not_false, bne_eq_false_iff_eq, beq_eq_false_iff_ne, Bool.and_eq_true, Bool.or_eq_true, Bool.and_eq_false_imp, Bool.or_eq_false_iff, Bool.not_eq_true', Bool.not_eq_false', Int.not_lt, Int.not_le] at h) <;> (try (exfalso; omega))))
                exact ⟨BExt.refl _, (), by simp [closed, closeds] <;> omega⟩
            · rw [finM, if_neg h4, if_neg (by omega)] at hM
              rw [hM]
              repeat' (first | with_reducible refine And.intro (by first | omega | assumption | (constructor <;> assumption) | (simp; done) | (simp; omega) | (simp [*]; done) | ((repeat' refine And.intro ?_ ?_) <;> first | omega | assumption | (refine SlOk.so (n := ?_) ?_ ?_; rotate_left; assumption; omega) | (simp; done) | fail) | fail) ?_ | simp (maxSteps := 4000000) (disch := omega) only [go_sem, Nat.reduceBEq, Nat.reduceAdd, Nat.reduceMul, Nat.reduceSub, Nat.reduceLT, Nat.reduceLeDiff, Int.reduceToNat, Int.reduceLT, Int.reduceLE, Int.reduceAdd, Int.reduceMul, Int.reduceSub, Int.reduceNeg, Int.reduceDiv, Int.reduceMod, Nat.reduceBNe, Nat.reduceGT, Int.reduceBEq, Int.reduceBNe, Int.reduceGT, Nat.reduceDiv, Nat.reduceMod, Nat.reducePow, Int.reducePow, gt_iff_lt, ge_iff_le, List.reduceReplicate, ↓reduceIte, Try.f88, c0, m5] | ((first | refine condS_split (fun h => ?_) (fun h => ?_) | refine testS_split (fun h => ?_) (fun h => ?_) | refine testT_split (fun h => ?_) (fun h => ?_)) <;> (try simp only [bne_iff_ne, ne_eq, beq_iff_eq, decide_eq_true_eq, decide_eq_false_iff_not, Bool.not_eq_true, Bool.not_eq_false, Bool.not_true, Bool.not_false, bne_eq_false_iff_eq, beq_eq_false_iff_ne, Bool.and_eq_true, Bool.or_eq_true, Bool.and_eq_false_imp, Bool.or_eq_false_iff, Bool.not_eq_true', Bool.not_eq_false', Int.not_lt, Int.not_le] at h) <;> (try (exfalso; omega))))
              exact ⟨BExt.refl _, (), by simp [closed, closeds] <;> omega⟩
        · rw [tailM, if_neg h3] at hM
          have e5 : ((z : Int) - 128 - 55) = ((z - 128 - 55 : Nat) : Int) := by omega
          have hlg := long_fn (b.drop 1) (z - 128 - 55) (b.length - 1) B0 _ (cap - 1) (bytes_from hb 1 hcap) (by simp) (by omega) (by omega) (by omega) (by omega)
          have hvl := longM_le (b.drop 1) (z - 128 - 55)
          by_cases h4 : (longM (b.drop 1) (z - 128 - 55)).2 = 0
          · rw [if_neg (by omega)] at hM
            obtain ⟨hk1, hk2⟩ := longM_ok h4
            rw [h4] at hlg
            rw [List.length_drop] at hk1
            obtain ⟨v, hv⟩ : ∃ v, v = (longM (b.drop 1) (z - 128 - 55)).1 := ⟨_, rfl⟩
            rw [← hv] at hM hlg hvl hk2
            by_cases h5 : b.length - (1 + (z - 128 - 55)) < v
            · rw [finM, if_pos h5] at hM
              rw [hM]
              repeat' (first | with_reducible refine And.intro (by first | omega | assumption | (constructor <;> assumption) | (simp; done) | (simp; omega) | (simp [*]; done) | ((repeat' refine And.intro ?_ ?_) <;> first | omega | assumption | (refine SlOk.so (n := ?_) ?_ ?_; rotate_left; assumption; omega) | (simp; done) | fail) | fail) ?_ | simp (maxSteps := 4000000) (disch := omega) only [go_sem, Nat.reduceBEq, Nat.reduceAdd, Nat.reduceMul, Nat.reduceSub, Nat.reduceLT, Nat.reduceLeDiff, Int.reduceToNat, Int.reduceLT, Int.reduceLE, Int.reduceAdd, Int.reduceMul, Int.reduceSub, Int.reduceNeg, Int.reduceDiv, Int.reduceMod, Nat.reduceBNe, Nat.reduceGT, Int.reduceBEq, Int.reduceBNe, Int.reduceGT, Nat.reduceDiv, Nat.reduceMod, Nat.reducePow, Int.reducePow, gt_iff_lt, ge_iff_le, List.reduceReplicate, ↓reduceIte, Try.f88, c0, m5, e5] | refine callS_fp (hlg) (by simp [closed, closeds, closeds_ints, closed_wE]) (next_of 1000 ?_) | ((first | refine condS_split (fun h => ?_) (fun h => ?_) | refine testS_split (fun h => ?_) (fun h => ?_) | refine testT_split (fun h => ?_) (fun h => ?_)) <;> (try simp only [bne_iff_ne, ne_eq, beq_iff_eq, decide_eq_true_eq, decide_eq_false_iff_not, Bool.not_eq_true, Bool.not_eq_false, Bool.not_true, Bool.not_false, bne_eq_false_iff_eq, beq_eq_false_iff_ne, Bool.and_eq_true, Bool.or_eq_true, Bool.and_eq_false_imp, Bool.or_eq_false_iff, Bool.not_eq_true', Bool.not_eq_false', Int.not_lt, Int.not_le] at h) <;> (try (exfalso; omega))))
              exact ⟨BExt.refl _, (), by simp [closed, closeds]⟩
            · rw [finM, if_neg h5, if_neg (by omega)] at hM
              rw [hM]
              repeat' (first | with_reducible refine And.intro (by first | omega | assumption | (constructor <;> assumption) | (simp; done) | (simp; omega) | (simp [*]; done) | ((repeat' refine And.intro ?_ ?_) <;> first | omega | assumption | (refine SlOk.so (n := ?_) ?_ ?_; rotate_left; assumption; omega) | (simp; done) | fail) | fail) ?_ | simp (maxSteps := 4000000) (disch := omega) only [go_sem, Nat.reduceBEq, Nat.reduceAdd, Nat.reduceMul, Nat.reduceSub, Nat.reduceLT, Nat.reduceLeDiff, Int.reduceToNat, Int.reduceLT, Int.reduceLE, Int.reduceAdd, Int.reduceMul, Int.reduceSub, Int.reduceNeg, Int.reduceDiv, Int.reduceMod, Nat.reduceBNe, Nat.reduceGT, Int.reduceBEq, Int.reduceBNe, Int.reduceGT, Nat.reduceDiv, Nat.reduceMod, Nat.reducePow, Int.reducePow, gt_iff_lt, ge_iff_le, List.reduceReplicate, ↓reduceIte, Try.f88, c0, m5, e5] | refine callS_fp (hlg) (by simp [closed, closeds, closeds_ints, closed_wE]) (next_of 1000 ?_) | ((first | refine condS_split (fun h => ?_) (fun h => ?_) | refine testS_split (fun h => ?_) (fun h => ?_) | refine testT_split (fun h => ?_) (fun h => ?_)) <;> (try simp only [bne_iff_ne, ne_eq, beq_iff_eq, decide_eq_true_eq, decide_eq_false_iff_not, Bool.not_eq_true, Bool.not_eq_false, Bool.not_true, Bool.not_false, bne_eq_false_iff_eq, beq_eq_false_iff_ne, Bool.and_eq_true, Bool.or_eq_true, Bool.and_eq_false_imp, Bool.or_eq_false_iff, Bool.not_eq_true', Bool.not_eq_false', Int.not_lt, Int.not_le] at h) <;> (try (exfalso; omega))))
              exact ⟨BExt.refl _, (), by simp [closed, closeds] <;> omega⟩
          · rw [if_pos h4] at hM
            rw [hM]
            have hne : (((longM (b.drop 1) (z - 128 - 55)).2 : Nat) : Int) ≠ 0 := by omega
            have hvl2 := longM_err (b.drop 1) (z - 128 - 55)
            obtain ⟨v, hv⟩ : ∃ v, v = (longM (b.drop 1) (z - 128 - 55)).1 := ⟨_, rfl⟩
            obtain ⟨e, he⟩ : ∃ e, e = (longM (b.drop 1) (z - 128 - 55)).2 := ⟨_, rfl⟩
            rw [← hv] at hlg
            rw [← he] at hlg hne h4 ⊢
            repeat' (first | with_reducible refine And.intro (by first | omega | assumption | (constructor <;> assumption) | (simp; done) | (simp; omega) | (simp [*]; done) | ((repeat' refine And.intro ?_ ?_) <;> first | omega | assumption | (refine SlOk.so (n := ?_) ?_ ?_; rotate_left; assumption; omega) | (simp; done) | fail) | fail) ?_ | simp (maxSteps := 4000000) (disch := omega) only [go_sem, Nat.reduceBEq, Nat.reduceAdd, Nat.reduceMul, Nat.reduceSub, Nat.reduceLT, Nat.reduceLeDiff, Int.reduceToNat, Int.reduceLT, Int.reduceLE, Int.reduceAdd, Int.reduceMul, Int.reduceSub, Int.reduceNeg, Int.reduceDiv, Int.reduceMod, Nat.reduceBNe, Nat.reduceGT, Int.reduceBEq, Int.reduceBNe, Int.reduceGT, Nat.reduceDiv, Nat.reduceMod, Nat.reducePow, Int.reducePow, gt_iff_lt, ge_iff_le, List.reduceReplicate, ↓reduceIte, Try.f88, c0, m5, e5] | refine callS_fp (hlg) (by simp [closed, closeds, closeds_ints, closed_wE]) (next_of 1000 ?_) | ((first | refine condS_split (fun h => ?_) (fun h => ?_) | refine testS_split (fun h => ?_) (fun h => ?_) | refine testT_split (fun h => ?_) (fun h => ?_)) <;> (try simp only [bne_iff_ne, ne_eq, beq_iff_eq, decide_eq_true_eq, decide_eq_false_iff_not, Bool.not_eq_true, Bool.not_eq_false, Bool.not_true, Bool.not_false, bne_eq_false_iff_eq, beq_eq_false_iff_ne, Bool.and_eq_true, Bool.or_eq_true, Bool.and_eq_false_imp, Bool.or_eq_false_iff, Bool.not_eq_true', Bool.not_eq_false', Int.not_lt, Int.not_le] at h) <;> (try (exfalso; omega))))
            exact ⟨BExt.refl _, (), by simp [closed, closeds]⟩
end Go.Proofs.Ytepabkjfnpaijaa

