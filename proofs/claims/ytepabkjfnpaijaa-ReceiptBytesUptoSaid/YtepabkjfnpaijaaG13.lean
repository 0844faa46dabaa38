/- Part of a proof over the seat Ytepabkjfnpaijaa. -/
import Derived.Test.YtepabkjfnpaijaaG12
set_option linter.unusedSimpArgs false
set_option linter.unusedVariables false
set_option maxRecDepth 100000
namespace Go.Proofs.Ytepabkjfnpaijaa
open Go RowKit Go.Ew
set_option maxHeartbeats 4000000
theorem in88 : codeIn Try.f88.ntmps (Try.f88.body.getD .skip) = true := by kernel_rfl
theorem bytes_any {B : Base} (ad : Option Addr) : BytesAt B ad [] := ⟨fun a _ h0 => absurd h0 (by simp), fun h => absurd h (by simp), fun j hj => absurd hj (by simp)⟩
theorem bytes_from {B : Base} {ad : Option Addr} {l : List UInt8} {cap : Nat} (h : BytesAt B ad l) (k : Nat) (hc : l.length ≤ cap) : BytesAt B (if cap = k then ad else ad.map (·.add k)) (l.drop k) := by
 split
 ·rename_i e
  rw [List.drop_eq_nil_of_le (by omega)]
  exact bytes_any _
 ·exact h.drop k
/-- What stands ahead of an item: whether it is a list, where its payload lies; or why it is none. -/
def finM (b : List UInt8) (ls fr n : Nat) : (Nat × Nat × Nat) × Nat :=
 if b.length - fr < n then ((0, 0, 0), 41) else if ls = 0 ∧ n = 1 ∧ (b.getD 1 0).toNat < 128 then ((0, 0, 0), 42) else ((ls, fr, fr + n), 0)
def tailM (b : List UInt8) (ls n : Nat) : (Nat × Nat × Nat) × Nat :=
 if n ≤ 55 then finM b ls 1 n else
 if (longM (b.drop 1) (n - 55)).2 ≠ 0 then ((0, 0, 0), (longM (b.drop 1) (n - 55)).2) else finM b ls (1 + (n - 55)) (longM (b.drop 1) (n - 55)).1
def headM (b : List UInt8) : (Nat × Nat × Nat) × Nat :=
 if b = [] then ((0, 0, 0), 41) else
 if (b.getD 0 0).toNat < 128 then ((0, 0, 1), 0) else
 if 192 ≤ (b.getD 0 0).toNat then tailM b 1 ((b.getD 0 0).toNat - 192) else tailM b 0 ((b.getD 0 0).toNat - 128)
abbrev pcE (p : Nat × Nat × Nat) : EV := .agg [.int .i64 (p.1 : Nat), .int .i64 (p.2.1 : Nat), .int .i64 (p.2.2 : Nat)]
theorem longM_ok {l : List UInt8} {k : Nat} (h : (longM l k).2 = 0) : k ≤ l.length ∧ 56 ≤ (longM l k).1 := by
 unfold longM at h ⊢
 split at h
 ·simp at h
 ·split at h
  ·simp at h
  ·split at h
   ·simp at h
   ·rename_i h1 h2 h3
    rw [if_neg h1, if_neg h2, if_neg h3]
    simp only; omega
theorem longM_err (l : List UInt8) (k : Nat) : (longM l k).2 ≤ 46 := by
 unfold longM; split
 ·simp
 ·split
  ·simp
  ·split <;> simp
/-- A head that is one: its bounds. -/
theorem finM_ok {b : List UInt8} {ls fr n : Nat} (h : (finM b ls fr n).2 = 0) : (finM b ls fr n).1 = (ls, fr, fr + n) ∧ ¬ b.length - fr < n := by
 unfold finM at h ⊢
 split at h
 ·simp at h
 ·split at h
  ·simp at h
  ·rename_i h1 h2
   rw [if_neg h1, if_neg h2]
   exact ⟨rfl, h1⟩
theorem tailM_ok {b : List UInt8} {ls n : Nat} (hb : 1 ≤ b.length) (h : (tailM b ls n).2 = 0) : (tailM b ls n).1.2.1 ≤ (tailM b ls n).1.2.2 ∧ (tailM b ls n).1.2.2 ≤ b.length ∧ 1 ≤ (tailM b ls n).1.2.2 ∧ (tailM b ls n).1.1 = ls := by
 unfold tailM at h ⊢
 split at h
 ·rename_i h2
  rw [if_pos h2]
  obtain ⟨e1, e2⟩ := finM_ok h
  rw [e1]
  exact ⟨by simp only; omega, by simp only; omega, by simp only; omega, rfl⟩
 ·rename_i h2
  rw [if_neg h2]
  split at h
  ·rename_i h3; exact absurd h h3
  ·rename_i h3
   rw [if_neg h3]
   obtain ⟨e1, e2⟩ := finM_ok h
   obtain ⟨e3, e4⟩ := longM_ok (l := b.drop 1) (k := n - 55) (by omega)
   rw [e1]
   simp only [List.length_drop] at e3
   exact ⟨by simp only; omega, by simp only; omega, by simp only; omega, rfl⟩
theorem headM_ok {b : List UInt8} (h : (headM b).2 = 0) : (headM b).1.2.1 ≤ (headM b).1.2.2 ∧ (headM b).1.2.2 ≤ b.length ∧ 1 ≤ (headM b).1.2.2 ∧ (headM b).1.1 ≤ 1 := by
 unfold headM at h ⊢
 split at h
 ·simp at h
 ·rename_i h0
  have hb : 1 ≤ b.length := by
   rcases Nat.eq_zero_or_pos b.length with h1 | h1
   ·exact absurd (List.length_eq_zero_iff.1 h1) h0
   ·exact h1
  rw [if_neg h0]
  split at h
  ·rename_i h1
   rw [if_pos h1]; simp; omega
  ·rename_i h1
   rw [if_neg h1]
   split at h
   ·rename_i h2
    rw [if_pos h2]
    obtain ⟨a1, a2, a3, a4⟩ := tailM_ok hb h
    omega
   ·rename_i h2
    rw [if_neg h2]
    obtain ⟨a1, a2, a3, a4⟩ := tailM_ok hb h
    omega
theorem finM_err (b : List UInt8) (ls fr n : Nat) : (finM b ls fr n).2 ≤ 46 := by
 unfold finM; split
 ·simp
 ·split <;> simp
theorem tailM_err (b : List UInt8) (ls n : Nat) : (tailM b ls n).2 ≤ 46 := by
 unfold tailM
 split
 ·exact finM_err _ _ _ _
 ·split
  ·exact longM_err _ _
  ·exact finM_err _ _ _ _
theorem headM_err (b : List UInt8) : (headM b).2 ≤ 46 := by
 unfold headM
 split
 ·simp
 ·split
  ·simp
  ·split <;> exact tailM_err _ _ _
theorem headI_fn (b : List UInt8) (n : Nat) (B : Base) (ad : Option Addr) (cap : Nat) (hb : BytesAt B ad b) (hn : b.length = n) (hcap : n ≤ cap) (hc : n ≤ 4611686018427387904) :
  Does Try.prog 88 [.raw (.slice ad n cap)] B (fun _ : Unit => .tup [pcE (headM b).1, .int .i64 ((headM b).2 : Nat)]) (fun _ _ => True) := by
 subst hn
 refine fn_of en88 (fun s B B' hB hR => hR) Try.func88 rfl in88 (by simp [Try.f88]) (by simp [closeds, closed]) (fun B0 hB0 => next_of 1000 ?_)
 replace hb := hb.ext hB0
 by_cases h0 : b = []
 ·subst h0
  repeat' (simp (maxSteps := 4000000) (disch := omega) only [go_sem, ↓reduceIte, Try.f88, List.length_nil])
  exact ⟨BExt.refl _, (), by simp [headM, closed, closeds]⟩
 ·have hlen : 1 ≤ b.length := by
   rcases Nat.eq_zero_or_pos b.length with h1 | h1
   ·exact absurd (List.length_eq_zero_iff.1 h1) h0
   ·exact h1
  have c0 : (((b.length : Nat) : Int) == 0) = false := by rw [beq_eq_false_iff_ne]; omega
  have m1 := hb.ld 0 (by omega)
  have m2 := hb.lS 0 (by omega)
  have m3 := hb.lD (by omega)
  have m4 := hb.ok.so (by omega)
  have hM : headM b = if (b.getD 0 0).toNat < 128 then ((0, 0, 1), 0) else if 192 ≤ (b.getD 0 0).toNat then tailM b 1 ((b.getD 0 0).toNat - 192) else tailM b 0 ((b.getD 0 0).toNat - 128) := by unfold headM; rw [if_neg h0]
  obtain ⟨z, hz⟩ : ∃ z, z = (b.getD 0 0).toNat := ⟨_, rfl⟩
  have m5 : rawCell B0 (adrAt ad 0) = .int .u8 (z : Int) := by rw [m1, bE, hz]
  have hz2 : z < 256 := by rw [hz]; exact (b.getD 0 0).toNat_lt
  rw [← hz] at hM
  by_cases h1 : z < 128
  ·rw [if_pos h1] at hM
   rw [hM]
   repeat' (first | with_reducible refine And.intro (by first | omega | assumption | (constructor <;> assumption) | (simp; done) | (simp; omega) | (simp [*]; done) | ((repeat' refine And.intro ?_ ?_) <;> first | omega | assumption | (refine SlOk.so (n := ?_) ?_ ?_; rotate_left; assumption; omega) | (simp; done) | fail) | fail) ?_ | simp (maxSteps := 4000000) (disch := omega) only [go_sem, ↓reduceIte, Try.f88, c0, m5] | ((first | refine condS_split (fun h => ?_) (fun h => ?_) | refine testS_split (fun h => ?_) (fun h => ?_) | refine testT_split (fun h => ?_) (fun h => ?_)) <;> (try simp only [bne_iff_ne, ne_eq, beq_iff_eq, decide_eq_true_eq, decide_eq_false_iff_not, Bool.not_eq_true, Bool.not_eq_false, Bool.not_true, Bool.not_false, bne_eq_false_iff_eq, beq_eq_false_iff_ne, Bool.and_eq_true, Bool.or_eq_true, Bool.and_eq_false_imp, Bool.or_eq_false_iff, Bool.not_eq_true', Bool.not_eq_false', Int.not_lt, Int.not_le] at h) <;> (try (exfalso; omega))))
   exact ⟨BExt.refl _, (), by simp [closed, closeds]⟩
  ·rw [if_neg h1] at hM
   by_cases h2 : 192 ≤ z
   ·rw [if_pos h2] at hM
    by_cases h3 : z - 192 ≤ 55
    ·rw [tailM, if_pos h3] at hM
     by_cases h4 : b.length - 1 < z - 192
     ·rw [finM, if_pos h4] at hM
      rw [hM]
      repeat' (first | with_reducible refine And.intro (by first | omega | assumption | (constructor <;> assumption) | (simp; done) | (simp; omega) | (simp [*]; done) | ((repeat' refine And.intro ?_ ?_) <;> first | omega | assumption | (refine SlOk.so (n := ?_) ?_ ?_; rotate_left; assumption; omega) | (simp; done) | fail) | fail) ?_ | simp (maxSteps := 4000000) (disch := omega) only [go_sem, ↓reduceIte, Try.f88, c0, m5] | ((first | refine condS_split (fun h => ?_) (fun h => ?_) | refine testS_split (fun h => ?_) (fun h => ?_) | refine testT_split (fun h => ?_) (fun h => ?_)) <;> (try simp only [bne_iff_ne, ne_eq, beq_iff_eq, decide_eq_true_eq, decide_eq_false_iff_not, Bool.not_eq_true, Bool.not_eq_false, Bool.not_true, Bool.not_false, bne_eq_false_iff_eq, beq_eq_false_iff_ne, Bool.and_eq_true, Bool.or_eq_true, Bool.and_eq_false_imp, Bool.or_eq_false_iff, Bool.not_eq_true', Bool.not_eq_false', Int.not_lt, Int.not_le] at h) <;> (try (exfalso; omega))))
      exact ⟨BExt.refl _, (), by simp [closed, closeds]⟩
     ·rw [finM, if_neg h4, if_neg (by omega)] at hM
      rw [hM]
      repeat' (first | with_reducible refine And.intro (by first | omega | assumption | (constructor <;> assumption) | (simp; done) | (simp; omega) | (simp [*]; done) | ((repeat' refine And.intro ?_ ?_) <;> first | omega | assumption | (refine SlOk.so (n := ?_) ?_ ?_; rotate_left; assumption; omega) | (simp; done) | fail) | fail) ?_ | simp (maxSteps := 4000000) (disch := omega) only [go_sem, ↓reduceIte, Try.f88, c0, m5] | ((first | refine condS_split (fun h => ?_) (fun h => ?_) | refine testS_split (fun h => ?_) (fun h => ?_) | refine testT_split (fun h => ?_) (fun h => ?_)) <;> (try simp only [bne_iff_ne, ne_eq, beq_iff_eq, decide_eq_true_eq, decide_eq_false_iff_not, Bool.not_eq_true, Bool.not_eq_false, Bool.not_true, Bool.not_false, bne_eq_false_iff_eq, beq_eq_false_iff_ne, Bool.and_eq_true, Bool.or_eq_true, Bool.and_eq_false_imp, Bool.or_eq_false_iff, Bool.not_eq_true', Bool.not_eq_false', Int.not_lt, Int.not_le] at h) <;> (try (exfalso; omega))))
      exact ⟨BExt.refl _, (), by simp [closed, closeds] <;> omega⟩
    ·rw [tailM, if_neg h3] at hM
     have e5 : ((z : Int) - 192 - 55) = ((z - 192 - 55 : Nat) : Int) := by omega
     have hlg := long_fn (b.drop 1) (z - 192 - 55) (b.length - 1) B0 _ (cap - 1) (bytes_from hb 1 hcap) (by simp) (by omega) (by omega) (by omega) (by omega)
     have hvl := longM_le (b.drop 1) (z - 192 - 55)
     by_cases h4 : (longM (b.drop 1) (z - 192 - 55)).2 = 0
     ·rw [if_neg (by omega)] at hM
      obtain ⟨hk1, hk2⟩ := longM_ok h4
      rw [h4] at hlg
      rw [List.length_drop] at hk1
      obtain ⟨v, hv⟩ : ∃ v, v = (longM (b.drop 1) (z - 192 - 55)).1 := ⟨_, rfl⟩
      rw [← hv] at hM hlg hvl hk2
      by_cases h5 : b.length - (1 + (z - 192 - 55)) < v
      ·rw [finM, if_pos h5] at hM
       rw [hM]
       repeat' (first | with_reducible refine And.intro (by first | omega | assumption | (constructor <;> assumption) | (simp; done) | (simp; omega) | (simp [*]; done) | ((repeat' refine And.intro ?_ ?_) <;> first | omega | assumption | (refine SlOk.so (n := ?_) ?_ ?_; rotate_left; assumption; omega) | (simp; done) | fail) | fail) ?_ | simp (maxSteps := 4000000) (disch := omega) only [go_sem, ↓reduceIte, Try.f88, c0, m5, e5] | refine callS_fp (hlg) (by simp [closed, closeds, closeds_ints, closed_wE]) (next_of 1000 ?_) | ((first | refine condS_split (fun h => ?_) (fun h => ?_) | refine testS_split (fun h => ?_) (fun h => ?_) | refine testT_split (fun h => ?_) (fun h => ?_)) <;> (try simp only [bne_iff_ne, ne_eq, beq_iff_eq, decide_eq_true_eq, decide_eq_false_iff_not, Bool.not_eq_true, Bool.not_eq_false, Bool.not_true, Bool.not_false, bne_eq_false_iff_eq, beq_eq_false_iff_ne, Bool.and_eq_true, Bool.or_eq_true, Bool.and_eq_false_imp, Bool.or_eq_false_iff, Bool.not_eq_true', Bool.not_eq_false', Int.not_lt, Int.not_le] at h) <;> (try (exfalso; omega))))
       exact ⟨BExt.refl _, (), by simp [closed, closeds]⟩
      ·rw [finM, if_neg h5, if_neg (by omega)] at hM
       rw [hM]
       repeat' (first | with_reducible refine And.intro (by first | omega | assumption | (constructor <;> assumption) | (simp; done) | (simp; omega) | (simp [*]; done) | ((repeat' refine And.intro ?_ ?_) <;> first | omega | assumption | (refine SlOk.so (n := ?_) ?_ ?_; rotate_left; assumption; omega) | (simp; done) | fail) | fail) ?_ | simp (maxSteps := 4000000) (disch := omega) only [go_sem, ↓reduceIte, Try.f88, c0, m5, e5] | refine callS_fp (hlg) (by simp [closed, closeds, closeds_ints, closed_wE]) (next_of 1000 ?_) | ((first | refine condS_split (fun h => ?_) (fun h => ?_) | refine testS_split (fun h => ?_) (fun h => ?_) | refine testT_split (fun h => ?_) (fun h => ?_)) <;> (try simp only [bne_iff_ne, ne_eq, beq_iff_eq, decide_eq_true_eq, decide_eq_false_iff_not, Bool.not_eq_true, Bool.not_eq_false, Bool.not_true, Bool.not_false, bne_eq_false_iff_eq, beq_eq_false_iff_ne, Bool.and_eq_true, Bool.or_eq_true, Bool.and_eq_false_imp, Bool.or_eq_false_iff, Bool.not_eq_true', Bool.not_eq_false', Int.not_lt, Int.not_le] at h) <;> (try (exfalso; omega))))
       exact ⟨BExt.refl _, (), by simp [closed, closeds] <;> omega⟩
     ·rw [if_pos h4] at hM
      rw [hM]
      have hne : (((longM (b.drop 1) (z - 192 - 55)).2 : Nat) : Int) ≠ 0 := by omega
      have hvl2 := longM_err (b.drop 1) (z - 192 - 55)
      obtain ⟨v, hv⟩ : ∃ v, v = (longM (b.drop 1) (z - 192 - 55)).1 := ⟨_, rfl⟩
      obtain ⟨e, he⟩ : ∃ e, e = (longM (b.drop 1) (z - 192 - 55)).2 := ⟨_, rfl⟩
      rw [← hv] at hlg
      rw [← he] at hlg hne h4 ⊢
      repeat' (first | with_reducible refine And.intro (by first | omega | assumption | (constructor <;> assumption) | (simp; done) | (simp; omega) | (simp [*]; done) | ((repeat' refine And.intro ?_ ?_) <;> first | omega | assumption | (refine SlOk.so (n := ?_) ?_ ?_; rotate_left; assumption; omega) | (simp; done) | fail) | fail) ?_ | simp (maxSteps := 4000000) (disch := omega) only [go_sem, ↓reduceIte, Try.f88, c0, m5, e5] | refine callS_fp (hlg) (by simp [closed, closeds, closeds_ints, closed_wE]) (next_of 1000 ?_) | ((first | refine condS_split (fun h => ?_) (fun h => ?_) | refine testS_split (fun h => ?_) (fun h => ?_) | refine testT_split (fun h => ?_) (fun h => ?_)) <;> (try simp only [bne_iff_ne, ne_eq, beq_iff_eq, decide_eq_true_eq, decide_eq_false_iff_not, Bool.not_eq_true, Bool.not_eq_false, Bool.not_true, Bool.not_false, bne_eq_false_iff_eq, beq_eq_false_iff_ne, Bool.and_eq_true, Bool.or_eq_true, Bool.and_eq_false_imp, Bool.or_eq_false_iff, Bool.not_eq_true', Bool.not_eq_false', Int.not_lt, Int.not_le] at h) <;> (try (exfalso; omega))))
      exact ⟨BExt.refl _, (), by simp [closed, closeds]⟩
   ·rw [if_neg h2] at hM
    by_cases h3 : z - 128 ≤ 55
    ·rw [tailM, if_pos h3] at hM
     by_cases h4 : b.length - 1 < z - 128
     ·rw [finM, if_pos h4] at hM
      rw [hM]
      repeat' (first | with_reducible refine And.intro (by first | omega | assumption | (constructor <;> assumption) | (simp; done) | (simp; omega) | (simp [*]; done) | ((repeat' refine And.intro ?_ ?_) <;> first | omega | assumption | (refine SlOk.so (n := ?_) ?_ ?_; rotate_left; assumption; omega) | (simp; done) | fail) | fail) ?_ | simp (maxSteps := 4000000) (disch := omega) only [go_sem, ↓reduceIte, Try.f88, c0, m5] | ((first | refine condS_split (fun h => ?_) (fun h => ?_) | refine testS_split (fun h => ?_) (fun h => ?_) | refine testT_split (fun h => ?_) (fun h => ?_)) <;> (try simp only [bne_iff_ne, ne_eq, beq_iff_eq, decide_eq_true_eq, decide_eq_false_iff_not, Bool.not_eq_true, Bool.not_eq_false, Bool.not_true, Bool.not_false, bne_eq_false_iff_eq, beq_eq_false_iff_ne, Bool.and_eq_true, Bool.or_eq_true, Bool.and_eq_false_imp, Bool.or_eq_false_iff, Bool.not_eq_true', Bool.not_eq_false', Int.not_lt, Int.not_le] at h) <;> (try (exfalso; omega))))
      exact ⟨BExt.refl _, (), by simp [closed, closeds]⟩
     ·by_cases h5 : z - 128 = 1
      ·have k1 := hb.ld 1 (by omega)
       have k2 := hb.lS 1 (by omega)
       obtain ⟨y, hy⟩ : ∃ y, y = (b.getD 1 0).toNat := ⟨_, rfl⟩
       have k5 : rawCell B0 (adrAt ad 1) = .int .u8 (y : Int) := by rw [k1, bE, hy]
       by_cases h6 : y < 128
       ·rw [finM, if_neg h4, if_pos ⟨rfl, h5, by omega⟩] at hM
        rw [hM]
        repeat' (first | with_reducible refine And.intro (by first | omega | assumption | (constructor <;> assumption) | (simp; done) | (simp; omega) | (simp [*]; done) | ((repeat' refine And.intro ?_ ?_) <;> first | omega | assumption | (refine SlOk.so (n := ?_) ?_ ?_; rotate_left; assumption; omega) | (simp; done) | fail) | fail) ?_ | simp (maxSteps := 4000000) (disch := omega) only [go_sem, ↓reduceIte, Try.f88, c0, m5, k5] | ((first | refine condS_split (fun h => ?_) (fun h => ?_) | refine testS_split (fun h => ?_) (fun h => ?_) | refine testT_split (fun h => ?_) (fun h => ?_)) <;> (try simp only [bne_iff_ne, ne_eq, beq_iff_eq, decide_eq_true_eq, decide_eq_false_iff_not, Bool.not_eq_true, Bool.not_eq_false, Bool.not_true, Bool.not_false, bne_eq_false_iff_eq, beq_eq_false_iff_ne, Bool.and_eq_true, Bool.or_eq_true, Bool.and_eq_false_imp, Bool.or_eq_false_iff, Bool.not_eq_true', Bool.not_eq_false', Int.not_lt, Int.not_le] at h) <;> (try (exfalso; omega))))
        exact ⟨BExt.refl _, (), by simp [closed, closeds]⟩
       ·rw [finM, if_neg h4, if_neg (by omega)] at hM
        rw [hM]
        repeat' (first | with_reducible refine And.intro (by first | omega | assumption | (constructor <;> assumption) | (simp; done) | (simp; omega) | (simp [*]; done) | ((repeat' refine And.intro ?_ ?_) <;> first | omega | assumption | (refine SlOk.so (n := ?_) ?_ ?_; rotate_left; assumption; omega) | (simp; done) | fail) | fail) ?_ | simp (maxSteps := 4000000) (disch := omega) only [go_sem, ↓reduceIte, Try.f88, c0, m5, k5] | ((first | refine condS_split (fun h => ?_) (fun h => ?_) | refine testS_split (fun h => ?_) (fun h => ?_) | refine testT_split (fun h => ?_) (fun h => ?_)) <;> (try simp only [bne_iff_ne, ne_eq, beq_iff_eq, decide_eq_true_eq, decide_eq_false_iff_not, Bool.not_eq_true, Bool.not_eq_false, Bool.not_true, Bool.not_false, bne_eq_false_iff_eq, beq_eq_false_iff_ne, Bool.and_eq_true, Bool.or_eq_true, Bool.and_eq_false_imp, Bool.or_eq_false_iff, Bool.not_eq_true', Bool.not_eq_false', Int.not_lt, Int.not_le] at h) <;> (try (exfalso; omega))))
        exact ⟨BExt.refl _, (), by simp [closed, closeds] <;> omega⟩
      ·rw [finM, if_neg h4, if_neg (by omega)] at hM
       rw [hM]
       repeat' (first | with_reducible refine And.intro (by first | omega | assumption | (constructor <;> assumption) | (simp; done) | (simp; omega) | (simp [*]; done) | ((repeat' refine And.intro ?_ ?_) <;> first | omega | assumption | (refine SlOk.so (n := ?_) ?_ ?_; rotate_left; assumption; omega) | (simp; done) | fail) | fail) ?_ | simp (maxSteps := 4000000) (disch := omega) only [go_sem, ↓reduceIte, Try.f88, c0, m5] | ((first | refine condS_split (fun h => ?_) (fun h => ?_) | refine testS_split (fun h => ?_) (fun h => ?_) | refine testT_split (fun h => ?_) (fun h => ?_)) <;> (try simp only [bne_iff_ne, ne_eq, beq_iff_eq, decide_eq_true_eq, decide_eq_false_iff_not, Bool.not_eq_true, Bool.not_eq_false, Bool.not_true, Bool.not_false, bne_eq_false_iff_eq, beq_eq_false_iff_ne, Bool.and_eq_true, Bool.or_eq_true, Bool.and_eq_false_imp, Bool.or_eq_false_iff, Bool.not_eq_true', Bool.not_eq_false', Int.not_lt, Int.not_le] at h) <;> (try (exfalso; omega))))
       exact ⟨BExt.refl _, (), by simp [closed, closeds] <;> omega⟩
    ·rw [tailM, if_neg h3] at hM
     have e5 : ((z : Int) - 128 - 55) = ((z - 128 - 55 : Nat) : Int) := by omega
     have hlg := long_fn (b.drop 1) (z - 128 - 55) (b.length - 1) B0 _ (cap - 1) (bytes_from hb 1 hcap) (by simp) (by omega) (by omega) (by omega) (by omega)
     have hvl := longM_le (b.drop 1) (z - 128 - 55)
     by_cases h4 : (longM (b.drop 1) (z - 128 - 55)).2 = 0
     ·rw [if_neg (by omega)] at hM
      obtain ⟨hk1, hk2⟩ := longM_ok h4
      rw [h4] at hlg
      rw [List.length_drop] at hk1
      obtain ⟨v, hv⟩ : ∃ v, v = (longM (b.drop 1) (z - 128 - 55)).1 := ⟨_, rfl⟩
      rw [← hv] at hM hlg hvl hk2
      by_cases h5 : b.length - (1 + (z - 128 - 55)) < v
      ·rw [finM, if_pos h5] at hM
       rw [hM]
       repeat' (first | with_reducible refine And.intro (by first | omega | assumption | (constructor <;> assumption) | (simp; done) | (simp; omega) | (simp [*]; done) | ((repeat' refine And.intro ?_ ?_) <;> first | omega | assumption | (refine SlOk.so (n := ?_) ?_ ?_; rotate_left; assumption; omega) | (simp; done) | fail) | fail) ?_ | simp (maxSteps := 4000000) (disch := omega) only [go_sem, ↓reduceIte, Try.f88, c0, m5, e5] | refine callS_fp (hlg) (by simp [closed, closeds, closeds_ints, closed_wE]) (next_of 1000 ?_) | ((first | refine condS_split (fun h => ?_) (fun h => ?_) | refine testS_split (fun h => ?_) (fun h => ?_) | refine testT_split (fun h => ?_) (fun h => ?_)) <;> (try simp only [bne_iff_ne, ne_eq, beq_iff_eq, decide_eq_true_eq, decide_eq_false_iff_not, Bool.not_eq_true, Bool.not_eq_false, Bool.not_true, Bool.not_false, bne_eq_false_iff_eq, beq_eq_false_iff_ne, Bool.and_eq_true, Bool.or_eq_true, Bool.and_eq_false_imp, Bool.or_eq_false_iff, Bool.not_eq_true', Bool.not_eq_false', Int.not_lt, Int.not_le] at h) <;> (try (exfalso; omega))))
       exact ⟨BExt.refl _, (), by simp [closed, closeds]⟩
      ·rw [finM, if_neg h5, if_neg (by omega)] at hM
       rw [hM]
       repeat' (first | with_reducible refine And.intro (by first | omega | assumption | (constructor <;> assumption) | (simp; done) | (simp; omega) | (simp [*]; done) | ((repeat' refine And.intro ?_ ?_) <;> first | omega | assumption | (refine SlOk.so (n := ?_) ?_ ?_; rotate_left; assumption; omega) | (simp; done) | fail) | fail) ?_ | simp (maxSteps := 4000000) (disch := omega) only [go_sem, ↓reduceIte, Try.f88, c0, m5, e5] | refine callS_fp (hlg) (by simp [closed, closeds, closeds_ints, closed_wE]) (next_of 1000 ?_) | ((first | refine condS_split (fun h => ?_) (fun h => ?_) | refine testS_split (fun h => ?_) (fun h => ?_) | refine testT_split (fun h => ?_) (fun h => ?_)) <;> (try simp only [bne_iff_ne, ne_eq, beq_iff_eq, decide_eq_true_eq, decide_eq_false_iff_not, Bool.not_eq_true, Bool.not_eq_false, Bool.not_true, Bool.not_false, bne_eq_false_iff_eq, beq_eq_false_iff_ne, Bool.and_eq_true, Bool.or_eq_true, Bool.and_eq_false_imp, Bool.or_eq_false_iff, Bool.not_eq_true', Bool.not_eq_false', Int.not_lt, Int.not_le] at h) <;> (try (exfalso; omega))))
       exact ⟨BExt.refl _, (), by simp [closed, closeds] <;> omega⟩
     ·rw [if_pos h4] at hM
      rw [hM]
      have hne : (((longM (b.drop 1) (z - 128 - 55)).2 : Nat) : Int) ≠ 0 := by omega
      have hvl2 := longM_err (b.drop 1) (z - 128 - 55)
      obtain ⟨v, hv⟩ : ∃ v, v = (longM (b.drop 1) (z - 128 - 55)).1 := ⟨_, rfl⟩
      obtain ⟨e, he⟩ : ∃ e, e = (longM (b.drop 1) (z - 128 - 55)).2 := ⟨_, rfl⟩
      rw [← hv] at hlg
      rw [← he] at hlg hne h4 ⊢
      repeat' (first | with_reducible refine And.intro (by first | omega | assumption | (constructor <;> assumption) | (simp; done) | (simp; omega) | (simp [*]; done) | ((repeat' refine And.intro ?_ ?_) <;> first | omega | assumption | (refine SlOk.so (n := ?_) ?_ ?_; rotate_left; assumption; omega) | (simp; done) | fail) | fail) ?_ | simp (maxSteps := 4000000) (disch := omega) only [go_sem, ↓reduceIte, Try.f88, c0, m5, e5] | refine callS_fp (hlg) (by simp [closed, closeds, closeds_ints, closed_wE]) (next_of 1000 ?_) | ((first | refine condS_split (fun h => ?_) (fun h => ?_) | refine testS_split (fun h => ?_) (fun h => ?_) | refine testT_split (fun h => ?_) (fun h => ?_)) <;> (try simp only [bne_iff_ne, ne_eq, beq_iff_eq, decide_eq_true_eq, decide_eq_false_iff_not, Bool.not_eq_true, Bool.not_eq_false, Bool.not_true, Bool.not_false, bne_eq_false_iff_eq, beq_eq_false_iff_ne, Bool.and_eq_true, Bool.or_eq_true, Bool.and_eq_false_imp, Bool.or_eq_false_iff, Bool.not_eq_true', Bool.not_eq_false', Int.not_lt, Int.not_le] at h) <;> (try (exfalso; omega))))
      exact ⟨BExt.refl _, (), by simp [closed, closeds]⟩
end Go.Proofs.Ytepabkjfnpaijaa
namespace Go.Proofs.Ytepabkjfnpaijaa
open Go RowKit Go.Ew
set_option maxHeartbeats 4000000
theorem in68 : codeIn Try.f68.ntmps (Try.f68.body.getD .skip) = true := by kernel_rfl
theorem in45 : codeIn Try.f45.ntmps (Try.f45.body.getD .skip) = true := by kernel_rfl
def zI : Itm := .mk 0 [] []
theorem zI_at (B : Base) : ItAt B zI ⟨none, 0, none, 0⟩ := .mk 0 [] [] _ (bytes_any _) (by simp) (CellsAt.nil _) (by simp) (by simp)
def kidsL (f : List UInt8 → Itm × Nat × Nat) : Nat → List UInt8 → List Itm → List Itm × Nat
 | 0, _, acc => (acc, 0)
 | n + 1, p, acc => if p = [] then (acc, 0) else if (f p).2.2 ≠ 0 then ([], (f p).2.2) else kidsL f n (p.drop (f p).2.1) (acc ++ [(f p).1])
theorem kidsL_nil (f : List UInt8 → Itm × Nat × Nat) (n : Nat) (acc : List Itm) : kidsL f n [] acc = (acc, 0) := by cases n <;> simp [kidsL]
def payM (b : List UInt8) : List UInt8 := (b.take (headM b).1.2.2).drop (headM b).1.2.1
def decB (F : List UInt8 → List Itm × Nat) (b : List UInt8) : Itm × Nat × Nat :=
 if (headM b).2 ≠ 0 then (zI, 0, (headM b).2) else if (headM b).1.1 = 0 then (txt (payM b), (headM b).1.2.2, 0) else
 if (F (payM b)).2 ≠ 0 then (zI, 0, (F (payM b)).2) else (.mk 1 [] (F (payM b)).1, (headM b).1.2.2, 0)
/-- The first item of bytes, how many it has, or why there is none; m: in how many lists more it may stand. -/
def decM : Nat → List UInt8 → Itm × Nat × Nat
 | 0, b => decB (fun _ => ([], 44)) b
 | m + 1, b => decB (fun p => kidsL (decM m) p.length p []) b
theorem decB_to {F : List UInt8 → List Itm × Nat} {b : List UInt8} (h : (decB F b).2.2 = 0) : 1 ≤ (decB F b).2.1 ∧ (decB F b).2.1 ≤ b.length := by
 unfold decB at h ⊢
 by_cases h1 : (headM b).2 ≠ 0
 ·rw [if_pos h1] at h; exact absurd h h1
 ·obtain ⟨a1, a2, a3, a4⟩ := headM_ok (b := b) (by omega)
  rw [if_neg h1] at h ⊢
  split at h
  ·rename_i h2
   rw [if_pos h2]; exact ⟨a3, a2⟩
  ·rename_i h2
   rw [if_neg h2]
   split at h
   ·rename_i h3; exact absurd h h3
   ·rename_i h3
    rw [if_neg h3]; exact ⟨a3, a2⟩
theorem decM_to {m : Nat} {b : List UInt8} (h : (decM m b).2.2 = 0) : 1 ≤ (decM m b).2.1 ∧ (decM m b).2.1 ≤ b.length := by
 cases m <;> exact decB_to h
theorem kidsL_err {f : List UInt8 → Itm × Nat × Nat} (hf : ∀ p, (f p).2.2 ≤ 46) : ∀ (n : Nat) (p : List UInt8) (acc : List Itm), (kidsL f n p acc).2 ≤ 46
 | 0, _, _ => by simp [kidsL]
 | n + 1, p, acc => by
  rw [kidsL]
  split
  ·simp
  ·split
   ·exact hf p
   ·exact kidsL_err hf n _ _
theorem decB_err {F : List UInt8 → List Itm × Nat} (hF : ∀ p, (F p).2 ≤ 46) (b : List UInt8) : (decB F b).2.2 ≤ 46 := by
 unfold decB
 split
 ·exact headM_err b
 ·split
  ·simp
  ·split
   ·exact hF _
   ·simp
theorem decM_err : ∀ (m : Nat) (b : List UInt8), (decM m b).2.2 ≤ 46
 | 0, b => decB_err (fun _ => by simp) b
 | m + 1, b => decB_err (fun p => kidsL_err (decM_err m) _ _ _) b
theorem payM_len {b : List UInt8} (h : (headM b).2 = 0) : (payM b).length = (headM b).1.2.2 - (headM b).1.2.1 := by
 obtain ⟨a1, a2, a3, a4⟩ := headM_ok h
 rw [payM, List.length_drop, List.length_take]; omega
theorem bytes_sub {B : Base} {ad : Option Addr} {b : List UInt8} {cap fr to : Nat} (h : BytesAt B ad b) (h1 : fr ≤ to) (h2 : to ≤ b.length) (h3 : b.length ≤ cap) : BytesAt B (if cap = fr then ad else ad.map (·.add fr)) ((b.take to).drop fr) := by
 split
 ·rename_i e
  rw [List.drop_eq_nil_of_le (by simp; omega)]
  exact bytes_any _
 ·exact (h.take to).drop fr
theorem decode_fn : ∀ (m : Nat), m ≤ 64 → ∀ (b : List UInt8) (n : Nat) (B : Base) (ad : Option Addr) (cap : Nat), BytesAt B ad b → b.length = n → n ≤ cap → n ≤ 1099511627776 →
  Does Try.prog 68 [.raw (.slice ad n cap), .int .i64 ((64 - m : Nat) : Int)] B (fun s : Plc => .tup [.agg (itE (decM m b).1 s), .int .i64 ((decM m b).2.1 : Nat), .int .i64 ((decM m b).2.2 : Nat)]) (fun s B' => ItAt B' (decM m b).1 s) := by
 intro m
 induction m with
 | zero =>
  intro hm b n B ad cap hb hn hcap hc
  subst hn
  refine fn_of en68 (fun s B B' hB hR => hR.ext hB) Try.func68 rfl in68 (by simp [Try.f68]) (by simp [closeds, closed]) (fun B0 hB0 => next_of 1000 ?_)
  replace hb := hb.ext hB0
  have hM : decM 0 b = decB (fun _ => ([], 44)) b := rfl
  have hhd := headI_fn b b.length B0 ad cap hb rfl hcap (by omega)
  have hpl := fun h => payM_len (b := b) h
  have hpay : payM b = (b.take (headM b).1.2.2).drop (headM b).1.2.1 := rfl
  unfold decB at hM
  have hok := fun h => headM_ok (b := b) h
  have herr := headM_err b
  repeat' (simp (maxSteps := 4000000) (disch := omega) only [go_sem, ↓reduceIte, Try.f68])
  refine scopeS (by intro l x hx; exact hx) (by kernel_rfl) (next_of 1000 ?_)
  by_cases h1 : (headM b).2 = 0
  ·rw [if_neg (by omega)] at hM
   obtain ⟨a1, a2, a3, a4⟩ := hok h1
   replace hpl := hpl h1
   have hbs := bytes_sub hb a1 a2 hcap
   rw [← hpay] at hbs
   rw [h1] at hhd
   obtain ⟨P, hP⟩ : ∃ P, P = payM b := ⟨_, rfl⟩
   rw [← hP] at hM hpl hbs
   obtain ⟨ls, fr, to, hq⟩ : ∃ ls fr to, (headM b).1 = (ls, fr, to) := ⟨_, _, _, rfl⟩
   rw [hq] at hM hpl hbs hhd a1 a2 a3 a4
   simp only at hM hpl hbs hhd a1 a2 a3 a4
   clear hok hq hpay herr h1
   by_cases h2 : ls = 0
   ·subst h2
    rw [if_pos rfl] at hM
    rw [hM]
    repeat' (first | with_reducible refine And.intro (by first | omega | (simp; omega)) ?_ | simp (maxSteps := 4000000) (disch := omega) only [go_sem, ↓reduceIte, Int.toNat_natCast] | with_reducible refine drawT_of (id := 6) [0, 2, 3, 1, 4, 5, 6] mixed (by kernel_rfl) (by simp) (fun hin => dt_of 1000 hin ?_) | refine callS_fp (hhd) (by simp [closed, closeds, closeds_ints, closed_wE]) (next_of 1000 ?_))
    refine callT_f (text_fn P (to - fr) B0 _ (cap - fr) hbs hpl (by omega)) (fun _ => by simp [closed, closeds]) (by kernel_rfl) (ck_of (by kernel_rfl) (nmT_of (by kernel_rfl))) (fun hin2 s1 B1 hB1 hR1 => dt_of 1000 hin2 ?_)
    change BExt B0 B1 at hB1
    repeat' (first | with_reducible refine And.intro (by omega) ?_ | simp (maxSteps := 4000000) (disch := omega) only [go_sem, ↓reduceIte] | with_reducible refine endT_of (by kernel_rfl) (nmT_of (by kernel_rfl)) (next_of 1000 ?_))
    exact ⟨s1, rfl, by simp [closed, closeds], hR1⟩
   ·rw [if_neg h2] at hM
    have c2 : (((ls : Nat) : Int) == 0) = false := by rw [beq_eq_false_iff_ne]; omega
    rw [if_pos (by simp)] at hM
    rw [hM]
    repeat' (first | with_reducible refine And.intro (by first | omega | (simp; omega)) ?_ | simp (maxSteps := 4000000) (disch := omega) only [go_sem, ↓reduceIte, Int.toNat_natCast, c2] | refine callS_fp (hhd) (by simp [closed, closeds, closeds_ints, closed_wE]) (next_of 1000 ?_))
    exact ⟨BExt.refl _, ⟨none, 0, none, 0⟩, rfl, by simp [closed, closeds], zI_at _⟩
  ·rw [if_pos h1] at hM
   rw [hM]
   obtain ⟨e, he⟩ : ∃ e, e = (headM b).2 := ⟨_, rfl⟩
   rw [← he] at hhd h1 herr ⊢
   have hei : ((e : Nat) : Int) ≠ 0 := by omega
   repeat' (first | simp (maxSteps := 4000000) (disch := omega) only [go_sem, ↓reduceIte] | refine callS_fp (hhd) (by simp [closed, closeds, closeds_ints, closed_wE]) (next_of 1000 ?_) | ((first | refine condS_split (fun h => ?_) (fun h => ?_) | refine testS_split (fun h => ?_) (fun h => ?_) | refine testT_split (fun h => ?_) (fun h => ?_)) <;> (try simp only [bne_iff_ne, ne_eq, beq_iff_eq, decide_eq_true_eq, decide_eq_false_iff_not, Bool.not_eq_true, Bool.not_eq_false, Bool.not_true, Bool.not_false, bne_eq_false_iff_eq, beq_eq_false_iff_ne, Bool.and_eq_true, Bool.or_eq_true, Bool.and_eq_false_imp, Bool.or_eq_false_iff, Bool.not_eq_true', Bool.not_eq_false', Int.not_lt, Int.not_le] at h) <;> (try (exfalso; omega))))
   exact ⟨BExt.refl _, ⟨none, 0, none, 0⟩, rfl, by simp [closed, closeds], zI_at _⟩
 | succ m ih =>
  intro hm b n B ad cap hb hn hcap hc
  subst hn
  refine fn_of en68 (fun s B B' hB hR => hR.ext hB) Try.func68 rfl in68 (by simp [Try.f68]) (by simp [closeds, closed]) (fun B0 hB0 => next_of 1000 ?_)
  replace hb := hb.ext hB0
  have hM : decM (m + 1) b = decB (fun p => kidsL (decM m) p.length p []) b := rfl
  have hhd := headI_fn b b.length B0 ad cap hb rfl hcap (by omega)
  have hpl := fun h => payM_len (b := b) h
  have hpay : payM b = (b.take (headM b).1.2.2).drop (headM b).1.2.1 := rfl
  unfold decB at hM
  have hok := fun h => headM_ok (b := b) h
  have herr := headM_err b
  repeat' (simp (maxSteps := 4000000) (disch := omega) only [go_sem, ↓reduceIte, Try.f68])
  refine scopeS (by intro l x hx; exact hx) (by kernel_rfl) (next_of 1000 ?_)
  by_cases h1 : (headM b).2 = 0
  ·rw [if_neg (by omega)] at hM
   obtain ⟨a1, a2, a3, a4⟩ := hok h1
   replace hpl := hpl h1
   have hbs := bytes_sub hb a1 a2 hcap
   rw [← hpay] at hbs
   rw [h1] at hhd
   obtain ⟨P, hP⟩ : ∃ P, P = payM b := ⟨_, rfl⟩
   rw [← hP] at hM hpl hbs
   obtain ⟨ls, fr, to, hq⟩ : ∃ ls fr to, (headM b).1 = (ls, fr, to) := ⟨_, _, _, rfl⟩
   rw [hq] at hM hpl hbs hhd a1 a2 a3 a4
   simp only at hM hpl hbs hhd a1 a2 a3 a4
   clear hok hq hpay herr h1
   by_cases h2 : ls = 0
   ·subst h2
    rw [if_pos rfl] at hM
    rw [hM]
    repeat' (first | with_reducible refine And.intro (by first | omega | (simp; omega)) ?_ | simp (maxSteps := 4000000) (disch := omega) only [go_sem, ↓reduceIte, Int.toNat_natCast] | with_reducible refine drawT_of (id := 6) [0, 2, 3, 1, 4, 5, 6] mixed (by kernel_rfl) (by simp) (fun hin => dt_of 1000 hin ?_) | refine callS_fp (hhd) (by simp [closed, closeds, closeds_ints, closed_wE]) (next_of 1000 ?_))
    refine callT_f (text_fn P (to - fr) B0 _ (cap - fr) hbs hpl (by omega)) (fun _ => by simp [closed, closeds]) (by kernel_rfl) (ck_of (by kernel_rfl) (nmT_of (by kernel_rfl))) (fun hin2 s1 B1 hB1 hR1 => dt_of 1000 hin2 ?_)
    change BExt B0 B1 at hB1
    repeat' (first | with_reducible refine And.intro (by omega) ?_ | simp (maxSteps := 4000000) (disch := omega) only [go_sem, ↓reduceIte] | with_reducible refine endT_of (by kernel_rfl) (nmT_of (by kernel_rfl)) (next_of 1000 ?_))
    exact ⟨s1, rfl, by simp [closed, closeds], hR1⟩
   ·rw [if_neg h2] at hM
    have c2 : (((ls : Nat) : Int) == 0) = false := by rw [beq_eq_false_iff_ne]; omega
    have e7 : ((64 - (m + 1) : Nat) : Int) < 64 := by omega
    ·skip
     repeat' (first | with_reducible refine And.intro (by first | omega | (simp; omega)) ?_ | simp (maxSteps := 4000000) (disch := omega) only [go_sem, ↓reduceIte, Int.toNat_natCast] | refine callS_fp (hhd) (by simp [closed, closeds, closeds_ints, closed_wE]) (next_of 1000 ?_) | ((first | refine condS_split (fun h => ?_) (fun h => ?_) | refine testS_split (fun h => ?_) (fun h => ?_) | refine testT_split (fun h => ?_) (fun h => ?_)) <;> (try simp only [bne_iff_ne, ne_eq, beq_iff_eq, decide_eq_true_eq, decide_eq_false_iff_not, Bool.not_eq_true, Bool.not_eq_false, Bool.not_true, Bool.not_false, bne_eq_false_iff_eq, beq_eq_false_iff_ne, Bool.and_eq_true, Bool.or_eq_true, Bool.and_eq_false_imp, Bool.or_eq_false_iff, Bool.not_eq_true', Bool.not_eq_false', Int.not_lt, Int.not_le] at h) <;> (try (exfalso; omega))))
     refine labelS (next_of 1000 ?_)
     repeat' (simp (maxSteps := 4000000) (disch := omega) only [go_sem, ↓reduceIte])
     refine loopU (S := Lst × List (Itm × Plc) × (Option Addr × Nat) × List UInt8 × Nat × Base) (fun s => lOk z3 s.2.1.length s.1 ∧ BExt B0 s.2.2.2.2.2 ∧ (∀ q ∈ s.2.1, ItAt s.2.2.2.2.2 q.1 q.2) ∧ BytesAt s.2.2.2.2.2 s.2.2.1.1 s.2.2.2.1 ∧ s.2.2.2.1.length ≤ s.2.2.1.2 ∧ s.2.2.2.1.length ≤ 1099511627776 ∧ s.2.1.length + s.2.2.2.1.length ≤ P.length ∧ s.2.2.2.1.length ≤ s.2.2.2.2.1 ∧ kidsL (decM m) s.2.2.2.2.1 s.2.2.2.1 (s.2.1.map Prod.fst) = kidsL (decM m) P.length P [])
      (fun s => ⟨[(10, .ptr 2 0), (9, .raw (.slice s.2.2.1.1 s.2.2.2.1.length s.2.2.1.2)), (7, .ptr 1 0), (4, .ptr 0 0), (1, .int .i64 ((64 - (m + 1) : Nat) : Int))], 4,
       [(3, lO 79 (s.2.1.flatMap itQ) s.1), (2, some (.cells [.int .i64 1, .raw (.slice none 0 0), lE 3 s.2.1.length s.1] 79 (0, 0))), (1, some (.cells [.int .i64 (ls : Nat), .int .i64 (fr : Nat), .int .i64 (to : Nat)] 155 (0, 0))), (0, some (.cells [.int .i64 0, .raw (.slice none 0 0), .raw (.slice none 0 0)] 79 (0, 0)))], s.2.2.2.2.2, []⟩)
      (fun s => s.2.2.2.1.length) (none, [], ((if cap = fr then ad else ad.map (·.add fr)), cap - fr), P, P.length, B0) ⟨rfl, BExt.refl _, by simp, hbs, by simp only; omega, by simp only; omega, by simp, Nat.le_refl _, rfl⟩ (Weak.sub (weak_of (by simp [wσ, go_sem, closed, closeds, lE_closed, lE, lO, clO, hpl, EObj.closed] <;> omega) (by simp [whs, Go.Ew.hget, go_sem, EObj.closed, closed, closeds, lE_closed, lE, lO, clO, hpl, EObj.closed]) (by simp [*]) rfl rfl (by simp))) ?_
     rintro ⟨l, qs, ⟨pA, pc⟩, p, fuel, B1⟩ ⟨hl, hB1, hqs, hbp, hpc, hpc2, hcnt, hfu, hkk⟩
     simp only at hl hB1 hqs hbp hpc hpc2 hcnt hfu hkk ⊢
     by_cases hp0 : p = []
     ·subst hp0
      rw [kidsL_nil] at hkk
      refine freezeL (xs := qs.flatMap itQ) (T := 79) 3 qs.length rfl hl (by rw [itsE_len]; rfl) (itsE_closed 0 qs) z3_closed (by simp) (fun b2 kA kc B3 hB3 hf2' hD hso hcell => ?_)
      change BExt B1 B3 at hB3
      have hC : CellsAt B3 kA (qs.flatMap itC) := cellsAt_frz hD hso (fun h0 => by
       rw [List.length_eq_zero_iff.1 h0]; rfl) hcell (reals_itQ _ _)
      rw [← hkk, if_neg (by simp)] at hM
      simp only [frzσ, frz, frzs, hf2', frzh_cons, frzh_nil, Nat.reduceEqDiff, if_false, if_true, ↓reduceIte, fzO_some, EObj.frz]
      rw [hM]
      repeat' (first | with_reducible refine And.intro (by omega) ?_ | simp (maxSteps := 4000000) (disch := omega) only [go_sem, ↓reduceIte, List.length_nil] | with_reducible refine drawT_of (id := 16) [0, 1, 2, 3, 4, 5] mixed (by kernel_rfl) (by simp) (fun hin => dt_of 1000 hin ?_) | with_reducible refine endT_of (by kernel_rfl) (nmT_of (by kernel_rfl)) (next_of 1000 ?_) | with_reducible refine next_of 1000 ?_)
      refine ⟨hB1.trans hB3, ⟨none, 0, kA, kc⟩, ?_, by simp [closed, closeds], ?_⟩
      ·simp [Itm.list, Itm.bytes, Itm.kids]
      ·exact .mk 1 [] qs _ (bytes_any _) (by simp) hC (by omega) (fun q hq => (hqs q hq).ext hB3)
     ·have hpl0 : p.length ≠ 0 := fun h => hp0 (List.length_eq_zero_iff.1 h)
      obtain ⟨fuel', rfl⟩ : ∃ k, fuel = k + 1 := ⟨fuel - 1, by omega⟩
      rw [kidsL, if_neg hp0] at hkk
      have hrec := ih (by omega) p p.length B1 pA pc hbp rfl hpc hpc2
      have hto := fun h => decM_to (m := m) (b := p) h
      have her := decM_err m p
      have c0 : (((p.length : Nat) : Int) == 0) = false := by rw [beq_eq_false_iff_ne]; omega
      have e6 : ((64 - (m + 1) : Nat) : Int) + 1 = ((64 - m : Nat) : Int) := by omega
      obtain ⟨t, k, e, hq⟩ : ∃ t k e, decM m p = (t, k, e) := ⟨_, _, _, rfl⟩
      rw [hq] at hrec hto her hkk
      simp only at hrec hto her hkk
      refine next_of 1000 ?_
      repeat' (simp (maxSteps := 4000000) (disch := omega) only [go_sem, ↓reduceIte, c0, e6])
      refine callS_f hrec (fun _ => by simp [closed, closeds]) (fun s2 B2 hB2 hR2 => next_of 1000 ?_)
      change BExt B1 B2 at hB2
      by_cases he : e = 0
      ·subst he
       obtain ⟨t1, t2⟩ := hto rfl
       rw [if_neg (by simp)] at hkk
       repeat' (first | with_reducible refine And.intro (by first | omega | (simp; done)) ?_ | simp (maxSteps := 4000000) (disch := omega) only [go_sem, ↓reduceIte, c0, e6])
       refine appendL (l := l) (xs := qs.flatMap itQ) (zs := z3) (news := itE t s2) (T := 79) 3 qs.length rfl Try.underlying77 (.inl ⟨_, Try.underlying77⟩) zr79 cz79 (by simp [z3]) z3_closed rfl rfl rfl hl (by rw [itsE_len]; rfl) (itsE_closed 0 _) (src_own (m := 1) rfl rfl) (by simp [z3]) rfl (by simp only [maxLen]; omega) (by rw [show Try.prog.bytesOf 79 = 56 from by79]; omega) (fun l2 hl2 => ?_)
       have hl2' := hl2
       obtain ⟨cp, rest, rfl, -⟩ := lst_some hl2 (by omega)
       simp only [lE_some]
       have hev : qs.flatMap itQ ++ itE t s2 = (qs ++ [(t, s2)]).flatMap itQ := by
        rw [List.flatMap_append, List.flatMap_singleton]; rfl
       repeat' (first | with_reducible refine And.intro (by first | omega | (simp; omega)) ?_ | simp (maxSteps := 4000000) (disch := omega) only [go_sem, ↓reduceIte, c0, e6, hev, Int.toNat_natCast] | with_reducible refine next_of 1000 ?_)
       have hok' : ∀ a ∈ qs ++ [(t, s2)], ItAt B2 a.1 a.2 := fun a ha => by
        rcases List.mem_append.1 ha with h3 | h3
        ·exact (hqs a h3).ext hB2
        ·obtain rfl := List.mem_singleton.1 h3
         exact hR2
       have cl2 : ∀ n, clO n (lO 79 ((qs ++ [(t, s2)]).flatMap itQ) (some (cp, rest))) = True := fun n => clO_lO hl2' (itsE_closed 0 _) z3_closed
       have cl3 : ∀ n, clO n (lO 79 (qs.flatMap itQ ++ itQ (t, s2)) (some (cp, rest))) = True := fun n => by have := cl2 n; rwa [List.flatMap_append, List.flatMap_singleton] at this
       have hdl : (p.drop k).length = p.length - k := List.length_drop
       have hql : (qs ++ [(t, s2)]).length = qs.length + 1 := by simp
       refine ⟨(some (cp, rest), qs ++ [(t, s2)], (if pc = k then pA else pA.map (·.add k), pc - k), p.drop k, fuel', B2), ⟨by simp only [hql]; exact hl2', hB1.trans hB2, hok', bytes_from (hbp.ext hB2) k hpc, by simp only [hdl]; omega, by simp only [hdl]; omega, by simp only [hql, hdl]; omega, by simp only [hdl]; omega, by simp only; rw [List.map_append]; exact hkk⟩, (pack_sub [6] 3 (by simp) (by simp) (by simp) (by simp)).trans ?_, by simp only [hdl]; omega⟩
       simp only [go_sem, okC, okE, okCs, pkO_some, pkO_lO (ks := [6]) (k := 3) hl2' (itsE_closed 0 (qs ++ [(t, s2)])) z3_closed, pkO_none, hdl, hql, lE_some]
       exact Weak.sub (weak_of (by simp [wσ, go_sem, closed, closeds, lE_closed, cl3, lE_some] <;> omega) (by simp [whs, Go.Ew.hget, go_sem, EObj.closed, closed, closeds, lE_closed, cl3, lE_some]) (by simp [*]) rfl rfl (by simp))
      ·rw [if_pos he] at hkk
       rw [← hkk, if_pos (by simpa using he)] at hM
       rw [hM]
       have hei : ((e : Nat) : Int) ≠ 0 := by omega
       repeat' (first | simp (maxSteps := 4000000) (disch := omega) only [go_sem, ↓reduceIte, c0, e6] | ((first | refine condS_split (fun h => ?_) (fun h => ?_) | refine testS_split (fun h => ?_) (fun h => ?_) | refine testT_split (fun h => ?_) (fun h => ?_)) <;> (try simp only [bne_iff_ne, ne_eq, beq_iff_eq, decide_eq_true_eq, decide_eq_false_iff_not, Bool.not_eq_true, Bool.not_eq_false, Bool.not_true, Bool.not_false, bne_eq_false_iff_eq, beq_eq_false_iff_ne, Bool.and_eq_true, Bool.or_eq_true, Bool.and_eq_false_imp, Bool.or_eq_false_iff, Bool.not_eq_true', Bool.not_eq_false', Int.not_lt, Int.not_le] at h) <;> (try (exfalso; omega))))
       exact ⟨hB1.trans hB2, ⟨none, 0, none, 0⟩, rfl, by simp [closed, closeds], zI_at _⟩
  ·rw [if_pos h1] at hM
   rw [hM]
   obtain ⟨e, he⟩ : ∃ e, e = (headM b).2 := ⟨_, rfl⟩
   rw [← he] at hhd h1 herr ⊢
   have hei : ((e : Nat) : Int) ≠ 0 := by omega
   repeat' (first | simp (maxSteps := 4000000) (disch := omega) only [go_sem, ↓reduceIte] | refine callS_fp (hhd) (by simp [closed, closeds, closeds_ints, closed_wE]) (next_of 1000 ?_) | ((first | refine condS_split (fun h => ?_) (fun h => ?_) | refine testS_split (fun h => ?_) (fun h => ?_) | refine testT_split (fun h => ?_) (fun h => ?_)) <;> (try simp only [bne_iff_ne, ne_eq, beq_iff_eq, decide_eq_true_eq, decide_eq_false_iff_not, Bool.not_eq_true, Bool.not_eq_false, Bool.not_true, Bool.not_false, bne_eq_false_iff_eq, beq_eq_false_iff_ne, Bool.and_eq_true, Bool.or_eq_true, Bool.and_eq_false_imp, Bool.or_eq_false_iff, Bool.not_eq_true', Bool.not_eq_false', Int.not_lt, Int.not_le] at h) <;> (try (exfalso; omega))))
   exact ⟨BExt.refl _, ⟨none, 0, none, 0⟩, rfl, by simp [closed, closeds], zI_at _⟩
end Go.Proofs.Ytepabkjfnpaijaa
