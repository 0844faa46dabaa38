/- Part of a proof over the seat Ytepabkjfnpaijaa. -/
import Derived.Test.YtepabkjfnpaijaaG16
import Derived.Test.YtepabkjfnpaijaaG13
set_option linter.unusedSimpArgs false
set_option linter.unusedVariables false
set_option maxRecDepth 100000
namespace Go.Proofs.Ytepabkjfnpaijaa
open Go RowKit Go.Ew
set_option maxHeartbeats 4000000
theorem in90 : codeIn Try.f90.ntmps (Try.f90.body.getD .skip) = true := by kernel_rfl
theorem rread8_fn (l : List UInt8) (n : Nat) (B : Base) (ad : Option Addr) (cap : Nat) (hl : BytesAt B ad l) (hn : l.length = n) (h8 : n ≤ 8) :
  Does Try.prog 91 [.raw (.slice ad n cap)] B (fun _ : Unit => .agg [.int .u64 (bvN l : Nat), .int .u64 0, .int .u64 0, .int .u64 0]) (fun _ _ => True) := by
 have h := rread_fn l n B ad cap hl hn (by omega)
 have hv := bvN_8 (l := l) (by omega)
 rw [← wE_of (n := bvN l) (a := (bvN l : Nat)) (b := 0) (c := 0) (d := 0) (by constructor <;> omega)] at h
 exact h
theorem longM_at {b : List UInt8} {k : Nat} : longM (b.drop 1) k = if b.length - 1 < k then (0, 41) else if b.getD 1 0 = 0 then (0, 42) else if bvN ((b.take (1 + k)).drop 1) ≤ 55 ∨ 1099511627776 < bvN ((b.take (1 + k)).drop 1) then (0, 42) else (bvN ((b.take (1 + k)).drop 1), 0) := by
 have e1 : (b.drop 1).getD 0 0 = b.getD 1 0 := by simp [List.getD_eq_getElem?_getD, List.getElem?_drop]
 have e2 : (b.drop 1).take k = (b.take (1 + k)).drop 1 := by rw [List.drop_take, Nat.add_sub_cancel_left]
 rw [longM, List.length_drop, e1, e2]
theorem rhd_fn (b : List UInt8) (n : Nat) (B : Base) (ad : Option Addr) (cap : Nat) (hb : BytesAt B ad b) (hn : b.length = n) (hcap : n ≤ cap) (hc : n ≤ 4611686018427387904) :
  Does Try.prog 90 [.raw (.slice ad n cap)] B (fun _ : Unit => .tup [pcE (headM b).1, .int .i64 ((headM b).2 : Nat)]) (fun _ _ => True) := by
 subst hn
 refine fn_of en90 (fun s B B' hB hR => hR) Try.func90 rfl in90 (by simp [Try.f90]) (by simp [closeds, closed]) (fun B0 hB0 => next_of 1000 ?_)
 replace hb := hb.ext hB0
 by_cases h0 : b = []
 ·subst h0
  repeat' (simp (maxSteps := 4000000) (disch := omega) only [go_sem, ↓reduceIte, Try.f90, List.length_nil])
  exact ⟨BExt.refl _, (), by simp [headM, closed, closeds]⟩
 ·have hlen : 1 ≤ b.length := by
   rcases Nat.eq_zero_or_pos b.length with h1 | h1
   ·exact absurd (List.length_eq_zero_iff.1 h1) h0
   ·exact h1
  have c0 : (((b.length : Nat) : Int) == 0) = false := by rw [beq_eq_false_iff_ne]; omega
  have m1 := hb.ld 0 (by omega)
  have m2 := hb.lS 0 (by omega)
  have m3 := hb.lD (by omega)
  have m4 := hb.ok.so (by omega)
  have hM : headM b = if (b.getD 0 0).toNat < 128 then ((0, 0, 1), 0) else if 192 ≤ (b.getD 0 0).toNat then tailM b 1 ((b.getD 0 0).toNat - 192) else tailM b 0 ((b.getD 0 0).toNat - 128) := by unfold headM; rw [if_neg h0]
  obtain ⟨z, hz⟩ : ∃ z, z = (b.getD 0 0).toNat := ⟨_, rfl⟩
  have m5 : rawCell B0 (adrAt ad 0) = .int .u8 (z : Int) := by rw [m1, bE, hz]
  have hz2 : z < 256 := by rw [hz]; exact (b.getD 0 0).toNat_lt
  rw [← hz] at hM
  by_cases h1 : z < 128
  ·rw [if_pos h1] at hM
   rw [hM]
   repeat' (first | with_reducible refine And.intro (by first | omega | assumption | (constructor <;> assumption) | (simp; done) | (simp; omega) | (simp [*]; done) | ((repeat' refine And.intro ?_ ?_) <;> first | omega | assumption | (refine SlOk.so (n := ?_) ?_ ?_; rotate_left; assumption; omega) | (simp; done) | fail) | fail) ?_ | simp (maxSteps := 4000000) (disch := omega) only [go_sem, ↓reduceIte, Try.f90, c0, m5] | ((first | refine condS_split (fun h => ?_) (fun h => ?_) | refine testS_split (fun h => ?_) (fun h => ?_) | refine testT_split (fun h => ?_) (fun h => ?_)) <;> (try simp only [bne_iff_ne, ne_eq, beq_iff_eq, decide_eq_true_eq, decide_eq_false_iff_not, Bool.not_eq_true, Bool.not_eq_false, Bool.not_true, Bool.not_false, bne_eq_false_iff_eq, beq_eq_false_iff_ne, Bool.and_eq_true, Bool.or_eq_true, Bool.and_eq_false_imp, Bool.or_eq_false_iff, Bool.not_eq_true', Bool.not_eq_false', Int.not_lt, Int.not_le] at h) <;> (try (exfalso; omega))))
   exact ⟨BExt.refl _, (), by simp [closed, closeds]⟩
  ·rw [if_neg h1] at hM
   by_cases h2 : 192 ≤ z
   ·rw [if_pos h2] at hM
    by_cases h3 : z - 192 ≤ 55
    ·rw [tailM, if_pos h3] at hM
     by_cases h4 : b.length - 1 < z - 192
     ·rw [finM, if_pos h4] at hM
      rw [hM]
      repeat' (first | with_reducible refine And.intro (by first | omega | assumption | (constructor <;> assumption) | (simp; done) | (simp; omega) | (simp [*]; done) | ((repeat' refine And.intro ?_ ?_) <;> first | omega | assumption | (refine SlOk.so (n := ?_) ?_ ?_; rotate_left; assumption; omega) | (simp; done) | fail) | fail) ?_ | simp (maxSteps := 4000000) (disch := omega) only [go_sem, ↓reduceIte, Try.f90, c0, m5] | ((first | refine condS_split (fun h => ?_) (fun h => ?_) | refine testS_split (fun h => ?_) (fun h => ?_) | refine testT_split (fun h => ?_) (fun h => ?_)) <;> (try simp only [bne_iff_ne, ne_eq, beq_iff_eq, decide_eq_true_eq, decide_eq_false_iff_not, Bool.not_eq_true, Bool.not_eq_false, Bool.not_true, Bool.not_false, bne_eq_false_iff_eq, beq_eq_false_iff_ne, Bool.and_eq_true, Bool.or_eq_true, Bool.and_eq_false_imp, Bool.or_eq_false_iff, Bool.not_eq_true', Bool.not_eq_false', Int.not_lt, Int.not_le] at h) <;> (try (exfalso; omega))))
      exact ⟨BExt.refl _, (), by simp [closed, closeds]⟩
     ·rw [finM, if_neg h4, if_neg (by omega)] at hM
      rw [hM]
      repeat' (first | with_reducible refine And.intro (by first | omega | assumption | (constructor <;> assumption) | (simp; done) | (simp; omega) | (simp [*]; done) | ((repeat' refine And.intro ?_ ?_) <;> first | omega | assumption | (refine SlOk.so (n := ?_) ?_ ?_; rotate_left; assumption; omega) | (simp; done) | fail) | fail) ?_ | simp (maxSteps := 4000000) (disch := omega) only [go_sem, ↓reduceIte, Try.f90, c0, m5] | ((first | refine condS_split (fun h => ?_) (fun h => ?_) | refine testS_split (fun h => ?_) (fun h => ?_) | refine testT_split (fun h => ?_) (fun h => ?_)) <;> (try simp only [bne_iff_ne, ne_eq, beq_iff_eq, decide_eq_true_eq, decide_eq_false_iff_not, Bool.not_eq_true, Bool.not_eq_false, Bool.not_true, Bool.not_false, bne_eq_false_iff_eq, beq_eq_false_iff_ne, Bool.and_eq_true, Bool.or_eq_true, Bool.and_eq_false_imp, Bool.or_eq_false_iff, Bool.not_eq_true', Bool.not_eq_false', Int.not_lt, Int.not_le] at h) <;> (try (exfalso; omega))))
      exact ⟨BExt.refl _, (), by simp [closed, closeds] <;> omega⟩
    ·rw [tailM, if_neg h3, longM_at] at hM
     have e5 : ((z : Int) - 64 - 128 - 55) = ((z - 192 - 55 : Nat) : Int) := by omega
     obtain ⟨k, hk⟩ : ∃ k, k = z - 192 - 55 := ⟨_, rfl⟩
     rw [← hk] at hM e5
     by_cases h4 : b.length - 1 < k
     ·rw [if_pos h4, if_pos (by simp)] at hM
      rw [hM]
      repeat' (first | with_reducible refine And.intro (by first | omega | assumption | (constructor <;> assumption) | (simp; done) | (simp; omega) | (simp [*]; done) | ((repeat' refine And.intro ?_ ?_) <;> first | omega | assumption | (refine SlOk.so (n := ?_) ?_ ?_; rotate_left; assumption; omega) | (simp; done) | fail) | fail) ?_ | simp (maxSteps := 4000000) (disch := omega) only [go_sem, ↓reduceIte, Try.f90, c0, m5, e5] | ((first | refine condS_split (fun h => ?_) (fun h => ?_) | refine testS_split (fun h => ?_) (fun h => ?_) | refine testT_split (fun h => ?_) (fun h => ?_)) <;> (try simp only [bne_iff_ne, ne_eq, beq_iff_eq, decide_eq_true_eq, decide_eq_false_iff_not, Bool.not_eq_true, Bool.not_eq_false, Bool.not_true, Bool.not_false, bne_eq_false_iff_eq, beq_eq_false_iff_ne, Bool.and_eq_true, Bool.or_eq_true, Bool.and_eq_false_imp, Bool.or_eq_false_iff, Bool.not_eq_true', Bool.not_eq_false', Int.not_lt, Int.not_le] at h) <;> (try (exfalso; omega))))
      exact ⟨BExt.refl _, (), by simp [closed, closeds]⟩
     ·rw [if_neg h4] at hM
      have hbs := bytes_sub hb (fr := 1) (to := 1 + k) (by omega) (by omega) hcap
      have hrd := rread8_fn ((b.take (1 + k)).drop 1) k B0 _ (cap - 1) hbs (by simp; omega) (by omega)
      have hN8 := bvN_8 (l := (b.take (1 + k)).drop 1) (by simp; omega)
      obtain ⟨N, hN⟩ : ∃ N, N = bvN ((b.take (1 + k)).drop 1) := ⟨_, rfl⟩
      rw [← hN] at hM hrd hN8
      have k1 := hb.ld 1 (by omega)
      have k2 := hb.lS 1 (by omega)
      obtain ⟨y, hy⟩ : ∃ y, y = (b.getD 1 0).toNat := ⟨_, rfl⟩
      have hy2 : y < 256 := by rw [hy]; exact (b.getD 1 0).toNat_lt
      have k5 : rawCell B0 (adrAt ad 1) = .int .u8 (y : Int) := by rw [k1, bE, hy]
      have e6 : ((1 : Int) + (k : Int)).toNat = 1 + k := by omega
      have e7 : 1 + k - 1 = k := by omega
      by_cases h5 : b.getD 1 0 = 0
      ·rw [if_pos h5, if_pos (by simp)] at hM
       have hy0 : y = 0 := by rw [hy, h5]; rfl
       rw [hM]
       repeat' (first | with_reducible refine And.intro (by first | omega | assumption | (constructor <;> assumption) | (simp; done) | (simp; omega) | (simp [*]; done) | ((repeat' refine And.intro ?_ ?_) <;> first | omega | assumption | (refine SlOk.so (n := ?_) ?_ ?_; rotate_left; assumption; omega) | (simp; done) | fail) | fail) ?_ | simp (maxSteps := 4000000) (disch := omega) only [go_sem, ↓reduceIte, Try.f90, c0, m5, e5, e6, e7, k5] | refine callS_fp (hrd) (by simp [closed, closeds, closeds_ints, closed_wE]) (next_of 1000 ?_) | ((first | refine condS_split (fun h => ?_) (fun h => ?_) | refine testS_split (fun h => ?_) (fun h => ?_) | refine testT_split (fun h => ?_) (fun h => ?_)) <;> (try simp only [bne_iff_ne, ne_eq, beq_iff_eq, decide_eq_true_eq, decide_eq_false_iff_not, Bool.not_eq_true, Bool.not_eq_false, Bool.not_true, Bool.not_false, bne_eq_false_iff_eq, beq_eq_false_iff_ne, Bool.and_eq_true, Bool.or_eq_true, Bool.and_eq_false_imp, Bool.or_eq_false_iff, Bool.not_eq_true', Bool.not_eq_false', Int.not_lt, Int.not_le] at h) <;> (try (exfalso; omega))))
       all_goals exact ⟨BExt.refl _, (), by simp [closed, closeds]⟩
      ·rw [if_neg h5] at hM
       have hy0 : y ≠ 0 := fun h => h5 (UInt8.toNat_inj.1 (by rw [← hy, h]; rfl))
       by_cases h6 : N ≤ 55 ∨ 1099511627776 < N
       ·rw [if_pos h6, if_pos (by simp)] at hM
        rw [hM]
        repeat' (first | with_reducible refine And.intro (by first | omega | assumption | (constructor <;> assumption) | (simp; done) | (simp; omega) | (simp [*]; done) | ((repeat' refine And.intro ?_ ?_) <;> first | omega | assumption | (refine SlOk.so (n := ?_) ?_ ?_; rotate_left; assumption; omega) | (simp; done) | fail) | fail) ?_ | simp (maxSteps := 4000000) (disch := omega) only [go_sem, ↓reduceIte, Try.f90, c0, m5, e5, e6, e7, k5] | refine callS_fp (hrd) (by simp [closed, closeds, closeds_ints, closed_wE]) (next_of 1000 ?_) | ((first | refine condS_split (fun h => ?_) (fun h => ?_) | refine testS_split (fun h => ?_) (fun h => ?_) | refine testT_split (fun h => ?_) (fun h => ?_)) <;> (try simp only [bne_iff_ne, ne_eq, beq_iff_eq, decide_eq_true_eq, decide_eq_false_iff_not, Bool.not_eq_true, Bool.not_eq_false, Bool.not_true, Bool.not_false, bne_eq_false_iff_eq, beq_eq_false_iff_ne, Bool.and_eq_true, Bool.or_eq_true, Bool.and_eq_false_imp, Bool.or_eq_false_iff, Bool.not_eq_true', Bool.not_eq_false', Int.not_lt, Int.not_le] at h) <;> (try (exfalso; omega))))
        all_goals exact ⟨BExt.refl _, (), by simp [closed, closeds]⟩
       ·rw [if_neg h6, if_neg (by simp)] at hM
        simp only at hM
        by_cases h7 : b.length - (1 + k) < N
        ·rw [finM, if_pos h7] at hM
         rw [hM]
         repeat' (first | with_reducible refine And.intro (by first | omega | assumption | (constructor <;> assumption) | (simp; done) | (simp; omega) | (simp [*]; done) | ((repeat' refine And.intro ?_ ?_) <;> first | omega | assumption | (refine SlOk.so (n := ?_) ?_ ?_; rotate_left; assumption; omega) | (simp; done) | fail) | fail) ?_ | simp (maxSteps := 4000000) (disch := omega) only [go_sem, ↓reduceIte, Try.f90, c0, m5, e5, e6, e7, k5] | refine callS_fp (hrd) (by simp [closed, closeds, closeds_ints, closed_wE]) (next_of 1000 ?_) | ((first | refine condS_split (fun h => ?_) (fun h => ?_) | refine testS_split (fun h => ?_) (fun h => ?_) | refine testT_split (fun h => ?_) (fun h => ?_)) <;> (try simp only [bne_iff_ne, ne_eq, beq_iff_eq, decide_eq_true_eq, decide_eq_false_iff_not, Bool.not_eq_true, Bool.not_eq_false, Bool.not_true, Bool.not_false, bne_eq_false_iff_eq, beq_eq_false_iff_ne, Bool.and_eq_true, Bool.or_eq_true, Bool.and_eq_false_imp, Bool.or_eq_false_iff, Bool.not_eq_true', Bool.not_eq_false', Int.not_lt, Int.not_le] at h) <;> (try (exfalso; omega))))
         all_goals exact ⟨BExt.refl _, (), by simp [closed, closeds]⟩
        ·rw [finM, if_neg h7, if_neg (by omega)] at hM
         rw [hM]
         repeat' (first | with_reducible refine And.intro (by first | omega | assumption | (constructor <;> assumption) | (simp; done) | (simp; omega) | (simp [*]; done) | ((repeat' refine And.intro ?_ ?_) <;> first | omega | assumption | (refine SlOk.so (n := ?_) ?_ ?_; rotate_left; assumption; omega) | (simp; done) | fail) | fail) ?_ | simp (maxSteps := 4000000) (disch := omega) only [go_sem, ↓reduceIte, Try.f90, c0, m5, e5, e6, e7, k5] | refine callS_fp (hrd) (by simp [closed, closeds, closeds_ints, closed_wE]) (next_of 1000 ?_) | ((first | refine condS_split (fun h => ?_) (fun h => ?_) | refine testS_split (fun h => ?_) (fun h => ?_) | refine testT_split (fun h => ?_) (fun h => ?_)) <;> (try simp only [bne_iff_ne, ne_eq, beq_iff_eq, decide_eq_true_eq, decide_eq_false_iff_not, Bool.not_eq_true, Bool.not_eq_false, Bool.not_true, Bool.not_false, bne_eq_false_iff_eq, beq_eq_false_iff_ne, Bool.and_eq_true, Bool.or_eq_true, Bool.and_eq_false_imp, Bool.or_eq_false_iff, Bool.not_eq_true', Bool.not_eq_false', Int.not_lt, Int.not_le] at h) <;> (try (exfalso; omega))))
         all_goals exact ⟨BExt.refl _, (), by simp [closed, closeds] <;> omega⟩
   ·rw [if_neg h2] at hM
    by_cases h3 : z - 128 ≤ 55
    ·rw [tailM, if_pos h3] at hM
     by_cases h4 : b.length - 1 < z - 128
     ·rw [finM, if_pos h4] at hM
      rw [hM]
      repeat' (first | with_reducible refine And.intro (by first | omega | assumption | (constructor <;> assumption) | (simp; done) | (simp; omega) | (simp [*]; done) | ((repeat' refine And.intro ?_ ?_) <;> first | omega | assumption | (refine SlOk.so (n := ?_) ?_ ?_; rotate_left; assumption; omega) | (simp; done) | fail) | fail) ?_ | simp (maxSteps := 4000000) (disch := omega) only [go_sem, ↓reduceIte, Try.f90, c0, m5] | ((first | refine condS_split (fun h => ?_) (fun h => ?_) | refine testS_split (fun h => ?_) (fun h => ?_) | refine testT_split (fun h => ?_) (fun h => ?_)) <;> (try simp only [bne_iff_ne, ne_eq, beq_iff_eq, decide_eq_true_eq, decide_eq_false_iff_not, Bool.not_eq_true, Bool.not_eq_false, Bool.not_true, Bool.not_false, bne_eq_false_iff_eq, beq_eq_false_iff_ne, Bool.and_eq_true, Bool.or_eq_true, Bool.and_eq_false_imp, Bool.or_eq_false_iff, Bool.not_eq_true', Bool.not_eq_false', Int.not_lt, Int.not_le] at h) <;> (try (exfalso; omega))))
      exact ⟨BExt.refl _, (), by simp [closed, closeds]⟩
     ·by_cases h5 : z - 128 = 1
      ·have k1 := hb.ld 1 (by omega)
       have k2 := hb.lS 1 (by omega)
       obtain ⟨y, hy⟩ : ∃ y, y = (b.getD 1 0).toNat := ⟨_, rfl⟩
       have k5 : rawCell B0 (adrAt ad 1) = .int .u8 (y : Int) := by rw [k1, bE, hy]
       by_cases h6 : y < 128
       ·rw [finM, if_neg h4, if_pos ⟨rfl, h5, by omega⟩] at hM
        rw [hM]
        repeat' (first | with_reducible refine And.intro (by first | omega | assumption | (constructor <;> assumption) | (simp; done) | (simp; omega) | (simp [*]; done) | ((repeat' refine And.intro ?_ ?_) <;> first | omega | assumption | (refine SlOk.so (n := ?_) ?_ ?_; rotate_left; assumption; omega) | (simp; done) | fail) | fail) ?_ | simp (maxSteps := 4000000) (disch := omega) only [go_sem, ↓reduceIte, Try.f90, c0, m5, k5] | ((first | refine condS_split (fun h => ?_) (fun h => ?_) | refine testS_split (fun h => ?_) (fun h => ?_) | refine testT_split (fun h => ?_) (fun h => ?_)) <;> (try simp only [bne_iff_ne, ne_eq, beq_iff_eq, decide_eq_true_eq, decide_eq_false_iff_not, Bool.not_eq_true, Bool.not_eq_false, Bool.not_true, Bool.not_false, bne_eq_false_iff_eq, beq_eq_false_iff_ne, Bool.and_eq_true, Bool.or_eq_true, Bool.and_eq_false_imp, Bool.or_eq_false_iff, Bool.not_eq_true', Bool.not_eq_false', Int.not_lt, Int.not_le] at h) <;> (try (exfalso; omega))))
        exact ⟨BExt.refl _, (), by simp [closed, closeds]⟩
       ·rw [finM, if_neg h4, if_neg (by omega)] at hM
        rw [hM]
        repeat' (first | with_reducible refine And.intro (by first | omega | assumption | (constructor <;> assumption) | (simp; done) | (simp; omega) | (simp [*]; done) | ((repeat' refine And.intro ?_ ?_) <;> first | omega | assumption | (refine SlOk.so (n := ?_) ?_ ?_; rotate_left; assumption; omega) | (simp; done) | fail) | fail) ?_ | simp (maxSteps := 4000000) (disch := omega) only [go_sem, ↓reduceIte, Try.f90, c0, m5, k5] | ((first | refine condS_split (fun h => ?_) (fun h => ?_) | refine testS_split (fun h => ?_) (fun h => ?_) | refine testT_split (fun h => ?_) (fun h => ?_)) <;> (try simp only [bne_iff_ne, ne_eq, beq_iff_eq, decide_eq_true_eq, decide_eq_false_iff_not, Bool.not_eq_true, Bool.not_eq_false, Bool.not_true, Bool.not_false, bne_eq_false_iff_eq, beq_eq_false_iff_ne, Bool.and_eq_true, Bool.or_eq_true, Bool.and_eq_false_imp, Bool.or_eq_false_iff, Bool.not_eq_true', Bool.not_eq_false', Int.not_lt, Int.not_le] at h) <;> (try (exfalso; omega))))
        exact ⟨BExt.refl _, (), by simp [closed, closeds] <;> omega⟩
      ·rw [finM, if_neg h4, if_neg (by omega)] at hM
       rw [hM]
       repeat' (first | with_reducible refine And.intro (by first | omega | assumption | (constructor <;> assumption) | (simp; done) | (simp; omega) | (simp [*]; done) | ((repeat' refine And.intro ?_ ?_) <;> first | omega | assumption | (refine SlOk.so (n := ?_) ?_ ?_; rotate_left; assumption; omega) | (simp; done) | fail) | fail) ?_ | simp (maxSteps := 4000000) (disch := omega) only [go_sem, ↓reduceIte, Try.f90, c0, m5] | ((first | refine condS_split (fun h => ?_) (fun h => ?_) | refine testS_split (fun h => ?_) (fun h => ?_) | refine testT_split (fun h => ?_) (fun h => ?_)) <;> (try simp only [bne_iff_ne, ne_eq, beq_iff_eq, decide_eq_true_eq, decide_eq_false_iff_not, Bool.not_eq_true, Bool.not_eq_false, Bool.not_true, Bool.not_false, bne_eq_false_iff_eq, beq_eq_false_iff_ne, Bool.and_eq_true, Bool.or_eq_true, Bool.and_eq_false_imp, Bool.or_eq_false_iff, Bool.not_eq_true', Bool.not_eq_false', Int.not_lt, Int.not_le] at h) <;> (try (exfalso; omega))))
       exact ⟨BExt.refl _, (), by simp [closed, closeds] <;> omega⟩
    ·rw [tailM, if_neg h3, longM_at] at hM
     have e5 : ((z : Int) - 128 - 55) = ((z - 128 - 55 : Nat) : Int) := by omega
     obtain ⟨k, hk⟩ : ∃ k, k = z - 128 - 55 := ⟨_, rfl⟩
     rw [← hk] at hM e5
     by_cases h4 : b.length - 1 < k
     ·rw [if_pos h4, if_pos (by simp)] at hM
      rw [hM]
      repeat' (first | with_reducible refine And.intro (by first | omega | assumption | (constructor <;> assumption) | (simp; done) | (simp; omega) | (simp [*]; done) | ((repeat' refine And.intro ?_ ?_) <;> first | omega | assumption | (refine SlOk.so (n := ?_) ?_ ?_; rotate_left; assumption; omega) | (simp; done) | fail) | fail) ?_ | simp (maxSteps := 4000000) (disch := omega) only [go_sem, ↓reduceIte, Try.f90, c0, m5, e5] | ((first | refine condS_split (fun h => ?_) (fun h => ?_) | refine testS_split (fun h => ?_) (fun h => ?_) | refine testT_split (fun h => ?_) (fun h => ?_)) <;> (try simp only [bne_iff_ne, ne_eq, beq_iff_eq, decide_eq_true_eq, decide_eq_false_iff_not, Bool.not_eq_true, Bool.not_eq_false, Bool.not_true, Bool.not_false, bne_eq_false_iff_eq, beq_eq_false_iff_ne, Bool.and_eq_true, Bool.or_eq_true, Bool.and_eq_false_imp, Bool.or_eq_false_iff, Bool.not_eq_true', Bool.not_eq_false', Int.not_lt, Int.not_le] at h) <;> (try (exfalso; omega))))
      exact ⟨BExt.refl _, (), by simp [closed, closeds]⟩
     ·rw [if_neg h4] at hM
      have hbs := bytes_sub hb (fr := 1) (to := 1 + k) (by omega) (by omega) hcap
      have hrd := rread8_fn ((b.take (1 + k)).drop 1) k B0 _ (cap - 1) hbs (by simp; omega) (by omega)
      have hN8 := bvN_8 (l := (b.take (1 + k)).drop 1) (by simp; omega)
      obtain ⟨N, hN⟩ : ∃ N, N = bvN ((b.take (1 + k)).drop 1) := ⟨_, rfl⟩
      rw [← hN] at hM hrd hN8
      have k1 := hb.ld 1 (by omega)
      have k2 := hb.lS 1 (by omega)
      obtain ⟨y, hy⟩ : ∃ y, y = (b.getD 1 0).toNat := ⟨_, rfl⟩
      have hy2 : y < 256 := by rw [hy]; exact (b.getD 1 0).toNat_lt
      have k5 : rawCell B0 (adrAt ad 1) = .int .u8 (y : Int) := by rw [k1, bE, hy]
      have e6 : ((1 : Int) + (k : Int)).toNat = 1 + k := by omega
      have e7 : 1 + k - 1 = k := by omega
      by_cases h5 : b.getD 1 0 = 0
      ·rw [if_pos h5, if_pos (by simp)] at hM
       have hy0 : y = 0 := by rw [hy, h5]; rfl
       rw [hM]
       repeat' (first | with_reducible refine And.intro (by first | omega | assumption | (constructor <;> assumption) | (simp; done) | (simp; omega) | (simp [*]; done) | ((repeat' refine And.intro ?_ ?_) <;> first | omega | assumption | (refine SlOk.so (n := ?_) ?_ ?_; rotate_left; assumption; omega) | (simp; done) | fail) | fail) ?_ | simp (maxSteps := 4000000) (disch := omega) only [go_sem, ↓reduceIte, Try.f90, c0, m5, e5, e6, e7, k5] | refine callS_fp (hrd) (by simp [closed, closeds, closeds_ints, closed_wE]) (next_of 1000 ?_) | ((first | refine condS_split (fun h => ?_) (fun h => ?_) | refine testS_split (fun h => ?_) (fun h => ?_) | refine testT_split (fun h => ?_) (fun h => ?_)) <;> (try simp only [bne_iff_ne, ne_eq, beq_iff_eq, decide_eq_true_eq, decide_eq_false_iff_not, Bool.not_eq_true, Bool.not_eq_false, Bool.not_true, Bool.not_false, bne_eq_false_iff_eq, beq_eq_false_iff_ne, Bool.and_eq_true, Bool.or_eq_true, Bool.and_eq_false_imp, Bool.or_eq_false_iff, Bool.not_eq_true', Bool.not_eq_false', Int.not_lt, Int.not_le] at h) <;> (try (exfalso; omega))))
       all_goals exact ⟨BExt.refl _, (), by simp [closed, closeds]⟩
      ·rw [if_neg h5] at hM
       have hy0 : y ≠ 0 := fun h => h5 (UInt8.toNat_inj.1 (by rw [← hy, h]; rfl))
       by_cases h6 : N ≤ 55 ∨ 1099511627776 < N
       ·rw [if_pos h6, if_pos (by simp)] at hM
        rw [hM]
        repeat' (first | with_reducible refine And.intro (by first | omega | assumption | (constructor <;> assumption) | (simp; done) | (simp; omega) | (simp [*]; done) | ((repeat' refine And.intro ?_ ?_) <;> first | omega | assumption | (refine SlOk.so (n := ?_) ?_ ?_; rotate_left; assumption; omega) | (simp; done) | fail) | fail) ?_ | simp (maxSteps := 4000000) (disch := omega) only [go_sem, ↓reduceIte, Try.f90, c0, m5, e5, e6, e7, k5] | refine callS_fp (hrd) (by simp [closed, closeds, closeds_ints, closed_wE]) (next_of 1000 ?_) | ((first | refine condS_split (fun h => ?_) (fun h => ?_) | refine testS_split (fun h => ?_) (fun h => ?_) | refine testT_split (fun h => ?_) (fun h => ?_)) <;> (try simp only [bne_iff_ne, ne_eq, beq_iff_eq, decide_eq_true_eq, decide_eq_false_iff_not, Bool.not_eq_true, Bool.not_eq_false, Bool.not_true, Bool.not_false, bne_eq_false_iff_eq, beq_eq_false_iff_ne, Bool.and_eq_true, Bool.or_eq_true, Bool.and_eq_false_imp, Bool.or_eq_false_iff, Bool.not_eq_true', Bool.not_eq_false', Int.not_lt, Int.not_le] at h) <;> (try (exfalso; omega))))
        all_goals exact ⟨BExt.refl _, (), by simp [closed, closeds]⟩
       ·rw [if_neg h6, if_neg (by simp)] at hM
        simp only at hM
        by_cases h7 : b.length - (1 + k) < N
        ·rw [finM, if_pos h7] at hM
         rw [hM]
         repeat' (first | with_reducible refine And.intro (by first | omega | assumption | (constructor <;> assumption) | (simp; done) | (simp; omega) | (simp [*]; done) | ((repeat' refine And.intro ?_ ?_) <;> first | omega | assumption | (refine SlOk.so (n := ?_) ?_ ?_; rotate_left; assumption; omega) | (simp; done) | fail) | fail) ?_ | simp (maxSteps := 4000000) (disch := omega) only [go_sem, ↓reduceIte, Try.f90, c0, m5, e5, e6, e7, k5] | refine callS_fp (hrd) (by simp [closed, closeds, closeds_ints, closed_wE]) (next_of 1000 ?_) | ((first | refine condS_split (fun h => ?_) (fun h => ?_) | refine testS_split (fun h => ?_) (fun h => ?_) | refine testT_split (fun h => ?_) (fun h => ?_)) <;> (try simp only [bne_iff_ne, ne_eq, beq_iff_eq, decide_eq_true_eq, decide_eq_false_iff_not, Bool.not_eq_true, Bool.not_eq_false, Bool.not_true, Bool.not_false, bne_eq_false_iff_eq, beq_eq_false_iff_ne, Bool.and_eq_true, Bool.or_eq_true, Bool.and_eq_false_imp, Bool.or_eq_false_iff, Bool.not_eq_true', Bool.not_eq_false', Int.not_lt, Int.not_le] at h) <;> (try (exfalso; omega))))
         all_goals exact ⟨BExt.refl _, (), by simp [closed, closeds]⟩
        ·rw [finM, if_neg h7, if_neg (by omega)] at hM
         rw [hM]
         repeat' (first | with_reducible refine And.intro (by first | omega | assumption | (constructor <;> assumption) | (simp; done) | (simp; omega) | (simp [*]; done) | ((repeat' refine And.intro ?_ ?_) <;> first | omega | assumption | (refine SlOk.so (n := ?_) ?_ ?_; rotate_left; assumption; omega) | (simp; done) | fail) | fail) ?_ | simp (maxSteps := 4000000) (disch := omega) only [go_sem, ↓reduceIte, Try.f90, c0, m5, e5, e6, e7, k5] | refine callS_fp (hrd) (by simp [closed, closeds, closeds_ints, closed_wE]) (next_of 1000 ?_) | ((first | refine condS_split (fun h => ?_) (fun h => ?_) | refine testS_split (fun h => ?_) (fun h => ?_) | refine testT_split (fun h => ?_) (fun h => ?_)) <;> (try simp only [bne_iff_ne, ne_eq, beq_iff_eq, decide_eq_true_eq, decide_eq_false_iff_not, Bool.not_eq_true, Bool.not_eq_false, Bool.not_true, Bool.not_false, bne_eq_false_iff_eq, beq_eq_false_iff_ne, Bool.and_eq_true, Bool.or_eq_true, Bool.and_eq_false_imp, Bool.or_eq_false_iff, Bool.not_eq_true', Bool.not_eq_false', Int.not_lt, Int.not_le] at h) <;> (try (exfalso; omega))))
         all_goals exact ⟨BExt.refl _, (), by simp [closed, closeds] <;> omega⟩
end Go.Proofs.Ytepabkjfnpaijaa
