/- Part of a proof over the seat Ytepabkjfnpaijaa. -/
import Derived.Test.YtepabkjfnpaijaaSG
import Derived.Test.YtepabkjfnpaijaaG14
import Derived.Test.YtepabkjfnpaijaaG13
import Derived.Test.YtepabkjfnpaijaaG15
set_option linter.unusedSimpArgs false
set_option linter.unusedVariables false
set_option maxRecDepth 100000
namespace Go.Proofs.Ytepabkjfnpaijaa
open Go RowKit Go.Ew
set_option maxHeartbeats 4000000
theorem in50 : codeIn Try.f50.ntmps (Try.f50.body.getD .skip) = true := by kernel_rfl
theorem in51 : codeIn Try.f51.ntmps (Try.f51.body.getD .skip) = true := by kernel_rfl
theorem in53 : codeIn Try.f53.ntmps (Try.f53.body.getD .skip) = true := by kernel_rfl
theorem in74 : codeIn Try.f74.ntmps (Try.f74.body.getD .skip) = true := by kernel_rfl
theorem in52 : codeIn Try.f52.ntmps (Try.f52.body.getD .skip) = true := by kernel_rfl
theorem rdecI_fn (b : List UInt8) (n : Nat) (B : Base) (ad : Option Addr) (cap : Nat) (hb : BytesAt B ad b) (hn : b.length = n) (hcap : n ≤ cap) (hc : n ≤ 1099511627776) :
  Does Try.prog 50 [.raw (.slice ad n cap)] B (fun s : Plc => .tup [.agg (itE (DecM b).1 s), .int .i64 ((DecM b).2 : Nat)]) (fun s B' => ItAt B' (DecM b).1 s) := by
 subst hn
 refine fn_of en50 (fun s B B' hB hR => hR.ext hB) Try.func50 rfl in50 (by simp [Try.f50]) (by simp [closeds, closed]) (fun B0 hB0 => next_of 1000 ?_)
 replace hb := hb.ext hB0
 have hdc : Does Try.prog 73 [.raw (.slice ad b.length cap), .int .i64 0] B0 (fun s : Plc => .tup [.agg (itE (decM 64 b).1 s), .int .i64 ((decM 64 b).2.1 : Nat), .int .i64 ((decM 64 b).2.2 : Nat)]) (fun s B' => ItAt B' (decM 64 b).1 s) := rdecode_fn 64 (Nat.le_refl _) b b.length B0 ad cap hb rfl hcap hc
 have hto := fun h => decM_to (m := 64) (b := b) h
 have her := decM_err 64 b
 have hM : DecM b = if (decM 64 b).2.2 ≠ 0 then (zI, (decM 64 b).2.2) else if (decM 64 b).2.1 < b.length then (zI, 43) else ((decM 64 b).1, 0) := rfl
 obtain ⟨t, k, e, hq⟩ : ∃ t k e, decM 64 b = (t, k, e) := ⟨_, _, _, rfl⟩
 rw [hq] at hdc hto her hM
 simp only at hdc hto her hM
 repeat' (simp (maxSteps := 4000000) (disch := omega) only [go_sem, ↓reduceIte, Try.f50])
 refine callS_f hdc (fun _ => by simp [closed, closeds]) (fun s2 B2 hB2 hR2 => next_of 1000 ?_)
 change BExt B0 B2 at hB2
 by_cases he : e = 0
 ·subst he
  rw [if_neg (by simp)] at hM
  obtain ⟨t1, t2⟩ := hto rfl
  by_cases hk : k < b.length
  ·rw [if_pos hk] at hM
   rw [hM]
   repeat' (first | with_reducible refine And.intro (by first | omega | assumption | (constructor <;> assumption) | (simp; done) | (simp; omega) | (simp [*]; done) | ((repeat' refine And.intro ?_ ?_) <;> first | omega | assumption | (refine SlOk.so (n := ?_) ?_ ?_; rotate_left; assumption; omega) | (simp; done) | fail) | fail) ?_ | simp (maxSteps := 4000000) (disch := omega) only [go_sem, ↓reduceIte] | ((first | refine condS_split (fun h => ?_) (fun h => ?_) | refine testS_split (fun h => ?_) (fun h => ?_) | refine testT_split (fun h => ?_) (fun h => ?_)) <;> (try simp only [bne_iff_ne, ne_eq, beq_iff_eq, decide_eq_true_eq, decide_eq_false_iff_not, Bool.not_eq_true, Bool.not_eq_false, Bool.not_true, Bool.not_false, bne_eq_false_iff_eq, beq_eq_false_iff_ne, Bool.and_eq_true, Bool.or_eq_true, Bool.and_eq_false_imp, Bool.or_eq_false_iff, Bool.not_eq_true', Bool.not_eq_false', Int.not_lt, Int.not_le] at h) <;> (try (exfalso; omega))))
   first | exact ⟨hB2, ⟨none, 0, none, 0⟩, rfl, by simp [closed, closeds], zI_at _⟩ | exact ⟨⟨none, 0, none, 0⟩, rfl, by simp [closed, closeds], zI_at _⟩ | exact ⟨hB2, ⟨none, 0, none, 0⟩, by simp [closed, closeds], zI_at _⟩ | exact ⟨⟨none, 0, none, 0⟩, by simp [closed, closeds], zI_at _⟩ | exact ⟨hB2, ⟨none, 0, none, 0⟩, by simp [closed, closeds, bytes_any]⟩ | exact ⟨⟨none, 0, none, 0⟩, by simp [closed, closeds, bytes_any]⟩
  ·rw [if_neg hk] at hM
   rw [hM]
   repeat' (first | with_reducible refine And.intro (by first | omega | assumption | (constructor <;> assumption) | (simp; done) | (simp; omega) | (simp [*]; done) | ((repeat' refine And.intro ?_ ?_) <;> first | omega | assumption | (refine SlOk.so (n := ?_) ?_ ?_; rotate_left; assumption; omega) | (simp; done) | fail) | fail) ?_ | simp (maxSteps := 4000000) (disch := omega) only [go_sem, ↓reduceIte] | ((first | refine condS_split (fun h => ?_) (fun h => ?_) | refine testS_split (fun h => ?_) (fun h => ?_) | refine testT_split (fun h => ?_) (fun h => ?_)) <;> (try simp only [bne_iff_ne, ne_eq, beq_iff_eq, decide_eq_true_eq, decide_eq_false_iff_not, Bool.not_eq_true, Bool.not_eq_false, Bool.not_true, Bool.not_false, bne_eq_false_iff_eq, beq_eq_false_iff_ne, Bool.and_eq_true, Bool.or_eq_true, Bool.and_eq_false_imp, Bool.or_eq_false_iff, Bool.not_eq_true', Bool.not_eq_false', Int.not_lt, Int.not_le] at h) <;> (try (exfalso; omega))))
   first | exact ⟨hB2, s2, rfl, by simp [closed, closeds], hR2⟩ | exact ⟨s2, rfl, by simp [closed, closeds], hR2⟩ | exact ⟨hB2, s2, by simp [closed, closeds], hR2⟩ | exact ⟨s2, by simp [closed, closeds], hR2⟩ | exact ⟨hB2, s2, by simp [closed, closeds, bytes_any]⟩ | exact ⟨s2, by simp [closed, closeds, bytes_any]⟩
 ·rw [if_pos he] at hM
  rw [hM]
  have hei : ((e : Nat) : Int) ≠ 0 := by omega
  repeat' (first | with_reducible refine And.intro (by first | omega | assumption | (constructor <;> assumption) | (simp; done) | (simp; omega) | (simp [*]; done) | ((repeat' refine And.intro ?_ ?_) <;> first | omega | assumption | (refine SlOk.so (n := ?_) ?_ ?_; rotate_left; assumption; omega) | (simp; done) | fail) | fail) ?_ | simp (maxSteps := 4000000) (disch := omega) only [go_sem, ↓reduceIte] | ((first | refine condS_split (fun h => ?_) (fun h => ?_) | refine testS_split (fun h => ?_) (fun h => ?_) | refine testT_split (fun h => ?_) (fun h => ?_)) <;> (try simp only [bne_iff_ne, ne_eq, beq_iff_eq, decide_eq_true_eq, decide_eq_false_iff_not, Bool.not_eq_true, Bool.not_eq_false, Bool.not_true, Bool.not_false, bne_eq_false_iff_eq, beq_eq_false_iff_ne, Bool.and_eq_true, Bool.or_eq_true, Bool.and_eq_false_imp, Bool.or_eq_false_iff, Bool.not_eq_true', Bool.not_eq_false', Int.not_lt, Int.not_le] at h) <;> (try (exfalso; omega))))
  first | exact ⟨hB2, ⟨none, 0, none, 0⟩, rfl, by simp [closed, closeds], zI_at _⟩ | exact ⟨⟨none, 0, none, 0⟩, rfl, by simp [closed, closeds], zI_at _⟩ | exact ⟨hB2, ⟨none, 0, none, 0⟩, by simp [closed, closeds], zI_at _⟩ | exact ⟨⟨none, 0, none, 0⟩, by simp [closed, closeds], zI_at _⟩ | exact ⟨hB2, ⟨none, 0, none, 0⟩, by simp [closed, closeds, bytes_any]⟩ | exact ⟨⟨none, 0, none, 0⟩, by simp [closed, closeds, bytes_any]⟩
theorem rasList_fn {B : Base} {t : Itm} {s : Plc} (ht : ItAt B t s) (lo hi : Nat) (hhi : hi ≤ 1099511627776) (hlo : lo ≤ hi) :
  Does Try.prog 51 [.agg (itE t s), .int .i64 (lo : Int), .int .i64 (hi : Int)] B (fun u : Option Addr × Nat × List (Itm × Plc) => .tup [.raw (.slice u.1 (asL t lo hi).1.length u.2.1), .int .i64 ((asL t lo hi).2 : Nat)]) (fun u B' => KidsAt B' u.1 (asL t lo hi).1 u.2.2) := by
 refine fn_of en51 (fun s B B' hB hR => hR.ext hB) Try.func51 rfl in51 (by simp [Try.f51]) (by simp [closeds, closed]) (fun B0 hB0 => next_of 1000 ?_)
 replace ht := ht.ext hB0
 obtain ⟨qs, hqs⟩ := kids_of ht
 have hkl := hqs.len
 have hnil : KidsAt B0 none [] [] := ⟨CellsAt.nil _, by simp, rfl, by simp⟩
 by_cases h1 : t.list = 1
 ·have c1 : (t.list == 1) = true := by simpa using h1
  rcases Nat.lt_or_ge t.kids.length lo with h2 | h2
  ·have e1 : asL t lo hi = ([], 46) := by rw [asL, if_neg (by simpa using h1), if_pos (.inl h2)]
   rw [e1]
   repeat' (first | with_reducible refine And.intro (by first | omega | assumption | (constructor <;> assumption) | (simp; done) | (simp; omega) | (simp [*]; done) | ((repeat' refine And.intro ?_ ?_) <;> first | omega | assumption | (refine SlOk.so (n := ?_) ?_ ?_; rotate_left; assumption; omega) | (simp; done) | fail) | fail) ?_ | simp (maxSteps := 4000000) (disch := omega) only [go_sem, ↓reduceIte, Try.f51, c1, bne] | ((first | refine condS_split (fun h => ?_) (fun h => ?_) | refine testS_split (fun h => ?_) (fun h => ?_) | refine testT_split (fun h => ?_) (fun h => ?_)) <;> (try simp only [bne_iff_ne, ne_eq, beq_iff_eq, decide_eq_true_eq, decide_eq_false_iff_not, Bool.not_eq_true, Bool.not_eq_false, Bool.not_true, Bool.not_false, bne_eq_false_iff_eq, beq_eq_false_iff_ne, Bool.and_eq_true, Bool.or_eq_true, Bool.and_eq_false_imp, Bool.or_eq_false_iff, Bool.not_eq_true', Bool.not_eq_false', Int.not_lt, Int.not_le] at h) <;> (try (exfalso; omega))))
   first | exact ⟨BExt.refl _, (none, 0, []), rfl, by simp [closed, closeds], hnil⟩ | exact ⟨(none, 0, []), rfl, by simp [closed, closeds], hnil⟩ | exact ⟨BExt.refl _, (none, 0, []), by simp [closed, closeds], hnil⟩ | exact ⟨(none, 0, []), by simp [closed, closeds], hnil⟩ | exact ⟨BExt.refl _, (none, 0, []), by simp [closed, closeds, bytes_any]⟩ | exact ⟨(none, 0, []), by simp [closed, closeds, bytes_any]⟩
  ·rcases Nat.lt_or_ge hi t.kids.length with h3 | h3
   ·have e1 : asL t lo hi = ([], 46) := by rw [asL, if_neg (by simpa using h1), if_pos (.inr h3)]
    rw [e1]
    repeat' (first | with_reducible refine And.intro (by first | omega | assumption | (constructor <;> assumption) | (simp; done) | (simp; omega) | (simp [*]; done) | ((repeat' refine And.intro ?_ ?_) <;> first | omega | assumption | (refine SlOk.so (n := ?_) ?_ ?_; rotate_left; assumption; omega) | (simp; done) | fail) | fail) ?_ | simp (maxSteps := 4000000) (disch := omega) only [go_sem, ↓reduceIte, Try.f51, c1, bne] | ((first | refine condS_split (fun h => ?_) (fun h => ?_) | refine testS_split (fun h => ?_) (fun h => ?_) | refine testT_split (fun h => ?_) (fun h => ?_)) <;> (try simp only [bne_iff_ne, ne_eq, beq_iff_eq, decide_eq_true_eq, decide_eq_false_iff_not, Bool.not_eq_true, Bool.not_eq_false, Bool.not_true, Bool.not_false, bne_eq_false_iff_eq, beq_eq_false_iff_ne, Bool.and_eq_true, Bool.or_eq_true, Bool.and_eq_false_imp, Bool.or_eq_false_iff, Bool.not_eq_true', Bool.not_eq_false', Int.not_lt, Int.not_le] at h) <;> (try (exfalso; omega))))
    first | exact ⟨BExt.refl _, (none, 0, []), rfl, by simp [closed, closeds], hnil⟩ | exact ⟨(none, 0, []), rfl, by simp [closed, closeds], hnil⟩ | exact ⟨BExt.refl _, (none, 0, []), by simp [closed, closeds], hnil⟩ | exact ⟨(none, 0, []), by simp [closed, closeds], hnil⟩ | exact ⟨BExt.refl _, (none, 0, []), by simp [closed, closeds, bytes_any]⟩ | exact ⟨(none, 0, []), by simp [closed, closeds, bytes_any]⟩
   ·have e1 : asL t lo hi = (t.kids, 0) := by rw [asL, if_neg (by simpa using h1), if_neg (by omega)]
    rw [e1]
    repeat' (first | with_reducible refine And.intro (by first | omega | assumption | (constructor <;> assumption) | (simp; done) | (simp; omega) | (simp [*]; done) | ((repeat' refine And.intro ?_ ?_) <;> first | omega | assumption | (refine SlOk.so (n := ?_) ?_ ?_; rotate_left; assumption; omega) | (simp; done) | fail) | fail) ?_ | simp (maxSteps := 4000000) (disch := omega) only [go_sem, ↓reduceIte, Try.f51, c1, bne] | ((first | refine condS_split (fun h => ?_) (fun h => ?_) | refine testS_split (fun h => ?_) (fun h => ?_) | refine testT_split (fun h => ?_) (fun h => ?_)) <;> (try simp only [bne_iff_ne, ne_eq, beq_iff_eq, decide_eq_true_eq, decide_eq_false_iff_not, Bool.not_eq_true, Bool.not_eq_false, Bool.not_true, Bool.not_false, bne_eq_false_iff_eq, beq_eq_false_iff_ne, Bool.and_eq_true, Bool.or_eq_true, Bool.and_eq_false_imp, Bool.or_eq_false_iff, Bool.not_eq_true', Bool.not_eq_false', Int.not_lt, Int.not_le] at h) <;> (try (exfalso; omega))))
    first | exact ⟨BExt.refl _, (s.kA, s.kc, qs), rfl, by simp [closed, closeds], hqs⟩ | exact ⟨(s.kA, s.kc, qs), rfl, by simp [closed, closeds], hqs⟩ | exact ⟨BExt.refl _, (s.kA, s.kc, qs), by simp [closed, closeds], hqs⟩ | exact ⟨(s.kA, s.kc, qs), by simp [closed, closeds], hqs⟩ | exact ⟨BExt.refl _, (s.kA, s.kc, qs), by simp [closed, closeds, bytes_any]⟩ | exact ⟨(s.kA, s.kc, qs), by simp [closed, closeds, bytes_any]⟩
 ·have c1 : (t.list == 1) = false := by simpa using h1
  have e1 : asL t lo hi = ([], 45) := by rw [asL, if_pos h1]
  rw [e1]
  repeat' (first | with_reducible refine And.intro (by first | omega | assumption | (constructor <;> assumption) | (simp; done) | (simp; omega) | (simp [*]; done) | ((repeat' refine And.intro ?_ ?_) <;> first | omega | assumption | (refine SlOk.so (n := ?_) ?_ ?_; rotate_left; assumption; omega) | (simp; done) | fail) | fail) ?_ | simp (maxSteps := 4000000) (disch := omega) only [go_sem, ↓reduceIte, Try.f51, c1, bne])
  first | exact ⟨BExt.refl _, (none, 0, []), rfl, by simp [closed, closeds], hnil⟩ | exact ⟨(none, 0, []), rfl, by simp [closed, closeds], hnil⟩ | exact ⟨BExt.refl _, (none, 0, []), by simp [closed, closeds], hnil⟩ | exact ⟨(none, 0, []), by simp [closed, closeds], hnil⟩ | exact ⟨BExt.refl _, (none, 0, []), by simp [closed, closeds, bytes_any]⟩ | exact ⟨(none, 0, []), by simp [closed, closeds, bytes_any]⟩
theorem rasBytes_fn {B : Base} {t : Itm} {s : Plc} (ht : ItAt B t s) (lo hi : Nat) (hhi : hi ≤ 1099511627776) (hlo : lo ≤ hi) :
  Does Try.prog 53 [.agg (itE t s), .int .i64 (lo : Int), .int .i64 (hi : Int)] B (fun u : Option Addr × Nat => .tup [.raw (.slice u.1 (asB t lo hi).1.length u.2), .int .i64 ((asB t lo hi).2 : Nat)]) (fun u B' => BytesAt B' u.1 (asB t lo hi).1 ∧ (asB t lo hi).1.length ≤ u.2) := by
 refine fn_of en53 (fun s B B' hB hR => ⟨hR.1.ext hB, hR.2⟩) Try.func53 rfl in53 (by simp [Try.f53]) (by simp [closeds, closed]) (fun B0 hB0 => next_of 1000 ?_)
 replace ht := ht.ext hB0
 obtain ⟨hbt, hkl⟩ := bytes_of ht
 by_cases h1 : t.list = 0
 ·have c1 : (t.list == 0) = true := by simpa using h1
  rcases Nat.lt_or_ge t.bytes.length lo with h2 | h2
  ·have e1 : asB t lo hi = ([], 46) := by rw [asB, if_neg (by simpa using h1), if_pos (.inl h2)]
   rw [e1]
   repeat' (first | with_reducible refine And.intro (by first | omega | assumption | (constructor <;> assumption) | (simp; done) | (simp; omega) | (simp [*]; done) | ((repeat' refine And.intro ?_ ?_) <;> first | omega | assumption | (refine SlOk.so (n := ?_) ?_ ?_; rotate_left; assumption; omega) | (simp; done) | fail) | fail) ?_ | simp (maxSteps := 4000000) (disch := omega) only [go_sem, ↓reduceIte, Try.f53, c1, bne] | ((first | refine condS_split (fun h => ?_) (fun h => ?_) | refine testS_split (fun h => ?_) (fun h => ?_) | refine testT_split (fun h => ?_) (fun h => ?_)) <;> (try simp only [bne_iff_ne, ne_eq, beq_iff_eq, decide_eq_true_eq, decide_eq_false_iff_not, Bool.not_eq_true, Bool.not_eq_false, Bool.not_true, Bool.not_false, bne_eq_false_iff_eq, beq_eq_false_iff_ne, Bool.and_eq_true, Bool.or_eq_true, Bool.and_eq_false_imp, Bool.or_eq_false_iff, Bool.not_eq_true', Bool.not_eq_false', Int.not_lt, Int.not_le] at h) <;> (try (exfalso; omega))))
   first | exact ⟨BExt.refl _, (none, 0), rfl, by simp [closed, closeds], ⟨bytes_any _, Nat.le_refl _⟩⟩ | exact ⟨(none, 0), rfl, by simp [closed, closeds], ⟨bytes_any _, Nat.le_refl _⟩⟩ | exact ⟨BExt.refl _, (none, 0), by simp [closed, closeds], ⟨bytes_any _, Nat.le_refl _⟩⟩ | exact ⟨(none, 0), by simp [closed, closeds], ⟨bytes_any _, Nat.le_refl _⟩⟩ | exact ⟨BExt.refl _, (none, 0), by simp [closed, closeds, bytes_any]⟩ | exact ⟨(none, 0), by simp [closed, closeds, bytes_any]⟩
  ·rcases Nat.lt_or_ge hi t.bytes.length with h3 | h3
   ·have e1 : asB t lo hi = ([], 46) := by rw [asB, if_neg (by simpa using h1), if_pos (.inr h3)]
    rw [e1]
    repeat' (first | with_reducible refine And.intro (by first | omega | assumption | (constructor <;> assumption) | (simp; done) | (simp; omega) | (simp [*]; done) | ((repeat' refine And.intro ?_ ?_) <;> first | omega | assumption | (refine SlOk.so (n := ?_) ?_ ?_; rotate_left; assumption; omega) | (simp; done) | fail) | fail) ?_ | simp (maxSteps := 4000000) (disch := omega) only [go_sem, ↓reduceIte, Try.f53, c1, bne] | ((first | refine condS_split (fun h => ?_) (fun h => ?_) | refine testS_split (fun h => ?_) (fun h => ?_) | refine testT_split (fun h => ?_) (fun h => ?_)) <;> (try simp only [bne_iff_ne, ne_eq, beq_iff_eq, decide_eq_true_eq, decide_eq_false_iff_not, Bool.not_eq_true, Bool.not_eq_false, Bool.not_true, Bool.not_false, bne_eq_false_iff_eq, beq_eq_false_iff_ne, Bool.and_eq_true, Bool.or_eq_true, Bool.and_eq_false_imp, Bool.or_eq_false_iff, Bool.not_eq_true', Bool.not_eq_false', Int.not_lt, Int.not_le] at h) <;> (try (exfalso; omega))))
    first | exact ⟨BExt.refl _, (none, 0), rfl, by simp [closed, closeds], ⟨bytes_any _, Nat.le_refl _⟩⟩ | exact ⟨(none, 0), rfl, by simp [closed, closeds], ⟨bytes_any _, Nat.le_refl _⟩⟩ | exact ⟨BExt.refl _, (none, 0), by simp [closed, closeds], ⟨bytes_any _, Nat.le_refl _⟩⟩ | exact ⟨(none, 0), by simp [closed, closeds], ⟨bytes_any _, Nat.le_refl _⟩⟩ | exact ⟨BExt.refl _, (none, 0), by simp [closed, closeds, bytes_any]⟩ | exact ⟨(none, 0), by simp [closed, closeds, bytes_any]⟩
   ·have e1 : asB t lo hi = (t.bytes, 0) := by rw [asB, if_neg (by simpa using h1), if_neg (by omega)]
    rw [e1]
    repeat' (first | with_reducible refine And.intro (by first | omega | assumption | (constructor <;> assumption) | (simp; done) | (simp; omega) | (simp [*]; done) | ((repeat' refine And.intro ?_ ?_) <;> first | omega | assumption | (refine SlOk.so (n := ?_) ?_ ?_; rotate_left; assumption; omega) | (simp; done) | fail) | fail) ?_ | simp (maxSteps := 4000000) (disch := omega) only [go_sem, ↓reduceIte, Try.f53, c1, bne] | ((first | refine condS_split (fun h => ?_) (fun h => ?_) | refine testS_split (fun h => ?_) (fun h => ?_) | refine testT_split (fun h => ?_) (fun h => ?_)) <;> (try simp only [bne_iff_ne, ne_eq, beq_iff_eq, decide_eq_true_eq, decide_eq_false_iff_not, Bool.not_eq_true, Bool.not_eq_false, Bool.not_true, Bool.not_false, bne_eq_false_iff_eq, beq_eq_false_iff_ne, Bool.and_eq_true, Bool.or_eq_true, Bool.and_eq_false_imp, Bool.or_eq_false_iff, Bool.not_eq_true', Bool.not_eq_false', Int.not_lt, Int.not_le] at h) <;> (try (exfalso; omega))))
    refine appB (T := 5) (l := some (0, [])) (xs := []) 1 0 t.bytes rfl Try.underlying23 (.inl ⟨_, Try.underlying23⟩) zr5 cz5 by5 rfl rfl rfl ⟨Nat.le_refl _, Nat.zero_le _, rfl, by simp⟩ (hbt.src _) (by omega) (fun l1 hl1 => ?_)
    simp only [Nat.zero_add, List.nil_append] at hl1 ⊢
    refine freezeB (xs := t.bytes) (T := 5) 2 t.bytes.length rfl rfl hl1 (by simp) (fun b2 ad2 cap2 B2 hB2 hfz hbY hcap2 => next_of 1000 ?_)
    change BExt B0 B2 at hB2
    repeat' (first | with_reducible refine And.intro (by first | omega | assumption | (constructor <;> assumption) | (simp; done) | (simp; omega) | (simp [*]; done) | ((repeat' refine And.intro ?_ ?_) <;> first | omega | assumption | (refine SlOk.so (n := ?_) ?_ ?_; rotate_left; assumption; omega) | (simp; done) | fail) | fail) ?_ | simp (maxSteps := 4000000) (disch := omega) only [go_sem, ↓reduceIte, hfz])
    first | exact ⟨hB2, (ad2, cap2), rfl, by simp [closed, closeds], ⟨hbY, hcap2⟩⟩ | exact ⟨(ad2, cap2), rfl, by simp [closed, closeds], ⟨hbY, hcap2⟩⟩ | exact ⟨hB2, (ad2, cap2), by simp [closed, closeds], ⟨hbY, hcap2⟩⟩ | exact ⟨(ad2, cap2), by simp [closed, closeds], ⟨hbY, hcap2⟩⟩ | exact ⟨hB2, (ad2, cap2), by simp [closed, closeds, bytes_any]⟩ | exact ⟨(ad2, cap2), by simp [closed, closeds, bytes_any]⟩
 ·have c1 : (t.list == 0) = false := by simpa using h1
  have e1 : asB t lo hi = ([], 45) := by rw [asB, if_pos h1]
  rw [e1]
  repeat' (first | with_reducible refine And.intro (by first | omega | assumption | (constructor <;> assumption) | (simp; done) | (simp; omega) | (simp [*]; done) | ((repeat' refine And.intro ?_ ?_) <;> first | omega | assumption | (refine SlOk.so (n := ?_) ?_ ?_; rotate_left; assumption; omega) | (simp; done) | fail) | fail) ?_ | simp (maxSteps := 4000000) (disch := omega) only [go_sem, ↓reduceIte, Try.f53, c1, bne])
  first | exact ⟨BExt.refl _, (none, 0), rfl, by simp [closed, closeds], ⟨bytes_any _, Nat.le_refl _⟩⟩ | exact ⟨(none, 0), rfl, by simp [closed, closeds], ⟨bytes_any _, Nat.le_refl _⟩⟩ | exact ⟨BExt.refl _, (none, 0), by simp [closed, closeds], ⟨bytes_any _, Nat.le_refl _⟩⟩ | exact ⟨(none, 0), by simp [closed, closeds], ⟨bytes_any _, Nat.le_refl _⟩⟩ | exact ⟨BExt.refl _, (none, 0), by simp [closed, closeds, bytes_any]⟩ | exact ⟨(none, 0), by simp [closed, closeds, bytes_any]⟩
theorem rasWhole_fn {B : Base} {t : Itm} {s : Plc} (ht : ItAt B t s) :
  Does Try.prog 74 [.agg (itE t s), .int .i64 8] B (fun _ : Unit => .tup [.agg [.int .u64 ((asN t).1 : Nat), .int .u64 0, .int .u64 0, .int .u64 0], .int .i64 ((asN t).2 : Nat)]) (fun _ _ => True) := by
 refine fn_of en74 (fun s B B' hB hR => hR) Try.func74 rfl in74 (by simp [Try.f74]) (by simp [closeds, closed]) (fun B0 hB0 => next_of 1000 ?_)
 replace ht := ht.ext hB0
 obtain ⟨hbt, hkl⟩ := bytes_of ht
 by_cases h1 : t.list = 0
 ·have c1 : (t.list == 0) = true := by simpa using h1
  rcases Nat.lt_or_ge 8 t.bytes.length with h2 | h2
  ·have e1 : asN t = (0, 46) := by rw [asN, if_neg (by simpa using h1), if_pos h2]
   rw [e1]
   repeat' (first | with_reducible refine And.intro (by first | omega | assumption | (constructor <;> assumption) | (simp; done) | (simp; omega) | (simp [*]; done) | ((repeat' refine And.intro ?_ ?_) <;> first | omega | assumption | (refine SlOk.so (n := ?_) ?_ ?_; rotate_left; assumption; omega) | (simp; done) | fail) | fail) ?_ | simp (maxSteps := 4000000) (disch := omega) only [go_sem, ↓reduceIte, Try.f74, c1, bne] | ((first | refine condS_split (fun h => ?_) (fun h => ?_) | refine testS_split (fun h => ?_) (fun h => ?_) | refine testT_split (fun h => ?_) (fun h => ?_)) <;> (try simp only [bne_iff_ne, ne_eq, beq_iff_eq, decide_eq_true_eq, decide_eq_false_iff_not, Bool.not_eq_true, Bool.not_eq_false, Bool.not_true, Bool.not_false, bne_eq_false_iff_eq, beq_eq_false_iff_ne, Bool.and_eq_true, Bool.or_eq_true, Bool.and_eq_false_imp, Bool.or_eq_false_iff, Bool.not_eq_true', Bool.not_eq_false', Int.not_lt, Int.not_le] at h) <;> (try (exfalso; omega))))
   first | exact ⟨BExt.refl _, (), rfl, by simp [closed, closeds], trivial⟩ | exact ⟨(), rfl, by simp [closed, closeds], trivial⟩ | exact ⟨BExt.refl _, (), by simp [closed, closeds], trivial⟩ | exact ⟨(), by simp [closed, closeds], trivial⟩ | exact ⟨BExt.refl _, (), by simp [closed, closeds, bytes_any]⟩ | exact ⟨(), by simp [closed, closeds, bytes_any]⟩
  ·have hrd := rread8_fn t.bytes t.bytes.length B0 s.bA s.bc hbt rfl h2
   by_cases h0 : t.bytes = []
   ·have e1 : asN t = (bvN t.bytes, 0) := by rw [asN, if_neg (by simpa using h1), if_neg (by omega), if_neg (by rw [h0]; simp)]
    rw [e1]
    have hl0 : t.bytes.length = 0 := by rw [h0]; rfl
    have cz : decide ((0 : Int) < (t.bytes.length : Int)) = false := decide_eq_false (by omega)
    repeat' (first | with_reducible refine And.intro (by first | omega | assumption | (constructor <;> assumption) | (simp; done) | (simp; omega) | (simp [*]; done) | ((repeat' refine And.intro ?_ ?_) <;> first | omega | assumption | (refine SlOk.so (n := ?_) ?_ ?_; rotate_left; assumption; omega) | (simp; done) | fail) | fail) ?_ | simp (maxSteps := 4000000) (disch := omega) only [go_sem, ↓reduceIte, Try.f74, c1, bne, cz] | refine callS_fp (hrd) (by simp [closed, closeds, closeds_ints, closed_wE]) (next_of 1000 ?_) | ((first | refine condS_split (fun h => ?_) (fun h => ?_) | refine testS_split (fun h => ?_) (fun h => ?_) | refine testT_split (fun h => ?_) (fun h => ?_)) <;> (try simp only [bne_iff_ne, ne_eq, beq_iff_eq, decide_eq_true_eq, decide_eq_false_iff_not, Bool.not_eq_true, Bool.not_eq_false, Bool.not_true, Bool.not_false, bne_eq_false_iff_eq, beq_eq_false_iff_ne, Bool.and_eq_true, Bool.or_eq_true, Bool.and_eq_false_imp, Bool.or_eq_false_iff, Bool.not_eq_true', Bool.not_eq_false', Int.not_lt, Int.not_le] at h) <;> (try (exfalso; omega))))
    first | exact ⟨BExt.refl _, (), rfl, by simp [closed, closeds], trivial⟩ | exact ⟨(), rfl, by simp [closed, closeds], trivial⟩ | exact ⟨BExt.refl _, (), by simp [closed, closeds], trivial⟩ | exact ⟨(), by simp [closed, closeds], trivial⟩ | exact ⟨BExt.refl _, (), by simp [closed, closeds, bytes_any]⟩ | exact ⟨(), by simp [closed, closeds, bytes_any]⟩
   ·have hlen : 1 ≤ t.bytes.length := by
     rcases Nat.eq_zero_or_pos t.bytes.length with h3 | h3
     ·exact absurd (List.length_eq_zero_iff.1 h3) h0
     ·exact h3
    have m1 := hbt.ld 0 (by omega)
    have m2 := hbt.lS 0 (by omega)
    have m3 := hbt.lD (by omega)
    have m4 := hbt.ok.so (by omega)
    by_cases h3 : t.bytes.getD 0 0 = 0
    ·have e1 : asN t = (0, 42) := by rw [asN, if_neg (by simpa using h1), if_neg (by omega), if_pos ⟨by omega, h3⟩]
     rw [e1]
     rw [h3] at m1
     have m5 : rawCell B0 (adrAt s.bA 0) = .int .u8 0 := m1
     repeat' (first | with_reducible refine And.intro (by first | omega | assumption | (constructor <;> assumption) | (simp; done) | (simp; omega) | (simp [*]; done) | ((repeat' refine And.intro ?_ ?_) <;> first | omega | assumption | (refine SlOk.so (n := ?_) ?_ ?_; rotate_left; assumption; omega) | (simp; done) | fail) | fail) ?_ | simp (maxSteps := 4000000) (disch := omega) only [go_sem, ↓reduceIte, Try.f74, c1, bne, m5] | ((first | refine condS_split (fun h => ?_) (fun h => ?_) | refine testS_split (fun h => ?_) (fun h => ?_) | refine testT_split (fun h => ?_) (fun h => ?_)) <;> (try simp only [bne_iff_ne, ne_eq, beq_iff_eq, decide_eq_true_eq, decide_eq_false_iff_not, Bool.not_eq_true, Bool.not_eq_false, Bool.not_true, Bool.not_false, bne_eq_false_iff_eq, beq_eq_false_iff_ne, Bool.and_eq_true, Bool.or_eq_true, Bool.and_eq_false_imp, Bool.or_eq_false_iff, Bool.not_eq_true', Bool.not_eq_false', Int.not_lt, Int.not_le] at h) <;> (try (exfalso; omega))))
     first | exact ⟨BExt.refl _, (), rfl, by simp [closed, closeds], trivial⟩ | exact ⟨(), rfl, by simp [closed, closeds], trivial⟩ | exact ⟨BExt.refl _, (), by simp [closed, closeds], trivial⟩ | exact ⟨(), by simp [closed, closeds], trivial⟩ | exact ⟨BExt.refl _, (), by simp [closed, closeds, bytes_any]⟩ | exact ⟨(), by simp [closed, closeds, bytes_any]⟩
    ·have e1 : asN t = (bvN t.bytes, 0) := by rw [asN, if_neg (by simpa using h1), if_neg (by omega), if_neg (fun h => h3 h.2)]
     rw [e1]
     have hz : ((t.bytes.getD 0 0).toNat : Int) ≠ 0 := fun h => h3 (UInt8.toNat_inj.1 (by rw [UInt8.toNat_zero]; omega))
     obtain ⟨z, hz0⟩ : ∃ z : Int, z = ((t.bytes.getD 0 0).toNat : Int) := ⟨_, rfl⟩
     have m5 : rawCell B0 (adrAt s.bA 0) = .int .u8 z := by rw [m1, bE, hz0]
     rw [← hz0] at hz
     have c2 : (z == 0) = false := by simpa using hz
     repeat' (first | with_reducible refine And.intro (by first | omega | assumption | (constructor <;> assumption) | (simp; done) | (simp; omega) | (simp [*]; done) | ((repeat' refine And.intro ?_ ?_) <;> first | omega | assumption | (refine SlOk.so (n := ?_) ?_ ?_; rotate_left; assumption; omega) | (simp; done) | fail) | fail) ?_ | simp (maxSteps := 4000000) (disch := omega) only [go_sem, ↓reduceIte, Try.f74, c1, bne, m5, c2] | refine callS_fp (hrd) (by simp [closed, closeds, closeds_ints, closed_wE]) (next_of 1000 ?_) | ((first | refine condS_split (fun h => ?_) (fun h => ?_) | refine testS_split (fun h => ?_) (fun h => ?_) | refine testT_split (fun h => ?_) (fun h => ?_)) <;> (try simp only [bne_iff_ne, ne_eq, beq_iff_eq, decide_eq_true_eq, decide_eq_false_iff_not, Bool.not_eq_true, Bool.not_eq_false, Bool.not_true, Bool.not_false, bne_eq_false_iff_eq, beq_eq_false_iff_ne, Bool.and_eq_true, Bool.or_eq_true, Bool.and_eq_false_imp, Bool.or_eq_false_iff, Bool.not_eq_true', Bool.not_eq_false', Int.not_lt, Int.not_le] at h) <;> (try (exfalso; omega))))
     first | exact ⟨BExt.refl _, (), rfl, by simp [closed, closeds], trivial⟩ | exact ⟨(), rfl, by simp [closed, closeds], trivial⟩ | exact ⟨BExt.refl _, (), by simp [closed, closeds], trivial⟩ | exact ⟨(), by simp [closed, closeds], trivial⟩ | exact ⟨BExt.refl _, (), by simp [closed, closeds, bytes_any]⟩ | exact ⟨(), by simp [closed, closeds, bytes_any]⟩
 ·have c1 : (t.list == 0) = false := by simpa using h1
  have e1 : asN t = (0, 45) := by rw [asN, if_pos h1]
  rw [e1]
  repeat' (first | with_reducible refine And.intro (by first | omega | assumption | (constructor <;> assumption) | (simp; done) | (simp; omega) | (simp [*]; done) | ((repeat' refine And.intro ?_ ?_) <;> first | omega | assumption | (refine SlOk.so (n := ?_) ?_ ?_; rotate_left; assumption; omega) | (simp; done) | fail) | fail) ?_ | simp (maxSteps := 4000000) (disch := omega) only [go_sem, ↓reduceIte, Try.f74, c1, bne])
  first | exact ⟨BExt.refl _, (), rfl, by simp [closed, closeds], trivial⟩ | exact ⟨(), rfl, by simp [closed, closeds], trivial⟩ | exact ⟨BExt.refl _, (), by simp [closed, closeds], trivial⟩ | exact ⟨(), by simp [closed, closeds], trivial⟩ | exact ⟨BExt.refl _, (), by simp [closed, closeds, bytes_any]⟩ | exact ⟨(), by simp [closed, closeds, bytes_any]⟩
theorem rasNumber_fn {B : Base} {t : Itm} {s : Plc} (ht : ItAt B t s) :
  Does Try.prog 52 [.agg (itE t s)] B (fun _ : Unit => .tup [.int .u64 ((asN t).1 : Nat), .int .i64 ((asN t).2 : Nat)]) (fun _ _ => True) := by
 refine fn_of en52 (fun s B B' hB hR => hR) Try.func52 rfl in52 (by simp [Try.f52]) (by simp [closeds, closed]) (fun B0 hB0 => next_of 1000 ?_)
 have hw := rasWhole_fn (ht.ext hB0)
 have hlt := asN_lt t
 repeat' (first | simp (maxSteps := 4000000) (disch := omega) only [go_sem, ↓reduceIte, Try.f52] | refine callS_fp (hw) (by simp [closed, closeds, closeds_ints, closed_wE]) (next_of 1000 ?_))
 first | exact ⟨BExt.refl _, (), rfl, by simp [closed, closeds], trivial⟩ | exact ⟨(), rfl, by simp [closed, closeds], trivial⟩ | exact ⟨BExt.refl _, (), by simp [closed, closeds], trivial⟩ | exact ⟨(), by simp [closed, closeds], trivial⟩ | exact ⟨BExt.refl _, (), by simp [closed, closeds, bytes_any]⟩ | exact ⟨(), by simp [closed, closeds, bytes_any]⟩
end Go.Proofs.Ytepabkjfnpaijaa
namespace Go.Proofs.Ytepabkjfnpaijaa
open Go RowKit Go.Ew
set_option maxHeartbeats 1000000
theorem asB_inv {t : Itm} {lo hi : Nat} (h : (asB t lo hi).2 = 0) : t.list = 0 ∧ (asB t lo hi).1 = t.bytes ∧ lo ≤ t.bytes.length ∧ t.bytes.length ≤ hi := by
 unfold asB at h ⊢
 split at h
 ·simp at h
 ·rename_i h1
  split at h
  ·simp at h
  ·rename_i h2
   rw [if_neg h1, if_neg h2]
   exact ⟨by simpa using h1, rfl, by omega, by omega⟩
theorem top_mem {B : Base} {g : LogV} (h : g.Ok B) {q : List UInt8} (hq : q ∈ g.tops) : q.length = 32 := by
 obtain ⟨k, hk, rfl⟩ := List.mem_map.1 hq
 exact top_len h (List.mem_range.1 hk)
theorem mayR_ok {r : RcV} (h : mayR r = true) : (r.ty.toNat ≤ 3) ∧ (r.ok = 0 ∨ r.ok = 1) := by
 simp only [mayR, Bool.and_eq_true, decide_eq_true_eq, Bool.or_eq_true, beq_iff_eq] at h
 exact ⟨by omega, h.2.1.2⟩
end Go.Proofs.Ytepabkjfnpaijaa
