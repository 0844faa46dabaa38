/- Part of a proof over the seat Ytepabkjfnpaijaa. -/
import Derived.Test.YtepabkjfnpaijaaG13
import Derived.Test.YtepabkjfnpaijaaEng2
set_option linter.unusedSimpArgs false
set_option linter.unusedVariables false
set_option maxRecDepth 100000
namespace Go.Proofs.Ytepabkjfnpaijaa
open Go RowKit Go.Ew
set_option maxHeartbeats 4000000
theorem in44 : codeIn Try.f44.ntmps (Try.f44.body.getD .skip) = true := by kernel_rfl
theorem in69 : codeIn Try.f69.ntmps (Try.f69.body.getD .skip) = true := by kernel_rfl
theorem in71 : codeIn Try.f71.ntmps (Try.f71.body.getD .skip) = true := by kernel_rfl
theorem in72 : codeIn Try.f72.ntmps (Try.f72.body.getD .skip) = true := by kernel_rfl
theorem in89 : codeIn Try.f89.ntmps (Try.f89.body.getD .skip) = true := by kernel_rfl
def DecM (b : List UInt8) : Itm × Nat :=
 if (decM 64 b).2.2 ≠ 0 then (zI, (decM 64 b).2.2) else if (decM 64 b).2.1 < b.length then (zI, 43) else ((decM 64 b).1, 0)
theorem DecM_err (b : List UInt8) : (DecM b).2 ≤ 46 := by
 unfold DecM
 split
 ·exact decM_err 64 b
 ·split <;> simp
theorem decodeI_fn (b : List UInt8) (n : Nat) (B : Base) (ad : Option Addr) (cap : Nat) (hb : BytesAt B ad b) (hn : b.length = n) (hcap : n ≤ cap) (hc : n ≤ 1099511627776) :
  Does Try.prog 45 [.raw (.slice ad n cap)] B (fun s : Plc => .tup [.agg (itE (DecM b).1 s), .int .i64 ((DecM b).2 : Nat)]) (fun s B' => ItAt B' (DecM b).1 s) := by
 subst hn
 refine fn_of en45 (fun s B B' hB hR => hR.ext hB) Try.func45 rfl in45 (by simp [Try.f45]) (by simp [closeds, closed]) (fun B0 hB0 => next_of 1000 ?_)
 replace hb := hb.ext hB0
 have hdc : Does Try.prog 68 [.raw (.slice ad b.length cap), .int .i64 0] B0 (fun s : Plc => .tup [.agg (itE (decM 64 b).1 s), .int .i64 ((decM 64 b).2.1 : Nat), .int .i64 ((decM 64 b).2.2 : Nat)]) (fun s B' => ItAt B' (decM 64 b).1 s) := decode_fn 64 (Nat.le_refl _) b b.length B0 ad cap hb rfl hcap hc
 have hto := fun h => decM_to (m := 64) (b := b) h
 have her := decM_err 64 b
 have hM : DecM b = if (decM 64 b).2.2 ≠ 0 then (zI, (decM 64 b).2.2) else if (decM 64 b).2.1 < b.length then (zI, 43) else ((decM 64 b).1, 0) := rfl
 obtain ⟨t, k, e, hq⟩ : ∃ t k e, decM 64 b = (t, k, e) := ⟨_, _, _, rfl⟩
 rw [hq] at hdc hto her hM
 simp only at hdc hto her hM
 repeat' (simp (maxSteps := 4000000) (disch := omega) only [go_sem, ↓reduceIte, Try.f45])
 refine callS_f hdc (fun _ => by simp [closed, closeds]) (fun s2 B2 hB2 hR2 => next_of 1000 ?_)
 change BExt B0 B2 at hB2
 by_cases he : e = 0
 ·subst he
  rw [if_neg (by simp)] at hM
  obtain ⟨t1, t2⟩ := hto rfl
  by_cases hk : k < b.length
  ·rw [if_pos hk] at hM
   rw [hM]
   repeat' (first | with_reducible refine And.intro (by omega) ?_ | simp (maxSteps := 4000000) (disch := omega) only [go_sem, ↓reduceIte] | ((first | refine condS_split (fun h => ?_) (fun h => ?_) | refine testS_split (fun h => ?_) (fun h => ?_) | refine testT_split (fun h => ?_) (fun h => ?_)) <;> (try simp only [bne_iff_ne, ne_eq, beq_iff_eq, decide_eq_true_eq, decide_eq_false_iff_not, Bool.not_eq_true, Bool.not_eq_false, Bool.not_true, Bool.not_false, bne_eq_false_iff_eq, beq_eq_false_iff_ne, Bool.and_eq_true, Bool.or_eq_true, Bool.and_eq_false_imp, Bool.or_eq_false_iff, Bool.not_eq_true', Bool.not_eq_false', Int.not_lt, Int.not_le] at h) <;> (try (exfalso; omega))))
   first | exact ⟨hB2, ⟨none, 0, none, 0⟩, rfl, by simp [closed, closeds], zI_at _⟩ | exact ⟨⟨none, 0, none, 0⟩, rfl, by simp [closed, closeds], zI_at _⟩ | exact ⟨hB2, ⟨none, 0, none, 0⟩, by simp [closed, closeds], zI_at _⟩ | exact ⟨⟨none, 0, none, 0⟩, by simp [closed, closeds], zI_at _⟩ | exact ⟨hB2, ⟨none, 0, none, 0⟩, by simp [closed, closeds, bytes_any]⟩ | exact ⟨⟨none, 0, none, 0⟩, by simp [closed, closeds, bytes_any]⟩
  ·rw [if_neg hk] at hM
   rw [hM]
   repeat' (first | with_reducible refine And.intro (by omega) ?_ | simp (maxSteps := 4000000) (disch := omega) only [go_sem, ↓reduceIte] | ((first | refine condS_split (fun h => ?_) (fun h => ?_) | refine testS_split (fun h => ?_) (fun h => ?_) | refine testT_split (fun h => ?_) (fun h => ?_)) <;> (try simp only [bne_iff_ne, ne_eq, beq_iff_eq, decide_eq_true_eq, decide_eq_false_iff_not, Bool.not_eq_true, Bool.not_eq_false, Bool.not_true, Bool.not_false, bne_eq_false_iff_eq, beq_eq_false_iff_ne, Bool.and_eq_true, Bool.or_eq_true, Bool.and_eq_false_imp, Bool.or_eq_false_iff, Bool.not_eq_true', Bool.not_eq_false', Int.not_lt, Int.not_le] at h) <;> (try (exfalso; omega))))
   first | exact ⟨hB2, s2, rfl, by simp [closed, closeds], hR2⟩ | exact ⟨s2, rfl, by simp [closed, closeds], hR2⟩ | exact ⟨hB2, s2, by simp [closed, closeds], hR2⟩ | exact ⟨s2, by simp [closed, closeds], hR2⟩ | exact ⟨hB2, s2, by simp [closed, closeds, bytes_any]⟩ | exact ⟨s2, by simp [closed, closeds, bytes_any]⟩
 ·rw [if_pos he] at hM
  rw [hM]
  have hei : ((e : Nat) : Int) ≠ 0 := by omega
  repeat' (first | with_reducible refine And.intro (by omega) ?_ | simp (maxSteps := 4000000) (disch := omega) only [go_sem, ↓reduceIte] | ((first | refine condS_split (fun h => ?_) (fun h => ?_) | refine testS_split (fun h => ?_) (fun h => ?_) | refine testT_split (fun h => ?_) (fun h => ?_)) <;> (try simp only [bne_iff_ne, ne_eq, beq_iff_eq, decide_eq_true_eq, decide_eq_false_iff_not, Bool.not_eq_true, Bool.not_eq_false, Bool.not_true, Bool.not_false, bne_eq_false_iff_eq, beq_eq_false_iff_ne, Bool.and_eq_true, Bool.or_eq_true, Bool.and_eq_false_imp, Bool.or_eq_false_iff, Bool.not_eq_true', Bool.not_eq_false', Int.not_lt, Int.not_le] at h) <;> (try (exfalso; omega))))
  first | exact ⟨hB2, ⟨none, 0, none, 0⟩, rfl, by simp [closed, closeds], zI_at _⟩ | exact ⟨⟨none, 0, none, 0⟩, rfl, by simp [closed, closeds], zI_at _⟩ | exact ⟨hB2, ⟨none, 0, none, 0⟩, by simp [closed, closeds], zI_at _⟩ | exact ⟨⟨none, 0, none, 0⟩, by simp [closed, closeds], zI_at _⟩ | exact ⟨hB2, ⟨none, 0, none, 0⟩, by simp [closed, closeds, bytes_any]⟩ | exact ⟨⟨none, 0, none, 0⟩, by simp [closed, closeds, bytes_any]⟩
/-- An item taken as a list, as bytes, as a number. -/
def asL (t : Itm) (lo hi : Nat) : List Itm × Nat := if t.list ≠ 1 then ([], 45) else if t.kids.length < lo ∨ hi < t.kids.length then ([], 46) else (t.kids, 0)
def asB (t : Itm) (lo hi : Nat) : List UInt8 × Nat := if t.list ≠ 0 then ([], 45) else if t.bytes.length < lo ∨ hi < t.bytes.length then ([], 46) else (t.bytes, 0)
def asN (t : Itm) : Nat × Nat := if t.list ≠ 0 then (0, 45) else if 8 < t.bytes.length then (0, 46) else if 0 < t.bytes.length ∧ t.bytes.getD 0 0 = 0 then (0, 42) else (bvN t.bytes, 0)
structure KidsAt (B : Base) (ad : Option Addr) (ts : List Itm) (qs : List (Itm × Plc)) : Prop where
 c : CellsAt B ad (qs.flatMap itC)
 ok : ∀ q ∈ qs, ItAt B q.1 q.2
 m : qs.map Prod.fst = ts
 len : ts.length ≤ 1099511627776
theorem KidsAt.ext {B B' : Base} {ad : Option Addr} {ts : List Itm} {qs : List (Itm × Plc)} (h : KidsAt B ad ts qs) (e : BExt B B') : KidsAt B' ad ts qs := ⟨h.c.ext e, fun q hq => (h.ok q hq).ext e, h.m, h.len⟩
theorem kids_of {B : Base} {t : Itm} {s : Plc} (h : ItAt B t s) : ∃ qs, KidsAt B s.kA t.kids qs := by
 cases h with
 | mk l b qs s hb hbl hc hql hk => exact ⟨qs, hc, hk, rfl, by simpa [Itm.kids] using hql⟩
theorem bytes_of {B : Base} {t : Itm} {s : Plc} (h : ItAt B t s) : BytesAt B s.bA t.bytes ∧ t.bytes.length ≤ 1099511627776 := by
 cases h with
 | mk l b qs s hb hbl hc hql hk => exact ⟨hb, hbl⟩
theorem asList_fn {B : Base} {t : Itm} {s : Plc} (ht : ItAt B t s) (lo hi : Nat) (hhi : hi ≤ 1099511627776) (hlo : lo ≤ hi) :
  Does Try.prog 69 [.agg (itE t s), .int .i64 (lo : Int), .int .i64 (hi : Int)] B (fun u : Option Addr × Nat × List (Itm × Plc) => .tup [.raw (.slice u.1 (asL t lo hi).1.length u.2.1), .int .i64 ((asL t lo hi).2 : Nat)]) (fun u B' => KidsAt B' u.1 (asL t lo hi).1 u.2.2) := by
 refine fn_of en69 (fun s B B' hB hR => hR.ext hB) Try.func69 rfl in69 (by simp [Try.f69]) (by simp [closeds, closed]) (fun B0 hB0 => next_of 1000 ?_)
 replace ht := ht.ext hB0
 obtain ⟨qs, hqs⟩ := kids_of ht
 have hkl := hqs.len
 have hnil : KidsAt B0 none [] [] := ⟨CellsAt.nil _, by simp, rfl, by simp⟩
 by_cases h1 : t.list = 1
 ·have c1 : (t.list == 1) = true := by simpa using h1
  rcases Nat.lt_or_ge t.kids.length lo with h2 | h2
  ·have e1 : asL t lo hi = ([], 46) := by rw [asL, if_neg (by simpa using h1), if_pos (.inl h2)]
   rw [e1]
   repeat' (first | with_reducible refine And.intro (by omega) ?_ | simp (maxSteps := 4000000) (disch := omega) only [go_sem, ↓reduceIte, Try.f69, c1, bne] | ((first | refine condS_split (fun h => ?_) (fun h => ?_) | refine testS_split (fun h => ?_) (fun h => ?_) | refine testT_split (fun h => ?_) (fun h => ?_)) <;> (try simp only [bne_iff_ne, ne_eq, beq_iff_eq, decide_eq_true_eq, decide_eq_false_iff_not, Bool.not_eq_true, Bool.not_eq_false, Bool.not_true, Bool.not_false, bne_eq_false_iff_eq, beq_eq_false_iff_ne, Bool.and_eq_true, Bool.or_eq_true, Bool.and_eq_false_imp, Bool.or_eq_false_iff, Bool.not_eq_true', Bool.not_eq_false', Int.not_lt, Int.not_le] at h) <;> (try (exfalso; omega))))
   first | exact ⟨BExt.refl _, (none, 0, []), rfl, by simp [closed, closeds], hnil⟩ | exact ⟨(none, 0, []), rfl, by simp [closed, closeds], hnil⟩ | exact ⟨BExt.refl _, (none, 0, []), by simp [closed, closeds], hnil⟩ | exact ⟨(none, 0, []), by simp [closed, closeds], hnil⟩ | exact ⟨BExt.refl _, (none, 0, []), by simp [closed, closeds, bytes_any]⟩ | exact ⟨(none, 0, []), by simp [closed, closeds, bytes_any]⟩
  ·rcases Nat.lt_or_ge hi t.kids.length with h3 | h3
   ·have e1 : asL t lo hi = ([], 46) := by rw [asL, if_neg (by simpa using h1), if_pos (.inr h3)]
    rw [e1]
    repeat' (first | with_reducible refine And.intro (by omega) ?_ | simp (maxSteps := 4000000) (disch := omega) only [go_sem, ↓reduceIte, Try.f69, c1, bne] | ((first | refine condS_split (fun h => ?_) (fun h => ?_) | refine testS_split (fun h => ?_) (fun h => ?_) | refine testT_split (fun h => ?_) (fun h => ?_)) <;> (try simp only [bne_iff_ne, ne_eq, beq_iff_eq, decide_eq_true_eq, decide_eq_false_iff_not, Bool.not_eq_true, Bool.not_eq_false, Bool.not_true, Bool.not_false, bne_eq_false_iff_eq, beq_eq_false_iff_ne, Bool.and_eq_true, Bool.or_eq_true, Bool.and_eq_false_imp, Bool.or_eq_false_iff, Bool.not_eq_true', Bool.not_eq_false', Int.not_lt, Int.not_le] at h) <;> (try (exfalso; omega))))
    first | exact ⟨BExt.refl _, (none, 0, []), rfl, by simp [closed, closeds], hnil⟩ | exact ⟨(none, 0, []), rfl, by simp [closed, closeds], hnil⟩ | exact ⟨BExt.refl _, (none, 0, []), by simp [closed, closeds], hnil⟩ | exact ⟨(none, 0, []), by simp [closed, closeds], hnil⟩ | exact ⟨BExt.refl _, (none, 0, []), by simp [closed, closeds, bytes_any]⟩ | exact ⟨(none, 0, []), by simp [closed, closeds, bytes_any]⟩
   ·have e1 : asL t lo hi = (t.kids, 0) := by rw [asL, if_neg (by simpa using h1), if_neg (by omega)]
    rw [e1]
    repeat' (first | with_reducible refine And.intro (by omega) ?_ | simp (maxSteps := 4000000) (disch := omega) only [go_sem, ↓reduceIte, Try.f69, c1, bne] | ((first | refine condS_split (fun h => ?_) (fun h => ?_) | refine testS_split (fun h => ?_) (fun h => ?_) | refine testT_split (fun h => ?_) (fun h => ?_)) <;> (try simp only [bne_iff_ne, ne_eq, beq_iff_eq, decide_eq_true_eq, decide_eq_false_iff_not, Bool.not_eq_true, Bool.not_eq_false, Bool.not_true, Bool.not_false, bne_eq_false_iff_eq, beq_eq_false_iff_ne, Bool.and_eq_true, Bool.or_eq_true, Bool.and_eq_false_imp, Bool.or_eq_false_iff, Bool.not_eq_true', Bool.not_eq_false', Int.not_lt, Int.not_le] at h) <;> (try (exfalso; omega))))
    refine callS_f (twinI_fn ht) (fun _ => by simp [closed, closeds]) (fun s2 B2 hB2 hR2 => next_of 1000 ?_)
    change BExt B0 B2 at hB2
    obtain ⟨qs2, hqs2⟩ := kids_of hR2
    repeat' (first | with_reducible refine And.intro (by omega) ?_ | simp (maxSteps := 4000000) (disch := omega) only [go_sem, ↓reduceIte])
    first | exact ⟨hB2, (s2.kA, s2.kc, qs2), rfl, by simp [closed, closeds], hqs2⟩ | exact ⟨(s2.kA, s2.kc, qs2), rfl, by simp [closed, closeds], hqs2⟩ | exact ⟨hB2, (s2.kA, s2.kc, qs2), by simp [closed, closeds], hqs2⟩ | exact ⟨(s2.kA, s2.kc, qs2), by simp [closed, closeds], hqs2⟩ | exact ⟨hB2, (s2.kA, s2.kc, qs2), by simp [closed, closeds, bytes_any]⟩ | exact ⟨(s2.kA, s2.kc, qs2), by simp [closed, closeds, bytes_any]⟩
 ·have c1 : (t.list == 1) = false := by simpa using h1
  have e1 : asL t lo hi = ([], 45) := by rw [asL, if_pos h1]
  rw [e1]
  repeat' (first | with_reducible refine And.intro (by omega) ?_ | simp (maxSteps := 4000000) (disch := omega) only [go_sem, ↓reduceIte, Try.f69, c1, bne])
  first | exact ⟨BExt.refl _, (none, 0, []), rfl, by simp [closed, closeds], hnil⟩ | exact ⟨(none, 0, []), rfl, by simp [closed, closeds], hnil⟩ | exact ⟨BExt.refl _, (none, 0, []), by simp [closed, closeds], hnil⟩ | exact ⟨(none, 0, []), by simp [closed, closeds], hnil⟩ | exact ⟨BExt.refl _, (none, 0, []), by simp [closed, closeds, bytes_any]⟩ | exact ⟨(none, 0, []), by simp [closed, closeds, bytes_any]⟩
theorem asBytes_fn {B : Base} {t : Itm} {s : Plc} (ht : ItAt B t s) (lo hi : Nat) (hhi : hi ≤ 1099511627776) (hlo : lo ≤ hi) :
  Does Try.prog 72 [.agg (itE t s), .int .i64 (lo : Int), .int .i64 (hi : Int)] B (fun u : Option Addr × Nat => .tup [.raw (.slice u.1 (asB t lo hi).1.length u.2), .int .i64 ((asB t lo hi).2 : Nat)]) (fun u B' => BytesAt B' u.1 (asB t lo hi).1 ∧ (asB t lo hi).1.length ≤ u.2) := by
 refine fn_of en72 (fun s B B' hB hR => ⟨hR.1.ext hB, hR.2⟩) Try.func72 rfl in72 (by simp [Try.f72]) (by simp [closeds, closed]) (fun B0 hB0 => next_of 1000 ?_)
 replace ht := ht.ext hB0
 obtain ⟨hbt, hkl⟩ := bytes_of ht
 by_cases h1 : t.list = 0
 ·have c1 : (t.list == 0) = true := by simpa using h1
  rcases Nat.lt_or_ge t.bytes.length lo with h2 | h2
  ·have e1 : asB t lo hi = ([], 46) := by rw [asB, if_neg (by simpa using h1), if_pos (.inl h2)]
   rw [e1]
   repeat' (first | with_reducible refine And.intro (by omega) ?_ | simp (maxSteps := 4000000) (disch := omega) only [go_sem, ↓reduceIte, Try.f72, c1, bne] | ((first | refine condS_split (fun h => ?_) (fun h => ?_) | refine testS_split (fun h => ?_) (fun h => ?_) | refine testT_split (fun h => ?_) (fun h => ?_)) <;> (try simp only [bne_iff_ne, ne_eq, beq_iff_eq, decide_eq_true_eq, decide_eq_false_iff_not, Bool.not_eq_true, Bool.not_eq_false, Bool.not_true, Bool.not_false, bne_eq_false_iff_eq, beq_eq_false_iff_ne, Bool.and_eq_true, Bool.or_eq_true, Bool.and_eq_false_imp, Bool.or_eq_false_iff, Bool.not_eq_true', Bool.not_eq_false', Int.not_lt, Int.not_le] at h) <;> (try (exfalso; omega))))
   first | exact ⟨BExt.refl _, (none, 0), rfl, by simp [closed, closeds], ⟨bytes_any _, Nat.le_refl _⟩⟩ | exact ⟨(none, 0), rfl, by simp [closed, closeds], ⟨bytes_any _, Nat.le_refl _⟩⟩ | exact ⟨BExt.refl _, (none, 0), by simp [closed, closeds], ⟨bytes_any _, Nat.le_refl _⟩⟩ | exact ⟨(none, 0), by simp [closed, closeds], ⟨bytes_any _, Nat.le_refl _⟩⟩ | exact ⟨BExt.refl _, (none, 0), by simp [closed, closeds, bytes_any]⟩ | exact ⟨(none, 0), by simp [closed, closeds, bytes_any]⟩
  ·rcases Nat.lt_or_ge hi t.bytes.length with h3 | h3
   ·have e1 : asB t lo hi = ([], 46) := by rw [asB, if_neg (by simpa using h1), if_pos (.inr h3)]
    rw [e1]
    repeat' (first | with_reducible refine And.intro (by omega) ?_ | simp (maxSteps := 4000000) (disch := omega) only [go_sem, ↓reduceIte, Try.f72, c1, bne] | ((first | refine condS_split (fun h => ?_) (fun h => ?_) | refine testS_split (fun h => ?_) (fun h => ?_) | refine testT_split (fun h => ?_) (fun h => ?_)) <;> (try simp only [bne_iff_ne, ne_eq, beq_iff_eq, decide_eq_true_eq, decide_eq_false_iff_not, Bool.not_eq_true, Bool.not_eq_false, Bool.not_true, Bool.not_false, bne_eq_false_iff_eq, beq_eq_false_iff_ne, Bool.and_eq_true, Bool.or_eq_true, Bool.and_eq_false_imp, Bool.or_eq_false_iff, Bool.not_eq_true', Bool.not_eq_false', Int.not_lt, Int.not_le] at h) <;> (try (exfalso; omega))))
    first | exact ⟨BExt.refl _, (none, 0), rfl, by simp [closed, closeds], ⟨bytes_any _, Nat.le_refl _⟩⟩ | exact ⟨(none, 0), rfl, by simp [closed, closeds], ⟨bytes_any _, Nat.le_refl _⟩⟩ | exact ⟨BExt.refl _, (none, 0), by simp [closed, closeds], ⟨bytes_any _, Nat.le_refl _⟩⟩ | exact ⟨(none, 0), by simp [closed, closeds], ⟨bytes_any _, Nat.le_refl _⟩⟩ | exact ⟨BExt.refl _, (none, 0), by simp [closed, closeds, bytes_any]⟩ | exact ⟨(none, 0), by simp [closed, closeds, bytes_any]⟩
   ·have e1 : asB t lo hi = (t.bytes, 0) := by rw [asB, if_neg (by simpa using h1), if_neg (by omega)]
    rw [e1]
    repeat' (first | with_reducible refine And.intro (by omega) ?_ | simp (maxSteps := 4000000) (disch := omega) only [go_sem, ↓reduceIte, Try.f72, c1, bne] | ((first | refine condS_split (fun h => ?_) (fun h => ?_) | refine testS_split (fun h => ?_) (fun h => ?_) | refine testT_split (fun h => ?_) (fun h => ?_)) <;> (try simp only [bne_iff_ne, ne_eq, beq_iff_eq, decide_eq_true_eq, decide_eq_false_iff_not, Bool.not_eq_true, Bool.not_eq_false, Bool.not_true, Bool.not_false, bne_eq_false_iff_eq, beq_eq_false_iff_ne, Bool.and_eq_true, Bool.or_eq_true, Bool.and_eq_false_imp, Bool.or_eq_false_iff, Bool.not_eq_true', Bool.not_eq_false', Int.not_lt, Int.not_le] at h) <;> (try (exfalso; omega))))
    refine callS_f (clone_fn t.bytes t.bytes.length B0 s.bA s.bc hbt rfl hkl) (fun _ => by simp [closed]) (fun s2 B2 hB2 hR2 => next_of 1000 ?_)
    change BExt B0 B2 at hB2
    repeat' (first | with_reducible refine And.intro (by omega) ?_ | simp (maxSteps := 4000000) (disch := omega) only [go_sem, ↓reduceIte])
    first | exact ⟨hB2, s2, rfl, by simp [closed, closeds], hR2⟩ | exact ⟨s2, rfl, by simp [closed, closeds], hR2⟩ | exact ⟨hB2, s2, by simp [closed, closeds], hR2⟩ | exact ⟨s2, by simp [closed, closeds], hR2⟩ | exact ⟨hB2, s2, by simp [closed, closeds, bytes_any]⟩ | exact ⟨s2, by simp [closed, closeds, bytes_any]⟩
 ·have c1 : (t.list == 0) = false := by simpa using h1
  have e1 : asB t lo hi = ([], 45) := by rw [asB, if_pos h1]
  rw [e1]
  repeat' (first | with_reducible refine And.intro (by omega) ?_ | simp (maxSteps := 4000000) (disch := omega) only [go_sem, ↓reduceIte, Try.f72, c1, bne])
  first | exact ⟨BExt.refl _, (none, 0), rfl, by simp [closed, closeds], ⟨bytes_any _, Nat.le_refl _⟩⟩ | exact ⟨(none, 0), rfl, by simp [closed, closeds], ⟨bytes_any _, Nat.le_refl _⟩⟩ | exact ⟨BExt.refl _, (none, 0), by simp [closed, closeds], ⟨bytes_any _, Nat.le_refl _⟩⟩ | exact ⟨(none, 0), by simp [closed, closeds], ⟨bytes_any _, Nat.le_refl _⟩⟩ | exact ⟨BExt.refl _, (none, 0), by simp [closed, closeds, bytes_any]⟩ | exact ⟨(none, 0), by simp [closed, closeds, bytes_any]⟩
end Go.Proofs.Ytepabkjfnpaijaa
namespace Go.Proofs.Ytepabkjfnpaijaa
open Go RowKit Go.Ew
set_option maxHeartbeats 4000000
def asW (t : Itm) : Nat × Nat := if t.list ≠ 0 then (0, 45) else if 32 < t.bytes.length then (0, 46) else if 0 < t.bytes.length ∧ t.bytes.getD 0 0 = 0 then (0, 42) else (bvN t.bytes, 0)
theorem asWhole_fn {B : Base} {t : Itm} {s : Plc} (ht : ItAt B t s) :
  Does Try.prog 89 [.agg (itE t s)] B (fun _ : Unit => .tup [wE (asW t).1, .int .i64 ((asW t).2 : Nat)]) (fun _ _ => True) := by
 refine fn_of en89 (fun s B B' hB hR => hR) Try.func89 rfl in89 (by simp [Try.f89]) (by simp [closeds, closed]) (fun B0 hB0 => next_of 1000 ?_)
 replace ht := ht.ext hB0
 obtain ⟨hbt, hkl⟩ := bytes_of ht
 have z0 : wE 0 = .agg [.int .u64 0, .int .u64 0, .int .u64 0, .int .u64 0] := rfl
 by_cases h1 : t.list = 0
 ·have c1 : (t.list == 0) = true := by simpa using h1
  rcases Nat.lt_or_ge 32 t.bytes.length with h2 | h2
  ·have e1 : asW t = (0, 46) := by rw [asW, if_neg (by simpa using h1), if_pos h2]
   rw [e1, z0]
   repeat' (first | with_reducible refine And.intro (by first | omega | assumption | (constructor <;> assumption) | (simp; done) | (simp; omega) | (simp [*]; done) | ((repeat' refine And.intro ?_ ?_) <;> first | omega | assumption | (refine SlOk.so (n := ?_) ?_ ?_; rotate_left; assumption; omega) | (simp; done) | fail) | fail) ?_ | simp (maxSteps := 4000000) (disch := omega) only [go_sem, ↓reduceIte, Try.f89, c1, bne] | ((first | refine condS_split (fun h => ?_) (fun h => ?_) | refine testS_split (fun h => ?_) (fun h => ?_) | refine testT_split (fun h => ?_) (fun h => ?_)) <;> (try simp only [bne_iff_ne, ne_eq, beq_iff_eq, decide_eq_true_eq, decide_eq_false_iff_not, Bool.not_eq_true, Bool.not_eq_false, Bool.not_true, Bool.not_false, bne_eq_false_iff_eq, beq_eq_false_iff_ne, Bool.and_eq_true, Bool.or_eq_true, Bool.and_eq_false_imp, Bool.or_eq_false_iff, Bool.not_eq_true', Bool.not_eq_false', Int.not_lt, Int.not_le] at h) <;> (try (exfalso; omega))))
   first | exact ⟨BExt.refl _, (), rfl, by simp [closed, closeds], trivial⟩ | exact ⟨(), rfl, by simp [closed, closeds], trivial⟩ | exact ⟨BExt.refl _, (), by simp [closed, closeds], trivial⟩ | exact ⟨(), by simp [closed, closeds], trivial⟩ | exact ⟨BExt.refl _, (), by simp [closed, closeds, bytes_any]⟩ | exact ⟨(), by simp [closed, closeds, bytes_any]⟩
  ·by_cases h0 : t.bytes = []
   ·have e1 : asW t = (bvN t.bytes, 0) := by rw [asW, if_neg (by simpa using h1), if_neg (by omega), if_neg (by rw [h0]; simp)]
    rw [e1]
    have hrd := read_fn t.bytes t.bytes.length B0 s.bA s.bc hbt rfl h2
    have hl0 : t.bytes.length = 0 := by rw [h0]; rfl
    have hv : bvN t.bytes = 0 := by rw [h0]; rfl
    rw [hv, z0, hl0] at hrd
    rw [hv, z0]
    repeat' (first | with_reducible refine And.intro (by first | omega | assumption | (constructor <;> assumption) | (simp; done) | (simp; omega) | (simp [*]; done) | ((repeat' refine And.intro ?_ ?_) <;> first | omega | assumption | (refine SlOk.so (n := ?_) ?_ ?_; rotate_left; assumption; omega) | (simp; done) | fail) | fail) ?_ | simp (maxSteps := 4000000) (disch := omega) only [go_sem, ↓reduceIte, Try.f89, c1, bne, hl0] | refine callS_fp (hrd) (by simp [closed, closeds, closeds_ints, closed_wE]) (next_of 1000 ?_))
    first | exact ⟨BExt.refl _, (), rfl, by simp [closed, closeds], trivial⟩ | exact ⟨(), rfl, by simp [closed, closeds], trivial⟩ | exact ⟨BExt.refl _, (), by simp [closed, closeds], trivial⟩ | exact ⟨(), by simp [closed, closeds], trivial⟩ | exact ⟨BExt.refl _, (), by simp [closed, closeds, bytes_any]⟩ | exact ⟨(), by simp [closed, closeds, bytes_any]⟩
   ·have hlen : 1 ≤ t.bytes.length := by
     rcases Nat.eq_zero_or_pos t.bytes.length with h3 | h3
     ·exact absurd (List.length_eq_zero_iff.1 h3) h0
     ·exact h3
    have m1 := hbt.ld 0 (by omega)
    have m2 := hbt.lS 0 (by omega)
    have m3 := hbt.lD (by omega)
    have m4 := hbt.ok.so (by omega)
    by_cases h3 : t.bytes.getD 0 0 = 0
    ·have e1 : asW t = (0, 42) := by rw [asW, if_neg (by simpa using h1), if_neg (by omega), if_pos ⟨by omega, h3⟩]
     rw [e1, z0]
     rw [h3] at m1
     have m5 : rawCell B0 (adrAt s.bA 0) = .int .u8 0 := m1
     repeat' (first | with_reducible refine And.intro (by first | omega | assumption | (constructor <;> assumption) | (simp; done) | (simp; omega) | (simp [*]; done) | ((repeat' refine And.intro ?_ ?_) <;> first | omega | assumption | (refine SlOk.so (n := ?_) ?_ ?_; rotate_left; assumption; omega) | (simp; done) | fail) | fail) ?_ | simp (maxSteps := 4000000) (disch := omega) only [go_sem, ↓reduceIte, Try.f89, c1, bne, m5] | ((first | refine condS_split (fun h => ?_) (fun h => ?_) | refine testS_split (fun h => ?_) (fun h => ?_) | refine testT_split (fun h => ?_) (fun h => ?_)) <;> (try simp only [bne_iff_ne, ne_eq, beq_iff_eq, decide_eq_true_eq, decide_eq_false_iff_not, Bool.not_eq_true, Bool.not_eq_false, Bool.not_true, Bool.not_false, bne_eq_false_iff_eq, beq_eq_false_iff_ne, Bool.and_eq_true, Bool.or_eq_true, Bool.and_eq_false_imp, Bool.or_eq_false_iff, Bool.not_eq_true', Bool.not_eq_false', Int.not_lt, Int.not_le] at h) <;> (try (exfalso; omega))))
     first | exact ⟨BExt.refl _, (), rfl, by simp [closed, closeds], trivial⟩ | exact ⟨(), rfl, by simp [closed, closeds], trivial⟩ | exact ⟨BExt.refl _, (), by simp [closed, closeds], trivial⟩ | exact ⟨(), by simp [closed, closeds], trivial⟩ | exact ⟨BExt.refl _, (), by simp [closed, closeds, bytes_any]⟩ | exact ⟨(), by simp [closed, closeds, bytes_any]⟩
    ·have e1 : asW t = (bvN t.bytes, 0) := by rw [asW, if_neg (by simpa using h1), if_neg (by omega), if_neg (fun h => h3 h.2)]
     rw [e1]
     have hz : ((t.bytes.getD 0 0).toNat : Int) ≠ 0 := fun h => h3 (UInt8.toNat_inj.1 (by rw [UInt8.toNat_zero]; omega))
     obtain ⟨z, hz0⟩ : ∃ z : Int, z = ((t.bytes.getD 0 0).toNat : Int) := ⟨_, rfl⟩
     have m5 : rawCell B0 (adrAt s.bA 0) = .int .u8 z := by rw [m1, bE, hz0]
     rw [← hz0] at hz
     have c2 : (z == 0) = false := by simpa using hz
     have hrd := read_fn t.bytes t.bytes.length B0 s.bA s.bc hbt rfl h2
     obtain ⟨v1, v2, v3, v4, hw, -⟩ := wE_open (bvN t.bytes) (bvN_32 h2)
     rw [hw] at hrd ⊢
     repeat' (first | with_reducible refine And.intro (by first | omega | assumption | (constructor <;> assumption) | (simp; done) | (simp; omega) | (simp [*]; done) | ((repeat' refine And.intro ?_ ?_) <;> first | omega | assumption | (refine SlOk.so (n := ?_) ?_ ?_; rotate_left; assumption; omega) | (simp; done) | fail) | fail) ?_ | simp (maxSteps := 4000000) (disch := omega) only [go_sem, ↓reduceIte, Try.f89, c1, bne, m5, c2] | refine callS_fp (hrd) (by simp [closed, closeds, closeds_ints, closed_wE]) (next_of 1000 ?_) | ((first | refine condS_split (fun h => ?_) (fun h => ?_) | refine testS_split (fun h => ?_) (fun h => ?_) | refine testT_split (fun h => ?_) (fun h => ?_)) <;> (try simp only [bne_iff_ne, ne_eq, beq_iff_eq, decide_eq_true_eq, decide_eq_false_iff_not, Bool.not_eq_true, Bool.not_eq_false, Bool.not_true, Bool.not_false, bne_eq_false_iff_eq, beq_eq_false_iff_ne, Bool.and_eq_true, Bool.or_eq_true, Bool.and_eq_false_imp, Bool.or_eq_false_iff, Bool.not_eq_true', Bool.not_eq_false', Int.not_lt, Int.not_le] at h) <;> (try (exfalso; omega))))
     first | exact ⟨BExt.refl _, (), rfl, by simp [closed, closeds], trivial⟩ | exact ⟨(), rfl, by simp [closed, closeds], trivial⟩ | exact ⟨BExt.refl _, (), by simp [closed, closeds], trivial⟩ | exact ⟨(), by simp [closed, closeds], trivial⟩ | exact ⟨BExt.refl _, (), by simp [closed, closeds, bytes_any]⟩ | exact ⟨(), by simp [closed, closeds, bytes_any]⟩
 ·have c1 : (t.list == 0) = false := by simpa using h1
  have e1 : asW t = (0, 45) := by rw [asW, if_pos h1]
  rw [e1, z0]
  repeat' (first | with_reducible refine And.intro (by first | omega | assumption | (constructor <;> assumption) | (simp; done) | (simp; omega) | (simp [*]; done) | ((repeat' refine And.intro ?_ ?_) <;> first | omega | assumption | (refine SlOk.so (n := ?_) ?_ ?_; rotate_left; assumption; omega) | (simp; done) | fail) | fail) ?_ | simp (maxSteps := 4000000) (disch := omega) only [go_sem, ↓reduceIte, Try.f89, c1, bne])
  first | exact ⟨BExt.refl _, (), rfl, by simp [closed, closeds], trivial⟩ | exact ⟨(), rfl, by simp [closed, closeds], trivial⟩ | exact ⟨BExt.refl _, (), by simp [closed, closeds], trivial⟩ | exact ⟨(), by simp [closed, closeds], trivial⟩ | exact ⟨BExt.refl _, (), by simp [closed, closeds, bytes_any]⟩ | exact ⟨(), by simp [closed, closeds, bytes_any]⟩
theorem asN_lt (t : Itm) : (asN t).1 < 18446744073709551616 := by
 unfold asN
 split
 ·simp
 ·split
  ·simp
  ·split
   ·simp
   ·exact bvN_8 (by omega)
theorem asNumber_fn {B : Base} {t : Itm} {s : Plc} (ht : ItAt B t s) :
  Does Try.prog 71 [.agg (itE t s)] B (fun _ : Unit => .tup [.int .u64 ((asN t).1 : Nat), .int .i64 ((asN t).2 : Nat)]) (fun _ _ => True) := by
 refine fn_of en71 (fun s B B' hB hR => hR) Try.func71 rfl in71 (by simp [Try.f71]) (by simp [closeds, closed]) (fun B0 hB0 => next_of 1000 ?_)
 replace ht := ht.ext hB0
 have hw := asWhole_fn ht
 by_cases h1 : t.list = 0
 ·have c1 : (t.list == 0) = true := by simpa using h1
  rcases Nat.lt_or_ge 8 t.bytes.length with h2 | h2
  ·have e1 : asN t = (0, 46) := by rw [asN, if_neg (by simpa using h1), if_pos h2]
   rw [e1]
   repeat' (first | with_reducible refine And.intro (by first | omega | assumption | (constructor <;> assumption) | (simp; done) | (simp; omega) | (simp [*]; done) | ((repeat' refine And.intro ?_ ?_) <;> first | omega | assumption | (refine SlOk.so (n := ?_) ?_ ?_; rotate_left; assumption; omega) | (simp; done) | fail) | fail) ?_ | simp (maxSteps := 4000000) (disch := omega) only [go_sem, ↓reduceIte, Try.f71, c1, bne] | ((first | refine condS_split (fun h => ?_) (fun h => ?_) | refine testS_split (fun h => ?_) (fun h => ?_) | refine testT_split (fun h => ?_) (fun h => ?_)) <;> (try simp only [bne_iff_ne, ne_eq, beq_iff_eq, decide_eq_true_eq, decide_eq_false_iff_not, Bool.not_eq_true, Bool.not_eq_false, Bool.not_true, Bool.not_false, bne_eq_false_iff_eq, beq_eq_false_iff_ne, Bool.and_eq_true, Bool.or_eq_true, Bool.and_eq_false_imp, Bool.or_eq_false_iff, Bool.not_eq_true', Bool.not_eq_false', Int.not_lt, Int.not_le] at h) <;> (try (exfalso; omega))))
   first | exact ⟨BExt.refl _, (), rfl, by simp [closed, closeds], trivial⟩ | exact ⟨(), rfl, by simp [closed, closeds], trivial⟩ | exact ⟨BExt.refl _, (), by simp [closed, closeds], trivial⟩ | exact ⟨(), by simp [closed, closeds], trivial⟩ | exact ⟨BExt.refl _, (), by simp [closed, closeds, bytes_any]⟩ | exact ⟨(), by simp [closed, closeds, bytes_any]⟩
  ·have e2 : asW t = if 0 < t.bytes.length ∧ t.bytes.getD 0 0 = 0 then (0, 42) else (bvN t.bytes, 0) := by rw [asW, if_neg (by simpa using h1), if_neg (by omega)]
   have e3 : asN t = if 0 < t.bytes.length ∧ t.bytes.getD 0 0 = 0 then (0, 42) else (bvN t.bytes, 0) := by rw [asN, if_neg (by simpa using h1), if_neg (by omega)]
   have e4 : asW t = asN t := by rw [e2, e3]
   rw [e4] at hw
   have hlt := asN_lt t
   have he : (asN t).2 = 0 ∨ (asN t).1 = 0 := by
    rw [e3]; split
    ·exact .inr rfl
    ·exact .inl rfl
   obtain ⟨v, e, hq⟩ : ∃ v e, asN t = (v, e) := ⟨_, _, rfl⟩
   rw [hq] at hw hlt he ⊢
   simp only at hw hlt he ⊢
   have hwv : wE v = .agg [.int .u64 (v : Int), .int .u64 0, .int .u64 0, .int .u64 0] := (wE_of (by constructor <;> omega)).symm
   rw [hwv] at hw
   by_cases hez : e = 0
   ·subst hez
    repeat' (first | with_reducible refine And.intro (by first | omega | assumption | (constructor <;> assumption) | (simp; done) | (simp; omega) | (simp [*]; done) | ((repeat' refine And.intro ?_ ?_) <;> first | omega | assumption | (refine SlOk.so (n := ?_) ?_ ?_; rotate_left; assumption; omega) | (simp; done) | fail) | fail) ?_ | simp (maxSteps := 4000000) (disch := omega) only [go_sem, ↓reduceIte, Try.f71, c1, bne] | refine callS_fp (hw) (by simp [closed, closeds, closeds_ints, closed_wE]) (next_of 1000 ?_) | ((first | refine condS_split (fun h => ?_) (fun h => ?_) | refine testS_split (fun h => ?_) (fun h => ?_) | refine testT_split (fun h => ?_) (fun h => ?_)) <;> (try simp only [bne_iff_ne, ne_eq, beq_iff_eq, decide_eq_true_eq, decide_eq_false_iff_not, Bool.not_eq_true, Bool.not_eq_false, Bool.not_true, Bool.not_false, bne_eq_false_iff_eq, beq_eq_false_iff_ne, Bool.and_eq_true, Bool.or_eq_true, Bool.and_eq_false_imp, Bool.or_eq_false_iff, Bool.not_eq_true', Bool.not_eq_false', Int.not_lt, Int.not_le] at h) <;> (try (exfalso; omega))))
    first | exact ⟨BExt.refl _, (), rfl, by simp [closed, closeds], trivial⟩ | exact ⟨(), rfl, by simp [closed, closeds], trivial⟩ | exact ⟨BExt.refl _, (), by simp [closed, closeds], trivial⟩ | exact ⟨(), by simp [closed, closeds], trivial⟩ | exact ⟨BExt.refl _, (), by simp [closed, closeds, bytes_any]⟩ | exact ⟨(), by simp [closed, closeds, bytes_any]⟩
   ·have hv : v = 0 := by omega
    subst hv
    have hei : ((e : Nat) : Int) ≠ 0 := by omega
    repeat' (first | with_reducible refine And.intro (by first | omega | assumption | (constructor <;> assumption) | (simp; done) | (simp; omega) | (simp [*]; done) | ((repeat' refine And.intro ?_ ?_) <;> first | omega | assumption | (refine SlOk.so (n := ?_) ?_ ?_; rotate_left; assumption; omega) | (simp; done) | fail) | fail) ?_ | simp (maxSteps := 4000000) (disch := omega) only [go_sem, ↓reduceIte, Try.f71, c1, bne] | refine callS_fp (hw) (by simp [closed, closeds, closeds_ints, closed_wE]) (next_of 1000 ?_) | ((first | refine condS_split (fun h => ?_) (fun h => ?_) | refine testS_split (fun h => ?_) (fun h => ?_) | refine testT_split (fun h => ?_) (fun h => ?_)) <;> (try simp only [bne_iff_ne, ne_eq, beq_iff_eq, decide_eq_true_eq, decide_eq_false_iff_not, Bool.not_eq_true, Bool.not_eq_false, Bool.not_true, Bool.not_false, bne_eq_false_iff_eq, beq_eq_false_iff_ne, Bool.and_eq_true, Bool.or_eq_true, Bool.and_eq_false_imp, Bool.or_eq_false_iff, Bool.not_eq_true', Bool.not_eq_false', Int.not_lt, Int.not_le] at h) <;> (try (exfalso; omega))))
    first | exact ⟨BExt.refl _, (), rfl, by simp [closed, closeds], trivial⟩ | exact ⟨(), rfl, by simp [closed, closeds], trivial⟩ | exact ⟨BExt.refl _, (), by simp [closed, closeds], trivial⟩ | exact ⟨(), by simp [closed, closeds], trivial⟩ | exact ⟨BExt.refl _, (), by simp [closed, closeds, bytes_any]⟩ | exact ⟨(), by simp [closed, closeds, bytes_any]⟩
 ·have c1 : (t.list == 0) = false := by simpa using h1
  have e1 : asN t = (0, 45) := by rw [asN, if_pos h1]
  have e2 : asW t = (0, 45) := by rw [asW, if_pos h1]
  have z0 : wE 0 = .agg [.int .u64 0, .int .u64 0, .int .u64 0, .int .u64 0] := rfl
  rw [e2, z0] at hw
  rw [e1]
  repeat' (first | with_reducible refine And.intro (by first | omega | assumption | (constructor <;> assumption) | (simp; done) | (simp; omega) | (simp [*]; done) | ((repeat' refine And.intro ?_ ?_) <;> first | omega | assumption | (refine SlOk.so (n := ?_) ?_ ?_; rotate_left; assumption; omega) | (simp; done) | fail) | fail) ?_ | simp (maxSteps := 4000000) (disch := omega) only [go_sem, ↓reduceIte, Try.f71, c1, bne] | refine callS_fp (hw) (by simp [closed, closeds, closeds_ints, closed_wE]) (next_of 1000 ?_))
  first | exact ⟨BExt.refl _, (), rfl, by simp [closed, closeds], trivial⟩ | exact ⟨(), rfl, by simp [closed, closeds], trivial⟩ | exact ⟨BExt.refl _, (), by simp [closed, closeds], trivial⟩ | exact ⟨(), by simp [closed, closeds], trivial⟩ | exact ⟨BExt.refl _, (), by simp [closed, closeds, bytes_any]⟩ | exact ⟨(), by simp [closed, closeds, bytes_any]⟩
theorem open_fn (b : List UInt8) (n : Nat) (B : Base) (ad : Option Addr) (cap : Nat) (hb : BytesAt B ad b) (hn : b.length = n) (hcap : n ≤ cap) (hc : n ≤ 1099511627776) (h0 : 1 ≤ n) (h1 : (b.getD 0 0).toNat < 128) :
  Does Try.prog 44 [.raw (.slice ad n cap)] B (fun u : Option Addr × Nat => .tup [bE (b.getD 0 0), .raw (.slice u.1 (n - 1) u.2), .int .i64 0]) (fun u B' => BytesAt B' u.1 (b.drop 1) ∧ n - 1 ≤ u.2) := by
 subst hn
 refine fn_of en44 (fun s B B' hB hR => ⟨hR.1.ext hB, hR.2⟩) Try.func44 rfl in44 (by simp [Try.f44]) (by simp [closeds, closed]) (fun B0 hB0 => next_of 1000 ?_)
 replace hb := hb.ext hB0
 have m1 := hb.ld 0 (by omega)
 have m2 := hb.lS 0 (by omega)
 have m3 := hb.lD (by omega)
 have m4 := hb.ok.so (by omega)
 obtain ⟨z, hz⟩ : ∃ z, z = (b.getD 0 0).toNat := ⟨_, rfl⟩
 have m5 : rawCell B0 (adrAt ad 0) = .int .u8 (z : Int) := by rw [m1, bE, hz]
 have eb : bE (b.getD 0 0) = .int .u8 (z : Int) := by rw [bE, hz]
 rw [← hz] at h1
 rw [eb]
 have c0 : (((b.length : Nat) : Int) == 0) = false := by rw [beq_eq_false_iff_ne]; omega
 repeat' (first | with_reducible refine And.intro (by first | omega | assumption | (constructor <;> assumption) | (simp; done) | (simp; omega) | (simp [*]; done) | ((repeat' refine And.intro ?_ ?_) <;> first | omega | assumption | (refine SlOk.so (n := ?_) ?_ ?_; rotate_left; assumption; omega) | (simp; done) | fail) | fail) ?_ | simp (maxSteps := 4000000) (disch := omega) only [go_sem, ↓reduceIte, Try.f44, c0, m5] | with_reducible refine drawT_of (id := 4) [0, 1, 2, 3, 4, 5, 6, 7, 8] mixed (by kernel_rfl) (by simp) (fun hin => dt_of 1000 hin ?_) | ((first | refine condS_split (fun h => ?_) (fun h => ?_) | refine testS_split (fun h => ?_) (fun h => ?_) | refine testT_split (fun h => ?_) (fun h => ?_)) <;> (try simp only [bne_iff_ne, ne_eq, beq_iff_eq, decide_eq_true_eq, decide_eq_false_iff_not, Bool.not_eq_true, Bool.not_eq_false, Bool.not_true, Bool.not_false, bne_eq_false_iff_eq, beq_eq_false_iff_ne, Bool.and_eq_true, Bool.or_eq_true, Bool.and_eq_false_imp, Bool.or_eq_false_iff, Bool.not_eq_true', Bool.not_eq_false', Int.not_lt, Int.not_le] at h) <;> (try (exfalso; omega))))
 refine callT_f (clone_fn (b.drop 1) (b.length - 1) B0 _ (cap - 1) (bytes_from hb 1 hcap) (by simp) (by omega)) (fun _ => by simp [closed]) (by kernel_rfl) (ck_of (by kernel_rfl) (nmT_of (by kernel_rfl))) (fun hin2 s1 B1 hB1 hR1 => dt_of 1000 hin2 ?_)
 change BExt B0 B1 at hB1
 repeat' (first | with_reducible refine And.intro (by first | omega | assumption | (constructor <;> assumption) | (simp; done) | (simp; omega) | (simp [*]; done) | ((repeat' refine And.intro ?_ ?_) <;> first | omega | assumption | (refine SlOk.so (n := ?_) ?_ ?_; rotate_left; assumption; omega) | (simp; done) | fail) | fail) ?_ | simp (maxSteps := 4000000) (disch := omega) only [go_sem, ↓reduceIte] | with_reducible refine endT_of (by kernel_rfl) (nmT_of (by kernel_rfl)) (next_of 1000 ?_))
 first | exact ⟨hB1, s1, rfl, by simp [closed, closeds], hR1⟩ | exact ⟨s1, rfl, by simp [closed, closeds], hR1⟩ | exact ⟨hB1, s1, by simp [closed, closeds], hR1⟩ | exact ⟨s1, by simp [closed, closeds], hR1⟩ | exact ⟨hB1, s1, by simp [closed, closeds, bytes_any]⟩ | exact ⟨s1, by simp [closed, closeds, bytes_any]⟩
end Go.Proofs.Ytepabkjfnpaijaa
namespace Go.Proofs.Ytepabkjfnpaijaa
open Go RowKit Go.Ew
set_option maxHeartbeats 4000000
theorem in70 : codeIn Try.f70.ntmps (Try.f70.body.getD .skip) = true := by kernel_rfl
theorem in46 : codeIn Try.f46.ntmps (Try.f46.body.getD .skip) = true := by kernel_rfl
theorem in47 : codeIn Try.f47.ntmps (Try.f47.body.getD .skip) = true := by kernel_rfl
theorem in48 : codeIn Try.f48.ntmps (Try.f48.body.getD .skip) = true := by kernel_rfl
/-- The reader, and what it keeps. -/
abbrev rdO (e : Nat) : EObj := .cells [.int .i64 (e : Nat)] 93 (0, 0)
theorem rdO_closed (e : Nat) : (rdO e).closed 0 := by simp [EObj.closed, closeds, closed]
def kp (e e' : Nat) : Nat := if e = 0 then e' else e
theorem keep_fn (B : Base) (e e' : Nat) : Turns Try.prog 70 [.int .i64 (e' : Nat)] (rdO e) B (fun _ : Unit => .tup []) (rdO (kp e e')) (fun _ _ => True) := by
 refine turns_of en70 (fun s B B' hB hR => hR) Try.func70 rfl in70 (by simp [Try.f70]) (by simp [closeds, closed]) (rdO_closed _) (rdO_closed _) (fun B0 hB0 b => next_of 1000 ?_)
 by_cases he : e = 0
 ·subst he
  have ek : kp 0 e' = e' := rfl
  rw [ek]
  repeat' (first | with_reducible refine And.intro (by omega) ?_ | simp (maxSteps := 4000000) (disch := omega) only [go_sem, ↓reduceIte, Try.f70])
  exact ⟨BExt.refl _, (), by simp [closed, closeds]⟩
 ·have ek : kp e e' = e := if_neg he
  rw [ek]
  have hei : (((e : Nat) : Int) == 0) = false := by rw [beq_eq_false_iff_ne]; omega
  repeat' (first | with_reducible refine And.intro (by omega) ?_ | simp (maxSteps := 4000000) (disch := omega) only [go_sem, ↓reduceIte, Try.f70, hei])
  exact ⟨BExt.refl _, (), by simp [closed, closeds]⟩
theorem rlist_fn {B : Base} {t : Itm} {s : Plc} (ht : ItAt B t s) (e lo hi : Nat) (hhi : hi ≤ 1099511627776) (hlo : lo ≤ hi) :
  Turns Try.prog 46 [.agg (itE t s), .int .i64 (lo : Int), .int .i64 (hi : Int)] (rdO e) B (fun u : Option Addr × Nat × List (Itm × Plc) => .raw (.slice u.1 (asL t lo hi).1.length u.2.1)) (rdO (kp e (asL t lo hi).2)) (fun u B' => KidsAt B' u.1 (asL t lo hi).1 u.2.2) := by
 refine turns_of en46 (fun s B B' hB hR => hR.ext hB) Try.func46 rfl in46 (by simp [Try.f46]) (by simp [closeds, closed]) (rdO_closed _) (rdO_closed _) (fun B0 hB0 b => next_of 1000 ?_)
 replace ht := ht.ext hB0
 repeat' (simp (maxSteps := 4000000) (disch := omega) only [go_sem, ↓reduceIte, Try.f46])
 refine callS_f (asList_fn ht lo hi hhi hlo) (fun _ => by simp [closed, closeds]) (fun u B2 hB2 hR2 => next_of 1000 ?_)
 change BExt B0 B2 at hB2
 repeat' (simp (maxSteps := 4000000) (disch := omega) only [go_sem, ↓reduceIte])
 refine callS_t 0 (keep_fn B2 e (asL t lo hi).2) rfl (fun _ => by simp [closed, closeds]) (rdO_closed _) (rdO_closed _) (fun u3 B3 hB3 hR3 => next_of 1000 ?_)
 change BExt B2 B3 at hB3
 repeat' (simp (maxSteps := 4000000) (disch := omega) only [go_sem, ↓reduceIte])
 exact ⟨hB2.trans hB3, u, rfl, by simp [closed], hR2.ext hB3⟩
theorem rbytes_fn {B : Base} {t : Itm} {s : Plc} (ht : ItAt B t s) (e lo hi : Nat) (hhi : hi ≤ 1099511627776) (hlo : lo ≤ hi) :
  Turns Try.prog 48 [.agg (itE t s), .int .i64 (lo : Int), .int .i64 (hi : Int)] (rdO e) B (fun u : Option Addr × Nat => .raw (.slice u.1 (asB t lo hi).1.length u.2)) (rdO (kp e (asB t lo hi).2)) (fun u B' => BytesAt B' u.1 (asB t lo hi).1 ∧ (asB t lo hi).1.length ≤ u.2) := by
 refine turns_of en48 (fun s B B' hB hR => ⟨hR.1.ext hB, hR.2⟩) Try.func48 rfl in48 (by simp [Try.f48]) (by simp [closeds, closed]) (rdO_closed _) (rdO_closed _) (fun B0 hB0 b => next_of 1000 ?_)
 replace ht := ht.ext hB0
 repeat' (simp (maxSteps := 4000000) (disch := omega) only [go_sem, ↓reduceIte, Try.f48])
 refine callS_f (asBytes_fn ht lo hi hhi hlo) (fun _ => by simp [closed, closeds]) (fun u B2 hB2 hR2 => next_of 1000 ?_)
 change BExt B0 B2 at hB2
 repeat' (simp (maxSteps := 4000000) (disch := omega) only [go_sem, ↓reduceIte])
 refine callS_t 0 (keep_fn B2 e (asB t lo hi).2) rfl (fun _ => by simp [closed, closeds]) (rdO_closed _) (rdO_closed _) (fun u3 B3 hB3 hR3 => next_of 1000 ?_)
 change BExt B2 B3 at hB3
 repeat' (simp (maxSteps := 4000000) (disch := omega) only [go_sem, ↓reduceIte])
 exact ⟨hB2.trans hB3, u, rfl, by simp [closed], hR2.1.ext hB3, hR2.2⟩
theorem rnumber_fn {B : Base} {t : Itm} {s : Plc} (ht : ItAt B t s) (e : Nat) :
  Turns Try.prog 47 [.agg (itE t s)] (rdO e) B (fun _ : Unit => .int .u64 ((asN t).1 : Nat)) (rdO (kp e (asN t).2)) (fun _ _ => True) := by
 refine turns_of en47 (fun s B B' hB hR => hR) Try.func47 rfl in47 (by simp [Try.f47]) (by simp [closeds, closed]) (rdO_closed _) (rdO_closed _) (fun B0 hB0 b => next_of 1000 ?_)
 replace ht := ht.ext hB0
 repeat' (simp (maxSteps := 4000000) (disch := omega) only [go_sem, ↓reduceIte, Try.f47])
 refine callS_f (asNumber_fn ht) (fun _ => by simp [closed, closeds]) (fun u B2 hB2 hR2 => next_of 1000 ?_)
 change BExt B0 B2 at hB2
 repeat' (simp (maxSteps := 4000000) (disch := omega) only [go_sem, ↓reduceIte])
 refine callS_t 0 (keep_fn B2 e (asN t).2) rfl (fun _ => by simp [closed, closeds]) (rdO_closed _) (rdO_closed _) (fun u3 B3 hB3 hR3 => next_of 1000 ?_)
 change BExt B2 B3 at hB3
 repeat' (simp (maxSteps := 4000000) (disch := omega) only [go_sem, ↓reduceIte])
 first | exact ⟨hB2.trans hB3, (), rfl, by simp [closed, closeds], trivial⟩ | exact ⟨(), rfl, by simp [closed, closeds], trivial⟩ | exact ⟨hB2.trans hB3, (), by simp [closed, closeds], trivial⟩ | exact ⟨(), by simp [closed, closeds], trivial⟩ | exact ⟨hB2.trans hB3, (), by simp [closed, closeds, bytes_any]⟩ | exact ⟨(), by simp [closed, closeds, bytes_any]⟩
end Go.Proofs.Ytepabkjfnpaijaa
