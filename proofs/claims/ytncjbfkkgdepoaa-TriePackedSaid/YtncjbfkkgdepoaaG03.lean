/- Part of a proof over the seat Ytncjbfkkgdepoaa. -/
import Derived.Test.YtncjbfkkgdepoaaG02
set_option linter.unusedSimpArgs false
set_option linter.unusedVariables false
set_option maxRecDepth 100000
namespace Go.Proofs.Ytncjbfkkgdepoaa
open Go RowKit Go.Ew
set_option maxHeartbeats 4000000
theorem Df6 : C5 Try.f59.ntmps (Try.f59.body.getD .skip) = true := by kernel_rfl
/-- The cells of the rounds' tables. -/
def Ai0 : List Value := Ar6 .i64 (O2 24) 25 ++ Ar6 .u64 (fL (rcF 168)) 24
def RoundsAt (B : Base) (b : Nat) : Prop := B.D b ∧ ∀ j, j < 49 → B.w.cell? ⟨b, j, none⟩ = Ai0[j]?
theorem RoundsAt.ext {B B' : Base} {b : Nat} (h : RoundsAt B b) (k : BExt B B') : RoundsAt B' b := ⟨k.D b h.1, fun j hj => by rw [k.cell (a := ⟨b, j, none⟩) h.1]; exact h.2 j hj⟩
theorem RoundsAt.turn {B : Base} {b : Nat} (h : RoundsAt B b) (i : Nat) (hi : i < 25) : F5 B ⟨b, i, none⟩ = .int .i64 (trn i : Nat) ∧ (B.w.cell? ⟨b, i, none⟩).isSome = true := by
 have e := h.2 i (by omega)
 have e2 : Ai0[i]? = some (.int .i64 (trn i : Nat)) := by
  unfold Ai0
  rw [List.getElem?_append_left (by rw [Aj0]; omega)]
  unfold Ar6
  rw [List.getElem?_map, List.getElem?_range hi, Option.map_some, (Bo2 hi).1]
 rw [e2] at e
 exact ⟨by simp only [F5, e, Option.getD_some, C9], by rw [e]; rfl⟩
theorem RoundsAt.round {B : Base} {b : Nat} (h : RoundsAt B b) (i : Nat) (hi : i < 24) : F5 B ⟨b, 25 + i, none⟩ = .int .u64 (n64 (rcF 168 i)) ∧ (B.w.cell? ⟨b, 25 + i, none⟩).isSome = true := by
 have e := h.2 (25 + i) (by omega)
 have e2 : Ai0[25 + i]? = some (.int .u64 (n64 (rcF 168 i))) := by
  unfold Ai0
  rw [List.getElem?_append_right (by rw [Aj0]; omega), Aj0]
  unfold Ar6
  rw [List.getElem?_map, show 25 + i - 25 = i by omega, List.getElem?_range hi]; rfl
 rw [e2] at e
 exact ⟨by simp only [F5, e, Option.getD_some, C9], by rw [e]; rfl⟩
theorem Cn7 (a : Nat → L64) : thA a 0 0 = a := funext fun i => By6 a i
theorem Bz8 (a b : Nat → L64) : rpB a b 0 0 = b := funext fun i => Bz7 a b i
theorem Cr6 (b a : Nat → L64) : chA b a 0 0 = a := funext fun i => Cc5 b a i
theorem Bl1 (a : Nat → L64) (B : Base) (b : Nat) (h : RoundsAt B b) :
  Does Try.prog 59 [.raw (.pointer (some ⟨b, 0, none⟩)), .agg (C8 .u64 (fL a) 25)] B (fun _ : Unit => .agg (C8 .u64 (fL (U0 a 24)) 25)) (fun _ _ => True) := by
 refine J9 Di9 (fun s B B' hB hR => hR) Try.func59 rfl Df6 (by simp [Try.f59]) (by simp [A0, closed, A2]) (fun B0 hB0 => A3 1000 ?_)
 replace h := h.ext hB0
 simp (maxSteps := 4000000) (disch := omega) only [go_sem, ↓reduceIte, Try.f59]
 repeat (with_reducible refine And.intro (by omega) ?_)
 refine G1 (S := Nat × (Nat → L64) × (Nat → L64)) (fun s => s.1 ≤ 24)
  (fun s => ⟨[(16, .int .i64 (s.1 : Nat)), (6, .ptr 3 0), (5, .ptr 2 0), (4, .ptr 1 0), (3, .ptr 0 0), (0, .raw (.pointer (some ⟨b, 0, none⟩)))], 4, [(3, some (.cells (C8 .u64 (fL s.2.2) 5) 173 (0, 0))), (2, some (.cells (C8 .u64 (fL s.2.1) 25) 133 (0, 0))), (1, some (.cells (C8 .u64 (fun _ => 0) 25) 133 (0, 0))), (0, some (.cells (C8 .u64 (fL (U0 a s.1)) 25) 133 (0, 0)))], B0, []⟩)
  (fun s => 24 - s.1) (0, (fun _ => 0#64), (fun _ => 0#64)) (by simp) (Weak.sub (A5 (by simp [wσ, go_sem, closed, A0, fL0, U0, A2]) (by simp [whs, go_sem, EObj.closed, closed, A0, fL0, U0, A2]) (by simp [*]) rfl rfl (by simp))) ?_
 rintro ⟨k, b0, c0⟩ hk
 simp only at hk
 refine A3 1000 ?_
 simp (maxSteps := 4000000) (disch := omega) only [go_sem, ↓reduceIte]
 repeat (with_reducible refine And.intro (by omega) ?_)
 refine A6 (fun h1 => ?_) (fun h1 => ?_)
 all_goals (try simp only [bne_iff_ne, ne_eq, beq_iff_eq, decide_eq_true_eq, decide_eq_false_iff_not, Bool.not_eq_true, Bool.not_eq_false, Bool.not_true, Bool.not_false, bne_eq_false_iff_eq, beq_eq_false_iff_ne, Bool.and_eq_true, Bool.or_eq_true, Bool.and_eq_false_imp, Bool.or_eq_false_iff, Bool.not_eq_true', Bool.not_eq_false', Int.not_lt, Int.not_le] at h1)
 ·generalize hA : U0 a k = A
  simp (maxSteps := 4000000) (disch := omega) only [go_sem, ↓reduceIte]
  repeat (with_reducible refine And.intro (by omega) ?_)
  refine G1 (S := Nat × (Nat → L64)) (fun s => s.1 ≤ 5 ∧ ∀ j, j < s.1 → s.2 j = thC A j)
   (fun s => ⟨[(19, .int .i64 (s.1 : Nat)), (7, .int .i64 (k : Nat)), (16, .int .i64 (k : Nat)), (6, .ptr 3 0), (5, .ptr 2 0), (4, .ptr 1 0), (3, .ptr 0 0), (0, .raw (.pointer (some ⟨b, 0, none⟩)))], 4, [(3, some (.cells (C8 .u64 (fL s.2) 5) 173 (0, 0))), (2, some (.cells (C8 .u64 (fL b0) 25) 133 (0, 0))), (1, some (.cells (C8 .u64 (fun _ => 0) 25) 133 (0, 0))), (0, some (.cells (C8 .u64 (fL A) 25) 133 (0, 0)))], B0, []⟩)
   (fun s => 5 - s.1) (0, c0) ⟨by simp, fun j hj => absurd hj (Nat.not_lt_zero j)⟩ (Weak.sub (A5 (by simp [wσ, go_sem, closed, A0, hA, A2]) (by simp [whs, go_sem, EObj.closed, closed, A0, hA, A2]) (by simp [*]) rfl rfl (by simp))) ?_
  rintro ⟨x, c⟩ ⟨hx, hc⟩
  simp only at hx hc
  refine A3 1000 ?_
  simp (maxSteps := 4000000) (disch := omega) only [go_sem, ↓reduceIte]
  repeat (with_reducible refine And.intro (by omega) ?_)
  refine A6 (fun h2 => ?_) (fun h2 => ?_)
  all_goals (try simp only [bne_iff_ne, ne_eq, beq_iff_eq, decide_eq_true_eq, decide_eq_false_iff_not, Bool.not_eq_true, Bool.not_eq_false, Bool.not_true, Bool.not_false, bne_eq_false_iff_eq, beq_eq_false_iff_ne, Bool.and_eq_true, Bool.or_eq_true, Bool.and_eq_false_imp, Bool.or_eq_false_iff, Bool.not_eq_true', Bool.not_eq_false', Int.not_lt, Int.not_le] at h2)
  ·have t5 : ((x : Int) + 5).toNat = x + 5 := by omega
   have t10 : ((x : Int) + 10).toNat = x + 10 := by omega
   have t15 : ((x : Int) + 15).toNat = x + 15 := by omega
   have t20 : ((x : Int) + 20).toNat = x + 20 := by omega
   repeat' (first | with_reducible refine And.intro (by omega) ?_ | simp (maxSteps := 4000000) (disch := omega) only [go_sem, ↓reduceIte, Int.toNat_natCast, t5, t10, t15, t20, Y1, Ah1, S4] | with_reducible refine L7 mixed (by kernel_rfl) (Ac0 1000 ?_) | with_reducible refine P6 (by kernel_rfl) (A3 1000 ?_))
   refine ⟨(x + 1, Y4 c x (thC A x)), ⟨by simp only; omega, fun j hj => ?_⟩, Weak.sub (A5 (by simp [wσ, go_sem, closed, A0, A4, A2, thC] <;> omega) (by simp [whs, Go.Ew.hget, go_sem, EObj.closed, closed, A0, A4, A2, thC]) (by first | (simp [*]; done) | (simp only [cxG]; omega)) rfl rfl (by simp)), by simp only; omega⟩
   simp only [Y4]
   split
   ·rename_i e; rw [e]
   ·exact hc j (by simp only at hj; omega)
  ·obtain rfl : x = 5 := by omega
   clear hx h2
   refine A3 1000 ?_
   repeat' (simp (maxSteps := 4000000) (disch := omega) only [go_sem, ↓reduceIte, Int.toNat_natCast])
   -- theta
   refine G1 (S := Nat) (fun x => x ≤ 5)
    (fun x => ⟨[(48, .int .i64 (x : Nat)), (7, .int .i64 (k : Nat)), (16, .int .i64 (k : Nat)), (6, .ptr 3 0), (5, .ptr 2 0), (4, .ptr 1 0), (3, .ptr 0 0), (0, .raw (.pointer (some ⟨b, 0, none⟩)))], 4, [(3, some (.cells (C8 .u64 (fL c) 5) 173 (0, 0))), (2, some (.cells (C8 .u64 (fL b0) 25) 133 (0, 0))), (1, some (.cells (C8 .u64 (fun _ => 0) 25) 133 (0, 0))), (0, some (.cells (C8 .u64 (fL (thA A x 0)) 25) 133 (0, 0)))], B0, []⟩)
    (fun x => 5 - x) 0 (by simp) (Weak.sub (A5 (by simp [wσ, go_sem, closed, A0, Cn7, A2]) (by simp [whs, go_sem, EObj.closed, closed, A0, Cn7, A2]) (by simp [*]) rfl rfl (by simp))) ?_
   intro x hx
   refine A3 1000 ?_
   simp (maxSteps := 4000000) (disch := omega) only [go_sem, ↓reduceIte]
   repeat (with_reducible refine And.intro (by omega) ?_)
   refine A6 (fun h2 => ?_) (fun h2 => ?_)
   all_goals (try simp only [bne_iff_ne, ne_eq, beq_iff_eq, decide_eq_true_eq, decide_eq_false_iff_not, Bool.not_eq_true, Bool.not_eq_false, Bool.not_true, Bool.not_false, bne_eq_false_iff_eq, beq_eq_false_iff_ne, Bool.and_eq_true, Bool.or_eq_true, Bool.and_eq_false_imp, Bool.or_eq_false_iff, Bool.not_eq_true', Bool.not_eq_false', Int.not_lt, Int.not_le] at h2)
   ·have t1 : (((x : Int) + 1) % 5).toNat = (x + 1) % 5 := by omega
    have t4 : (((x : Int) + 4) % 5).toNat = (x + 4) % 5 := by omega
    have hD : thC A ((x + 4) % 5) ^^^ rot (thC A ((x + 1) % 5)) 1 = thD A x := rfl
    have hc1 := hc ((x + 1) % 5) (by omega)
    have hc4 := hc ((x + 4) % 5) (by omega)
    repeat' (first | with_reducible refine And.intro (by omega) ?_ | simp (maxSteps := 4000000) (disch := omega) only [go_sem, ↓reduceIte, Int.toNat_natCast, t1, t4, Y1, hc1, hc4, Ah1, hD] | with_reducible refine L7 mixed (by kernel_rfl) (Ac0 1000 ?_) | with_reducible refine P6 (by kernel_rfl) (A3 1000 ?_) | refine Be1 (Ce4 _ 1 (by omega)) (Ac0 1000 ?_))
    refine G1 (S := Nat) (fun y => y ≤ 5)
     (fun y => ⟨[(63, .int .i64 (y : Nat)), (10, .int .u64 (n64 (thD A x))), (9, .int .i64 (x : Nat)), (48, .int .i64 (x : Nat)), (7, .int .i64 (k : Nat)), (16, .int .i64 (k : Nat)), (6, .ptr 3 0), (5, .ptr 2 0), (4, .ptr 1 0), (3, .ptr 0 0), (0, .raw (.pointer (some ⟨b, 0, none⟩)))], 4, [(3, some (.cells (C8 .u64 (fL c) 5) 173 (0, 0))), (2, some (.cells (C8 .u64 (fL b0) 25) 133 (0, 0))), (1, some (.cells (C8 .u64 (fun _ => 0) 25) 133 (0, 0))), (0, some (.cells (C8 .u64 (fL (thA A x y)) 25) 133 (0, 0)))], B0, []⟩)
     (fun y => 5 - y) 0 (by simp) (Weak.sub (A5 (by simp [wσ, go_sem, closed, A0, A2]) (by simp [whs, go_sem, EObj.closed, closed, A0, A2]) (by simp [*]) rfl rfl (by simp))) ?_
    intro y hy
    refine A3 1000 ?_
    simp (maxSteps := 4000000) (disch := omega) only [go_sem, ↓reduceIte]
    repeat (with_reducible refine And.intro (by omega) ?_)
    refine A6 (fun h3 => ?_) (fun h3 => ?_)
    all_goals (try simp only [bne_iff_ne, ne_eq, beq_iff_eq, decide_eq_true_eq, decide_eq_false_iff_not, Bool.not_eq_true, Bool.not_eq_false, Bool.not_true, Bool.not_false, bne_eq_false_iff_eq, beq_eq_false_iff_ne, Bool.and_eq_true, Bool.or_eq_true, Bool.and_eq_false_imp, Bool.or_eq_false_iff, Bool.not_eq_true', Bool.not_eq_false', Int.not_lt, Int.not_le] at h3)
    ·have t7 : ((x : Int) + 5 * (y : Int)).toNat = x + 5 * y := by omega
     repeat' (first | with_reducible refine And.intro (by omega) ?_ | simp (maxSteps := 4000000) (disch := omega) only [go_sem, ↓reduceIte, Int.toNat_natCast, t7, Y1, Ah1, S4, By7 A (show x < 5 by omega)])
     exact ⟨y + 1, by omega, Weak.sub (A5 (by simp [wσ, go_sem, closed, A0, A4, A2] <;> omega) (by simp [whs, Go.Ew.hget, go_sem, EObj.closed, closed, A0, A4, A2]) (by first | (simp [*]; done) | (simp only [cxG]; omega)) rfl rfl (by simp)), by omega⟩
    ·obtain rfl : y = 5 := by omega
     refine A3 1000 ?_
     repeat' (simp (maxSteps := 4000000) (disch := omega) only [go_sem, ↓reduceIte, Int.toNat_natCast])
     exact ⟨x + 1, by omega, Weak.sub (A5 (by simp [wσ, go_sem, closed, A0, A4, K5 (fun i hi => Bo4 A x hi), A2] <;> omega) (by simp [whs, Go.Ew.hget, go_sem, EObj.closed, closed, A0, A4, K5 (fun i hi => Bo4 A x hi), A2]) (by first | (simp [*]; done) | (simp only [cxG]; omega)) rfl rfl (by simp)), by omega⟩
   ·obtain rfl : x = 5 := by omega
    clear hx h2
    refine A3 1000 ?_
    repeat' (simp (maxSteps := 4000000) (disch := omega) only [go_sem, ↓reduceIte, Int.toNat_natCast])
    obtain ⟨A1, hA1⟩ : ∃ A1, A1 = thA A 5 0 := ⟨_, rfl⟩
    simp only [← hA1]
    -- rho, pi
    refine G1 (S := Nat) (fun x => x ≤ 5)
     (fun x => ⟨[(77, .int .i64 (x : Nat)), (7, .int .i64 (k : Nat)), (16, .int .i64 (k : Nat)), (6, .ptr 3 0), (5, .ptr 2 0), (4, .ptr 1 0), (3, .ptr 0 0), (0, .raw (.pointer (some ⟨b, 0, none⟩)))], 4, [(3, some (.cells (C8 .u64 (fL c) 5) 173 (0, 0))), (2, some (.cells (C8 .u64 (fL (rpB A1 b0 x 0)) 25) 133 (0, 0))), (1, some (.cells (C8 .u64 (fun _ => 0) 25) 133 (0, 0))), (0, some (.cells (C8 .u64 (fL A1) 25) 133 (0, 0)))], B0, []⟩)
     (fun x => 5 - x) 0 (by simp) (Weak.sub (A5 (by simp [wσ, go_sem, closed, A0, Bz8, A2]) (by simp [whs, go_sem, EObj.closed, closed, A0, Bz8, A2]) (by simp [*]) rfl rfl (by simp))) ?_
    intro x hx
    refine A3 1000 ?_
    simp (maxSteps := 4000000) (disch := omega) only [go_sem, ↓reduceIte]
    repeat (with_reducible refine And.intro (by omega) ?_)
    refine A6 (fun h2 => ?_) (fun h2 => ?_)
    all_goals (try simp only [bne_iff_ne, ne_eq, beq_iff_eq, decide_eq_true_eq, decide_eq_false_iff_not, Bool.not_eq_true, Bool.not_eq_false, Bool.not_true, Bool.not_false, bne_eq_false_iff_eq, beq_eq_false_iff_ne, Bool.and_eq_true, Bool.or_eq_true, Bool.and_eq_false_imp, Bool.or_eq_false_iff, Bool.not_eq_true', Bool.not_eq_false', Int.not_lt, Int.not_le] at h2)
    ·repeat' (simp (maxSteps := 4000000) (disch := omega) only [go_sem, ↓reduceIte, Int.toNat_natCast])
     refine G1 (S := Nat) (fun y => y ≤ 5)
      (fun y => ⟨[(80, .int .i64 (y : Nat)), (12, .int .i64 (x : Nat)), (77, .int .i64 (x : Nat)), (7, .int .i64 (k : Nat)), (16, .int .i64 (k : Nat)), (6, .ptr 3 0), (5, .ptr 2 0), (4, .ptr 1 0), (3, .ptr 0 0), (0, .raw (.pointer (some ⟨b, 0, none⟩)))], 4, [(3, some (.cells (C8 .u64 (fL c) 5) 173 (0, 0))), (2, some (.cells (C8 .u64 (fL (rpB A1 b0 x y)) 25) 133 (0, 0))), (1, some (.cells (C8 .u64 (fun _ => 0) 25) 133 (0, 0))), (0, some (.cells (C8 .u64 (fL A1) 25) 133 (0, 0)))], B0, []⟩)
      (fun y => 5 - y) 0 (by simp) (Weak.sub (A5 (by simp [wσ, go_sem, closed, A0, A2]) (by simp [whs, go_sem, EObj.closed, closed, A0, A2]) (by simp [*]) rfl rfl (by simp))) ?_
     intro y hy
     refine A3 1000 ?_
     simp (maxSteps := 4000000) (disch := omega) only [go_sem, ↓reduceIte]
     repeat (with_reducible refine And.intro (by omega) ?_)
     refine A6 (fun h3 => ?_) (fun h3 => ?_)
     all_goals (try simp only [bne_iff_ne, ne_eq, beq_iff_eq, decide_eq_true_eq, decide_eq_false_iff_not, Bool.not_eq_true, Bool.not_eq_false, Bool.not_true, Bool.not_false, bne_eq_false_iff_eq, beq_eq_false_iff_ne, Bool.and_eq_true, Bool.or_eq_true, Bool.and_eq_false_imp, Bool.or_eq_false_iff, Bool.not_eq_true', Bool.not_eq_false', Int.not_lt, Int.not_le] at h3)
     ·have t7 : ((x : Int) + 5 * (y : Int)).toNat = x + 5 * y := by omega
      have t8 : ((y : Int) + 5 * ((2 * (x : Int) + 3 * (y : Int)) % 5)).toNat = y + 5 * ((2 * x + 3 * y) % 5) := by
       have q : ((2 * (x : Int) + 3 * (y : Int)) % 5) = (((2 * x + 3 * y) % 5 : Nat) : Int) := by push_cast; rfl
       rw [q]; omega
      obtain ⟨r1, r2⟩ := h.turn (x + 5 * y) (by omega)
      have eC : C8 .u64 (fL (Y4 (rpB A1 b0 x y) (y + 5 * ((2 * x + 3 * y) % 5)) (rot (A1 (x + 5 * y)) (trn (x + 5 * y))))) 25 = C8 .u64 (fL (rpB A1 b0 x (y + 1))) 25 := K5 (fun i hi => Bf7 A1 b0 (show x < 5 by omega) (show y < 5 by omega) hi)
      repeat' (first | with_reducible refine And.intro (by omega) ?_ | simp (maxSteps := 4000000) (disch := omega) only [go_sem, ↓reduceIte, Int.toNat_natCast, t7, t8, Y1, r1, r2, h.1, S4, eC] | with_reducible refine L7 mixed (by kernel_rfl) (Ac0 1000 ?_) | with_reducible refine P6 (by kernel_rfl) (A3 1000 ?_) | refine Be1 (Ce4 _ _ (Bo2 (by omega)).2) (Ac0 1000 ?_))
      exact ⟨y + 1, by omega, Weak.sub (A5 (by simp [wσ, go_sem, closed, A0, A4, A2] <;> omega) (by simp [whs, Go.Ew.hget, go_sem, EObj.closed, closed, A0, A4, A2]) (by first | (simp [*]; done) | (simp only [cxG]; omega)) rfl rfl (by simp)), by omega⟩
     ·obtain rfl : y = 5 := by omega
      refine A3 1000 ?_
      repeat' (simp (maxSteps := 4000000) (disch := omega) only [go_sem, ↓reduceIte, Int.toNat_natCast])
      exact ⟨x + 1, by omega, Weak.sub (A5 (by simp [wσ, go_sem, closed, A0, A4, K5 (fun i hi => Aq7 A1 b0 x i), A2] <;> omega) (by simp [whs, Go.Ew.hget, go_sem, EObj.closed, closed, A0, A4, K5 (fun i hi => Aq7 A1 b0 x i), A2]) (by first | (simp [*]; done) | (simp only [cxG]; omega)) rfl rfl (by simp)), by omega⟩
    ·obtain rfl : x = 5 := by omega
     clear hx h2
     refine A3 1000 ?_
     repeat' (simp (maxSteps := 4000000) (disch := omega) only [go_sem, ↓reduceIte, Int.toNat_natCast])
     obtain ⟨B1, hB1⟩ : ∃ B1, B1 = rpB A1 b0 5 0 := ⟨_, rfl⟩
     simp only [← hB1]
     -- chi
     refine G1 (S := Nat) (fun y => y ≤ 5)
      (fun y => ⟨[(111, .int .i64 (y : Nat)), (7, .int .i64 (k : Nat)), (16, .int .i64 (k : Nat)), (6, .ptr 3 0), (5, .ptr 2 0), (4, .ptr 1 0), (3, .ptr 0 0), (0, .raw (.pointer (some ⟨b, 0, none⟩)))], 4, [(3, some (.cells (C8 .u64 (fL c) 5) 173 (0, 0))), (2, some (.cells (C8 .u64 (fL B1) 25) 133 (0, 0))), (1, some (.cells (C8 .u64 (fun _ => 0) 25) 133 (0, 0))), (0, some (.cells (C8 .u64 (fL (chA B1 A1 0 y)) 25) 133 (0, 0)))], B0, []⟩)
      (fun y => 5 - y) 0 (by simp) (Weak.sub (A5 (by simp [wσ, go_sem, closed, A0, Cr6, A2]) (by simp [whs, go_sem, EObj.closed, closed, A0, Cr6, A2]) (by simp [*]) rfl rfl (by simp))) ?_
     intro y hy
     refine A3 1000 ?_
     simp (maxSteps := 4000000) (disch := omega) only [go_sem, ↓reduceIte]
     repeat (with_reducible refine And.intro (by omega) ?_)
     refine A6 (fun h2 => ?_) (fun h2 => ?_)
     all_goals (try simp only [bne_iff_ne, ne_eq, beq_iff_eq, decide_eq_true_eq, decide_eq_false_iff_not, Bool.not_eq_true, Bool.not_eq_false, Bool.not_true, Bool.not_false, bne_eq_false_iff_eq, beq_eq_false_iff_ne, Bool.and_eq_true, Bool.or_eq_true, Bool.and_eq_false_imp, Bool.or_eq_false_iff, Bool.not_eq_true', Bool.not_eq_false', Int.not_lt, Int.not_le] at h2)
     ·repeat' (simp (maxSteps := 4000000) (disch := omega) only [go_sem, ↓reduceIte, Int.toNat_natCast])
      refine G1 (S := Nat) (fun x => x ≤ 5)
       (fun x => ⟨[(114, .int .i64 (x : Nat)), (14, .int .i64 (y : Nat)), (111, .int .i64 (y : Nat)), (7, .int .i64 (k : Nat)), (16, .int .i64 (k : Nat)), (6, .ptr 3 0), (5, .ptr 2 0), (4, .ptr 1 0), (3, .ptr 0 0), (0, .raw (.pointer (some ⟨b, 0, none⟩)))], 4, [(3, some (.cells (C8 .u64 (fL c) 5) 173 (0, 0))), (2, some (.cells (C8 .u64 (fL B1) 25) 133 (0, 0))), (1, some (.cells (C8 .u64 (fun _ => 0) 25) 133 (0, 0))), (0, some (.cells (C8 .u64 (fL (chA B1 A1 x y)) 25) 133 (0, 0)))], B0, []⟩)
       (fun x => 5 - x) 0 (by simp) (Weak.sub (A5 (by simp [wσ, go_sem, closed, A0, A2]) (by simp [whs, go_sem, EObj.closed, closed, A0, A2]) (by simp [*]) rfl rfl (by simp))) ?_
      intro x hx
      refine A3 1000 ?_
      simp (maxSteps := 4000000) (disch := omega) only [go_sem, ↓reduceIte]
      repeat (with_reducible refine And.intro (by omega) ?_)
      refine A6 (fun h3 => ?_) (fun h3 => ?_)
      all_goals (try simp only [bne_iff_ne, ne_eq, beq_iff_eq, decide_eq_true_eq, decide_eq_false_iff_not, Bool.not_eq_true, Bool.not_eq_false, Bool.not_true, Bool.not_false, bne_eq_false_iff_eq, beq_eq_false_iff_ne, Bool.and_eq_true, Bool.or_eq_true, Bool.and_eq_false_imp, Bool.or_eq_false_iff, Bool.not_eq_true', Bool.not_eq_false', Int.not_lt, Int.not_le] at h3)
      ·have t7 : ((x : Int) + 5 * (y : Int)).toNat = x + 5 * y := by omega
       have t8 : (((x : Int) + 1) % 5 + 5 * (y : Int)).toNat = (x + 1) % 5 + 5 * y := by omega
       have t9 : (((x : Int) + 2) % 5 + 5 * (y : Int)).toNat = (x + 2) % 5 + 5 * y := by omega
       have eC : C8 .u64 (fL (Y4 (chA B1 A1 x y) (x + 5 * y) (B1 (x + 5 * y) ^^^ (~~~ B1 ((x + 1) % 5 + 5 * y) &&& B1 ((x + 2) % 5 + 5 * y))))) 25 = C8 .u64 (fL (chA B1 A1 (x + 1) y)) 25 := K5 (fun i hi => Cc6 B1 A1 (show x < 5 by omega))
       repeat' (first | with_reducible refine And.intro (by omega) ?_ | simp (maxSteps := 4000000) (disch := omega) only [go_sem, ↓reduceIte, Int.toNat_natCast, t7, t8, t9, Y1, Ah1, Cs5, Cj4, Cf1, S4, eC] | with_reducible refine L7 mixed (by kernel_rfl) (Ac0 1000 ?_) | with_reducible refine P6 (by kernel_rfl) (A3 1000 ?_))
       exact ⟨x + 1, by omega, Weak.sub (A5 (by simp [wσ, go_sem, closed, A0, A4, A2] <;> omega) (by simp [whs, Go.Ew.hget, go_sem, EObj.closed, closed, A0, A4, A2]) (by first | (simp [*]; done) | (simp only [cxG]; omega)) rfl rfl (by simp)), by omega⟩
      ·obtain rfl : x = 5 := by omega
       refine A3 1000 ?_
       repeat' (simp (maxSteps := 4000000) (disch := omega) only [go_sem, ↓reduceIte, Int.toNat_natCast])
       exact ⟨y + 1, by omega, Weak.sub (A5 (by simp [wσ, go_sem, closed, A0, A4, K5 (fun i hi => Bv2 B1 A1 y i), A2] <;> omega) (by simp [whs, Go.Ew.hget, go_sem, EObj.closed, closed, A0, A4, K5 (fun i hi => Bv2 B1 A1 y i), A2]) (by first | (simp [*]; done) | (simp only [cxG]; omega)) rfl rfl (by simp)), by omega⟩
     ·obtain rfl : y = 5 := by omega
      clear hy h2
      refine A3 1000 ?_
      obtain ⟨r1, r2⟩ := h.round k (by omega)
      repeat' (first | with_reducible refine And.intro (by omega) ?_ | simp (maxSteps := 4000000) (disch := omega) only [go_sem, ↓reduceIte, Int.toNat_natCast, Y1, r1, r2, h.1, Ah1, S4] | with_reducible refine L7 mixed (by kernel_rfl) (Ac0 1000 ?_) | with_reducible refine P6 (by kernel_rfl) (A3 1000 ?_))
      have eK : C8 .u64 (fL (Y4 (chA B1 A1 0 5) 0 (chA B1 A1 0 5 0 ^^^ rcF 168 k))) 25 = C8 .u64 (fL (U0 a (k + 1))) 25 := by
       have e1 : ∀ i, i < 25 → chA B1 A1 0 5 i = chV (rpV A1) i := fun i hi => by
        rw [Cl1 B1 A1 hi]
        exact Ay8 (fun j hj => by rw [hB1, Bp3]) hi
       refine K5 (fun i hi => ?_)
       simp only [U0, Af3, hA, ← hA1, Y4]
       split
       ·rw [e1 0 (by omega)]
       ·exact e1 i hi
      exact ⟨(k + 1, B1, c), by simp only; omega, Weak.sub (A5 (by simp [wσ, go_sem, closed, A0, A4, eK, A2] <;> omega) (by simp [whs, Go.Ew.hget, go_sem, EObj.closed, closed, A0, A4, eK, A2]) (by first | (simp [*]; done) | (simp only [cxG]; omega)) rfl rfl (by simp)), by simp only; omega⟩
 ·obtain rfl : k = 24 := by omega
  simp (maxSteps := 4000000) (disch := omega) only [go_sem, ↓reduceIte]
  repeat (with_reducible refine And.intro (by omega) ?_)
  refine A3 1000 ?_
  simp (maxSteps := 4000000) (disch := omega) only [go_sem, ↓reduceIte]
  repeat (with_reducible refine And.intro (by fail) ?_)
  exact ⟨BExt.refl _, (), by simp only [closed]; exact A2 _ _ _ _⟩
end Go.Proofs.Ytncjbfkkgdepoaa
namespace Go.Proofs.Ytncjbfkkgdepoaa
open Go RowKit Go.Ew
set_option maxHeartbeats 4000000
theorem Df3 : C5 Try.f76.ntmps (Try.f76.body.getD .skip) = true := by kernel_rfl
def chX (b a : Nat → L64) (x y : Nat) : Nat → L64 := fun i => if i % 5 < x ∨ (i % 5 = x ∧ i / 5 < y) then chV b i else a i
theorem Cc4 (b a : Nat → L64) {x y i : Nat} (hx : x < 5) : Y4 (chX b a x y) (x + 5 * y) (b (x + 5 * y) ^^^ (~~~ b ((x + 1) % 5 + 5 * y) &&& b ((x + 2) % 5 + 5 * y))) i = chX b a x (y + 1) i := by
 simp only [Y4, chX]
 by_cases h : i = x + 5 * y
 ·subst h
  rw [if_pos rfl, if_pos (by omega)]
  unfold chV
  rw [show (x + 5 * y) % 5 = x by omega, show (x + 5 * y) / 5 = y by omega]
 ·rw [if_neg h]
  by_cases h2 : i % 5 < x ∨ i % 5 = x ∧ i / 5 < y
  ·rw [if_pos h2, if_pos (by omega)]
  ·rw [if_neg h2, if_neg (by omega)]
theorem Bv1 (b a : Nat → L64) (x : Nat) {i : Nat} (hi : i < 25) : chX b a x 5 i = chX b a (x + 1) 0 i := by
 simp only [chX]
 by_cases h2 : i % 5 < x ∨ i % 5 = x ∧ i / 5 < 5
 ·rw [if_pos h2, if_pos (by omega)]
 ·rw [if_neg h2, if_neg (by omega)]
theorem Cl0 (b a : Nat → L64) (i : Nat) : chX b a 5 0 i = chV b i := by
 simp only [chX]; rw [if_pos (by omega)]
theorem Cr5 (b a : Nat → L64) : chX b a 0 0 = a := funext fun i => by simp only [chX]; rw [if_neg (by omega)]
theorem Av6 (a : Nat → L64) : Pure Try.prog 76 [.agg (C8 .u64 (fL a) 25)] (.agg (C8 .u64 (fL (U0 a 24)) 25)) := by
 refine V5 (args := [.agg (C8 .u64 (fL a) 25)]) Di6 (by simp [closed, A0, C4, A2]) Try.func76 rfl Df3 (by simp [Try.f76]) (by simp [A0, closed, C4, A2]) (fun w => A3 1000 ?_)
 simp (maxSteps := 4000000) (disch := omega) only [go_sem, ↓reduceIte, Try.f76]
 repeat (with_reducible refine And.intro (by fail) ?_)
 repeat' (first | simp (maxSteps := 4000000) (disch := omega) only [go_sem, ↓reduceIte] | refine R4 (Am0) (A3 1000 ?_) | refine R4 (Ch3) (A3 1000 ?_))
 refine G1 (S := Nat) (fun k => k ≤ 24)
  (fun k => ⟨[(5, .int .i64 (k : Nat)), (4, .ptr 3 0), (3, .ptr 2 0), (2, .ptr 1 0), (1, .ptr 0 0)], 4, [(3, some (.cells (C8 .i64 (O2 24) 25) 126 (0, 0))), (2, some (.cells (C8 .u64 (fL (rcF 168)) 24) 129 (0, 0))), (1, some (.cells (C8 .u64 (fun _ => 0) 25) 133 (0, 0))), (0, some (.cells (C8 .u64 (fL (U0 a k)) 25) 133 (0, 0)))], base w, []⟩)
  (fun k => 24 - k) 0 (by simp) (Weak.sub (A5 (by simp [wσ, go_sem, closed, A0, U0, A2]) (by simp [whs, go_sem, EObj.closed, closed, A0, U0, A2]) (by simp [*]) rfl rfl (by simp))) ?_
 intro k hk
 refine A3 1000 ?_
 simp (maxSteps := 4000000) (disch := omega) only [go_sem, ↓reduceIte]
 repeat (with_reducible refine And.intro (by omega) ?_)
 refine A6 (fun h1 => ?_) (fun h1 => ?_)
 all_goals (try simp only [bne_iff_ne, ne_eq, beq_iff_eq, decide_eq_true_eq, decide_eq_false_iff_not, Bool.not_eq_true, Bool.not_eq_false, Bool.not_true, Bool.not_false, bne_eq_false_iff_eq, beq_eq_false_iff_ne, Bool.and_eq_true, Bool.or_eq_true, Bool.and_eq_false_imp, Bool.or_eq_false_iff, Bool.not_eq_true', Bool.not_eq_false', Int.not_lt, Int.not_le] at h1)
 ·generalize hA : U0 a k = A
  simp (maxSteps := 4000000) (disch := omega) only [go_sem, ↓reduceIte]
  repeat (with_reducible refine And.intro (by omega) ?_)
  refine G1 (S := Nat × (Nat → L64)) (fun s => s.1 ≤ 5 ∧ ∀ j, j < s.1 → s.2 j = thC A j)
   (fun s => ⟨[(7, .int .i64 (s.1 : Nat)), (6, .ptr 4 0), (5, .int .i64 (k : Nat)), (4, .ptr 3 0), (3, .ptr 2 0), (2, .ptr 1 0), (1, .ptr 0 0)], 5, [(4, some (.cells (C8 .u64 (fL s.2) 5) 173 (0, 0))), (3, some (.cells (C8 .i64 (O2 24) 25) 126 (0, 0))), (2, some (.cells (C8 .u64 (fL (rcF 168)) 24) 129 (0, 0))), (1, some (.cells (C8 .u64 (fun _ => 0) 25) 133 (0, 0))), (0, some (.cells (C8 .u64 (fL A) 25) 133 (0, 0)))], base w, []⟩)
   (fun s => 5 - s.1) (0, fun _ => 0#64) ⟨by simp, fun j hj => absurd hj (Nat.not_lt_zero j)⟩ (Weak.sub (A5 (by simp [wσ, go_sem, closed, A0, hA, fL0, A2]) (by simp [whs, go_sem, EObj.closed, closed, A0, hA, fL0, A2]) (by simp [*]) rfl rfl (by simp))) ?_
  rintro ⟨x, c⟩ ⟨hx, hc⟩
  simp only at hx hc
  refine A3 1000 ?_
  simp (maxSteps := 4000000) (disch := omega) only [go_sem, ↓reduceIte]
  repeat (with_reducible refine And.intro (by omega) ?_)
  refine A6 (fun h2 => ?_) (fun h2 => ?_)
  all_goals (try simp only [bne_iff_ne, ne_eq, beq_iff_eq, decide_eq_true_eq, decide_eq_false_iff_not, Bool.not_eq_true, Bool.not_eq_false, Bool.not_true, Bool.not_false, bne_eq_false_iff_eq, beq_eq_false_iff_ne, Bool.and_eq_true, Bool.or_eq_true, Bool.and_eq_false_imp, Bool.or_eq_false_iff, Bool.not_eq_true', Bool.not_eq_false', Int.not_lt, Int.not_le] at h2)
  ·have t5 : ((x : Int) + 5).toNat = x + 5 := by omega
   have t10 : ((x : Int) + 10).toNat = x + 10 := by omega
   have t15 : ((x : Int) + 15).toNat = x + 15 := by omega
   have t20 : ((x : Int) + 20).toNat = x + 20 := by omega
   repeat' (first | with_reducible refine And.intro (by omega) ?_ | simp (maxSteps := 4000000) (disch := omega) only [go_sem, ↓reduceIte, Int.toNat_natCast, t5, t10, t15, t20, Y1, Ah1, S4] | with_reducible refine L7 mixed (by kernel_rfl) (Ac0 1000 ?_) | with_reducible refine P6 (by kernel_rfl) (A3 1000 ?_))
   refine ⟨(x + 1, Y4 c x (thC A x)), ⟨by simp only; omega, fun j hj => ?_⟩, Weak.sub (A5 (by simp [wσ, go_sem, closed, A0, A4, A2, thC] <;> omega) (by simp [whs, Go.Ew.hget, go_sem, EObj.closed, closed, A0, A4, A2, thC]) (by first | (simp [*]; done) | (simp only [cxG]; omega)) rfl rfl (by simp)), by simp only; omega⟩
   simp only [Y4]
   split
   ·rename_i e; rw [e]
   ·exact hc j (by simp only at hj; omega)
  ·obtain rfl : x = 5 := by omega
   clear hx h2
   refine A3 1000 ?_
   repeat' (simp (maxSteps := 4000000) (disch := omega) only [go_sem, ↓reduceIte, Int.toNat_natCast])
   obtain ⟨A1, hA1⟩ : ∃ A1, A1 = thA A 5 0 := ⟨_, rfl⟩
   -- theta, rho, pi
   refine G1 (S := Nat) (fun x => x ≤ 5)
    (fun x => ⟨[(9, .int .i64 (x : Nat)), (8, .ptr 5 0), (6, .ptr 4 0), (5, .int .i64 (k : Nat)), (4, .ptr 3 0), (3, .ptr 2 0), (2, .ptr 1 0), (1, .ptr 0 0)], 6, [(5, some (.cells (C8 .u64 (fL (rpB A1 (fun _ => 0#64) x 0)) 25) 133 (0, 0))), (4, some (.cells (C8 .u64 (fL c) 5) 173 (0, 0))), (3, some (.cells (C8 .i64 (O2 24) 25) 126 (0, 0))), (2, some (.cells (C8 .u64 (fL (rcF 168)) 24) 129 (0, 0))), (1, some (.cells (C8 .u64 (fun _ => 0) 25) 133 (0, 0))), (0, some (.cells (C8 .u64 (fL A) 25) 133 (0, 0)))], base w, []⟩)
    (fun x => 5 - x) 0 (by simp) (Weak.sub (A5 (by simp [wσ, go_sem, closed, A0, Bz8, fL0, A2]) (by simp [whs, go_sem, EObj.closed, closed, A0, Bz8, fL0, A2]) (by simp [*]) rfl rfl (by simp))) ?_
   intro x hx
   refine A3 1000 ?_
   simp (maxSteps := 4000000) (disch := omega) only [go_sem, ↓reduceIte]
   repeat (with_reducible refine And.intro (by omega) ?_)
   refine A6 (fun h2 => ?_) (fun h2 => ?_)
   all_goals (try simp only [bne_iff_ne, ne_eq, beq_iff_eq, decide_eq_true_eq, decide_eq_false_iff_not, Bool.not_eq_true, Bool.not_eq_false, Bool.not_true, Bool.not_false, bne_eq_false_iff_eq, beq_eq_false_iff_ne, Bool.and_eq_true, Bool.or_eq_true, Bool.and_eq_false_imp, Bool.or_eq_false_iff, Bool.not_eq_true', Bool.not_eq_false', Int.not_lt, Int.not_le] at h2)
   ·repeat' (simp (maxSteps := 4000000) (disch := omega) only [go_sem, ↓reduceIte, Int.toNat_natCast])
    refine G1 (S := Nat) (fun y => y ≤ 5)
     (fun y => ⟨[(10, .int .i64 (y : Nat)), (9, .int .i64 (x : Nat)), (8, .ptr 5 0), (6, .ptr 4 0), (5, .int .i64 (k : Nat)), (4, .ptr 3 0), (3, .ptr 2 0), (2, .ptr 1 0), (1, .ptr 0 0)], 6, [(5, some (.cells (C8 .u64 (fL (rpB A1 (fun _ => 0#64) x y)) 25) 133 (0, 0))), (4, some (.cells (C8 .u64 (fL c) 5) 173 (0, 0))), (3, some (.cells (C8 .i64 (O2 24) 25) 126 (0, 0))), (2, some (.cells (C8 .u64 (fL (rcF 168)) 24) 129 (0, 0))), (1, some (.cells (C8 .u64 (fun _ => 0) 25) 133 (0, 0))), (0, some (.cells (C8 .u64 (fL A) 25) 133 (0, 0)))], base w, []⟩)
     (fun y => 5 - y) 0 (by simp) (Weak.sub (A5 (by simp [wσ, go_sem, closed, A0, A2]) (by simp [whs, go_sem, EObj.closed, closed, A0, A2]) (by simp [*]) rfl rfl (by simp))) ?_
    intro y hy
    refine A3 1000 ?_
    simp (maxSteps := 4000000) (disch := omega) only [go_sem, ↓reduceIte]
    repeat (with_reducible refine And.intro (by omega) ?_)
    refine A6 (fun h3 => ?_) (fun h3 => ?_)
    all_goals (try simp only [bne_iff_ne, ne_eq, beq_iff_eq, decide_eq_true_eq, decide_eq_false_iff_not, Bool.not_eq_true, Bool.not_eq_false, Bool.not_true, Bool.not_false, bne_eq_false_iff_eq, beq_eq_false_iff_ne, Bool.and_eq_true, Bool.or_eq_true, Bool.and_eq_false_imp, Bool.or_eq_false_iff, Bool.not_eq_true', Bool.not_eq_false', Int.not_lt, Int.not_le] at h3)
    ·have t1 : (((x : Int) + 1) % 5).toNat = (x + 1) % 5 := by omega
     have t4 : (((x : Int) + 4) % 5).toNat = (x + 4) % 5 := by omega
     have t7 : ((x : Int) + 5 * (y : Int)).toNat = x + 5 * y := by omega
     have t8 : ((y : Int) + 5 * ((2 * (x : Int) + 3 * (y : Int)) % 5)).toNat = y + 5 * ((2 * x + 3 * y) % 5) := by
      have q : ((2 * (x : Int) + 3 * (y : Int)) % 5) = (((2 * x + 3 * y) % 5 : Nat) : Int) := by push_cast; rfl
      rw [q]; omega
     have hc1 := hc ((x + 1) % 5) (by omega)
     have hc4 := hc ((x + 4) % 5) (by omega)
     have eV : A (x + 5 * y) ^^^ thC A ((x + 4) % 5) ^^^ rot (thC A ((x + 1) % 5)) 1 = A1 (x + 5 * y) := by
      rw [hA1]
      simp only [thA]
      rw [if_pos (by omega), show (x + 5 * y) % 5 = x by omega, BitVec.xor_assoc]; rfl
     have eT := Bo2 (show x + 5 * y < 25 by omega)
     have eC : C8 .u64 (fL (Y4 (rpB A1 (fun _ => 0#64) x y) (y + 5 * ((2 * x + 3 * y) % 5)) (rot (A1 (x + 5 * y)) (trn (x + 5 * y))))) 25 = C8 .u64 (fL (rpB A1 (fun _ => 0#64) x (y + 1))) 25 := K5 (fun i hi => Bf7 A1 _ (show x < 5 by omega) (show y < 5 by omega) hi)
     repeat' (first | with_reducible refine And.intro (by omega) ?_ | simp (maxSteps := 4000000) (disch := omega) only [go_sem, ↓reduceIte, Int.toNat_natCast, t1, t4, t7, t8, Y1, hc1, hc4, Ah1, eV, eT.1, S4, eC] | with_reducible refine L7 mixed (by kernel_rfl) (Ac0 1000 ?_) | with_reducible refine P6 (by kernel_rfl) (A3 1000 ?_) | refine Be1 (Cf3 _ 1 (by omega)) (Ac0 1000 ?_) | refine R4 (Cf3 _ _ eT.2) (A3 1000 ?_))
     exact ⟨y + 1, by omega, Weak.sub (A5 (by simp [wσ, go_sem, closed, A0, A4, A2] <;> omega) (by simp [whs, Go.Ew.hget, go_sem, EObj.closed, closed, A0, A4, A2]) (by first | (simp [*]; done) | (simp only [cxG]; omega)) rfl rfl (by simp)), by omega⟩
    ·obtain rfl : y = 5 := by omega
     refine A3 1000 ?_
     repeat' (simp (maxSteps := 4000000) (disch := omega) only [go_sem, ↓reduceIte, Int.toNat_natCast])
     exact ⟨x + 1, by omega, Weak.sub (A5 (by simp [wσ, go_sem, closed, A0, A4, K5 (fun i hi => Aq7 A1 (fun _ => 0#64) x i), A2] <;> omega) (by simp [whs, Go.Ew.hget, go_sem, EObj.closed, closed, A0, A4, K5 (fun i hi => Aq7 A1 (fun _ => 0#64) x i), A2]) (by first | (simp [*]; done) | (simp only [cxG]; omega)) rfl rfl (by simp)), by omega⟩
   ·obtain rfl : x = 5 := by omega
    clear hx h2
    refine A3 1000 ?_
    repeat' (simp (maxSteps := 4000000) (disch := omega) only [go_sem, ↓reduceIte, Int.toNat_natCast])
    obtain ⟨B1, hB1⟩ : ∃ B1, B1 = rpB A1 (fun _ => 0#64) 5 0 := ⟨_, rfl⟩
    simp only [← hB1]
    -- chi
    refine G1 (S := Nat) (fun x => x ≤ 5)
     (fun x => ⟨[(12, .int .i64 (x : Nat)), (8, .ptr 5 0), (5, .int .i64 (k : Nat)), (4, .ptr 3 0), (3, .ptr 2 0), (2, .ptr 1 0), (1, .ptr 0 0)], 6, [(5, some (.cells (C8 .u64 (fL B1) 25) 133 (0, 0))), (3, some (.cells (C8 .i64 (O2 24) 25) 126 (0, 0))), (2, some (.cells (C8 .u64 (fL (rcF 168)) 24) 129 (0, 0))), (1, some (.cells (C8 .u64 (fun _ => 0) 25) 133 (0, 0))), (0, some (.cells (C8 .u64 (fL (chX B1 A x 0)) 25) 133 (0, 0)))], base w, []⟩)
     (fun x => 5 - x) 0 (by simp) (Weak.sub (A5 (by simp [wσ, go_sem, closed, A0, Cr5, A2]) (by simp [whs, go_sem, EObj.closed, closed, A0, Cr5, A2]) (by simp [*]) rfl rfl (by simp))) ?_
    intro x hx
    refine A3 1000 ?_
    simp (maxSteps := 4000000) (disch := omega) only [go_sem, ↓reduceIte]
    repeat (with_reducible refine And.intro (by omega) ?_)
    refine A6 (fun h2 => ?_) (fun h2 => ?_)
    all_goals (try simp only [bne_iff_ne, ne_eq, beq_iff_eq, decide_eq_true_eq, decide_eq_false_iff_not, Bool.not_eq_true, Bool.not_eq_false, Bool.not_true, Bool.not_false, bne_eq_false_iff_eq, beq_eq_false_iff_ne, Bool.and_eq_true, Bool.or_eq_true, Bool.and_eq_false_imp, Bool.or_eq_false_iff, Bool.not_eq_true', Bool.not_eq_false', Int.not_lt, Int.not_le] at h2)
    ·repeat' (simp (maxSteps := 4000000) (disch := omega) only [go_sem, ↓reduceIte, Int.toNat_natCast])
     refine G1 (S := Nat) (fun y => y ≤ 5)
      (fun y => ⟨[(13, .int .i64 (y : Nat)), (12, .int .i64 (x : Nat)), (8, .ptr 5 0), (5, .int .i64 (k : Nat)), (4, .ptr 3 0), (3, .ptr 2 0), (2, .ptr 1 0), (1, .ptr 0 0)], 6, [(5, some (.cells (C8 .u64 (fL B1) 25) 133 (0, 0))), (3, some (.cells (C8 .i64 (O2 24) 25) 126 (0, 0))), (2, some (.cells (C8 .u64 (fL (rcF 168)) 24) 129 (0, 0))), (1, some (.cells (C8 .u64 (fun _ => 0) 25) 133 (0, 0))), (0, some (.cells (C8 .u64 (fL (chX B1 A x y)) 25) 133 (0, 0)))], base w, []⟩)
      (fun y => 5 - y) 0 (by simp) (Weak.sub (A5 (by simp [wσ, go_sem, closed, A0, A2]) (by simp [whs, go_sem, EObj.closed, closed, A0, A2]) (by simp [*]) rfl rfl (by simp))) ?_
     intro y hy
     refine A3 1000 ?_
     simp (maxSteps := 4000000) (disch := omega) only [go_sem, ↓reduceIte]
     repeat (with_reducible refine And.intro (by omega) ?_)
     refine A6 (fun h3 => ?_) (fun h3 => ?_)
     all_goals (try simp only [bne_iff_ne, ne_eq, beq_iff_eq, decide_eq_true_eq, decide_eq_false_iff_not, Bool.not_eq_true, Bool.not_eq_false, Bool.not_true, Bool.not_false, bne_eq_false_iff_eq, beq_eq_false_iff_ne, Bool.and_eq_true, Bool.or_eq_true, Bool.and_eq_false_imp, Bool.or_eq_false_iff, Bool.not_eq_true', Bool.not_eq_false', Int.not_lt, Int.not_le] at h3)
     ·have t7 : ((x : Int) + 5 * (y : Int)).toNat = x + 5 * y := by omega
      have t8 : (((x : Int) + 1) % 5 + 5 * (y : Int)).toNat = (x + 1) % 5 + 5 * y := by omega
      have t9 : (((x : Int) + 2) % 5 + 5 * (y : Int)).toNat = (x + 2) % 5 + 5 * y := by omega
      have eC : C8 .u64 (fL (Y4 (chX B1 A x y) (x + 5 * y) (B1 (x + 5 * y) ^^^ (~~~ B1 ((x + 1) % 5 + 5 * y) &&& B1 ((x + 2) % 5 + 5 * y))))) 25 = C8 .u64 (fL (chX B1 A x (y + 1))) 25 := K5 (fun i hi => Cc4 B1 A (show x < 5 by omega))
      repeat' (first | with_reducible refine And.intro (by omega) ?_ | simp (maxSteps := 4000000) (disch := omega) only [go_sem, ↓reduceIte, Int.toNat_natCast, t7, t8, t9, Y1, Ah1, Cs5, Cj4, Cf1, S4, eC] | with_reducible refine L7 mixed (by kernel_rfl) (Ac0 1000 ?_) | with_reducible refine P6 (by kernel_rfl) (A3 1000 ?_))
      exact ⟨y + 1, by omega, Weak.sub (A5 (by simp [wσ, go_sem, closed, A0, A4, A2] <;> omega) (by simp [whs, Go.Ew.hget, go_sem, EObj.closed, closed, A0, A4, A2]) (by first | (simp [*]; done) | (simp only [cxG]; omega)) rfl rfl (by simp)), by omega⟩
     ·obtain rfl : y = 5 := by omega
      refine A3 1000 ?_
      repeat' (simp (maxSteps := 4000000) (disch := omega) only [go_sem, ↓reduceIte, Int.toNat_natCast])
      exact ⟨x + 1, by omega, Weak.sub (A5 (by simp [wσ, go_sem, closed, A0, A4, K5 (fun i hi => Bv1 B1 A x hi), A2] <;> omega) (by simp [whs, Go.Ew.hget, go_sem, EObj.closed, closed, A0, A4, K5 (fun i hi => Bv1 B1 A x hi), A2]) (by first | (simp [*]; done) | (simp only [cxG]; omega)) rfl rfl (by simp)), by omega⟩
    ·obtain rfl : x = 5 := by omega
     clear hx h2
     refine A3 1000 ?_
     repeat' (first | with_reducible refine And.intro (by omega) ?_ | simp (maxSteps := 4000000) (disch := omega) only [go_sem, ↓reduceIte, Int.toNat_natCast, Y1, Ah1, S4] | with_reducible refine L7 mixed (by kernel_rfl) (Ac0 1000 ?_) | with_reducible refine P6 (by kernel_rfl) (A3 1000 ?_))
     have eK : C8 .u64 (fL (Y4 (chX B1 A 5 0) 0 (chX B1 A 5 0 0 ^^^ rcF 168 k))) 25 = C8 .u64 (fL (U0 a (k + 1))) 25 := by
      have e1 : ∀ i, i < 25 → chX B1 A 5 0 i = chV (rpV A1) i := fun i hi => by
       rw [Cl0 B1 A i]
       exact Ay8 (fun j hj => by rw [hB1, Bp3]) hi
      refine K5 (fun i hi => ?_)
      simp only [U0, Af3, hA, ← hA1, Y4]
      split
      ·rw [e1 0 (by omega)]
      ·exact e1 i hi
     exact ⟨k + 1, by omega, Weak.sub (A5 (by simp [wσ, go_sem, closed, A0, A4, eK, A2] <;> omega) (by simp [whs, Go.Ew.hget, go_sem, EObj.closed, closed, A0, A4, eK, A2]) (by first | (simp [*]; done) | (simp only [cxG]; omega)) rfl rfl (by simp)), by omega⟩
 ·obtain rfl : k = 24 := by omega
  simp (maxSteps := 4000000) (disch := omega) only [go_sem, ↓reduceIte]
  repeat (with_reducible refine And.intro (by omega) ?_)
  refine A3 1000 ?_
  simp (maxSteps := 4000000) (disch := omega) only [go_sem, ↓reduceIte]
  repeat (with_reducible refine And.intro (by fail) ?_)
end Go.Proofs.Ytncjbfkkgdepoaa
