/- Part of a proof over the seat Ytncjbfkkgdepoaa. -/
import Derived.Test.YtncjbfkkgdepoaaG02
set_option linter.unusedSimpArgs false
set_option linter.unusedVariables false
set_option maxRecDepth 100000
namespace Go.Proofs.Ytncjbfkkgdepoaa
open Go RowKit Go.Ew
set_option maxHeartbeats 4000000
theorem Dz7 : D0 Try.f59.ntmps (Try.f59.body.getD .skip) = true := by kernel_rfl
/-- The cells of the rounds' tables. -/
def An6 : List Value := Az5 .i64 (R3 24) 25 ++ Az5 .u64 (fL (rcF 168)) 24
def RoundsAt (B : Base) (b : Nat) : Prop := B.D b ∧ ∀ j, j < 49 → B.w.cell? ⟨b, j, none⟩ = An6[j]?
theorem RoundsAt.ext {B B' : Base} {b : Nat} (h : RoundsAt B b) (k : BExt B B') : RoundsAt B' b := ⟨k.D b h.1, fun j hj => by rw [k.cell (a := ⟨b, j, none⟩) h.1]; exact h.2 j hj⟩
theorem RoundsAt.turn {B : Base} {b : Nat} (h : RoundsAt B b) (i : Nat) (hi : i < 25) : G5 B ⟨b, i, none⟩ = .int .i64 (trn i : Nat) ∧ (B.w.cell? ⟨b, i, none⟩).isSome = true := by
 have e := h.2 i (by omega)
 have e2 : An6[i]? = some (.int .i64 (trn i : Nat)) := by
  unfold An6
  rw [List.getElem?_append_left (by rw [Ao6]; omega)]
  unfold Az5
  rw [List.getElem?_map, List.getElem?_range hi, Option.map_some, (Ca1 hi).1]
 rw [e2] at e
 exact ⟨by simp only [G5, e, Option.getD_some, D9], by rw [e]; rfl⟩
theorem RoundsAt.round {B : Base} {b : Nat} (h : RoundsAt B b) (i : Nat) (hi : i < 24) : G5 B ⟨b, 25 + i, none⟩ = .int .u64 (n64 (rcF 168 i)) ∧ (B.w.cell? ⟨b, 25 + i, none⟩).isSome = true := by
 have e := h.2 (25 + i) (by omega)
 have e2 : An6[25 + i]? = some (.int .u64 (n64 (rcF 168 i))) := by
  unfold An6
  rw [List.getElem?_append_right (by rw [Ao6]; omega), Ao6]
  unfold Az5
  rw [List.getElem?_map, show 25 + i - 25 = i by omega, List.getElem?_range hi]; rfl
 rw [e2] at e
 exact ⟨by simp only [G5, e, Option.getD_some, D9], by rw [e]; rfl⟩
theorem Df9 (a : Nat → L64) : thA a 0 0 = a := funext fun i => Cm8 a i
theorem Cp0 (a b : Nat → L64) : rpB a b 0 0 = b := funext fun i => Co9 a b i
theorem Dj7 (b a : Nat → L64) : chA b a 0 0 = a := funext fun i => Ct2 b a i
theorem Bw5 (a : Nat → L64) (B : Base) (b : Nat) (h : RoundsAt B b) :
  Does Try.prog 59 [.raw (.pointer (some ⟨b, 0, none⟩)), .agg (D5 .u64 (fL a) 25)] B (fun _ : Unit => .agg (D5 .u64 (fL (X6 a 24)) 25)) (fun _ _ => True) := by
 refine K2 Ee4 (fun s B B' hB hR => hR) Try.func59 rfl Dz7 (by simp [Try.f59]) (by simp [A0, closed, A3]) (fun B0 hB0 => A2 1000 ?_)
 replace h := h.ext hB0
 simp (maxSteps := 4000000) (disch := omega) only [go_sem, ↓reduceIte, Try.f59]
 repeat (with_reducible refine And.intro (by omega) ?_)
 refine H2 (S := Nat × (Nat → L64) × (Nat → L64)) (fun s => s.1 ≤ 24)
  (fun s => ⟨[(16, .int .i64 (s.1 : Nat)), (6, .ptr 3 0), (5, .ptr 2 0), (4, .ptr 1 0), (3, .ptr 0 0), (0, .raw (.pointer (some ⟨b, 0, none⟩)))], 4, [(3, some (.cells (D5 .u64 (fL s.2.2) 5) 173 (0, 0))), (2, some (.cells (D5 .u64 (fL s.2.1) 25) 133 (0, 0))), (1, some (.cells (D5 .u64 (fun _ => 0) 25) 133 (0, 0))), (0, some (.cells (D5 .u64 (fL (X6 a s.1)) 25) 133 (0, 0)))], B0, []⟩)
  (fun s => 24 - s.1) (0, (fun _ => 0#64), (fun _ => 0#64)) (by simp) (Weak.sub (A6 (by simp [wσ, go_sem, closed, A0, fL0, X6, A3]) (by simp [whs, go_sem, EObj.closed, closed, A0, fL0, X6, A3]) (by simp [*]) rfl rfl (by simp))) ?_
 rintro ⟨k, b0, c0⟩ hk
 simp only at hk
 refine A2 1000 ?_
 simp (maxSteps := 4000000) (disch := omega) only [go_sem, ↓reduceIte]
 repeat (with_reducible refine And.intro (by omega) ?_)
 refine A9 (fun h1 => ?_) (fun h1 => ?_)
 all_goals (try simp only [bne_iff_ne, ne_eq, beq_iff_eq, decide_eq_true_eq, decide_eq_false_iff_not, Bool.not_eq_true, Bool.not_eq_false, Bool.not_true, Bool.not_false, bne_eq_false_iff_eq, beq_eq_false_iff_ne, Bool.and_eq_true, Bool.or_eq_true, Bool.and_eq_false_imp, Bool.or_eq_false_iff, Bool.not_eq_true', Bool.not_eq_false', Int.not_lt, Int.not_le] at h1)
 ·generalize hA : X6 a k = A
  simp (maxSteps := 4000000) (disch := omega) only [go_sem, ↓reduceIte]
  repeat (with_reducible refine And.intro (by omega) ?_)
  refine H2 (S := Nat × (Nat → L64)) (fun s => s.1 ≤ 5 ∧ ∀ j, j < s.1 → s.2 j = thC A j)
   (fun s => ⟨[(19, .int .i64 (s.1 : Nat)), (7, .int .i64 (k : Nat)), (16, .int .i64 (k : Nat)), (6, .ptr 3 0), (5, .ptr 2 0), (4, .ptr 1 0), (3, .ptr 0 0), (0, .raw (.pointer (some ⟨b, 0, none⟩)))], 4, [(3, some (.cells (D5 .u64 (fL s.2) 5) 173 (0, 0))), (2, some (.cells (D5 .u64 (fL b0) 25) 133 (0, 0))), (1, some (.cells (D5 .u64 (fun _ => 0) 25) 133 (0, 0))), (0, some (.cells (D5 .u64 (fL A) 25) 133 (0, 0)))], B0, []⟩)
   (fun s => 5 - s.1) (0, c0) ⟨by simp, fun j hj => absurd hj (Nat.not_lt_zero j)⟩ (Weak.sub (A6 (by simp [wσ, go_sem, closed, A0, hA, A3]) (by simp [whs, go_sem, EObj.closed, closed, A0, hA, A3]) (by simp [*]) rfl rfl (by simp))) ?_
  rintro ⟨x, c⟩ ⟨hx, hc⟩
  simp only at hx hc
  refine A2 1000 ?_
  simp (maxSteps := 4000000) (disch := omega) only [go_sem, ↓reduceIte]
  repeat (with_reducible refine And.intro (by omega) ?_)
  refine A9 (fun h2 => ?_) (fun h2 => ?_)
  all_goals (try simp only [bne_iff_ne, ne_eq, beq_iff_eq, decide_eq_true_eq, decide_eq_false_iff_not, Bool.not_eq_true, Bool.not_eq_false, Bool.not_true, Bool.not_false, bne_eq_false_iff_eq, beq_eq_false_iff_ne, Bool.and_eq_true, Bool.or_eq_true, Bool.and_eq_false_imp, Bool.or_eq_false_iff, Bool.not_eq_true', Bool.not_eq_false', Int.not_lt, Int.not_le] at h2)
  ·have t5 : ((x : Int) + 5).toNat = x + 5 := by omega
   have t10 : ((x : Int) + 10).toNat = x + 10 := by omega
   have t15 : ((x : Int) + 15).toNat = x + 15 := by omega
   have t20 : ((x : Int) + 20).toNat = x + 20 := by omega
   repeat' (first | with_reducible refine And.intro (by omega) ?_ | simp (maxSteps := 4000000) (disch := omega) only [go_sem, ↓reduceIte, Int.toNat_natCast, t5, t10, t15, t20, Ac0, Am7, V9] | with_reducible refine P0 mixed (by kernel_rfl) (Ah1 1000 ?_) | with_reducible refine T0 (by kernel_rfl) (A2 1000 ?_))
   refine ⟨(x + 1, Ac5 c x (thC A x)), ⟨by simp only; omega, fun j hj => ?_⟩, Weak.sub (A6 (by simp [wσ, go_sem, closed, A0, A4, A3, thC] <;> omega) (by simp [whs, Go.Ew.hget, go_sem, EObj.closed, closed, A0, A4, A3, thC]) (by first | (simp [*]; done) | (simp only [cxG]; omega)) rfl rfl (by simp)), by simp only; omega⟩
   simp only [Ac5]
   split
   ·rename_i e; rw [e]
   ·exact hc j (by simp only at hj; omega)
  ·obtain rfl : x = 5 := by omega
   clear hx h2
   refine A2 1000 ?_
   repeat' (simp (maxSteps := 4000000) (disch := omega) only [go_sem, ↓reduceIte, Int.toNat_natCast])
   -- theta
   refine H2 (S := Nat) (fun x => x ≤ 5)
    (fun x => ⟨[(48, .int .i64 (x : Nat)), (7, .int .i64 (k : Nat)), (16, .int .i64 (k : Nat)), (6, .ptr 3 0), (5, .ptr 2 0), (4, .ptr 1 0), (3, .ptr 0 0), (0, .raw (.pointer (some ⟨b, 0, none⟩)))], 4, [(3, some (.cells (D5 .u64 (fL c) 5) 173 (0, 0))), (2, some (.cells (D5 .u64 (fL b0) 25) 133 (0, 0))), (1, some (.cells (D5 .u64 (fun _ => 0) 25) 133 (0, 0))), (0, some (.cells (D5 .u64 (fL (thA A x 0)) 25) 133 (0, 0)))], B0, []⟩)
    (fun x => 5 - x) 0 (by simp) (Weak.sub (A6 (by simp [wσ, go_sem, closed, A0, Df9, A3]) (by simp [whs, go_sem, EObj.closed, closed, A0, Df9, A3]) (by simp [*]) rfl rfl (by simp))) ?_
   intro x hx
   refine A2 1000 ?_
   simp (maxSteps := 4000000) (disch := omega) only [go_sem, ↓reduceIte]
   repeat (with_reducible refine And.intro (by omega) ?_)
   refine A9 (fun h2 => ?_) (fun h2 => ?_)
   all_goals (try simp only [bne_iff_ne, ne_eq, beq_iff_eq, decide_eq_true_eq, decide_eq_false_iff_not, Bool.not_eq_true, Bool.not_eq_false, Bool.not_true, Bool.not_false, bne_eq_false_iff_eq, beq_eq_false_iff_ne, Bool.and_eq_true, Bool.or_eq_true, Bool.and_eq_false_imp, Bool.or_eq_false_iff, Bool.not_eq_true', Bool.not_eq_false', Int.not_lt, Int.not_le] at h2)
   ·have t1 : (((x : Int) + 1) % 5).toNat = (x + 1) % 5 := by omega
    have t4 : (((x : Int) + 4) % 5).toNat = (x + 4) % 5 := by omega
    have hD : thC A ((x + 4) % 5) ^^^ rot (thC A ((x + 1) % 5)) 1 = thD A x := rfl
    have hc1 := hc ((x + 1) % 5) (by omega)
    have hc4 := hc ((x + 4) % 5) (by omega)
    repeat' (first | with_reducible refine And.intro (by omega) ?_ | simp (maxSteps := 4000000) (disch := omega) only [go_sem, ↓reduceIte, Int.toNat_natCast, t1, t4, Ac0, hc1, hc4, Am7, hD] | with_reducible refine P0 mixed (by kernel_rfl) (Ah1 1000 ?_) | with_reducible refine T0 (by kernel_rfl) (A2 1000 ?_) | refine Bn6 (Cv4 _ 1 (by omega)) (Ah1 1000 ?_))
    refine H2 (S := Nat) (fun y => y ≤ 5)
     (fun y => ⟨[(63, .int .i64 (y : Nat)), (10, .int .u64 (n64 (thD A x))), (9, .int .i64 (x : Nat)), (48, .int .i64 (x : Nat)), (7, .int .i64 (k : Nat)), (16, .int .i64 (k : Nat)), (6, .ptr 3 0), (5, .ptr 2 0), (4, .ptr 1 0), (3, .ptr 0 0), (0, .raw (.pointer (some ⟨b, 0, none⟩)))], 4, [(3, some (.cells (D5 .u64 (fL c) 5) 173 (0, 0))), (2, some (.cells (D5 .u64 (fL b0) 25) 133 (0, 0))), (1, some (.cells (D5 .u64 (fun _ => 0) 25) 133 (0, 0))), (0, some (.cells (D5 .u64 (fL (thA A x y)) 25) 133 (0, 0)))], B0, []⟩)
     (fun y => 5 - y) 0 (by simp) (Weak.sub (A6 (by simp [wσ, go_sem, closed, A0, A3]) (by simp [whs, go_sem, EObj.closed, closed, A0, A3]) (by simp [*]) rfl rfl (by simp))) ?_
    intro y hy
    refine A2 1000 ?_
    simp (maxSteps := 4000000) (disch := omega) only [go_sem, ↓reduceIte]
    repeat (with_reducible refine And.intro (by omega) ?_)
    refine A9 (fun h3 => ?_) (fun h3 => ?_)
    all_goals (try simp only [bne_iff_ne, ne_eq, beq_iff_eq, decide_eq_true_eq, decide_eq_false_iff_not, Bool.not_eq_true, Bool.not_eq_false, Bool.not_true, Bool.not_false, bne_eq_false_iff_eq, beq_eq_false_iff_ne, Bool.and_eq_true, Bool.or_eq_true, Bool.and_eq_false_imp, Bool.or_eq_false_iff, Bool.not_eq_true', Bool.not_eq_false', Int.not_lt, Int.not_le] at h3)
    ·have t7 : ((x : Int) + 5 * (y : Int)).toNat = x + 5 * y := by omega
     repeat' (first | with_reducible refine And.intro (by omega) ?_ | simp (maxSteps := 4000000) (disch := omega) only [go_sem, ↓reduceIte, Int.toNat_natCast, t7, Ac0, Am7, V9, Cm9 A (show x < 5 by omega)])
     exact ⟨y + 1, by omega, Weak.sub (A6 (by simp [wσ, go_sem, closed, A0, A4, A3] <;> omega) (by simp [whs, Go.Ew.hget, go_sem, EObj.closed, closed, A0, A4, A3]) (by first | (simp [*]; done) | (simp only [cxG]; omega)) rfl rfl (by simp)), by omega⟩
    ·obtain rfl : y = 5 := by omega
     refine A2 1000 ?_
     repeat' (simp (maxSteps := 4000000) (disch := omega) only [go_sem, ↓reduceIte, Int.toNat_natCast])
     exact ⟨x + 1, by omega, Weak.sub (A6 (by simp [wσ, go_sem, closed, A0, A4, N6 (fun i hi => Ca3 A x hi), A3] <;> omega) (by simp [whs, Go.Ew.hget, go_sem, EObj.closed, closed, A0, A4, N6 (fun i hi => Ca3 A x hi), A3]) (by first | (simp [*]; done) | (simp only [cxG]; omega)) rfl rfl (by simp)), by omega⟩
   ·obtain rfl : x = 5 := by omega
    clear hx h2
    refine A2 1000 ?_
    repeat' (simp (maxSteps := 4000000) (disch := omega) only [go_sem, ↓reduceIte, Int.toNat_natCast])
    obtain ⟨A1, hA1⟩ : ∃ A1, A1 = thA A 5 0 := ⟨_, rfl⟩
    simp only [← hA1]
    -- rho, pi
    refine H2 (S := Nat) (fun x => x ≤ 5)
     (fun x => ⟨[(77, .int .i64 (x : Nat)), (7, .int .i64 (k : Nat)), (16, .int .i64 (k : Nat)), (6, .ptr 3 0), (5, .ptr 2 0), (4, .ptr 1 0), (3, .ptr 0 0), (0, .raw (.pointer (some ⟨b, 0, none⟩)))], 4, [(3, some (.cells (D5 .u64 (fL c) 5) 173 (0, 0))), (2, some (.cells (D5 .u64 (fL (rpB A1 b0 x 0)) 25) 133 (0, 0))), (1, some (.cells (D5 .u64 (fun _ => 0) 25) 133 (0, 0))), (0, some (.cells (D5 .u64 (fL A1) 25) 133 (0, 0)))], B0, []⟩)
     (fun x => 5 - x) 0 (by simp) (Weak.sub (A6 (by simp [wσ, go_sem, closed, A0, Cp0, A3]) (by simp [whs, go_sem, EObj.closed, closed, A0, Cp0, A3]) (by simp [*]) rfl rfl (by simp))) ?_
    intro x hx
    refine A2 1000 ?_
    simp (maxSteps := 4000000) (disch := omega) only [go_sem, ↓reduceIte]
    repeat (with_reducible refine And.intro (by omega) ?_)
    refine A9 (fun h2 => ?_) (fun h2 => ?_)
    all_goals (try simp only [bne_iff_ne, ne_eq, beq_iff_eq, decide_eq_true_eq, decide_eq_false_iff_not, Bool.not_eq_true, Bool.not_eq_false, Bool.not_true, Bool.not_false, bne_eq_false_iff_eq, beq_eq_false_iff_ne, Bool.and_eq_true, Bool.or_eq_true, Bool.and_eq_false_imp, Bool.or_eq_false_iff, Bool.not_eq_true', Bool.not_eq_false', Int.not_lt, Int.not_le] at h2)
    ·repeat' (simp (maxSteps := 4000000) (disch := omega) only [go_sem, ↓reduceIte, Int.toNat_natCast])
     refine H2 (S := Nat) (fun y => y ≤ 5)
      (fun y => ⟨[(80, .int .i64 (y : Nat)), (12, .int .i64 (x : Nat)), (77, .int .i64 (x : Nat)), (7, .int .i64 (k : Nat)), (16, .int .i64 (k : Nat)), (6, .ptr 3 0), (5, .ptr 2 0), (4, .ptr 1 0), (3, .ptr 0 0), (0, .raw (.pointer (some ⟨b, 0, none⟩)))], 4, [(3, some (.cells (D5 .u64 (fL c) 5) 173 (0, 0))), (2, some (.cells (D5 .u64 (fL (rpB A1 b0 x y)) 25) 133 (0, 0))), (1, some (.cells (D5 .u64 (fun _ => 0) 25) 133 (0, 0))), (0, some (.cells (D5 .u64 (fL A1) 25) 133 (0, 0)))], B0, []⟩)
      (fun y => 5 - y) 0 (by simp) (Weak.sub (A6 (by simp [wσ, go_sem, closed, A0, A3]) (by simp [whs, go_sem, EObj.closed, closed, A0, A3]) (by simp [*]) rfl rfl (by simp))) ?_
     intro y hy
     refine A2 1000 ?_
     simp (maxSteps := 4000000) (disch := omega) only [go_sem, ↓reduceIte]
     repeat (with_reducible refine And.intro (by omega) ?_)
     refine A9 (fun h3 => ?_) (fun h3 => ?_)
     all_goals (try simp only [bne_iff_ne, ne_eq, beq_iff_eq, decide_eq_true_eq, decide_eq_false_iff_not, Bool.not_eq_true, Bool.not_eq_false, Bool.not_true, Bool.not_false, bne_eq_false_iff_eq, beq_eq_false_iff_ne, Bool.and_eq_true, Bool.or_eq_true, Bool.and_eq_false_imp, Bool.or_eq_false_iff, Bool.not_eq_true', Bool.not_eq_false', Int.not_lt, Int.not_le] at h3)
     ·have t7 : ((x : Int) + 5 * (y : Int)).toNat = x + 5 * y := by omega
      have t8 : ((y : Int) + 5 * ((2 * (x : Int) + 3 * (y : Int)) % 5)).toNat = y + 5 * ((2 * x + 3 * y) % 5) := by
       have q : ((2 * (x : Int) + 3 * (y : Int)) % 5) = (((2 * x + 3 * y) % 5 : Nat) : Int) := by push_cast; rfl
       rw [q]; omega
      obtain ⟨r1, r2⟩ := h.turn (x + 5 * y) (by omega)
      have eC : D5 .u64 (fL (Ac5 (rpB A1 b0 x y) (y + 5 * ((2 * x + 3 * y) % 5)) (rot (A1 (x + 5 * y)) (trn (x + 5 * y))))) 25 = D5 .u64 (fL (rpB A1 b0 x (y + 1))) 25 := N6 (fun i hi => Bp4 A1 b0 (show x < 5 by omega) (show y < 5 by omega) hi)
      repeat' (first | with_reducible refine And.intro (by omega) ?_ | simp (maxSteps := 4000000) (disch := omega) only [go_sem, ↓reduceIte, Int.toNat_natCast, t7, t8, Ac0, r1, r2, h.1, V9, eC] | with_reducible refine P0 mixed (by kernel_rfl) (Ah1 1000 ?_) | with_reducible refine T0 (by kernel_rfl) (A2 1000 ?_) | refine Bn6 (Cv4 _ _ (Ca1 (by omega)).2) (Ah1 1000 ?_))
      exact ⟨y + 1, by omega, Weak.sub (A6 (by simp [wσ, go_sem, closed, A0, A4, A3] <;> omega) (by simp [whs, Go.Ew.hget, go_sem, EObj.closed, closed, A0, A4, A3]) (by first | (simp [*]; done) | (simp only [cxG]; omega)) rfl rfl (by simp)), by omega⟩
     ·obtain rfl : y = 5 := by omega
      refine A2 1000 ?_
      repeat' (simp (maxSteps := 4000000) (disch := omega) only [go_sem, ↓reduceIte, Int.toNat_natCast])
      exact ⟨x + 1, by omega, Weak.sub (A6 (by simp [wσ, go_sem, closed, A0, A4, N6 (fun i hi => Ay4 A1 b0 x i), A3] <;> omega) (by simp [whs, Go.Ew.hget, go_sem, EObj.closed, closed, A0, A4, N6 (fun i hi => Ay4 A1 b0 x i), A3]) (by first | (simp [*]; done) | (simp only [cxG]; omega)) rfl rfl (by simp)), by omega⟩
    ·obtain rfl : x = 5 := by omega
     clear hx h2
     refine A2 1000 ?_
     repeat' (simp (maxSteps := 4000000) (disch := omega) only [go_sem, ↓reduceIte, Int.toNat_natCast])
     obtain ⟨B1, hB1⟩ : ∃ B1, B1 = rpB A1 b0 5 0 := ⟨_, rfl⟩
     simp only [← hB1]
     -- chi
     refine H2 (S := Nat) (fun y => y ≤ 5)
      (fun y => ⟨[(111, .int .i64 (y : Nat)), (7, .int .i64 (k : Nat)), (16, .int .i64 (k : Nat)), (6, .ptr 3 0), (5, .ptr 2 0), (4, .ptr 1 0), (3, .ptr 0 0), (0, .raw (.pointer (some ⟨b, 0, none⟩)))], 4, [(3, some (.cells (D5 .u64 (fL c) 5) 173 (0, 0))), (2, some (.cells (D5 .u64 (fL B1) 25) 133 (0, 0))), (1, some (.cells (D5 .u64 (fun _ => 0) 25) 133 (0, 0))), (0, some (.cells (D5 .u64 (fL (chA B1 A1 0 y)) 25) 133 (0, 0)))], B0, []⟩)
      (fun y => 5 - y) 0 (by simp) (Weak.sub (A6 (by simp [wσ, go_sem, closed, A0, Dj7, A3]) (by simp [whs, go_sem, EObj.closed, closed, A0, Dj7, A3]) (by simp [*]) rfl rfl (by simp))) ?_
     intro y hy
     refine A2 1000 ?_
     simp (maxSteps := 4000000) (disch := omega) only [go_sem, ↓reduceIte]
     repeat (with_reducible refine And.intro (by omega) ?_)
     refine A9 (fun h2 => ?_) (fun h2 => ?_)
     all_goals (try simp only [bne_iff_ne, ne_eq, beq_iff_eq, decide_eq_true_eq, decide_eq_false_iff_not, Bool.not_eq_true, Bool.not_eq_false, Bool.not_true, Bool.not_false, bne_eq_false_iff_eq, beq_eq_false_iff_ne, Bool.and_eq_true, Bool.or_eq_true, Bool.and_eq_false_imp, Bool.or_eq_false_iff, Bool.not_eq_true', Bool.not_eq_false', Int.not_lt, Int.not_le] at h2)
     ·repeat' (simp (maxSteps := 4000000) (disch := omega) only [go_sem, ↓reduceIte, Int.toNat_natCast])
      refine H2 (S := Nat) (fun x => x ≤ 5)
       (fun x => ⟨[(114, .int .i64 (x : Nat)), (14, .int .i64 (y : Nat)), (111, .int .i64 (y : Nat)), (7, .int .i64 (k : Nat)), (16, .int .i64 (k : Nat)), (6, .ptr 3 0), (5, .ptr 2 0), (4, .ptr 1 0), (3, .ptr 0 0), (0, .raw (.pointer (some ⟨b, 0, none⟩)))], 4, [(3, some (.cells (D5 .u64 (fL c) 5) 173 (0, 0))), (2, some (.cells (D5 .u64 (fL B1) 25) 133 (0, 0))), (1, some (.cells (D5 .u64 (fun _ => 0) 25) 133 (0, 0))), (0, some (.cells (D5 .u64 (fL (chA B1 A1 x y)) 25) 133 (0, 0)))], B0, []⟩)
       (fun x => 5 - x) 0 (by simp) (Weak.sub (A6 (by simp [wσ, go_sem, closed, A0, A3]) (by simp [whs, go_sem, EObj.closed, closed, A0, A3]) (by simp [*]) rfl rfl (by simp))) ?_
      intro x hx
      refine A2 1000 ?_
      simp (maxSteps := 4000000) (disch := omega) only [go_sem, ↓reduceIte]
      repeat (with_reducible refine And.intro (by omega) ?_)
      refine A9 (fun h3 => ?_) (fun h3 => ?_)
      all_goals (try simp only [bne_iff_ne, ne_eq, beq_iff_eq, decide_eq_true_eq, decide_eq_false_iff_not, Bool.not_eq_true, Bool.not_eq_false, Bool.not_true, Bool.not_false, bne_eq_false_iff_eq, beq_eq_false_iff_ne, Bool.and_eq_true, Bool.or_eq_true, Bool.and_eq_false_imp, Bool.or_eq_false_iff, Bool.not_eq_true', Bool.not_eq_false', Int.not_lt, Int.not_le] at h3)
      ·have t7 : ((x : Int) + 5 * (y : Int)).toNat = x + 5 * y := by omega
       have t8 : (((x : Int) + 1) % 5 + 5 * (y : Int)).toNat = (x + 1) % 5 + 5 * y := by omega
       have t9 : (((x : Int) + 2) % 5 + 5 * (y : Int)).toNat = (x + 2) % 5 + 5 * y := by omega
       have eC : D5 .u64 (fL (Ac5 (chA B1 A1 x y) (x + 5 * y) (B1 (x + 5 * y) ^^^ (~~~ B1 ((x + 1) % 5 + 5 * y) &&& B1 ((x + 2) % 5 + 5 * y))))) 25 = D5 .u64 (fL (chA B1 A1 (x + 1) y)) 25 := N6 (fun i hi => Ct3 B1 A1 (show x < 5 by omega))
       repeat' (first | with_reducible refine And.intro (by omega) ?_ | simp (maxSteps := 4000000) (disch := omega) only [go_sem, ↓reduceIte, Int.toNat_natCast, t7, t8, t9, Ac0, Am7, Dk5, Da8, Cv9, V9, eC] | with_reducible refine P0 mixed (by kernel_rfl) (Ah1 1000 ?_) | with_reducible refine T0 (by kernel_rfl) (A2 1000 ?_))
       exact ⟨x + 1, by omega, Weak.sub (A6 (by simp [wσ, go_sem, closed, A0, A4, A3] <;> omega) (by simp [whs, Go.Ew.hget, go_sem, EObj.closed, closed, A0, A4, A3]) (by first | (simp [*]; done) | (simp only [cxG]; omega)) rfl rfl (by simp)), by omega⟩
      ·obtain rfl : x = 5 := by omega
       refine A2 1000 ?_
       repeat' (simp (maxSteps := 4000000) (disch := omega) only [go_sem, ↓reduceIte, Int.toNat_natCast])
       exact ⟨y + 1, by omega, Weak.sub (A6 (by simp [wσ, go_sem, closed, A0, A4, N6 (fun i hi => Ci7 B1 A1 y i), A3] <;> omega) (by simp [whs, Go.Ew.hget, go_sem, EObj.closed, closed, A0, A4, N6 (fun i hi => Ci7 B1 A1 y i), A3]) (by first | (simp [*]; done) | (simp only [cxG]; omega)) rfl rfl (by simp)), by omega⟩
     ·obtain rfl : y = 5 := by omega
      clear hy h2
      refine A2 1000 ?_
      obtain ⟨r1, r2⟩ := h.round k (by omega)
      repeat' (first | with_reducible refine And.intro (by omega) ?_ | simp (maxSteps := 4000000) (disch := omega) only [go_sem, ↓reduceIte, Int.toNat_natCast, Ac0, r1, r2, h.1, Am7, V9] | with_reducible refine P0 mixed (by kernel_rfl) (Ah1 1000 ?_) | with_reducible refine T0 (by kernel_rfl) (A2 1000 ?_))
      have eK : D5 .u64 (fL (Ac5 (chA B1 A1 0 5) 0 (chA B1 A1 0 5 0 ^^^ rcF 168 k))) 25 = D5 .u64 (fL (X6 a (k + 1))) 25 := by
       have e1 : ∀ i, i < 25 → chA B1 A1 0 5 i = chV (rpV A1) i := fun i hi => by
        rw [Dc8 B1 A1 hi]
        exact Bh4 (fun j hj => by rw [hB1, Cb6]) hi
       refine N6 (fun i hi => ?_)
       simp only [X6, Ak6, hA, ← hA1, Ac5]
       split
       ·rw [e1 0 (by omega)]
       ·exact e1 i hi
      exact ⟨(k + 1, B1, c), by simp only; omega, Weak.sub (A6 (by simp [wσ, go_sem, closed, A0, A4, eK, A3] <;> omega) (by simp [whs, Go.Ew.hget, go_sem, EObj.closed, closed, A0, A4, eK, A3]) (by first | (simp [*]; done) | (simp only [cxG]; omega)) rfl rfl (by simp)), by simp only; omega⟩
 ·obtain rfl : k = 24 := by omega
  simp (maxSteps := 4000000) (disch := omega) only [go_sem, ↓reduceIte]
  repeat (with_reducible refine And.intro (by omega) ?_)
  refine A2 1000 ?_
  simp (maxSteps := 4000000) (disch := omega) only [go_sem, ↓reduceIte]
  repeat (with_reducible refine And.intro (by fail) ?_)
  exact ⟨BExt.refl _, (), by simp only [closed]; exact A3 _ _ _ _⟩
end Go.Proofs.Ytncjbfkkgdepoaa
namespace Go.Proofs.Ytncjbfkkgdepoaa
open Go RowKit Go.Ew
set_option maxHeartbeats 4000000
theorem Dy8 : D0 Try.f76.ntmps (Try.f76.body.getD .skip) = true := by kernel_rfl
def chX (b a : Nat → L64) (x y : Nat) : Nat → L64 := fun i => if i % 5 < x ∨ (i % 5 = x ∧ i / 5 < y) then chV b i else a i
theorem Ct1 (b a : Nat → L64) {x y i : Nat} (hx : x < 5) : Ac5 (chX b a x y) (x + 5 * y) (b (x + 5 * y) ^^^ (~~~ b ((x + 1) % 5 + 5 * y) &&& b ((x + 2) % 5 + 5 * y))) i = chX b a x (y + 1) i := by
 simp only [Ac5, chX]
 by_cases h : i = x + 5 * y
 ·subst h
  rw [if_pos rfl, if_pos (by omega)]
  unfold chV
  rw [show (x + 5 * y) % 5 = x by omega, show (x + 5 * y) / 5 = y by omega]
 ·rw [if_neg h]
  by_cases h2 : i % 5 < x ∨ i % 5 = x ∧ i / 5 < y
  ·rw [if_pos h2, if_pos (by omega)]
  ·rw [if_neg h2, if_neg (by omega)]
theorem Ci6 (b a : Nat → L64) (x : Nat) {i : Nat} (hi : i < 25) : chX b a x 5 i = chX b a (x + 1) 0 i := by
 simp only [chX]
 by_cases h2 : i % 5 < x ∨ i % 5 = x ∧ i / 5 < 5
 ·rw [if_pos h2, if_pos (by omega)]
 ·rw [if_neg h2, if_neg (by omega)]
theorem Dc7 (b a : Nat → L64) (i : Nat) : chX b a 5 0 i = chV b i := by
 simp only [chX]; rw [if_pos (by omega)]
theorem Dj6 (b a : Nat → L64) : chX b a 0 0 = a := funext fun i => by simp only [chX]; rw [if_neg (by omega)]
theorem Bd9 (a : Nat → L64) : Pure Try.prog 76 [.agg (D5 .u64 (fL a) 25)] (.agg (D5 .u64 (fL (X6 a 24)) 25)) := by
 refine V4 (args := [.agg (D5 .u64 (fL a) 25)]) Ed7 (by simp [closed, A0, C6, A3]) Try.func76 rfl Dy8 (by simp [Try.f76]) (by simp [A0, closed, C6, A3]) (fun w => A2 1000 ?_)
 simp (maxSteps := 4000000) (disch := omega) only [go_sem, ↓reduceIte, Try.f76]
 repeat (with_reducible refine And.intro (by fail) ?_)
 repeat' (first | simp (maxSteps := 4000000) (disch := omega) only [go_sem, ↓reduceIte] | refine R5 (As5) (A2 1000 ?_) | refine R5 (Cy7) (A2 1000 ?_))
 refine H2 (S := Nat) (fun k => k ≤ 24)
  (fun k => ⟨[(5, .int .i64 (k : Nat)), (4, .ptr 3 0), (3, .ptr 2 0), (2, .ptr 1 0), (1, .ptr 0 0)], 4, [(3, some (.cells (D5 .i64 (R3 24) 25) 126 (0, 0))), (2, some (.cells (D5 .u64 (fL (rcF 168)) 24) 129 (0, 0))), (1, some (.cells (D5 .u64 (fun _ => 0) 25) 133 (0, 0))), (0, some (.cells (D5 .u64 (fL (X6 a k)) 25) 133 (0, 0)))], base w, []⟩)
  (fun k => 24 - k) 0 (by simp) (Weak.sub (A6 (by simp [wσ, go_sem, closed, A0, X6, A3]) (by simp [whs, go_sem, EObj.closed, closed, A0, X6, A3]) (by simp [*]) rfl rfl (by simp))) ?_
 intro k hk
 refine A2 1000 ?_
 simp (maxSteps := 4000000) (disch := omega) only [go_sem, ↓reduceIte]
 repeat (with_reducible refine And.intro (by omega) ?_)
 refine A9 (fun h1 => ?_) (fun h1 => ?_)
 all_goals (try simp only [bne_iff_ne, ne_eq, beq_iff_eq, decide_eq_true_eq, decide_eq_false_iff_not, Bool.not_eq_true, Bool.not_eq_false, Bool.not_true, Bool.not_false, bne_eq_false_iff_eq, beq_eq_false_iff_ne, Bool.and_eq_true, Bool.or_eq_true, Bool.and_eq_false_imp, Bool.or_eq_false_iff, Bool.not_eq_true', Bool.not_eq_false', Int.not_lt, Int.not_le] at h1)
 ·generalize hA : X6 a k = A
  simp (maxSteps := 4000000) (disch := omega) only [go_sem, ↓reduceIte]
  repeat (with_reducible refine And.intro (by omega) ?_)
  refine H2 (S := Nat × (Nat → L64)) (fun s => s.1 ≤ 5 ∧ ∀ j, j < s.1 → s.2 j = thC A j)
   (fun s => ⟨[(7, .int .i64 (s.1 : Nat)), (6, .ptr 4 0), (5, .int .i64 (k : Nat)), (4, .ptr 3 0), (3, .ptr 2 0), (2, .ptr 1 0), (1, .ptr 0 0)], 5, [(4, some (.cells (D5 .u64 (fL s.2) 5) 173 (0, 0))), (3, some (.cells (D5 .i64 (R3 24) 25) 126 (0, 0))), (2, some (.cells (D5 .u64 (fL (rcF 168)) 24) 129 (0, 0))), (1, some (.cells (D5 .u64 (fun _ => 0) 25) 133 (0, 0))), (0, some (.cells (D5 .u64 (fL A) 25) 133 (0, 0)))], base w, []⟩)
   (fun s => 5 - s.1) (0, fun _ => 0#64) ⟨by simp, fun j hj => absurd hj (Nat.not_lt_zero j)⟩ (Weak.sub (A6 (by simp [wσ, go_sem, closed, A0, hA, fL0, A3]) (by simp [whs, go_sem, EObj.closed, closed, A0, hA, fL0, A3]) (by simp [*]) rfl rfl (by simp))) ?_
  rintro ⟨x, c⟩ ⟨hx, hc⟩
  simp only at hx hc
  refine A2 1000 ?_
  simp (maxSteps := 4000000) (disch := omega) only [go_sem, ↓reduceIte]
  repeat (with_reducible refine And.intro (by omega) ?_)
  refine A9 (fun h2 => ?_) (fun h2 => ?_)
  all_goals (try simp only [bne_iff_ne, ne_eq, beq_iff_eq, decide_eq_true_eq, decide_eq_false_iff_not, Bool.not_eq_true, Bool.not_eq_false, Bool.not_true, Bool.not_false, bne_eq_false_iff_eq, beq_eq_false_iff_ne, Bool.and_eq_true, Bool.or_eq_true, Bool.and_eq_false_imp, Bool.or_eq_false_iff, Bool.not_eq_true', Bool.not_eq_false', Int.not_lt, Int.not_le] at h2)
  ·have t5 : ((x : Int) + 5).toNat = x + 5 := by omega
   have t10 : ((x : Int) + 10).toNat = x + 10 := by omega
   have t15 : ((x : Int) + 15).toNat = x + 15 := by omega
   have t20 : ((x : Int) + 20).toNat = x + 20 := by omega
   repeat' (first | with_reducible refine And.intro (by omega) ?_ | simp (maxSteps := 4000000) (disch := omega) only [go_sem, ↓reduceIte, Int.toNat_natCast, t5, t10, t15, t20, Ac0, Am7, V9] | with_reducible refine P0 mixed (by kernel_rfl) (Ah1 1000 ?_) | with_reducible refine T0 (by kernel_rfl) (A2 1000 ?_))
   refine ⟨(x + 1, Ac5 c x (thC A x)), ⟨by simp only; omega, fun j hj => ?_⟩, Weak.sub (A6 (by simp [wσ, go_sem, closed, A0, A4, A3, thC] <;> omega) (by simp [whs, Go.Ew.hget, go_sem, EObj.closed, closed, A0, A4, A3, thC]) (by first | (simp [*]; done) | (simp only [cxG]; omega)) rfl rfl (by simp)), by simp only; omega⟩
   simp only [Ac5]
   split
   ·rename_i e; rw [e]
   ·exact hc j (by simp only at hj; omega)
  ·obtain rfl : x = 5 := by omega
   clear hx h2
   refine A2 1000 ?_
   repeat' (simp (maxSteps := 4000000) (disch := omega) only [go_sem, ↓reduceIte, Int.toNat_natCast])
   obtain ⟨A1, hA1⟩ : ∃ A1, A1 = thA A 5 0 := ⟨_, rfl⟩
   -- theta, rho, pi
   refine H2 (S := Nat) (fun x => x ≤ 5)
    (fun x => ⟨[(9, .int .i64 (x : Nat)), (8, .ptr 5 0), (6, .ptr 4 0), (5, .int .i64 (k : Nat)), (4, .ptr 3 0), (3, .ptr 2 0), (2, .ptr 1 0), (1, .ptr 0 0)], 6, [(5, some (.cells (D5 .u64 (fL (rpB A1 (fun _ => 0#64) x 0)) 25) 133 (0, 0))), (4, some (.cells (D5 .u64 (fL c) 5) 173 (0, 0))), (3, some (.cells (D5 .i64 (R3 24) 25) 126 (0, 0))), (2, some (.cells (D5 .u64 (fL (rcF 168)) 24) 129 (0, 0))), (1, some (.cells (D5 .u64 (fun _ => 0) 25) 133 (0, 0))), (0, some (.cells (D5 .u64 (fL A) 25) 133 (0, 0)))], base w, []⟩)
    (fun x => 5 - x) 0 (by simp) (Weak.sub (A6 (by simp [wσ, go_sem, closed, A0, Cp0, fL0, A3]) (by simp [whs, go_sem, EObj.closed, closed, A0, Cp0, fL0, A3]) (by simp [*]) rfl rfl (by simp))) ?_
   intro x hx
   refine A2 1000 ?_
   simp (maxSteps := 4000000) (disch := omega) only [go_sem, ↓reduceIte]
   repeat (with_reducible refine And.intro (by omega) ?_)
   refine A9 (fun h2 => ?_) (fun h2 => ?_)
   all_goals (try simp only [bne_iff_ne, ne_eq, beq_iff_eq, decide_eq_true_eq, decide_eq_false_iff_not, Bool.not_eq_true, Bool.not_eq_false, Bool.not_true, Bool.not_false, bne_eq_false_iff_eq, beq_eq_false_iff_ne, Bool.and_eq_true, Bool.or_eq_true, Bool.and_eq_false_imp, Bool.or_eq_false_iff, Bool.not_eq_true', Bool.not_eq_false', Int.not_lt, Int.not_le] at h2)
   ·repeat' (simp (maxSteps := 4000000) (disch := omega) only [go_sem, ↓reduceIte, Int.toNat_natCast])
    refine H2 (S := Nat) (fun y => y ≤ 5)
     (fun y => ⟨[(10, .int .i64 (y : Nat)), (9, .int .i64 (x : Nat)), (8, .ptr 5 0), (6, .ptr 4 0), (5, .int .i64 (k : Nat)), (4, .ptr 3 0), (3, .ptr 2 0), (2, .ptr 1 0), (1, .ptr 0 0)], 6, [(5, some (.cells (D5 .u64 (fL (rpB A1 (fun _ => 0#64) x y)) 25) 133 (0, 0))), (4, some (.cells (D5 .u64 (fL c) 5) 173 (0, 0))), (3, some (.cells (D5 .i64 (R3 24) 25) 126 (0, 0))), (2, some (.cells (D5 .u64 (fL (rcF 168)) 24) 129 (0, 0))), (1, some (.cells (D5 .u64 (fun _ => 0) 25) 133 (0, 0))), (0, some (.cells (D5 .u64 (fL A) 25) 133 (0, 0)))], base w, []⟩)
     (fun y => 5 - y) 0 (by simp) (Weak.sub (A6 (by simp [wσ, go_sem, closed, A0, A3]) (by simp [whs, go_sem, EObj.closed, closed, A0, A3]) (by simp [*]) rfl rfl (by simp))) ?_
    intro y hy
    refine A2 1000 ?_
    simp (maxSteps := 4000000) (disch := omega) only [go_sem, ↓reduceIte]
    repeat (with_reducible refine And.intro (by omega) ?_)
    refine A9 (fun h3 => ?_) (fun h3 => ?_)
    all_goals (try simp only [bne_iff_ne, ne_eq, beq_iff_eq, decide_eq_true_eq, decide_eq_false_iff_not, Bool.not_eq_true, Bool.not_eq_false, Bool.not_true, Bool.not_false, bne_eq_false_iff_eq, beq_eq_false_iff_ne, Bool.and_eq_true, Bool.or_eq_true, Bool.and_eq_false_imp, Bool.or_eq_false_iff, Bool.not_eq_true', Bool.not_eq_false', Int.not_lt, Int.not_le] at h3)
    ·have t1 : (((x : Int) + 1) % 5).toNat = (x + 1) % 5 := by omega
     have t4 : (((x : Int) + 4) % 5).toNat = (x + 4) % 5 := by omega
     have t7 : ((x : Int) + 5 * (y : Int)).toNat = x + 5 * y := by omega
     have t8 : ((y : Int) + 5 * ((2 * (x : Int) + 3 * (y : Int)) % 5)).toNat = y + 5 * ((2 * x + 3 * y) % 5) := by
      have q : ((2 * (x : Int) + 3 * (y : Int)) % 5) = (((2 * x + 3 * y) % 5 : Nat) : Int) := by push_cast; rfl
      rw [q]; omega
     have hc1 := hc ((x + 1) % 5) (by omega)
     have hc4 := hc ((x + 4) % 5) (by omega)
     have eV : A (x + 5 * y) ^^^ thC A ((x + 4) % 5) ^^^ rot (thC A ((x + 1) % 5)) 1 = A1 (x + 5 * y) := by
      rw [hA1]
      simp only [thA]
      rw [if_pos (by omega), show (x + 5 * y) % 5 = x by omega, BitVec.xor_assoc]; rfl
     have eT := Ca1 (show x + 5 * y < 25 by omega)
     have eC : D5 .u64 (fL (Ac5 (rpB A1 (fun _ => 0#64) x y) (y + 5 * ((2 * x + 3 * y) % 5)) (rot (A1 (x + 5 * y)) (trn (x + 5 * y))))) 25 = D5 .u64 (fL (rpB A1 (fun _ => 0#64) x (y + 1))) 25 := N6 (fun i hi => Bp4 A1 _ (show x < 5 by omega) (show y < 5 by omega) hi)
     repeat' (first | with_reducible refine And.intro (by omega) ?_ | simp (maxSteps := 4000000) (disch := omega) only [go_sem, ↓reduceIte, Int.toNat_natCast, t1, t4, t7, t8, Ac0, hc1, hc4, Am7, eV, eT.1, V9, eC] | with_reducible refine P0 mixed (by kernel_rfl) (Ah1 1000 ?_) | with_reducible refine T0 (by kernel_rfl) (A2 1000 ?_) | refine Bn6 (Cw4 _ 1 (by omega)) (Ah1 1000 ?_) | refine R5 (Cw4 _ _ eT.2) (A2 1000 ?_))
     exact ⟨y + 1, by omega, Weak.sub (A6 (by simp [wσ, go_sem, closed, A0, A4, A3] <;> omega) (by simp [whs, Go.Ew.hget, go_sem, EObj.closed, closed, A0, A4, A3]) (by first | (simp [*]; done) | (simp only [cxG]; omega)) rfl rfl (by simp)), by omega⟩
    ·obtain rfl : y = 5 := by omega
     refine A2 1000 ?_
     repeat' (simp (maxSteps := 4000000) (disch := omega) only [go_sem, ↓reduceIte, Int.toNat_natCast])
     exact ⟨x + 1, by omega, Weak.sub (A6 (by simp [wσ, go_sem, closed, A0, A4, N6 (fun i hi => Ay4 A1 (fun _ => 0#64) x i), A3] <;> omega) (by simp [whs, Go.Ew.hget, go_sem, EObj.closed, closed, A0, A4, N6 (fun i hi => Ay4 A1 (fun _ => 0#64) x i), A3]) (by first | (simp [*]; done) | (simp only [cxG]; omega)) rfl rfl (by simp)), by omega⟩
   ·obtain rfl : x = 5 := by omega
    clear hx h2
    refine A2 1000 ?_
    repeat' (simp (maxSteps := 4000000) (disch := omega) only [go_sem, ↓reduceIte, Int.toNat_natCast])
    obtain ⟨B1, hB1⟩ : ∃ B1, B1 = rpB A1 (fun _ => 0#64) 5 0 := ⟨_, rfl⟩
    simp only [← hB1]
    -- chi
    refine H2 (S := Nat) (fun x => x ≤ 5)
     (fun x => ⟨[(12, .int .i64 (x : Nat)), (8, .ptr 5 0), (5, .int .i64 (k : Nat)), (4, .ptr 3 0), (3, .ptr 2 0), (2, .ptr 1 0), (1, .ptr 0 0)], 6, [(5, some (.cells (D5 .u64 (fL B1) 25) 133 (0, 0))), (3, some (.cells (D5 .i64 (R3 24) 25) 126 (0, 0))), (2, some (.cells (D5 .u64 (fL (rcF 168)) 24) 129 (0, 0))), (1, some (.cells (D5 .u64 (fun _ => 0) 25) 133 (0, 0))), (0, some (.cells (D5 .u64 (fL (chX B1 A x 0)) 25) 133 (0, 0)))], base w, []⟩)
     (fun x => 5 - x) 0 (by simp) (Weak.sub (A6 (by simp [wσ, go_sem, closed, A0, Dj6, A3]) (by simp [whs, go_sem, EObj.closed, closed, A0, Dj6, A3]) (by simp [*]) rfl rfl (by simp))) ?_
    intro x hx
    refine A2 1000 ?_
    simp (maxSteps := 4000000) (disch := omega) only [go_sem, ↓reduceIte]
    repeat (with_reducible refine And.intro (by omega) ?_)
    refine A9 (fun h2 => ?_) (fun h2 => ?_)
    all_goals (try simp only [bne_iff_ne, ne_eq, beq_iff_eq, decide_eq_true_eq, decide_eq_false_iff_not, Bool.not_eq_true, Bool.not_eq_false, Bool.not_true, Bool.not_false, bne_eq_false_iff_eq, beq_eq_false_iff_ne, Bool.and_eq_true, Bool.or_eq_true, Bool.and_eq_false_imp, Bool.or_eq_false_iff, Bool.not_eq_true', Bool.not_eq_false', Int.not_lt, Int.not_le] at h2)
    ·repeat' (simp (maxSteps := 4000000) (disch := omega) only [go_sem, ↓reduceIte, Int.toNat_natCast])
     refine H2 (S := Nat) (fun y => y ≤ 5)
      (fun y => ⟨[(13, .int .i64 (y : Nat)), (12, .int .i64 (x : Nat)), (8, .ptr 5 0), (5, .int .i64 (k : Nat)), (4, .ptr 3 0), (3, .ptr 2 0), (2, .ptr 1 0), (1, .ptr 0 0)], 6, [(5, some (.cells (D5 .u64 (fL B1) 25) 133 (0, 0))), (3, some (.cells (D5 .i64 (R3 24) 25) 126 (0, 0))), (2, some (.cells (D5 .u64 (fL (rcF 168)) 24) 129 (0, 0))), (1, some (.cells (D5 .u64 (fun _ => 0) 25) 133 (0, 0))), (0, some (.cells (D5 .u64 (fL (chX B1 A x y)) 25) 133 (0, 0)))], base w, []⟩)
      (fun y => 5 - y) 0 (by simp) (Weak.sub (A6 (by simp [wσ, go_sem, closed, A0, A3]) (by simp [whs, go_sem, EObj.closed, closed, A0, A3]) (by simp [*]) rfl rfl (by simp))) ?_
     intro y hy
     refine A2 1000 ?_
     simp (maxSteps := 4000000) (disch := omega) only [go_sem, ↓reduceIte]
     repeat (with_reducible refine And.intro (by omega) ?_)
     refine A9 (fun h3 => ?_) (fun h3 => ?_)
     all_goals (try simp only [bne_iff_ne, ne_eq, beq_iff_eq, decide_eq_true_eq, decide_eq_false_iff_not, Bool.not_eq_true, Bool.not_eq_false, Bool.not_true, Bool.not_false, bne_eq_false_iff_eq, beq_eq_false_iff_ne, Bool.and_eq_true, Bool.or_eq_true, Bool.and_eq_false_imp, Bool.or_eq_false_iff, Bool.not_eq_true', Bool.not_eq_false', Int.not_lt, Int.not_le] at h3)
     ·have t7 : ((x : Int) + 5 * (y : Int)).toNat = x + 5 * y := by omega
      have t8 : (((x : Int) + 1) % 5 + 5 * (y : Int)).toNat = (x + 1) % 5 + 5 * y := by omega
      have t9 : (((x : Int) + 2) % 5 + 5 * (y : Int)).toNat = (x + 2) % 5 + 5 * y := by omega
      have eC : D5 .u64 (fL (Ac5 (chX B1 A x y) (x + 5 * y) (B1 (x + 5 * y) ^^^ (~~~ B1 ((x + 1) % 5 + 5 * y) &&& B1 ((x + 2) % 5 + 5 * y))))) 25 = D5 .u64 (fL (chX B1 A x (y + 1))) 25 := N6 (fun i hi => Ct1 B1 A (show x < 5 by omega))
      repeat' (first | with_reducible refine And.intro (by omega) ?_ | simp (maxSteps := 4000000) (disch := omega) only [go_sem, ↓reduceIte, Int.toNat_natCast, t7, t8, t9, Ac0, Am7, Dk5, Da8, Cv9, V9, eC] | with_reducible refine P0 mixed (by kernel_rfl) (Ah1 1000 ?_) | with_reducible refine T0 (by kernel_rfl) (A2 1000 ?_))
      exact ⟨y + 1, by omega, Weak.sub (A6 (by simp [wσ, go_sem, closed, A0, A4, A3] <;> omega) (by simp [whs, Go.Ew.hget, go_sem, EObj.closed, closed, A0, A4, A3]) (by first | (simp [*]; done) | (simp only [cxG]; omega)) rfl rfl (by simp)), by omega⟩
     ·obtain rfl : y = 5 := by omega
      refine A2 1000 ?_
      repeat' (simp (maxSteps := 4000000) (disch := omega) only [go_sem, ↓reduceIte, Int.toNat_natCast])
      exact ⟨x + 1, by omega, Weak.sub (A6 (by simp [wσ, go_sem, closed, A0, A4, N6 (fun i hi => Ci6 B1 A x hi), A3] <;> omega) (by simp [whs, Go.Ew.hget, go_sem, EObj.closed, closed, A0, A4, N6 (fun i hi => Ci6 B1 A x hi), A3]) (by first | (simp [*]; done) | (simp only [cxG]; omega)) rfl rfl (by simp)), by omega⟩
    ·obtain rfl : x = 5 := by omega
     clear hx h2
     refine A2 1000 ?_
     repeat' (first | with_reducible refine And.intro (by omega) ?_ | simp (maxSteps := 4000000) (disch := omega) only [go_sem, ↓reduceIte, Int.toNat_natCast, Ac0, Am7, V9] | with_reducible refine P0 mixed (by kernel_rfl) (Ah1 1000 ?_) | with_reducible refine T0 (by kernel_rfl) (A2 1000 ?_))
     have eK : D5 .u64 (fL (Ac5 (chX B1 A 5 0) 0 (chX B1 A 5 0 0 ^^^ rcF 168 k))) 25 = D5 .u64 (fL (X6 a (k + 1))) 25 := by
      have e1 : ∀ i, i < 25 → chX B1 A 5 0 i = chV (rpV A1) i := fun i hi => by
       rw [Dc7 B1 A i]
       exact Bh4 (fun j hj => by rw [hB1, Cb6]) hi
      refine N6 (fun i hi => ?_)
      simp only [X6, Ak6, hA, ← hA1, Ac5]
      split
      ·rw [e1 0 (by omega)]
      ·exact e1 i hi
     exact ⟨k + 1, by omega, Weak.sub (A6 (by simp [wσ, go_sem, closed, A0, A4, eK, A3] <;> omega) (by simp [whs, Go.Ew.hget, go_sem, EObj.closed, closed, A0, A4, eK, A3]) (by first | (simp [*]; done) | (simp only [cxG]; omega)) rfl rfl (by simp)), by omega⟩
 ·obtain rfl : k = 24 := by omega
  simp (maxSteps := 4000000) (disch := omega) only [go_sem, ↓reduceIte]
  repeat (with_reducible refine And.intro (by omega) ?_)
  refine A2 1000 ?_
  simp (maxSteps := 4000000) (disch := omega) only [go_sem, ↓reduceIte]
  repeat (with_reducible refine And.intro (by fail) ?_)
end Go.Proofs.Ytncjbfkkgdepoaa
