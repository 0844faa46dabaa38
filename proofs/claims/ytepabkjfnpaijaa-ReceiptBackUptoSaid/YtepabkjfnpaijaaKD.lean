/- Part of a proof over the seat Ytepabkjfnpaijaa. -/
import Derived.Test.YtepabkjfnpaijaaKB
namespace Go.Proofs.Ytepabkjfnpaijaa
open Go RowKit Go.Ew
set_option maxRecDepth 100000
set_option linter.unusedSimpArgs false
set_option linter.unusedVariables false
set_option maxHeartbeats 4000000
def thC (a : Nat → L64) (x : Nat) : L64 := a x ^^^ a (x + 5) ^^^ a (x + 10) ^^^ a (x + 15) ^^^ a (x + 20)
def thD (a : Nat → L64) (x : Nat) : L64 := thC a ((x + 4) % 5) ^^^ rot (thC a ((x + 1) % 5)) 1
/-- Behind x rows and y lanes of theta. -/
def thA (a : Nat → L64) (x y : Nat) : Nat → L64 := fun i => if i % 5 < x ∨ (i % 5 = x ∧ i / 5 < y) then a i ^^^ thD a (i % 5) else a i
/-- How far a lane is turned. -/
def trn (i : Nat) : Nat := (turnF 24 i).toNat
theorem trn_all : (List.range 25).all (fun i => decide (0 ≤ turnF 24 i ∧ turnF 24 i < 64)) = true := by decide +kernel
theorem trn_lt {i : Nat} (h : i < 25) : turnF 24 i = (trn i : Int) ∧ trn i < 64 := by
  have := List.all_eq_true.1 trn_all i (List.mem_range.2 h)
  simp only [decide_eq_true_eq] at this
  unfold trn; omega
def rpV (a : Nat → L64) (i : Nat) : L64 := rot (a ((3 * (i / 5) + i % 5) % 5 + 5 * (i % 5))) (trn ((3 * (i / 5) + i % 5) % 5 + 5 * (i % 5)))
def rpB (a b : Nat → L64) (x y : Nat) : Nat → L64 := fun i => if (3 * (i / 5) + i % 5) % 5 < x ∨ ((3 * (i / 5) + i % 5) % 5 = x ∧ i % 5 < y) then rpV a i else b i
def chV (b : Nat → L64) (i : Nat) : L64 := b i ^^^ (~~~ b ((i % 5 + 1) % 5 + 5 * (i / 5)) &&& b ((i % 5 + 2) % 5 + 5 * (i / 5)))
def chA (b a : Nat → L64) (x y : Nat) : Nat → L64 := fun i => if i / 5 < y ∨ (i / 5 = y ∧ i % 5 < x) then chV b i else a i
def kround (rc : L64) (a : Nat → L64) : Nat → L64 := setL (chV (rpV (thA a 5 0))) 0 (chV (rpV (thA a 5 0)) 0 ^^^ rc)
def kperm (a : Nat → L64) : Nat → (Nat → L64)
  | 0 => a
  | k + 1 => kround (rcF 168 k) (kperm a k)
theorem ints_fL {n : Nat} {f g : Nat → L64} (h : ∀ i, i < n → f i = g i) : ints .u64 (fL f) n = ints .u64 (fL g) n := ints_congr (fun i hi => by simp only [fL, h i hi])
theorem thA_step (a : Nat → L64) {x y : Nat} (hx : x < 5) : setL (thA a x y) (x + 5 * y) (thA a x y (x + 5 * y) ^^^ thD a x) = thA a x (y + 1) := by
  funext i
  simp only [setL, thA]
  by_cases h : i = x + 5 * y
  · subst h
    rw [if_pos rfl, if_neg (by omega), if_pos (by omega), show (x + 5 * y) % 5 = x by omega]
  · rw [if_neg h]
    by_cases h2 : i % 5 < x ∨ i % 5 = x ∧ i / 5 < y
    · rw [if_pos h2, if_pos (by omega)]
    · rw [if_neg h2, if_neg (by omega)]
theorem thA_row (a : Nat → L64) (x : Nat) {i : Nat} (hi : i < 25) : thA a x 5 i = thA a (x + 1) 0 i := by
  simp only [thA]
  by_cases h2 : i % 5 < x ∨ i % 5 = x ∧ i / 5 < 5
  · rw [if_pos h2, if_pos (by omega)]
  · rw [if_neg h2, if_neg (by omega)]
theorem rpB_step (a b : Nat → L64) {x y i : Nat} (hx : x < 5) (hy : y < 5) (hi : i < 25) : setL (rpB a b x y) (y + 5 * ((2 * x + 3 * y) % 5)) (rot (a (x + 5 * y)) (trn (x + 5 * y))) i = rpB a b x (y + 1) i := by
  simp only [setL, rpB]
  by_cases h : i = y + 5 * ((2 * x + 3 * y) % 5)
  · rw [if_pos h]
    have e1 : i % 5 = y := by omega
    have e2 : (3 * (i / 5) + i % 5) % 5 = x := by omega
    rw [if_pos (by omega)]
    unfold rpV
    rw [e2, e1]
  · rw [if_neg h]
    by_cases h2 : (3 * (i / 5) + i % 5) % 5 < x ∨ (3 * (i / 5) + i % 5) % 5 = x ∧ i % 5 < y
    · rw [if_pos h2, if_pos (by omega)]
    · rw [if_neg h2, if_neg (by omega)]
theorem rpB_row (a b : Nat → L64) (x i : Nat) : rpB a b x 5 i = rpB a b (x + 1) 0 i := by
  simp only [rpB]
  by_cases h2 : (3 * (i / 5) + i % 5) % 5 < x ∨ (3 * (i / 5) + i % 5) % 5 = x ∧ i % 5 < 5
  · rw [if_pos h2, if_pos (by omega)]
  · rw [if_neg h2, if_neg (by omega)]
theorem rpB_end (a b : Nat → L64) (i : Nat) : rpB a b 5 0 i = rpV a i := by
  simp only [rpB]; rw [if_pos (by omega)]
theorem chA_step (b a : Nat → L64) {x y i : Nat} (hx : x < 5) : setL (chA b a x y) (x + 5 * y) (b (x + 5 * y) ^^^ (~~~ b ((x + 1) % 5 + 5 * y) &&& b ((x + 2) % 5 + 5 * y))) i = chA b a (x + 1) y i := by
  simp only [setL, chA]
  by_cases h : i = x + 5 * y
  · subst h
    rw [if_pos rfl, if_pos (by omega)]
    unfold chV
    rw [show (x + 5 * y) % 5 = x by omega, show (x + 5 * y) / 5 = y by omega]
  · rw [if_neg h]
    by_cases h2 : i / 5 < y ∨ i / 5 = y ∧ i % 5 < x
    · rw [if_pos h2, if_pos (by omega)]
    · rw [if_neg h2, if_neg (by omega)]
theorem chA_row (b a : Nat → L64) (y i : Nat) : chA b a 5 y i = chA b a 0 (y + 1) i := by
  simp only [chA]
  by_cases h2 : i / 5 < y ∨ i / 5 = y ∧ i % 5 < 5
  · rw [if_pos h2, if_pos (by omega)]
  · rw [if_neg h2, if_neg (by omega)]
theorem chA_end (b a : Nat → L64) {i : Nat} (hi : i < 25) : chA b a 0 5 i = chV b i := by
  simp only [chA]; rw [if_pos (by omega)]
theorem thA_zero (a : Nat → L64) (i : Nat) : thA a 0 0 i = a i := by simp only [thA]; rw [if_neg (by omega)]
theorem rpB_zero (a b : Nat → L64) (i : Nat) : rpB a b 0 0 i = b i := by simp only [rpB]; rw [if_neg (by omega)]
theorem chA_zero (b a : Nat → L64) (i : Nat) : chA b a 0 0 i = a i := by simp only [chA]; rw [if_neg (by omega)]
/-- chi looks at lanes below 25 only. -/
theorem chV_congr {b b' : Nat → L64} (h : ∀ i, i < 25 → b i = b' i) {i : Nat} (hi : i < 25) : chV b i = chV b' i := by
  unfold chV; rw [h i hi, h _ (by omega), h _ (by omega)]
end Go.Proofs.Ytepabkjfnpaijaa

