/- Part of a proof over the seat YtbilnedgpgpanabGreatDoor. -/
import Derived.Test.YtbilnedgpgpanabGreatDoorWV
import Derived.Test.YtbilnedgpgpanabGreatDoorEng3
namespace Go.Proofs.YtbilnedgpgpanabGreatDoor
open Go RowKit Go.Ew
set_option maxRecDepth 100000
set_option linter.unusedSimpArgs false
set_option linter.unusedVariables false
set_option maxHeartbeats 1000000
/-- Halves of limbs: 2^32. -/
structure MIn (x y i : Nat) (z : Nat → Int) : Prop where
  bd : ∀ j, 0 ≤ z j ∧ z j < 4294967296
  v : num 4294967296 z 17 = ((x % 4294967296 ^ i * y : Nat) : Int)
  z : ∀ j, i + 8 ≤ j → z j = 0
structure MIn2 (x y i k : Nat) (z : Nat → Int) (c : Int) : Prop where
  bd : ∀ j, 0 ≤ z j ∧ z j < 4294967296
  c0 : 0 ≤ c
  c1 : c < 4294967296
  v : num 4294967296 z 17 + c * (4294967296 ^ (i + k) : Nat) = ((x % 4294967296 ^ i * y + (x / 4294967296 ^ i % 4294967296) * (y % 4294967296 ^ k) * 4294967296 ^ i : Nat) : Int)
  z : ∀ j, i + 8 ≤ j → z j = 0
theorem setF_bd32 {z : Nat → Int} {j : Nat} {v : Int} (h : ∀ j, 0 ≤ z j ∧ z j < 4294967296) (h0 : 0 ≤ v) (h1 : v < 4294967296) : ∀ i, 0 ≤ setF z j v i ∧ setF z j v i < 4294967296 := by
  intro i; unfold setF; split
  · exact ⟨h0, h1⟩
  · exact h i
theorem wide_step32 {N c p z0 lo c' P R : Int} (h : N + c * P = R) (hs : z0 + c + p = lo + c' * 4294967296) : N + (lo - z0) * P + c' * (P * 4294967296) = R + p * P := by
  grind
theorem MIn2.next {x y i k : Nat} {z : Nat → Int} {c lo c' : Int} (h : MIn2 x y i k z c) (hi : i < 8) (hk : k < 8) (l0 : 0 ≤ lo) (l1 : lo < 4294967296) (c0 : 0 ≤ c') (c1 : c' < 4294967296)
    (hs : z (i + k) + c + dig 4294967296 x i * dig 4294967296 y k = lo + c' * 4294967296) : MIn2 x y i (k + 1) (setF z (i + k) lo) c' := by
  refine ⟨setF_bd32 h.bd l0 l1, c0, c1, ?_, fun j hj => by simp only [setF]; rw [if_neg (by omega)]; exact h.z j hj⟩
  rw [num_setF (by omega)]
  have e1 : ((4294967296 ^ (i + (k + 1)) : Nat) : Int) = (4294967296 ^ (i + k) : Nat) * 4294967296 := by rw [← Nat.add_assoc, Nat.pow_succ]; simp
  rw [e1, wide_step32 h.v hs]
  rw [Nat.mod_pow_succ (x := y)]
  unfold dig
  simp only [Int.natCast_add, Int.natCast_mul, Nat.pow_add, Int.mul_add, Int.add_mul]
  generalize ((x % 4294967296 ^ i : Nat) : Int) = a
  generalize ((x / 4294967296 ^ i % 4294967296 : Nat) : Int) = b
  generalize ((y / 4294967296 ^ k % 4294967296 : Nat) : Int) = d
  generalize ((y % 4294967296 ^ k : Nat) : Int) = e
  generalize ((4294967296 ^ i : Nat) : Int) = p
  generalize ((4294967296 ^ k : Nat) : Int) = q
  grind
end Go.Proofs.YtbilnedgpgpanabGreatDoor
