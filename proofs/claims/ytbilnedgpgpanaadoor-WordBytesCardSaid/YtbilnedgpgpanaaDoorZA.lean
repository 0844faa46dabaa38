/- Part of a proof over the seat YtbilnedgpgpanaaDoor. -/
import Derived.Test.YtbilnedgpgpanaaDoorXO
import Derived.Test.YtbilnedgpgpanaaDoorXT
namespace Go.Proofs.YtbilnedgpgpanaaDoor
open Go RowKit Go.Ew
set_option maxRecDepth 100000
set_option linter.unusedSimpArgs false
set_option linter.unusedVariables false
set_option maxHeartbeats 2000000
theorem in58 : codeIn Tryd.f58.ntmps (Tryd.f58.body.getD .skip) = true := by kernel_rfl
theorem in54 : codeIn Tryd.f54.ntmps (Tryd.f54.body.getD .skip) = true := by kernel_rfl
theorem set_byte (M c e q : Nat) (hc : c < 256) (he : e % 8 = 0) : dig 18446744073709551616 (M * 2 ^ (e + 8) + c * 2 ^ e) q = if q = e / 64 then dig 18446744073709551616 (M * 2 ^ (e + 8)) q + ((c * 2 ^ (e % 64) : Nat) : Int) else dig 18446744073709551616 (M * 2 ^ (e + 8)) q := by
  have hB : (18446744073709551616 : Nat) = 2 ^ 64 := by decide
  have hK : c * 2 ^ (e % 64) < 2 ^ (e % 64 + 8) := by
    rw [Nat.pow_add, Nat.mul_comm]
    exact Nat.mul_lt_mul_of_pos_left (by omega) (Nat.pow_pos (by omega))
  split
  · rename_i h; subst h
    have e1 : (2 : Nat) ^ e = 18446744073709551616 ^ (e / 64) * 2 ^ (e % 64) := by rw [hB, ← Nat.pow_mul, ← Nat.pow_add]; congr 1; omega
    have hP : 0 < 18446744073709551616 ^ (e / 64) := Nat.pow_pos (by omega)
    have hD : (18446744073709551616 : Nat) = 2 ^ (e % 64 + 8) * 2 ^ (56 - e % 64) := by rw [← Nat.pow_add, hB]; congr 1; omega
    have a1 : (M * 2 ^ (e + 8) + c * 2 ^ e) / 18446744073709551616 ^ (e / 64) = M * 2 ^ (e % 64 + 8) + c * 2 ^ (e % 64) := by
      rw [Nat.pow_add, e1, show M * (18446744073709551616 ^ (e / 64) * 2 ^ (e % 64) * 2 ^ 8) + c * (18446744073709551616 ^ (e / 64) * 2 ^ (e % 64)) = 18446744073709551616 ^ (e / 64) * (M * 2 ^ (e % 64 + 8) + c * 2 ^ (e % 64)) by rw [Nat.pow_add]; grind, Nat.mul_div_cancel_left _ hP]
    have a2 : M * 2 ^ (e + 8) / 18446744073709551616 ^ (e / 64) = M * 2 ^ (e % 64 + 8) := by
      rw [Nat.pow_add, e1, show M * (18446744073709551616 ^ (e / 64) * 2 ^ (e % 64) * 2 ^ 8) = 18446744073709551616 ^ (e / 64) * (M * 2 ^ (e % 64 + 8)) by rw [Nat.pow_add]; grind, Nat.mul_div_cancel_left _ hP]
    have a3 : (M * 2 ^ (e % 64 + 8) + c * 2 ^ (e % 64)) % 18446744073709551616 = M * 2 ^ (e % 64 + 8) % 18446744073709551616 + c * 2 ^ (e % 64) := by
      generalize c * 2 ^ (e % 64) = K at *
      rw [hD, Nat.mul_comm (2 ^ (e % 64 + 8)) (2 ^ (56 - e % 64))]
      rw [Nat.mul_mod_mul_right]
      rw [Nat.mul_comm (2 ^ (56 - e % 64)), Nat.mod_mul, Nat.add_comm (M * 2 ^ (e % 64 + 8)), Nat.add_mul_mod_self_right, Nat.mod_eq_of_lt hK, Nat.add_mul_div_right _ _ (Nat.pow_pos (by omega)), Nat.div_eq_of_lt hK, Nat.zero_add]
      rw [Nat.mul_comm (2 ^ (e % 64 + 8))]; omega
    rw [dig, dig, a1, a2, a3]; omega
  · rename_i h
    rcases Nat.lt_or_ge q (e / 64) with hlt | hge
    · have e1 : (2 : Nat) ^ e = 18446744073709551616 ^ q * (18446744073709551616 * 2 ^ (e - 64 * (q + 1))) := by
        rw [← Nat.mul_assoc, ← Nat.pow_succ, hB, ← Nat.pow_mul, ← Nat.pow_add]; congr 1; omega
      have hP : 0 < 18446744073709551616 ^ q := Nat.pow_pos (by omega)
      have e2 : c * 2 ^ e = 18446744073709551616 ^ q * (18446744073709551616 * (c * 2 ^ (e - 64 * (q + 1)))) := by rw [e1]; grind
      rw [dig, dig, e2, Nat.add_mul_div_left _ _ hP, Nat.add_mul_mod_self_left]
    · have e1 : (18446744073709551616 : Nat) ^ q = 2 ^ (e + 8) * 2 ^ (64 * q - (e + 8)) := by
        rw [hB, ← Nat.pow_mul, ← Nat.pow_add]; congr 1; omega
      have hT : c * 2 ^ e < 2 ^ (e + 8) := by
        rw [Nat.pow_add, Nat.mul_comm]
        exact Nat.mul_lt_mul_of_pos_left (by omega) (Nat.pow_pos (by omega))
      rw [dig, dig, e1, ← Nat.div_div_eq_div_mul, ← Nat.div_div_eq_div_mul, Nat.mul_div_cancel _ (Nat.pow_pos (by omega)), Nat.add_comm, Nat.add_mul_div_right _ _ (Nat.pow_pos (by omega)), Nat.div_eq_of_lt hT, Nat.zero_add]
/-- The number that the first i bytes are. -/
def mN (z : Nat → Int) : Nat → Nat
  | 0 => 0
  | i + 1 => mN z i * 256 + (z i).toNat
theorem num_shift (b : Nat) (f : Nat → Int) : ∀ k, num b f (k + 1) = f 0 + b * num b (fun j => f (j + 1)) k
  | 0 => by simp [num]
  | k + 1 => by
    rw [num, num_shift b f k, num]
    have : ((b ^ (k + 1) : Nat) : Int) = (b : Int) * ((b ^ k : Nat) : Int) := by rw [Nat.pow_succ]; simp [Int.mul_comm]
    rw [this]
    grind
theorem mN_last {z : Nat → Int} (hz : ∀ j, 0 ≤ z j ∧ z j < 256) : ∀ L, (mN z L : Int) = num 256 (fun j => z (L - 1 - j)) L
  | 0 => rfl
  | L + 1 => by
    rw [num_shift, mN]
    have h := mN_last hz L
    have h2 := hz L
    have e : num 256 (fun j => z (L + 1 - 1 - (j + 1))) L = num 256 (fun j => z (L - 1 - j)) L := num_congr (fun i hi => by show z (L + 1 - 1 - (i + 1)) = z (L - 1 - i); congr 1; omega)
    rw [e, ← h]
    simp only [Nat.add_sub_cancel, Nat.sub_zero]
    omega
theorem mN_lastN {z : Nat → Int} (hz : ∀ j, 0 ≤ z j ∧ z j < 256) (L : Nat) : mN z L = lastN z L L := by
  have h1 := mN_last hz L
  have h2 := (lastN_lt hz L L).1
  omega
theorem mN_lt {z : Nat → Int} (hz : ∀ j, 0 ≤ z j ∧ z j < 256) : ∀ i, mN z i < 256 ^ i
  | 0 => by simp [mN]
  | i + 1 => by
    have h1 := mN_lt hz i
    have h2 := hz i
    rw [mN, Nat.pow_succ]; omega
end Go.Proofs.YtbilnedgpgpanaaDoor
