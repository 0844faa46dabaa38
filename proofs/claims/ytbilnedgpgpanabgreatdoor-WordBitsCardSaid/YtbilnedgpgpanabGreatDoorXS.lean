/- Part of a proof over the seat YtbilnedgpgpanabGreatDoor. -/
import Derived.Test.YtbilnedgpgpanabGreatDoorXR
import Derived.Test.YtbilnedgpgpanabGreatDoorXE
import Derived.Test.YtbilnedgpgpanabGreatDoorWE
namespace Go.Proofs.YtbilnedgpgpanabGreatDoor
open Go RowKit Go.Ew
set_option maxRecDepth 100000
set_option linter.unusedSimpArgs false
set_option linter.unusedVariables false
set_option maxHeartbeats 1000000
theorem in8 : codeIn Tryz.f8.ntmps (Tryz.f8.body.getD .skip) = true := by kernel_rfl
theorem of_testBit {a b i j : Nat} (h : a.testBit i = b.testBit j) : a / 2 ^ i % 2 = b / 2 ^ j % 2 := by
  rw [Nat.testBit_eq_decide_div_mod_eq, Nat.testBit_eq_decide_div_mod_eq, decide_eq_decide] at h
  omega
theorem shl_bit (x s j : Nat) (hj : j < 256) : (x * 2 ^ s % 115792089237316195423570985008687907853269984665640564039457584007913129639936).testBit j = (decide (s ≤ j) && x.testBit (j - s)) := by
  rw [show (115792089237316195423570985008687907853269984665640564039457584007913129639936 : Nat) = 2 ^ 256 by decide, Nat.testBit_mod_two_pow, ← Nat.shiftLeft_eq, Nat.testBit_shiftLeft]
  simp [hj]
theorem div_bit (y s j : Nat) : (y / 2 ^ s).testBit j = y.testBit (s + j) := by
  rw [← Nat.shiftRight_eq_div_pow, Nat.testBit_shiftRight]
theorem neg_bit {y : Nat} (hy : y < 115792089237316195423570985008687907853269984665640564039457584007913129639936) (j : Nat) : (115792089237316195423570985008687907853269984665640564039457584007913129639936 - 1 - y).testBit j = (decide (j < 256) && !y.testBit j) := by
  have := Nat.testBit_two_pow_sub_succ (n := 256) hy j
  rw [← this, show (2 : Nat) ^ 256 - (y + 1) = 115792089237316195423570985008687907853269984665640564039457584007913129639936 - 1 - y by rw [show (2 : Nat) ^ 256 = 115792089237316195423570985008687907853269984665640564039457584007913129639936 by decide]; omega]
theorem sx_bit (k x : Nat) (hk : k < 31) (hx : x < 115792089237316195423570985008687907853269984665640564039457584007913129639936) (j : Nat) (hj : j < 256) : x / 2 ^ (min j (8 * k + 7)) % 2 = sexN k x / 2 ^ j % 2 := by
  apply of_testBit
  unfold sexN
  rw [if_pos hk]
  obtain ⟨s, hs⟩ : ∃ s, s = 248 - 8 * k := ⟨_, rfl⟩
  rw [← hs]
  have hm : 8 * k + 7 = 255 - s := by omega
  rw [hm]
  have hyl : x * 2 ^ s % 115792089237316195423570985008687907853269984665640564039457584007913129639936 < 115792089237316195423570985008687907853269984665640564039457584007913129639936 := Nat.mod_lt _ (by decide)
  have hbit := fun j hj => shl_bit x s j hj
  have h255 := hbit 255 (by omega)
  rw [show decide (s ≤ 255) = true by simp; omega, Bool.true_and] at h255
  generalize x * 2 ^ s % 115792089237316195423570985008687907853269984665640564039457584007913129639936 = y at *
  unfold sarN
  have hs256 : s < 256 := by omega
  rw [if_pos hs256, if_pos hs256]
  split
  · rename_i hH
    have hz : (115792089237316195423570985008687907853269984665640564039457584007913129639936 - 1 - y) / 2 ^ s < 115792089237316195423570985008687907853269984665640564039457584007913129639936 := Nat.lt_of_le_of_lt (Nat.div_le_self _ _) (by omega)
    have ht : x.testBit (255 - s) = true := by
      rw [← h255, Nat.testBit_eq_decide_div_mod_eq]
      simp only [decide_eq_true_eq]
      have : y / 2 ^ 255 = 1 := by
        apply Nat.div_eq_of_lt_le <;> simp <;> omega
      rw [this]
    rw [neg_bit hz, div_bit, neg_bit hyl]
    simp only [hj, decide_true, Bool.true_and]
    by_cases hjm : s + j < 256
    · rw [show min j (255 - s) = j by omega, hbit _ hjm]
      simp [hjm]
    · rw [show min j (255 - s) = 255 - s by omega, ht]
      simp [hjm]
  · rename_i hH
    have ht : x.testBit (255 - s) = false := by
      rw [← h255]
      exact Nat.testBit_lt_two_pow (by simp; omega)
    rw [div_bit]
    by_cases hjm : s + j < 256
    · rw [show min j (255 - s) = j by omega, hbit _ hjm]
      simp
    · rw [show min j (255 - s) = 255 - s by omega, ht]
      exact (Nat.testBit_lt_two_pow (Nat.lt_of_lt_of_le hyl (show (2 : Nat) ^ 256 ≤ 2 ^ (s + j) from Nat.pow_le_pow_right (by omega) (by omega)))).symm
theorem sexN_lt' {k x : Nat} (hx : x < 115792089237316195423570985008687907853269984665640564039457584007913129639936) : sexN k x < 115792089237316195423570985008687907853269984665640564039457584007913129639936 := by
  unfold sexN; split
  · exact sarN_lt (Nat.mod_lt _ (by decide))
  · exact hx
end Go.Proofs.YtbilnedgpgpanabGreatDoor
