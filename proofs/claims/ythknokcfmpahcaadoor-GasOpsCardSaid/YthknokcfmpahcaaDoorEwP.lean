/- Bits of numbers that are in their kind. -/
import Derived.Test.YthknokcfmpahcaaDoorEwO
import Derived.Test.YthknokcfmpahcaaDoorEwM
set_option linter.unusedSimpArgs false
namespace Go.Ew
open Go
theorem ofInt_u64 {a : Int} (h0 : 0 ≤ a) (h1 : a < 18446744073709551616) : (BitVec.ofInt 64 a).toNat = a.toNat := by
  simp only [BitVec.toNat_ofInt]; omega
theorem bOr_u64 {a b : Int} (ha : 0 ≤ a) (ha' : a < 18446744073709551616) (hb : 0 ≤ b) (hb' : b < 18446744073709551616) : bOr .u64 a b = ((a.toNat ||| b.toNat : Nat) : Int) := by
  have e : (BitVec.ofInt 64 a ||| BitVec.ofInt 64 b).toNat = a.toNat ||| b.toNat := by rw [BitVec.toNat_or, ofInt_u64 ha ha', ofInt_u64 hb hb']
  have hlt : a.toNat ||| b.toNat < 2 ^ 64 := Nat.or_lt_two_pow (by omega) (by omega)
  show IntKind.u64.wrap ((BitVec.ofInt 64 a ||| BitVec.ofInt 64 b).toNat : Int) = _
  rw [e, wrap_u64 (by omega) (by omega)]
theorem bAnd_u64 {a b : Int} (ha : 0 ≤ a) (ha' : a < 18446744073709551616) (hb : 0 ≤ b) (hb' : b < 18446744073709551616) : bAnd .u64 a b = ((a.toNat &&& b.toNat : Nat) : Int) := by
  have e : (BitVec.ofInt 64 a &&& BitVec.ofInt 64 b).toNat = a.toNat &&& b.toNat := by rw [BitVec.toNat_and, ofInt_u64 ha ha', ofInt_u64 hb hb']
  have hlt : a.toNat &&& b.toNat < 2 ^ 64 := Nat.and_lt_two_pow _ (by omega)
  show IntKind.u64.wrap ((BitVec.ofInt 64 a &&& BitVec.ofInt 64 b).toNat : Int) = _
  rw [e, wrap_u64 (by omega) (by omega)]
theorem bXor_u64 {a b : Int} (ha : 0 ≤ a) (ha' : a < 18446744073709551616) (hb : 0 ≤ b) (hb' : b < 18446744073709551616) : bXor .u64 a b = ((a.toNat ^^^ b.toNat : Nat) : Int) := by
  have e : (BitVec.ofInt 64 a ^^^ BitVec.ofInt 64 b).toNat = a.toNat ^^^ b.toNat := by rw [BitVec.toNat_xor, ofInt_u64 ha ha', ofInt_u64 hb hb']
  have hlt : a.toNat ^^^ b.toNat < 2 ^ 64 := Nat.xor_lt_two_pow (by omega) (by omega)
  show IntKind.u64.wrap ((BitVec.ofInt 64 a ^^^ BitVec.ofInt 64 b).toNat : Int) = _
  rw [e, wrap_u64 (by omega) (by omega)]
theorem bOr_lt {a b : Int} (ha : 0 ≤ a) (ha' : a < 18446744073709551616) (hb : 0 ≤ b) (hb' : b < 18446744073709551616) : 0 ≤ bOr .u64 a b ∧ bOr .u64 a b < 18446744073709551616 := by
  rw [bOr_u64 ha ha' hb hb']
  have hlt : a.toNat ||| b.toNat < 2 ^ 64 := Nat.or_lt_two_pow (by omega) (by omega)
  omega
theorem bOr_zero {a b : Int} (ha : 0 ≤ a) (ha' : a < 18446744073709551616) (hb : 0 ≤ b) (hb' : b < 18446744073709551616) : bOr .u64 a b = 0 ↔ a = 0 ∧ b = 0 := by
  rw [bOr_u64 ha ha' hb hb']
  constructor
  · intro h
    have h2 : a.toNat ||| b.toNat = 0 := by omega
    rw [Nat.or_eq_zero_iff] at h2
    omega
  · rintro ⟨rfl, rfl⟩; simp
end Go.Ew
