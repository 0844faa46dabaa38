/- Part of a proof over the seat Ytepabkjfnpaijaa. -/
import Derived.Test.YtepabkjfnpaijaaPB
namespace Go.Proofs.Ytepabkjfnpaijaa
open Go RowKit Go.Ew
set_option maxRecDepth 100000
set_option linter.unusedSimpArgs false
set_option linter.unusedVariables false
set_option maxHeartbeats 1000000
def beB (k x : Nat) : List UInt8 := (List.range k).map fun i => UInt8.ofNat (x / 256 ^ (k - 1 - i) % 256)
theorem beB_len (k x : Nat) : (beB k x).length = k := by simp [beB]
theorem leB_beB (x : Nat) : leB x = beB (nby x) x := rfl
theorem beB_succ (k x : Nat) : beB (k + 1) x = UInt8.ofNat (x / 256 ^ k % 256) :: beB k x := by
  rw [beB, List.range_succ_eq_map, List.map_cons, List.map_map]
  refine (List.cons.injEq _ _ _ _).mpr ⟨by rw [Nat.add_sub_cancel, Nat.sub_zero], List.map_congr_left fun i hi => ?_⟩
  simp only [Function.comp_def]
  rw [show k + 1 - 1 - (i + 1) = k - 1 - i by omega]
theorem bvN_beB (x : Nat) : ∀ k, bvN (beB k x) = x % 256 ^ k
  | 0 => by simp [beB, bvN, Nat.mod_one]
  | k + 1 => by
    have h : x / 256 ^ k % 256 < 256 := Nat.mod_lt _ (by omega)
    rw [beB_succ, bvN, beB_len, bvN_beB x k, UInt8.toNat_ofNat_of_lt' (by simpa using h), Nat.mod_pow_succ, Nat.mul_comm, Nat.add_comm]
theorem beB_add (c v n : Nat) : beB n (c * 256 ^ n + v) = beB n v := by
  refine List.map_congr_left fun i hi => ?_
  have hi2 : i < n := List.mem_range.1 hi
  obtain ⟨d, hd⟩ : ∃ d, n = (n - 1 - i) + 1 + d := ⟨i, by omega⟩
  have hP : 0 < 256 ^ (n - 1 - i) := Nat.pow_pos (by omega)
  have e : c * 256 ^ n = 256 ^ (n - 1 - i) * (256 * (256 ^ d * c)) := by
    conv => lhs; rw [hd]
    rw [Nat.pow_add, Nat.pow_succ]; grind
  rw [e, Nat.mul_add_div hP, Nat.mul_add_mod]
theorem beB_bvN : ∀ l : List UInt8, beB l.length (bvN l) = l
  | [] => rfl
  | c :: l => by
    have h := bvN_lt l
    have hc := c.toNat_lt
    rw [List.length_cons, beB_succ, bvN, beB_add, beB_bvN l]
    congr 1
    rw [Nat.mul_comm, Nat.mul_add_div (Nat.pow_pos (by omega)), Nat.div_eq_of_lt h, Nat.add_zero, Nat.mod_eq_of_lt (by omega)]
    exact UInt8.toNat_inj.1 (by rw [UInt8.toNat_ofNat_of_lt' (by simpa using hc)])
theorem nby_iff (x k : Nat) : nby x ≤ k ↔ x < 256 ^ k := by
  have e : (256 : Nat) ^ k = 2 ^ (8 * k) := by rw [Nat.pow_mul]
  rw [e, ← blen_le]; unfold nby; omega
theorem bvN_leB (x : Nat) : bvN (leB x) = x := by
  rw [leB_beB, bvN_beB, Nat.mod_eq_of_lt ((nby_iff x _).1 (Nat.le_refl _))]
theorem nby_bvN {l : List UInt8} (h : l = [] ∨ l.getD 0 0 ≠ 0) : nby (bvN l) = l.length := by
  have h1 := (nby_iff (bvN l) l.length).2 (bvN_lt l)
  rcases h with rfl | h
  · simpa using h1
  · cases l with
    | nil => simpa using h1
    | cons c l =>
      have hc : c ≠ 0 := by simpa using h
      have hc1 : c.toNat ≠ 0 := fun h0 => hc (UInt8.toNat_inj.1 (by rw [UInt8.toNat_zero]; exact h0))
      have h2 : ¬ nby (bvN (c :: l)) ≤ l.length := by
        rw [nby_iff, bvN]
        have : 1 * 256 ^ l.length ≤ c.toNat * 256 ^ l.length := Nat.mul_le_mul_right _ (by omega)
        omega
      rw [List.length_cons] at h1 ⊢; omega
theorem leB_bvN {l : List UInt8} (h : l = [] ∨ l.getD 0 0 ≠ 0) : leB (bvN l) = l := by
  rw [leB_beB, nby_bvN h, beB_bvN]
theorem nby_pos {x : Nat} (h : x ≠ 0) : 1 ≤ nby x := by
  rcases Nat.eq_zero_or_pos (nby x) with h0 | h0
  · have := (nby_iff x 0).1 (by omega); simp at this; omega
  · exact h0
theorem leB_head {x : Nat} (h : x ≠ 0) : (leB x).getD 0 0 ≠ 0 := by
  obtain ⟨k, hk⟩ : ∃ k, nby x = k + 1 := ⟨nby x - 1, by have := nby_pos h; omega⟩
  have h1 : ¬ nby x ≤ k := by omega
  rw [nby_iff] at h1
  have h2 := (nby_iff x (k + 1)).1 (by omega)
  rw [leB_beB, hk, beB_succ]
  have hP : 0 < 256 ^ k := Nat.pow_pos (by omega)
  have h3 : x / 256 ^ k < 256 := Nat.div_lt_of_lt_mul (by rw [Nat.pow_succ] at h2; exact h2)
  have h4 : 1 ≤ x / 256 ^ k := (Nat.one_le_div_iff hP).2 (by omega)
  simp only [List.getD_cons_zero]
  intro h0
  have := congrArg UInt8.toNat h0
  rw [UInt8.toNat_ofNat_of_lt' (by simpa using Nat.mod_lt _ (by omega)), Nat.mod_eq_of_lt h3, UInt8.toNat_zero] at this
  omega
theorem leB_ok (x : Nat) : leB x = [] ∨ (leB x).getD 0 0 ≠ 0 := by
  by_cases h : x = 0
  · subst h; exact .inl rfl
  · exact .inr (leB_head h)
theorem longM_leB {n : Nat} (h1 : 55 < n) (h2 : n ≤ 1099511627776) (p : List UInt8) : longM (leB n ++ p) (nby n) = (n, 0) := by
  have hl := leB_len n
  have h0 := leB_head (x := n) (by omega)
  have hp := nby_pos (x := n) (by omega)
  have h3 : (leB n ++ p).getD 0 0 ≠ 0 := by
    rw [List.getD_eq_getElem?_getD, List.getElem?_append_left (by omega), ← List.getD_eq_getElem?_getD]; exact h0
  have h4 : (leB n ++ p).take (nby n) = leB n := by rw [← hl, List.take_left']; rfl
  rw [longM, if_neg (by rw [List.length_append]; omega), if_neg h3, h4, bvN_leB, if_neg (by omega)]
theorem headM_hd {base ls n : Nat} (hb : (base = 128 ∧ ls = 0) ∨ (base = 192 ∧ ls = 1)) (hn : n ≤ 1099511627776) (p : List UInt8) (hp : n ≤ p.length) (h1 : ls = 0 → n = 1 → ¬ (p.getD 0 0).toNat < 128) :
    headM (hd base n ++ p) = ((ls, (hd base n).length, (hd base n).length + n), 0) := by
  by_cases h55 : n ≤ 55
  · have hc : (UInt8.ofNat (base + n)).toNat = base + n := UInt8.toNat_ofNat_of_lt' (by show base + n < 256; omega)
    have e : hd base n = [UInt8.ofNat (base + n)] := by rw [hd, if_pos h55]
    have ef : finM (UInt8.ofNat (base + n) :: p) ls 1 n = ((ls, 1, 1 + n), 0) := by
      rw [finM, if_neg (by simp; omega), if_neg (fun h => h1 h.1 h.2.1 (by simpa using h.2.2))]
    have et : tailM (UInt8.ofNat (base + n) :: p) ls n = ((ls, 1, 1 + n), 0) := by rw [tailM, if_pos h55, ef]
    rw [e, List.singleton_append, headM, if_neg (by simp)]
    simp only [List.getD_cons_zero, hc, List.length_cons, List.length_nil]
    rw [if_neg (by omega)]
    rcases hb with ⟨rfl, rfl⟩ | ⟨rfl, rfl⟩
    · rw [if_neg (by omega), Nat.add_sub_cancel_left, et]
    · rw [if_pos (by omega), Nat.add_sub_cancel_left, et]
  · have hk : nby n ≤ 6 := (nby_iff n 6).2 (by omega)
    have hk1 := nby_pos (x := n) (by omega)
    have hl := leB_len n
    have hc : (UInt8.ofNat (base + 55 + nby n)).toNat = base + 55 + nby n := UInt8.toNat_ofNat_of_lt' (by show base + 55 + nby n < 256; omega)
    have e : hd base n = UInt8.ofNat (base + 55 + nby n) :: leB n := by rw [hd, if_neg h55]
    have ef : finM (UInt8.ofNat (base + 55 + nby n) :: (leB n ++ p)) ls (1 + nby n) n = ((ls, 1 + nby n, 1 + nby n + n), 0) := by
      rw [finM, if_neg (by simp; omega), if_neg (by omega)]
    have et : tailM (UInt8.ofNat (base + 55 + nby n) :: (leB n ++ p)) ls (55 + nby n) = ((ls, 1 + nby n, 1 + nby n + n), 0) := by
      rw [tailM, if_neg (by omega), Nat.add_sub_cancel_left, List.drop_succ_cons, List.drop_zero, longM_leB (by omega) hn]
      simp only [ne_eq, not_true_eq_false, if_false]
      exact ef
    rw [e, List.cons_append, headM, if_neg (by simp)]
    simp only [List.getD_cons_zero, hc, List.length_cons, hl]
    rw [if_neg (by omega), Nat.add_comm (nby n) 1]
    rcases hb with ⟨rfl, rfl⟩ | ⟨rfl, rfl⟩
    · rw [if_neg (by omega), show 128 + 55 + nby n - 128 = 55 + nby n by omega, et]
    · rw [if_pos (by omega), show 192 + 55 + nby n - 192 = 55 + nby n by omega, et]
end Go.Proofs.Ytepabkjfnpaijaa

