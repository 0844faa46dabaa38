/- Part of a proof over the seat YtbilnedgpgpanaaDoor. -/
import Derived.Test.YtbilnedgpgpanaaDoorWF
import Derived.Test.YtbilnedgpgpanaaDoorWC
import Derived.Test.YtbilnedgpgpanaaDoorEng3
import Derived.Test.YtbilnedgpgpanaaDoorShelf
namespace Go.Proofs.YtbilnedgpgpanaaDoor
open Go Go.Ew
set_option maxRecDepth 100000
set_option linter.unusedSimpArgs false
set_option linter.unusedVariables false
set_option maxHeartbeats 1000000
theorem in83 : codeIn Tryd.f83.ntmps (Tryd.f83.body.getD .skip) = true := by kernel_rfl
theorem cutprefix_p (s p : ByteArray) : Pure Tryd.prog 82 [.str s, .str p] (.tup [.str ⟨(Lib.trimPrefix s.data.toList p.data.toList).toArray⟩, .bool (Lib.hasPrefix s.data.toList p.data.toList)]) :=
  ⟨en82, by simp [closed, closeds], fun bs w => (Go.Proofs.Tryd.strings_CutPrefix s p w).mono (by rintro e w' ⟨rfl, rfl⟩; exact ⟨rfl, Below.refl' _ _⟩)⟩
theorem indexbyte_p (s : ByteArray) (c : Int) : Pure Tryd.prog 107 [.str s, .int .u8 c] (.int .i64 (Lib.indexByte s.data.toList c.toNat.toUInt8)) :=
  ⟨en107, by simp [closed, closeds], fun bs w => (Go.Proofs.Tryd.strings_IndexByte s c w).mono (by rintro e w' ⟨rfl, rfl⟩; exact ⟨rfl, Below.refl' _ _⟩)⟩
/-- What a digit is worth, capital letters being none. -/
def valL (c : Nat) : Nat := if 48 ≤ c ∧ c ≤ 57 then c - 48 else if 97 ≤ c ∧ c ≤ 102 then c - 87 else 16
def digitsB : ByteArray := ⟨#[48, 49, 50, 51, 52, 53, 54, 55, 56, 57, 97, 98, 99, 100, 101, 102]⟩
theorem idx_all (b : Nat) (hb : b = 10 ∨ b = 16) (c : UInt8) : Lib.indexByte (digitsB.extract 0 b).data.toList c = if valL c.toNat < b then (valL c.toNat : Int) else -1 := by
  have e : ∀ l : List UInt8, ∀ m : Nat, m < 256 → Lib.indexByte l (UInt8.ofNat m) = Lib.indexByte l (UInt8.ofNat m) := fun _ _ _ => rfl
  have h10 : ∀ m : Nat, m < 256 → Lib.indexByte (digitsB.extract 0 10).data.toList (UInt8.ofNat m) = if valL m < 10 then (valL m : Int) else -1 := by decide
  have h16 : ∀ m : Nat, m < 256 → Lib.indexByte (digitsB.extract 0 16).data.toList (UInt8.ofNat m) = if valL m < 16 then (valL m : Int) else -1 := by decide
  have hc : c.toNat < 256 := c.toNat_lt
  have ec : UInt8.ofNat c.toNat = c := UInt8.ofNat_toNat
  rcases hb with rfl | rfl
  · have := h10 c.toNat hc; rwa [ec] at this
  · have := h16 c.toNat hc; rwa [ec] at this
theorem valL_lt (c : Nat) : valL c ≤ 16 := by unfold valL; split <;> (try split) <;> omega
/-- What a text is read as: a word and an error's number. -/
def readV (r : Option Nat) : EV := .tup [wE (r.getD 0), .int .i64 (if r.isSome then 0 else 20)]
theorem runD_lt {b : Nat} : ∀ {l : List Nat} {x y : Nat}, x < 115792089237316195423570985008687907853269984665640564039457584007913129639936 → runD b l x = some y → y < 115792089237316195423570985008687907853269984665640564039457584007913129639936
  | [], x, y, h, e => by simp [runD] at e; omega
  | v :: l, x, y, h, e => by
    rw [runD] at e; split at e
    · rename_i h2; exact runD_lt h2.2 e
    · cases e
theorem z4w : [EV.int .u64 0, EV.int .u64 0, EV.int .u64 0, EV.int .u64 0] = wC 0 := rfl
theorem dig4 {n : Nat} (h : n < 115792089237316195423570985008687907853269984665640564039457584007913129639936 * 17) : dig 18446744073709551616 n 4 = 0 ↔ n < 115792089237316195423570985008687907853269984665640564039457584007913129639936 := by
  have e : (18446744073709551616 : Nat) ^ 4 = 115792089237316195423570985008687907853269984665640564039457584007913129639936 := by decide
  unfold dig
  constructor
  · intro h0
    have h1 : n / 18446744073709551616 ^ 4 % 18446744073709551616 = 0 := by omega
    rw [e] at h1
    rw [Nat.mod_eq_of_lt (Nat.lt_of_lt_of_le (Nat.div_lt_of_lt_mul h) (by decide))] at h1
    exact (Nat.div_eq_zero_iff_lt (by decide)).1 h1
  · intro h0
    rw [e, Nat.div_eq_of_lt h0]; rfl
theorem drop_vals {l : List UInt8} {i : Nat} (h : i < l.length) : (l.map fun c => valL c.toNat).drop i = valL (l.getD i 0).toNat :: (l.map fun c => valL c.toNat).drop (i + 1) := by
  rw [List.drop_eq_getElem_cons (by rw [List.length_map]; exact h)]
  rw [List.getElem_map, List.getD_eq_getElem?_getD, List.getElem?_eq_getElem h]; rfl
theorem toU8 (c : UInt8) : c.toNat.toUInt8 = c := by show UInt8.ofNat c.toNat = c; exact UInt8.ofNat_toNat
theorem parse_p (s : ByteArray) (b m : Nat) (hb : b = 10 ∨ b = 16) (hm : m < 1000) (hs : s.size < 4611686018427387904) :
    Pure Tryd.prog 83 [.str s, .int .u64 (b : Nat), .int .i64 (m : Nat)] (readV (readD b m (s.data.toList.map fun c => valL c.toNat))) := by
  generalize hR : readD b m (s.data.toList.map fun c => valL c.toNat) = R
  have hsz : s.data.toList.length = s.size := by rw [Array.length_toList]; rfl
  unfold readD at hR
  rw [List.length_map, hsz] at hR
  have hb2 : 2 ≤ b ∧ b ≤ 16 := by omega
  have hcl : closed 0 (readV R) := by simp [readV, closed, closeds, closed_wE]
  have hN : readV none = .tup [wE 0, .int .i64 20] := rfl
  refine pure_p (args := [.str s, .int .u64 (b : Nat), .int .i64 (m : Nat)]) en83 hcl Tryd.func83 rfl in83 (by simp [Tryd.f83]) (by simp [closeds, closed, closed_wE, closeds_ints]) (fun w => next_of 1000 ?_)
  simp (maxSteps := 4000000) (disch := omega) only [go_sem, Nat.reduceBEq, Nat.reduceAdd, Nat.reduceMul, Nat.reduceSub, Nat.reduceLT, Nat.reduceLeDiff, Int.reduceToNat, Int.reduceLT, Int.reduceLE, Int.reduceAdd, Int.reduceMul, Int.reduceSub, Int.reduceNeg, Int.reduceDiv, Int.reduceMod, Nat.reduceBNe, Nat.reduceGT, Int.reduceBEq, Int.reduceBNe, Int.reduceGT, Nat.reduceDiv, Nat.reduceMod, Nat.reducePow, Int.reducePow, gt_iff_lt, ge_iff_le, List.reduceReplicate, ↓reduceIte, Tryd.f83]
  repeat (with_reducible refine And.intro (by first | omega | assumption | (constructor <;> assumption) | (simp; done) | (simp; omega) | (simp [*]; done)) ?_)
  repeat' (first
    | with_reducible refine And.intro (by first | omega | assumption | (constructor <;> assumption) | (simp; done) | (simp; omega) | (simp [*]; done)) ?_
    | simp (maxSteps := 4000000) (disch := omega) only [go_sem, Nat.reduceBEq, Nat.reduceAdd, Nat.reduceMul, Nat.reduceSub, Nat.reduceLT, Nat.reduceLeDiff, Int.reduceToNat, Int.reduceLT, Int.reduceLE, Int.reduceAdd, Int.reduceMul, Int.reduceSub, Int.reduceNeg, Int.reduceDiv, Int.reduceMod, Nat.reduceBNe, Nat.reduceGT, Int.reduceBEq, Int.reduceBNe, Int.reduceGT, Nat.reduceDiv, Nat.reduceMod, Nat.reducePow, Int.reducePow, gt_iff_lt, ge_iff_le, List.reduceReplicate, ↓reduceIte]
    | with_reducible refine roundS (next_of 1000 ?_)
    | with_reducible refine drawS_of mixed (by kernel_rfl) (dg_of 1000 ?_)
    | with_reducible refine endD_of (by kernel_rfl) (next_of 1000 ?_)
    | with_reducible refine next_of 1000 ?_
    | ((first | refine condS_split (fun h => ?_) (fun h => ?_) | refine testS_split (fun h => ?_) (fun h => ?_) | refine testD_split (fun h => ?_) (fun h => ?_)) <;> (try simp only [bne_iff_ne, ne_eq, beq_iff_eq, decide_eq_true_eq, decide_eq_false_iff_not, Bool.not_eq_true, Bool.not_eq_false, Bool.not_true, Bool.not_false, bne_eq_false_iff_eq, beq_eq_false_iff_ne, Bool.and_eq_true, Bool.or_eq_true, Bool.and_eq_false_imp, Bool.or_eq_false_iff, Bool.not_eq_true', Bool.not_eq_false', Int.not_lt, Int.not_le] at h) <;> (try (exfalso; omega))))
  · rw [if_pos (by omega)] at hR
    rw [← hR]; rfl
  · rename_i h2
    have hne : s.size ≠ 0 := by
      intro h0
      apply h2
      rw [ByteArray.toList_eq, ByteArray.toList_eq, List.length_eq_zero_iff.1 (by omega : s.data.toList.length = 0)]
    rw [if_neg (by omega)] at hR
    refine loopU (S := Nat × Nat) (fun q => q.1 ≤ s.size ∧ q.2 < 115792089237316195423570985008687907853269984665640564039457584007913129639936 ∧ runD b ((s.data.toList.map fun c => valL c.toNat).drop q.1) q.2 = R)
      (fun q => ⟨[(25, .int .i64 (q.1 : Nat)), (24, .int .i64 (s.size : Nat)), (8, .ptr 1 0), (7, .int .i64 0), (6, .ptr 0 0), (1, .int .u64 (b : Nat)), (0, .str s)], 2,
        [(1, some (.cells (wC q.2) 24 (0, 0))), (0, some (.cells (wC 0) 24 (0, 0)))], base w, []⟩)
      (fun q => s.size - q.1) (0, 0) ⟨by omega, by decide, by simpa using hR⟩ (Weak.sub (weak_of (by simp [wσ, go_sem, closed, closeds, z4w]) (by simp [whs, go_sem, EObj.closed, closed, closeds, z4w]) (by simp [*]) rfl rfl (by simp))) ?_
    rintro ⟨i, x⟩ ⟨hi, hx, hr⟩
    simp only at hi hx hr
    refine next_of 1000 ?_
    simp (maxSteps := 4000000) (disch := omega) only [go_sem, Nat.reduceBEq, Nat.reduceAdd, Nat.reduceMul, Nat.reduceSub, Nat.reduceLT, Nat.reduceLeDiff, Int.reduceToNat, Int.reduceLT, Int.reduceLE, Int.reduceAdd, Int.reduceMul, Int.reduceSub, Int.reduceNeg, Int.reduceDiv, Int.reduceMod, Nat.reduceBNe, Nat.reduceGT, Int.reduceBEq, Int.reduceBNe, Int.reduceGT, Nat.reduceDiv, Nat.reduceMod, Nat.reducePow, Int.reducePow, gt_iff_lt, ge_iff_le, List.reduceReplicate, ↓reduceIte]
    repeat (with_reducible refine And.intro (by first | omega | assumption | (constructor <;> assumption) | (simp; done) | (simp; omega) | (simp [*]; done)) ?_)
    refine condS_split (fun h => ?_) (fun h => ?_)
    all_goals (try simp only [bne_iff_ne, ne_eq, beq_iff_eq, decide_eq_true_eq, decide_eq_false_iff_not, Bool.not_eq_true, Bool.not_eq_false, Bool.not_true, Bool.not_false, bne_eq_false_iff_eq, beq_eq_false_iff_ne, Bool.and_eq_true, Bool.or_eq_true, Bool.and_eq_false_imp, Bool.or_eq_false_iff, Bool.not_eq_true', Bool.not_eq_false', Int.not_lt, Int.not_le] at h)
    · have hil : i < s.size := by omega
      rw [drop_vals (by omega), runD] at hr
      have hix := idx_all b hb (s.data.toList.getD i 0)
      have hvl := valL_lt (s.data.toList.getD i 0).toNat
      generalize hc : s.data.toList.getD i 0 = c at *
      generalize hv : valL c.toNat = v at *
      simp only [digitsB] at hix
      have hbW : b < 115792089237316195423570985008687907853269984665640564039457584007913129639936 := by omega
      have hxb : x * b < 115792089237316195423570985008687907853269984665640564039457584007913129639936 * 17 := Nat.lt_of_le_of_lt (Nat.mul_le_mul_left x hb2.2) (by omega)
      have hd4 := dig4 hxb
      by_cases hvb : v < b
      · rw [if_pos hvb] at hix
        simp only [hvb, true_and] at hr
        repeat' (first
          | with_reducible refine And.intro (by first | omega | assumption | (constructor <;> assumption) | (simp; done) | (simp; omega) | (simp [*]; done)) ?_
          | simp (maxSteps := 4000000) (disch := omega) only [go_sem, Nat.reduceBEq, Nat.reduceAdd, Nat.reduceMul, Nat.reduceSub, Nat.reduceLT, Nat.reduceLeDiff, Int.reduceToNat, Int.reduceLT, Int.reduceLE, Int.reduceAdd, Int.reduceMul, Int.reduceSub, Int.reduceNeg, Int.reduceDiv, Int.reduceMod, Nat.reduceBNe, Nat.reduceGT, Int.reduceBEq, Int.reduceBNe, Int.reduceGT, Nat.reduceDiv, Nat.reduceMod, Nat.reducePow, Int.reducePow, gt_iff_lt, ge_iff_le, List.reduceReplicate, ↓reduceIte, hc, hix, Int.toNat_natCast, toU8]
          | with_reducible refine roundS (next_of 1000 ?_)
          | with_reducible refine drawS_of mixed (by kernel_rfl) (dg_of 1000 ?_)
          | with_reducible refine endD_of (by kernel_rfl) (next_of 1000 ?_)
          | refine callS_p (indexbyte_p _ _) (next_of 1000 ?_)
          | refine callD_p (indexbyte_p _ _) (dg_of 1000 ?_)
          | refine callS_p (of_p b (by omega)) (next_of 1000 ?_)
          | refine callD_p (of_p b (by omega)) (dg_of 1000 ?_)
          | refine callS_p (wide_p x b hx hbW) (next_of 1000 ?_)
          | refine callD_p (wide_p x b hx hbW) (dg_of 1000 ?_)
          | with_reducible refine next_of 1000 ?_
          | ((first | refine condS_split (fun h => ?_) (fun h => ?_) | refine testS_split (fun h => ?_) (fun h => ?_) | refine testD_split (fun h => ?_) (fun h => ?_)) <;> (try simp only [bne_iff_ne, ne_eq, beq_iff_eq, decide_eq_true_eq, decide_eq_false_iff_not, Bool.not_eq_true, Bool.not_eq_false, Bool.not_true, Bool.not_false, bne_eq_false_iff_eq, beq_eq_false_iff_ne, Bool.and_eq_true, Bool.or_eq_true, Bool.and_eq_false_imp, Bool.or_eq_false_iff, Bool.not_eq_true', Bool.not_eq_false', Int.not_lt, Int.not_le] at h) <;> (try (exfalso; omega))))
        · rw [hd4] at h
          rw [if_neg (by omega)] at hr
          rw [← hr]; rfl
        · rw [hd4] at h
          refine arrayOfD rfl Tryd.underlying24 rfl (by omega) (by kernel_rfl) (dg_of 1000 ?_)
          by_cases hov : x * b + v < 115792089237316195423570985008687907853269984665640564039457584007913129639936
          · rw [if_pos hov] at hr
            repeat' (first
              | with_reducible refine And.intro (by first | omega | assumption | (constructor <;> assumption) | (simp; done) | (simp; omega) | (simp [*]; done)) ?_
              | simp (maxSteps := 4000000) (disch := omega) only [go_sem, Nat.reduceBEq, Nat.reduceAdd, Nat.reduceMul, Nat.reduceSub, Nat.reduceLT, Nat.reduceLeDiff, Int.reduceToNat, Int.reduceLT, Int.reduceLE, Int.reduceAdd, Int.reduceMul, Int.reduceSub, Int.reduceNeg, Int.reduceDiv, Int.reduceMod, Nat.reduceBNe, Nat.reduceGT, Int.reduceBEq, Int.reduceBNe, Int.reduceGT, Nat.reduceDiv, Nat.reduceMod, Nat.reducePow, Int.reducePow, gt_iff_lt, ge_iff_le, List.reduceReplicate, ↓reduceIte, hc, hix, Int.toNat_natCast, toU8, ite_self, List.drop_zero, take_wC, Nat.mod_eq_of_lt h, Nat.mod_eq_of_lt hov]
              | with_reducible refine roundS (next_of 1000 ?_)
              | with_reducible refine drawS_of mixed (by kernel_rfl) (dg_of 1000 ?_)
              | with_reducible refine endD_of (by kernel_rfl) (next_of 1000 ?_)
              | refine callS_p (carry_p (x * b) v h (by omega)) (next_of 1000 ?_)
              | refine callD_p (carry_p (x * b) v h (by omega)) (dg_of 1000 ?_)
              | refine callS_p (of_p v (by omega)) (next_of 1000 ?_)
              | refine callD_p (of_p v (by omega)) (dg_of 1000 ?_)
              | with_reducible refine next_of 1000 ?_
              | ((first | refine condS_split (fun h => ?_) (fun h => ?_) | refine testS_split (fun h => ?_) (fun h => ?_) | refine testD_split (fun h => ?_) (fun h => ?_)) <;> (try simp only [bne_iff_ne, ne_eq, beq_iff_eq, decide_eq_true_eq, decide_eq_false_iff_not, Bool.not_eq_true, Bool.not_eq_false, Bool.not_true, Bool.not_false, bne_eq_false_iff_eq, beq_eq_false_iff_ne, Bool.and_eq_true, Bool.or_eq_true, Bool.and_eq_false_imp, Bool.or_eq_false_iff, Bool.not_eq_true', Bool.not_eq_false', Int.not_lt, Int.not_le] at h) <;> (try (exfalso; omega))))
            simp (maxSteps := 4000000) (disch := omega) only [go_sem, Nat.reduceBEq, Nat.reduceAdd, Nat.reduceMul, Nat.reduceSub, Nat.reduceLT, Nat.reduceLeDiff, Int.reduceToNat, Int.reduceLT, Int.reduceLE, Int.reduceAdd, Int.reduceMul, Int.reduceSub, Int.reduceNeg, Int.reduceDiv, Int.reduceMod, Nat.reduceBNe, Nat.reduceGT, Int.reduceBEq, Int.reduceBNe, Int.reduceGT, Nat.reduceDiv, Nat.reduceMod, Nat.reducePow, Int.reducePow, gt_iff_lt, ge_iff_le, List.reduceReplicate, ↓reduceIte]
            repeat (with_reducible refine And.intro (by first | omega | assumption | (constructor <;> assumption) | (simp; done) | (simp; omega) | (simp [*]; done)) ?_)
            repeat' (first
              | with_reducible refine And.intro (by first | omega | assumption | (constructor <;> assumption) | (simp; done) | (simp; omega) | (simp [*]; done)) ?_
              | simp (maxSteps := 4000000) (disch := omega) only [go_sem, Nat.reduceBEq, Nat.reduceAdd, Nat.reduceMul, Nat.reduceSub, Nat.reduceLT, Nat.reduceLeDiff, Int.reduceToNat, Int.reduceLT, Int.reduceLE, Int.reduceAdd, Int.reduceMul, Int.reduceSub, Int.reduceNeg, Int.reduceDiv, Int.reduceMod, Nat.reduceBNe, Nat.reduceGT, Int.reduceBEq, Int.reduceBNe, Int.reduceGT, Nat.reduceDiv, Nat.reduceMod, Nat.reducePow, Int.reducePow, gt_iff_lt, ge_iff_le, List.reduceReplicate, ↓reduceIte]
              | with_reducible refine roundS (next_of 1000 ?_)
              | with_reducible refine drawS_of mixed (by kernel_rfl) (dg_of 1000 ?_)
              | with_reducible refine endD_of (by kernel_rfl) (next_of 1000 ?_)
              | with_reducible refine next_of 1000 ?_
              | ((first | refine condS_split (fun h => ?_) (fun h => ?_) | refine testS_split (fun h => ?_) (fun h => ?_) | refine testD_split (fun h => ?_) (fun h => ?_)) <;> (try simp only [bne_iff_ne, ne_eq, beq_iff_eq, decide_eq_true_eq, decide_eq_false_iff_not, Bool.not_eq_true, Bool.not_eq_false, Bool.not_true, Bool.not_false, bne_eq_false_iff_eq, beq_eq_false_iff_ne, Bool.and_eq_true, Bool.or_eq_true, Bool.and_eq_false_imp, Bool.or_eq_false_iff, Bool.not_eq_true', Bool.not_eq_false', Int.not_lt, Int.not_le] at h) <;> (try (exfalso; omega))))
            exact ⟨(i + 1, x * b + v), ⟨by show i + 1 ≤ s.size; omega, hov, hr⟩, Weak.sub (weak_of (by simp [wσ, go_sem, closed, closeds]) (by simp [whs, go_sem, EObj.closed, closed, closeds]) (by simp [*]) rfl rfl (by simp)), by show s.size - (i + 1) < s.size - i; omega⟩
          · rw [if_neg hov] at hr
            repeat' (first
              | with_reducible refine And.intro (by first | omega | assumption | (constructor <;> assumption) | (simp; done) | (simp; omega) | (simp [*]; done)) ?_
              | simp (maxSteps := 4000000) (disch := omega) only [go_sem, Nat.reduceBEq, Nat.reduceAdd, Nat.reduceMul, Nat.reduceSub, Nat.reduceLT, Nat.reduceLeDiff, Int.reduceToNat, Int.reduceLT, Int.reduceLE, Int.reduceAdd, Int.reduceMul, Int.reduceSub, Int.reduceNeg, Int.reduceDiv, Int.reduceMod, Nat.reduceBNe, Nat.reduceGT, Int.reduceBEq, Int.reduceBNe, Int.reduceGT, Nat.reduceDiv, Nat.reduceMod, Nat.reducePow, Int.reducePow, gt_iff_lt, ge_iff_le, List.reduceReplicate, ↓reduceIte, hc, hix, Int.toNat_natCast, toU8, ite_self, List.drop_zero, take_wC, Nat.mod_eq_of_lt h]
              | with_reducible refine roundS (next_of 1000 ?_)
              | with_reducible refine drawS_of mixed (by kernel_rfl) (dg_of 1000 ?_)
              | with_reducible refine endD_of (by kernel_rfl) (next_of 1000 ?_)
              | refine callS_p (carry_p (x * b) v h (by omega)) (next_of 1000 ?_)
              | refine callD_p (carry_p (x * b) v h (by omega)) (dg_of 1000 ?_)
              | refine callS_p (of_p v (by omega)) (next_of 1000 ?_)
              | refine callD_p (of_p v (by omega)) (dg_of 1000 ?_)
              | with_reducible refine next_of 1000 ?_
              | ((first | refine condS_split (fun h => ?_) (fun h => ?_) | refine testS_split (fun h => ?_) (fun h => ?_) | refine testD_split (fun h => ?_) (fun h => ?_)) <;> (try simp only [bne_iff_ne, ne_eq, beq_iff_eq, decide_eq_true_eq, decide_eq_false_iff_not, Bool.not_eq_true, Bool.not_eq_false, Bool.not_true, Bool.not_false, bne_eq_false_iff_eq, beq_eq_false_iff_ne, Bool.and_eq_true, Bool.or_eq_true, Bool.and_eq_false_imp, Bool.or_eq_false_iff, Bool.not_eq_true', Bool.not_eq_false', Int.not_lt, Int.not_le] at h) <;> (try (exfalso; omega))))
            rw [← hr]; rfl
      · rw [if_neg hvb] at hix
        rw [if_neg (by omega)] at hr
        repeat' (first
          | with_reducible refine And.intro (by first | omega | assumption | (constructor <;> assumption) | (simp; done) | (simp; omega) | (simp [*]; done)) ?_
          | simp (maxSteps := 4000000) (disch := omega) only [go_sem, Nat.reduceBEq, Nat.reduceAdd, Nat.reduceMul, Nat.reduceSub, Nat.reduceLT, Nat.reduceLeDiff, Int.reduceToNat, Int.reduceLT, Int.reduceLE, Int.reduceAdd, Int.reduceMul, Int.reduceSub, Int.reduceNeg, Int.reduceDiv, Int.reduceMod, Nat.reduceBNe, Nat.reduceGT, Int.reduceBEq, Int.reduceBNe, Int.reduceGT, Nat.reduceDiv, Nat.reduceMod, Nat.reducePow, Int.reducePow, gt_iff_lt, ge_iff_le, List.reduceReplicate, ↓reduceIte, hc, hix, Int.toNat_natCast, toU8]
          | with_reducible refine roundS (next_of 1000 ?_)
          | with_reducible refine drawS_of mixed (by kernel_rfl) (dg_of 1000 ?_)
          | with_reducible refine endD_of (by kernel_rfl) (next_of 1000 ?_)
          | refine callS_p (indexbyte_p _ _) (next_of 1000 ?_)
          | refine callD_p (indexbyte_p _ _) (dg_of 1000 ?_)
          | refine callS_p (of_p b (by omega)) (next_of 1000 ?_)
          | refine callD_p (of_p b (by omega)) (dg_of 1000 ?_)
          | refine callS_p (wide_p x b hx hbW) (next_of 1000 ?_)
          | refine callD_p (wide_p x b hx hbW) (dg_of 1000 ?_)
          | with_reducible refine next_of 1000 ?_
          | ((first | refine condS_split (fun h => ?_) (fun h => ?_) | refine testS_split (fun h => ?_) (fun h => ?_) | refine testD_split (fun h => ?_) (fun h => ?_)) <;> (try simp only [bne_iff_ne, ne_eq, beq_iff_eq, decide_eq_true_eq, decide_eq_false_iff_not, Bool.not_eq_true, Bool.not_eq_false, Bool.not_true, Bool.not_false, bne_eq_false_iff_eq, beq_eq_false_iff_ne, Bool.and_eq_true, Bool.or_eq_true, Bool.and_eq_false_imp, Bool.or_eq_false_iff, Bool.not_eq_true', Bool.not_eq_false', Int.not_lt, Int.not_le] at h) <;> (try (exfalso; omega))))
        rw [← hr]; rfl
    · have hi' : i = s.size := by omega
      subst hi'
      rw [List.drop_eq_nil_of_le (by simp [hsz])] at hr
      simp (maxSteps := 4000000) (disch := omega) only [go_sem, Nat.reduceBEq, Nat.reduceAdd, Nat.reduceMul, Nat.reduceSub, Nat.reduceLT, Nat.reduceLeDiff, Int.reduceToNat, Int.reduceLT, Int.reduceLE, Int.reduceAdd, Int.reduceMul, Int.reduceSub, Int.reduceNeg, Int.reduceDiv, Int.reduceMod, Nat.reduceBNe, Nat.reduceGT, Int.reduceBEq, Int.reduceBNe, Int.reduceGT, Nat.reduceDiv, Nat.reduceMod, Nat.reducePow, Int.reducePow, gt_iff_lt, ge_iff_le, List.reduceReplicate, ↓reduceIte]
      repeat (with_reducible refine And.intro (by first | omega | assumption | (constructor <;> assumption) | (simp; done) | (simp; omega) | (simp [*]; done)) ?_)
      repeat' (first
        | with_reducible refine And.intro (by first | omega | assumption | (constructor <;> assumption) | (simp; done) | (simp; omega) | (simp [*]; done)) ?_
        | simp (maxSteps := 4000000) (disch := omega) only [go_sem, Nat.reduceBEq, Nat.reduceAdd, Nat.reduceMul, Nat.reduceSub, Nat.reduceLT, Nat.reduceLeDiff, Int.reduceToNat, Int.reduceLT, Int.reduceLE, Int.reduceAdd, Int.reduceMul, Int.reduceSub, Int.reduceNeg, Int.reduceDiv, Int.reduceMod, Nat.reduceBNe, Nat.reduceGT, Int.reduceBEq, Int.reduceBNe, Int.reduceGT, Nat.reduceDiv, Nat.reduceMod, Nat.reducePow, Int.reducePow, gt_iff_lt, ge_iff_le, List.reduceReplicate, ↓reduceIte]
        | with_reducible refine roundS (next_of 1000 ?_)
        | with_reducible refine drawS_of mixed (by kernel_rfl) (dg_of 1000 ?_)
        | with_reducible refine endD_of (by kernel_rfl) (next_of 1000 ?_)
        | with_reducible refine next_of 1000 ?_
        | ((first | refine condS_split (fun h => ?_) (fun h => ?_) | refine testS_split (fun h => ?_) (fun h => ?_) | refine testD_split (fun h => ?_) (fun h => ?_)) <;> (try simp only [bne_iff_ne, ne_eq, beq_iff_eq, decide_eq_true_eq, decide_eq_false_iff_not, Bool.not_eq_true, Bool.not_eq_false, Bool.not_true, Bool.not_false, bne_eq_false_iff_eq, beq_eq_false_iff_ne, Bool.and_eq_true, Bool.or_eq_true, Bool.and_eq_false_imp, Bool.or_eq_false_iff, Bool.not_eq_true', Bool.not_eq_false', Int.not_lt, Int.not_le] at h) <;> (try (exfalso; omega))))
      rw [runD] at hr
      rw [← hr]; rfl
  · have h0 : s.size = 0 := by
      have := congrArg List.length h
      rw [ByteArray.toList_eq, ByteArray.toList_eq, hsz] at this
      exact this
    rw [if_pos (by omega)] at hR
    rw [← hR]; rfl
end Go.Proofs.YtbilnedgpgpanaaDoor
