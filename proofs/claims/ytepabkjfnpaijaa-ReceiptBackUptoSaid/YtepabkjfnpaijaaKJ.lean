/- Part of a proof over the seat Ytepabkjfnpaijaa. -/
import Derived.Test.YtepabkjfnpaijaaKI
namespace Go.Proofs.Ytepabkjfnpaijaa
open Go RowKit Go.Ew
set_option maxRecDepth 100000
set_option linter.unusedSimpArgs false
set_option linter.unusedVariables false
set_option maxHeartbeats 4000000
theorem in25 : codeIn Try.f25.ntmps (Try.f25.body.getD .skip) = true := by kernel_rfl
theorem kecF_range (p : List UInt8) (j : Nat) : 0 ≤ kecF p j ∧ kecF p j < 256 := by
  unfold kecF hF
  exact ⟨Int.emod_nonneg _ (by decide), Int.emod_lt_of_pos _ (by decide)⟩
/-- Or of what does not meet. -/
theorem or_256 {a b : Int} (ha : 0 ≤ a) (ha' : a < 256) (hb : 0 ≤ b) (hb' : b < 256) : bOr .i64 (a * 256) b = 256 * a + b := by
  obtain ⟨a, rfl⟩ := Int.eq_ofNat_of_zero_le ha
  obtain ⟨b, rfl⟩ := Int.eq_ofNat_of_zero_le hb
  show IntKind.i64.wrap ((BitVec.ofInt 64 ((a : Int) * 256) ||| BitVec.ofInt 64 (b : Int)).toNat : Int) = _
  have e1 : BitVec.ofInt 64 ((a : Int) * 256) = BitVec.ofNat 64 (a * 256) := by rw [← BitVec.ofInt_natCast]; simp
  have e3 : (a * 256) ||| b = 256 * a + b := by
    have := Nat.two_pow_add_eq_or_of_lt (i := 8) (b := b) (by omega) a
    rw [Nat.mul_comm a 256]; exact this.symm
  rw [e1, BitVec.ofInt_natCast, BitVec.toNat_or, BitVec.toNat_ofNat, BitVec.toNat_ofNat, Nat.mod_eq_of_lt (by omega), Nat.mod_eq_of_lt (by omega), e3]
  have : ((256 * a + b : Nat) : Int) = 256 * (a : Int) + b := by push_cast; rfl
  rw [this]
  exact wrap_i64 (by omega) (by omega)
theorem shl_256 {a : Int} (ha : 0 ≤ a) (ha' : a < 256) : bShl .i64 a 8 = a * 256 := by
  show IntKind.i64.wrap (a * 2 ^ 8) = _
  exact wrap_i64 (by omega) (by omega)
theorem ints_3 (f : Nat → Int) (k : IntKind) : [EV.int k (f 0), EV.int k (f 1), EV.int k (f 2)] = ints k f 3 := rfl
theorem ints0_3 (k : IntKind) : [EV.int k 0, EV.int k 0, EV.int k 0] = ints k (fun _ => 0) 3 := rfl
/-- A text's three bits. -/
def bitN (p : List UInt8) (i : Nat) : Nat := ((256 * kecF p (2 * i) + kecF p (2 * i + 1)) % 2048).toNat
theorem bitN_lt (p : List UInt8) (i : Nat) : bitN p i < 2048 := by unfold bitN; omega
theorem bitN_eq (p : List UInt8) (i : Nat) : (256 * kecF p (2 * i) + kecF p (2 * i + 1)) % 2048 = (bitN p i : Int) := by unfold bitN; omega
theorem bitN_or (p : List UInt8) (i : Nat) : (bOr .i64 (bShl .i64 (kecF p (2 * i)) 8) (kecF p (2 * i + 1))).tmod 2048 = (bitN p i : Int) := by
  have r1 := kecF_range p (2 * i)
  have r2 := kecF_range p (2 * i + 1)
  rw [shl_256 r1.1 r1.2, or_256 r1.1 r1.2 r2.1 r2.2, Int.tmod_eq_emod_of_nonneg (by omega), bitN_eq]
theorem bitN_plus (p : List UInt8) (i : Nat) : (256 * kecF p (2 * i) + kecF p (2 * i + 1)).tmod 2048 = (bitN p i : Int) := by
  have r1 := kecF_range p (2 * i)
  have r2 := kecF_range p (2 * i + 1)
  rw [Int.tmod_eq_emod_of_nonneg (by omega), bitN_eq]
def bitsF (p : List UInt8) : Nat → Int := fun i => (bitN p i : Int)
def bQ (p : List UInt8) (i : Nat) : Nat → Int := fun j => if j < i then bitsF p j else 0
theorem bQ_zero (p : List UInt8) : bQ p 0 = fun _ => 0 := funext fun j => if_neg (by omega)
theorem bQ_step (p : List UInt8) (i : Nat) : setF (bQ p i) i (bitN p i : Int) = bQ p (i + 1) := by
  funext j
  simp only [setF, bQ]
  by_cases h : j = i
  · subst h; rw [if_pos rfl, if_pos (by omega)]; rfl
  · rw [if_neg h]
    by_cases h2 : j < i
    · rw [if_pos h2, if_pos (by omega)]
    · rw [if_neg h2, if_neg (by omega)]
theorem bQ_all (p : List UInt8) : ints .i64 (bQ p 3) 3 = ints .i64 (bitsF p) 3 := ints_congr fun j hj => by rw [bQ, if_pos hj]
theorem bits_fn (p : List UInt8) (n : Nat) (B : Base) (ad : Option Addr) (cap : Nat) (h : BytesAt B ad p) (hn : p.length = n) (hp : n < 2 ^ 46) :
    Does Try.prog 25 [.raw (.slice ad n cap)] B (fun _ : Unit => .agg (ints .i64 (bitsF p) 3)) (fun _ _ => True) := by
  refine fn_of en25 (fun s B B' hB hR => hR) Try.func25 rfl in25 (by simp [Try.f25]) (by simp [closeds, closed]) (fun B0 hB0 => next_of 1000 ?_)
  replace h := h.ext hB0
  repeat' (first | simp (maxSteps := 4000000) (disch := omega) only [go_sem, Nat.reduceBEq, Nat.reduceAdd, Nat.reduceMul, Nat.reduceSub, Nat.reduceLT, Nat.reduceLeDiff, Int.reduceToNat, Int.reduceLT, Int.reduceLE, Int.reduceAdd, Int.reduceMul, Int.reduceSub, Int.reduceNeg, Int.reduceDiv, Int.reduceMod, Nat.reduceBNe, Nat.reduceGT, Int.reduceBEq, Int.reduceBNe, Int.reduceGT, Nat.reduceDiv, Nat.reduceMod, Nat.reducePow, Int.reducePow, gt_iff_lt, ge_iff_le, List.reduceReplicate, ↓reduceIte, Try.f25] | refine callS_fp (keccak_fn p n _ _ _ h hn hp) (by simp [closed, closeds, closeds_ints, closed_wE]) (next_of 1000 ?_))
  simp only [ints0_3]
  refine loopU (S := Nat) (fun i => i ≤ 3)
    (fun i => ⟨[(8, .int .i64 (i : Nat)), (4, .ptr 2 0), (3, .ptr 1 0), (2, .ptr 0 0)], 3, [(2, some (.cells (ints .i64 (bQ p i) 3) 63 (0, 0))), (1, some (.cells (ints .u8 (kecF p) 32) 38 (0, 0))), (0, some (.cells (ints .i64 (fun _ => 0) 3) 63 (0, 0)))], B0, []⟩)
    (fun i => 3 - i) 0 (by simp) (Weak.sub (weak_of (by simp [wσ, go_sem, closed, closeds, lE_closed, closeds_ints, bQ_zero] <;> omega) (by simp [whs, Go.Ew.hget, go_sem, EObj.closed, closed, closeds, lE_closed, closeds_ints, bQ_zero]) (by simp [*]) rfl rfl (by simp))) ?_
  intro i hi
  refine next_of 1000 ?_
  simp (maxSteps := 4000000) (disch := omega) only [go_sem, Nat.reduceBEq, Nat.reduceAdd, Nat.reduceMul, Nat.reduceSub, Nat.reduceLT, Nat.reduceLeDiff, Int.reduceToNat, Int.reduceLT, Int.reduceLE, Int.reduceAdd, Int.reduceMul, Int.reduceSub, Int.reduceNeg, Int.reduceDiv, Int.reduceMod, Nat.reduceBNe, Nat.reduceGT, Int.reduceBEq, Int.reduceBNe, Int.reduceGT, Nat.reduceDiv, Nat.reduceMod, Nat.reducePow, Int.reducePow, gt_iff_lt, ge_iff_le, List.reduceReplicate, ↓reduceIte]
  repeat (with_reducible refine And.intro (by first | omega | assumption | (constructor <;> assumption) | (simp; done) | (simp; omega) | (simp [*]; done) | ((repeat' refine And.intro ?_ ?_) <;> first | omega | assumption | (refine SlOk.so (n := ?_) ?_ ?_; rotate_left; assumption; omega) | (simp; done) | fail) | fail) ?_)
  refine condS_split (fun h2 => ?_) (fun h2 => ?_)
  all_goals (try simp only [bne_iff_ne, ne_eq, beq_iff_eq, decide_eq_true_eq, decide_eq_false_iff_not, Bool.not_eq_true, Bool.not_eq_false, Bool.not_true, Bool.not_false, bne_eq_false_iff_eq, beq_eq_false_iff_ne, Bool.and_eq_true, Bool.or_eq_true, Bool.and_eq_false_imp, Bool.or_eq_false_iff, Bool.not_eq_true', Bool.not_eq_false', Int.not_lt, Int.not_le] at h2)
  · have e8 : ((2 : Int) * (i : Int)).toNat = 2 * i := by omega
    have e9 : ((2 : Int) * (i : Int) + 1).toNat = 2 * i + 1 := by omega
    have r1 := kecF_range p (2 * i)
    have r2 := kecF_range p (2 * i + 1)
    repeat' (first | with_reducible refine And.intro (by first | omega | assumption | (constructor <;> assumption) | (simp; done) | (simp; omega) | (simp [*]; done) | ((repeat' refine And.intro ?_ ?_) <;> first | omega | assumption | (refine SlOk.so (n := ?_) ?_ ?_; rotate_left; assumption; omega) | (simp; done) | fail) | fail) ?_ | simp (maxSteps := 4000000) (disch := omega) only [go_sem, Nat.reduceBEq, Nat.reduceAdd, Nat.reduceMul, Nat.reduceSub, Nat.reduceLT, Nat.reduceLeDiff, Int.reduceToNat, Int.reduceLT, Int.reduceLE, Int.reduceAdd, Int.reduceMul, Int.reduceSub, Int.reduceNeg, Int.reduceDiv, Int.reduceMod, Nat.reduceBNe, Nat.reduceGT, Int.reduceBEq, Int.reduceBNe, Int.reduceGT, Nat.reduceDiv, Nat.reduceMod, Nat.reducePow, Int.reducePow, gt_iff_lt, ge_iff_le, List.reduceReplicate, ↓reduceIte, Int.toNat_natCast, e8, e9, bitN_or, bitN_plus, bQ_step] | with_reducible refine drawT_of (id := 6) [0, 1, 2, 3, 4, 5, 6, 7, 8, 9, 10, 11, 12, 13, 14, 15, 16] mixed (by kernel_rfl) (by simp) (fun hin => dt_of 1000 hin ?_) | with_reducible refine endT_of (by kernel_rfl) (nmT_of (by kernel_rfl)) (next_of 1000 ?_))
    exact ⟨i + 1, by omega, Weak.sub (weak_of (by simp [wσ, go_sem, closed, closeds, lE_closed, closeds_ints] <;> omega) (by simp [whs, Go.Ew.hget, go_sem, EObj.closed, closed, closeds, lE_closed, closeds_ints]) (by simp [*]) rfl rfl (by simp)), by omega⟩
  · obtain rfl : i = 3 := by omega
    repeat' (first | simp (maxSteps := 4000000) (disch := omega) only [go_sem, Nat.reduceBEq, Nat.reduceAdd, Nat.reduceMul, Nat.reduceSub, Nat.reduceLT, Nat.reduceLeDiff, Int.reduceToNat, Int.reduceLT, Int.reduceLE, Int.reduceAdd, Int.reduceMul, Int.reduceSub, Int.reduceNeg, Int.reduceDiv, Int.reduceMod, Nat.reduceBNe, Nat.reduceGT, Int.reduceBEq, Int.reduceBNe, Int.reduceGT, Nat.reduceDiv, Nat.reduceMod, Nat.reducePow, Int.reducePow, gt_iff_lt, ge_iff_le, List.reduceReplicate, ↓reduceIte, bQ_all, ints_3] | with_reducible refine next_of 1000 ?_)
    exact ⟨BExt.refl _, (), by simp [closed], by simp [closed, closeds]⟩
end Go.Proofs.Ytepabkjfnpaijaa

