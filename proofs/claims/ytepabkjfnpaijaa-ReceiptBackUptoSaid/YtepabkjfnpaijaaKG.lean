/- Part of a proof over the seat Ytepabkjfnpaijaa. -/
import Derived.Test.YtepabkjfnpaijaaKE
import Derived.Test.YtepabkjfnpaijaaEng2
namespace Go.Proofs.Ytepabkjfnpaijaa
open Go RowKit Go.Ew
set_option maxRecDepth 100000
set_option linter.unusedSimpArgs false
set_option linter.unusedVariables false
set_option maxHeartbeats 2000000
/-- A byte as a lane. -/
def b64 (x : UInt8) : L64 := BitVec.ofNat 64 x.toNat
theorem b64_lt (x : UInt8) : (b64 x).toNat < 2 ^ 8 := by
  unfold b64; rw [BitVec.toNat_ofNat]; have := x.toNat_lt; omega
theorem n64_b64 (x : UInt8) : (x.toNat : Int) = n64 (b64 x) := by
  unfold n64 b64; rw [BitVec.toNat_ofNat]; have := x.toNat_lt; omega
/-- So many bytes from a place on, the least first. -/
def lx (p : Nat → UInt8) : Nat → L64
  | 0 => 0
  | j + 1 => lx p j ^^^ (b64 (p j) <<< (8 * j))
theorem high_false {x : L64} {k i : Nat} (h : x.toNat < 2 ^ k) (hi : k ≤ i) : x.getLsbD i = false := by
  rw [BitVec.getLsbD]; exact Nat.testBit_lt_two_pow (Nat.lt_of_lt_of_le h (Nat.pow_le_pow_right (by omega) hi))
theorem or_xor {x y : L64} {k : Nat} (h : x.toNat < 2 ^ k) : x ||| (y <<< k) = x ^^^ (y <<< k) := by
  apply BitVec.eq_of_getLsbD_eq
  intro i hi
  simp only [BitVec.getLsbD_or, BitVec.getLsbD_xor, BitVec.getLsbD_shiftLeft]
  by_cases hk : i < k
  · simp [hk]
  · rw [high_false h (by omega)]; simp
theorem lx_lt (p : Nat → UInt8) : ∀ j, j ≤ 8 → (lx p j).toNat < 2 ^ (8 * j)
  | 0, _ => by simp [lx]
  | j + 1, hj => by
    have ih := lx_lt p j (by omega)
    simp only [lx]
    rw [BitVec.toNat_xor]
    refine Nat.xor_lt_two_pow (Nat.lt_of_lt_of_le ih (Nat.pow_le_pow_right (by omega) (by omega))) ?_
    rw [BitVec.toNat_shiftLeft]
    have h1 := b64_lt (p j)
    have h2 : (b64 (p j)).toNat <<< (8 * j) < 2 ^ (8 * (j + 1)) := by
      rw [Nat.shiftLeft_eq, show 8 * (j + 1) = 8 + 8 * j by omega, Nat.pow_add]
      exact Nat.mul_lt_mul_of_pos_right h1 (Nat.two_pow_pos _)
    exact Nat.lt_of_le_of_lt (Nat.mod_le _ _) h2
/-- Read from the highest on. -/
def wd (p : Nat → UInt8) : Nat → L64
  | 0 => 0
  | i + 1 => wd p i <<< 8 ||| b64 (p (7 - i))
theorem shl_or (x y : L64) (k : Nat) : (x ||| y) <<< k = x <<< k ||| y <<< k := by
  apply BitVec.eq_of_getLsbD_eq
  intro i hi
  simp only [BitVec.getLsbD_or, BitVec.getLsbD_shiftLeft]
  cases decide (i < 64) <;> cases decide (i < k) <;> simp
theorem wd_lx (p : Nat → UInt8) : ∀ i, i ≤ 8 → lx p (8 - i) ||| wd p i <<< (8 * (8 - i)) = lx p 8
  | 0, _ => by simp [wd]
  | i + 1, hi => by
    have ih := wd_lx p i (by omega)
    rw [← ih]
    obtain ⟨m, hm⟩ : ∃ m, 8 - i = m + 1 := ⟨7 - i, by omega⟩
    rw [show 8 - (i + 1) = m by omega, hm]
    simp only [lx, wd]
    rw [show 7 - i = m by omega, shl_or, ← BitVec.shiftLeft_add, ← or_xor (lx_lt p m (by omega)), show 8 + 8 * m = 8 * (m + 1) by omega]
    ac_rfl
theorem wd_eq (p : Nat → UInt8) : wd p 8 = lx p 8 := by
  have := wd_lx p 8 (by omega)
  simpa [lx] using this
theorem wrapn (x : L64) : IntKind.u64.wrap (n64 x) = n64 x := wrap_u64 (n64_nn x) (n64_lt x)
theorem in77 : codeIn Try.f77.ntmps (Try.f77.body.getD .skip) = true := by kernel_rfl
theorem in79 : codeIn Try.f79.ntmps (Try.f79.body.getD .skip) = true := by kernel_rfl
theorem word_fn (p : List UInt8) (n : Nat) (B : Base) (ad : Option Addr) (cap : Nat) (h : BytesAt B ad p) (hn : p.length = n) (hp : 8 ≤ n) :
    Does Try.prog 77 [.raw (.slice ad n cap), .int .i64 8, .int .i64 0] B (fun _ : Unit => .int .u64 (n64 (lx (fun j => p.getD j 0) 8))) (fun _ _ => True) := by
  refine fn_of en77 (fun s B B' hB hR => hR) Try.func77 rfl in77 (by simp [Try.f77]) (by simp [closeds, closed]) (fun B0 hB0 => next_of 1000 ?_)
  subst hn
  replace h := h.ext hB0
  have so := h.ok (by omega)
  have hD := h.lD (by omega)
  simp (maxSteps := 4000000) (disch := omega) only [go_sem, Nat.reduceBEq, Nat.reduceAdd, Nat.reduceMul, Nat.reduceSub, Nat.reduceLT, Nat.reduceLeDiff, Int.reduceToNat, Int.reduceLT, Int.reduceLE, Int.reduceAdd, Int.reduceMul, Int.reduceSub, Int.reduceNeg, Int.reduceDiv, Int.reduceMod, Nat.reduceBNe, Nat.reduceGT, Int.reduceBEq, Int.reduceBNe, Int.reduceGT, Nat.reduceDiv, Nat.reduceMod, Nat.reducePow, Int.reducePow, gt_iff_lt, ge_iff_le, List.reduceReplicate, ↓reduceIte, Try.f77]
  repeat (with_reducible refine And.intro (by first | omega | assumption | (constructor <;> assumption) | (simp; done) | (simp; omega) | (simp [*]; done) | ((repeat' refine And.intro ?_ ?_) <;> first | omega | assumption | (refine SlOk.so (n := ?_) ?_ ?_; rotate_left; assumption; omega) | (simp; done) | fail) | fail) ?_)
  refine loopU (S := Nat) (fun i => i ≤ 8)
    (fun i => ⟨[(11, .int .i64 (i : Nat)), (10, .int .i64 8), (7, .int .u64 (n64 (wd (fun j => p.getD j 0) i))), (2, .int .i64 0), (1, .int .i64 8), (0, .raw (.slice ad p.length cap))], 0, [], B0, []⟩)
    (fun i => 8 - i) 0 (by omega) (Weak.sub (weak_of (by simp [wσ, go_sem, closed, closeds, wd, n64]) (by simp [whs, go_sem, EObj.closed, closed, closeds, wd, n64]) (by simp [*]) rfl rfl (by simp))) ?_
  intro i hi
  refine next_of 1000 ?_
  simp (maxSteps := 4000000) (disch := omega) only [go_sem, Nat.reduceBEq, Nat.reduceAdd, Nat.reduceMul, Nat.reduceSub, Nat.reduceLT, Nat.reduceLeDiff, Int.reduceToNat, Int.reduceLT, Int.reduceLE, Int.reduceAdd, Int.reduceMul, Int.reduceSub, Int.reduceNeg, Int.reduceDiv, Int.reduceMod, Nat.reduceBNe, Nat.reduceGT, Int.reduceBEq, Int.reduceBNe, Int.reduceGT, Nat.reduceDiv, Nat.reduceMod, Nat.reducePow, Int.reducePow, gt_iff_lt, ge_iff_le, List.reduceReplicate, ↓reduceIte]
  repeat (with_reducible refine And.intro (by first | omega | assumption | (constructor <;> assumption) | (simp; done) | (simp; omega) | (simp [*]; done) | ((repeat' refine And.intro ?_ ?_) <;> first | omega | assumption | (refine SlOk.so (n := ?_) ?_ ?_; rotate_left; assumption; omega) | (simp; done) | fail) | fail) ?_)
  refine condS_split (fun h1 => ?_) (fun h1 => ?_)
  all_goals (try simp only [bne_iff_ne, ne_eq, beq_iff_eq, decide_eq_true_eq, decide_eq_false_iff_not, Bool.not_eq_true, Bool.not_eq_false, Bool.not_true, Bool.not_false, bne_eq_false_iff_eq, beq_eq_false_iff_ne, Bool.and_eq_true, Bool.or_eq_true, Bool.and_eq_false_imp, Bool.or_eq_false_iff, Bool.not_eq_true', Bool.not_eq_false', Int.not_lt, Int.not_le] at h1)
  · have t7 : (7 - (i : Int)).toNat = 7 - i := by omega
    have c1 := h.ld (7 - i) (by omega)
    have c2 := h.lS (7 - i) (by omega)
    have s8 : bShl .u64 (n64 (wd (fun j => p.getD j 0) i)) 8 = n64 (wd (fun j => p.getD j 0) i <<< 8) := shl64 _ 8
    repeat' (first | with_reducible refine And.intro (by first | omega | assumption | (constructor <;> assumption) | (simp; done) | (simp; omega) | (simp [*]; done) | ((repeat' refine And.intro ?_ ?_) <;> first | omega | assumption | (refine SlOk.so (n := ?_) ?_ ?_; rotate_left; assumption; omega) | (simp; done) | fail) | fail) ?_ | simp (maxSteps := 4000000) (disch := omega) only [go_sem, Nat.reduceBEq, Nat.reduceAdd, Nat.reduceMul, Nat.reduceSub, Nat.reduceLT, Nat.reduceLeDiff, Int.reduceToNat, Int.reduceLT, Int.reduceLE, Int.reduceAdd, Int.reduceMul, Int.reduceSub, Int.reduceNeg, Int.reduceDiv, Int.reduceMod, Nat.reduceBNe, Nat.reduceGT, Int.reduceBEq, Int.reduceBNe, Int.reduceGT, Nat.reduceDiv, Nat.reduceMod, Nat.reducePow, Int.reducePow, gt_iff_lt, ge_iff_le, List.reduceReplicate, ↓reduceIte, t7, c1, c2, hD, so, bE, n64_b64, s8, wrapn, or64])
    exact ⟨i + 1, by omega, Weak.sub (weak_of (by simp [wσ, go_sem, closed, closeds, lE_closed, wd] <;> omega) (by simp [whs, Go.Ew.hget, go_sem, EObj.closed, closed, closeds, lE_closed, wd]) (by simp [*]) rfl rfl (by simp)), by omega⟩
  · obtain rfl : i = 8 := by omega
    simp (maxSteps := 4000000) (disch := omega) only [go_sem, Nat.reduceBEq, Nat.reduceAdd, Nat.reduceMul, Nat.reduceSub, Nat.reduceLT, Nat.reduceLeDiff, Int.reduceToNat, Int.reduceLT, Int.reduceLE, Int.reduceAdd, Int.reduceMul, Int.reduceSub, Int.reduceNeg, Int.reduceDiv, Int.reduceMod, Nat.reduceBNe, Nat.reduceGT, Int.reduceBEq, Int.reduceBNe, Int.reduceGT, Nat.reduceDiv, Nat.reduceMod, Nat.reducePow, Int.reducePow, gt_iff_lt, ge_iff_le, List.reduceReplicate, ↓reduceIte]
    repeat (with_reducible refine And.intro (by first | omega | assumption | (constructor <;> assumption) | (simp; done) | (simp; omega) | (simp [*]; done) | ((repeat' refine And.intro ?_ ?_) <;> first | omega | assumption | (refine SlOk.so (n := ?_) ?_ ?_; rotate_left; assumption; omega) | (simp; done) | fail) | fail) ?_)
    refine next_of 1000 ?_
    simp (maxSteps := 4000000) (disch := omega) only [go_sem, Nat.reduceBEq, Nat.reduceAdd, Nat.reduceMul, Nat.reduceSub, Nat.reduceLT, Nat.reduceLeDiff, Int.reduceToNat, Int.reduceLT, Int.reduceLE, Int.reduceAdd, Int.reduceMul, Int.reduceSub, Int.reduceNeg, Int.reduceDiv, Int.reduceMod, Nat.reduceBNe, Nat.reduceGT, Int.reduceBEq, Int.reduceBNe, Int.reduceGT, Nat.reduceDiv, Nat.reduceMod, Nat.reducePow, Int.reducePow, gt_iff_lt, ge_iff_le, List.reduceReplicate, ↓reduceIte]
    repeat (with_reducible refine And.intro (by first | omega | assumption | (constructor <;> assumption) | (simp; done) | (simp; omega) | (simp [*]; done) | ((repeat' refine And.intro ?_ ?_) <;> first | omega | assumption | (refine SlOk.so (n := ?_) ?_ ?_; rotate_left; assumption; omega) | (simp; done) | fail) | fail) ?_)
    rw [wd_eq]
    exact ⟨BExt.refl _, (), rfl, trivial⟩
/-- k bytes laid from place o on. -/
def layF (f : Nat → Int) (o : Nat) (x : L64) (k : Nat) : Nat → Int := fun i => if o ≤ i ∧ i < o + k then n64 (x >>> (8 * (i - o))) % 256 else f i
theorem layF_step (f : Nat → Int) (o : Nat) (x : L64) (k : Nat) : setF (layF f o x k) (o + k) (n64 (x >>> (8 * k)) % 256) = layF f o x (k + 1) := by
  funext i
  simp only [setF, layF]
  by_cases h : i = o + k
  · subst h; rw [if_pos rfl, if_pos (by omega), show o + k - o = k by omega]
  · rw [if_neg h]
    by_cases h2 : o ≤ i ∧ i < o + k
    · rw [if_pos h2, if_pos (by omega)]
    · rw [if_neg h2, if_neg (by omega)]
theorem layF_zero (f : Nat → Int) (o : Nat) (x : L64) : layF f o x 0 = f := funext fun i => if_neg (by omega)
theorem lay_calls (f : Nat → Int) (o cap : Nat) (x : L64) (ho : o + 8 ≤ 32) (T : TypeId) (blk : Nat) (w : World) (hb : w.heap[blk]? = some (.cells (intsV .u8 f 32).toArray T (0, 0))) :
    Calls Try.prog 79 (reals (bsOf [blk]) [.sl 0 o 8 cap, .int .u64 (n64 x), .int .i64 0]).toArray w (fun e w' => ∃ s : Unit, True ∧ RetW [blk] (.tup []) 1 [some (.cells (ints .u8 (layF f o x 8) 32) T (0, 0))] w e w') := by
  refine wr_calls (fun _ => True) (fun _ : Unit => .tup []) (fun _ => 1) (fun _ => [some (.cells (ints .u8 (layF f o x 8) 32) T (0, 0))]) [blk] [.cells (ints .u8 f 32) T (0, 0)] [.sl 0 o 8 cap, .int .u64 (n64 x), .int .i64 0] Try.func79 rfl in79 (by simp [Try.f79]) (by simp [closeds, closed]) rfl (by simp) ?_ (next_of 1000 ?_)
  · rintro (_ | i) b o h1 h2
    · simp at h1 h2; subst h1; subst h2
      exact ⟨by simp only [EObj.real, reals_ints]; exact hb, by simp only [EObj.closed]; exact closeds_ints _ _ _ _⟩
    · simp at h1
  simp (maxSteps := 4000000) (disch := omega) only [go_sem, Nat.reduceBEq, Nat.reduceAdd, Nat.reduceMul, Nat.reduceSub, Nat.reduceLT, Nat.reduceLeDiff, Int.reduceToNat, Int.reduceLT, Int.reduceLE, Int.reduceAdd, Int.reduceMul, Int.reduceSub, Int.reduceNeg, Int.reduceDiv, Int.reduceMod, Nat.reduceBNe, Nat.reduceGT, Int.reduceBEq, Int.reduceBNe, Int.reduceGT, Nat.reduceDiv, Nat.reduceMod, Nat.reducePow, Int.reducePow, gt_iff_lt, ge_iff_le, List.reduceReplicate, ↓reduceIte, Try.f79]
  repeat (with_reducible refine And.intro (by first | omega | assumption | (constructor <;> assumption) | (simp; done) | (simp; omega) | (simp [*]; done) | ((repeat' refine And.intro ?_ ?_) <;> first | omega | assumption | (refine SlOk.so (n := ?_) ?_ ?_; rotate_left; assumption; omega) | (simp; done) | fail) | fail) ?_)
  refine loopU (S := Nat) (fun i => i ≤ 8)
    (fun i => ⟨[(10, .int .i64 (i : Nat)), (9, .int .i64 8), (2, .int .i64 0), (1, .int .u64 (n64 x)), (0, .sl 0 o 8 cap)], 1, [(0, some (.cells (ints .u8 (layF f o x i) 32) T (0, 0)))], baseW w [blk], []⟩)
    (fun i => 8 - i) 0 (by omega) (Weak.sub (weak_of (by simp [wσ, go_sem, closed, closeds, layF_zero, closeds_ints]) (by simp [whs, go_sem, EObj.closed, closed, closeds, layF_zero, closeds_ints]) (by simp [*]) rfl rfl (by simp))) ?_
  intro i hi
  refine next_of 1000 ?_
  simp (maxSteps := 4000000) (disch := omega) only [go_sem, Nat.reduceBEq, Nat.reduceAdd, Nat.reduceMul, Nat.reduceSub, Nat.reduceLT, Nat.reduceLeDiff, Int.reduceToNat, Int.reduceLT, Int.reduceLE, Int.reduceAdd, Int.reduceMul, Int.reduceSub, Int.reduceNeg, Int.reduceDiv, Int.reduceMod, Nat.reduceBNe, Nat.reduceGT, Int.reduceBEq, Int.reduceBNe, Int.reduceGT, Nat.reduceDiv, Nat.reduceMod, Nat.reducePow, Int.reducePow, gt_iff_lt, ge_iff_le, List.reduceReplicate, ↓reduceIte]
  repeat (with_reducible refine And.intro (by first | omega | assumption | (constructor <;> assumption) | (simp; done) | (simp; omega) | (simp [*]; done) | ((repeat' refine And.intro ?_ ?_) <;> first | omega | assumption | (refine SlOk.so (n := ?_) ?_ ?_; rotate_left; assumption; omega) | (simp; done) | fail) | fail) ?_)
  refine condS_split (fun h1 => ?_) (fun h1 => ?_)
  all_goals (try simp only [bne_iff_ne, ne_eq, beq_iff_eq, decide_eq_true_eq, decide_eq_false_iff_not, Bool.not_eq_true, Bool.not_eq_false, Bool.not_true, Bool.not_false, bne_eq_false_iff_eq, beq_eq_false_iff_ne, Bool.and_eq_true, Bool.or_eq_true, Bool.and_eq_false_imp, Bool.or_eq_false_iff, Bool.not_eq_true', Bool.not_eq_false', Int.not_lt, Int.not_le] at h1)
  · have t8 : (8 : Int) * (i : Int) = ((8 * i : Nat) : Int) := by omega
    repeat' (first | with_reducible refine And.intro (by first | omega | assumption | (constructor <;> assumption) | (simp; done) | (simp; omega) | (simp [*]; done) | ((repeat' refine And.intro ?_ ?_) <;> first | omega | assumption | (refine SlOk.so (n := ?_) ?_ ?_; rotate_left; assumption; omega) | (simp; done) | fail) | fail) ?_ | simp (maxSteps := 4000000) (disch := omega) only [go_sem, Nat.reduceBEq, Nat.reduceAdd, Nat.reduceMul, Nat.reduceSub, Nat.reduceLT, Nat.reduceLeDiff, Int.reduceToNat, Int.reduceLT, Int.reduceLE, Int.reduceAdd, Int.reduceMul, Int.reduceSub, Int.reduceNeg, Int.reduceDiv, Int.reduceMod, Nat.reduceBNe, Nat.reduceGT, Int.reduceBEq, Int.reduceBNe, Int.reduceGT, Nat.reduceDiv, Nat.reduceMod, Nat.reducePow, Int.reducePow, gt_iff_lt, ge_iff_le, List.reduceReplicate, ↓reduceIte, Int.toNat_natCast, t8, shr64, wrap_u8_mod, layF_step])
    exact ⟨i + 1, by omega, Weak.sub (weak_of (by simp [wσ, go_sem, closed, closeds, lE_closed, closeds_ints] <;> omega) (by simp [whs, Go.Ew.hget, go_sem, EObj.closed, closed, closeds, lE_closed, closeds_ints]) (by simp [*]) rfl rfl (by simp)), by omega⟩
  · obtain rfl : i = 8 := by omega
    simp (maxSteps := 4000000) (disch := omega) only [go_sem, Nat.reduceBEq, Nat.reduceAdd, Nat.reduceMul, Nat.reduceSub, Nat.reduceLT, Nat.reduceLeDiff, Int.reduceToNat, Int.reduceLT, Int.reduceLE, Int.reduceAdd, Int.reduceMul, Int.reduceSub, Int.reduceNeg, Int.reduceDiv, Int.reduceMod, Nat.reduceBNe, Nat.reduceGT, Int.reduceBEq, Int.reduceBNe, Int.reduceGT, Nat.reduceDiv, Nat.reduceMod, Nat.reducePow, Int.reducePow, gt_iff_lt, ge_iff_le, List.reduceReplicate, ↓reduceIte]
    repeat (with_reducible refine And.intro (by first | omega | assumption | (constructor <;> assumption) | (simp; done) | (simp; omega) | (simp [*]; done) | ((repeat' refine And.intro ?_ ?_) <;> first | omega | assumption | (refine SlOk.so (n := ?_) ?_ ?_; rotate_left; assumption; omega) | (simp; done) | fail) | fail) ?_)
    refine next_of 1000 ?_
    simp (maxSteps := 4000000) (disch := omega) only [go_sem, Nat.reduceBEq, Nat.reduceAdd, Nat.reduceMul, Nat.reduceSub, Nat.reduceLT, Nat.reduceLeDiff, Int.reduceToNat, Int.reduceLT, Int.reduceLE, Int.reduceAdd, Int.reduceMul, Int.reduceSub, Int.reduceNeg, Int.reduceDiv, Int.reduceMod, Nat.reduceBNe, Nat.reduceGT, Int.reduceBEq, Int.reduceBNe, Int.reduceGT, Nat.reduceDiv, Nat.reduceMod, Nat.reducePow, Int.reducePow, gt_iff_lt, ge_iff_le, List.reduceReplicate, ↓reduceIte]
    repeat (with_reducible refine And.intro (by first | omega | assumption | (constructor <;> assumption) | (simp; done) | (simp; omega) | (simp [*]; done) | ((repeat' refine And.intro ?_ ?_) <;> first | omega | assumption | (refine SlOk.so (n := ?_) ?_ ?_; rotate_left; assumption; omega) | (simp; done) | fail) | fail) ?_)
    refine ⟨(), fun j hj => ?_, ?_⟩
    · obtain rfl : j = 0 := by omega
      exact ⟨_, rfl⟩
    · rintro (_ | i) o h
      · simp at h ⊢
        subst h
        rfl
      · simp at h ⊢
end Go.Proofs.Ytepabkjfnpaijaa

