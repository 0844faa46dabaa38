/- Part of a proof over the seat Ytepabkjfnpaijaa. -/
import Derived.Test.YtepabkjfnpaijaaKH
namespace Go.Proofs.Ytepabkjfnpaijaa
open Go RowKit Go.Ew
set_option maxRecDepth 100000
set_option linter.unusedSimpArgs false
set_option linter.unusedVariables false
set_option maxHeartbeats 4000000
/-- A block laid over the lanes byte by byte. -/
def xorP (a : Nat → L64) (l : List UInt8) (o i : Nat) : Nat → L64 := fun j => if j < i / 8 then a j ^^^ lx (fun t => l.getD (o + 8 * j + t) 0) 8 else if j = i / 8 then a j ^^^ lx (fun t => l.getD (o + 8 * j + t) 0) (i % 8) else a j
theorem xorP_zero (a : Nat → L64) (l : List UInt8) (o : Nat) : xorP a l o 0 = a := by
  funext j
  simp only [xorP]
  rw [if_neg (by omega)]
  split
  · simp [lx]
  · rfl
theorem xorP_step (a : Nat → L64) (l : List UInt8) (o i : Nat) : setL (xorP a l o i) (i / 8) (xorP a l o i (i / 8) ^^^ (b64 (l.getD (o + i) 0) <<< (8 * (i % 8)))) = xorP a l o (i + 1) := by
  funext j
  simp only [setL, xorP]
  have hd : o + 8 * (i / 8) + i % 8 = o + i := by omega
  have hl : lx (fun t => l.getD (o + 8 * (i / 8) + t) 0) (i % 8) ^^^ (b64 (l.getD (o + i) 0) <<< (8 * (i % 8))) = lx (fun t => l.getD (o + 8 * (i / 8) + t) 0) (i % 8 + 1) := by simp only [lx, hd]
  by_cases h : j = i / 8
  · subst h
    simp only [if_true, Nat.lt_irrefl, if_false]
    rw [BitVec.xor_assoc, hl]
    by_cases h7 : i % 8 = 7
    · rw [if_pos (by omega), h7]
    · rw [if_neg (by omega), if_pos (by omega), show (i + 1) % 8 = i % 8 + 1 by omega]
  · rw [if_neg h]
    by_cases h2 : j < i / 8
    · rw [if_pos h2, if_pos (by omega)]
    · rw [if_neg h2, if_neg h, if_neg (by omega)]
      by_cases h3 : j = (i + 1) / 8
      · rw [if_pos h3, show (i + 1) % 8 = 0 by omega]; simp [lx]
      · rw [if_neg h3]
theorem xorP_all (a : Nat → L64) (l : List UInt8) (o : Nat) : xorP a l o 136 = xorB a l o 17 := by
  funext j
  simp only [xorP, xorB]
  by_cases h : j < 17
  · rw [if_pos (by omega), if_pos h]
  · rw [if_neg (by omega), if_neg h]
    split
    · simp [lx]
    · rfl
def hQ (a : Nat → L64) (i : Nat) : Nat → Int := fun j => if j < i then hF a j else 0
theorem hQ_zero (a : Nat → L64) : hQ a 0 = fun _ => 0 := funext fun j => if_neg (by omega)
theorem hQ_step (a : Nat → L64) (i : Nat) : setF (hQ a i) i (n64 (a (i / 8) >>> (8 * (i % 8))) % 256) = hQ a (i + 1) := by
  funext j
  simp only [setF, hQ]
  by_cases h : j = i
  · subst h; rw [if_pos rfl, if_pos (by omega)]; rfl
  · rw [if_neg h]
    by_cases h2 : j < i
    · rw [if_pos h2, if_pos (by omega)]
    · rw [if_neg h2, if_neg (by omega)]
theorem in80 : codeIn Try.f80.ntmps (Try.f80.body.getD .skip) = true := by kernel_rfl
theorem refkeccak_fn (p : List UInt8) (n : Nat) (B : Base) (ad : Option Addr) (cap : Nat) (h : BytesAt B ad p) (hn : p.length = n) (hp : n < 2 ^ 46) :
    Does Try.prog 80 [.raw (.slice ad n cap)] B (fun _ : Unit => .agg (ints .u8 (kecF p) 32)) (fun _ _ => True) := by
  refine fn_of en80 (fun s B B' hB hR => hR) Try.func80 rfl in80 (by simp [Try.f80]) (by simp [closeds, closed]) (fun B0 hB0 => next_of 1000 ?_)
  subst hn
  replace h := h.ext hB0
  repeat' (simp (maxSteps := 4000000) (disch := omega) only [go_sem, Nat.reduceBEq, Nat.reduceAdd, Nat.reduceMul, Nat.reduceSub, Nat.reduceLT, Nat.reduceLeDiff, Int.reduceToNat, Int.reduceLT, Int.reduceLE, Int.reduceAdd, Int.reduceMul, Int.reduceSub, Int.reduceNeg, Int.reduceDiv, Int.reduceMod, Nat.reduceBNe, Nat.reduceGT, Int.reduceBEq, Int.reduceBNe, Int.reduceGT, Nat.reduceDiv, Nat.reduceMod, Nat.reducePow, Int.reducePow, gt_iff_lt, ge_iff_le, List.reduceReplicate, ↓reduceIte, Try.f80])
  refine appB (T := 5) (l := none) (xs := []) 1 0 p rfl Try.underlying23 (.inl ⟨_, Try.underlying23⟩) zr5 cz5 by5 rfl rfl rfl rfl (h.src _) (by omega) (fun l1 hl1 => ?_)
  simp only [Nat.zero_add, List.nil_append] at hl1 ⊢
  refine packS [1] 1 (by simp) (by simp) (by simp) (by simp) (next_of 1000 ?_)
  repeat' (first | with_reducible refine And.intro (by first | omega | assumption | (constructor <;> assumption) | (simp; done) | (simp; omega) | (simp [*]; done) | ((repeat' refine And.intro ?_ ?_) <;> first | omega | assumption | (refine SlOk.so (n := ?_) ?_ ?_; rotate_left; assumption; omega) | (simp; done) | fail) | fail) ?_ | simp (maxSteps := 4000000) (disch := omega) only [go_sem, Nat.reduceBEq, Nat.reduceAdd, Nat.reduceMul, Nat.reduceSub, Nat.reduceLT, Nat.reduceLeDiff, Int.reduceToNat, Int.reduceLT, Int.reduceLE, Int.reduceAdd, Int.reduceMul, Int.reduceSub, Int.reduceNeg, Int.reduceDiv, Int.reduceMod, Nat.reduceBNe, Nat.reduceGT, Int.reduceBEq, Int.reduceBNe, Int.reduceGT, Nat.reduceDiv, Nat.reduceMod, Nat.reducePow, Int.reducePow, gt_iff_lt, ge_iff_le, List.reduceReplicate, ↓reduceIte, okC_lE' (ks := [1]) (k := 1) (r := 1) rfl, pkO_lO (ks := [1]) (k := 1) hl1 (closeds_bE 0 _) hz8, pkO_none])
  refine appB (T := 5) (xs := p) 1 p.length [1] rfl Try.underlying23 (.inl ⟨_, Try.underlying23⟩) zr5 cz5 by5 rfl rfl rfl hl1 ⟨_, rfl, by simp⟩ (by simp only [List.length_cons, List.length_nil]; omega) (fun l2 hl2 => ?_)
  simp only [List.length_cons, List.length_nil, Nat.zero_add] at hl2 ⊢
  refine packS [3] 1 (by simp) (by simp) (by simp) (by simp) (next_of 1000 ?_)
  repeat' (simp (maxSteps := 4000000) (disch := omega) only [go_sem, Nat.reduceBEq, Nat.reduceAdd, Nat.reduceMul, Nat.reduceSub, Nat.reduceLT, Nat.reduceLeDiff, Int.reduceToNat, Int.reduceLT, Int.reduceLE, Int.reduceAdd, Int.reduceMul, Int.reduceSub, Int.reduceNeg, Int.reduceDiv, Int.reduceMod, Nat.reduceBNe, Nat.reduceGT, Int.reduceBEq, Int.reduceBNe, Int.reduceGT, Nat.reduceDiv, Nat.reduceMod, Nat.reducePow, Int.reducePow, gt_iff_lt, ge_iff_le, List.reduceReplicate, ↓reduceIte, okC_lE' (ks := [3]) (k := 1) (r := 3) rfl, pkO_lO (ks := [3]) (k := 1) hl2 (closeds_bE 0 _) hz8, pkO_none])
  have hl2b : ∀ n, clO n (lO 5 (p.map bE ++ [bE 1]) l2) = True := fun n => by have := clO_lO (T := 5) (n := n) hl2 (closeds_bE 0 (p ++ [1])) hz8; rwa [List.map_append] at this
  have hw := fun k => show p.length + 1 + k + 1 = p.length + 1 + (k + 1) by omega
  refine loopU (S := Nat × Lst) (fun s => s.1 ≤ padN p.length ∧ lOk [.int .u8 0] (p.length + 1 + s.1) s.2)
    (fun s => ⟨[(3, lE 1 (p.length + 1 + s.1) s.2), (2, .ptr 0 0)], 2, [(1, lO 5 ((p ++ 1 :: List.replicate s.1 0).map bE) s.2), (0, some (.cells (ints .u8 (fun _ => 0) 32) 38 (0, 0)))], B0, []⟩)
    (fun s => padN p.length - s.1) (0, l2) ⟨Nat.zero_le _, hl2⟩ (Weak.sub (weak_of (by simp [wσ, go_sem, closed, closeds, lE_closed, closeds_ints, hl2b] <;> omega) (by simp [whs, Go.Ew.hget, go_sem, EObj.closed, closed, closeds, lE_closed, closeds_ints, hl2b]) (by simp [*]) rfl rfl (by simp)) ) ?_
  · rintro ⟨k, l3⟩ ⟨hk, hl3⟩
    simp only at hk hl3 ⊢
    have hl3' := hl3
    obtain ⟨cp, rest, rfl, -⟩ := lst_some hl3 (by omega)
    simp only [lE_some, lO_some]
    refine next_of 1000 ?_
    simp (maxSteps := 4000000) (disch := omega) only [go_sem, Nat.reduceBEq, Nat.reduceAdd, Nat.reduceMul, Nat.reduceSub, Nat.reduceLT, Nat.reduceLeDiff, Int.reduceToNat, Int.reduceLT, Int.reduceLE, Int.reduceAdd, Int.reduceMul, Int.reduceSub, Int.reduceNeg, Int.reduceDiv, Int.reduceMod, Nat.reduceBNe, Nat.reduceGT, Int.reduceBEq, Int.reduceBNe, Int.reduceGT, Nat.reduceDiv, Nat.reduceMod, Nat.reducePow, Int.reducePow, gt_iff_lt, ge_iff_le, List.reduceReplicate, ↓reduceIte]
    repeat (with_reducible refine And.intro (by first | omega | assumption | (constructor <;> assumption) | (simp; done) | (simp; omega) | (simp [*]; done) | ((repeat' refine And.intro ?_ ?_) <;> first | omega | assumption | (refine SlOk.so (n := ?_) ?_ ?_; rotate_left; assumption; omega) | (simp; done) | fail) | fail) ?_)
    refine condS_split (fun h1 => ?_) (fun h1 => ?_)
    all_goals (try simp only [bne_iff_ne, ne_eq, beq_iff_eq, decide_eq_true_eq, decide_eq_false_iff_not, Bool.not_eq_true, Bool.not_eq_false, Bool.not_true, Bool.not_false, bne_eq_false_iff_eq, beq_eq_false_iff_ne, Bool.and_eq_true, Bool.or_eq_true, Bool.and_eq_false_imp, Bool.or_eq_false_iff, Bool.not_eq_true', Bool.not_eq_false', Int.not_lt, Int.not_le] at h1)
    · have hlt : k < padN p.length := by unfold padN at hk ⊢; omega
      simp (maxSteps := 4000000) (disch := omega) only [go_sem, Nat.reduceBEq, Nat.reduceAdd, Nat.reduceMul, Nat.reduceSub, Nat.reduceLT, Nat.reduceLeDiff, Int.reduceToNat, Int.reduceLT, Int.reduceLE, Int.reduceAdd, Int.reduceMul, Int.reduceSub, Int.reduceNeg, Int.reduceDiv, Int.reduceMod, Nat.reduceBNe, Nat.reduceGT, Int.reduceBEq, Int.reduceBNe, Int.reduceGT, Nat.reduceDiv, Nat.reduceMod, Nat.reducePow, Int.reducePow, gt_iff_lt, ge_iff_le, List.reduceReplicate, ↓reduceIte]
      repeat (with_reducible refine And.intro (by first | omega | assumption | (constructor <;> assumption) | (simp; done) | (simp; omega) | (simp [*]; done) | ((repeat' refine And.intro ?_ ?_) <;> first | omega | assumption | (refine SlOk.so (n := ?_) ?_ ?_; rotate_left; assumption; omega) | (simp; done) | fail) | fail) ?_)
      refine appB (T := 5) (xs := p ++ 1 :: List.replicate k 0) (l := some (cp, rest)) 1 (p.length + 1 + k) [0] rfl Try.underlying23 (.inl ⟨_, Try.underlying23⟩) zr5 cz5 by5 (by simp; omega) rfl rfl hl3 ⟨_, rfl, by simp⟩ (by simp only [List.length_cons, List.length_nil]; unfold padN at hk; omega) (fun l4 hl4 => ?_)
      simp only [List.length_cons, List.length_nil, Nat.zero_add] at hl4 ⊢
      refine packS [3] 1 (by simp) (by simp) (by simp) (by simp) (next_of 1000 ?_)
      repeat' (simp (maxSteps := 4000000) (disch := omega) only [go_sem, Nat.reduceBEq, Nat.reduceAdd, Nat.reduceMul, Nat.reduceSub, Nat.reduceLT, Nat.reduceLeDiff, Int.reduceToNat, Int.reduceLT, Int.reduceLE, Int.reduceAdd, Int.reduceMul, Int.reduceSub, Int.reduceNeg, Int.reduceDiv, Int.reduceMod, Nat.reduceBNe, Nat.reduceGT, Int.reduceBEq, Int.reduceBNe, Int.reduceGT, Nat.reduceDiv, Nat.reduceMod, Nat.reducePow, Int.reducePow, gt_iff_lt, ge_iff_le, List.reduceReplicate, ↓reduceIte, okC_lE' (ks := [3]) (k := 1) (r := 3) rfl, pkO_lO (ks := [3]) (k := 1) hl4 (closeds_bE 0 _) hz8, pkO_none])
      have e0 : p ++ 1 :: List.replicate k 0 ++ [0] = p ++ 1 :: List.replicate (k + 1) 0 := by rw [List.replicate_succ', List.append_assoc]; rfl
      rw [e0]
      have c4 : ∀ n, clO n (lO 5 (p.map bE ++ bE 1 :: bE 0 :: List.replicate k (bE 0)) l4) = True := fun n => by have := clB (T := 5) (m := n) (xs := p ++ 1 :: 0 :: List.replicate k 0) hl4; simpa using this
      exact ⟨(k + 1, l4), ⟨hlt, by rw [← hw]; exact hl4⟩, Weak.sub (weak_of (by simp [wσ, go_sem, closed, closeds, lE_closed, ← hw, closeds_ints, List.replicate_succ, c4] <;> omega) (by simp [whs, Go.Ew.hget, go_sem, EObj.closed, closed, closeds, lE_closed, ← hw, closeds_ints, List.replicate_succ, c4]) (by simp [*]) rfl rfl (by simp)), by simp only; omega⟩
    · have hkk : k = padN p.length := by unfold padN at hk ⊢; omega
      subst hkk
      obtain ⟨N, hN⟩ : ∃ N, N = p.length + 1 + padN p.length := ⟨_, rfl⟩
      obtain ⟨X, hX⟩ : ∃ X, X = p ++ 1 :: List.replicate (padN p.length) 0 := ⟨_, rfl⟩
      have hXl : X.length = N := by rw [hX, hN]; simp; omega
      have hN0 : 0 < N ∧ N < 2 ^ 47 ∧ N % 136 = 0 := by rw [hN]; unfold padN at hk ⊢; omega
      rw [← hN] at hl3'
      simp only [← hN, ← hX]
      clear hl3 hk h1 hl2b hw hl2 hl1
      refine next_of 1000 ?_
      have ei : ((N : Int) - 1).toNat = N - 1 := by omega
      repeat' (first | with_reducible refine And.intro (by first | omega | assumption | (constructor <;> assumption) | (simp; done) | (simp; omega) | (simp [*]; done) | ((repeat' refine And.intro ?_ ?_) <;> first | omega | assumption | (refine SlOk.so (n := ?_) ?_ ?_; rotate_left; assumption; omega) | (simp; done) | fail) | fail) ?_ | simp (maxSteps := 4000000) (disch := omega) only [go_sem, Nat.reduceBEq, Nat.reduceAdd, Nat.reduceMul, Nat.reduceSub, Nat.reduceLT, Nat.reduceLeDiff, Int.reduceToNat, Int.reduceLT, Int.reduceLE, Int.reduceAdd, Int.reduceMul, Int.reduceSub, Int.reduceNeg, Int.reduceDiv, Int.reduceMod, Nat.reduceBNe, Nat.reduceGT, Int.reduceBEq, Int.reduceBNe, Int.reduceGT, Nat.reduceDiv, Nat.reduceMod, Nat.reducePow, Int.reducePow, gt_iff_lt, ge_iff_le, List.reduceReplicate, ↓reduceIte, ei, or80, bytes_set' (xs := X) (rest := rest) (i := N - 1) (by omega), bytes_get' (xs := X) (rest := rest) (i := N - 1) (by omega), bytes_getD' (xs := X) (rest := rest) (i := N - 1) (by omega)])
      obtain ⟨Y, hY⟩ : ∃ Y, Y = X.set (N - 1) (X.getD (N - 1) 0 ||| 128) := ⟨_, rfl⟩
      have hYl : Y.length = N := by rw [hY, List.length_set, hXl]
      simp only [← hY]
      have hK : hF (absF Y (N / 136)) = kecF p := by
        unfold kecF padB
        rw [← hX, hY, hN, show p.length + 1 + padN p.length - 1 = p.length + padN p.length by omega]
      have clr : ∀ n, closeds n rest := fun n => closeds_mono (Nat.zero_le _) _ (by
        rw [closeds_iff]; intro v hv
        have := hl3'.2.2.2 v hv
        simp at this; subst this; simp [closed])
      have clY : ∀ n, closeds n (Y.map bE ++ rest) := fun n => closeds_append.2 ⟨closeds_bE _ _, clr n⟩
      clear hl3' hX hXl ei
      clear hN hY
      refine loopU (S := Nat) (fun m => 136 * m ≤ N)
        (fun m => ⟨[(5, .int .i64 (136 * m : Nat)), (4, .ptr 2 0), (3, .sl 1 0 N cp), (2, .ptr 0 0)], 3, [(2, some (.cells (ints .u64 (fL (absF Y m)) 25) 141 (0, 0))), (1, some (.cells (Y.map bE ++ rest) 5 (0, 0))), (0, some (.cells (ints .u8 (fun _ => 0) 32) 38 (0, 0)))], B0, []⟩)
        (fun m => N - 136 * m) 0 (Nat.zero_le _) (Weak.sub (weak_of (by simp [wσ, go_sem, closed, closeds, lE_closed, closeds_ints, fL_absF0, clY] <;> omega) (by simp [whs, Go.Ew.hget, go_sem, EObj.closed, closed, closeds, lE_closed, closeds_ints, fL_absF0, clY]) (by simp [*]) rfl rfl (by simp))) ?_
      intro m hm
      refine next_of 1000 ?_
      simp (maxSteps := 4000000) (disch := omega) only [go_sem, Nat.reduceBEq, Nat.reduceAdd, Nat.reduceMul, Nat.reduceSub, Nat.reduceLT, Nat.reduceLeDiff, Int.reduceToNat, Int.reduceLT, Int.reduceLE, Int.reduceAdd, Int.reduceMul, Int.reduceSub, Int.reduceNeg, Int.reduceDiv, Int.reduceMod, Nat.reduceBNe, Nat.reduceGT, Int.reduceBEq, Int.reduceBNe, Int.reduceGT, Nat.reduceDiv, Nat.reduceMod, Nat.reducePow, Int.reducePow, gt_iff_lt, ge_iff_le, List.reduceReplicate, ↓reduceIte]
      repeat (with_reducible refine And.intro (by first | omega | assumption | (constructor <;> assumption) | (simp; done) | (simp; omega) | (simp [*]; done) | ((repeat' refine And.intro ?_ ?_) <;> first | omega | assumption | (refine SlOk.so (n := ?_) ?_ ?_; rotate_left; assumption; omega) | (simp; done) | fail) | fail) ?_)
      refine condS_split (fun h1 => ?_) (fun h1 => ?_)
      all_goals (try simp only [bne_iff_ne, ne_eq, beq_iff_eq, decide_eq_true_eq, decide_eq_false_iff_not, Bool.not_eq_true, Bool.not_eq_false, Bool.not_true, Bool.not_false, bne_eq_false_iff_eq, beq_eq_false_iff_ne, Bool.and_eq_true, Bool.or_eq_true, Bool.and_eq_false_imp, Bool.or_eq_false_iff, Bool.not_eq_true', Bool.not_eq_false', Int.not_lt, Int.not_le] at h1)
      · have hm2 : 136 * (m + 1) ≤ N := by omega
        simp (maxSteps := 4000000) (disch := omega) only [go_sem, Nat.reduceBEq, Nat.reduceAdd, Nat.reduceMul, Nat.reduceSub, Nat.reduceLT, Nat.reduceLeDiff, Int.reduceToNat, Int.reduceLT, Int.reduceLE, Int.reduceAdd, Int.reduceMul, Int.reduceSub, Int.reduceNeg, Int.reduceDiv, Int.reduceMod, Nat.reduceBNe, Nat.reduceGT, Int.reduceBEq, Int.reduceBNe, Int.reduceGT, Nat.reduceDiv, Nat.reduceMod, Nat.reducePow, Int.reducePow, gt_iff_lt, ge_iff_le, List.reduceReplicate, ↓reduceIte]
        repeat (with_reducible refine And.intro (by first | omega | assumption | (constructor <;> assumption) | (simp; done) | (simp; omega) | (simp [*]; done) | ((repeat' refine And.intro ?_ ?_) <;> first | omega | assumption | (refine SlOk.so (n := ?_) ?_ ?_; rotate_left; assumption; omega) | (simp; done) | fail) | fail) ?_)
        refine loopU (S := Nat) (fun i => i ≤ 136)
          (fun i => ⟨[(6, .int .i64 (i : Nat)), (5, .int .i64 (136 * m : Nat)), (4, .ptr 2 0), (3, .sl 1 0 N cp), (2, .ptr 0 0)], 3, [(2, some (.cells (ints .u64 (fL (xorP (absF Y m) Y (136 * m) i)) 25) 141 (0, 0))), (1, some (.cells (Y.map bE ++ rest) 5 (0, 0))), (0, some (.cells (ints .u8 (fun _ => 0) 32) 38 (0, 0)))], B0, []⟩)
          (fun i => 136 - i) 0 (by simp) (Weak.sub (weak_of (by simp [wσ, go_sem, closed, closeds, lE_closed, closeds_ints, xorP_zero, clY] <;> omega) (by simp [whs, Go.Ew.hget, go_sem, EObj.closed, closed, closeds, lE_closed, closeds_ints, xorP_zero, clY]) (by simp [*]) rfl rfl (by simp))) ?_
        intro i hi
        refine next_of 1000 ?_
        simp (maxSteps := 4000000) (disch := omega) only [go_sem, Nat.reduceBEq, Nat.reduceAdd, Nat.reduceMul, Nat.reduceSub, Nat.reduceLT, Nat.reduceLeDiff, Int.reduceToNat, Int.reduceLT, Int.reduceLE, Int.reduceAdd, Int.reduceMul, Int.reduceSub, Int.reduceNeg, Int.reduceDiv, Int.reduceMod, Nat.reduceBNe, Nat.reduceGT, Int.reduceBEq, Int.reduceBNe, Int.reduceGT, Nat.reduceDiv, Nat.reduceMod, Nat.reducePow, Int.reducePow, gt_iff_lt, ge_iff_le, List.reduceReplicate, ↓reduceIte]
        repeat (with_reducible refine And.intro (by first | omega | assumption | (constructor <;> assumption) | (simp; done) | (simp; omega) | (simp [*]; done) | ((repeat' refine And.intro ?_ ?_) <;> first | omega | assumption | (refine SlOk.so (n := ?_) ?_ ?_; rotate_left; assumption; omega) | (simp; done) | fail) | fail) ?_)
        refine condS_split (fun h2 => ?_) (fun h2 => ?_)
        all_goals (try simp only [bne_iff_ne, ne_eq, beq_iff_eq, decide_eq_true_eq, decide_eq_false_iff_not, Bool.not_eq_true, Bool.not_eq_false, Bool.not_true, Bool.not_false, bne_eq_false_iff_eq, beq_eq_false_iff_ne, Bool.and_eq_true, Bool.or_eq_true, Bool.and_eq_false_imp, Bool.or_eq_false_iff, Bool.not_eq_true', Bool.not_eq_false', Int.not_lt, Int.not_le] at h2)
        · have e8 : ((i : Int) / 8).toNat = i / 8 := by omega
          have e9 : (((136 * m : Nat) : Int) + (i : Int)).toNat = 136 * m + i := by omega
          have e10 : (8 : Int) * ((i : Int) % 8) = ((8 * (i % 8) : Nat) : Int) := by omega
          have s8 := fun x => shl64' x (8 * (i % 8)) (by omega)
          repeat' (first | with_reducible refine And.intro (by first | omega | assumption | (constructor <;> assumption) | (simp; done) | (simp; omega) | (simp [*]; done) | ((repeat' refine And.intro ?_ ?_) <;> first | omega | assumption | (refine SlOk.so (n := ?_) ?_ ?_; rotate_left; assumption; omega) | (simp; done) | fail) | fail) ?_ | simp (maxSteps := 4000000) (disch := omega) only [go_sem, Nat.reduceBEq, Nat.reduceAdd, Nat.reduceMul, Nat.reduceSub, Nat.reduceLT, Nat.reduceLeDiff, Int.reduceToNat, Int.reduceLT, Int.reduceLE, Int.reduceAdd, Int.reduceMul, Int.reduceSub, Int.reduceNeg, Int.reduceDiv, Int.reduceMod, Nat.reduceBNe, Nat.reduceGT, Int.reduceBEq, Int.reduceBNe, Int.reduceGT, Nat.reduceDiv, Nat.reduceMod, Nat.reducePow, Int.reducePow, gt_iff_lt, ge_iff_le, List.reduceReplicate, ↓reduceIte, Int.toNat_natCast, e8, e9, e10, fL_ap, n64_b64, wrapn, s8, xor64, fL_set, xorP_step, bytes_get' (xs := Y) (rest := rest) (i := 136 * m + i) (by omega), bytes_getD' (xs := Y) (rest := rest) (i := 136 * m + i) (by omega)] | with_reducible refine drawS_of mixed (by kernel_rfl) (dg_of 1000 ?_) | with_reducible refine endD_of (by kernel_rfl) (next_of 1000 ?_))
          exact ⟨i + 1, by omega, Weak.sub (weak_of (by simp [wσ, go_sem, closed, closeds, lE_closed, closeds_ints, clY] <;> omega) (by simp [whs, Go.Ew.hget, go_sem, EObj.closed, closed, closeds, lE_closed, closeds_ints, clY]) (by simp [*]) rfl rfl (by simp)), by omega⟩
        · obtain rfl : i = 136 := by omega
          repeat' (first | simp (maxSteps := 4000000) (disch := omega) only [go_sem, Nat.reduceBEq, Nat.reduceAdd, Nat.reduceMul, Nat.reduceSub, Nat.reduceLT, Nat.reduceLeDiff, Int.reduceToNat, Int.reduceLT, Int.reduceLE, Int.reduceAdd, Int.reduceMul, Int.reduceSub, Int.reduceNeg, Int.reduceDiv, Int.reduceMod, Nat.reduceBNe, Nat.reduceGT, Int.reduceBEq, Int.reduceBNe, Int.reduceGT, Nat.reduceDiv, Nat.reduceMod, Nat.reducePow, Int.reducePow, gt_iff_lt, ge_iff_le, List.reduceReplicate, ↓reduceIte, Int.toNat_natCast, xorP_all] | refine callS_p (refpermute_p _) (next_of 1000 ?_) | with_reducible refine next_of 1000 ?_)
          exact ⟨m + 1, hm2, Weak.sub (weak_of (by simp [wσ, go_sem, closed, closeds, lE_closed, closeds_ints, clY, absF, Nat.mul_succ] <;> omega) (by simp [whs, Go.Ew.hget, go_sem, EObj.closed, closed, closeds, lE_closed, closeds_ints, clY, absF, Nat.mul_succ]) (by simp [*]) rfl rfl (by simp)), by omega⟩
      · obtain rfl : m = N / 136 := by omega
        repeat' (first | simp (maxSteps := 4000000) (disch := omega) only [go_sem, Nat.reduceBEq, Nat.reduceAdd, Nat.reduceMul, Nat.reduceSub, Nat.reduceLT, Nat.reduceLeDiff, Int.reduceToNat, Int.reduceLT, Int.reduceLE, Int.reduceAdd, Int.reduceMul, Int.reduceSub, Int.reduceNeg, Int.reduceDiv, Int.reduceMod, Nat.reduceBNe, Nat.reduceGT, Int.reduceBEq, Int.reduceBNe, Int.reduceGT, Nat.reduceDiv, Nat.reduceMod, Nat.reducePow, Int.reducePow, gt_iff_lt, ge_iff_le, List.reduceReplicate, ↓reduceIte, Int.toNat_natCast] | with_reducible refine next_of 1000 ?_)
        obtain ⟨A, hA⟩ : ∃ A, A = absF Y (N / 136) := ⟨_, rfl⟩
        simp only [← hA] at hK ⊢
        refine loopU (S := Nat) (fun i => i ≤ 32)
          (fun i => ⟨[(59, .int .i64 (i : Nat)), (7, .ptr 3 0), (4, .ptr 2 0), (2, .ptr 0 0)], 4, [(3, some (.cells (ints .u8 (hQ A i) 32) 38 (0, 0))), (2, some (.cells (ints .u64 (fL A) 25) 141 (0, 0))), (0, some (.cells (ints .u8 (fun _ => 0) 32) 38 (0, 0)))], B0, []⟩)
          (fun i => 32 - i) 0 (by simp) (Weak.sub (weak_of (by simp [wσ, go_sem, closed, closeds, lE_closed, closeds_ints, hQ_zero] <;> omega) (by simp [whs, Go.Ew.hget, go_sem, EObj.closed, closed, closeds, lE_closed, closeds_ints, hQ_zero]) (by simp [*]) rfl rfl (by simp))) ?_
        intro i hi
        refine next_of 1000 ?_
        simp (maxSteps := 4000000) (disch := omega) only [go_sem, Nat.reduceBEq, Nat.reduceAdd, Nat.reduceMul, Nat.reduceSub, Nat.reduceLT, Nat.reduceLeDiff, Int.reduceToNat, Int.reduceLT, Int.reduceLE, Int.reduceAdd, Int.reduceMul, Int.reduceSub, Int.reduceNeg, Int.reduceDiv, Int.reduceMod, Nat.reduceBNe, Nat.reduceGT, Int.reduceBEq, Int.reduceBNe, Int.reduceGT, Nat.reduceDiv, Nat.reduceMod, Nat.reducePow, Int.reducePow, gt_iff_lt, ge_iff_le, List.reduceReplicate, ↓reduceIte]
        repeat (with_reducible refine And.intro (by first | omega | assumption | (constructor <;> assumption) | (simp; done) | (simp; omega) | (simp [*]; done) | ((repeat' refine And.intro ?_ ?_) <;> first | omega | assumption | (refine SlOk.so (n := ?_) ?_ ?_; rotate_left; assumption; omega) | (simp; done) | fail) | fail) ?_)
        refine condS_split (fun h2 => ?_) (fun h2 => ?_)
        all_goals (try simp only [bne_iff_ne, ne_eq, beq_iff_eq, decide_eq_true_eq, decide_eq_false_iff_not, Bool.not_eq_true, Bool.not_eq_false, Bool.not_true, Bool.not_false, bne_eq_false_iff_eq, beq_eq_false_iff_ne, Bool.and_eq_true, Bool.or_eq_true, Bool.and_eq_false_imp, Bool.or_eq_false_iff, Bool.not_eq_true', Bool.not_eq_false', Int.not_lt, Int.not_le] at h2)
        · have e8 : ((i : Int) / 8).toNat = i / 8 := by omega
          have e10 : (8 : Int) * ((i : Int) % 8) = ((8 * (i % 8) : Nat) : Int) := by omega
          repeat' (first | with_reducible refine And.intro (by first | omega | assumption | (constructor <;> assumption) | (simp; done) | (simp; omega) | (simp [*]; done) | ((repeat' refine And.intro ?_ ?_) <;> first | omega | assumption | (refine SlOk.so (n := ?_) ?_ ?_; rotate_left; assumption; omega) | (simp; done) | fail) | fail) ?_ | simp (maxSteps := 4000000) (disch := omega) only [go_sem, Nat.reduceBEq, Nat.reduceAdd, Nat.reduceMul, Nat.reduceSub, Nat.reduceLT, Nat.reduceLeDiff, Int.reduceToNat, Int.reduceLT, Int.reduceLE, Int.reduceAdd, Int.reduceMul, Int.reduceSub, Int.reduceNeg, Int.reduceDiv, Int.reduceMod, Nat.reduceBNe, Nat.reduceGT, Int.reduceBEq, Int.reduceBNe, Int.reduceGT, Nat.reduceDiv, Nat.reduceMod, Nat.reducePow, Int.reducePow, gt_iff_lt, ge_iff_le, List.reduceReplicate, ↓reduceIte, Int.toNat_natCast, e8, e10, shr64, fL_ap, wrap_u8_mod, hQ_step])
          exact ⟨i + 1, by omega, Weak.sub (weak_of (by simp [wσ, go_sem, closed, closeds, lE_closed, closeds_ints] <;> omega) (by simp [whs, Go.Ew.hget, go_sem, EObj.closed, closed, closeds, lE_closed, closeds_ints]) (by simp [*]) rfl rfl (by simp)), by omega⟩
        · obtain rfl : i = 32 := by omega
          repeat' (first | simp (maxSteps := 4000000) (disch := omega) only [go_sem, Nat.reduceBEq, Nat.reduceAdd, Nat.reduceMul, Nat.reduceSub, Nat.reduceLT, Nat.reduceLeDiff, Int.reduceToNat, Int.reduceLT, Int.reduceLE, Int.reduceAdd, Int.reduceMul, Int.reduceSub, Int.reduceNeg, Int.reduceDiv, Int.reduceMod, Nat.reduceBNe, Nat.reduceGT, Int.reduceBEq, Int.reduceBNe, Int.reduceGT, Nat.reduceDiv, Nat.reduceMod, Nat.reducePow, Int.reducePow, gt_iff_lt, ge_iff_le, List.reduceReplicate, ↓reduceIte, Int.toNat_natCast] | with_reducible refine next_of 1000 ?_)
          have hq : ints .u8 (hQ A 32) 32 = ints .u8 (hF A) 32 := ints_congr fun j hj => by rw [hQ, if_pos hj]
          rw [hq, hK]
          exact ⟨BExt.refl _, (), rfl, by simp [closed, closeds_ints]⟩
end Go.Proofs.Ytepabkjfnpaijaa
