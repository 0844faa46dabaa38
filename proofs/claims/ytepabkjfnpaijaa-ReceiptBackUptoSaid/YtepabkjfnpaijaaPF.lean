/- Part of a proof over the seat Ytepabkjfnpaijaa. -/
import Derived.Test.YtepabkjfnpaijaaPE
namespace Go.Proofs.Ytepabkjfnpaijaa
open Go RowKit Go.Ew
set_option maxRecDepth 100000
set_option linter.unusedSimpArgs false
set_option linter.unusedVariables false
set_option maxHeartbeats 4000000
theorem in70 : codeIn Try.f70.ntmps (Try.f70.body.getD .skip) = true := by kernel_rfl
theorem in46 : codeIn Try.f46.ntmps (Try.f46.body.getD .skip) = true := by kernel_rfl
theorem in47 : codeIn Try.f47.ntmps (Try.f47.body.getD .skip) = true := by kernel_rfl
theorem in48 : codeIn Try.f48.ntmps (Try.f48.body.getD .skip) = true := by kernel_rfl
/-- The reader, and what it keeps. -/
abbrev rdO (e : Nat) : EObj := .cells [.int .i64 (e : Nat)] 93 (0, 0)
theorem rdO_closed (e : Nat) : (rdO e).closed 0 := by simp [EObj.closed, closeds, closed]
def kp (e e' : Nat) : Nat := if e = 0 then e' else e
theorem keep_fn (B : Base) (e e' : Nat) : Turns Try.prog 70 [.int .i64 (e' : Nat)] (rdO e) B (fun _ : Unit => .tup []) (rdO (kp e e')) (fun _ _ => True) := by
  refine turns_of en70 (fun s B B' hB hR => hR) Try.func70 rfl in70 (by simp [Try.f70]) (by simp [closeds, closed]) (rdO_closed _) (rdO_closed _) (fun B0 hB0 b => next_of 1000 ?_)
  by_cases he : e = 0
  · subst he
    have ek : kp 0 e' = e' := rfl
    rw [ek]
    repeat' (first | with_reducible refine And.intro (by first | omega | assumption | (constructor <;> assumption) | (simp; done) | (simp; omega) | (simp [*]; done) | ((repeat' refine And.intro ?_ ?_) <;> first | omega | assumption | (refine SlOk.so (n := ?_) ?_ ?_; rotate_left; assumption; omega) | (simp; done) | fail) | fail) ?_ | simp (maxSteps := 4000000) (disch := omega) only [go_sem, Nat.reduceBEq, Nat.reduceAdd, Nat.reduceMul, Nat.reduceSub, Nat.reduceLT, Nat.reduceLeDiff, Int.reduceToNat, Int.reduceLT, Int.reduceLE, Int.reduceAdd, Int.reduceMul, Int.reduceSub, Int.reduceNeg, Int.reduceDiv, Int.reduceMod, Nat.reduceBNe, Nat.reduceGT, Int.reduceBEq, Int.reduceBNe, Int.reduceGT, Nat.reduceDiv, Nat.reduceMod, Nat.reducePow, Int.reducePow, gt_iff_lt, ge_iff_le, List.reduceReplicate, ↓reduceIte, Try.f70])
    exact ⟨BExt.refl _, (), by simp [closed, closeds]⟩
  · have ek : kp e e' = e := if_neg he
    rw [ek]
    have hei : (((e : Nat) : Int) == 0) = false := by rw [beq_eq_false_iff_ne]; omega
    repeat' (first | with_reducible refine And.intro (by first | omega | assumption | (constructor <;> assumption) | (simp; done) | (simp; omega) | (simp [*]; done) | ((repeat' refine And.intro ?_ ?_) <;> first | omega | assumption | (refine SlOk.so (n := ?_) ?_ ?_; rotate_left; assumption; omega) | (simp; done) | fail) | fail) ?_ | simp (maxSteps := 4000000) (disch := omega) only [go_sem, Nat.reduceBEq, Nat.reduceAdd, Nat.reduceMul, Nat.reduceSub, Nat.reduceLT, Nat.reduceLeDiff, Int.reduceToNat, Int.reduceLT, Int.reduceLE, Int.reduceAdd, Int.reduceMul, Int.reduceSub, Int.reduceNeg, Int.reduceDiv, Int.reduceMod, Nat.reduceBNe, Nat.reduceGT, Int.reduceBEq, Int.reduceBNe, Int.reduceGT, Nat.reduceDiv, Nat.reduceMod, Nat.reducePow, Int.reducePow, gt_iff_lt, ge_iff_le, List.reduceReplicate, ↓reduceIte, Try.f70, hei])
    exact ⟨BExt.refl _, (), by simp [closed, closeds]⟩
theorem rlist_fn {B : Base} {t : Itm} {s : Plc} (ht : ItAt B t s) (e lo hi : Nat) (hhi : hi ≤ 1099511627776) (hlo : lo ≤ hi) :
    Turns Try.prog 46 [.agg (itE t s), .int .i64 (lo : Int), .int .i64 (hi : Int)] (rdO e) B (fun u : Option Addr × Nat × List (Itm × Plc) => .raw (.slice u.1 (asL t lo hi).1.length u.2.1)) (rdO (kp e (asL t lo hi).2)) (fun u B' => KidsAt B' u.1 (asL t lo hi).1 u.2.2) := by
  refine turns_of en46 (fun s B B' hB hR => hR.ext hB) Try.func46 rfl in46 (by simp [Try.f46]) (by simp [closeds, closed]) (rdO_closed _) (rdO_closed _) (fun B0 hB0 b => next_of 1000 ?_)
  replace ht := ht.ext hB0
  repeat' (simp (maxSteps := 4000000) (disch := omega) only [go_sem, Nat.reduceBEq, Nat.reduceAdd, Nat.reduceMul, Nat.reduceSub, Nat.reduceLT, Nat.reduceLeDiff, Int.reduceToNat, Int.reduceLT, Int.reduceLE, Int.reduceAdd, Int.reduceMul, Int.reduceSub, Int.reduceNeg, Int.reduceDiv, Int.reduceMod, Nat.reduceBNe, Nat.reduceGT, Int.reduceBEq, Int.reduceBNe, Int.reduceGT, Nat.reduceDiv, Nat.reduceMod, Nat.reducePow, Int.reducePow, gt_iff_lt, ge_iff_le, List.reduceReplicate, ↓reduceIte, Try.f46])
  refine callS_f (asList_fn ht lo hi hhi hlo) (fun _ => by simp [closed, closeds]) (fun u B2 hB2 hR2 => next_of 1000 ?_)
  change BExt B0 B2 at hB2
  repeat' (simp (maxSteps := 4000000) (disch := omega) only [go_sem, Nat.reduceBEq, Nat.reduceAdd, Nat.reduceMul, Nat.reduceSub, Nat.reduceLT, Nat.reduceLeDiff, Int.reduceToNat, Int.reduceLT, Int.reduceLE, Int.reduceAdd, Int.reduceMul, Int.reduceSub, Int.reduceNeg, Int.reduceDiv, Int.reduceMod, Nat.reduceBNe, Nat.reduceGT, Int.reduceBEq, Int.reduceBNe, Int.reduceGT, Nat.reduceDiv, Nat.reduceMod, Nat.reducePow, Int.reducePow, gt_iff_lt, ge_iff_le, List.reduceReplicate, ↓reduceIte])
  refine callS_t 0 (keep_fn B2 e (asL t lo hi).2) rfl (fun _ => by simp [closed, closeds]) (rdO_closed _) (rdO_closed _) (fun u3 B3 hB3 hR3 => next_of 1000 ?_)
  change BExt B2 B3 at hB3
  repeat' (simp (maxSteps := 4000000) (disch := omega) only [go_sem, Nat.reduceBEq, Nat.reduceAdd, Nat.reduceMul, Nat.reduceSub, Nat.reduceLT, Nat.reduceLeDiff, Int.reduceToNat, Int.reduceLT, Int.reduceLE, Int.reduceAdd, Int.reduceMul, Int.reduceSub, Int.reduceNeg, Int.reduceDiv, Int.reduceMod, Nat.reduceBNe, Nat.reduceGT, Int.reduceBEq, Int.reduceBNe, Int.reduceGT, Nat.reduceDiv, Nat.reduceMod, Nat.reducePow, Int.reducePow, gt_iff_lt, ge_iff_le, List.reduceReplicate, ↓reduceIte])
  exact ⟨hB2.trans hB3, u, rfl, by simp [closed], hR2.ext hB3⟩
theorem rbytes_fn {B : Base} {t : Itm} {s : Plc} (ht : ItAt B t s) (e lo hi : Nat) (hhi : hi ≤ 1099511627776) (hlo : lo ≤ hi) :
    Turns Try.prog 48 [.agg (itE t s), .int .i64 (lo : Int), .int .i64 (hi : Int)] (rdO e) B (fun u : Option Addr × Nat => .raw (.slice u.1 (asB t lo hi).1.length u.2)) (rdO (kp e (asB t lo hi).2)) (fun u B' => BytesAt B' u.1 (asB t lo hi).1 ∧ (asB t lo hi).1.length ≤ u.2) := by
  refine turns_of en48 (fun s B B' hB hR => ⟨hR.1.ext hB, hR.2⟩) Try.func48 rfl in48 (by simp [Try.f48]) (by simp [closeds, closed]) (rdO_closed _) (rdO_closed _) (fun B0 hB0 b => next_of 1000 ?_)
  replace ht := ht.ext hB0
  repeat' (simp (maxSteps := 4000000) (disch := omega) only [go_sem, Nat.reduceBEq, Nat.reduceAdd, Nat.reduceMul, Nat.reduceSub, Nat.reduceLT, Nat.reduceLeDiff, Int.reduceToNat, Int.reduceLT, Int.reduceLE, Int.reduceAdd, Int.reduceMul, Int.reduceSub, Int.reduceNeg, Int.reduceDiv, Int.reduceMod, Nat.reduceBNe, Nat.reduceGT, Int.reduceBEq, Int.reduceBNe, Int.reduceGT, Nat.reduceDiv, Nat.reduceMod, Nat.reducePow, Int.reducePow, gt_iff_lt, ge_iff_le, List.reduceReplicate, ↓reduceIte, Try.f48])
  refine callS_f (asBytes_fn ht lo hi hhi hlo) (fun _ => by simp [closed, closeds]) (fun u B2 hB2 hR2 => next_of 1000 ?_)
  change BExt B0 B2 at hB2
  repeat' (simp (maxSteps := 4000000) (disch := omega) only [go_sem, Nat.reduceBEq, Nat.reduceAdd, Nat.reduceMul, Nat.reduceSub, Nat.reduceLT, Nat.reduceLeDiff, Int.reduceToNat, Int.reduceLT, Int.reduceLE, Int.reduceAdd, Int.reduceMul, Int.reduceSub, Int.reduceNeg, Int.reduceDiv, Int.reduceMod, Nat.reduceBNe, Nat.reduceGT, Int.reduceBEq, Int.reduceBNe, Int.reduceGT, Nat.reduceDiv, Nat.reduceMod, Nat.reducePow, Int.reducePow, gt_iff_lt, ge_iff_le, List.reduceReplicate, ↓reduceIte])
  refine callS_t 0 (keep_fn B2 e (asB t lo hi).2) rfl (fun _ => by simp [closed, closeds]) (rdO_closed _) (rdO_closed _) (fun u3 B3 hB3 hR3 => next_of 1000 ?_)
  change BExt B2 B3 at hB3
  repeat' (simp (maxSteps := 4000000) (disch := omega) only [go_sem, Nat.reduceBEq, Nat.reduceAdd, Nat.reduceMul, Nat.reduceSub, Nat.reduceLT, Nat.reduceLeDiff, Int.reduceToNat, Int.reduceLT, Int.reduceLE, Int.reduceAdd, Int.reduceMul, Int.reduceSub, Int.reduceNeg, Int.reduceDiv, Int.reduceMod, Nat.reduceBNe, Nat.reduceGT, Int.reduceBEq, Int.reduceBNe, Int.reduceGT, Nat.reduceDiv, Nat.reduceMod, Nat.reducePow, Int.reducePow, gt_iff_lt, ge_iff_le, List.reduceReplicate, ↓reduceIte])
  exact ⟨hB2.trans hB3, u, rfl, by simp [closed], hR2.1.ext hB3, hR2.2⟩
theorem rnumber_fn {B : Base} {t : Itm} {s : Plc} (ht : ItAt B t s) (e : Nat) :
    Turns Try.prog 47 [.agg (itE t s)] (rdO e) B (fun _ : Unit => .int .u64 ((asN t).1 : Nat)) (rdO (kp e (asN t).2)) (fun _ _ => True) := by
  refine turns_of en47 (fun s B B' hB hR => hR) Try.func47 rfl in47 (by simp [Try.f47]) (by simp [closeds, closed]) (rdO_closed _) (rdO_closed _) (fun B0 hB0 b => next_of 1000 ?_)
  replace ht := ht.ext hB0
  repeat' (simp (maxSteps := 4000000) (disch := omega) only [go_sem, Nat.reduceBEq, Nat.reduceAdd, Nat.reduceMul, Nat.reduceSub, Nat.reduceLT, Nat.reduceLeDiff, Int.reduceToNat, Int.reduceLT, Int.reduceLE, Int.reduceAdd, Int.reduceMul, Int.reduceSub, Int.reduceNeg, Int.reduceDiv, Int.reduceMod, Nat.reduceBNe, Nat.reduceGT, Int.reduceBEq, Int.reduceBNe, Int.reduceGT, Nat.reduceDiv, Nat.reduceMod, Nat.reducePow, Int.reducePow, gt_iff_lt, ge_iff_le, List.reduceReplicate, ↓reduceIte, Try.f47])
  refine callS_f (asNumber_fn ht) (fun _ => by simp [closed, closeds]) (fun u B2 hB2 hR2 => next_of 1000 ?_)
  change BExt B0 B2 at hB2
  repeat' (simp (maxSteps := 4000000) (disch := omega) only [go_sem, Nat.reduceBEq, Nat.reduceAdd, Nat.reduceMul, Nat.reduceSub, Nat.reduceLT, Nat.reduceLeDiff, Int.reduceToNat, Int.reduceLT, Int.reduceLE, Int.reduceAdd, Int.reduceMul, Int.reduceSub, Int.reduceNeg, Int.reduceDiv, Int.reduceMod, Nat.reduceBNe, Nat.reduceGT, Int.reduceBEq, Int.reduceBNe, Int.reduceGT, Nat.reduceDiv, Nat.reduceMod, Nat.reducePow, Int.reducePow, gt_iff_lt, ge_iff_le, List.reduceReplicate, ↓reduceIte])
  refine callS_t 0 (keep_fn B2 e (asN t).2) rfl (fun _ => by simp [closed, closeds]) (rdO_closed _) (rdO_closed _) (fun u3 B3 hB3 hR3 => next_of 1000 ?_)
  change BExt B2 B3 at hB3
  repeat' (simp (maxSteps := 4000000) (disch := omega) only [go_sem, Nat.reduceBEq, Nat.reduceAdd, Nat.reduceMul, Nat.reduceSub, Nat.reduceLT, Nat.reduceLeDiff, Int.reduceToNat, Int.reduceLT, Int.reduceLE, Int.reduceAdd, Int.reduceMul, Int.reduceSub, Int.reduceNeg, Int.reduceDiv, Int.reduceMod, Nat.reduceBNe, Nat.reduceGT, Int.reduceBEq, Int.reduceBNe, Int.reduceGT, Nat.reduceDiv, Nat.reduceMod, Nat.reducePow, Int.reducePow, gt_iff_lt, ge_iff_le, List.reduceReplicate, ↓reduceIte])
  first | exact ⟨hB2.trans hB3, (), rfl, by simp [closed, closeds], trivial⟩ | exact ⟨(), rfl, by simp [closed, closeds], trivial⟩ | exact ⟨hB2.trans hB3, (), by simp [closed, closeds], trivial⟩ | exact ⟨(), by simp [closed, closeds], trivial⟩ | exact ⟨hB2.trans hB3, (), by simp [closed, closeds, bytes_any]⟩ | exact ⟨(), by simp [closed, closeds, bytes_any]⟩
end Go.Proofs.Ytepabkjfnpaijaa

