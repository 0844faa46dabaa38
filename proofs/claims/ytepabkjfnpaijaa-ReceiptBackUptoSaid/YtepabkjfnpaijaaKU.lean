/- Part of a proof over the seat Ytepabkjfnpaijaa. -/
import Derived.Test.YtepabkjfnpaijaaKT
import Derived.Test.YtepabkjfnpaijaaEng2
namespace Go.Proofs.Ytepabkjfnpaijaa
open Go RowKit Go.Ew
set_option maxRecDepth 100000
set_option linter.unusedSimpArgs false
set_option linter.unusedVariables false
set_option maxHeartbeats 4000000
theorem in83 : codeIn Try.f83.ntmps (Try.f83.body.getD .skip) = true := by kernel_rfl
theorem in82 : codeIn Try.f82.ntmps (Try.f82.body.getD .skip) = true := by kernel_rfl
/-- What stands ahead of a payload. -/
def hd (base n : Nat) : List UInt8 := if n ≤ 55 then [UInt8.ofNat (base + n)] else UInt8.ofNat (base + 55 + nby n) :: leB n
theorem hd_len {base n : Nat} : (hd base n).length = if n ≤ 55 then 1 else 1 + nby n := by
  unfold hd
  split
  · rfl
  · rw [List.length_cons, leB_len]; omega
theorem nby_8 {n : Nat} (h : n < 18446744073709551616) : nby n ≤ 8 := by
  have : blen n ≤ 64 := blen_le.2 (by omega)
  unfold nby; omega
theorem u8_nat {k : Nat} (h : k < 256) : ((UInt8.ofNat k).toNat : Int) = (k : Int) := by
  rw [UInt8.toNat_ofNat_of_lt' (by simpa using h)]
theorem head_fn (base n : Nat) (hb : base ≤ 192) (hn : n < 4611686018427387904) (B : Base) :
    Does Try.prog 83 [.int .u8 (base : Nat), .int .i64 (n : Nat)] B (fun s : Option Addr × Nat => .raw (.slice s.1 (hd base n).length s.2)) (fun s B' => BytesAt B' s.1 (hd base n)) := by
  refine fn_ofX en83 (fun s B B' hB hR => hR.ext hB) Try.func83 rfl in83 (by simp [Try.f83]) (by simp [closeds, closed]) (fun B0 hB0 => next_of 1000 ?_)
  by_cases h55 : n ≤ 55
  · have eh : hd base n = [UInt8.ofNat (base + n)] := if_pos h55
    have ev : ((UInt8.ofNat (base + n)).toNat : Int) = (base : Int) + n := by rw [u8_nat (by omega)]; push_cast; rfl
    repeat' (first | with_reducible refine And.intro (by first | omega | assumption | (constructor <;> assumption) | (simp; done) | (simp; omega) | (simp [*]; done) | ((repeat' refine And.intro ?_ ?_) <;> first | omega | assumption | (refine SlOk.so (n := ?_) ?_ ?_; rotate_left; assumption; omega) | (simp; done) | fail) | fail) ?_ | simp (maxSteps := 4000000) (disch := omega) only [go_sem, Nat.reduceBEq, Nat.reduceAdd, Nat.reduceMul, Nat.reduceSub, Nat.reduceLT, Nat.reduceLeDiff, Int.reduceToNat, Int.reduceLT, Int.reduceLE, Int.reduceAdd, Int.reduceMul, Int.reduceSub, Int.reduceNeg, Int.reduceDiv, Int.reduceMod, Nat.reduceBNe, Nat.reduceGT, Int.reduceBEq, Int.reduceBNe, Int.reduceGT, Nat.reduceDiv, Nat.reduceMod, Nat.reducePow, Int.reducePow, gt_iff_lt, ge_iff_le, List.reduceReplicate, ↓reduceIte, Try.f83] | ((first | refine condS_split (fun h => ?_) (fun h => ?_) | refine testS_split (fun h => ?_) (fun h => ?_) | refine testT_split (fun h => ?_) (fun h => ?_)) <;> (try simp only [bne_iff_ne, ne_eq, beq_iff_eq, decide_eq_true_eq, decide_eq_false_iff_not, Bool.not_eq_true, Bool.not_eq_false, Bool.not_true, Bool.not_false, bne_eq_false_iff_eq, beq_eq_false_iff_ne, Bool.and_eq_true, Bool.or_eq_true, Bool.and_eq_false_imp, Bool.or_eq_false_iff, Bool.not_eq_true', Bool.not_eq_false', Int.not_lt, Int.not_le] at h) <;> (try (exfalso; omega))))
    refine ⟨BExt.refl _, lays_B (T := 5) 0 1 (l := some (1, [])) (xs := hd base n) (by rw [eh]; simp only [List.map_cons, List.map_nil, bE, ev]; rfl) (by rw [eh]; rfl) (by simp [lOk, maxLen]) (fun b ad cap B' hB hf hC hc => ?_)⟩
    simp only [lE] at hf
    rw [hf, eh]
    rw [eh] at hC
    exact ⟨by simp [closed], (ad, cap), rfl, hC⟩
  · have eh : hd base n = UInt8.ofNat (base + 55 + nby n) :: leB n := if_neg h55
    have h8 := nby_8 (n := n) (by omega)
    have ev : ((UInt8.ofNat (base + 55 + nby n)).toNat : Int) = (base : Int) + 55 + nby n := by rw [u8_nat (by omega)]; push_cast; rfl
    repeat' (first | simp (maxSteps := 4000000) (disch := omega) only [go_sem, Nat.reduceBEq, Nat.reduceAdd, Nat.reduceMul, Nat.reduceSub, Nat.reduceLT, Nat.reduceLeDiff, Int.reduceToNat, Int.reduceLT, Int.reduceLE, Int.reduceAdd, Int.reduceMul, Int.reduceSub, Int.reduceNeg, Int.reduceDiv, Int.reduceMod, Nat.reduceBNe, Nat.reduceGT, Int.reduceBEq, Int.reduceBNe, Int.reduceGT, Nat.reduceDiv, Nat.reduceMod, Nat.reducePow, Int.reducePow, gt_iff_lt, ge_iff_le, List.reduceReplicate, ↓reduceIte, Try.f83] | ((first | refine condS_split (fun h => ?_) (fun h => ?_) | refine testS_split (fun h => ?_) (fun h => ?_) | refine testT_split (fun h => ?_) (fun h => ?_)) <;> (try simp only [bne_iff_ne, ne_eq, beq_iff_eq, decide_eq_true_eq, decide_eq_false_iff_not, Bool.not_eq_true, Bool.not_eq_false, Bool.not_true, Bool.not_false, bne_eq_false_iff_eq, beq_eq_false_iff_ne, Bool.and_eq_true, Bool.or_eq_true, Bool.and_eq_false_imp, Bool.or_eq_false_iff, Bool.not_eq_true', Bool.not_eq_false', Int.not_lt, Int.not_le] at h) <;> (try (exfalso; omega))))
    refine callS_f (number_fn n (by omega) _) (fun _ => by simp [closed]) (fun s B2 hB2 hR => next_of 1000 ?_)
    repeat' (first | with_reducible refine And.intro (by first | omega | assumption | (constructor <;> assumption) | (simp; done) | (simp; omega) | (simp [*]; done) | ((repeat' refine And.intro ?_ ?_) <;> first | omega | assumption | (refine SlOk.so (n := ?_) ?_ ?_; rotate_left; assumption; omega) | (simp; done) | fail) | fail) ?_ | simp (maxSteps := 4000000) (disch := omega) only [go_sem, Nat.reduceBEq, Nat.reduceAdd, Nat.reduceMul, Nat.reduceSub, Nat.reduceLT, Nat.reduceLeDiff, Int.reduceToNat, Int.reduceLT, Int.reduceLE, Int.reduceAdd, Int.reduceMul, Int.reduceSub, Int.reduceNeg, Int.reduceDiv, Int.reduceMod, Nat.reduceBNe, Nat.reduceGT, Int.reduceBEq, Int.reduceBNe, Int.reduceGT, Nat.reduceDiv, Nat.reduceMod, Nat.reducePow, Int.reducePow, gt_iff_lt, ge_iff_le, List.reduceReplicate, ↓reduceIte])
    refine appB (T := 5) (l := some (1, [])) (xs := [UInt8.ofNat (base + 55 + nby n)]) 0 1 (leB n) rfl Try.underlying23 (.inl ⟨_, Try.underlying23⟩) zr5 cz5 by5 rfl rfl (by simp only [List.map_cons, List.map_nil, bE, ev]; rfl) (by simp [lOk, maxLen]) ((leB_len n) ▸ hR.1.src _) (by rw [leB_len]; omega) (fun l1 hl1 => next_of 1000 ?_)
    repeat' (simp (maxSteps := 4000000) (disch := omega) only [go_sem, Nat.reduceBEq, Nat.reduceAdd, Nat.reduceMul, Nat.reduceSub, Nat.reduceLT, Nat.reduceLeDiff, Int.reduceToNat, Int.reduceLT, Int.reduceLE, Int.reduceAdd, Int.reduceMul, Int.reduceSub, Int.reduceNeg, Int.reduceDiv, Int.reduceMod, Nat.reduceBNe, Nat.reduceGT, Int.reduceBEq, Int.reduceBNe, Int.reduceGT, Nat.reduceDiv, Nat.reduceMod, Nat.reducePow, Int.reducePow, gt_iff_lt, ge_iff_le, List.reduceReplicate, ↓reduceIte])
    refine ⟨by rcases l1 with _ | ⟨q1, q2⟩ <;> rfl, hB2, lays_B (T := 5) 1 (1 + (leB n).length) (l := l1) (xs := hd base n) (by rw [eh]; rfl) (by rw [eh, List.length_cons]; omega) hl1 (fun b ad cap B' hB hf hC hc => ?_)⟩
    rw [hf, show 1 + (leB n).length = (hd base n).length by rw [eh, List.length_cons]; omega]
    exact ⟨by simp [closed], (ad, cap), rfl, hC⟩
end Go.Proofs.Ytepabkjfnpaijaa

