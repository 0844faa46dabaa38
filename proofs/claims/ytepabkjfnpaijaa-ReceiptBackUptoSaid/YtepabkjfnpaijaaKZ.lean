/- Part of a proof over the seat Ytepabkjfnpaijaa. -/
import Derived.Test.YtepabkjfnpaijaaKY
namespace Go.Proofs.Ytepabkjfnpaijaa
open Go RowKit Go.Ew
set_option maxRecDepth 100000
set_option linter.unusedSimpArgs false
set_option linter.unusedVariables false
set_option maxHeartbeats 4000000
theorem in34 : codeIn Try.f34.ntmps (Try.f34.body.getD .skip) = true := by kernel_rfl
theorem in38 : codeIn Try.f38.ntmps (Try.f38.body.getD .skip) = true := by kernel_rfl
mutual
theorem chk_ok : ∀ (t : Itm) (d : Nat), chk t d = 0 → okI t = true
  | .mk l b ks, d, h => by
    simp only [chk] at h
    split at h
    · omega
    · split at h
      · omega
      · rename_i h1 h2
        have hk := chkL_ok ks (d + 1) h
        simp only [okI, hk, Bool.and_true, Bool.or_eq_true, Bool.and_eq_true, beq_iff_eq, List.isEmpty_iff]
        by_cases h0 : l = 0
        · exact .inl ⟨h0, Classical.byContradiction fun hn => h2 (.inr (.inl ⟨h0, hn⟩))⟩
        · by_cases h1 : l = 1
          · exact .inr ⟨h1, Classical.byContradiction fun hn => h2 (.inr (.inr ⟨h1, hn⟩))⟩
          · exact absurd (.inl ⟨h0, h1⟩) h2
theorem chkL_ok : ∀ (ks : List Itm) (d : Nat), chkL ks d = 0 → okL ks = true
  | [], _, _ => rfl
  | k :: ks, d, h => by
    simp only [chkL] at h
    split at h
    · rename_i h0
      simp only [okL, chk_ok k d h0, chkL_ok ks d h, Bool.and_self]
    · exact absurd h ‹_›
end
theorem enc_fn {B : Base} {t : Itm} {s : Plc} (h : ItAt B t s) (hok : chk t 0 = 0) (hf : (form t).length < 35184372088832) :
    Does Try.prog 34 [.agg (itE t s)] B (fun s : Option Addr × Nat => .tup [.raw (.slice s.1 (form t).length s.2), .int .i64 0]) (fun s B' => BytesAt B' s.1 (form t) ∧ (form t).length ≤ s.2) := by
  refine fn_ofX en34 (fun s B B' hB hR => ⟨hR.1.ext hB, hR.2⟩) Try.func34 rfl in34 (by simp [Try.f34]) (by simp [closeds, closed]) (fun B0 hB0 => next_of 1000 ?_)
  replace h := h.ext hB0
  have h1 := check_fn h 0 (by omega)
  rw [hok] at h1
  repeat' (first | simp (maxSteps := 4000000) (disch := omega) only [go_sem, Nat.reduceBEq, Nat.reduceAdd, Nat.reduceMul, Nat.reduceSub, Nat.reduceLT, Nat.reduceLeDiff, Int.reduceToNat, Int.reduceLT, Int.reduceLE, Int.reduceAdd, Int.reduceMul, Int.reduceSub, Int.reduceNeg, Int.reduceDiv, Int.reduceMod, Nat.reduceBNe, Nat.reduceGT, Int.reduceBEq, Int.reduceBNe, Int.reduceGT, Nat.reduceDiv, Nat.reduceMod, Nat.reducePow, Int.reducePow, gt_iff_lt, ge_iff_le, List.reduceReplicate, ↓reduceIte, Try.f34] | refine callS_fp (h1) (by simp [closed, closeds, closeds_ints, closed_wE]) (next_of 1000 ?_))
  refine callS_app (T := 5) (l := none) (xs := []) 50 0 (encode_app h (chk_ok t 0 hok) hf) rfl rfl rfl (by omega) (fun l1 hl1 => next_of 1000 ?_)
  repeat' (simp (maxSteps := 4000000) (disch := omega) only [go_sem, Nat.reduceBEq, Nat.reduceAdd, Nat.reduceMul, Nat.reduceSub, Nat.reduceLT, Nat.reduceLeDiff, Int.reduceToNat, Int.reduceLT, Int.reduceLE, Int.reduceAdd, Int.reduceMul, Int.reduceSub, Int.reduceNeg, Int.reduceDiv, Int.reduceMod, Nat.reduceBNe, Nat.reduceGT, Int.reduceBEq, Int.reduceBNe, Int.reduceGT, Nat.reduceDiv, Nat.reduceMod, Nat.reducePow, Int.reducePow, gt_iff_lt, ge_iff_le, List.reduceReplicate, ↓reduceIte])
  refine ⟨by rcases l1 with _ | ⟨q1, q2⟩ <;> rfl, BExt.refl _, lays_B (T := 5) 1 (form t).length (l := l1) (xs := form t) rfl rfl (by rw [Nat.zero_add] at hl1; exact hl1) (fun b ad cap B' hB hf hC hc => ?_)⟩
  simp only [frz, frzs, hf]
  exact ⟨by simp [closed, closeds], (ad, cap), rfl, hC, hc⟩
theorem envelope_fn (k : UInt8) (hk : k.toNat ≤ 127) (p : List UInt8) (n : Nat) (B : Base) (ad : Option Addr) (cap : Nat) (hb : BytesAt B ad p) (hn : p.length = n) (hp : n ≤ 35184372088832) :
    Does Try.prog 38 [.int .u8 (k.toNat : Int), .raw (.slice ad n cap)] B (fun s : Option Addr × Nat => .tup [.raw (.slice s.1 (n + 1) s.2), .int .i64 0]) (fun s B' => BytesAt B' s.1 (k :: p) ∧ n + 1 ≤ s.2) := by
  refine fn_ofX en38 (fun s B B' hB hR => ⟨hR.1.ext hB, hR.2⟩) Try.func38 rfl in38 (by simp [Try.f38]) (by simp [closeds, closed]) (fun B0 hB0 => next_of 1000 ?_)
  replace hb := hb.ext hB0
  subst hn
  have hk2 := k.toNat_lt
  repeat' (first | with_reducible refine And.intro (by first | omega | assumption | (constructor <;> assumption) | (simp; done) | (simp; omega) | (simp [*]; done) | ((repeat' refine And.intro ?_ ?_) <;> first | omega | assumption | (refine SlOk.so (n := ?_) ?_ ?_; rotate_left; assumption; omega) | (simp; done) | fail) | fail) ?_ | simp (maxSteps := 4000000) (disch := omega) only [go_sem, Nat.reduceBEq, Nat.reduceAdd, Nat.reduceMul, Nat.reduceSub, Nat.reduceLT, Nat.reduceLeDiff, Int.reduceToNat, Int.reduceLT, Int.reduceLE, Int.reduceAdd, Int.reduceMul, Int.reduceSub, Int.reduceNeg, Int.reduceDiv, Int.reduceMod, Nat.reduceBNe, Nat.reduceGT, Int.reduceBEq, Int.reduceBNe, Int.reduceGT, Nat.reduceDiv, Nat.reduceMod, Nat.reducePow, Int.reducePow, gt_iff_lt, ge_iff_le, List.reduceReplicate, ↓reduceIte, Try.f38] | ((first | refine condS_split (fun h => ?_) (fun h => ?_) | refine testS_split (fun h => ?_) (fun h => ?_) | refine testT_split (fun h => ?_) (fun h => ?_)) <;> (try simp only [bne_iff_ne, ne_eq, beq_iff_eq, decide_eq_true_eq, decide_eq_false_iff_not, Bool.not_eq_true, Bool.not_eq_false, Bool.not_true, Bool.not_false, bne_eq_false_iff_eq, beq_eq_false_iff_ne, Bool.and_eq_true, Bool.or_eq_true, Bool.and_eq_false_imp, Bool.or_eq_false_iff, Bool.not_eq_true', Bool.not_eq_false', Int.not_lt, Int.not_le] at h) <;> (try (exfalso; omega))))
  refine appB (T := 5) (l := some (1, [])) (xs := [k]) 0 1 p rfl Try.underlying23 (.inl ⟨_, Try.underlying23⟩) zr5 cz5 by5 rfl rfl rfl (by simp [lOk, maxLen]) (hb.src _) (by omega) (fun l1 hl1 => next_of 1000 ?_)
  repeat' (simp (maxSteps := 4000000) (disch := omega) only [go_sem, Nat.reduceBEq, Nat.reduceAdd, Nat.reduceMul, Nat.reduceSub, Nat.reduceLT, Nat.reduceLeDiff, Int.reduceToNat, Int.reduceLT, Int.reduceLE, Int.reduceAdd, Int.reduceMul, Int.reduceSub, Int.reduceNeg, Int.reduceDiv, Int.reduceMod, Nat.reduceBNe, Nat.reduceGT, Int.reduceBEq, Int.reduceBNe, Int.reduceGT, Nat.reduceDiv, Nat.reduceMod, Nat.reducePow, Int.reducePow, gt_iff_lt, ge_iff_le, List.reduceReplicate, ↓reduceIte])
  refine ⟨by rcases l1 with _ | ⟨q1, q2⟩ <;> rfl, BExt.refl _, lays_B (T := 5) 1 (1 + p.length) (l := l1) (xs := k :: p) rfl (by rw [List.length_cons]; omega) hl1 (fun b ad cap B' hB hf hC hc => ?_)⟩
  simp only [frz, frzs, hf]
  exact ⟨by simp [closed, closeds], (ad, cap), by rw [Nat.add_comm], hC, by omega⟩
end Go.Proofs.Ytepabkjfnpaijaa

