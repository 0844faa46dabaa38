/- Part of a proof over the seat YtbilnedgpgpanaaDoor. -/
import Derived.Test.YtbilnedgpgpanaaDoorXB
namespace Go.Proofs.YtbilnedgpgpanaaDoor
open Go RowKit Go.Ew
set_option maxRecDepth 100000
set_option linter.unusedSimpArgs false
set_option linter.unusedVariables false
set_option maxHeartbeats 1000000
theorem in35 : codeIn Tryd.f35.ntmps (Tryd.f35.body.getD .skip) = true := by kernel_rfl
/-- What a text is read as. -/
def parseE (l : List UInt8) : EV :=
  if 80 < l.length then .tup [wE 0, .int .i64 2]
  else if Lib.hasPrefix l [48, 120] then readV (readD 16 64 ((l.drop 2).map fun c => valD c.toNat))
  else if 1 < l.length ∧ l.getD 0 0 = 48 then readV none
  else readV (readD 10 78 (l.map fun c => valD c.toNat))
theorem runD_congr {b : Nat} {f g : UInt8 → Nat} : ∀ (l : List UInt8) (x : Nat), (∀ c ∈ l, f c = g c ∨ (b ≤ f c ∧ b ≤ g c)) → runD b (l.map f) x = runD b (l.map g) x
  | [], x, _ => rfl
  | c :: l, x, h => by
    rw [List.map_cons, List.map_cons, runD, runD]
    rcases h c (by simp) with e | ⟨h1, h2⟩
    · rw [e]; split
      · exact runD_congr l _ (fun c hc => h c (by simp [hc]))
      · rfl
    · rw [if_neg (by omega), if_neg (by omega)]
theorem readD_congr {b m : Nat} {f g : UInt8 → Nat} (l : List UInt8) (h : ∀ c ∈ l, f c = g c ∨ (b ≤ f c ∧ b ≤ g c)) : readD b m (l.map f) = readD b m (l.map g) := by
  unfold readD
  rw [List.length_map, List.length_map, runD_congr l 0 h]
theorem val10 (c : Nat) : valL c = valD c ∨ (10 ≤ valL c ∧ 10 ≤ valD c) := by
  unfold valL valD
  split
  · left; rfl
  · right
    constructor
    · split <;> omega
    · split
      · omega
      · split <;> omega
theorem lower16 (c : UInt8) (h : c.toNat < 128) : valL (Lib.lowerB c).toNat = valD c.toNat := by
  have : ∀ m : Nat, m < 128 → valL (Lib.lowerB (UInt8.ofNat m)).toNat = valD (UInt8.ofNat m).toNat := by decide
  have := this c.toNat h
  rwa [UInt8.ofNat_toNat] at this
theorem readV_cl (r : Option Nat) : closed 0 (readV r) := by simp [readV, closed, closeds, closed_wE]
theorem parseE_cl (l : List UInt8) : closed 0 (parseE l) := by
  unfold parseE
  split
  · simp [closed, closeds, closed_wE]
  · split
    · exact readV_cl _
    · split <;> exact readV_cl _
theorem real_any (bs bs' : Nat → Nat) {v : EV} (h : closed 0 v) : real bs v = real bs' v := real_congr (fun i hi => absurd hi (Nat.not_lt_zero i)) v h
theorem parse_calls (w : World) (s : ByteArray) (hs : s.size < 35184372088832) (lo : ByteArray) (hlo : lo.size < 4611686018427387904)
    (hT : s.size ≤ 80 → Lib.hasPrefix s.data.toList [48, 120] = true → ∀ w', Below w.heap.size w w' → Calls Tryd.prog 84 #[.string ⟨(s.data.toList.drop 2).toArray⟩] w' (Ret (.string lo) w'))
    (hv : readD 16 64 (lo.data.toList.map fun c => valL c.toNat) = readD 16 64 ((s.data.toList.drop 2).map fun c => valD c.toNat)) :
    Calls Tryd.prog 35 #[.string s] w (Ret (real (fun _ => 0) (parseE s.data.toList)) w) := by
  have hsz : s.data.toList.length = s.size := by rw [Array.length_toList]; rfl
  have hrc : ∀ (r : Option Nat) bs, real bs (readV r) = real (fun _ => 0) (readV r) := fun r bs => real_any bs _ (readV_cl r)
  refine pure_calls [.str s] Tryd.func35 rfl in35 (by simp [Tryd.f35]) (by simp [closeds, closed]) (next_of 1000 ?_)
  simp (maxSteps := 4000000) (disch := omega) only [go_sem, Nat.reduceBEq, Nat.reduceAdd, Nat.reduceMul, Nat.reduceSub, Nat.reduceLT, Nat.reduceLeDiff, Int.reduceToNat, Int.reduceLT, Int.reduceLE, Int.reduceAdd, Int.reduceMul, Int.reduceSub, Int.reduceNeg, Int.reduceDiv, Int.reduceMod, Nat.reduceBNe, Nat.reduceGT, Int.reduceBEq, Int.reduceBNe, Int.reduceGT, Nat.reduceDiv, Nat.reduceMod, Nat.reducePow, Int.reducePow, gt_iff_lt, ge_iff_le, List.reduceReplicate, ↓reduceIte, Tryd.f35]
  repeat (with_reducible refine And.intro (by first | omega | assumption | (constructor <;> assumption) | (simp; done) | (simp; omega) | (simp [*]; done)) ?_)
  unfold parseE
  rw [hsz]
  by_cases h80 : 80 < s.size
  · repeat' (first
      | with_reducible refine And.intro (by first | omega | assumption | (constructor <;> assumption) | (simp; done) | (simp; omega) | (simp [*]; done)) ?_
      | simp (maxSteps := 4000000) (disch := omega) only [go_sem, Nat.reduceBEq, Nat.reduceAdd, Nat.reduceMul, Nat.reduceSub, Nat.reduceLT, Nat.reduceLeDiff, Int.reduceToNat, Int.reduceLT, Int.reduceLE, Int.reduceAdd, Int.reduceMul, Int.reduceSub, Int.reduceNeg, Int.reduceDiv, Int.reduceMod, Nat.reduceBNe, Nat.reduceGT, Int.reduceBEq, Int.reduceBNe, Int.reduceGT, Nat.reduceDiv, Nat.reduceMod, Nat.reducePow, Int.reducePow, gt_iff_lt, ge_iff_le, List.reduceReplicate, ↓reduceIte]
      | with_reducible refine roundS (next_of 1000 ?_)
      | with_reducible refine drawS_of mixed (by kernel_rfl) (dg_of 1000 ?_)
      | with_reducible refine endD_of (by kernel_rfl) (next_of 1000 ?_)
      | with_reducible refine next_of 1000 ?_
      | ((first | refine condS_split (fun h => ?_) (fun h => ?_) | refine testS_split (fun h => ?_) (fun h => ?_) | refine testD_split (fun h => ?_) (fun h => ?_)) <;> (try simp only [bne_iff_ne, ne_eq, beq_iff_eq, decide_eq_true_eq, decide_eq_false_iff_not, Bool.not_eq_true, Bool.not_eq_false, Bool.not_true, Bool.not_false, bne_eq_false_iff_eq, beq_eq_false_iff_ne, Bool.and_eq_true, Bool.or_eq_true, Bool.and_eq_false_imp, Bool.or_eq_false_iff, Bool.not_eq_true', Bool.not_eq_false', Int.not_lt, Int.not_le] at h) <;> (try (exfalso; omega))))
    intro bs
    rw [if_pos h80]; rfl
  · rw [if_neg h80]
    cases hp : Lib.hasPrefix s.data.toList [48, 120]
    · rw [if_neg (by simp)]
      have hP := parse_p s 10 78 (.inl rfl) (by omega) (by omega)
      rw [readD_congr s.data.toList (fun c _ => val10 c.toNat)] at hP
      generalize hR : readD 10 78 (s.data.toList.map fun c => valD c.toNat) = R at *
      obtain ⟨n, e, hne⟩ : ∃ n e, readV R = .tup [wE n, .int .i64 e] := ⟨_, _, rfl⟩
      have hrc2 := hrc R
      rw [hne] at hP hrc2 ⊢
      repeat' (first
        | with_reducible refine And.intro (by first | omega | assumption | (constructor <;> assumption) | (simp; done) | (simp; omega) | (simp [*]; done)) ?_
        | simp (maxSteps := 4000000) (disch := omega) only [go_sem, Nat.reduceBEq, Nat.reduceAdd, Nat.reduceMul, Nat.reduceSub, Nat.reduceLT, Nat.reduceLeDiff, Int.reduceToNat, Int.reduceLT, Int.reduceLE, Int.reduceAdd, Int.reduceMul, Int.reduceSub, Int.reduceNeg, Int.reduceDiv, Int.reduceMod, Nat.reduceBNe, Nat.reduceGT, Int.reduceBEq, Int.reduceBNe, Int.reduceGT, Nat.reduceDiv, Nat.reduceMod, Nat.reducePow, Int.reducePow, gt_iff_lt, ge_iff_le, List.reduceReplicate, ↓reduceIte, hp]
        | with_reducible refine roundS (next_of 1000 ?_)
        | with_reducible refine drawS_of mixed (by kernel_rfl) (dg_of 1000 ?_)
        | with_reducible refine endD_of (by kernel_rfl) (next_of 1000 ?_)
        | refine callS_p (cutprefix_p _ _) (next_of 1000 ?_)
        | refine callD_p (cutprefix_p _ _) (dg_of 1000 ?_)
        | refine callS_p (hP) (next_of 1000 ?_)
        | refine callD_p (hP) (dg_of 1000 ?_)
        | with_reducible refine next_of 1000 ?_
        | ((first | refine condS_split (fun h => ?_) (fun h => ?_) | refine testS_split (fun h => ?_) (fun h => ?_) | refine testD_split (fun h => ?_) (fun h => ?_)) <;> (try simp only [bne_iff_ne, ne_eq, beq_iff_eq, decide_eq_true_eq, decide_eq_false_iff_not, Bool.not_eq_true, Bool.not_eq_false, Bool.not_true, Bool.not_false, bne_eq_false_iff_eq, beq_eq_false_iff_ne, Bool.and_eq_true, Bool.or_eq_true, Bool.and_eq_false_imp, Bool.or_eq_false_iff, Bool.not_eq_true', Bool.not_eq_false', Int.not_lt, Int.not_le] at h) <;> (try (exfalso; omega))))
      · intro bs
        rename_i h1
        rw [if_pos ⟨by omega, by apply UInt8.toNat_inj.1; show _ = 48; omega⟩]
        exact hrc none bs
      · intro bs
        rename_i h1
        rw [if_neg (by rintro ⟨_, h2⟩; rw [h2] at h; exact h rfl)]
        exact hrc2 bs
      · intro bs
        rw [if_neg (by omega)]
        exact hrc2 bs
    · rw [if_pos (by simp)]
      have e2 : Lib.trimPrefix s.data.toList [48, 120] = s.data.toList.drop 2 := by simp [Lib.trimPrefix, hp]
      have hT := hT (by omega) hp
      have hP := parse_p lo 16 64 (.inr rfl) (by omega) (by omega)
      rw [hv] at hP
      generalize hR : readD 16 64 ((s.data.toList.drop 2).map fun c => valD c.toNat) = R at *
      obtain ⟨n, e, hne⟩ : ∃ n e, readV R = .tup [wE n, .int .i64 e] := ⟨_, _, rfl⟩
      have hrc2 := hrc R
      rw [hne] at hP hrc2 ⊢
      repeat' (first
        | with_reducible refine And.intro (by first | omega | assumption | (constructor <;> assumption) | (simp; done) | (simp; omega) | (simp [*]; done)) ?_
        | simp (maxSteps := 4000000) (disch := omega) only [go_sem, Nat.reduceBEq, Nat.reduceAdd, Nat.reduceMul, Nat.reduceSub, Nat.reduceLT, Nat.reduceLeDiff, Int.reduceToNat, Int.reduceLT, Int.reduceLE, Int.reduceAdd, Int.reduceMul, Int.reduceSub, Int.reduceNeg, Int.reduceDiv, Int.reduceMod, Nat.reduceBNe, Nat.reduceGT, Int.reduceBEq, Int.reduceBNe, Int.reduceGT, Nat.reduceDiv, Nat.reduceMod, Nat.reducePow, Int.reducePow, gt_iff_lt, ge_iff_le, List.reduceReplicate, ↓reduceIte, hp, e2]
        | with_reducible refine roundS (next_of 1000 ?_)
        | with_reducible refine drawS_of mixed (by kernel_rfl) (dg_of 1000 ?_)
        | with_reducible refine endD_of (by kernel_rfl) (next_of 1000 ?_)
        | refine callS_p (cutprefix_p _ _) (next_of 1000 ?_)
        | refine callD_p (cutprefix_p _ _) (dg_of 1000 ?_)
        | with_reducible refine next_of 1000 ?_
        | ((first | refine condS_split (fun h => ?_) (fun h => ?_) | refine testS_split (fun h => ?_) (fun h => ?_) | refine testD_split (fun h => ?_) (fun h => ?_)) <;> (try simp only [bne_iff_ne, ne_eq, beq_iff_eq, decide_eq_true_eq, decide_eq_false_iff_not, Bool.not_eq_true, Bool.not_eq_false, Bool.not_true, Bool.not_false, bne_eq_false_iff_eq, beq_eq_false_iff_ne, Bool.and_eq_true, Bool.or_eq_true, Bool.and_eq_false_imp, Bool.or_eq_false_iff, Bool.not_eq_true', Bool.not_eq_false', Int.not_lt, Int.not_le] at h) <;> (try (exfalso; omega))))
      refine callS_pure (.str lo) en84 (by simp [closed]) (fun bs w' hh => hT w' hh.below) (next_of 1000 ?_)
      repeat' (first
        | with_reducible refine And.intro (by first | omega | assumption | (constructor <;> assumption) | (simp; done) | (simp; omega) | (simp [*]; done)) ?_
        | simp (maxSteps := 4000000) (disch := omega) only [go_sem, Nat.reduceBEq, Nat.reduceAdd, Nat.reduceMul, Nat.reduceSub, Nat.reduceLT, Nat.reduceLeDiff, Int.reduceToNat, Int.reduceLT, Int.reduceLE, Int.reduceAdd, Int.reduceMul, Int.reduceSub, Int.reduceNeg, Int.reduceDiv, Int.reduceMod, Nat.reduceBNe, Nat.reduceGT, Int.reduceBEq, Int.reduceBNe, Int.reduceGT, Nat.reduceDiv, Nat.reduceMod, Nat.reducePow, Int.reducePow, gt_iff_lt, ge_iff_le, List.reduceReplicate, ↓reduceIte, hp, e2]
        | with_reducible refine roundS (next_of 1000 ?_)
        | with_reducible refine drawS_of mixed (by kernel_rfl) (dg_of 1000 ?_)
        | with_reducible refine endD_of (by kernel_rfl) (next_of 1000 ?_)
        | refine callS_p (hP) (next_of 1000 ?_)
        | refine callD_p (hP) (dg_of 1000 ?_)
        | with_reducible refine next_of 1000 ?_
        | ((first | refine condS_split (fun h => ?_) (fun h => ?_) | refine testS_split (fun h => ?_) (fun h => ?_) | refine testD_split (fun h => ?_) (fun h => ?_)) <;> (try simp only [bne_iff_ne, ne_eq, beq_iff_eq, decide_eq_true_eq, decide_eq_false_iff_not, Bool.not_eq_true, Bool.not_eq_false, Bool.not_true, Bool.not_false, bne_eq_false_iff_eq, beq_eq_false_iff_ne, Bool.and_eq_true, Bool.or_eq_true, Bool.and_eq_false_imp, Bool.or_eq_false_iff, Bool.not_eq_true', Bool.not_eq_false', Int.not_lt, Int.not_le] at h) <;> (try (exfalso; omega))))
      intro bs
      exact hrc2 bs
theorem tolower_ascii (s : ByteArray) (w : World) (hs : s.size ≤ 140737488355328) (ha : ∀ c ∈ s.data.toList, c.toNat < 128) : Calls Tryd.prog 84 #[.string s] w (Ret (.string ⟨(Lib.toLowerA s.data.toList).toArray⟩) w) :=
  (Go.Proofs.Tryd.strings_ToLower_ascii s w hs (fun j b h => ha b (List.mem_of_getElem? h))).mono (fun e w' h => h)
theorem parse_ascii (s : ByteArray) (ha : ∀ c ∈ s.data.toList, c.toNat < 128) (hs : s.size < 35184372088832) : Pure Tryd.prog 35 [.str s] (parseE s.data.toList) := by
  have hsz : s.data.toList.length = s.size := by rw [Array.length_toList]; rfl
  refine ⟨en35, parseE_cl _, fun bs w => ?_⟩
  have hs2 : ((s.data.toList.drop 2).toArray).size ≤ s.size := by rw [List.size_toArray, List.length_drop]; omega
  have := parse_calls w s hs ⟨(Lib.toLowerA (s.data.toList.drop 2)).toArray⟩ (by
      show ((Lib.toLowerA (s.data.toList.drop 2)).toArray).size < _
      rw [List.size_toArray, Lib.toLowerA, List.length_map, List.length_drop]; omega)
    (fun _ _ w' _ => tolower_ascii ⟨(s.data.toList.drop 2).toArray⟩ w' (by show ((s.data.toList.drop 2).toArray).size ≤ _; omega) (fun c hc => ha c (List.mem_of_mem_drop hc)))
    (by
      show readD 16 64 ((Lib.toLowerA (s.data.toList.drop 2)).map _) = _
      rw [Lib.toLowerA, List.map_map]
      exact readD_congr _ (fun c hc => .inl (lower16 c (ha c (List.mem_of_mem_drop hc)))))
  rw [real_any bs (fun _ => 0) (parseE_cl _)]
  exact this
end Go.Proofs.YtbilnedgpgpanaaDoor
