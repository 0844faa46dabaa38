/- Part of a proof over the seat YtbilnedgpgpanaaDoor. -/
import Derived.Test.YtbilnedgpgpanaaDoorXW
import Derived.Test.YtbilnedgpgpanaaDoorXP
import Derived.Test.YtbilnedgpgpanaaDoorXE
import Derived.Test.YtbilnedgpgpanaaDoorShelf2
import Derived.Lib.LaidCase
import Derived.Lib.LaidU8
namespace Go.Proofs.YtbilnedgpgpanaaDoor
open Go RowKit Go.Ew
set_option maxRecDepth 100000
set_option linter.unusedSimpArgs false
set_option linter.unusedVariables false
set_option maxHeartbeats 1000000
/-- What a row of Go's table of cases does to what it holds: no letter beyond ASCII gets a digit. -/
def rowHi (x : Lib.CaseRow) : Bool :=
  decide (x.2.1 < 128) || (decide (128 ≤ x.1) && (decide (1114111 < x.2.2.2.1) || decide (128 ≤ (x.1 : Int) + x.2.2.2.1) || (decide (x.1 = x.2.1) && (decide ((x.1 : Int) + x.2.2.2.1 = 105) || decide ((x.1 : Int) + x.2.2.2.1 = 107)))))
theorem rows_hi : Lib.caseT.all rowHi = true := by decide +kernel
theorem row_hi (i : Nat) (hi : i < Lib.caseA.size) : rowHi (Lib.caseA.getD i (0, 0, 0, 0, 0)) = true := by
  have hm : Lib.caseA.getD i (0, 0, 0, 0, 0) ∈ Lib.caseT := by
    unfold Lib.caseA at hi ⊢
    simp only [List.size_toArray] at hi
    simp [Array.getD, hi]
  exact List.all_eq_true.1 rows_hi _ hm
theorem lower_high (r : Int) (h0 : 128 ≤ r) (h1 : r ≤ 2147483647) : (128 ≤ Lib.toLowerU r ∨ Lib.toLowerU r = 105 ∨ Lib.toLowerU r = 107) ∧ 0 ≤ Lib.toLowerU r := by
  have hrange := Lib.toR_range 1 (by omega) r (by omega) h1
  unfold Lib.toLowerU
  rw [if_neg (by omega)]
  refine ⟨?_, hrange.1⟩
  unfold Lib.toR Lib.lookupGo
  cases hi : Lib.lookupIdx Lib.caseA r (Lib.caseA.size + 1) 0 Lib.caseA.size with
  | none => exact .inl h0
  | some i =>
    obtain ⟨hil, hlo, hhi⟩ := Lib.lookupIdx_some Lib.caseA r _ _ _ i hi
    have hr := row_hi i hil
    simp only [Option.map_some]
    generalize Lib.caseA.getD i (0, 0, 0, 0, 0) = x at *
    unfold rowHi at hr
    simp only [Bool.or_eq_true, Bool.and_eq_true, decide_eq_true_eq] at hr
    unfold Lib.convertR Lib.CaseRow.delta
    simp only
    split
    · left; omega
    · omega
theorem enc_bad (v : Int) (h : 128 ≤ v ∨ v = 105 ∨ v = 107) : ∃ c ∈ Lib.encodeRune v, valL c.toNat = 16 := by
  have key : ∀ (x : Int) (l : List Int), Lib.encodeRuneZ v = x :: l → 128 ≤ x → x < 256 → ∃ c ∈ Lib.encodeRune v, valL c.toNat = 16 := by
    intro x l hx h1 h2
    refine ⟨x.toNat.toUInt8, by unfold Lib.encodeRune; rw [hx]; simp, ?_⟩
    have : (x.toNat.toUInt8).toNat = x.toNat := by
      show (UInt8.ofNat x.toNat).toNat = x.toNat
      rw [UInt8.toNat_ofNat']; omega
    rw [this]; unfold valL; rw [if_neg (by omega), if_neg (by omega)]
  rcases h with h | h | h
  · by_cases h1 : v ≤ 2047
    · exact key _ _ (Lib.encodeRuneZ_two h h1) (by omega) (by omega)
    · by_cases h2 : (2048 ≤ v ∧ v < 55296) ∨ (57343 < v ∧ v ≤ 65535)
      · exact key _ _ (Lib.encodeRuneZ_three h2) (by omega) (by omega)
      · by_cases h3 : 65536 ≤ v ∧ v ≤ 1114111
        · exact key _ _ (Lib.encodeRuneZ_four h3.1 h3.2) (by omega) (by omega)
        · exact key _ _ (Lib.encodeRuneZ_bad (by omega)) (by omega) (by omega)
  · subst h; exact ⟨105, by decide, by decide⟩
  · subst h; exact ⟨107, by decide, by decide⟩
theorem lower_bad : ∀ (n : Nat) (l : List UInt8), l.length = n → (∃ b ∈ l, 128 ≤ b.toNat) → ∃ c ∈ Lib.toLowerD l, valL c.toNat = 16
  | 0, l, hl, ⟨b, hb, _⟩ => by rw [List.length_eq_zero_iff.1 hl] at hb; simp at hb
  | n + 1, [], hl, _ => by simp at hl
  | n + 1, b :: t, hl, ⟨a, ha, ha2⟩ => by
    unfold Lib.toLowerD
    rw [Lib.mapD_step _ _ (by simp)]
    by_cases hb : b.toNat < 128
    · have hat : a ∈ t := by
        rcases List.mem_cons.1 ha with h | h
        · subst h; omega
        · exact h
      obtain ⟨c, hc, hv⟩ := lower_bad n t (by simpa using hl) ⟨a, hat, ha2⟩
      refine ⟨c, List.mem_append.2 (.inr ?_), hv⟩
      rw [Lib.decodeL_ascii b t hb]
      exact hc
    · have hd := decode_high ⟨(b :: t).toArray⟩ 0 (by simp [ByteArray.size]) (by show 128 ≤ b.toNat; omega)
      have hle := decode_le ⟨(b :: t).toArray⟩ 0
      have hU := lower_high ((Lib.decodeL (b :: t)).1 : Int) (by have := hd.1; unfold Lib.decodeL; omega) (by unfold Lib.decodeL; omega)
      obtain ⟨c, hc, hv⟩ := enc_bad _ hU.1
      refine ⟨c, List.mem_append.2 (.inl ?_), hv⟩
      rw [if_pos hU.2]
      exact hc
theorem runD_bad {b : Nat} : ∀ (l : List Nat) (x : Nat), (∃ v ∈ l, b ≤ v) → runD b l x = none
  | [], _, ⟨v, hv, _⟩ => by simp at hv
  | v :: l, x, ⟨a, ha, hab⟩ => by
    rw [runD]
    split
    · rename_i h
      rcases List.mem_cons.1 ha with h1 | h1
      · subst h1; omega
      · exact runD_bad l _ ⟨a, h1, hab⟩
    · rfl
theorem readD_bad {b m : Nat} {l : List Nat} (h : ∃ v ∈ l, b ≤ v) : readD b m l = none := by
  unfold readD; split
  · rfl
  · exact runD_bad l 0 h
/-- What a text reads as when it was lowered: just what it is. -/
theorem read_lowered (l : List UInt8) (h : ∃ b ∈ l, 128 ≤ b.toNat) : readD 16 64 ((Lib.toLowerD l).map fun c => valL c.toNat) = readD 16 64 (l.map fun c => valD c.toNat) := by
  obtain ⟨c, hc, hv⟩ := lower_bad l.length l rfl h
  obtain ⟨b, hb, hb2⟩ := h
  rw [readD_bad ⟨valL c.toNat, List.mem_map.2 ⟨c, hc, rfl⟩, by omega⟩, readD_bad ⟨valD b.toNat, List.mem_map.2 ⟨b, hb, rfl⟩, by unfold valD; rw [if_neg (by omega), if_neg (by omega), if_neg (by omega)]; exact Nat.le_refl _⟩]
theorem enc_len (v : Int) : (Lib.encodeRune v).length ≤ 4 := by
  unfold Lib.encodeRune Lib.encodeRuneZ
  rw [List.length_map]
  repeat' split
  all_goals simp
theorem map_len (f : Int → Int) : ∀ (n : Nat) (l : List UInt8), (Lib.mapGoD f n l).length ≤ 4 * n
  | 0, _ => by simp [Lib.mapGoD]
  | n + 1, l => by
    unfold Lib.mapGoD
    split
    · simp
    · rw [List.length_append]
      have h1 := map_len f n (l.drop (Lib.decodeL l).2)
      have h2 := enc_len (f (Lib.decodeL l).1)
      split
      · omega
      · simp only [List.length_nil]; omega
theorem parse_long (s : ByteArray) (h80 : 80 < s.size) (hs : s.size ≤ 9223372036854775807) : Pure Tryd.prog 35 [.str s] (.tup [wE 0, .int .i64 2]) := by
  refine pure_p (args := [.str s]) en35 (by simp [closed, closeds, closed_wE, closeds_ints]) Tryd.func35 rfl in35 (by simp [Tryd.f35]) (by simp [closeds, closed, closed_wE, closeds_ints]) (fun w => next_of 1000 ?_)
  simp (maxSteps := 4000000) (disch := omega) only [go_sem, Nat.reduceBEq, Nat.reduceAdd, Nat.reduceMul, Nat.reduceSub, Nat.reduceLT, Nat.reduceLeDiff, Int.reduceToNat, Int.reduceLT, Int.reduceLE, Int.reduceAdd, Int.reduceMul, Int.reduceSub, Int.reduceNeg, Int.reduceDiv, Int.reduceMod, Nat.reduceBNe, Nat.reduceGT, Int.reduceBEq, Int.reduceBNe, Int.reduceGT, Nat.reduceDiv, Nat.reduceMod, Nat.reducePow, Int.reducePow, gt_iff_lt, ge_iff_le, List.reduceReplicate, ↓reduceIte, Tryd.f35]
  repeat (with_reducible refine And.intro (by first | omega | assumption | (constructor <;> assumption) | (simp; done) | (simp; omega) | (simp [*]; done)) ?_)
  repeat' (first
    | with_reducible refine And.intro (by first | omega | assumption | (constructor <;> assumption) | (simp; done) | (simp; omega) | (simp [*]; done)) ?_
    | simp (maxSteps := 4000000) (disch := omega) only [go_sem, Nat.reduceBEq, Nat.reduceAdd, Nat.reduceMul, Nat.reduceSub, Nat.reduceLT, Nat.reduceLeDiff, Int.reduceToNat, Int.reduceLT, Int.reduceLE, Int.reduceAdd, Int.reduceMul, Int.reduceSub, Int.reduceNeg, Int.reduceDiv, Int.reduceMod, Nat.reduceBNe, Nat.reduceGT, Int.reduceBEq, Int.reduceBNe, Int.reduceGT, Nat.reduceDiv, Nat.reduceMod, Nat.reducePow, Int.reducePow, gt_iff_lt, ge_iff_le, List.reduceReplicate, ↓reduceIte]
    | with_reducible refine roundS (next_of 1000 ?_)
    | with_reducible refine drawS_of mixed (by kernel_rfl) (dg_of 1000 ?_)
    | with_reducible refine endD_of (by kernel_rfl) (next_of 1000 ?_)
    | with_reducible refine next_of 1000 ?_
    | ((first | refine condS_split (fun h => ?_) (fun h => ?_) | refine testS_split (fun h => ?_) (fun h => ?_) | refine testD_split (fun h => ?_) (fun h => ?_)) <;> (try simp only [bne_iff_ne, ne_eq, beq_iff_eq, decide_eq_true_eq, decide_eq_false_iff_not, Bool.not_eq_true, Bool.not_eq_false, Bool.not_true, Bool.not_false, bne_eq_false_iff_eq, beq_eq_false_iff_ne, Bool.and_eq_true, Bool.or_eq_true, Bool.and_eq_false_imp, Bool.or_eq_false_iff, Bool.not_eq_true', Bool.not_eq_false', Int.not_lt, Int.not_le] at h) <;> (try (exfalso; omega))))
  rfl
theorem parse_any (s : ByteArray) (hs : s.size ≤ 9223372036854775807) (w : World) (hV : Lib.CaseVar 0 Lib.caseA w) (hU : Lib.Utf8Tabs 2 3 w) : Calls Tryd.prog 35 #[.string s] w (Ret (real (fun _ => 0) (parseE s.data.toList)) w) := by
  have hsz : s.data.toList.length = s.size := by rw [Array.length_toList]; rfl
  by_cases h80 : 80 < s.size
  · have := (parse_long s h80 hs).run (fun _ => 0) w
    unfold parseE
    rw [hsz, if_pos h80]
    exact this
  · have hl : ((Lib.toLowerD (s.data.toList.drop 2)).toArray).size ≤ 4 * 80 := by
      rw [List.size_toArray]
      have := map_len Lib.toLowerU (s.data.toList.drop 2).length (s.data.toList.drop 2)
      have h2 : (s.data.toList.drop 2).length ≤ 80 := by rw [List.length_drop]; omega
      unfold Lib.toLowerD Lib.mapD
      omega
    by_cases ha : ∀ b ∈ s.data.toList.drop 2, b.toNat < 128
    · have e := Lib.toLowerD_ascii _ ha
      refine parse_calls w s (by omega) ⟨(Lib.toLowerD (s.data.toList.drop 2)).toArray⟩ (by show ((Lib.toLowerD (s.data.toList.drop 2)).toArray).size < _; omega) (fun _ _ w' _ => ?_) ?_
      · rw [e]
        exact tolower_ascii ⟨(s.data.toList.drop 2).toArray⟩ w' (by show ((s.data.toList.drop 2).toArray).size ≤ _; rw [List.size_toArray, List.length_drop]; omega) ha
      · show readD 16 64 ((Lib.toLowerD (s.data.toList.drop 2)).map _) = _
        rw [e, Lib.toLowerA, List.map_map]
        exact readD_congr _ (fun c hc => .inl (lower16 c (ha c hc)))
    · have hb : ∃ b ∈ s.data.toList.drop 2, 128 ≤ b.toNat := by
        simp only [Classical.not_forall, Nat.not_lt] at ha
        obtain ⟨b, hb, h⟩ := ha
        exact ⟨b, hb, h⟩
      refine parse_calls w s (by omega) ⟨(Lib.toLowerD (s.data.toList.drop 2)).toArray⟩ (by show ((Lib.toLowerD (s.data.toList.drop 2)).toArray).size < _; omega) (fun _ _ w' hw => ?_) ?_
      · obtain ⟨b, hb, h⟩ := hb
        obtain ⟨j, hj⟩ := List.mem_iff_getElem?.1 hb
        exact Go.Proofs.Tryd.strings_ToLower_beyond ⟨(s.data.toList.drop 2).toArray⟩ w' (by show ((s.data.toList.drop 2).toArray).size < _; rw [List.size_toArray, List.length_drop]; omega) ⟨j, b, hj, h⟩ (Lib.CaseVar_below hV hw) (Go.Proofs.Utf8Tabs_below hU hw)
      · exact read_lowered _ hb
theorem in5 : codeIn Tryd.f5.ntmps (Tryd.f5.body.getD .skip) = true := by kernel_rfl
theorem in19 : codeIn Tryd.f19.ntmps (Tryd.f19.body.getD .skip) = true := by kernel_rfl
theorem texts_calls (x : Nat) (hx : x < 115792089237316195423570985008687907853269984665640564039457584007913129639936) (s : ByteArray) (hs : s.size ≤ 9223372036854775807) (w : World) (hV : Lib.CaseVar 0 Lib.caseA w) (hU : Lib.Utf8Tabs 2 3 w) : Calls Tryd.prog 5 #[wV x, .string s] w (Ret (.bool true) w) := by
  have hcl := parseE_cl s.data.toList
  obtain ⟨n, e, hne⟩ : ∃ n e, parseE s.data.toList = .tup [wE n, .int .i64 e] := by
    unfold parseE readV
    split
    · exact ⟨_, _, rfl⟩
    · split
      · exact ⟨_, _, rfl⟩
      · split <;> exact ⟨_, _, rfl⟩
  have c1 := rparse_p s hs
  have c0 : ∀ w', Below w.heap.size w w' → Calls Tryd.prog 35 #[.string s] w' (Ret (real (fun _ => 0) (parseE s.data.toList)) w') := fun w' hw => parse_any s hs w' (Lib.CaseVar_below hV hw) (Go.Proofs.Utf8Tabs_below hU hw)
  rw [hne] at c1 c0 hcl
  have c2 := hex_p x hx
  have c3 := dec_p x hx
  have c4 := rhex_p x hx
  have c5 := rdec_p x hx
  have c6 : Pure Tryd.prog 19 [wE n, wE n] (.bool true) := by
    refine pure_p (args := [wE n, wE n]) en19 (by simp [closed, closeds, closed_wE, closeds_ints]) Tryd.func19 rfl in19 (by simp [Tryd.f19]) (by simp [closeds, closed, closed_wE, closeds_ints]) (fun w => next_of 1000 ?_)
    simp (maxSteps := 4000000) (disch := omega) only [go_sem, Nat.reduceBEq, Nat.reduceAdd, Nat.reduceMul, Nat.reduceSub, Nat.reduceLT, Nat.reduceLeDiff, Int.reduceToNat, Int.reduceLT, Int.reduceLE, Int.reduceAdd, Int.reduceMul, Int.reduceSub, Int.reduceNeg, Int.reduceDiv, Int.reduceMod, Nat.reduceBNe, Nat.reduceGT, Int.reduceBEq, Int.reduceBNe, Int.reduceGT, Nat.reduceDiv, Nat.reduceMod, Nat.reducePow, Int.reducePow, gt_iff_lt, ge_iff_le, List.reduceReplicate, ↓reduceIte, Tryd.f19]
    repeat (with_reducible refine And.intro (by first | omega | assumption | (constructor <;> assumption) | (simp; done) | (simp; omega) | (simp [*]; done)) ?_)
    repeat' (first
      | with_reducible refine And.intro (by first | omega | assumption | (constructor <;> assumption) | (simp; done) | (simp; omega) | (simp [*]; done)) ?_
      | simp (maxSteps := 4000000) (disch := omega) only [go_sem, Nat.reduceBEq, Nat.reduceAdd, Nat.reduceMul, Nat.reduceSub, Nat.reduceLT, Nat.reduceLeDiff, Int.reduceToNat, Int.reduceLT, Int.reduceLE, Int.reduceAdd, Int.reduceMul, Int.reduceSub, Int.reduceNeg, Int.reduceDiv, Int.reduceMod, Nat.reduceBNe, Nat.reduceGT, Int.reduceBEq, Int.reduceBNe, Int.reduceGT, Nat.reduceDiv, Nat.reduceMod, Nat.reducePow, Int.reducePow, gt_iff_lt, ge_iff_le, List.reduceReplicate, ↓reduceIte]
      | with_reducible refine roundS (next_of 1000 ?_)
      | with_reducible refine drawS_of mixed (by kernel_rfl) (dg_of 1000 ?_)
      | with_reducible refine endD_of (by kernel_rfl) (next_of 1000 ?_)
      | with_reducible refine next_of 1000 ?_
      | ((first | refine condS_split (fun h => ?_) (fun h => ?_) | refine testS_split (fun h => ?_) (fun h => ?_) | refine testD_split (fun h => ?_) (fun h => ?_)) <;> (try simp only [bne_iff_ne, ne_eq, beq_iff_eq, decide_eq_true_eq, decide_eq_false_iff_not, Bool.not_eq_true, Bool.not_eq_false, Bool.not_true, Bool.not_false, bne_eq_false_iff_eq, beq_eq_false_iff_ne, Bool.and_eq_true, Bool.or_eq_true, Bool.and_eq_false_imp, Bool.or_eq_false_iff, Bool.not_eq_true', Bool.not_eq_false', Int.not_lt, Int.not_le] at h) <;> (try (exfalso; omega))))
  generalize strL (48 :: 120 :: txtL 16 x) = sh at *
  generalize strL (txtL 10 x) = sd at *
  have ea : #[wV x, Value.string s] = (reals (fun _ => 0) [wE x, .str s]).toArray := by simp [reals, real, wV_real]
  rw [ea]
  refine pure_calls [wE x, .str s] Tryd.func5 rfl in5 (by simp [Tryd.f5]) (by simp [closeds, closed, closed_wE]) (next_of 1000 ?_)
  simp (maxSteps := 4000000) (disch := omega) only [go_sem, Nat.reduceBEq, Nat.reduceAdd, Nat.reduceMul, Nat.reduceSub, Nat.reduceLT, Nat.reduceLeDiff, Int.reduceToNat, Int.reduceLT, Int.reduceLE, Int.reduceAdd, Int.reduceMul, Int.reduceSub, Int.reduceNeg, Int.reduceDiv, Int.reduceMod, Nat.reduceBNe, Nat.reduceGT, Int.reduceBEq, Int.reduceBNe, Int.reduceGT, Nat.reduceDiv, Nat.reduceMod, Nat.reducePow, Int.reducePow, gt_iff_lt, ge_iff_le, List.reduceReplicate, ↓reduceIte, Tryd.f5]
  repeat (with_reducible refine And.intro (by first | omega | assumption | (constructor <;> assumption) | (simp; done) | (simp; omega) | (simp [*]; done)) ?_)
  refine callS_pure (.tup [wE n, .int .i64 e]) en35 (by simp [closed, closeds, closed_wE]) (fun bs w' hh => ?_) (next_of 1000 ?_)
  · rw [real_any bs (fun _ => 0) (v := .tup [wE n, .int .i64 e]) (by simp [closed, closeds, closed_wE])]
    exact c0 w' hh.below
  repeat' (first
    | with_reducible refine And.intro (by first | omega | assumption | (constructor <;> assumption) | (simp; done) | (simp; omega) | (simp [*]; done)) ?_
    | simp (maxSteps := 4000000) (disch := omega) only [go_sem, Nat.reduceBEq, Nat.reduceAdd, Nat.reduceMul, Nat.reduceSub, Nat.reduceLT, Nat.reduceLeDiff, Int.reduceToNat, Int.reduceLT, Int.reduceLE, Int.reduceAdd, Int.reduceMul, Int.reduceSub, Int.reduceNeg, Int.reduceDiv, Int.reduceMod, Nat.reduceBNe, Nat.reduceGT, Int.reduceBEq, Int.reduceBNe, Int.reduceGT, Nat.reduceDiv, Nat.reduceMod, Nat.reducePow, Int.reducePow, gt_iff_lt, ge_iff_le, List.reduceReplicate, ↓reduceIte]
    | with_reducible refine roundS (next_of 1000 ?_)
    | with_reducible refine drawS_of mixed (by kernel_rfl) (dg_of 1000 ?_)
    | with_reducible refine endD_of (by kernel_rfl) (next_of 1000 ?_)
    | refine callS_p (c1) (next_of 1000 ?_)
    | refine callD_p (c1) (dg_of 1000 ?_)
    | refine callS_p (c2) (next_of 1000 ?_)
    | refine callD_p (c2) (dg_of 1000 ?_)
    | refine callS_p (c3) (next_of 1000 ?_)
    | refine callD_p (c3) (dg_of 1000 ?_)
    | refine callS_p (c4) (next_of 1000 ?_)
    | refine callD_p (c4) (dg_of 1000 ?_)
    | refine callS_p (c5) (next_of 1000 ?_)
    | refine callD_p (c5) (dg_of 1000 ?_)
    | refine callS_p (c6) (next_of 1000 ?_)
    | refine callD_p (c6) (dg_of 1000 ?_)
    | refine callS_p (awake_p) (next_of 1000 ?_)
    | refine callD_p (awake_p) (dg_of 1000 ?_)
    | with_reducible refine next_of 1000 ?_
    | ((first | refine condS_split (fun h => ?_) (fun h => ?_) | refine testS_split (fun h => ?_) (fun h => ?_) | refine testD_split (fun h => ?_) (fun h => ?_)) <;> (try simp only [bne_iff_ne, ne_eq, beq_iff_eq, decide_eq_true_eq, decide_eq_false_iff_not, Bool.not_eq_true, Bool.not_eq_false, Bool.not_true, Bool.not_false, bne_eq_false_iff_eq, beq_eq_false_iff_ne, Bool.and_eq_true, Bool.or_eq_true, Bool.and_eq_false_imp, Bool.or_eq_false_iff, Bool.not_eq_true', Bool.not_eq_false', Int.not_lt, Int.not_le] at h) <;> (try (exfalso; omega))))
  intro bs
  rfl
end Go.Proofs.YtbilnedgpgpanaaDoor
