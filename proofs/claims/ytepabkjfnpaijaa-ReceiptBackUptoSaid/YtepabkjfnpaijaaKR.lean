/- Part of a proof over the seat Ytepabkjfnpaijaa. -/
import Derived.Test.YtepabkjfnpaijaaKQ
import Derived.Test.YtepabkjfnpaijaaEng2
import Derived.Test.YtepabkjfnpaijaaShelf
namespace Go.Proofs.Ytepabkjfnpaijaa
open Go RowKit Go.Ew
set_option maxRecDepth 100000
set_option linter.unusedSimpArgs false
set_option linter.unusedVariables false
set_option maxHeartbeats 4000000
theorem in96 : codeIn Try.f96.ntmps (Try.f96.body.getD .skip) = true := by kernel_rfl
theorem in95 : codeIn Try.f95.ntmps (Try.f95.body.getD .skip) = true := by kernel_rfl
theorem in85 : codeIn Try.f85.ntmps (Try.f85.body.getD .skip) = true := by kernel_rfl
theorem in84 : codeIn Try.f84.ntmps (Try.f84.body.getD .skip) = true := by kernel_rfl
theorem in62 : codeIn Try.f62.ntmps (Try.f62.body.getD .skip) = true := by kernel_rfl
theorem evi {k : IntKind} {a b : Int} : (EV.int k a = EV.int k b) ↔ a = b := by simp
theorem len64_p (a : Int) (h0 : 0 ≤ a) (h1 : a < 18446744073709551616) : Pure Try.prog 103 [.int .u64 a] (.int .i64 (blen a.toNat)) :=
  ⟨en103, trivial, fun bs w => (Go.Proofs.Try.bits_Len64 a w h0 (by omega)).mono (by rintro e w' ⟨rfl, rfl⟩; exact ⟨by rw [bitLen_eq (by omega)]; rfl, Below.refl' _ _⟩)⟩
theorem bits_p (x : Nat) (hx : x < 115792089237316195423570985008687907853269984665640564039457584007913129639936) : Pure Try.prog 96 [wE x] (.int .i64 (blen x)) := by
  obtain ⟨a, b, c, d, hw, hl⟩ := wE_open x hx
  rw [hw]
  obtain ⟨a0, a1, b0, b1, c0, c1, d0, d1, v⟩ := hl
  have la := blen_64 (n := a.toNat) (by omega)
  have lb := blen_64 (n := b.toNat) (by omega)
  have lc := blen_64 (n := c.toNat) (by omega)
  have ld := blen_64 (n := d.toNat) (by omega)
  refine pure_p (args := [.agg [.int .u64 a, .int .u64 b, .int .u64 c, .int .u64 d]]) en96 (by simp [closed, closeds, closed_wE, closeds_ints]) Try.func96 rfl in96 (by simp [Try.f96]) (by simp [closeds, closed, closed_wE, closeds_ints]) (fun w => next_of 1000 ?_)
  simp (maxSteps := 4000000) (disch := omega) only [go_sem, Nat.reduceBEq, Nat.reduceAdd, Nat.reduceMul, Nat.reduceSub, Nat.reduceLT, Nat.reduceLeDiff, Int.reduceToNat, Int.reduceLT, Int.reduceLE, Int.reduceAdd, Int.reduceMul, Int.reduceSub, Int.reduceNeg, Int.reduceDiv, Int.reduceMod, Nat.reduceBNe, Nat.reduceGT, Int.reduceBEq, Int.reduceBNe, Int.reduceGT, Nat.reduceDiv, Nat.reduceMod, Nat.reducePow, Int.reducePow, gt_iff_lt, ge_iff_le, List.reduceReplicate, ↓reduceIte, Try.f96]
  repeat (with_reducible refine And.intro (by first | omega | assumption | (constructor <;> assumption) | (simp; done) | (simp; omega) | (simp [*]; done) | ((repeat' refine And.intro ?_ ?_) <;> first | omega | assumption | (refine SlOk.so (n := ?_) ?_ ?_; rotate_left; assumption; omega) | (simp; done) | fail) | fail) ?_)
  refine loopS_rounds 5 ?_
  repeat' (first | simp (maxSteps := 4000000) (disch := omega) only [go_sem, Nat.reduceBEq, Nat.reduceAdd, Nat.reduceMul, Nat.reduceSub, Nat.reduceLT, Nat.reduceLeDiff, Int.reduceToNat, Int.reduceLT, Int.reduceLE, Int.reduceAdd, Int.reduceMul, Int.reduceSub, Int.reduceNeg, Int.reduceDiv, Int.reduceMod, Nat.reduceBNe, Nat.reduceGT, Int.reduceBEq, Int.reduceBNe, Int.reduceGT, Nat.reduceDiv, Nat.reduceMod, Nat.reducePow, Int.reducePow, gt_iff_lt, ge_iff_le, List.reduceReplicate, ↓reduceIte] | with_reducible refine roundS (next_of 1000 ?_) | refine callS_p (len64_p _ (by omega) (by omega)) (next_of 1000 ?_) | with_reducible refine next_of 1000 ?_ | ((first | refine condS_split (fun h => ?_) (fun h => ?_) | refine testS_split (fun h => ?_) (fun h => ?_) | refine testD_split (fun h => ?_) (fun h => ?_)) <;> (try simp only [bne_iff_ne, ne_eq, beq_iff_eq, decide_eq_true_eq, decide_eq_false_iff_not, Bool.not_eq_true, Bool.not_eq_false, Bool.not_true, Bool.not_false, bne_eq_false_iff_eq, beq_eq_false_iff_ne, Bool.and_eq_true, Bool.or_eq_true, Bool.and_eq_false_imp, Bool.or_eq_false_iff, Bool.not_eq_true', Bool.not_eq_false', Int.not_lt, Int.not_le] at h) <;> (try (exfalso; omega))))
  · have := blen_add (d := d.toNat) (r := x - d.toNat * 2 ^ 192) (s := 192) (by omega) (by omega)
    rw [show d.toNat * 2 ^ 192 + (x - d.toNat * 2 ^ 192) = x by omega] at this
    rw [evi, this]; omega
  · have := blen_add (d := c.toNat) (r := x - c.toNat * 2 ^ 128) (s := 128) (by omega) (by omega)
    rw [show c.toNat * 2 ^ 128 + (x - c.toNat * 2 ^ 128) = x by omega] at this
    rw [evi, this]; omega
  · have := blen_add (d := b.toNat) (r := x - b.toNat * 2 ^ 64) (s := 64) (by omega) (by omega)
    rw [show b.toNat * 2 ^ 64 + (x - b.toNat * 2 ^ 64) = x by omega] at this
    rw [evi, this]; omega
  · have : a.toNat = x := by omega
    rw [evi, this]; omega
  · have : x = 0 := by omega
    rw [this]; rfl
theorem byte_of (n i : Nat) (hi : i < 32) : dig 18446744073709551616 n (i / 8) / 2 ^ (8 * (i % 8)) % 256 = dig 256 n i := by
  have e : (18446744073709551616 : Nat) = 2 ^ 64 := by decide
  have e8 : (256 : Nat) = 2 ^ 8 := by decide
  have e2 : n / 256 ^ i = n / 2 ^ (64 * (i / 8)) / 2 ^ (8 * (i % 8)) := by
    rw [e8, ← Nat.pow_mul, Nat.div_div_eq_div_mul, ← Nat.pow_add]; congr 2; omega
  rw [dig, dig, e2, e, ← Nat.pow_mul]
  generalize n / 2 ^ (64 * (i / 8)) = q
  have h3 : 2 ^ 64 = 2 ^ (8 * (i % 8)) * 2 ^ (64 - 8 * (i % 8)) := by rw [← Nat.pow_add]; congr 1; omega
  have h4 : q % 2 ^ 64 / 2 ^ (8 * (i % 8)) % 256 = q / 2 ^ (8 * (i % 8)) % 256 := by
    rw [h3, Nat.mod_mul_right_div_self, show 64 - 8 * (i % 8) = 8 + (56 - 8 * (i % 8)) by omega, Nat.pow_add, ← e8, Nat.mod_mul_right_mod]
  rw [← h4]
  simp
/-- How many bytes a word needs. -/
def nby (x : Nat) : Nat := (blen x + 7) / 8
theorem nby_le {x : Nat} (hx : x < 115792089237316195423570985008687907853269984665640564039457584007913129639936) : nby x ≤ 32 := by
  have : blen x ≤ 256 := blen_le.2 (by omega)
  unfold nby; omega
theorem byteE (x i : Nat) (hi : i < 32) : IntKind.u8.wrap (bShr .u64 (dig 18446744073709551616 x ((i : Int) / 8).toNat) (8 * ((i : Int) % 8))) = dig 256 x i := by
  have h0 := dig_nn 18446744073709551616 x ((i : Int) / 8).toNat
  have e1 : ((i : Int) / 8).toNat = i / 8 := by omega
  have e2 : (8 * ((i : Int) % 8)).toNat = 8 * (i % 8) := by omega
  rw [bShr_u64 h0 (by omega) (by omega), e2, e1, ← byte_of x i hi]
  rfl
theorem bytes_p (x : Nat) (hx : x < 115792089237316195423570985008687907853269984665640564039457584007913129639936) : Pure Try.prog 95 [wE x] (.agg (ints .u8 (fun j => dig 256 x (31 - j)) 32)) := by
  rw [wE_ints x]
  refine pure_p (args := [.agg (ints .u64 (dig 18446744073709551616 x) 4)]) en95 (by simp [closed, closeds, closed_wE, closeds_ints]) Try.func95 rfl in95 (by simp [Try.f95]) (by simp [closeds, closed, closed_wE, closeds_ints]) (fun w => next_of 1000 ?_)
  simp (maxSteps := 4000000) (disch := omega) only [go_sem, Nat.reduceBEq, Nat.reduceAdd, Nat.reduceMul, Nat.reduceSub, Nat.reduceLT, Nat.reduceLeDiff, Int.reduceToNat, Int.reduceLT, Int.reduceLE, Int.reduceAdd, Int.reduceMul, Int.reduceSub, Int.reduceNeg, Int.reduceDiv, Int.reduceMod, Nat.reduceBNe, Nat.reduceGT, Int.reduceBEq, Int.reduceBNe, Int.reduceGT, Nat.reduceDiv, Nat.reduceMod, Nat.reducePow, Int.reducePow, gt_iff_lt, ge_iff_le, List.reduceReplicate, ↓reduceIte, Try.f95]
  repeat (with_reducible refine And.intro (by first | omega | assumption | (constructor <;> assumption) | (simp; done) | (simp; omega) | (simp [*]; done) | ((repeat' refine And.intro ?_ ?_) <;> first | omega | assumption | (refine SlOk.so (n := ?_) ?_ ?_; rotate_left; assumption; omega) | (simp; done) | fail) | fail) ?_)
  skip
  refine loopU (S := Nat × (Nat → Int)) (fun s => s.1 ≤ 32 ∧ ∀ j, j < 32 → 32 - s.1 ≤ j → s.2 j = dig 256 x (31 - j))
    (fun s => ⟨[(5, .int .i64 (s.1 : Nat)), (3, .ptr 2 0), (2, .ptr 1 0), (1, .ptr 0 0)], 3,
      [(2, some (.cells (ints .u8 s.2 32) 37 (0, 0))), (1, some (.cells (ints .u8 (fun _ => 0) 32) 37 (0, 0))), (0, some (.cells (ints .u64 (dig 18446744073709551616 x) 4) 131 (0, 0)))], base w, []⟩)
    (fun s => 32 - s.1) (0, fun _ => 0) ⟨by omega, fun j h1 h2 => by simp only at h2; omega⟩ (Weak.sub (weak_of (by simp [wσ, go_sem, closed, closeds, closeds_ints]) (by simp [whs, go_sem, EObj.closed, closed, closeds, closeds_ints]) (by simp [*]) rfl rfl (by simp))) ?_
  rintro ⟨i, z⟩ ⟨hi, hz⟩
  simp only at hi hz
  refine next_of 1000 ?_
  simp (maxSteps := 4000000) (disch := omega) only [go_sem, Nat.reduceBEq, Nat.reduceAdd, Nat.reduceMul, Nat.reduceSub, Nat.reduceLT, Nat.reduceLeDiff, Int.reduceToNat, Int.reduceLT, Int.reduceLE, Int.reduceAdd, Int.reduceMul, Int.reduceSub, Int.reduceNeg, Int.reduceDiv, Int.reduceMod, Nat.reduceBNe, Nat.reduceGT, Int.reduceBEq, Int.reduceBNe, Int.reduceGT, Nat.reduceDiv, Nat.reduceMod, Nat.reducePow, Int.reducePow, gt_iff_lt, ge_iff_le, List.reduceReplicate, ↓reduceIte]
  repeat (with_reducible refine And.intro (by first | omega | assumption | (constructor <;> assumption) | (simp; done) | (simp; omega) | (simp [*]; done) | ((repeat' refine And.intro ?_ ?_) <;> first | omega | assumption | (refine SlOk.so (n := ?_) ?_ ?_; rotate_left; assumption; omega) | (simp; done) | fail) | fail) ?_)
  refine condS_split (fun h => ?_) (fun h => ?_)
  all_goals (try simp only [bne_iff_ne, ne_eq, beq_iff_eq, decide_eq_true_eq, decide_eq_false_iff_not, Bool.not_eq_true, Bool.not_eq_false, Bool.not_true, Bool.not_false, bne_eq_false_iff_eq, beq_eq_false_iff_ne, Bool.and_eq_true, Bool.or_eq_true, Bool.and_eq_false_imp, Bool.or_eq_false_iff, Bool.not_eq_true', Bool.not_eq_false', Int.not_lt, Int.not_le] at h)
  · have e1 : ((31 : Int) - (i : Int)).toNat = 31 - i := by omega
    have hb := byteE x i (by omega)
    repeat' (first | with_reducible refine And.intro (by first | omega | assumption | (constructor <;> assumption) | (simp; done) | (simp; omega) | (simp [*]; done) | ((repeat' refine And.intro ?_ ?_) <;> first | omega | assumption | (refine SlOk.so (n := ?_) ?_ ?_; rotate_left; assumption; omega) | (simp; done) | fail) | fail) ?_ | simp (maxSteps := 4000000) (disch := omega) only [go_sem, Nat.reduceBEq, Nat.reduceAdd, Nat.reduceMul, Nat.reduceSub, Nat.reduceLT, Nat.reduceLeDiff, Int.reduceToNat, Int.reduceLT, Int.reduceLE, Int.reduceAdd, Int.reduceMul, Int.reduceSub, Int.reduceNeg, Int.reduceDiv, Int.reduceMod, Nat.reduceBNe, Nat.reduceGT, Int.reduceBEq, Int.reduceBNe, Int.reduceGT, Nat.reduceDiv, Nat.reduceMod, Nat.reducePow, Int.reducePow, gt_iff_lt, ge_iff_le, List.reduceReplicate, ↓reduceIte, hb, e1])
    refine ⟨(i + 1, setF z (31 - i) (dig 256 x i)), ⟨by show i + 1 ≤ 32; omega, ?_⟩, Weak.sub (weak_of (by simp [wσ, go_sem, closed, closeds, closeds_ints]) (by simp [whs, go_sem, EObj.closed, closed, closeds, closeds_ints]) (by simp [*]) rfl rfl (by simp)), by show 32 - (i + 1) < 32 - i; omega⟩
    intro j h1 h2
    simp only [setF] at h2 ⊢
    split
    · rename_i e; rw [show 31 - j = i by omega]
    · exact hz j h1 (by omega)
  · have hi : i = 32 := by omega
    subst hi
    simp (maxSteps := 4000000) (disch := omega) only [go_sem, Nat.reduceBEq, Nat.reduceAdd, Nat.reduceMul, Nat.reduceSub, Nat.reduceLT, Nat.reduceLeDiff, Int.reduceToNat, Int.reduceLT, Int.reduceLE, Int.reduceAdd, Int.reduceMul, Int.reduceSub, Int.reduceNeg, Int.reduceDiv, Int.reduceMod, Nat.reduceBNe, Nat.reduceGT, Int.reduceBEq, Int.reduceBNe, Int.reduceGT, Nat.reduceDiv, Nat.reduceMod, Nat.reducePow, Int.reducePow, gt_iff_lt, ge_iff_le, List.reduceReplicate, ↓reduceIte]
    repeat (with_reducible refine And.intro (by first | omega | assumption | (constructor <;> assumption) | (simp; done) | (simp; omega) | (simp [*]; done) | ((repeat' refine And.intro ?_ ?_) <;> first | omega | assumption | (refine SlOk.so (n := ?_) ?_ ?_; rotate_left; assumption; omega) | (simp; done) | fail) | fail) ?_)
    repeat' (first | simp (maxSteps := 4000000) (disch := omega) only [go_sem, Nat.reduceBEq, Nat.reduceAdd, Nat.reduceMul, Nat.reduceSub, Nat.reduceLT, Nat.reduceLeDiff, Int.reduceToNat, Int.reduceLT, Int.reduceLE, Int.reduceAdd, Int.reduceMul, Int.reduceSub, Int.reduceNeg, Int.reduceDiv, Int.reduceMod, Nat.reduceBNe, Nat.reduceGT, Int.reduceBEq, Int.reduceBNe, Int.reduceGT, Nat.reduceDiv, Nat.reduceMod, Nat.reducePow, Int.reducePow, gt_iff_lt, ge_iff_le, List.reduceReplicate, ↓reduceIte] | with_reducible refine next_of 1000 ?_)
    rw [ints_congr (fun j hj => hz j hj (by omega))]
theorem of_p (n : Nat) (h : n < 18446744073709551616) : Pure Try.prog 85 [.int .u64 (n : Int)] (wE n) := by
  refine pure_p (args := [.int .u64 (n : Int)]) en85 (by simp [closed, closeds, closed_wE, closeds_ints]) Try.func85 rfl in85 (by simp [Try.f85]) (by simp [closeds, closed, closed_wE, closeds_ints]) (fun w => next_of 1000 ?_)
  simp (maxSteps := 4000000) (disch := omega) only [go_sem, Nat.reduceBEq, Nat.reduceAdd, Nat.reduceMul, Nat.reduceSub, Nat.reduceLT, Nat.reduceLeDiff, Int.reduceToNat, Int.reduceLT, Int.reduceLE, Int.reduceAdd, Int.reduceMul, Int.reduceSub, Int.reduceNeg, Int.reduceDiv, Int.reduceMod, Nat.reduceBNe, Nat.reduceGT, Int.reduceBEq, Int.reduceBNe, Int.reduceGT, Nat.reduceDiv, Nat.reduceMod, Nat.reducePow, Int.reducePow, gt_iff_lt, ge_iff_le, List.reduceReplicate, ↓reduceIte, Try.f85]
  repeat (with_reducible refine And.intro (by first | omega | assumption | (constructor <;> assumption) | (simp; done) | (simp; omega) | (simp [*]; done) | ((repeat' refine And.intro ?_ ?_) <;> first | omega | assumption | (refine SlOk.so (n := ?_) ?_ ?_; rotate_left; assumption; omega) | (simp; done) | fail) | fail) ?_)
  skip
  exact wE_of (by constructor <;> omega)
theorem ints_drop (k : IntKind) (z : Nat → Int) (n a L : Nat) (h : a + L ≤ n) : ((ints k z n).drop a).take L = ints k (fun j => z (a + j)) L := by
  apply List.ext_getElem
  · simp [ints]; omega
  · intro i h1 h2
    simp [ints]
/-- A number's bytes, the highest first. -/
def leB (x : Nat) : List UInt8 := (List.range (nby x)).map fun i => UInt8.ofNat (x / 256 ^ (nby x - 1 - i) % 256)
theorem leB_len (x : Nat) : (leB x).length = nby x := by simp [leB]
theorem leB_bE (x : Nat) : (leB x).map bE = ints .u8 (fun i => dig 256 x (nby x - 1 - i)) (nby x) := by
  simp only [leB, ints, List.map_map]
  apply List.map_congr_left
  intro i _
  simp only [Function.comp_def, bE, dig]
  have : x / 256 ^ (nby x - 1 - i) % 256 < 256 := Nat.mod_lt _ (by omega)
  rw [UInt8.toNat_ofNat_of_lt' (by simpa using this)]
theorem least_fn (x : Nat) (hx : x < 115792089237316195423570985008687907853269984665640564039457584007913129639936) (B : Base) :
    Does Try.prog 84 [wE x] B (fun s : Option Addr × Nat => .raw (.slice s.1 (nby x) s.2)) (fun s B' => BytesAt B' s.1 (leB x) ∧ nby x ≤ s.2) := by
  refine fn_of en84 (fun s B B' hB hR => ⟨hR.1.ext hB, hR.2⟩) Try.func84 rfl in84 (by simp [Try.f84]) (by simp [closeds, closed_wE]) (fun B0 hB0 => next_of 1000 ?_)
  have hL := nby_le hx
  have c1 := bytes_p x hx
  have c2 := bits_p x hx
  have eL : ((blen x : Int) + 7) / 8 = (nby x : Int) := by unfold nby; omega
  have eF : (32 - (nby x : Int)).toNat = 32 - nby x := by omega
  have e3 : 32 - (32 - nby x) = nby x := by omega
  obtain ⟨o, ho, ho2, ho3⟩ : ∃ o, (if 32 = 32 - nby x then 0 else 32 - nby x) = o ∧ o + nby x ≤ 32 ∧ (nby x ≠ 0 → o = 32 - nby x) := by
    by_cases h0 : nby x = 0
    · exact ⟨0, by rw [if_pos (by omega)], by omega, fun h => absurd h0 h⟩
    · exact ⟨32 - nby x, by rw [if_neg (by omega)], by omega, fun _ => rfl⟩
  have he : ((ints .u8 (fun j => dig 256 x (31 - j)) 32).drop o).take (nby x * 1) = ((leB x).map bV).map ofScalar := by
    rw [ofS_bV, leB_bE, Nat.mul_one, ints_drop _ _ _ _ _ ho2]
    exact ints_congr fun i hi => by rw [ho3 (by omega)]; congr 1; omega
  repeat' (first | with_reducible refine And.intro (by first | omega | assumption | (constructor <;> assumption) | (simp; done) | (simp; omega) | (simp [*]; done) | ((repeat' refine And.intro ?_ ?_) <;> first | omega | assumption | (refine SlOk.so (n := ?_) ?_ ?_; rotate_left; assumption; omega) | (simp; done) | fail) | fail) ?_ | simp (maxSteps := 4000000) (disch := omega) only [go_sem, Nat.reduceBEq, Nat.reduceAdd, Nat.reduceMul, Nat.reduceSub, Nat.reduceLT, Nat.reduceLeDiff, Int.reduceToNat, Int.reduceLT, Int.reduceLE, Int.reduceAdd, Int.reduceMul, Int.reduceSub, Int.reduceNeg, Int.reduceDiv, Int.reduceMod, Nat.reduceBNe, Nat.reduceGT, Int.reduceBEq, Int.reduceBNe, Int.reduceGT, Nat.reduceDiv, Nat.reduceMod, Nat.reducePow, Int.reducePow, gt_iff_lt, ge_iff_le, List.reduceReplicate, ↓reduceIte, Try.f84, eL, eF, e3, ho] | refine callS_p (c1) (next_of 1000 ?_) | refine callS_p (c2) (next_of 1000 ?_))
  refine appF (T := 5) (m := nby x) (cs := (leB x).map bV) 1 rfl Try.underlying23 (.inl ⟨_, Try.underlying23⟩) zr5 cz5 rfl (by omega) hz8 rfl ⟨_, src_own rfl he, by rw [ints_len]; omega⟩ (by simp [leB_len]) (by rw [ofS_bV]; exact bE_one _) (by simp only [maxLen]; omega) (by rw [show Try.prog.bytesOf 5 = 1 from by5]; omega) (fun ad cap B2 hB2 hc hcap => next_of 1000 ?_)
  repeat' (first | with_reducible refine And.intro (by first | omega | assumption | (constructor <;> assumption) | (simp; done) | (simp; omega) | (simp [*]; done) | ((repeat' refine And.intro ?_ ?_) <;> first | omega | assumption | (refine SlOk.so (n := ?_) ?_ ?_; rotate_left; assumption; omega) | (simp; done) | fail) | fail) ?_ | simp (maxSteps := 4000000) (disch := omega) only [go_sem, Nat.reduceBEq, Nat.reduceAdd, Nat.reduceMul, Nat.reduceSub, Nat.reduceLT, Nat.reduceLeDiff, Int.reduceToNat, Int.reduceLT, Int.reduceLE, Int.reduceAdd, Int.reduceMul, Int.reduceSub, Int.reduceNeg, Int.reduceDiv, Int.reduceMod, Nat.reduceBNe, Nat.reduceGT, Int.reduceBEq, Int.reduceBNe, Int.reduceGT, Nat.reduceDiv, Nat.reduceMod, Nat.reducePow, Int.reducePow, gt_iff_lt, ge_iff_le, List.reduceReplicate, ↓reduceIte])
  exact ⟨⟨ad, cap⟩, rfl, by simp [closed], hc, hcap⟩
theorem number_fn (n : Nat) (h : n < 18446744073709551616) (B : Base) :
    Does Try.prog 62 [.int .u64 (n : Int)] B (fun s : Option Addr × Nat => .raw (.slice s.1 (nby n) s.2)) (fun s B' => BytesAt B' s.1 (leB n) ∧ nby n ≤ s.2) := by
  refine fn_of en62 (fun s B B' hB hR => ⟨hR.1.ext hB, hR.2⟩) Try.func62 rfl in62 (by simp [Try.f62]) (by simp [closeds, closed]) (fun B0 hB0 => next_of 1000 ?_)
  repeat' (first | simp (maxSteps := 4000000) (disch := omega) only [go_sem, Nat.reduceBEq, Nat.reduceAdd, Nat.reduceMul, Nat.reduceSub, Nat.reduceLT, Nat.reduceLeDiff, Int.reduceToNat, Int.reduceLT, Int.reduceLE, Int.reduceAdd, Int.reduceMul, Int.reduceSub, Int.reduceNeg, Int.reduceDiv, Int.reduceMod, Nat.reduceBNe, Nat.reduceGT, Int.reduceBEq, Int.reduceBNe, Int.reduceGT, Nat.reduceDiv, Nat.reduceMod, Nat.reducePow, Int.reducePow, gt_iff_lt, ge_iff_le, List.reduceReplicate, ↓reduceIte, Try.f62] | refine callS_p (of_p n h) (next_of 1000 ?_))
  refine callS_f (least_fn n (by omega) _) (fun _ => by simp [closed]) (fun s B2 hB2 hR => next_of 1000 ?_)
  repeat' (first | with_reducible refine And.intro (by first | omega | assumption | (constructor <;> assumption) | (simp; done) | (simp; omega) | (simp [*]; done) | ((repeat' refine And.intro ?_ ?_) <;> first | omega | assumption | (refine SlOk.so (n := ?_) ?_ ?_; rotate_left; assumption; omega) | (simp; done) | fail) | fail) ?_ | simp (maxSteps := 4000000) (disch := omega) only [go_sem, Nat.reduceBEq, Nat.reduceAdd, Nat.reduceMul, Nat.reduceSub, Nat.reduceLT, Nat.reduceLeDiff, Int.reduceToNat, Int.reduceLT, Int.reduceLE, Int.reduceAdd, Int.reduceMul, Int.reduceSub, Int.reduceNeg, Int.reduceDiv, Int.reduceMod, Nat.reduceBNe, Nat.reduceGT, Int.reduceBEq, Int.reduceBNe, Int.reduceGT, Nat.reduceDiv, Nat.reduceMod, Nat.reducePow, Int.reducePow, gt_iff_lt, ge_iff_le, List.reduceReplicate, ↓reduceIte])
  exact ⟨s, rfl, by simp [closed], hR⟩
end Go.Proofs.Ytepabkjfnpaijaa

