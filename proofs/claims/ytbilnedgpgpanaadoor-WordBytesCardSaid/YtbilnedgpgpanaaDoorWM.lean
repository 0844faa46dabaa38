/- Part of a proof over the seat YtbilnedgpgpanaaDoor. -/
import Derived.Test.YtbilnedgpgpanaaDoorWL
namespace Go.Proofs.YtbilnedgpgpanaaDoor
open Go Go.Ew
set_option maxRecDepth 100000
set_option linter.unusedSimpArgs false
set_option linter.unusedVariables false
set_option maxHeartbeats 1000000
theorem in89 : codeIn Tryd.f89.ntmps (Tryd.f89.body.getD .skip) = true := by kernel_rfl
theorem in88 : codeIn Tryd.f88.ntmps (Tryd.f88.body.getD .skip) = true := by kernel_rfl
theorem in41 : codeIn Tryd.f41.ntmps (Tryd.f41.body.getD .skip) = true := by kernel_rfl
theorem in43 : codeIn Tryd.f43.ntmps (Tryd.f43.body.getD .skip) = true := by kernel_rfl
def wV (n : Nat) : Value := real (fun _ => 0) (wE n)
theorem wV_real (bs : Nat → Nat) (n : Nat) : real bs (wE n) = wV n := real_congr (n := 0) (fun i hi => absurd hi (by omega)) _ (closed_wE 0 n)
theorem wC_ints (n : Nat) : wC n = ints .u64 (dig 18446744073709551616 n) 4 := by
  have := wE_ints n
  rw [wE] at this
  exact EV.agg.inj this
theorem pad4 {z : Nat → Int} {k N : Nat} (hk : k ≤ 4) (hz : ∀ j, 0 ≤ z j ∧ z j < 18446744073709551616) (hN : num 18446744073709551616 z k = (N : Int)) :
    ints .u64 z k ++ List.drop k [EV.int .u64 0, EV.int .u64 0, EV.int .u64 0, EV.int .u64 0] = wC N := by
  rw [wC_ints, ints_num (b := 18446744073709551616) (by decide) (fun i _ => hz i) hN]
  have hlt : N < 18446744073709551616 ^ k := by
    have := (num_bd (b := 18446744073709551616) (k := k) (fun i _ => hz i)).2
    rw [hN] at this; exact Int.ofNat_lt.1 this
  have hb : ∀ i, k ≤ i → dig 18446744073709551616 N i = 0 := fun i hi => dig_big (Nat.lt_of_lt_of_le hlt (Nat.pow_le_pow_right (by omega) hi))
  have : k = 0 ∨ k = 1 ∨ k = 2 ∨ k = 3 ∨ k = 4 := by omega
  rcases this with rfl | rfl | rfl | rfl | rfl
  · have h0 := hb 0 (by omega); have h1 := hb 1 (by omega); have h2 := hb 2 (by omega); have h3 := hb 3 (by omega)
    simp [ints, List.range, List.range.loop, h0, h1, h2, h3]
  · have h1 := hb 1 (by omega); have h2 := hb 2 (by omega); have h3 := hb 3 (by omega)
    simp [ints, List.range, List.range.loop, h1, h2, h3]
  · have h2 := hb 2 (by omega); have h3 := hb 3 (by omega)
    simp [ints, List.range, List.range.loop, h2, h3]
  · have h3 := hb 3 (by omega)
    simp [ints, List.range, List.range.loop, h3]
  · simp [ints, List.range, List.range.loop]
theorem raw_row {w : World} {b L k : Nat} {z : Nat → Int} {T : TypeId} (h : w.heap[b]? = some (.cells (intsV .u64 z L).toArray T (0, 0))) (hk : k ≤ L) : (List.range k).map (fun j => rawCell (base w) ((⟨b, 0, none⟩ : Addr).add j)) = ints .u64 z k := by
  apply List.map_congr_left
  intro j hj
  have := List.mem_range.1 hj
  rw [add_spot, Nat.zero_add, raw_ints h j (by omega)]
theorem word_nil (w : World) : Calls Tryd.prog 89 #[.slice none 0 0] w (Ret (wV 0) w) := by
  refine pure_calls [.raw (.slice none 0 0)] Tryd.func89 rfl in89 (by simp [Tryd.f89]) (by simp [closeds, closed]) (next_of 1000 ?_)
  simp (maxSteps := 4000000) (disch := omega) only [go_sem, Nat.reduceBEq, Nat.reduceAdd, Nat.reduceMul, Nat.reduceSub, Nat.reduceLT, Nat.reduceLeDiff, Int.reduceToNat, Int.reduceLT, Int.reduceLE, Int.reduceAdd, Int.reduceMul, Int.reduceSub, Int.reduceNeg, Int.reduceDiv, Int.reduceMod, Nat.reduceBNe, Nat.reduceGT, Int.reduceBEq, Int.reduceBNe, Int.reduceGT, Nat.reduceDiv, Nat.reduceMod, Nat.reducePow, Int.reducePow, gt_iff_lt, ge_iff_le, List.reduceReplicate, ↓reduceIte, Tryd.f89]
  repeat (with_reducible refine And.intro (by first | omega | assumption | (constructor <;> assumption) | (simp; done) | (simp; omega) | (simp [*]; done)) ?_)
  refine copyS (sz := 1) (off := 0) rfl Tryd.underlying77 cz22 ⟨_, Tryd.underlying22⟩ rfl rfl rfl rfl rfl rfl (by simp) (.inl (by simp)) (next_of 1000 ?_)
  have e : (List.take 0 [EV.int .u64 0, EV.int .u64 0, EV.int .u64 0, EV.int .u64 0] ++ List.take (min 0 4 * 1) ([] : List EV) ++ List.drop (0 + min 0 4 * 1) [EV.int .u64 0, EV.int .u64 0, EV.int .u64 0, EV.int .u64 0]) = wC 0 := rfl
  rw [e]
  repeat' (first
    | with_reducible refine And.intro (by first | omega | assumption | (constructor <;> assumption) | (simp; done) | (simp; omega) | (simp [*]; done)) ?_
    | simp (maxSteps := 4000000) (disch := omega) only [go_sem, Nat.reduceBEq, Nat.reduceAdd, Nat.reduceMul, Nat.reduceSub, Nat.reduceLT, Nat.reduceLeDiff, Int.reduceToNat, Int.reduceLT, Int.reduceLE, Int.reduceAdd, Int.reduceMul, Int.reduceSub, Int.reduceNeg, Int.reduceDiv, Int.reduceMod, Nat.reduceBNe, Nat.reduceGT, Int.reduceBEq, Int.reduceBNe, Int.reduceGT, Nat.reduceDiv, Nat.reduceMod, Nat.reducePow, Int.reducePow, gt_iff_lt, ge_iff_le, List.reduceReplicate, ↓reduceIte]
    | with_reducible refine roundS (next_of 1000 ?_)
    | with_reducible refine drawS_of mixed (by kernel_rfl) (dg_of 1000 ?_)
    | with_reducible refine endD_of (by kernel_rfl) (next_of 1000 ?_)
    | with_reducible refine next_of 1000 ?_
    | ((first | refine condS_split (fun h => ?_) (fun h => ?_) | refine testS_split (fun h => ?_) (fun h => ?_) | refine testD_split (fun h => ?_) (fun h => ?_)) <;> (try simp only [bne_iff_ne, ne_eq, beq_iff_eq, decide_eq_true_eq, decide_eq_false_iff_not, Bool.not_eq_true, Bool.not_eq_false, Bool.not_true, Bool.not_false, bne_eq_false_iff_eq, beq_eq_false_iff_ne, Bool.and_eq_true, Bool.or_eq_true, Bool.and_eq_false_imp, Bool.or_eq_false_iff, Bool.not_eq_true', Bool.not_eq_false', Int.not_lt, Int.not_le] at h) <;> (try (exfalso; omega))))
  intro bs; exact wV_real bs 0
theorem word_calls {w : World} {b Lb k cap : Nat} {z : Nat → Int} {T : TypeId} (h : w.heap[b]? = some (.cells (intsV .u64 z Lb).toArray T (0, 0))) (hz : ∀ j, 0 ≤ z j ∧ z j < 18446744073709551616) (hk : k ≤ 4) (hL : k ≤ Lb) {N : Nat} (hN : num 18446744073709551616 z k = (N : Int)) :
    Calls Tryd.prog 89 #[.slice (some ⟨b, 0, none⟩) k cap] w (Ret (wV N) w) := by
  have hb := heap_lt h
  have rs := raw_some h
  refine pure_calls [.raw (.slice (some ⟨b, 0, none⟩) k cap)] Tryd.func89 rfl in89 (by simp [Tryd.f89]) (by simp [closeds, closed]) (next_of 1000 ?_)
  simp (maxSteps := 4000000) (disch := omega) only [go_sem, Nat.reduceBEq, Nat.reduceAdd, Nat.reduceMul, Nat.reduceSub, Nat.reduceLT, Nat.reduceLeDiff, Int.reduceToNat, Int.reduceLT, Int.reduceLE, Int.reduceAdd, Int.reduceMul, Int.reduceSub, Int.reduceNeg, Int.reduceDiv, Int.reduceMod, Nat.reduceBNe, Nat.reduceGT, Int.reduceBEq, Int.reduceBNe, Int.reduceGT, Nat.reduceDiv, Nat.reduceMod, Nat.reducePow, Int.reducePow, gt_iff_lt, ge_iff_le, List.reduceReplicate, ↓reduceIte, Tryd.f89]
  repeat (with_reducible refine And.intro (by first | omega | assumption | (constructor <;> assumption) | (simp; done) | (simp; omega) | (simp [*]; done)) ?_)
  refine copyS (sz := 1) (off := 0) (m := k) rfl Tryd.underlying77 cz22 ⟨_, Tryd.underlying22⟩ rfl rfl rfl rfl ⟨hb, fun j hj => by rw [add_spot, Nat.zero_add]; exact rs j (by omega)⟩ (by rw [Nat.mul_one, raw_row h hL]; exact oneAll_ints _ _ _) (by simp) (.inl (by simp)) (next_of 1000 ?_)
  have e : (List.take 0 [EV.int .u64 0, EV.int .u64 0, EV.int .u64 0, EV.int .u64 0] ++ List.take (min k 4 * 1) ((List.range (k * 1)).map fun j => rawCell (base w) ((⟨b, 0, none⟩ : Addr).add j)) ++ List.drop (0 + min k 4 * 1) [EV.int .u64 0, EV.int .u64 0, EV.int .u64 0, EV.int .u64 0]) = wC N := by
    rw [show min k 4 = k by omega, Nat.mul_one, raw_row h hL, ints_take, List.take_zero, List.nil_append, Nat.zero_add]
    exact pad4 hk hz hN
  rw [e]
  repeat' (first
    | with_reducible refine And.intro (by first | omega | assumption | (constructor <;> assumption) | (simp; done) | (simp; omega) | (simp [*]; done)) ?_
    | simp (maxSteps := 4000000) (disch := omega) only [go_sem, Nat.reduceBEq, Nat.reduceAdd, Nat.reduceMul, Nat.reduceSub, Nat.reduceLT, Nat.reduceLeDiff, Int.reduceToNat, Int.reduceLT, Int.reduceLE, Int.reduceAdd, Int.reduceMul, Int.reduceSub, Int.reduceNeg, Int.reduceDiv, Int.reduceMod, Nat.reduceBNe, Nat.reduceGT, Int.reduceBEq, Int.reduceBNe, Int.reduceGT, Nat.reduceDiv, Nat.reduceMod, Nat.reducePow, Int.reducePow, gt_iff_lt, ge_iff_le, List.reduceReplicate, ↓reduceIte]
    | with_reducible refine roundS (next_of 1000 ?_)
    | with_reducible refine drawS_of mixed (by kernel_rfl) (dg_of 1000 ?_)
    | with_reducible refine endD_of (by kernel_rfl) (next_of 1000 ?_)
    | with_reducible refine next_of 1000 ?_
    | ((first | refine condS_split (fun h => ?_) (fun h => ?_) | refine testS_split (fun h => ?_) (fun h => ?_) | refine testD_split (fun h => ?_) (fun h => ?_)) <;> (try simp only [bne_iff_ne, ne_eq, beq_iff_eq, decide_eq_true_eq, decide_eq_false_iff_not, Bool.not_eq_true, Bool.not_eq_false, Bool.not_true, Bool.not_false, bne_eq_false_iff_eq, beq_eq_false_iff_ne, Bool.and_eq_true, Bool.or_eq_true, Bool.and_eq_false_imp, Bool.or_eq_false_iff, Bool.not_eq_true', Bool.not_eq_false', Int.not_lt, Int.not_le] at h) <;> (try (exfalso; omega))))
  intro bs; exact wV_real bs N
theorem ups_wC (k n : Nat) : ups k (wC n) = wC n := by rw [wC_ints, ups_ints]
theorem rens_wC (ρ : Nat → Nat) (n : Nat) : rens ρ (wC n) = wC n := by rw [wC_ints, rens_ints]
attribute [go_sem] ups_wC rens_wC
/-- The dividend's slice. -/
structure XIn (w : World) (bx : Nat) (z : Nat → Int) (Lx L N : Nat) (T : TypeId) (cx : Nat) : Prop where
  u : w.heap[bx]? = some (.cells (intsV .u64 z Lx).toArray T (0, 0))
  hz : ∀ j, 0 ≤ z j ∧ z j < 18446744073709551616
  hL : L ≤ Lx
  su : L < 1000000
  hN : num 18446744073709551616 z L = (N : Int)
  hc : L ≤ cx
theorem nz0 : [EV.int .u64 0, EV.int .u64 0, EV.int .u64 0, EV.int .u64 0] = wC 0 := rfl
theorem both_zero {w : World} {bx : Nat} {z : Nat → Int} {Lx L N cx : Nat} {T : TypeId} (h : XIn w bx z Lx L N T cx) :
    Calls Tryd.prog 88 #[.slice (some ⟨bx, 0, none⟩) L cx, wV 0] w (Ret (.tuple #[.slice none 0 0, wV 0]) w) := by
  refine pure_calls [.raw (.slice (some ⟨bx, 0, none⟩) L cx), wE 0] Tryd.func88 rfl in88 (by simp [Tryd.f88]) (by simp [closeds, closed, closed_wE]) (next_of 1000 ?_)
  simp (maxSteps := 4000000) (disch := omega) only [go_sem, Nat.reduceBEq, Nat.reduceAdd, Nat.reduceMul, Nat.reduceSub, Nat.reduceLT, Nat.reduceLeDiff, Int.reduceToNat, Int.reduceLT, Int.reduceLE, Int.reduceAdd, Int.reduceMul, Int.reduceSub, Int.reduceNeg, Int.reduceDiv, Int.reduceMod, Nat.reduceBNe, Nat.reduceGT, Int.reduceBEq, Int.reduceBNe, Int.reduceGT, Nat.reduceDiv, Nat.reduceMod, Nat.reducePow, Int.reducePow, gt_iff_lt, ge_iff_le, List.reduceReplicate, ↓reduceIte, Tryd.f88, nz0]
  repeat (with_reducible refine And.intro (by first | omega | assumption | (constructor <;> assumption) | (simp; done) | (simp; omega) | (simp [*]; done)) ?_)
  repeat' (first
    | with_reducible refine And.intro (by first | omega | assumption | (constructor <;> assumption) | (simp; done) | (simp; omega) | (simp [*]; done)) ?_
    | simp (maxSteps := 4000000) (disch := omega) only [go_sem, Nat.reduceBEq, Nat.reduceAdd, Nat.reduceMul, Nat.reduceSub, Nat.reduceLT, Nat.reduceLeDiff, Int.reduceToNat, Int.reduceLT, Int.reduceLE, Int.reduceAdd, Int.reduceMul, Int.reduceSub, Int.reduceNeg, Int.reduceDiv, Int.reduceMod, Nat.reduceBNe, Nat.reduceGT, Int.reduceBEq, Int.reduceBNe, Int.reduceGT, Nat.reduceDiv, Nat.reduceMod, Nat.reducePow, Int.reducePow, gt_iff_lt, ge_iff_le, List.reduceReplicate, ↓reduceIte, nz0]
    | with_reducible refine roundS (next_of 1000 ?_)
    | with_reducible refine drawS_of mixed (by kernel_rfl) (dg_of 1000 ?_)
    | with_reducible refine endD_of (by kernel_rfl) (next_of 1000 ?_)
    | with_reducible refine next_of 1000 ?_
    | ((first | refine condS_split (fun h => ?_) (fun h => ?_) | refine testS_split (fun h => ?_) (fun h => ?_) | refine testD_split (fun h => ?_) (fun h => ?_)) <;> (try simp only [bne_iff_ne, ne_eq, beq_iff_eq, decide_eq_true_eq, decide_eq_false_iff_not, Bool.not_eq_true, Bool.not_eq_false, Bool.not_true, Bool.not_false, bne_eq_false_iff_eq, beq_eq_false_iff_ne, Bool.and_eq_true, Bool.or_eq_true, Bool.and_eq_false_imp, Bool.or_eq_false_iff, Bool.not_eq_true', Bool.not_eq_false', Int.not_lt, Int.not_le] at h) <;> (try (exfalso; omega))))
  intro bs; simp only [real, reals]; rfl
theorem uv_of {C : Cx} {w0 w : World} {n : Nat} {hs : List (Nat × Option EObj)} {bs : Nat → Nat} (hh : HRel C (base w0) n hs bs w) {bx : Nat} {z : Nat → Int} {Lx L N cx : Nat} {T : TypeId} (h : XIn w0 bx z Lx L N T cx) {y : Nat} (hy : y < 115792089237316195423570985008687907853269984665640564039457584007913129639936) {Ty : TypeId}
    (h0 : hget hs 0 = some (.cells (wC y) Ty (0, 0))) : UV w bx (bs 0) z (dig 18446744073709551616 y) Lx 4 L 4 N y T Ty := by
  refine ⟨keep hh h.u, ?_, h.hz, dbd y, h.hL, Nat.le_refl _, h.su, by omega, h.hN, ?_⟩
  · have := (hh.live 0 _ h0).2
    rw [wC_ints] at this
    simpa only [EObj.real, reals_ints] using this
  · rw [num_dig, Nat.mod_eq_of_lt (by omega)]
theorem limbs4 {y : Nat} (hy : y < 115792089237316195423570985008687907853269984665640564039457584007913129639936) : limbs y ≤ 4 := limbs_le.2 (by omega)
theorem both_less {w : World} {bx : Nat} {z : Nat → Int} {Lx L N cx : Nat} {T : TypeId} (h : XIn w bx z Lx L N T cx) {y : Nat} (hy : y < 115792089237316195423570985008687907853269984665640564039457584007913129639936) (h0 : y ≠ 0) (h1 : limbs y ≠ 1) (h2 : limbs N < limbs y) :
    Calls Tryd.prog 88 #[.slice (some ⟨bx, 0, none⟩) L cx, wV y] w (Ret (.tuple #[.slice none 0 0, wV N]) w) := by
  have hy4 := limbs4 hy
  obtain ⟨l1, l2, l3⟩ := num_limbs h.hz h.hN
  have hL := h.hL
  refine pure_calls [.raw (.slice (some ⟨bx, 0, none⟩) L cx), wE y] Tryd.func88 rfl in88 (by simp [Tryd.f88]) (by simp [closeds, closed, closed_wE]) (next_of 1000 ?_)
  simp (maxSteps := 4000000) (disch := omega) only [go_sem, Nat.reduceBEq, Nat.reduceAdd, Nat.reduceMul, Nat.reduceSub, Nat.reduceLT, Nat.reduceLeDiff, Int.reduceToNat, Int.reduceLT, Int.reduceLE, Int.reduceAdd, Int.reduceMul, Int.reduceSub, Int.reduceNeg, Int.reduceDiv, Int.reduceMod, Nat.reduceBNe, Nat.reduceGT, Int.reduceBEq, Int.reduceBNe, Int.reduceGT, Nat.reduceDiv, Nat.reduceMod, Nat.reducePow, Int.reducePow, gt_iff_lt, ge_iff_le, List.reduceReplicate, ↓reduceIte, Tryd.f88, nz0]
  repeat (with_reducible refine And.intro (by first | omega | assumption | (constructor <;> assumption) | (simp; done) | (simp; omega) | (simp [*]; done)) ?_)
  repeat' (first
    | with_reducible refine And.intro (by first | omega | assumption | (constructor <;> assumption) | (simp; done) | (simp; omega) | (simp [*]; done)) ?_
    | simp (maxSteps := 4000000) (disch := omega) only [go_sem, Nat.reduceBEq, Nat.reduceAdd, Nat.reduceMul, Nat.reduceSub, Nat.reduceLT, Nat.reduceLeDiff, Int.reduceToNat, Int.reduceLT, Int.reduceLE, Int.reduceAdd, Int.reduceMul, Int.reduceSub, Int.reduceNeg, Int.reduceDiv, Int.reduceMod, Nat.reduceBNe, Nat.reduceGT, Int.reduceBEq, Int.reduceBNe, Int.reduceGT, Nat.reduceDiv, Nat.reduceMod, Nat.reducePow, Int.reducePow, gt_iff_lt, ge_iff_le, List.reduceReplicate, ↓reduceIte, nz0, h0, decide_false]
    | with_reducible refine roundS (next_of 1000 ?_)
    | with_reducible refine drawS_of mixed (by kernel_rfl) (dg_of 1000 ?_)
    | with_reducible refine endD_of (by kernel_rfl) (next_of 1000 ?_)
    | with_reducible refine next_of 1000 ?_
    | ((first | refine condS_split (fun h => ?_) (fun h => ?_) | refine testS_split (fun h => ?_) (fun h => ?_) | refine testD_split (fun h => ?_) (fun h => ?_)) <;> (try simp only [bne_iff_ne, ne_eq, beq_iff_eq, decide_eq_true_eq, decide_eq_false_iff_not, Bool.not_eq_true, Bool.not_eq_false, Bool.not_true, Bool.not_false, bne_eq_false_iff_eq, beq_eq_false_iff_ne, Bool.and_eq_true, Bool.or_eq_true, Bool.and_eq_false_imp, Bool.or_eq_false_iff, Bool.not_eq_true', Bool.not_eq_false', Int.not_lt, Int.not_le] at h) <;> (try (exfalso; omega))))
  refine callS_pure (.tup [.raw (.slice none 0 0), .raw (.slice (some ⟨bx, 0, none⟩) (limbs N) cx)]) en116 (by simp [closed, closeds]) (fun bs w' hh => divide_less (uv_of hh h hy rfl) h.hc (by omega) h1 h2) (next_of 1000 ?_)
  repeat' (first
    | with_reducible refine And.intro (by first | omega | assumption | (constructor <;> assumption) | (simp; done) | (simp; omega) | (simp [*]; done)) ?_
    | simp (maxSteps := 4000000) (disch := omega) only [go_sem, Nat.reduceBEq, Nat.reduceAdd, Nat.reduceMul, Nat.reduceSub, Nat.reduceLT, Nat.reduceLeDiff, Int.reduceToNat, Int.reduceLT, Int.reduceLE, Int.reduceAdd, Int.reduceMul, Int.reduceSub, Int.reduceNeg, Int.reduceDiv, Int.reduceMod, Nat.reduceBNe, Nat.reduceGT, Int.reduceBEq, Int.reduceBNe, Int.reduceGT, Nat.reduceDiv, Nat.reduceMod, Nat.reducePow, Int.reducePow, gt_iff_lt, ge_iff_le, List.reduceReplicate, ↓reduceIte]
    | with_reducible refine roundS (next_of 1000 ?_)
    | with_reducible refine drawS_of mixed (by kernel_rfl) (dg_of 1000 ?_)
    | with_reducible refine endD_of (by kernel_rfl) (next_of 1000 ?_)
    | with_reducible refine next_of 1000 ?_
    | ((first | refine condS_split (fun h => ?_) (fun h => ?_) | refine testS_split (fun h => ?_) (fun h => ?_) | refine testD_split (fun h => ?_) (fun h => ?_)) <;> (try simp only [bne_iff_ne, ne_eq, beq_iff_eq, decide_eq_true_eq, decide_eq_false_iff_not, Bool.not_eq_true, Bool.not_eq_false, Bool.not_true, Bool.not_false, bne_eq_false_iff_eq, beq_eq_false_iff_ne, Bool.and_eq_true, Bool.or_eq_true, Bool.and_eq_false_imp, Bool.or_eq_false_iff, Bool.not_eq_true', Bool.not_eq_false', Int.not_lt, Int.not_le] at h) <;> (try (exfalso; omega))))
  refine callS_pure (wE N) en89 (closed_wE _ _) (fun bs w' hh => by rw [wV_real]; exact word_calls (keep hh h.u) h.hz (by omega) (Nat.le_trans l1 hL) l2) (next_of 1000 ?_)
  repeat' (first
    | with_reducible refine And.intro (by first | omega | assumption | (constructor <;> assumption) | (simp; done) | (simp; omega) | (simp [*]; done)) ?_
    | simp (maxSteps := 4000000) (disch := omega) only [go_sem, Nat.reduceBEq, Nat.reduceAdd, Nat.reduceMul, Nat.reduceSub, Nat.reduceLT, Nat.reduceLeDiff, Int.reduceToNat, Int.reduceLT, Int.reduceLE, Int.reduceAdd, Int.reduceMul, Int.reduceSub, Int.reduceNeg, Int.reduceDiv, Int.reduceMod, Nat.reduceBNe, Nat.reduceGT, Int.reduceBEq, Int.reduceBNe, Int.reduceGT, Nat.reduceDiv, Nat.reduceMod, Nat.reducePow, Int.reducePow, gt_iff_lt, ge_iff_le, List.reduceReplicate, ↓reduceIte]
    | with_reducible refine roundS (next_of 1000 ?_)
    | with_reducible refine drawS_of mixed (by kernel_rfl) (dg_of 1000 ?_)
    | with_reducible refine endD_of (by kernel_rfl) (next_of 1000 ?_)
    | with_reducible refine next_of 1000 ?_
    | ((first | refine condS_split (fun h => ?_) (fun h => ?_) | refine testS_split (fun h => ?_) (fun h => ?_) | refine testD_split (fun h => ?_) (fun h => ?_)) <;> (try simp only [bne_iff_ne, ne_eq, beq_iff_eq, decide_eq_true_eq, decide_eq_false_iff_not, Bool.not_eq_true, Bool.not_eq_false, Bool.not_true, Bool.not_false, bne_eq_false_iff_eq, beq_eq_false_iff_ne, Bool.and_eq_true, Bool.or_eq_true, Bool.and_eq_false_imp, Bool.or_eq_false_iff, Bool.not_eq_true', Bool.not_eq_false', Int.not_lt, Int.not_le] at h) <;> (try (exfalso; omega))))
  intro bs; simp only [real, reals]; rfl
theorem both_short {w : World} {bx : Nat} {z : Nat → Int} {Lx L N cx : Nat} {T : TypeId} (h : XIn w bx z Lx L N T cx) {y : Nat} (hy : y < 115792089237316195423570985008687907853269984665640564039457584007913129639936) (h1 : limbs y = 1) :
    Calls Tryd.prog 88 #[.slice (some ⟨bx, 0, none⟩) L cx, wV y] w (RetN (.tup [.sl 2 0 (limbs N) (limbs N), wE (N % y)])
      [.cells (wC y) 24 (0, 0), .cells (wC (N % y)) 24 (0, 0), .cells (ints .u64 (dig 18446744073709551616 (N / y)) (limbs N)) 22 (0, 0), .cells [.int .u64 ((N % y : Nat) : Int)] 22 (0, 0)] w) := by
  have h0 : y ≠ 0 := by rintro rfl; exact absurd h1 (by decide)
  have hlt : y < 18446744073709551616 ^ 1 := limbs_le.1 (Nat.le_of_eq h1)
  have hr : N % y < y := Nat.mod_lt _ (by omega)
  have hL := h.hL
  refine new_calls _ _ [.raw (.slice (some ⟨bx, 0, none⟩) L cx), wE y] Tryd.func88 rfl in88 (by simp [Tryd.f88]) (by simp [closeds, closed, closed_wE]) (next_of 1000 ?_)
  simp (maxSteps := 4000000) (disch := omega) only [go_sem, Nat.reduceBEq, Nat.reduceAdd, Nat.reduceMul, Nat.reduceSub, Nat.reduceLT, Nat.reduceLeDiff, Int.reduceToNat, Int.reduceLT, Int.reduceLE, Int.reduceAdd, Int.reduceMul, Int.reduceSub, Int.reduceNeg, Int.reduceDiv, Int.reduceMod, Nat.reduceBNe, Nat.reduceGT, Int.reduceBEq, Int.reduceBNe, Int.reduceGT, Nat.reduceDiv, Nat.reduceMod, Nat.reducePow, Int.reducePow, gt_iff_lt, ge_iff_le, List.reduceReplicate, ↓reduceIte, Tryd.f88, nz0]
  repeat (with_reducible refine And.intro (by first | omega | assumption | (constructor <;> assumption) | (simp; done) | (simp; omega) | (simp [*]; done)) ?_)
  repeat' (first
    | with_reducible refine And.intro (by first | omega | assumption | (constructor <;> assumption) | (simp; done) | (simp; omega) | (simp [*]; done)) ?_
    | simp (maxSteps := 4000000) (disch := omega) only [go_sem, Nat.reduceBEq, Nat.reduceAdd, Nat.reduceMul, Nat.reduceSub, Nat.reduceLT, Nat.reduceLeDiff, Int.reduceToNat, Int.reduceLT, Int.reduceLE, Int.reduceAdd, Int.reduceMul, Int.reduceSub, Int.reduceNeg, Int.reduceDiv, Int.reduceMod, Nat.reduceBNe, Nat.reduceGT, Int.reduceBEq, Int.reduceBNe, Int.reduceGT, Nat.reduceDiv, Nat.reduceMod, Nat.reducePow, Int.reducePow, gt_iff_lt, ge_iff_le, List.reduceReplicate, ↓reduceIte, nz0, h0, decide_false]
    | with_reducible refine roundS (next_of 1000 ?_)
    | with_reducible refine drawS_of mixed (by kernel_rfl) (dg_of 1000 ?_)
    | with_reducible refine endD_of (by kernel_rfl) (next_of 1000 ?_)
    | with_reducible refine next_of 1000 ?_
    | ((first | refine condS_split (fun h => ?_) (fun h => ?_) | refine testS_split (fun h => ?_) (fun h => ?_) | refine testD_split (fun h => ?_) (fun h => ?_)) <;> (try simp only [bne_iff_ne, ne_eq, beq_iff_eq, decide_eq_true_eq, decide_eq_false_iff_not, Bool.not_eq_true, Bool.not_eq_false, Bool.not_true, Bool.not_false, bne_eq_false_iff_eq, beq_eq_false_iff_ne, Bool.and_eq_true, Bool.or_eq_true, Bool.and_eq_false_imp, Bool.or_eq_false_iff, Bool.not_eq_true', Bool.not_eq_false', Int.not_lt, Int.not_le] at h) <;> (try (exfalso; omega))))
  refine callS_new _ _ en116 ?_ ?_ (fun bs w' hh => divide_short (uv_of hh h hy rfl) h.hc (by omega) h1) (next_of 1000 ?_)
  · simp [closed, closeds]
  · simp [EObj.closed, closeds_ints, closeds, closed]
  repeat' (first
    | with_reducible refine And.intro (by first | omega | assumption | (constructor <;> assumption) | (simp; done) | (simp; omega) | (simp [*]; done)) ?_
    | simp (maxSteps := 4000000) (disch := omega) only [go_sem, Nat.reduceBEq, Nat.reduceAdd, Nat.reduceMul, Nat.reduceSub, Nat.reduceLT, Nat.reduceLeDiff, Int.reduceToNat, Int.reduceLT, Int.reduceLE, Int.reduceAdd, Int.reduceMul, Int.reduceSub, Int.reduceNeg, Int.reduceDiv, Int.reduceMod, Nat.reduceBNe, Nat.reduceGT, Int.reduceBEq, Int.reduceBNe, Int.reduceGT, Nat.reduceDiv, Nat.reduceMod, Nat.reducePow, Int.reducePow, gt_iff_lt, ge_iff_le, List.reduceReplicate, ↓reduceIte]
    | with_reducible refine roundS (next_of 1000 ?_)
    | with_reducible refine drawS_of mixed (by kernel_rfl) (dg_of 1000 ?_)
    | with_reducible refine endD_of (by kernel_rfl) (next_of 1000 ?_)
    | with_reducible refine next_of 1000 ?_
    | ((first | refine condS_split (fun h => ?_) (fun h => ?_) | refine testS_split (fun h => ?_) (fun h => ?_) | refine testD_split (fun h => ?_) (fun h => ?_)) <;> (try simp only [bne_iff_ne, ne_eq, beq_iff_eq, decide_eq_true_eq, decide_eq_false_iff_not, Bool.not_eq_true, Bool.not_eq_false, Bool.not_true, Bool.not_false, bne_eq_false_iff_eq, beq_eq_false_iff_ne, Bool.and_eq_true, Bool.or_eq_true, Bool.and_eq_false_imp, Bool.or_eq_false_iff, Bool.not_eq_true', Bool.not_eq_false', Int.not_lt, Int.not_le] at h) <;> (try (exfalso; omega))))
  refine callS_pure (wE (N % y)) en89 (closed_wE _ _) (fun bs w' hh => by
    rw [wV_real]
    refine word_calls (z := fun _ => ((N % y : Nat) : Int)) (k := 1) (Lb := 1) (T := 22) ?_ (fun _ => ⟨Int.natCast_nonneg _, by omega⟩) (by omega) (by omega) (by simp [num])
    have := (hh.live 3 _ rfl).2
    simpa [EObj.real, reals, real, intsV, List.range, List.range.loop] using this) (next_of 1000 ?_)
  repeat' (first
    | with_reducible refine And.intro (by first | omega | assumption | (constructor <;> assumption) | (simp; done) | (simp; omega) | (simp [*]; done)) ?_
    | simp (maxSteps := 4000000) (disch := omega) only [go_sem, Nat.reduceBEq, Nat.reduceAdd, Nat.reduceMul, Nat.reduceSub, Nat.reduceLT, Nat.reduceLeDiff, Int.reduceToNat, Int.reduceLT, Int.reduceLE, Int.reduceAdd, Int.reduceMul, Int.reduceSub, Int.reduceNeg, Int.reduceDiv, Int.reduceMod, Nat.reduceBNe, Nat.reduceGT, Int.reduceBEq, Int.reduceBNe, Int.reduceGT, Nat.reduceDiv, Nat.reduceMod, Nat.reducePow, Int.reducePow, gt_iff_lt, ge_iff_le, List.reduceReplicate, ↓reduceIte]
    | with_reducible refine roundS (next_of 1000 ?_)
    | with_reducible refine drawS_of mixed (by kernel_rfl) (dg_of 1000 ?_)
    | with_reducible refine endD_of (by kernel_rfl) (next_of 1000 ?_)
    | with_reducible refine next_of 1000 ?_
    | ((first | refine condS_split (fun h => ?_) (fun h => ?_) | refine testS_split (fun h => ?_) (fun h => ?_) | refine testD_split (fun h => ?_) (fun h => ?_)) <;> (try simp only [bne_iff_ne, ne_eq, beq_iff_eq, decide_eq_true_eq, decide_eq_false_iff_not, Bool.not_eq_true, Bool.not_eq_false, Bool.not_true, Bool.not_false, bne_eq_false_iff_eq, beq_eq_false_iff_ne, Bool.and_eq_true, Bool.or_eq_true, Bool.and_eq_false_imp, Bool.or_eq_false_iff, Bool.not_eq_true', Bool.not_eq_false', Int.not_lt, Int.not_le] at h) <;> (try (exfalso; omega))))
  rintro (_ | _ | _ | _ | k) o ho
  · simpa [go_sem] using ho
  · simpa [go_sem] using ho
  · simpa [go_sem] using ho
  · simpa [go_sem] using ho
  · simp at ho
theorem both_long {w : World} {bx : Nat} {z : Nat → Int} {Lx L N cx : Nat} {T : TypeId} (h : XIn w bx z Lx L N T cx) {y : Nat} (hy : y < 115792089237316195423570985008687907853269984665640564039457584007913129639936) {n m s : Nat} (h1 : limbs y = n + 2) (h2 : limbs N = n + 2 + m) (hs : s = 64 - blen (y / 18446744073709551616 ^ (n + 1))) :
    Calls Tryd.prog 88 #[.slice (some ⟨bx, 0, none⟩) L cx, wV y] w (RetN (.tup [.sl 4 0 (m + 1) (m + 1), wE (N % y)])
      [.cells (wC y) 24 (0, 0), .cells (wC (N % y)) 24 (0, 0), .cells (ints .u64 (fun i => if i < n + 2 then dig 18446744073709551616 (N % y) i else dig 18446744073709551616 (N % y * 2 ^ s) i) (n + 2 + m + 1)) 22 (0, 0),
        .cells (ints .u64 (dig 18446744073709551616 (y * 2 ^ s)) (n + 2 + 1)) 22 (0, 0), .cells (ints .u64 (dig 18446744073709551616 (N / y)) (m + 1)) 22 (0, 0)] w) := by
  have h0 : y ≠ 0 := by
    rintro rfl
    have : limbs 0 = 0 := by decide
    omega
  have hy4 := limbs4 hy
  have hylt : y < 18446744073709551616 ^ (n + 2) := limbs_le.1 (Nat.le_of_eq h1)
  have hr : N % y < y := Nat.mod_lt _ (by omega)
  have hL := h.hL
  refine new_calls _ _ [.raw (.slice (some ⟨bx, 0, none⟩) L cx), wE y] Tryd.func88 rfl in88 (by simp [Tryd.f88]) (by simp [closeds, closed, closed_wE]) (next_of 1000 ?_)
  simp (maxSteps := 4000000) (disch := omega) only [go_sem, Nat.reduceBEq, Nat.reduceAdd, Nat.reduceMul, Nat.reduceSub, Nat.reduceLT, Nat.reduceLeDiff, Int.reduceToNat, Int.reduceLT, Int.reduceLE, Int.reduceAdd, Int.reduceMul, Int.reduceSub, Int.reduceNeg, Int.reduceDiv, Int.reduceMod, Nat.reduceBNe, Nat.reduceGT, Int.reduceBEq, Int.reduceBNe, Int.reduceGT, Nat.reduceDiv, Nat.reduceMod, Nat.reducePow, Int.reducePow, gt_iff_lt, ge_iff_le, List.reduceReplicate, ↓reduceIte, Tryd.f88, nz0]
  repeat (with_reducible refine And.intro (by first | omega | assumption | (constructor <;> assumption) | (simp; done) | (simp; omega) | (simp [*]; done)) ?_)
  repeat' (first
    | with_reducible refine And.intro (by first | omega | assumption | (constructor <;> assumption) | (simp; done) | (simp; omega) | (simp [*]; done)) ?_
    | simp (maxSteps := 4000000) (disch := omega) only [go_sem, Nat.reduceBEq, Nat.reduceAdd, Nat.reduceMul, Nat.reduceSub, Nat.reduceLT, Nat.reduceLeDiff, Int.reduceToNat, Int.reduceLT, Int.reduceLE, Int.reduceAdd, Int.reduceMul, Int.reduceSub, Int.reduceNeg, Int.reduceDiv, Int.reduceMod, Nat.reduceBNe, Nat.reduceGT, Int.reduceBEq, Int.reduceBNe, Int.reduceGT, Nat.reduceDiv, Nat.reduceMod, Nat.reducePow, Int.reducePow, gt_iff_lt, ge_iff_le, List.reduceReplicate, ↓reduceIte, nz0, h0, decide_false]
    | with_reducible refine roundS (next_of 1000 ?_)
    | with_reducible refine drawS_of mixed (by kernel_rfl) (dg_of 1000 ?_)
    | with_reducible refine endD_of (by kernel_rfl) (next_of 1000 ?_)
    | with_reducible refine next_of 1000 ?_
    | ((first | refine condS_split (fun h => ?_) (fun h => ?_) | refine testS_split (fun h => ?_) (fun h => ?_) | refine testD_split (fun h => ?_) (fun h => ?_)) <;> (try simp only [bne_iff_ne, ne_eq, beq_iff_eq, decide_eq_true_eq, decide_eq_false_iff_not, Bool.not_eq_true, Bool.not_eq_false, Bool.not_true, Bool.not_false, bne_eq_false_iff_eq, beq_eq_false_iff_ne, Bool.and_eq_true, Bool.or_eq_true, Bool.and_eq_false_imp, Bool.or_eq_false_iff, Bool.not_eq_true', Bool.not_eq_false', Int.not_lt, Int.not_le] at h) <;> (try (exfalso; omega))))
  refine callS_new _ _ en116 ?_ ?_ (fun bs w' hh => divide_long (uv_of hh h hy rfl) h.hc (by omega) h1 h2 hs) (next_of 1000 ?_)
  · simp [closed, closeds]
  · simp [EObj.closed, closeds_ints, closeds, closed]
  repeat' (first
    | with_reducible refine And.intro (by first | omega | assumption | (constructor <;> assumption) | (simp; done) | (simp; omega) | (simp [*]; done)) ?_
    | simp (maxSteps := 4000000) (disch := omega) only [go_sem, Nat.reduceBEq, Nat.reduceAdd, Nat.reduceMul, Nat.reduceSub, Nat.reduceLT, Nat.reduceLeDiff, Int.reduceToNat, Int.reduceLT, Int.reduceLE, Int.reduceAdd, Int.reduceMul, Int.reduceSub, Int.reduceNeg, Int.reduceDiv, Int.reduceMod, Nat.reduceBNe, Nat.reduceGT, Int.reduceBEq, Int.reduceBNe, Int.reduceGT, Nat.reduceDiv, Nat.reduceMod, Nat.reducePow, Int.reducePow, gt_iff_lt, ge_iff_le, List.reduceReplicate, ↓reduceIte]
    | with_reducible refine roundS (next_of 1000 ?_)
    | with_reducible refine drawS_of mixed (by kernel_rfl) (dg_of 1000 ?_)
    | with_reducible refine endD_of (by kernel_rfl) (next_of 1000 ?_)
    | with_reducible refine next_of 1000 ?_
    | ((first | refine condS_split (fun h => ?_) (fun h => ?_) | refine testS_split (fun h => ?_) (fun h => ?_) | refine testD_split (fun h => ?_) (fun h => ?_)) <;> (try simp only [bne_iff_ne, ne_eq, beq_iff_eq, decide_eq_true_eq, decide_eq_false_iff_not, Bool.not_eq_true, Bool.not_eq_false, Bool.not_true, Bool.not_false, bne_eq_false_iff_eq, beq_eq_false_iff_ne, Bool.and_eq_true, Bool.or_eq_true, Bool.and_eq_false_imp, Bool.or_eq_false_iff, Bool.not_eq_true', Bool.not_eq_false', Int.not_lt, Int.not_le] at h) <;> (try (exfalso; omega))))
  refine callS_pure (wE (N % y)) en89 (closed_wE _ _) (fun bs w' hh => by
    rw [wV_real]
    have := (hh.live 2 _ rfl).2
    simp only [EObj.real, reals_ints] at this
    refine word_calls this (fun j => by split <;> exact dbd _ _) (by omega) (by omega) ?_
    rw [num_congr (y := dig 18446744073709551616 (N % y)) (fun i hi => if_pos hi), num_dig, Nat.mod_eq_of_lt (by omega)]) (next_of 1000 ?_)
  repeat' (first
    | with_reducible refine And.intro (by first | omega | assumption | (constructor <;> assumption) | (simp; done) | (simp; omega) | (simp [*]; done)) ?_
    | simp (maxSteps := 4000000) (disch := omega) only [go_sem, Nat.reduceBEq, Nat.reduceAdd, Nat.reduceMul, Nat.reduceSub, Nat.reduceLT, Nat.reduceLeDiff, Int.reduceToNat, Int.reduceLT, Int.reduceLE, Int.reduceAdd, Int.reduceMul, Int.reduceSub, Int.reduceNeg, Int.reduceDiv, Int.reduceMod, Nat.reduceBNe, Nat.reduceGT, Int.reduceBEq, Int.reduceBNe, Int.reduceGT, Nat.reduceDiv, Nat.reduceMod, Nat.reducePow, Int.reducePow, gt_iff_lt, ge_iff_le, List.reduceReplicate, ↓reduceIte]
    | with_reducible refine roundS (next_of 1000 ?_)
    | with_reducible refine drawS_of mixed (by kernel_rfl) (dg_of 1000 ?_)
    | with_reducible refine endD_of (by kernel_rfl) (next_of 1000 ?_)
    | with_reducible refine next_of 1000 ?_
    | ((first | refine condS_split (fun h => ?_) (fun h => ?_) | refine testS_split (fun h => ?_) (fun h => ?_) | refine testD_split (fun h => ?_) (fun h => ?_)) <;> (try simp only [bne_iff_ne, ne_eq, beq_iff_eq, decide_eq_true_eq, decide_eq_false_iff_not, Bool.not_eq_true, Bool.not_eq_false, Bool.not_true, Bool.not_false, bne_eq_false_iff_eq, beq_eq_false_iff_ne, Bool.and_eq_true, Bool.or_eq_true, Bool.and_eq_false_imp, Bool.or_eq_false_iff, Bool.not_eq_true', Bool.not_eq_false', Int.not_lt, Int.not_le] at h) <;> (try (exfalso; omega))))
  rintro (_ | _ | _ | _ | _ | k) o ho
  · simpa [go_sem] using ho
  · simpa [go_sem] using ho
  · simpa [go_sem] using ho
  · simpa [go_sem] using ho
  · simpa [go_sem] using ho
  · simp at ho
def edgeL : List Edge → Nat → Bool
  | [], _ => false
  | e :: r, j => (Region.binds .any e && e.on == j) || edgeL r j
theorem hasEdge_eq (o : Oper) (j : Nat) : hasEdge o j = edgeL o.after.toList j := by
  unfold hasEdge
  rw [← Array.any_toList]
  induction o.after.toList with
  | nil => rfl
  | cons e r ih => simp only [List.any_cons, edgeL, ih]
def offL (r : Nat) : List (Nat × Option EObj) → Prop
  | [] => True
  | (k, o) :: t => (k ≠ r ∧ ∀ o', o = some o' → o'.av r) ∧ offL r t
theorem off_eq (r : Nat) (E : Ef) : E.off r ↔ av r E.v ∧ offL r E.ups := by
  unfold Ef.off
  apply and_congr Iff.rfl
  induction E.ups with
  | nil => simp [offL]
  | cons p t ih =>
    obtain ⟨k, o⟩ := p
    simp only [offL, ← ih]
    constructor
    · intro h; exact ⟨h k o (by simp), fun k' o' h' => h k' o' (List.mem_cons_of_mem _ h')⟩
    · rintro ⟨h1, h2⟩ k' o' h'
      rcases List.mem_cons.1 h' with h' | h'
      · simp only [Prod.mk.injEq] at h'; obtain ⟨rfl, rfl⟩ := h'; exact h1
      · exact h2 k' o' h'
/-- Which of the ways a division goes. -/
theorem ways (N : Nat) {y : Nat} (h0 : y ≠ 0) : limbs y = 1 ∨ (limbs y ≠ 1 ∧ limbs N < limbs y) ∨ ∃ n m, limbs y = n + 2 ∧ limbs N = n + 2 + m := by
  have : limbs y ≠ 0 := by
    intro h
    have := limbs_le.1 (Nat.le_of_eq h)
    simp at this; omega
  by_cases h1 : limbs y = 1
  · exact .inl h1
  · by_cases h2 : limbs N < limbs y
    · exact .inr (.inl ⟨h1, h2⟩)
    · exact .inr (.inr ⟨limbs y - 2, limbs N - limbs y, by omega, by omega⟩)
theorem div_lt_limbs {N y n m : Nat} (h1 : limbs y = n + 2) (h2 : limbs N = n + 2 + m) : N / y < 18446744073709551616 ^ (m + 1) := by
  have a1 : N < 18446744073709551616 ^ (n + 2 + m) := limbs_le.1 (Nat.le_of_eq h2)
  have a2 : 18446744073709551616 ^ (n + 1) ≤ y := by
    rcases Nat.lt_or_ge y (18446744073709551616 ^ (n + 1)) with h' | h'
    · have := limbs_le.2 h'; omega
    · exact h'
  have a0 : 0 < 18446744073709551616 ^ (n + 1) := Nat.pow_pos (by omega)
  apply Nat.div_lt_of_lt_mul
  have a3 : 18446744073709551616 ^ (n + 1) * 18446744073709551616 ^ (m + 1) ≤ y * 18446744073709551616 ^ (m + 1) := Nat.mul_le_mul_right _ a2
  rw [← Nat.pow_add, show n + 1 + (m + 1) = n + 2 + m by omega] at a3
  omega
theorem less_div {N y : Nat} (h : limbs N < limbs y) : N / y = 0 ∧ N % y = N := by
  have : N < y := by
    rcases Nat.lt_or_ge N y with h' | h'
    · exact h'
    · have a1 : N < 18446744073709551616 ^ limbs N := limbs_le.1 (Nat.le_refl _)
      have a2 := limbs_le.2 (Nat.lt_of_le_of_lt h' a1)
      omega
  exact ⟨Nat.div_eq_of_lt this, Nat.mod_eq_of_lt this⟩
theorem xin_of {C : Cx} {n : Nat} {B0 : Base} {hs : List (Nat × Option EObj)} {bs : Nat → Nat} {w : World} (hh : HRel C B0 n hs bs w) {x : Nat} (hx : x < 115792089237316195423570985008687907853269984665640564039457584007913129639936) {T : TypeId} (h0 : hget hs 0 = some (.cells (wC x) T (0, 0))) : XIn w (bs 0) (dig 18446744073709551616 x) 4 4 x T 4 := by
  refine ⟨?_, dbd x, Nat.le_refl _, by omega, ?_, Nat.le_refl _⟩
  · have := (hh.live 0 _ h0).2
    rw [wC_ints] at this
    simpa only [EObj.real, reals_ints] using this
  · rw [num_dig, Nat.mod_eq_of_lt (by omega)]
theorem div_p (x y : Nat) (hx : x < 115792089237316195423570985008687907853269984665640564039457584007913129639936) (hy : y < 115792089237316195423570985008687907853269984665640564039457584007913129639936) : Pure Tryd.prog 41 [wE x, wE y] (wE (x / y)) := by
  have hx4 := limbs4 hx
  by_cases h0 : y = 0
  · subst h0
    rw [Nat.div_zero]
    refine pure_p (args := [wE x, wE 0]) en41 (by simp [closed, closeds, closed_wE, closeds_ints]) Tryd.func41 rfl in41 (by simp [Tryd.f41]) (by simp [closeds, closed, closed_wE, closeds_ints]) (fun w => next_of 1000 ?_)
    simp (maxSteps := 4000000) (disch := omega) only [go_sem, Nat.reduceBEq, Nat.reduceAdd, Nat.reduceMul, Nat.reduceSub, Nat.reduceLT, Nat.reduceLeDiff, Int.reduceToNat, Int.reduceLT, Int.reduceLE, Int.reduceAdd, Int.reduceMul, Int.reduceSub, Int.reduceNeg, Int.reduceDiv, Int.reduceMod, Nat.reduceBNe, Nat.reduceGT, Int.reduceBEq, Int.reduceBNe, Int.reduceGT, Nat.reduceDiv, Nat.reduceMod, Nat.reducePow, Int.reducePow, gt_iff_lt, ge_iff_le, List.reduceReplicate, ↓reduceIte, Tryd.f41]
    repeat (with_reducible refine And.intro (by first | omega | assumption | (constructor <;> assumption) | (simp; done) | (simp; omega) | (simp [*]; done)) ?_)
    repeat' (first
      | with_reducible refine And.intro (by first | omega | assumption | (constructor <;> assumption) | (simp; done) | (simp; omega) | (simp [*]; done)) ?_
      | simp (maxSteps := 4000000) (disch := omega) only [go_sem, Nat.reduceBEq, Nat.reduceAdd, Nat.reduceMul, Nat.reduceSub, Nat.reduceLT, Nat.reduceLeDiff, Int.reduceToNat, Int.reduceLT, Int.reduceLE, Int.reduceAdd, Int.reduceMul, Int.reduceSub, Int.reduceNeg, Int.reduceDiv, Int.reduceMod, Nat.reduceBNe, Nat.reduceGT, Int.reduceBEq, Int.reduceBNe, Int.reduceGT, Nat.reduceDiv, Nat.reduceMod, Nat.reducePow, Int.reducePow, gt_iff_lt, ge_iff_le, List.reduceReplicate, ↓reduceIte, ite_self]
      | with_reducible refine roundS (next_of 1000 ?_)
      | with_reducible refine drawN_of (id := 1) mixed (by kernel_rfl) (by simp; done) (dg_of 1000 ?_)
      | with_reducible refine endN_of (by kernel_rfl) rfl (by simp [nmRes, off_eq, offL, av, avs, EObj.av, sentE, avs_ints, avs_wC, hasEdge_eq, edgeL, Region.binds]) (next_of 1000 ?_)
      | with_reducible refine drawS_of mixed (by kernel_rfl) (dg_of 1000 ?_)
      | with_reducible refine endD_of (by kernel_rfl) (next_of 1000 ?_)
      | with_reducible refine next_of 1000 ?_
      | ((first | refine condS_split (fun h => ?_) (fun h => ?_) | refine testS_split (fun h => ?_) (fun h => ?_) | refine testD_split (fun h => ?_) (fun h => ?_)) <;> (try simp only [bne_iff_ne, ne_eq, beq_iff_eq, decide_eq_true_eq, decide_eq_false_iff_not, Bool.not_eq_true, Bool.not_eq_false, Bool.not_true, Bool.not_false, bne_eq_false_iff_eq, beq_eq_false_iff_ne, Bool.and_eq_true, Bool.or_eq_true, Bool.and_eq_false_imp, Bool.or_eq_false_iff, Bool.not_eq_true', Bool.not_eq_false', Int.not_lt, Int.not_le] at h) <;> (try (exfalso; omega))))
    refine callD_pure (.tup [.raw (.slice none 0 0), wE 0]) [0] en88 (by simp [closed, closeds, closed_wE]) (fun y bs w' hB hf hh => ?_) (dg_of 1000 ?_)
    · simp only [real, reals]
      exact both_zero (xin_of hh hx ((hf 0 (by simp)).trans rfl))
    repeat' (first
      | with_reducible refine And.intro (by first | omega | assumption | (constructor <;> assumption) | (simp; done) | (simp; omega) | (simp [*]; done)) ?_
      | simp (maxSteps := 4000000) (disch := omega) only [go_sem, Nat.reduceBEq, Nat.reduceAdd, Nat.reduceMul, Nat.reduceSub, Nat.reduceLT, Nat.reduceLeDiff, Int.reduceToNat, Int.reduceLT, Int.reduceLE, Int.reduceAdd, Int.reduceMul, Int.reduceSub, Int.reduceNeg, Int.reduceDiv, Int.reduceMod, Nat.reduceBNe, Nat.reduceGT, Int.reduceBEq, Int.reduceBNe, Int.reduceGT, Nat.reduceDiv, Nat.reduceMod, Nat.reducePow, Int.reducePow, gt_iff_lt, ge_iff_le, List.reduceReplicate, ↓reduceIte]
      | with_reducible refine roundS (next_of 1000 ?_)
      | with_reducible refine drawN_of (id := 1) mixed (by kernel_rfl) (by simp; done) (dg_of 1000 ?_)
      | with_reducible refine endN_of (by kernel_rfl) rfl (by simp [nmRes, off_eq, offL, av, avs, EObj.av, sentE, avs_ints, avs_wC, hasEdge_eq, edgeL, Region.binds]) (next_of 1000 ?_)
      | with_reducible refine drawS_of mixed (by kernel_rfl) (dg_of 1000 ?_)
      | with_reducible refine endD_of (by kernel_rfl) (next_of 1000 ?_)
      | with_reducible refine next_of 1000 ?_
      | ((first | refine condS_split (fun h => ?_) (fun h => ?_) | refine testS_split (fun h => ?_) (fun h => ?_) | refine testD_split (fun h => ?_) (fun h => ?_)) <;> (try simp only [bne_iff_ne, ne_eq, beq_iff_eq, decide_eq_true_eq, decide_eq_false_iff_not, Bool.not_eq_true, Bool.not_eq_false, Bool.not_true, Bool.not_false, bne_eq_false_iff_eq, beq_eq_false_iff_ne, Bool.and_eq_true, Bool.or_eq_true, Bool.and_eq_false_imp, Bool.or_eq_false_iff, Bool.not_eq_true', Bool.not_eq_false', Int.not_lt, Int.not_le] at h) <;> (try (exfalso; omega))))
    refine callS_pure (wE 0) en89 (closed_wE _ _) (fun bs w' hh => by rw [wV_real]; exact word_nil w') (next_of 1000 ?_)
    repeat' (first
      | with_reducible refine And.intro (by first | omega | assumption | (constructor <;> assumption) | (simp; done) | (simp; omega) | (simp [*]; done)) ?_
      | simp (maxSteps := 4000000) (disch := omega) only [go_sem, Nat.reduceBEq, Nat.reduceAdd, Nat.reduceMul, Nat.reduceSub, Nat.reduceLT, Nat.reduceLeDiff, Int.reduceToNat, Int.reduceLT, Int.reduceLE, Int.reduceAdd, Int.reduceMul, Int.reduceSub, Int.reduceNeg, Int.reduceDiv, Int.reduceMod, Nat.reduceBNe, Nat.reduceGT, Int.reduceBEq, Int.reduceBNe, Int.reduceGT, Nat.reduceDiv, Nat.reduceMod, Nat.reducePow, Int.reducePow, gt_iff_lt, ge_iff_le, List.reduceReplicate, ↓reduceIte]
      | with_reducible refine roundS (next_of 1000 ?_)
      | with_reducible refine drawN_of (id := 1) mixed (by kernel_rfl) (by simp; done) (dg_of 1000 ?_)
      | with_reducible refine endN_of (by kernel_rfl) rfl (by simp [nmRes, off_eq, offL, av, avs, EObj.av, sentE, avs_ints, avs_wC, hasEdge_eq, edgeL, Region.binds]) (next_of 1000 ?_)
      | with_reducible refine drawS_of mixed (by kernel_rfl) (dg_of 1000 ?_)
      | with_reducible refine endD_of (by kernel_rfl) (next_of 1000 ?_)
      | with_reducible refine next_of 1000 ?_
      | ((first | refine condS_split (fun h => ?_) (fun h => ?_) | refine testS_split (fun h => ?_) (fun h => ?_) | refine testD_split (fun h => ?_) (fun h => ?_)) <;> (try simp only [bne_iff_ne, ne_eq, beq_iff_eq, decide_eq_true_eq, decide_eq_false_iff_not, Bool.not_eq_true, Bool.not_eq_false, Bool.not_true, Bool.not_false, bne_eq_false_iff_eq, beq_eq_false_iff_ne, Bool.and_eq_true, Bool.or_eq_true, Bool.and_eq_false_imp, Bool.or_eq_false_iff, Bool.not_eq_true', Bool.not_eq_false', Int.not_lt, Int.not_le] at h) <;> (try (exfalso; omega))))
  · rcases ways x h0 with h1 | ⟨h1, h2⟩ | ⟨n, m, h1, h2⟩
    · refine pure_p (args := [wE x, wE y]) en41 (by simp [closed, closeds, closed_wE, closeds_ints]) Tryd.func41 rfl in41 (by simp [Tryd.f41]) (by simp [closeds, closed, closed_wE, closeds_ints]) (fun w => next_of 1000 ?_)
      simp (maxSteps := 4000000) (disch := omega) only [go_sem, Nat.reduceBEq, Nat.reduceAdd, Nat.reduceMul, Nat.reduceSub, Nat.reduceLT, Nat.reduceLeDiff, Int.reduceToNat, Int.reduceLT, Int.reduceLE, Int.reduceAdd, Int.reduceMul, Int.reduceSub, Int.reduceNeg, Int.reduceDiv, Int.reduceMod, Nat.reduceBNe, Nat.reduceGT, Int.reduceBEq, Int.reduceBNe, Int.reduceGT, Nat.reduceDiv, Nat.reduceMod, Nat.reducePow, Int.reducePow, gt_iff_lt, ge_iff_le, List.reduceReplicate, ↓reduceIte, Tryd.f41]
      repeat (with_reducible refine And.intro (by first | omega | assumption | (constructor <;> assumption) | (simp; done) | (simp; omega) | (simp [*]; done)) ?_)
      repeat' (first
        | with_reducible refine And.intro (by first | omega | assumption | (constructor <;> assumption) | (simp; done) | (simp; omega) | (simp [*]; done)) ?_
        | simp (maxSteps := 4000000) (disch := omega) only [go_sem, Nat.reduceBEq, Nat.reduceAdd, Nat.reduceMul, Nat.reduceSub, Nat.reduceLT, Nat.reduceLeDiff, Int.reduceToNat, Int.reduceLT, Int.reduceLE, Int.reduceAdd, Int.reduceMul, Int.reduceSub, Int.reduceNeg, Int.reduceDiv, Int.reduceMod, Nat.reduceBNe, Nat.reduceGT, Int.reduceBEq, Int.reduceBNe, Int.reduceGT, Nat.reduceDiv, Nat.reduceMod, Nat.reducePow, Int.reducePow, gt_iff_lt, ge_iff_le, List.reduceReplicate, ↓reduceIte, ite_self]
        | with_reducible refine roundS (next_of 1000 ?_)
        | with_reducible refine drawN_of (id := 1) mixed (by kernel_rfl) (by simp; done) (dg_of 1000 ?_)
        | with_reducible refine endN_of (by kernel_rfl) rfl (by simp [nmRes, off_eq, offL, av, avs, EObj.av, sentE, avs_ints, avs_wC, hasEdge_eq, edgeL, Region.binds]) (next_of 1000 ?_)
        | with_reducible refine drawS_of mixed (by kernel_rfl) (dg_of 1000 ?_)
        | with_reducible refine endD_of (by kernel_rfl) (next_of 1000 ?_)
        | with_reducible refine next_of 1000 ?_
        | ((first | refine condS_split (fun h => ?_) (fun h => ?_) | refine testS_split (fun h => ?_) (fun h => ?_) | refine testD_split (fun h => ?_) (fun h => ?_)) <;> (try simp only [bne_iff_ne, ne_eq, beq_iff_eq, decide_eq_true_eq, decide_eq_false_iff_not, Bool.not_eq_true, Bool.not_eq_false, Bool.not_true, Bool.not_false, bne_eq_false_iff_eq, beq_eq_false_iff_ne, Bool.and_eq_true, Bool.or_eq_true, Bool.and_eq_false_imp, Bool.or_eq_false_iff, Bool.not_eq_true', Bool.not_eq_false', Int.not_lt, Int.not_le] at h) <;> (try (exfalso; omega))))
      refine callD_new (.tup [.sl 2 0 (limbs x) (limbs x), wE (x % y)]) _ [0] en88 ?_ ?_ ?_ (fun y bs w' hB hf hh => by simp only [real, reals]; exact both_short (xin_of hh hx ((hf 0 (by simp)).trans rfl)) hy h1) (dg_of 1000 ?_)
      · simp [closed, closeds, closed_wE]
      · simp [EObj.closed, closeds_ints, closeds, closed, closeds_wC]
      · simp
      repeat' (first
        | with_reducible refine And.intro (by first | omega | assumption | (constructor <;> assumption) | (simp; done) | (simp; omega) | (simp [*]; done)) ?_
        | simp (maxSteps := 4000000) (disch := omega) only [go_sem, Nat.reduceBEq, Nat.reduceAdd, Nat.reduceMul, Nat.reduceSub, Nat.reduceLT, Nat.reduceLeDiff, Int.reduceToNat, Int.reduceLT, Int.reduceLE, Int.reduceAdd, Int.reduceMul, Int.reduceSub, Int.reduceNeg, Int.reduceDiv, Int.reduceMod, Nat.reduceBNe, Nat.reduceGT, Int.reduceBEq, Int.reduceBNe, Int.reduceGT, Nat.reduceDiv, Nat.reduceMod, Nat.reducePow, Int.reducePow, gt_iff_lt, ge_iff_le, List.reduceReplicate, ↓reduceIte]
        | with_reducible refine roundS (next_of 1000 ?_)
        | with_reducible refine drawN_of (id := 1) mixed (by kernel_rfl) (by simp; done) (dg_of 1000 ?_)
        | with_reducible refine endN_of (by kernel_rfl) rfl (by simp [nmRes, off_eq, offL, av, avs, EObj.av, sentE, avs_ints, avs_wC, hasEdge_eq, edgeL, Region.binds]) (next_of 1000 ?_)
        | with_reducible refine drawS_of mixed (by kernel_rfl) (dg_of 1000 ?_)
        | with_reducible refine endD_of (by kernel_rfl) (next_of 1000 ?_)
        | with_reducible refine next_of 1000 ?_
        | ((first | refine condS_split (fun h => ?_) (fun h => ?_) | refine testS_split (fun h => ?_) (fun h => ?_) | refine testD_split (fun h => ?_) (fun h => ?_)) <;> (try simp only [bne_iff_ne, ne_eq, beq_iff_eq, decide_eq_true_eq, decide_eq_false_iff_not, Bool.not_eq_true, Bool.not_eq_false, Bool.not_true, Bool.not_false, bne_eq_false_iff_eq, beq_eq_false_iff_ne, Bool.and_eq_true, Bool.or_eq_true, Bool.and_eq_false_imp, Bool.or_eq_false_iff, Bool.not_eq_true', Bool.not_eq_false', Int.not_lt, Int.not_le] at h) <;> (try (exfalso; omega))))
      refine callS_pure (wE (x / y)) en89 (closed_wE _ _) (fun bs w' hh => by
        rw [wV_real]
        have := (hh.live 200002 _ rfl).2
        simp only [EObj.real, reals_ints] at this
        refine word_calls this (dbd _) hx4 (Nat.le_refl _) ?_
        rw [num_dig, Nat.mod_eq_of_lt (Nat.lt_of_le_of_lt (Nat.div_le_self _ _) (limbs_le.1 (Nat.le_refl _)))]) (next_of 1000 ?_)
      repeat' (first
        | with_reducible refine And.intro (by first | omega | assumption | (constructor <;> assumption) | (simp; done) | (simp; omega) | (simp [*]; done)) ?_
        | simp (maxSteps := 4000000) (disch := omega) only [go_sem, Nat.reduceBEq, Nat.reduceAdd, Nat.reduceMul, Nat.reduceSub, Nat.reduceLT, Nat.reduceLeDiff, Int.reduceToNat, Int.reduceLT, Int.reduceLE, Int.reduceAdd, Int.reduceMul, Int.reduceSub, Int.reduceNeg, Int.reduceDiv, Int.reduceMod, Nat.reduceBNe, Nat.reduceGT, Int.reduceBEq, Int.reduceBNe, Int.reduceGT, Nat.reduceDiv, Nat.reduceMod, Nat.reducePow, Int.reducePow, gt_iff_lt, ge_iff_le, List.reduceReplicate, ↓reduceIte]
        | with_reducible refine roundS (next_of 1000 ?_)
        | with_reducible refine drawN_of (id := 1) mixed (by kernel_rfl) (by simp; done) (dg_of 1000 ?_)
        | with_reducible refine endN_of (by kernel_rfl) rfl (by simp [nmRes, off_eq, offL, av, avs, EObj.av, sentE, avs_ints, avs_wC, hasEdge_eq, edgeL, Region.binds]) (next_of 1000 ?_)
        | with_reducible refine drawS_of mixed (by kernel_rfl) (dg_of 1000 ?_)
        | with_reducible refine endD_of (by kernel_rfl) (next_of 1000 ?_)
        | with_reducible refine next_of 1000 ?_
        | ((first | refine condS_split (fun h => ?_) (fun h => ?_) | refine testS_split (fun h => ?_) (fun h => ?_) | refine testD_split (fun h => ?_) (fun h => ?_)) <;> (try simp only [bne_iff_ne, ne_eq, beq_iff_eq, decide_eq_true_eq, decide_eq_false_iff_not, Bool.not_eq_true, Bool.not_eq_false, Bool.not_true, Bool.not_false, bne_eq_false_iff_eq, beq_eq_false_iff_ne, Bool.and_eq_true, Bool.or_eq_true, Bool.and_eq_false_imp, Bool.or_eq_false_iff, Bool.not_eq_true', Bool.not_eq_false', Int.not_lt, Int.not_le] at h) <;> (try (exfalso; omega))))
    · obtain ⟨d1, d2⟩ := less_div h2
      rw [d1]
      refine pure_p (args := [wE x, wE y]) en41 (by simp [closed, closeds, closed_wE, closeds_ints]) Tryd.func41 rfl in41 (by simp [Tryd.f41]) (by simp [closeds, closed, closed_wE, closeds_ints]) (fun w => next_of 1000 ?_)
      simp (maxSteps := 4000000) (disch := omega) only [go_sem, Nat.reduceBEq, Nat.reduceAdd, Nat.reduceMul, Nat.reduceSub, Nat.reduceLT, Nat.reduceLeDiff, Int.reduceToNat, Int.reduceLT, Int.reduceLE, Int.reduceAdd, Int.reduceMul, Int.reduceSub, Int.reduceNeg, Int.reduceDiv, Int.reduceMod, Nat.reduceBNe, Nat.reduceGT, Int.reduceBEq, Int.reduceBNe, Int.reduceGT, Nat.reduceDiv, Nat.reduceMod, Nat.reducePow, Int.reducePow, gt_iff_lt, ge_iff_le, List.reduceReplicate, ↓reduceIte, Tryd.f41]
      repeat (with_reducible refine And.intro (by first | omega | assumption | (constructor <;> assumption) | (simp; done) | (simp; omega) | (simp [*]; done)) ?_)
      repeat' (first
        | with_reducible refine And.intro (by first | omega | assumption | (constructor <;> assumption) | (simp; done) | (simp; omega) | (simp [*]; done)) ?_
        | simp (maxSteps := 4000000) (disch := omega) only [go_sem, Nat.reduceBEq, Nat.reduceAdd, Nat.reduceMul, Nat.reduceSub, Nat.reduceLT, Nat.reduceLeDiff, Int.reduceToNat, Int.reduceLT, Int.reduceLE, Int.reduceAdd, Int.reduceMul, Int.reduceSub, Int.reduceNeg, Int.reduceDiv, Int.reduceMod, Nat.reduceBNe, Nat.reduceGT, Int.reduceBEq, Int.reduceBNe, Int.reduceGT, Nat.reduceDiv, Nat.reduceMod, Nat.reducePow, Int.reducePow, gt_iff_lt, ge_iff_le, List.reduceReplicate, ↓reduceIte, ite_self]
        | with_reducible refine roundS (next_of 1000 ?_)
        | with_reducible refine drawN_of (id := 1) mixed (by kernel_rfl) (by simp; done) (dg_of 1000 ?_)
        | with_reducible refine endN_of (by kernel_rfl) rfl (by simp [nmRes, off_eq, offL, av, avs, EObj.av, sentE, avs_ints, avs_wC, hasEdge_eq, edgeL, Region.binds]) (next_of 1000 ?_)
        | with_reducible refine drawS_of mixed (by kernel_rfl) (dg_of 1000 ?_)
        | with_reducible refine endD_of (by kernel_rfl) (next_of 1000 ?_)
        | with_reducible refine next_of 1000 ?_
        | ((first | refine condS_split (fun h => ?_) (fun h => ?_) | refine testS_split (fun h => ?_) (fun h => ?_) | refine testD_split (fun h => ?_) (fun h => ?_)) <;> (try simp only [bne_iff_ne, ne_eq, beq_iff_eq, decide_eq_true_eq, decide_eq_false_iff_not, Bool.not_eq_true, Bool.not_eq_false, Bool.not_true, Bool.not_false, bne_eq_false_iff_eq, beq_eq_false_iff_ne, Bool.and_eq_true, Bool.or_eq_true, Bool.and_eq_false_imp, Bool.or_eq_false_iff, Bool.not_eq_true', Bool.not_eq_false', Int.not_lt, Int.not_le] at h) <;> (try (exfalso; omega))))
      refine callD_pure (.tup [.raw (.slice none 0 0), wE x]) [0] en88 (by simp [closed, closeds, closed_wE]) (fun y bs w' hB hf hh => ?_) (dg_of 1000 ?_)
      · simp only [real, reals]
        exact both_less (xin_of hh hx ((hf 0 (by simp)).trans rfl)) hy h0 h1 h2
      repeat' (first
        | with_reducible refine And.intro (by first | omega | assumption | (constructor <;> assumption) | (simp; done) | (simp; omega) | (simp [*]; done)) ?_
        | simp (maxSteps := 4000000) (disch := omega) only [go_sem, Nat.reduceBEq, Nat.reduceAdd, Nat.reduceMul, Nat.reduceSub, Nat.reduceLT, Nat.reduceLeDiff, Int.reduceToNat, Int.reduceLT, Int.reduceLE, Int.reduceAdd, Int.reduceMul, Int.reduceSub, Int.reduceNeg, Int.reduceDiv, Int.reduceMod, Nat.reduceBNe, Nat.reduceGT, Int.reduceBEq, Int.reduceBNe, Int.reduceGT, Nat.reduceDiv, Nat.reduceMod, Nat.reducePow, Int.reducePow, gt_iff_lt, ge_iff_le, List.reduceReplicate, ↓reduceIte]
        | with_reducible refine roundS (next_of 1000 ?_)
        | with_reducible refine drawN_of (id := 1) mixed (by kernel_rfl) (by simp; done) (dg_of 1000 ?_)
        | with_reducible refine endN_of (by kernel_rfl) rfl (by simp [nmRes, off_eq, offL, av, avs, EObj.av, sentE, avs_ints, avs_wC, hasEdge_eq, edgeL, Region.binds]) (next_of 1000 ?_)
        | with_reducible refine drawS_of mixed (by kernel_rfl) (dg_of 1000 ?_)
        | with_reducible refine endD_of (by kernel_rfl) (next_of 1000 ?_)
        | with_reducible refine next_of 1000 ?_
        | ((first | refine condS_split (fun h => ?_) (fun h => ?_) | refine testS_split (fun h => ?_) (fun h => ?_) | refine testD_split (fun h => ?_) (fun h => ?_)) <;> (try simp only [bne_iff_ne, ne_eq, beq_iff_eq, decide_eq_true_eq, decide_eq_false_iff_not, Bool.not_eq_true, Bool.not_eq_false, Bool.not_true, Bool.not_false, bne_eq_false_iff_eq, beq_eq_false_iff_ne, Bool.and_eq_true, Bool.or_eq_true, Bool.and_eq_false_imp, Bool.or_eq_false_iff, Bool.not_eq_true', Bool.not_eq_false', Int.not_lt, Int.not_le] at h) <;> (try (exfalso; omega))))
      refine callS_pure (wE 0) en89 (closed_wE _ _) (fun bs w' hh => by rw [wV_real]; exact word_nil w') (next_of 1000 ?_)
      repeat' (first
        | with_reducible refine And.intro (by first | omega | assumption | (constructor <;> assumption) | (simp; done) | (simp; omega) | (simp [*]; done)) ?_
        | simp (maxSteps := 4000000) (disch := omega) only [go_sem, Nat.reduceBEq, Nat.reduceAdd, Nat.reduceMul, Nat.reduceSub, Nat.reduceLT, Nat.reduceLeDiff, Int.reduceToNat, Int.reduceLT, Int.reduceLE, Int.reduceAdd, Int.reduceMul, Int.reduceSub, Int.reduceNeg, Int.reduceDiv, Int.reduceMod, Nat.reduceBNe, Nat.reduceGT, Int.reduceBEq, Int.reduceBNe, Int.reduceGT, Nat.reduceDiv, Nat.reduceMod, Nat.reducePow, Int.reducePow, gt_iff_lt, ge_iff_le, List.reduceReplicate, ↓reduceIte]
        | with_reducible refine roundS (next_of 1000 ?_)
        | with_reducible refine drawN_of (id := 1) mixed (by kernel_rfl) (by simp; done) (dg_of 1000 ?_)
        | with_reducible refine endN_of (by kernel_rfl) rfl (by simp [nmRes, off_eq, offL, av, avs, EObj.av, sentE, avs_ints, avs_wC, hasEdge_eq, edgeL, Region.binds]) (next_of 1000 ?_)
        | with_reducible refine drawS_of mixed (by kernel_rfl) (dg_of 1000 ?_)
        | with_reducible refine endD_of (by kernel_rfl) (next_of 1000 ?_)
        | with_reducible refine next_of 1000 ?_
        | ((first | refine condS_split (fun h => ?_) (fun h => ?_) | refine testS_split (fun h => ?_) (fun h => ?_) | refine testD_split (fun h => ?_) (fun h => ?_)) <;> (try simp only [bne_iff_ne, ne_eq, beq_iff_eq, decide_eq_true_eq, decide_eq_false_iff_not, Bool.not_eq_true, Bool.not_eq_false, Bool.not_true, Bool.not_false, bne_eq_false_iff_eq, beq_eq_false_iff_ne, Bool.and_eq_true, Bool.or_eq_true, Bool.and_eq_false_imp, Bool.or_eq_false_iff, Bool.not_eq_true', Bool.not_eq_false', Int.not_lt, Int.not_le] at h) <;> (try (exfalso; omega))))
    · refine pure_p (args := [wE x, wE y]) en41 (by simp [closed, closeds, closed_wE, closeds_ints]) Tryd.func41 rfl in41 (by simp [Tryd.f41]) (by simp [closeds, closed, closed_wE, closeds_ints]) (fun w => next_of 1000 ?_)
      simp (maxSteps := 4000000) (disch := omega) only [go_sem, Nat.reduceBEq, Nat.reduceAdd, Nat.reduceMul, Nat.reduceSub, Nat.reduceLT, Nat.reduceLeDiff, Int.reduceToNat, Int.reduceLT, Int.reduceLE, Int.reduceAdd, Int.reduceMul, Int.reduceSub, Int.reduceNeg, Int.reduceDiv, Int.reduceMod, Nat.reduceBNe, Nat.reduceGT, Int.reduceBEq, Int.reduceBNe, Int.reduceGT, Nat.reduceDiv, Nat.reduceMod, Nat.reducePow, Int.reducePow, gt_iff_lt, ge_iff_le, List.reduceReplicate, ↓reduceIte, Tryd.f41]
      repeat (with_reducible refine And.intro (by first | omega | assumption | (constructor <;> assumption) | (simp; done) | (simp; omega) | (simp [*]; done)) ?_)
      repeat' (first
        | with_reducible refine And.intro (by first | omega | assumption | (constructor <;> assumption) | (simp; done) | (simp; omega) | (simp [*]; done)) ?_
        | simp (maxSteps := 4000000) (disch := omega) only [go_sem, Nat.reduceBEq, Nat.reduceAdd, Nat.reduceMul, Nat.reduceSub, Nat.reduceLT, Nat.reduceLeDiff, Int.reduceToNat, Int.reduceLT, Int.reduceLE, Int.reduceAdd, Int.reduceMul, Int.reduceSub, Int.reduceNeg, Int.reduceDiv, Int.reduceMod, Nat.reduceBNe, Nat.reduceGT, Int.reduceBEq, Int.reduceBNe, Int.reduceGT, Nat.reduceDiv, Nat.reduceMod, Nat.reducePow, Int.reducePow, gt_iff_lt, ge_iff_le, List.reduceReplicate, ↓reduceIte, ite_self]
        | with_reducible refine roundS (next_of 1000 ?_)
        | with_reducible refine drawN_of (id := 1) mixed (by kernel_rfl) (by simp; done) (dg_of 1000 ?_)
        | with_reducible refine endN_of (by kernel_rfl) rfl (by simp [nmRes, off_eq, offL, av, avs, EObj.av, sentE, avs_ints, avs_wC, hasEdge_eq, edgeL, Region.binds]) (next_of 1000 ?_)
        | with_reducible refine drawS_of mixed (by kernel_rfl) (dg_of 1000 ?_)
        | with_reducible refine endD_of (by kernel_rfl) (next_of 1000 ?_)
        | with_reducible refine next_of 1000 ?_
        | ((first | refine condS_split (fun h => ?_) (fun h => ?_) | refine testS_split (fun h => ?_) (fun h => ?_) | refine testD_split (fun h => ?_) (fun h => ?_)) <;> (try simp only [bne_iff_ne, ne_eq, beq_iff_eq, decide_eq_true_eq, decide_eq_false_iff_not, Bool.not_eq_true, Bool.not_eq_false, Bool.not_true, Bool.not_false, bne_eq_false_iff_eq, beq_eq_false_iff_ne, Bool.and_eq_true, Bool.or_eq_true, Bool.and_eq_false_imp, Bool.or_eq_false_iff, Bool.not_eq_true', Bool.not_eq_false', Int.not_lt, Int.not_le] at h) <;> (try (exfalso; omega))))
      refine callD_new (.tup [.sl 4 0 (m + 1) (m + 1), wE (x % y)]) _ [0] en88 ?_ ?_ ?_ (fun y bs w' hB hf hh => by simp only [real, reals]; exact both_long (xin_of hh hx ((hf 0 (by simp)).trans rfl)) hy h1 h2 rfl) (dg_of 1000 ?_)
      · simp [closed, closeds, closed_wE]
      · simp [EObj.closed, closeds_ints, closeds, closed, closeds_wC]
      · simp
      repeat' (first
        | with_reducible refine And.intro (by first | omega | assumption | (constructor <;> assumption) | (simp; done) | (simp; omega) | (simp [*]; done)) ?_
        | simp (maxSteps := 4000000) (disch := omega) only [go_sem, Nat.reduceBEq, Nat.reduceAdd, Nat.reduceMul, Nat.reduceSub, Nat.reduceLT, Nat.reduceLeDiff, Int.reduceToNat, Int.reduceLT, Int.reduceLE, Int.reduceAdd, Int.reduceMul, Int.reduceSub, Int.reduceNeg, Int.reduceDiv, Int.reduceMod, Nat.reduceBNe, Nat.reduceGT, Int.reduceBEq, Int.reduceBNe, Int.reduceGT, Nat.reduceDiv, Nat.reduceMod, Nat.reducePow, Int.reducePow, gt_iff_lt, ge_iff_le, List.reduceReplicate, ↓reduceIte]
        | with_reducible refine roundS (next_of 1000 ?_)
        | with_reducible refine drawN_of (id := 1) mixed (by kernel_rfl) (by simp; done) (dg_of 1000 ?_)
        | with_reducible refine endN_of (by kernel_rfl) rfl (by simp [nmRes, off_eq, offL, av, avs, EObj.av, sentE, avs_ints, avs_wC, hasEdge_eq, edgeL, Region.binds]) (next_of 1000 ?_)
        | with_reducible refine drawS_of mixed (by kernel_rfl) (dg_of 1000 ?_)
        | with_reducible refine endD_of (by kernel_rfl) (next_of 1000 ?_)
        | with_reducible refine next_of 1000 ?_
        | ((first | refine condS_split (fun h => ?_) (fun h => ?_) | refine testS_split (fun h => ?_) (fun h => ?_) | refine testD_split (fun h => ?_) (fun h => ?_)) <;> (try simp only [bne_iff_ne, ne_eq, beq_iff_eq, decide_eq_true_eq, decide_eq_false_iff_not, Bool.not_eq_true, Bool.not_eq_false, Bool.not_true, Bool.not_false, bne_eq_false_iff_eq, beq_eq_false_iff_ne, Bool.and_eq_true, Bool.or_eq_true, Bool.and_eq_false_imp, Bool.or_eq_false_iff, Bool.not_eq_true', Bool.not_eq_false', Int.not_lt, Int.not_le] at h) <;> (try (exfalso; omega))))
      refine callS_pure (wE (x / y)) en89 (closed_wE _ _) (fun bs w' hh => by
        rw [wV_real]
        have := (hh.live 200004 _ rfl).2
        simp only [EObj.real, reals_ints] at this
        refine word_calls this (dbd _) (by omega) (Nat.le_refl _) ?_
        rw [num_dig, Nat.mod_eq_of_lt (div_lt_limbs h1 h2)]) (next_of 1000 ?_)
      repeat' (first
        | with_reducible refine And.intro (by first | omega | assumption | (constructor <;> assumption) | (simp; done) | (simp; omega) | (simp [*]; done)) ?_
        | simp (maxSteps := 4000000) (disch := omega) only [go_sem, Nat.reduceBEq, Nat.reduceAdd, Nat.reduceMul, Nat.reduceSub, Nat.reduceLT, Nat.reduceLeDiff, Int.reduceToNat, Int.reduceLT, Int.reduceLE, Int.reduceAdd, Int.reduceMul, Int.reduceSub, Int.reduceNeg, Int.reduceDiv, Int.reduceMod, Nat.reduceBNe, Nat.reduceGT, Int.reduceBEq, Int.reduceBNe, Int.reduceGT, Nat.reduceDiv, Nat.reduceMod, Nat.reducePow, Int.reducePow, gt_iff_lt, ge_iff_le, List.reduceReplicate, ↓reduceIte]
        | with_reducible refine roundS (next_of 1000 ?_)
        | with_reducible refine drawN_of (id := 1) mixed (by kernel_rfl) (by simp; done) (dg_of 1000 ?_)
        | with_reducible refine endN_of (by kernel_rfl) rfl (by simp [nmRes, off_eq, offL, av, avs, EObj.av, sentE, avs_ints, avs_wC, hasEdge_eq, edgeL, Region.binds]) (next_of 1000 ?_)
        | with_reducible refine drawS_of mixed (by kernel_rfl) (dg_of 1000 ?_)
        | with_reducible refine endD_of (by kernel_rfl) (next_of 1000 ?_)
        | with_reducible refine next_of 1000 ?_
        | ((first | refine condS_split (fun h => ?_) (fun h => ?_) | refine testS_split (fun h => ?_) (fun h => ?_) | refine testD_split (fun h => ?_) (fun h => ?_)) <;> (try simp only [bne_iff_ne, ne_eq, beq_iff_eq, decide_eq_true_eq, decide_eq_false_iff_not, Bool.not_eq_true, Bool.not_eq_false, Bool.not_true, Bool.not_false, bne_eq_false_iff_eq, beq_eq_false_iff_ne, Bool.and_eq_true, Bool.or_eq_true, Bool.and_eq_false_imp, Bool.or_eq_false_iff, Bool.not_eq_true', Bool.not_eq_false', Int.not_lt, Int.not_le] at h) <;> (try (exfalso; omega))))
theorem mod_p (x y : Nat) (hx : x < 115792089237316195423570985008687907853269984665640564039457584007913129639936) (hy : y < 115792089237316195423570985008687907853269984665640564039457584007913129639936) : Pure Tryd.prog 43 [wE x, wE y] (wE (if y = 0 then 0 else x % y)) := by
  by_cases h0 : y = 0
  · subst h0
    rw [if_pos rfl]
    refine pure_p (args := [wE x, wE 0]) en43 (by simp [closed, closeds, closed_wE, closeds_ints]) Tryd.func43 rfl in43 (by simp [Tryd.f43]) (by simp [closeds, closed, closed_wE, closeds_ints]) (fun w => next_of 1000 ?_)
    simp (maxSteps := 4000000) (disch := omega) only [go_sem, Nat.reduceBEq, Nat.reduceAdd, Nat.reduceMul, Nat.reduceSub, Nat.reduceLT, Nat.reduceLeDiff, Int.reduceToNat, Int.reduceLT, Int.reduceLE, Int.reduceAdd, Int.reduceMul, Int.reduceSub, Int.reduceNeg, Int.reduceDiv, Int.reduceMod, Nat.reduceBNe, Nat.reduceGT, Int.reduceBEq, Int.reduceBNe, Int.reduceGT, Nat.reduceDiv, Nat.reduceMod, Nat.reducePow, Int.reducePow, gt_iff_lt, ge_iff_le, List.reduceReplicate, ↓reduceIte, Tryd.f43]
    repeat (with_reducible refine And.intro (by first | omega | assumption | (constructor <;> assumption) | (simp; done) | (simp; omega) | (simp [*]; done)) ?_)
    repeat' (first
      | with_reducible refine And.intro (by first | omega | assumption | (constructor <;> assumption) | (simp; done) | (simp; omega) | (simp [*]; done)) ?_
      | simp (maxSteps := 4000000) (disch := omega) only [go_sem, Nat.reduceBEq, Nat.reduceAdd, Nat.reduceMul, Nat.reduceSub, Nat.reduceLT, Nat.reduceLeDiff, Int.reduceToNat, Int.reduceLT, Int.reduceLE, Int.reduceAdd, Int.reduceMul, Int.reduceSub, Int.reduceNeg, Int.reduceDiv, Int.reduceMod, Nat.reduceBNe, Nat.reduceGT, Int.reduceBEq, Int.reduceBNe, Int.reduceGT, Nat.reduceDiv, Nat.reduceMod, Nat.reducePow, Int.reducePow, gt_iff_lt, ge_iff_le, List.reduceReplicate, ↓reduceIte, ite_self]
      | with_reducible refine roundS (next_of 1000 ?_)
      | with_reducible refine drawN_of (id := 1) mixed (by kernel_rfl) (by simp; done) (dg_of 1000 ?_)
      | with_reducible refine endN_of (by kernel_rfl) rfl (by simp [nmRes, off_eq, offL, av, avs, EObj.av, sentE, avs_ints, avs_wC, hasEdge_eq, edgeL, Region.binds]) (next_of 1000 ?_)
      | with_reducible refine drawS_of mixed (by kernel_rfl) (dg_of 1000 ?_)
      | with_reducible refine endD_of (by kernel_rfl) (next_of 1000 ?_)
      | with_reducible refine next_of 1000 ?_
      | ((first | refine condS_split (fun h => ?_) (fun h => ?_) | refine testS_split (fun h => ?_) (fun h => ?_) | refine testD_split (fun h => ?_) (fun h => ?_)) <;> (try simp only [bne_iff_ne, ne_eq, beq_iff_eq, decide_eq_true_eq, decide_eq_false_iff_not, Bool.not_eq_true, Bool.not_eq_false, Bool.not_true, Bool.not_false, bne_eq_false_iff_eq, beq_eq_false_iff_ne, Bool.and_eq_true, Bool.or_eq_true, Bool.and_eq_false_imp, Bool.or_eq_false_iff, Bool.not_eq_true', Bool.not_eq_false', Int.not_lt, Int.not_le] at h) <;> (try (exfalso; omega))))
    refine callD_pure (.tup [.raw (.slice none 0 0), wE 0]) [0] en88 (by simp [closed, closeds, closed_wE]) (fun y bs w' hB hf hh => ?_) (dg_of 1000 ?_)
    · simp only [real, reals]
      exact both_zero (xin_of hh hx ((hf 0 (by simp)).trans rfl))
    repeat' (first
      | with_reducible refine And.intro (by first | omega | assumption | (constructor <;> assumption) | (simp; done) | (simp; omega) | (simp [*]; done)) ?_
      | simp (maxSteps := 4000000) (disch := omega) only [go_sem, Nat.reduceBEq, Nat.reduceAdd, Nat.reduceMul, Nat.reduceSub, Nat.reduceLT, Nat.reduceLeDiff, Int.reduceToNat, Int.reduceLT, Int.reduceLE, Int.reduceAdd, Int.reduceMul, Int.reduceSub, Int.reduceNeg, Int.reduceDiv, Int.reduceMod, Nat.reduceBNe, Nat.reduceGT, Int.reduceBEq, Int.reduceBNe, Int.reduceGT, Nat.reduceDiv, Nat.reduceMod, Nat.reducePow, Int.reducePow, gt_iff_lt, ge_iff_le, List.reduceReplicate, ↓reduceIte]
      | with_reducible refine roundS (next_of 1000 ?_)
      | with_reducible refine drawN_of (id := 1) mixed (by kernel_rfl) (by simp; done) (dg_of 1000 ?_)
      | with_reducible refine endN_of (by kernel_rfl) rfl (by simp [nmRes, off_eq, offL, av, avs, EObj.av, sentE, avs_ints, avs_wC, hasEdge_eq, edgeL, Region.binds]) (next_of 1000 ?_)
      | with_reducible refine drawS_of mixed (by kernel_rfl) (dg_of 1000 ?_)
      | with_reducible refine endD_of (by kernel_rfl) (next_of 1000 ?_)
      | with_reducible refine next_of 1000 ?_
      | ((first | refine condS_split (fun h => ?_) (fun h => ?_) | refine testS_split (fun h => ?_) (fun h => ?_) | refine testD_split (fun h => ?_) (fun h => ?_)) <;> (try simp only [bne_iff_ne, ne_eq, beq_iff_eq, decide_eq_true_eq, decide_eq_false_iff_not, Bool.not_eq_true, Bool.not_eq_false, Bool.not_true, Bool.not_false, bne_eq_false_iff_eq, beq_eq_false_iff_ne, Bool.and_eq_true, Bool.or_eq_true, Bool.and_eq_false_imp, Bool.or_eq_false_iff, Bool.not_eq_true', Bool.not_eq_false', Int.not_lt, Int.not_le] at h) <;> (try (exfalso; omega))))
  · rw [if_neg h0]
    rcases ways x h0 with h1 | ⟨h1, h2⟩ | ⟨n, m, h1, h2⟩
    · refine pure_p (args := [wE x, wE y]) en43 (by simp [closed, closeds, closed_wE, closeds_ints]) Tryd.func43 rfl in43 (by simp [Tryd.f43]) (by simp [closeds, closed, closed_wE, closeds_ints]) (fun w => next_of 1000 ?_)
      simp (maxSteps := 4000000) (disch := omega) only [go_sem, Nat.reduceBEq, Nat.reduceAdd, Nat.reduceMul, Nat.reduceSub, Nat.reduceLT, Nat.reduceLeDiff, Int.reduceToNat, Int.reduceLT, Int.reduceLE, Int.reduceAdd, Int.reduceMul, Int.reduceSub, Int.reduceNeg, Int.reduceDiv, Int.reduceMod, Nat.reduceBNe, Nat.reduceGT, Int.reduceBEq, Int.reduceBNe, Int.reduceGT, Nat.reduceDiv, Nat.reduceMod, Nat.reducePow, Int.reducePow, gt_iff_lt, ge_iff_le, List.reduceReplicate, ↓reduceIte, Tryd.f43]
      repeat (with_reducible refine And.intro (by first | omega | assumption | (constructor <;> assumption) | (simp; done) | (simp; omega) | (simp [*]; done)) ?_)
      repeat' (first
        | with_reducible refine And.intro (by first | omega | assumption | (constructor <;> assumption) | (simp; done) | (simp; omega) | (simp [*]; done)) ?_
        | simp (maxSteps := 4000000) (disch := omega) only [go_sem, Nat.reduceBEq, Nat.reduceAdd, Nat.reduceMul, Nat.reduceSub, Nat.reduceLT, Nat.reduceLeDiff, Int.reduceToNat, Int.reduceLT, Int.reduceLE, Int.reduceAdd, Int.reduceMul, Int.reduceSub, Int.reduceNeg, Int.reduceDiv, Int.reduceMod, Nat.reduceBNe, Nat.reduceGT, Int.reduceBEq, Int.reduceBNe, Int.reduceGT, Nat.reduceDiv, Nat.reduceMod, Nat.reducePow, Int.reducePow, gt_iff_lt, ge_iff_le, List.reduceReplicate, ↓reduceIte, ite_self]
        | with_reducible refine roundS (next_of 1000 ?_)
        | with_reducible refine drawN_of (id := 1) mixed (by kernel_rfl) (by simp; done) (dg_of 1000 ?_)
        | with_reducible refine endN_of (by kernel_rfl) rfl (by simp [nmRes, off_eq, offL, av, avs, EObj.av, sentE, avs_ints, avs_wC, hasEdge_eq, edgeL, Region.binds]) (next_of 1000 ?_)
        | with_reducible refine drawS_of mixed (by kernel_rfl) (dg_of 1000 ?_)
        | with_reducible refine endD_of (by kernel_rfl) (next_of 1000 ?_)
        | with_reducible refine next_of 1000 ?_
        | ((first | refine condS_split (fun h => ?_) (fun h => ?_) | refine testS_split (fun h => ?_) (fun h => ?_) | refine testD_split (fun h => ?_) (fun h => ?_)) <;> (try simp only [bne_iff_ne, ne_eq, beq_iff_eq, decide_eq_true_eq, decide_eq_false_iff_not, Bool.not_eq_true, Bool.not_eq_false, Bool.not_true, Bool.not_false, bne_eq_false_iff_eq, beq_eq_false_iff_ne, Bool.and_eq_true, Bool.or_eq_true, Bool.and_eq_false_imp, Bool.or_eq_false_iff, Bool.not_eq_true', Bool.not_eq_false', Int.not_lt, Int.not_le] at h) <;> (try (exfalso; omega))))
      refine callD_new (.tup [.sl 2 0 (limbs x) (limbs x), wE (x % y)]) _ [0] en88 ?_ ?_ ?_ (fun y bs w' hB hf hh => by simp only [real, reals]; exact both_short (xin_of hh hx ((hf 0 (by simp)).trans rfl)) hy h1) (dg_of 1000 ?_)
      · simp [closed, closeds, closed_wE]
      · simp [EObj.closed, closeds_ints, closeds, closed, closeds_wC]
      · simp
      repeat' (first
        | with_reducible refine And.intro (by first | omega | assumption | (constructor <;> assumption) | (simp; done) | (simp; omega) | (simp [*]; done)) ?_
        | simp (maxSteps := 4000000) (disch := omega) only [go_sem, Nat.reduceBEq, Nat.reduceAdd, Nat.reduceMul, Nat.reduceSub, Nat.reduceLT, Nat.reduceLeDiff, Int.reduceToNat, Int.reduceLT, Int.reduceLE, Int.reduceAdd, Int.reduceMul, Int.reduceSub, Int.reduceNeg, Int.reduceDiv, Int.reduceMod, Nat.reduceBNe, Nat.reduceGT, Int.reduceBEq, Int.reduceBNe, Int.reduceGT, Nat.reduceDiv, Nat.reduceMod, Nat.reducePow, Int.reducePow, gt_iff_lt, ge_iff_le, List.reduceReplicate, ↓reduceIte]
        | with_reducible refine roundS (next_of 1000 ?_)
        | with_reducible refine drawN_of (id := 1) mixed (by kernel_rfl) (by simp; done) (dg_of 1000 ?_)
        | with_reducible refine endN_of (by kernel_rfl) rfl (by simp [nmRes, off_eq, offL, av, avs, EObj.av, sentE, avs_ints, avs_wC, hasEdge_eq, edgeL, Region.binds]) (next_of 1000 ?_)
        | with_reducible refine drawS_of mixed (by kernel_rfl) (dg_of 1000 ?_)
        | with_reducible refine endD_of (by kernel_rfl) (next_of 1000 ?_)
        | with_reducible refine next_of 1000 ?_
        | ((first | refine condS_split (fun h => ?_) (fun h => ?_) | refine testS_split (fun h => ?_) (fun h => ?_) | refine testD_split (fun h => ?_) (fun h => ?_)) <;> (try simp only [bne_iff_ne, ne_eq, beq_iff_eq, decide_eq_true_eq, decide_eq_false_iff_not, Bool.not_eq_true, Bool.not_eq_false, Bool.not_true, Bool.not_false, bne_eq_false_iff_eq, beq_eq_false_iff_ne, Bool.and_eq_true, Bool.or_eq_true, Bool.and_eq_false_imp, Bool.or_eq_false_iff, Bool.not_eq_true', Bool.not_eq_false', Int.not_lt, Int.not_le] at h) <;> (try (exfalso; omega))))
    · obtain ⟨d1, d2⟩ := less_div h2
      rw [d2]
      refine pure_p (args := [wE x, wE y]) en43 (by simp [closed, closeds, closed_wE, closeds_ints]) Tryd.func43 rfl in43 (by simp [Tryd.f43]) (by simp [closeds, closed, closed_wE, closeds_ints]) (fun w => next_of 1000 ?_)
      simp (maxSteps := 4000000) (disch := omega) only [go_sem, Nat.reduceBEq, Nat.reduceAdd, Nat.reduceMul, Nat.reduceSub, Nat.reduceLT, Nat.reduceLeDiff, Int.reduceToNat, Int.reduceLT, Int.reduceLE, Int.reduceAdd, Int.reduceMul, Int.reduceSub, Int.reduceNeg, Int.reduceDiv, Int.reduceMod, Nat.reduceBNe, Nat.reduceGT, Int.reduceBEq, Int.reduceBNe, Int.reduceGT, Nat.reduceDiv, Nat.reduceMod, Nat.reducePow, Int.reducePow, gt_iff_lt, ge_iff_le, List.reduceReplicate, ↓reduceIte, Tryd.f43]
      repeat (with_reducible refine And.intro (by first | omega | assumption | (constructor <;> assumption) | (simp; done) | (simp; omega) | (simp [*]; done)) ?_)
      repeat' (first
        | with_reducible refine And.intro (by first | omega | assumption | (constructor <;> assumption) | (simp; done) | (simp; omega) | (simp [*]; done)) ?_
        | simp (maxSteps := 4000000) (disch := omega) only [go_sem, Nat.reduceBEq, Nat.reduceAdd, Nat.reduceMul, Nat.reduceSub, Nat.reduceLT, Nat.reduceLeDiff, Int.reduceToNat, Int.reduceLT, Int.reduceLE, Int.reduceAdd, Int.reduceMul, Int.reduceSub, Int.reduceNeg, Int.reduceDiv, Int.reduceMod, Nat.reduceBNe, Nat.reduceGT, Int.reduceBEq, Int.reduceBNe, Int.reduceGT, Nat.reduceDiv, Nat.reduceMod, Nat.reducePow, Int.reducePow, gt_iff_lt, ge_iff_le, List.reduceReplicate, ↓reduceIte, ite_self]
        | with_reducible refine roundS (next_of 1000 ?_)
        | with_reducible refine drawN_of (id := 1) mixed (by kernel_rfl) (by simp; done) (dg_of 1000 ?_)
        | with_reducible refine endN_of (by kernel_rfl) rfl (by simp [nmRes, off_eq, offL, av, avs, EObj.av, sentE, avs_ints, avs_wC, hasEdge_eq, edgeL, Region.binds]) (next_of 1000 ?_)
        | with_reducible refine drawS_of mixed (by kernel_rfl) (dg_of 1000 ?_)
        | with_reducible refine endD_of (by kernel_rfl) (next_of 1000 ?_)
        | with_reducible refine next_of 1000 ?_
        | ((first | refine condS_split (fun h => ?_) (fun h => ?_) | refine testS_split (fun h => ?_) (fun h => ?_) | refine testD_split (fun h => ?_) (fun h => ?_)) <;> (try simp only [bne_iff_ne, ne_eq, beq_iff_eq, decide_eq_true_eq, decide_eq_false_iff_not, Bool.not_eq_true, Bool.not_eq_false, Bool.not_true, Bool.not_false, bne_eq_false_iff_eq, beq_eq_false_iff_ne, Bool.and_eq_true, Bool.or_eq_true, Bool.and_eq_false_imp, Bool.or_eq_false_iff, Bool.not_eq_true', Bool.not_eq_false', Int.not_lt, Int.not_le] at h) <;> (try (exfalso; omega))))
      refine callD_pure (.tup [.raw (.slice none 0 0), wE x]) [0] en88 (by simp [closed, closeds, closed_wE]) (fun y bs w' hB hf hh => ?_) (dg_of 1000 ?_)
      · simp only [real, reals]
        exact both_less (xin_of hh hx ((hf 0 (by simp)).trans rfl)) hy h0 h1 h2
      repeat' (first
        | with_reducible refine And.intro (by first | omega | assumption | (constructor <;> assumption) | (simp; done) | (simp; omega) | (simp [*]; done)) ?_
        | simp (maxSteps := 4000000) (disch := omega) only [go_sem, Nat.reduceBEq, Nat.reduceAdd, Nat.reduceMul, Nat.reduceSub, Nat.reduceLT, Nat.reduceLeDiff, Int.reduceToNat, Int.reduceLT, Int.reduceLE, Int.reduceAdd, Int.reduceMul, Int.reduceSub, Int.reduceNeg, Int.reduceDiv, Int.reduceMod, Nat.reduceBNe, Nat.reduceGT, Int.reduceBEq, Int.reduceBNe, Int.reduceGT, Nat.reduceDiv, Nat.reduceMod, Nat.reducePow, Int.reducePow, gt_iff_lt, ge_iff_le, List.reduceReplicate, ↓reduceIte]
        | with_reducible refine roundS (next_of 1000 ?_)
        | with_reducible refine drawN_of (id := 1) mixed (by kernel_rfl) (by simp; done) (dg_of 1000 ?_)
        | with_reducible refine endN_of (by kernel_rfl) rfl (by simp [nmRes, off_eq, offL, av, avs, EObj.av, sentE, avs_ints, avs_wC, hasEdge_eq, edgeL, Region.binds]) (next_of 1000 ?_)
        | with_reducible refine drawS_of mixed (by kernel_rfl) (dg_of 1000 ?_)
        | with_reducible refine endD_of (by kernel_rfl) (next_of 1000 ?_)
        | with_reducible refine next_of 1000 ?_
        | ((first | refine condS_split (fun h => ?_) (fun h => ?_) | refine testS_split (fun h => ?_) (fun h => ?_) | refine testD_split (fun h => ?_) (fun h => ?_)) <;> (try simp only [bne_iff_ne, ne_eq, beq_iff_eq, decide_eq_true_eq, decide_eq_false_iff_not, Bool.not_eq_true, Bool.not_eq_false, Bool.not_true, Bool.not_false, bne_eq_false_iff_eq, beq_eq_false_iff_ne, Bool.and_eq_true, Bool.or_eq_true, Bool.and_eq_false_imp, Bool.or_eq_false_iff, Bool.not_eq_true', Bool.not_eq_false', Int.not_lt, Int.not_le] at h) <;> (try (exfalso; omega))))
    · refine pure_p (args := [wE x, wE y]) en43 (by simp [closed, closeds, closed_wE, closeds_ints]) Tryd.func43 rfl in43 (by simp [Tryd.f43]) (by simp [closeds, closed, closed_wE, closeds_ints]) (fun w => next_of 1000 ?_)
      simp (maxSteps := 4000000) (disch := omega) only [go_sem, Nat.reduceBEq, Nat.reduceAdd, Nat.reduceMul, Nat.reduceSub, Nat.reduceLT, Nat.reduceLeDiff, Int.reduceToNat, Int.reduceLT, Int.reduceLE, Int.reduceAdd, Int.reduceMul, Int.reduceSub, Int.reduceNeg, Int.reduceDiv, Int.reduceMod, Nat.reduceBNe, Nat.reduceGT, Int.reduceBEq, Int.reduceBNe, Int.reduceGT, Nat.reduceDiv, Nat.reduceMod, Nat.reducePow, Int.reducePow, gt_iff_lt, ge_iff_le, List.reduceReplicate, ↓reduceIte, Tryd.f43]
      repeat (with_reducible refine And.intro (by first | omega | assumption | (constructor <;> assumption) | (simp; done) | (simp; omega) | (simp [*]; done)) ?_)
      repeat' (first
        | with_reducible refine And.intro (by first | omega | assumption | (constructor <;> assumption) | (simp; done) | (simp; omega) | (simp [*]; done)) ?_
        | simp (maxSteps := 4000000) (disch := omega) only [go_sem, Nat.reduceBEq, Nat.reduceAdd, Nat.reduceMul, Nat.reduceSub, Nat.reduceLT, Nat.reduceLeDiff, Int.reduceToNat, Int.reduceLT, Int.reduceLE, Int.reduceAdd, Int.reduceMul, Int.reduceSub, Int.reduceNeg, Int.reduceDiv, Int.reduceMod, Nat.reduceBNe, Nat.reduceGT, Int.reduceBEq, Int.reduceBNe, Int.reduceGT, Nat.reduceDiv, Nat.reduceMod, Nat.reducePow, Int.reducePow, gt_iff_lt, ge_iff_le, List.reduceReplicate, ↓reduceIte, ite_self]
        | with_reducible refine roundS (next_of 1000 ?_)
        | with_reducible refine drawN_of (id := 1) mixed (by kernel_rfl) (by simp; done) (dg_of 1000 ?_)
        | with_reducible refine endN_of (by kernel_rfl) rfl (by simp [nmRes, off_eq, offL, av, avs, EObj.av, sentE, avs_ints, avs_wC, hasEdge_eq, edgeL, Region.binds]) (next_of 1000 ?_)
        | with_reducible refine drawS_of mixed (by kernel_rfl) (dg_of 1000 ?_)
        | with_reducible refine endD_of (by kernel_rfl) (next_of 1000 ?_)
        | with_reducible refine next_of 1000 ?_
        | ((first | refine condS_split (fun h => ?_) (fun h => ?_) | refine testS_split (fun h => ?_) (fun h => ?_) | refine testD_split (fun h => ?_) (fun h => ?_)) <;> (try simp only [bne_iff_ne, ne_eq, beq_iff_eq, decide_eq_true_eq, decide_eq_false_iff_not, Bool.not_eq_true, Bool.not_eq_false, Bool.not_true, Bool.not_false, bne_eq_false_iff_eq, beq_eq_false_iff_ne, Bool.and_eq_true, Bool.or_eq_true, Bool.and_eq_false_imp, Bool.or_eq_false_iff, Bool.not_eq_true', Bool.not_eq_false', Int.not_lt, Int.not_le] at h) <;> (try (exfalso; omega))))
      refine callD_new (.tup [.sl 4 0 (m + 1) (m + 1), wE (x % y)]) _ [0] en88 ?_ ?_ ?_ (fun y bs w' hB hf hh => by simp only [real, reals]; exact both_long (xin_of hh hx ((hf 0 (by simp)).trans rfl)) hy h1 h2 rfl) (dg_of 1000 ?_)
      · simp [closed, closeds, closed_wE]
      · simp [EObj.closed, closeds_ints, closeds, closed, closeds_wC]
      · simp
      repeat' (first
        | with_reducible refine And.intro (by first | omega | assumption | (constructor <;> assumption) | (simp; done) | (simp; omega) | (simp [*]; done)) ?_
        | simp (maxSteps := 4000000) (disch := omega) only [go_sem, Nat.reduceBEq, Nat.reduceAdd, Nat.reduceMul, Nat.reduceSub, Nat.reduceLT, Nat.reduceLeDiff, Int.reduceToNat, Int.reduceLT, Int.reduceLE, Int.reduceAdd, Int.reduceMul, Int.reduceSub, Int.reduceNeg, Int.reduceDiv, Int.reduceMod, Nat.reduceBNe, Nat.reduceGT, Int.reduceBEq, Int.reduceBNe, Int.reduceGT, Nat.reduceDiv, Nat.reduceMod, Nat.reducePow, Int.reducePow, gt_iff_lt, ge_iff_le, List.reduceReplicate, ↓reduceIte]
        | with_reducible refine roundS (next_of 1000 ?_)
        | with_reducible refine drawN_of (id := 1) mixed (by kernel_rfl) (by simp; done) (dg_of 1000 ?_)
        | with_reducible refine endN_of (by kernel_rfl) rfl (by simp [nmRes, off_eq, offL, av, avs, EObj.av, sentE, avs_ints, avs_wC, hasEdge_eq, edgeL, Region.binds]) (next_of 1000 ?_)
        | with_reducible refine drawS_of mixed (by kernel_rfl) (dg_of 1000 ?_)
        | with_reducible refine endD_of (by kernel_rfl) (next_of 1000 ?_)
        | with_reducible refine next_of 1000 ?_
        | ((first | refine condS_split (fun h => ?_) (fun h => ?_) | refine testS_split (fun h => ?_) (fun h => ?_) | refine testD_split (fun h => ?_) (fun h => ?_)) <;> (try simp only [bne_iff_ne, ne_eq, beq_iff_eq, decide_eq_true_eq, decide_eq_false_iff_not, Bool.not_eq_true, Bool.not_eq_false, Bool.not_true, Bool.not_false, bne_eq_false_iff_eq, beq_eq_false_iff_ne, Bool.and_eq_true, Bool.or_eq_true, Bool.and_eq_false_imp, Bool.or_eq_false_iff, Bool.not_eq_true', Bool.not_eq_false', Int.not_lt, Int.not_le] at h) <;> (try (exfalso; omega))))
end Go.Proofs.YtbilnedgpgpanaaDoor
