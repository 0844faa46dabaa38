/- Part of a proof over the seat YtbilnedgpgpanaaDoor. -/
import Derived.Test.YtbilnedgpgpanaaDoorWF
import Derived.Test.YtbilnedgpgpanaaDoorWG
namespace Go.Proofs.YtbilnedgpgpanaaDoor
open Go Go.Ew
set_option maxRecDepth 100000
set_option linter.unusedSimpArgs false
set_option linter.unusedVariables false
set_option maxHeartbeats 1000000
theorem in140 : codeIn Tryd.f140.ntmps (Tryd.f140.body.getD .skip) = true := by kernel_rfl
theorem in141 : codeIn Tryd.f141.ntmps (Tryd.f141.body.getD .skip) = true := by kernel_rfl
abbrev B : Nat := 18446744073709551616
/-- z, from off on the digits of N, len of them. -/
def putD (z : Nat → Int) (off len N : Nat) : Nat → Int := fun i => if off ≤ i ∧ i < off + len then dig 18446744073709551616 N (i - off) else z i
/-- The number of the limbs from off on. -/
def numS (off : Nat) (z : Nat → Int) (k : Nat) : Int := num 18446744073709551616 (fun j => z (off + j)) k
theorem numS_succ (off : Nat) (z : Nat → Int) (k : Nat) : numS off z (k + 1) = numS off z k + z (off + k) * (18446744073709551616 ^ k : Nat) := rfl
theorem numS_congr {off k : Nat} {x y : Nat → Int} (h : ∀ j, off ≤ j → j < off + k → x j = y j) : numS off x k = numS off y k :=
  num_congr fun i hi => h (off + i) (by omega) (by omega)
theorem numS_bd {off k : Nat} {z : Nat → Int} (h : ∀ j, 0 ≤ z j ∧ z j < 18446744073709551616) : 0 ≤ numS off z k ∧ numS off z k < (18446744073709551616 ^ k : Nat) := num_bd fun i _ => h (off + i)
theorem numS_putD (z : Nat → Int) (off len N : Nat) : numS off (putD z off len N) len = ((N % 18446744073709551616 ^ len : Nat) : Int) := by
  rw [← num_dig]
  exact num_congr fun i hi => by simp only [putD]; rw [if_pos (by omega)]; congr 1; omega
theorem putD_bd {z : Nat → Int} (off len N : Nat) (h : ∀ j, 0 ≤ z j ∧ z j < 18446744073709551616) : ∀ j, 0 ≤ putD z off len N j ∧ putD z off len N j < 18446744073709551616 := by
  intro j; unfold putD; split
  · exact ⟨dig_nn _ _ _, dig_lt (by decide) _ _⟩
  · exact h j
theorem eq_putD {z z' : Nat → Int} {off len N : Nat} (hb : ∀ j, 0 ≤ z' j ∧ z' j < 18446744073709551616) (ho : ∀ j, j < off ∨ off + len ≤ j → z' j = z j) (hN : numS off z' len = (N : Int)) : z' = putD z off len N := by
  funext j
  unfold putD
  by_cases h : off ≤ j ∧ j < off + len
  · rw [if_pos h]
    have := dig_num (b := 18446744073709551616) (by decide) (z := fun i => z' (off + i)) (k := len) (N := N) (fun i _ => hb (off + i)) hN (j - off) (by omega)
    rw [← this]; congr 1; omega
  · rw [if_neg h]; exact ho j (by omega)
theorem fin2a {a b : EObj} : ∀ j, j < 2 → ∃ o, ([some a, some b] : List (Option EObj))[j]? = some (some o) := by
  intro j hj
  have : j = 0 ∨ j = 1 := by omega
  rcases this with rfl | rfl
  · exact ⟨a, rfl⟩
  · exact ⟨b, rfl⟩
theorem fin2b {f : Nat → Option EObj} {a b : EObj} (h0 : f 0 = some a) (h1 : f 1 = some b) : ∀ i o, ([some a, some b] : List (Option EObj))[i]? = some (some o) → f i = some o := by
  intro i o hi
  match i, hi with
  | 0, hi => simp at hi; rw [← hi]; exact h0
  | 1, hi => simp at hi; rw [← hi]; exact h1
  | i + 2, hi => simp at hi
/-- The blocks a and b. -/
structure Two (w : World) (ba bb : Nat) (z y : Nat → Int) (La Lb : Nat) (Ta Tb : TypeId) : Prop where
  ne : ba ≠ bb
  a : w.heap[ba]? = some (.cells (intsV .u64 z La).toArray Ta (0, 0))
  b : w.heap[bb]? = some (.cells (intsV .u64 y Lb).toArray Tb (0, 0))
theorem Two.objs {w ba bb z y La Lb Ta Tb} (h : Two w ba bb z y La Lb Ta Tb) (i b : Nat) (o : EObj) (hi : [ba, bb][i]? = some b) (ho : [EObj.cells (ints .u64 z La) Ta (0, 0), EObj.cells (ints .u64 y Lb) Tb (0, 0)][i]? = some o) :
    w.heap[b]? = some (o.real (bsOf [ba, bb])) ∧ o.closed 2 := by
  match i, hi, ho with
  | 0, hi, ho =>
    simp at hi ho; subst hi; subst ho
    exact ⟨by simp only [EObj.real, reals_ints]; exact h.a, closeds_ints _ _ _ _⟩
  | 1, hi, ho =>
    simp at hi ho; subst hi; subst ho
    exact ⟨by simp only [EObj.real, reals_ints]; exact h.b, closeds_ints _ _ _ _⟩
  | i + 2, hi, ho => simp at hi
structure TIn (z y : Nat → Int) (q : Int) (off i : Nat) (z' : Nat → Int) (c bw : Int) : Prop where
  bd : ∀ j, 0 ≤ z' j ∧ z' j < 18446744073709551616
  c0 : 0 ≤ c
  c1 : c < 18446744073709551616
  w0 : 0 ≤ bw
  w1 : bw ≤ 1
  o : ∀ j, j < off ∨ off + i ≤ j → z' j = z j
  v : numS off z' i + q * num 18446744073709551616 y i = numS off z i + (c + bw) * (18446744073709551616 ^ i : Nat)
theorem numS_setF {off i : Nat} {z : Nat → Int} {v : Int} : numS off (setF z (off + i) v) (i + 1) = numS off z i + v * (18446744073709551616 ^ i : Nat) := by
  rw [numS_succ]
  congr 1
  · exact numS_congr fun j h1 h2 => by simp [setF, show ¬ j = off + i by omega]
  · simp [setF]
theorem TIn.next {z y z' : Nat → Int} {q c bw a' c' bw' : Int} {off i : Nat} (h : TIn z y q off i z' c bw) (a0 : 0 ≤ a') (a1 : a' < 18446744073709551616) (c0 : 0 ≤ c') (c1 : c' < 18446744073709551616) (w0 : 0 ≤ bw') (w1 : bw' ≤ 1)
    (hs : a' + q * y i + c + bw = z (off + i) + (c' + bw') * 18446744073709551616) : TIn z y q off (i + 1) (setF z' (off + i) a') c' bw' := by
  refine ⟨setF_bd h.bd a0 a1, c0, c1, w0, w1, fun j hj => by simp only [setF]; rw [if_neg (by omega)]; exact h.o j (by omega), ?_⟩
  rw [numS_setF, numS_succ, num]
  have hv := h.v
  have e : ((18446744073709551616 ^ (i + 1) : Nat) : Int) = (18446744073709551616 ^ i : Nat) * 18446744073709551616 := by rw [Nat.pow_succ]; simp
  rw [e]
  generalize ((18446744073709551616 ^ i : Nat) : Int) = P at *
  generalize numS off z' i = n1 at *
  generalize numS off z i = n2 at *
  generalize num 18446744073709551616 y i = n3 at *
  grind
theorem take_calls {w : World} {ba bb : Nat} {z y : Nat → Int} {La Lb : Nat} {Ta Tb : TypeId} (h2 : Two w ba bb z y La Lb Ta Tb) (hz : ∀ j, 0 ≤ z j ∧ z j < 18446744073709551616) (hy : ∀ j, 0 ≤ y j ∧ y j < 18446744073709551616) {off n ca cb : Nat} (q : Int) (hq : 0 ≤ q ∧ q < 18446744073709551616)
    (hla : off + n + 1 ≤ La) (hlb : n ≤ Lb) (hsm : La < 1000000000) :
    Calls Tryd.prog 140 #[.slice (some ⟨ba, off, none⟩) (n + 1) ca, .slice (some ⟨bb, 0, none⟩) n cb, .int .u64 q] w (fun e w' => ∃ s : Unit, True ∧ RetW [ba, bb] (.bool (decide (numS off z (n + 1) < q * num 18446744073709551616 y n))) 2
      [some (.cells (ints .u64 (putD z off (n + 1) ((numS off z (n + 1) - q * num 18446744073709551616 y n) % (18446744073709551616 ^ (n + 1) : Nat)).toNat) La) Ta (0, 0)), some (.cells (ints .u64 y Lb) Tb (0, 0))] w e w') := by
  have hq0 := hq.1
  have hq1 := hq.2
  have hp : ∀ i, 0 ≤ q * y i ∧ q * y i ≤ 340282366920938463426481119284349108225 := fun i =>
    ⟨Int.mul_nonneg hq.1 (hy i).1, Int.le_trans (Int.mul_le_mul (show q ≤ 18446744073709551615 by omega) (show y i ≤ 18446744073709551615 by have := (hy i).2; omega) (hy i).1 (by omega)) (by omega)⟩
  refine wr_calls (fun _ => True) _ (fun _ => 2) (fun _ => [some (.cells (ints .u64 (putD z off (n + 1) ((numS off z (n + 1) - q * num 18446744073709551616 y n) % (18446744073709551616 ^ (n + 1) : Nat)).toNat) La) Ta (0, 0)), some (.cells (ints .u64 y Lb) Tb (0, 0))]) [ba, bb] [.cells (ints .u64 z La) Ta (0, 0), .cells (ints .u64 y Lb) Tb (0, 0)]
    [.sl 0 off (n + 1) ca, .sl 1 0 n cb, .int .u64 q] Tryd.func140 rfl in140 (by simp [Tryd.f140]) (by simp [closeds, closed]) rfl (by simp [h2.ne]) h2.objs (next_of 1000 ?_)
  simp (maxSteps := 4000000) (disch := omega) only [go_sem, Nat.reduceBEq, Nat.reduceAdd, Nat.reduceMul, Nat.reduceSub, Nat.reduceLT, Nat.reduceLeDiff, Int.reduceToNat, Int.reduceLT, Int.reduceLE, Int.reduceAdd, Int.reduceMul, Int.reduceSub, Int.reduceNeg, Int.reduceDiv, Int.reduceMod, Nat.reduceBNe, Nat.reduceGT, Int.reduceBEq, Int.reduceBNe, Int.reduceGT, Nat.reduceDiv, Nat.reduceMod, Nat.reducePow, Int.reducePow, gt_iff_lt, ge_iff_le, List.reduceReplicate, ↓reduceIte, Tryd.f140]
  repeat (with_reducible refine And.intro (by first | omega | assumption | (constructor <;> assumption) | (simp; done) | (simp; omega) | (simp [*]; done)) ?_)
  refine loopU (S := Nat × (Nat → Int) × Int × Int) (fun s => s.1 ≤ n ∧ TIn z y q off s.1 s.2.1 s.2.2.1 s.2.2.2)
    (fun s => ⟨[(15, .int .i64 (s.1 : Nat)), (14, .int .i64 (n : Nat)), (8, .int .u64 s.2.2.2), (7, .int .u64 s.2.2.1), (2, .int .u64 q), (1, .sl 1 0 n cb), (0, .sl 0 off (n + 1) ca)], 2,
      [(1, some (.cells (ints .u64 y Lb) Tb (0, 0))), (0, some (.cells (ints .u64 s.2.1 La) Ta (0, 0)))], baseW w [ba, bb], []⟩)
    (fun s => n - s.1) (0, z, 0, 0) ⟨Nat.zero_le _, ⟨hz, Int.le_refl _, by show (0 : Int) < 18446744073709551616; omega, Int.le_refl _, by show (0 : Int) ≤ 1; omega, fun _ _ => rfl, by simp [numS, num]⟩⟩ (Weak.sub (weak_of (by simp [wσ, go_sem, closed, closeds, closeds_ints]) (by simp [whs, go_sem, EObj.closed, closed, closeds, closeds_ints]) (by simp [*]) rfl rfl (by simp))) ?_
  rintro ⟨i, z', c, bw⟩ ⟨hi, hT⟩
  simp only at hi hT
  have h3 := hp i
  have h4 := hT.bd (off + i)
  have h5 := hT.c0
  have h6 := hT.c1
  have h7 := hT.w0
  have h8 := hT.w1
  have h9 := hy i
  refine next_of 1000 ?_
  simp (maxSteps := 4000000) (disch := omega) only [go_sem, Nat.reduceBEq, Nat.reduceAdd, Nat.reduceMul, Nat.reduceSub, Nat.reduceLT, Nat.reduceLeDiff, Int.reduceToNat, Int.reduceLT, Int.reduceLE, Int.reduceAdd, Int.reduceMul, Int.reduceSub, Int.reduceNeg, Int.reduceDiv, Int.reduceMod, Nat.reduceBNe, Nat.reduceGT, Int.reduceBEq, Int.reduceBNe, Int.reduceGT, Nat.reduceDiv, Nat.reduceMod, Nat.reducePow, Int.reducePow, gt_iff_lt, ge_iff_le, List.reduceReplicate, ↓reduceIte]
  repeat (with_reducible refine And.intro (by first | omega | assumption | (constructor <;> assumption) | (simp; done) | (simp; omega) | (simp [*]; done)) ?_)
  refine condS_split (fun hlt => ?_) (fun hlt => ?_)
  all_goals (try simp only [bne_iff_ne, ne_eq, beq_iff_eq, decide_eq_true_eq, decide_eq_false_iff_not, Bool.not_eq_true, Bool.not_eq_false, Bool.not_true, Bool.not_false, bne_eq_false_iff_eq, beq_eq_false_iff_ne, Bool.and_eq_true, Bool.or_eq_true, Bool.and_eq_false_imp, Bool.or_eq_false_iff, Bool.not_eq_true', Bool.not_eq_false', Int.not_lt, Int.not_le] at hlt)
  · have ho := hT.o (off + i) (by omega)
    repeat' (first
      | with_reducible refine And.intro (by first | omega | assumption | (constructor <;> assumption) | (simp; done) | (simp; omega) | (simp [*]; done)) ?_
      | simp (maxSteps := 4000000) (disch := omega) only [go_sem, Nat.reduceBEq, Nat.reduceAdd, Nat.reduceMul, Nat.reduceSub, Nat.reduceLT, Nat.reduceLeDiff, Int.reduceToNat, Int.reduceLT, Int.reduceLE, Int.reduceAdd, Int.reduceMul, Int.reduceSub, Int.reduceNeg, Int.reduceDiv, Int.reduceMod, Nat.reduceBNe, Nat.reduceGT, Int.reduceBEq, Int.reduceBNe, Int.reduceGT, Nat.reduceDiv, Nat.reduceMod, Nat.reducePow, Int.reducePow, gt_iff_lt, ge_iff_le, List.reduceReplicate, ↓reduceIte, Int.toNat_natCast]
      | with_reducible refine roundS (next_of 1000 ?_)
      | with_reducible refine drawS_of mixed (by kernel_rfl) (dg_of 1000 ?_)
      | with_reducible refine endD_of (by kernel_rfl) (next_of 1000 ?_)
      | refine callS_p (mul64_p _ _ (by omega) (by omega) (by omega) (by omega)) (next_of 1000 ?_)
      | refine callD_p (mul64_p _ _ (by omega) (by omega) (by omega) (by omega)) (dg_of 1000 ?_)
      | refine callS_e (add64_e _ _ _ (by omega) (by omega) (by omega) (by omega)) (next_of 1000 ?_)
      | refine callD_e (add64_e _ _ _ (by omega) (by omega) (by omega) (by omega)) (dg_of 1000 ?_)
      | refine callS_e (sub64_e _ _ _ (by omega) (by omega) (by omega) (by omega) (by omega) (by omega)) (next_of 1000 ?_)
      | refine callD_e (sub64_e _ _ _ (by omega) (by omega) (by omega) (by omega) (by omega) (by omega)) (dg_of 1000 ?_)
      | with_reducible refine next_of 1000 ?_
      | ((first | refine condS_split (fun h => ?_) (fun h => ?_) | refine testS_split (fun h => ?_) (fun h => ?_) | refine testD_split (fun h => ?_) (fun h => ?_)) <;> (try simp only [bne_iff_ne, ne_eq, beq_iff_eq, decide_eq_true_eq, decide_eq_false_iff_not, Bool.not_eq_true, Bool.not_eq_false, Bool.not_true, Bool.not_false, bne_eq_false_iff_eq, beq_eq_false_iff_ne, Bool.and_eq_true, Bool.or_eq_true, Bool.and_eq_false_imp, Bool.or_eq_false_iff, Bool.not_eq_true', Bool.not_eq_false', Int.not_lt, Int.not_le] at h) <;> (try (exfalso; omega))))
    simp only [Int.add_zero]
    refine ⟨(i + 1, setF z' (off + i) ((z' (off + i) - (q * y i % 18446744073709551616 + c) % 18446744073709551616 - bw) % 18446744073709551616), q * y i / 18446744073709551616 + (q * y i % 18446744073709551616 + c) / 18446744073709551616, -((z' (off + i) - (q * y i % 18446744073709551616 + c) % 18446744073709551616 - bw) / 18446744073709551616)), ⟨by show i + 1 ≤ n; omega, ?_⟩, Weak.sub (weak_of (by simp [wσ, go_sem, closed, closeds, closeds_ints]) (by simp [whs, go_sem, EObj.closed, closed, closeds, closeds_ints]) (by simp [*]) rfl rfl (by simp)), by show n - (i + 1) < n - i; omega⟩
    have hs : (z' (off + i) - (q * y i % 18446744073709551616 + c) % 18446744073709551616 - bw) % 18446744073709551616 + q * y i + c + bw = z' (off + i) + ((q * y i / 18446744073709551616 + (q * y i % 18446744073709551616 + c) / 18446744073709551616) + -((z' (off + i) - (q * y i % 18446744073709551616 + c) % 18446744073709551616 - bw) / 18446744073709551616)) * 18446744073709551616 := by
      generalize q * y i = p at *
      omega
    rw [ho] at hs ⊢
    exact hT.next (by omega) (by omega) (by show 0 ≤ q * y i / 18446744073709551616 + (q * y i % 18446744073709551616 + c) / 18446744073709551616; omega) (by show q * y i / 18446744073709551616 + (q * y i % 18446744073709551616 + c) / 18446744073709551616 < 18446744073709551616; omega) (by show 0 ≤ -((z (off + i) - (q * y i % 18446744073709551616 + c) % 18446744073709551616 - bw) / 18446744073709551616); omega) (by show -((z (off + i) - (q * y i % 18446744073709551616 + c) % 18446744073709551616 - bw) / 18446744073709551616) ≤ 1; omega) hs
  · have hin : i = n := by omega
    subst hin
    have ho := hT.o (off + i) (by omega)
    have hv := hT.v
    have hzb := hz (off + i)
    clear h3 hp
    repeat' (first
      | with_reducible refine And.intro (by first | omega | assumption | (constructor <;> assumption) | (simp; done) | (simp; omega) | (simp [*]; done)) ?_
      | simp (maxSteps := 4000000) (disch := omega) only [go_sem, Nat.reduceBEq, Nat.reduceAdd, Nat.reduceMul, Nat.reduceSub, Nat.reduceLT, Nat.reduceLeDiff, Int.reduceToNat, Int.reduceLT, Int.reduceLE, Int.reduceAdd, Int.reduceMul, Int.reduceSub, Int.reduceNeg, Int.reduceDiv, Int.reduceMod, Nat.reduceBNe, Nat.reduceGT, Int.reduceBEq, Int.reduceBNe, Int.reduceGT, Nat.reduceDiv, Nat.reduceMod, Nat.reducePow, Int.reducePow, gt_iff_lt, ge_iff_le, List.reduceReplicate, ↓reduceIte, Int.toNat_natCast]
      | with_reducible refine roundS (next_of 1000 ?_)
      | with_reducible refine drawS_of mixed (by kernel_rfl) (dg_of 1000 ?_)
      | with_reducible refine endD_of (by kernel_rfl) (next_of 1000 ?_)
      | refine callS_e (sub64_e _ _ _ (by omega) (by omega) (by omega) (by omega) (by omega) (by omega)) (next_of 1000 ?_)
      | refine callD_e (sub64_e _ _ _ (by omega) (by omega) (by omega) (by omega) (by omega) (by omega)) (dg_of 1000 ?_)
      | with_reducible refine next_of 1000 ?_
      | ((first | refine condS_split (fun h => ?_) (fun h => ?_) | refine testS_split (fun h => ?_) (fun h => ?_) | refine testD_split (fun h => ?_) (fun h => ?_)) <;> (try simp only [bne_iff_ne, ne_eq, beq_iff_eq, decide_eq_true_eq, decide_eq_false_iff_not, Bool.not_eq_true, Bool.not_eq_false, Bool.not_true, Bool.not_false, bne_eq_false_iff_eq, beq_eq_false_iff_ne, Bool.and_eq_true, Bool.or_eq_true, Bool.and_eq_false_imp, Bool.or_eq_false_iff, Bool.not_eq_true', Bool.not_eq_false', Int.not_lt, Int.not_le] at h) <;> (try (exfalso; omega))))
    obtain ⟨a', ha'⟩ : ∃ a', a' = (z' (off + i) - c - bw) % 18446744073709551616 := ⟨_, rfl⟩
    obtain ⟨k, hk⟩ : ∃ k, k = -((z' (off + i) - c - bw) / 18446744073709551616) := ⟨_, rfl⟩
    have e1 : a' + c + bw = z' (off + i) + k * 18446744073709551616 := by omega
    have hk01 : 0 ≤ k ∧ k ≤ 1 := by omega
    have ha01 : 0 ≤ a' ∧ a' < 18446744073709551616 := by omega
    rw [← ha', ← hk]
    have e2 : numS off (setF z' (off + i) a') (i + 1) + q * num 18446744073709551616 y i = numS off z (i + 1) + k * (18446744073709551616 ^ (i + 1) : Nat) := by
      rw [numS_setF, numS_succ]
      have e : ((18446744073709551616 ^ (i + 1) : Nat) : Int) = (18446744073709551616 ^ i : Nat) * 18446744073709551616 := by rw [Nat.pow_succ]; simp
      rw [e]
      rw [ho] at e1
      generalize ((18446744073709551616 ^ i : Nat) : Int) = P at *
      generalize numS off z' i = n1 at *
      generalize numS off z i = n2 at *
      generalize num 18446744073709551616 y i = n3 at *
      grind
    have hbd := numS_bd (off := off) (k := i + 1) (setF_bd (j := off + i) hT.bd ha01.1 ha01.2)
    have hbz := numS_bd (off := off) (k := i + 1) hz
    generalize hM : ((18446744073709551616 ^ (i + 1) : Nat) : Int) = M at *
    obtain ⟨N, hN⟩ := Int.eq_ofNat_of_zero_le hbd.1
    have hmod : (numS off z (i + 1) - q * num 18446744073709551616 y i) % M = N := by
      have : numS off z (i + 1) - q * num 18446744073709551616 y i = N + M * (-k) := by rw [← hN]; grind
      rw [this, Int.add_mul_emod_self_left]
      exact Int.emod_eq_of_lt (by omega) (by rw [← hN]; exact hbd.2)
    have hput := eq_putD (len := i + 1) (setF_bd (j := off + i) hT.bd ha01.1 ha01.2) (z := z) (fun j hj => by simp only [setF]; rw [if_neg (by omega)]; exact hT.o j (by omega)) hN
    have hdec : decide (numS off z (i + 1) < q * num 18446744073709551616 y i) = (k != 0) := by
      rw [Bool.eq_iff_iff, decide_eq_true_eq, bne_iff_ne]
      have : k = 0 ∨ k = 1 := by omega
      rcases this with h | h
      · subst h; omega
      · subst h; omega
    rw [hmod, hdec, Int.toNat_natCast, ← hput]
    refine ⟨(), rfl, fin2a, fin2b ?_ ?_⟩ <;> rfl
structure VIn (z y : Nat → Int) (off i : Nat) (z' : Nat → Int) (c : Int) : Prop where
  bd : ∀ j, 0 ≤ z' j ∧ z' j < 18446744073709551616
  c0 : 0 ≤ c
  c1 : c ≤ 1
  o : ∀ j, j < off ∨ off + i ≤ j → z' j = z j
  v : numS off z' i + c * (18446744073709551616 ^ i : Nat) = numS off z i + num 18446744073709551616 y i
theorem give_calls {w : World} {ba bb : Nat} {z y : Nat → Int} {La Lb : Nat} {Ta Tb : TypeId} (h2 : Two w ba bb z y La Lb Ta Tb) (hz : ∀ j, 0 ≤ z j ∧ z j < 18446744073709551616) (hy : ∀ j, 0 ≤ y j ∧ y j < 18446744073709551616) {off n ca cb : Nat}
    (hla : off + n + 1 ≤ La) (hlb : n ≤ Lb) (hsm : La < 1000000000) :
    Calls Tryd.prog 141 #[.slice (some ⟨ba, off, none⟩) (n + 1) ca, .slice (some ⟨bb, 0, none⟩) n cb] w (fun e w' => ∃ s : Unit, True ∧ RetW [ba, bb] (.bool (decide (((18446744073709551616 ^ (n + 1) : Nat) : Int) ≤ numS off z (n + 1) + num 18446744073709551616 y n))) 2
      [some (.cells (ints .u64 (putD z off (n + 1) ((numS off z (n + 1) + num 18446744073709551616 y n) % (18446744073709551616 ^ (n + 1) : Nat)).toNat) La) Ta (0, 0)), some (.cells (ints .u64 y Lb) Tb (0, 0))] w e w') := by
  refine wr_calls (fun _ => True) _ (fun _ => 2) (fun _ => [some (.cells (ints .u64 (putD z off (n + 1) ((numS off z (n + 1) + num 18446744073709551616 y n) % (18446744073709551616 ^ (n + 1) : Nat)).toNat) La) Ta (0, 0)), some (.cells (ints .u64 y Lb) Tb (0, 0))]) [ba, bb] [.cells (ints .u64 z La) Ta (0, 0), .cells (ints .u64 y Lb) Tb (0, 0)]
    [.sl 0 off (n + 1) ca, .sl 1 0 n cb] Tryd.func141 rfl in141 (by simp [Tryd.f141]) (by simp [closeds, closed]) rfl (by simp [h2.ne]) h2.objs (next_of 1000 ?_)
  simp (maxSteps := 4000000) (disch := omega) only [go_sem, Nat.reduceBEq, Nat.reduceAdd, Nat.reduceMul, Nat.reduceSub, Nat.reduceLT, Nat.reduceLeDiff, Int.reduceToNat, Int.reduceLT, Int.reduceLE, Int.reduceAdd, Int.reduceMul, Int.reduceSub, Int.reduceNeg, Int.reduceDiv, Int.reduceMod, Nat.reduceBNe, Nat.reduceGT, Int.reduceBEq, Int.reduceBNe, Int.reduceGT, Nat.reduceDiv, Nat.reduceMod, Nat.reducePow, Int.reducePow, gt_iff_lt, ge_iff_le, List.reduceReplicate, ↓reduceIte, Tryd.f141]
  repeat (with_reducible refine And.intro (by first | omega | assumption | (constructor <;> assumption) | (simp; done) | (simp; omega) | (simp [*]; done)) ?_)
  refine loopU (S := Nat × (Nat → Int) × Int) (fun s => s.1 ≤ n ∧ VIn z y off s.1 s.2.1 s.2.2)
    (fun s => ⟨[(9, .int .i64 (s.1 : Nat)), (8, .int .i64 (n : Nat)), (5, .int .u64 s.2.2), (1, .sl 1 0 n cb), (0, .sl 0 off (n + 1) ca)], 2,
      [(1, some (.cells (ints .u64 y Lb) Tb (0, 0))), (0, some (.cells (ints .u64 s.2.1 La) Ta (0, 0)))], baseW w [ba, bb], []⟩)
    (fun s => n - s.1) (0, z, 0) ⟨Nat.zero_le _, ⟨hz, Int.le_refl _, by show (0 : Int) ≤ 1; omega, fun _ _ => rfl, by simp [numS, num]⟩⟩ (Weak.sub (weak_of (by simp [wσ, go_sem, closed, closeds, closeds_ints]) (by simp [whs, go_sem, EObj.closed, closed, closeds, closeds_ints]) (by simp [*]) rfl rfl (by simp))) ?_
  rintro ⟨i, z', c⟩ ⟨hi, hT⟩
  simp only at hi hT
  have h4 := hT.bd (off + i)
  have h5 := hT.c0
  have h6 := hT.c1
  have h9 := hy i
  have hv := hT.v
  refine next_of 1000 ?_
  simp (maxSteps := 4000000) (disch := omega) only [go_sem, Nat.reduceBEq, Nat.reduceAdd, Nat.reduceMul, Nat.reduceSub, Nat.reduceLT, Nat.reduceLeDiff, Int.reduceToNat, Int.reduceLT, Int.reduceLE, Int.reduceAdd, Int.reduceMul, Int.reduceSub, Int.reduceNeg, Int.reduceDiv, Int.reduceMod, Nat.reduceBNe, Nat.reduceGT, Int.reduceBEq, Int.reduceBNe, Int.reduceGT, Nat.reduceDiv, Nat.reduceMod, Nat.reducePow, Int.reducePow, gt_iff_lt, ge_iff_le, List.reduceReplicate, ↓reduceIte]
  repeat (with_reducible refine And.intro (by first | omega | assumption | (constructor <;> assumption) | (simp; done) | (simp; omega) | (simp [*]; done)) ?_)
  refine condS_split (fun hlt => ?_) (fun hlt => ?_)
  all_goals (try simp only [bne_iff_ne, ne_eq, beq_iff_eq, decide_eq_true_eq, decide_eq_false_iff_not, Bool.not_eq_true, Bool.not_eq_false, Bool.not_true, Bool.not_false, bne_eq_false_iff_eq, beq_eq_false_iff_ne, Bool.and_eq_true, Bool.or_eq_true, Bool.and_eq_false_imp, Bool.or_eq_false_iff, Bool.not_eq_true', Bool.not_eq_false', Int.not_lt, Int.not_le] at hlt)
  · have ho := hT.o (off + i) (by omega)
    repeat' (first
      | with_reducible refine And.intro (by first | omega | assumption | (constructor <;> assumption) | (simp; done) | (simp; omega) | (simp [*]; done)) ?_
      | simp (maxSteps := 4000000) (disch := omega) only [go_sem, Nat.reduceBEq, Nat.reduceAdd, Nat.reduceMul, Nat.reduceSub, Nat.reduceLT, Nat.reduceLeDiff, Int.reduceToNat, Int.reduceLT, Int.reduceLE, Int.reduceAdd, Int.reduceMul, Int.reduceSub, Int.reduceNeg, Int.reduceDiv, Int.reduceMod, Nat.reduceBNe, Nat.reduceGT, Int.reduceBEq, Int.reduceBNe, Int.reduceGT, Nat.reduceDiv, Nat.reduceMod, Nat.reducePow, Int.reducePow, gt_iff_lt, ge_iff_le, List.reduceReplicate, ↓reduceIte, Int.toNat_natCast]
      | with_reducible refine roundS (next_of 1000 ?_)
      | with_reducible refine drawS_of mixed (by kernel_rfl) (dg_of 1000 ?_)
      | with_reducible refine endD_of (by kernel_rfl) (next_of 1000 ?_)
      | refine callS_e (add64_e _ _ _ (by omega) (by omega) (by omega) (by omega)) (next_of 1000 ?_)
      | refine callD_e (add64_e _ _ _ (by omega) (by omega) (by omega) (by omega)) (dg_of 1000 ?_)
      | with_reducible refine next_of 1000 ?_
      | ((first | refine condS_split (fun h => ?_) (fun h => ?_) | refine testS_split (fun h => ?_) (fun h => ?_) | refine testD_split (fun h => ?_) (fun h => ?_)) <;> (try simp only [bne_iff_ne, ne_eq, beq_iff_eq, decide_eq_true_eq, decide_eq_false_iff_not, Bool.not_eq_true, Bool.not_eq_false, Bool.not_true, Bool.not_false, bne_eq_false_iff_eq, beq_eq_false_iff_ne, Bool.and_eq_true, Bool.or_eq_true, Bool.and_eq_false_imp, Bool.or_eq_false_iff, Bool.not_eq_true', Bool.not_eq_false', Int.not_lt, Int.not_le] at h) <;> (try (exfalso; omega))))
    refine ⟨(i + 1, setF z' (off + i) ((z' (off + i) + y i + c) % 18446744073709551616), (z' (off + i) + y i + c) / 18446744073709551616), ⟨by show i + 1 ≤ n; omega, ⟨setF_bd hT.bd (by omega) (by omega), by show 0 ≤ (z' (off + i) + y i + c) / 18446744073709551616; omega, by show (z' (off + i) + y i + c) / 18446744073709551616 ≤ 1; omega,
      fun j hj => by simp only [setF]; rw [if_neg (by omega)]; exact hT.o j (by omega), ?_⟩⟩, Weak.sub (weak_of (by simp [wσ, go_sem, closed, closeds, closeds_ints]) (by simp [whs, go_sem, EObj.closed, closed, closeds, closeds_ints]) (by simp [*]) rfl rfl (by simp)), by show n - (i + 1) < n - i; omega⟩
    show numS off (setF z' (off + i) ((z' (off + i) + y i + c) % 18446744073709551616)) (i + 1) + (z' (off + i) + y i + c) / 18446744073709551616 * (18446744073709551616 ^ (i + 1) : Nat) = numS off z (i + 1) + num 18446744073709551616 y (i + 1)
    rw [numS_setF, numS_succ, num]
    have e : ((18446744073709551616 ^ (i + 1) : Nat) : Int) = (18446744073709551616 ^ i : Nat) * 18446744073709551616 := by rw [Nat.pow_succ]; simp
    have hs : (z (off + i) + y i + c) % 18446744073709551616 + (z (off + i) + y i + c) / 18446744073709551616 * 18446744073709551616 = z (off + i) + y i + c := by omega
    rw [e, ho]
    generalize (z (off + i) + y i + c) % 18446744073709551616 = s1 at *
    generalize (z (off + i) + y i + c) / 18446744073709551616 = s2 at *
    generalize ((18446744073709551616 ^ i : Nat) : Int) = P at *
    generalize numS off z' i = n1 at *
    generalize numS off z i = n2 at *
    generalize num 18446744073709551616 y i = n3 at *
    grind
  · have hin : i = n := by omega
    subst hin
    have ho := hT.o (off + i) (by omega)
    have hzb := hz (off + i)
    repeat' (first
      | with_reducible refine And.intro (by first | omega | assumption | (constructor <;> assumption) | (simp; done) | (simp; omega) | (simp [*]; done)) ?_
      | simp (maxSteps := 4000000) (disch := omega) only [go_sem, Nat.reduceBEq, Nat.reduceAdd, Nat.reduceMul, Nat.reduceSub, Nat.reduceLT, Nat.reduceLeDiff, Int.reduceToNat, Int.reduceLT, Int.reduceLE, Int.reduceAdd, Int.reduceMul, Int.reduceSub, Int.reduceNeg, Int.reduceDiv, Int.reduceMod, Nat.reduceBNe, Nat.reduceGT, Int.reduceBEq, Int.reduceBNe, Int.reduceGT, Nat.reduceDiv, Nat.reduceMod, Nat.reducePow, Int.reducePow, gt_iff_lt, ge_iff_le, List.reduceReplicate, ↓reduceIte, Int.toNat_natCast]
      | with_reducible refine roundS (next_of 1000 ?_)
      | with_reducible refine drawS_of mixed (by kernel_rfl) (dg_of 1000 ?_)
      | with_reducible refine endD_of (by kernel_rfl) (next_of 1000 ?_)
      | refine callS_e (add64_e _ _ _ (by omega) (by omega) (by omega) (by omega)) (next_of 1000 ?_)
      | refine callD_e (add64_e _ _ _ (by omega) (by omega) (by omega) (by omega)) (dg_of 1000 ?_)
      | with_reducible refine next_of 1000 ?_
      | ((first | refine condS_split (fun h => ?_) (fun h => ?_) | refine testS_split (fun h => ?_) (fun h => ?_) | refine testD_split (fun h => ?_) (fun h => ?_)) <;> (try simp only [bne_iff_ne, ne_eq, beq_iff_eq, decide_eq_true_eq, decide_eq_false_iff_not, Bool.not_eq_true, Bool.not_eq_false, Bool.not_true, Bool.not_false, bne_eq_false_iff_eq, beq_eq_false_iff_ne, Bool.and_eq_true, Bool.or_eq_true, Bool.and_eq_false_imp, Bool.or_eq_false_iff, Bool.not_eq_true', Bool.not_eq_false', Int.not_lt, Int.not_le] at h) <;> (try (exfalso; omega))))
    simp only [Int.add_zero]
    obtain ⟨a', ha'⟩ : ∃ a', a' = (z' (off + i) + c) % 18446744073709551616 := ⟨_, rfl⟩
    obtain ⟨k, hk⟩ : ∃ k, k = (z' (off + i) + c) / 18446744073709551616 := ⟨_, rfl⟩
    have e1 : a' + k * 18446744073709551616 = z' (off + i) + c := by omega
    have hk01 : 0 ≤ k ∧ k ≤ 1 := by omega
    have ha01 : 0 ≤ a' ∧ a' < 18446744073709551616 := by omega
    rw [← ha', ← hk]
    have e2 : numS off (setF z' (off + i) a') (i + 1) + k * (18446744073709551616 ^ (i + 1) : Nat) = numS off z (i + 1) + num 18446744073709551616 y i := by
      rw [numS_setF, numS_succ]
      have e : ((18446744073709551616 ^ (i + 1) : Nat) : Int) = (18446744073709551616 ^ i : Nat) * 18446744073709551616 := by rw [Nat.pow_succ]; simp
      rw [e]
      rw [ho] at e1
      generalize ((18446744073709551616 ^ i : Nat) : Int) = P at *
      generalize numS off z' i = n1 at *
      generalize numS off z i = n2 at *
      generalize num 18446744073709551616 y i = n3 at *
      grind
    have hbd := numS_bd (off := off) (k := i + 1) (setF_bd (j := off + i) hT.bd ha01.1 ha01.2)
    have hbz := numS_bd (off := off) (k := i + 1) hz
    generalize hM : ((18446744073709551616 ^ (i + 1) : Nat) : Int) = M at *
    obtain ⟨N, hN⟩ := Int.eq_ofNat_of_zero_le hbd.1
    have hmod : (numS off z (i + 1) + num 18446744073709551616 y i) % M = N := by
      have : numS off z (i + 1) + num 18446744073709551616 y i = N + M * k := by rw [← hN]; grind
      rw [this, Int.add_mul_emod_self_left]
      exact Int.emod_eq_of_lt (by omega) (by rw [← hN]; exact hbd.2)
    have hput := eq_putD (len := i + 1) (setF_bd (j := off + i) hT.bd ha01.1 ha01.2) (z := z) (fun j hj => by simp only [setF]; rw [if_neg (by omega)]; exact hT.o j (by omega)) hN
    have hdec : decide (M ≤ numS off z (i + 1) + num 18446744073709551616 y i) = (k != 0) := by
      rw [Bool.eq_iff_iff, decide_eq_true_eq, bne_iff_ne]
      have : k = 0 ∨ k = 1 := by omega
      rcases this with h | h
      · subst h; omega
      · subst h; omega
    rw [hmod, hdec, Int.toNat_natCast, ← hput]
    refine ⟨(), rfl, fin2a, fin2b ?_ ?_⟩ <;> rfl
end Go.Proofs.YtbilnedgpgpanaaDoor
