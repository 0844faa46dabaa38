/- Part of a proof over the seat YtbilnedgpgpanaaDoor. -/
import Derived.Test.YtbilnedgpgpanaaDoorWH
namespace Go.Proofs.YtbilnedgpgpanaaDoor
open Go Go.Ew
set_option maxRecDepth 100000
set_option linter.unusedSimpArgs false
set_option linter.unusedVariables false
set_option maxHeartbeats 1000000
theorem in132 : codeIn Tryd.f132.ntmps (Tryd.f132.body.getD .skip) = true := by kernel_rfl
theorem rho0 (a : Nat) (m : List Nat) (n : Nat) : rho (a :: m) n 0 = a := rfl
theorem rho1 (a b : Nat) (m : List Nat) (n : Nat) : rho (a :: b :: m) n 1 = b := rfl
theorem rho2 (a b : Nat) (n : Nat) : rho [a, b] n 2 = n := rfl
theorem rho3 (a b : Nat) (n : Nat) : rho [a, b] n 3 = n + 1 := rfl
theorem rens_ints (ρ : Nat → Nat) (k : IntKind) (x : Nat → Int) (n : Nat) : rens ρ (ints k x n) = ints k x n := rens_zero ρ _ (closeds_ints _ _ _ _)
attribute [go_sem] rho0 rho1 rho2 rho3 rens_ints
theorem two_of {C : Cx} {x : X} {bs : Nat → Nat} {w : World} (hh : HRel C x.B x.n x.hs bs w) {i j La Lb : Nat} {z y : Nat → Int} {Ta Tb : TypeId} (h0 : hget x.hs i = some (.cells (ints .u64 z La) Ta (0, 0)))
    (h1 : hget x.hs j = some (.cells (ints .u64 y Lb) Tb (0, 0))) (hij : i ≠ j) : Two w (bs i) (bs j) z y La Lb Ta Tb := by
  refine ⟨fun h => hij (hh.inj i j _ _ h0 h1 h), ?_, ?_⟩
  · have := (hh.live i _ h0).2
    simpa only [EObj.real, reals_ints] using this
  · have := (hh.live j _ h1).2
    simpa only [EObj.real, reals_ints] using this
theorem putD_putD (z : Nat → Int) (off len N M : Nat) : putD (putD z off len N) off len M = putD z off len M := by
  funext i; simp only [putD]; split <;> simp [*]
/-- What is known of the numbers: the dividend of n + 1 limbs, the divisor of n. -/
structure StepIn (A D u2 u1 u0 v1 v0 P al bl : Nat) : Prop where
  hA : A = ((u2 * 18446744073709551616 + u1) * 18446744073709551616 + u0) * P + al
  hD : D = (v1 * 18446744073709551616 + v0) * P + bl
  al : al < P
  bl : bl < P
  top : 9223372036854775808 ≤ v1
  lt : A < D * 18446744073709551616
  u2 : u2 < 18446744073709551616
  u1 : u1 < 18446744073709551616
  u0 : u0 < 18446744073709551616
  v1 : v1 < 18446744073709551616
  v0 : v0 < 18446744073709551616
structure QIn (A D U v1 q r : Nat) : Prop where
  ge : A / D ≤ q
  eq : U = q * v1 + r
theorem StepIn.pos {A D u2 u1 u0 v1 v0 P al bl : Nat} (h : StepIn A D u2 u1 u0 v1 v0 P al bl) : 0 < D := by
  rcases Nat.eq_zero_or_pos D with h0 | h0
  · have := h.lt; rw [h0] at this; omega
  · exact h0
theorem StepIn.start {A D u2 u1 u0 v1 v0 P al bl : Nat} (h : StepIn A D u2 u1 u0 v1 v0 P al bl) : QIn A D (u2 * 18446744073709551616 + u1) v1 ((u2 * 18446744073709551616 + u1) / v1) ((u2 * 18446744073709551616 + u1) % v1) := by
  refine ⟨guess_ge (A := A) (D := D) (P := 18446744073709551616 * P) (al := u0 * P + al) (bl := v0 * P + bl) ?_ ?_ ?_ (by have := h.top; omega) (Nat.div_mul_le_self _ _), ?_⟩
  · rw [h.hA, Nat.add_mul, Nat.mul_assoc, Nat.add_assoc]
  · have h1 := h.al
    have h2 : (u0 + 1) * P ≤ 18446744073709551616 * P := Nat.mul_le_mul_right _ h.u0
    rw [Nat.add_mul] at h2; omega
  · rw [h.hD, Nat.add_mul, Nat.mul_assoc, Nat.add_assoc]
  · have := Nat.div_add_mod (u2 * 18446744073709551616 + u1) v1; rw [Nat.mul_comm] at this; exact this.symm
theorem QIn.dec {A D u2 u1 u0 v1 v0 P al bl q r : Nat} (h : StepIn A D u2 u1 u0 v1 v0 P al bl) (k : QIn A D (u2 * 18446744073709551616 + u1) v1 q r) (ht : r * 18446744073709551616 + u0 < q * v0) : 0 < q ∧ QIn A D (u2 * 18446744073709551616 + u1) v1 (q - 1) (r + v1) := by
  have hlt : A / D < q := guess_test (A := A) (D := D) (U := u2 * 18446744073709551616 + u1) (u0 := u0) (v1 := v1) (v0 := v0) (P := P) (al := al) (bl := bl) (b := 18446744073709551616) h.hA h.al h.hD k.eq ht (Nat.div_mul_le_self _ _)
  have hq : 0 < q := Nat.lt_of_le_of_lt (Nat.zero_le _) hlt
  refine ⟨hq, Nat.le_sub_one_of_lt hlt, ?_⟩
  obtain ⟨j, rfl⟩ : ∃ j, q = j + 1 := ⟨q - 1, (Nat.succ_pred_eq_of_pos hq).symm⟩
  rw [Nat.add_sub_cancel, k.eq, Nat.add_mul, Nat.one_mul]; omega
theorem lt_succ_div (A : Nat) {D : Nat} (h : 0 < D) : A < (A / D + 1) * D := by
  have h1 := Nat.div_add_mod A D
  have h2 := Nat.mod_lt A h
  rw [Nat.add_mul, Nat.mul_comm (A / D)]; omega
theorem QIn.le {A D u2 u1 u0 v1 v0 P al bl q r : Nat} (h : StepIn A D u2 u1 u0 v1 v0 P al bl) (k : QIn A D (u2 * 18446744073709551616 + u1) v1 q r) (hq : q < 18446744073709551616) (ht : q * v0 ≤ r * 18446744073709551616 + u0) : q ≤ A / D + 1 := by
  refine guess_le (A := A) (D := D) (U3 := (u2 * 18446744073709551616 + u1) * 18446744073709551616 + u0) (V2 := v1 * 18446744073709551616 + v0) (P := P) (bl := bl) (al := al) h.hA h.hD h.bl ?_ (by have := h.top; omega) (lt_succ_div A h.pos)
  have e1 : q * (v1 * 18446744073709551616 + v0) = q * v1 * 18446744073709551616 + q * v0 := by rw [Nat.mul_add, Nat.mul_assoc]
  have e2 : (q * v1 + r) * 18446744073709551616 = q * v1 * 18446744073709551616 + r * 18446744073709551616 := Nat.add_mul _ _ _
  rw [k.eq, e1, e2]; omega
theorem QIn.over {A D u2 u1 u0 v1 v0 P al bl q r : Nat} (h : StepIn A D u2 u1 u0 v1 v0 P al bl) (k : QIn A D (u2 * 18446744073709551616 + u1) v1 q r) (hq : q < 18446744073709551616) (hr : 18446744073709551616 ≤ r) : q ≤ A / D + 1 := by
  refine k.le h hq ?_
  have h1 : q * v0 ≤ 18446744073709551616 * 18446744073709551616 := Nat.mul_le_mul (by omega) (by have := h.v0; omega)
  have h2 : 18446744073709551616 * 18446744073709551616 ≤ r * 18446744073709551616 := Nat.mul_le_mul_right _ hr
  omega
theorem StepIn.topq {A D u2 u1 u0 v1 v0 P al bl : Nat} (h : StepIn A D u2 u1 u0 v1 v0 P al bl) (hu : v1 ≤ u2) : A / D ≤ 18446744073709551616 - 1 ∧ 18446744073709551616 - 1 ≤ A / D + 1 := by
  refine ⟨?_, ?_⟩
  · have : A / D < 18446744073709551616 := by rw [Nat.div_lt_iff_lt_mul h.pos, Nat.mul_comm]; exact h.lt
    exact Nat.le_sub_one_of_lt this
  · refine guess_top (A := A) (D := D) (v1 := v1) (P := 18446744073709551616 * P) (bl := v0 * P + bl) (b := 18446744073709551616) (u2 := u2) (by decide) ?_ hu ?_ ?_ (by have := h.top; omega) (lt_succ_div A h.pos)
    · rw [h.hA, Nat.add_mul, Nat.add_mul, Nat.add_mul, Nat.mul_assoc, Nat.mul_assoc, Nat.mul_assoc]; omega
    · rw [h.hD, Nat.add_mul, Nat.mul_assoc, Nat.add_assoc]
    · have h1 := h.bl
      have h2 : (v0 + 1) * P ≤ 18446744073709551616 * P := Nat.mul_le_mul_right _ h.v0
      rw [Nat.add_mul] at h2; omega
def Tail (C : Cx) (Q : Exit → X → Prop) (st : List It) (I : Nat → Prop) (Ys : Nat → X) : Prop := ∀ q, I q → Ew.Next C Q st (Ys q)
theorem two_ways {C : Cx} {Q : Exit → X → Prop} {st : List It} {P : Prop} (I : Nat → Prop) (Ys : Nat → X) (tl : Tail C Q st I Ys) (main : Tail C Q st I Ys → P) : P := main tl
theorem step_calls {w : World} {ba bb : Nat} {z y : Nat → Int} {La Lb : Nat} {Ta Tb : TypeId} (h2 : Two w ba bb z y La Lb Ta Tb) (hz : ∀ j, 0 ≤ z j ∧ z j < 18446744073709551616) (hy : ∀ j, 0 ≤ y j ∧ y j < 18446744073709551616) {off n m ca cb : Nat} (hn : n = m + 2)
    (hla : off + n + 1 ≤ La) (hlb : n ≤ Lb) (hsm : La < 1000000000) {A D : Nat} (hA : numS off z (n + 1) = (A : Int)) (hD : num 18446744073709551616 y n = (D : Int)) (htop : 9223372036854775808 ≤ y (n - 1)) (hlt : A < D * 18446744073709551616) :
    Calls Tryd.prog 132 #[.slice (some ⟨ba, off, none⟩) (n + 1) ca, .slice (some ⟨bb, 0, none⟩) n cb] w (fun e w' => ∃ s : Unit, True ∧ RetW [ba, bb] (.int .u64 ((A / D : Nat) : Int)) 2
      [some (.cells (ints .u64 (putD z off (n + 1) (A % D)) La) Ta (0, 0)), some (.cells (ints .u64 y Lb) Tb (0, 0))] w e w') := by
  -- the limbs
  obtain ⟨u2, hu2⟩ := Int.eq_ofNat_of_zero_le (hz (off + n)).1
  obtain ⟨u1, hu1⟩ := Int.eq_ofNat_of_zero_le (hz (off + (m + 1))).1
  obtain ⟨u0, hu0⟩ := Int.eq_ofNat_of_zero_le (hz (off + m)).1
  obtain ⟨v1, hv1⟩ := Int.eq_ofNat_of_zero_le (hy (m + 1)).1
  obtain ⟨v0, hv0⟩ := Int.eq_ofNat_of_zero_le (hy m).1
  have bu2 := (hz (off + n)).2
  have bu1 := (hz (off + (m + 1))).2
  have bu0 := (hz (off + m)).2
  have bv1 := (hy (m + 1)).2
  have bv0 := (hy m).2
  rw [hu2] at bu2; rw [hu1] at bu1; rw [hu0] at bu0; rw [hv1] at bv1; rw [hv0] at bv0
  have hal := numS_bd (off := off) (k := m) hz
  have hbl := num_bd (k := m) (fun i _ => hy i)
  obtain ⟨al, hal'⟩ := Int.eq_ofNat_of_zero_le hal.1
  obtain ⟨bl, hbl'⟩ := Int.eq_ofNat_of_zero_le hbl.1
  have hS : StepIn A D u2 u1 u0 v1 v0 (18446744073709551616 ^ m) al bl := by
    refine ⟨?_, ?_, by rw [hal'] at hal; exact Int.ofNat_lt.1 hal.2, by rw [hbl'] at hbl; exact Int.ofNat_lt.1 hbl.2, ?_, hlt, by omega, by omega, by omega, by omega, by omega⟩
    · subst hn
      rw [numS_succ, numS_succ, numS_succ, hal', hu0, hu1, hu2] at hA
      have e2 : ((18446744073709551616 ^ (m + 2) : Nat) : Int) = (18446744073709551616 ^ m : Nat) * 18446744073709551616 * 18446744073709551616 := by rw [Nat.pow_succ, Nat.pow_succ]; simp
      have e1 : ((18446744073709551616 ^ (m + 1) : Nat) : Int) = (18446744073709551616 ^ m : Nat) * 18446744073709551616 := by rw [Nat.pow_succ]; simp
      rw [e1, e2] at hA
      have : (A : Int) = ((((u2 * 18446744073709551616 + u1) * 18446744073709551616 + u0) * 18446744073709551616 ^ m + al : Nat) : Int) := by
        rw [← hA]
        simp only [Int.natCast_add, Int.natCast_mul, Int.natCast_pow]
        generalize ((18446744073709551616 : Nat) : Int) ^ m = P
        grind
      exact Int.ofNat.inj this
    · subst hn
      rw [num, num, hbl', hv0, hv1] at hD
      have e1 : ((18446744073709551616 ^ (m + 1) : Nat) : Int) = (18446744073709551616 ^ m : Nat) * 18446744073709551616 := by rw [Nat.pow_succ]; simp
      rw [e1] at hD
      have : (D : Int) = (((v1 * 18446744073709551616 + v0) * 18446744073709551616 ^ m + bl : Nat) : Int) := by
        rw [← hD]
        simp only [Int.natCast_add, Int.natCast_mul, Int.natCast_pow]
        generalize ((18446744073709551616 : Nat) : Int) ^ m = P
        grind
      exact Int.ofNat.inj this
    · rw [show n - 1 = m + 1 by omega, hv1] at htop; omega
  have htop' := hS.top
  have f1 : ((n : Int) - 1).toNat = m + 1 := by omega
  have f2 : ((n : Int) - 2).toNat = m := by omega
  have hpos := hS.pos
  clear hal hbl hal' hbl' htop
  refine wr_calls (fun _ => True) _ (fun _ => 2) (fun _ => [some (.cells (ints .u64 (putD z off (n + 1) (A % D)) La) Ta (0, 0)), some (.cells (ints .u64 y Lb) Tb (0, 0))]) [ba, bb] [.cells (ints .u64 z La) Ta (0, 0), .cells (ints .u64 y Lb) Tb (0, 0)]
    [.sl 0 off (n + 1) ca, .sl 1 0 n cb] Tryd.func132 rfl in132 (by simp [Tryd.f132]) (by simp [closeds, closed]) rfl (by simp [h2.ne]) h2.objs (next_of 1000 ?_)
  simp (maxSteps := 4000000) (disch := omega) only [go_sem, Nat.reduceBEq, Nat.reduceAdd, Nat.reduceMul, Nat.reduceSub, Nat.reduceLT, Nat.reduceLeDiff, Int.reduceToNat, Int.reduceLT, Int.reduceLE, Int.reduceAdd, Int.reduceMul, Int.reduceSub, Int.reduceNeg, Int.reduceDiv, Int.reduceMod, Nat.reduceBNe, Nat.reduceGT, Int.reduceBEq, Int.reduceBNe, Int.reduceGT, Nat.reduceDiv, Nat.reduceMod, Nat.reducePow, Int.reducePow, gt_iff_lt, ge_iff_le, List.reduceReplicate, ↓reduceIte, Tryd.f132]
  repeat (with_reducible refine And.intro (by first | omega | assumption | (constructor <;> assumption) | (simp; done) | (simp; omega) | (simp [*]; done)) ?_)
  apply two_ways (fun q => A / D ≤ q ∧ q ≤ A / D + 1 ∧ q < 18446744073709551616) (fun q => ⟨[(6, .int .u64 (q : Nat)), (5, .int .i64 (n : Nat)), (1, .sl 1 0 n cb), (0, .sl 0 off (n + 1) ca)], 2,
    [(1, some (.cells (ints .u64 y Lb) Tb (0, 0))), (0, some (.cells (ints .u64 z La) Ta (0, 0)))], baseW w [ba, bb], []⟩)
  case main =>
    intro tail
    repeat' (first
      | with_reducible refine And.intro (by first | omega | assumption | (constructor <;> assumption) | (simp; done) | (simp; omega) | (simp [*]; done)) ?_
      | simp (maxSteps := 4000000) (disch := omega) only [go_sem, Nat.reduceBEq, Nat.reduceAdd, Nat.reduceMul, Nat.reduceSub, Nat.reduceLT, Nat.reduceLeDiff, Int.reduceToNat, Int.reduceLT, Int.reduceLE, Int.reduceAdd, Int.reduceMul, Int.reduceSub, Int.reduceNeg, Int.reduceDiv, Int.reduceMod, Nat.reduceBNe, Nat.reduceGT, Int.reduceBEq, Int.reduceBNe, Int.reduceGT, Nat.reduceDiv, Nat.reduceMod, Nat.reducePow, Int.reducePow, gt_iff_lt, ge_iff_le, List.reduceReplicate, ↓reduceIte, Int.toNat_natCast, f1, f2, hu2, hu1, hu0, hv1, hv0]
      | with_reducible refine roundS (next_of 1000 ?_)
      | with_reducible refine drawS_of mixed (by kernel_rfl) (dg_of 1000 ?_)
      | with_reducible refine endD_of (by kernel_rfl) (next_of 1000 ?_)
      | refine callS_p (div64_p _ _ _ (by omega) (by omega) (by omega)) (next_of 1000 ?_)
      | refine callD_p (div64_p _ _ _ (by omega) (by omega) (by omega)) (dg_of 1000 ?_)
      | with_reducible refine next_of 1000 ?_
      | ((first | refine condS_split (fun h => ?_) (fun h => ?_) | refine testS_split (fun h => ?_) (fun h => ?_) | refine testD_split (fun h => ?_) (fun h => ?_)) <;> (try simp only [bne_iff_ne, ne_eq, beq_iff_eq, decide_eq_true_eq, decide_eq_false_iff_not, Bool.not_eq_true, Bool.not_eq_false, Bool.not_true, Bool.not_false, bne_eq_false_iff_eq, beq_eq_false_iff_ne, Bool.and_eq_true, Bool.or_eq_true, Bool.and_eq_false_imp, Bool.or_eq_false_iff, Bool.not_eq_true', Bool.not_eq_false', Int.not_lt, Int.not_le] at h) <;> (try (exfalso; omega))))
    · have hst := hS.start
      have hq0 : (u2 * 18446744073709551616 + u1) / v1 < 18446744073709551616 := by rw [Nat.div_lt_iff_lt_mul (by omega)]; omega
      have hr0 : (u2 * 18446744073709551616 + u1) % v1 < v1 := Nat.mod_lt _ (by omega)
      generalize (u2 * 18446744073709551616 + u1) / v1 = q0 at *
      generalize (u2 * 18446744073709551616 + u1) % v1 = r0 at *
      refine loopX (S := Nat × Nat) (S' := Nat) 0 rfl (fun s => QIn A D (u2 * 18446744073709551616 + u1) v1 s.1 s.2 ∧ s.2 < 18446744073709551616 ∧ s.1 < 18446744073709551616)
        (fun s => ⟨[(7, .int .u64 (s.2 : Nat)), (6, .int .u64 (s.1 : Nat)), (5, .int .i64 (n : Nat)), (1, .sl 1 0 n cb), (0, .sl 0 off (n + 1) ca)], 2,
          [(1, some (.cells (ints .u64 y Lb) Tb (0, 0))), (0, some (.cells (ints .u64 z La) Ta (0, 0)))], baseW w [ba, bb], []⟩)
        (fun s => s.1) (fun q => A / D ≤ q ∧ q ≤ A / D + 1 ∧ q < 18446744073709551616)
        (fun q => ⟨[(6, .int .u64 (q : Nat)), (5, .int .i64 (n : Nat)), (1, .sl 1 0 n cb), (0, .sl 0 off (n + 1) ca)], 2,
          [(1, some (.cells (ints .u64 y Lb) Tb (0, 0))), (0, some (.cells (ints .u64 z La) Ta (0, 0)))], baseW w [ba, bb], []⟩)
        (q0, r0) ⟨hst, by show r0 < 18446744073709551616; omega, hq0⟩ (Weak.sub (weak_of (by simp [wσ, go_sem, closed, closeds, closeds_ints]) (by simp [whs, go_sem, EObj.closed, closed, closeds, closeds_ints]) (by simp [*]) rfl rfl (by simp))) ?_ ?_
      · rintro ⟨q, r⟩ ⟨hH, hr, hq⟩
        simp only at hH hr hq
        have hpr : ((q * v0 : Nat) : Int) = (q : Int) * (v0 : Int) := Int.natCast_mul _ _
        by_cases ht : r * 18446744073709551616 + u0 < q * v0
        · obtain ⟨h1, h3⟩ := hH.dec hS ht
          refine next_of 1000 ?_
          repeat' (first
            | with_reducible refine And.intro (by first | omega | assumption | (constructor <;> assumption) | (simp; done) | (simp; omega) | (simp [*]; done)) ?_
            | simp (maxSteps := 4000000) (disch := omega) only [go_sem, Nat.reduceBEq, Nat.reduceAdd, Nat.reduceMul, Nat.reduceSub, Nat.reduceLT, Nat.reduceLeDiff, Int.reduceToNat, Int.reduceLT, Int.reduceLE, Int.reduceAdd, Int.reduceMul, Int.reduceSub, Int.reduceNeg, Int.reduceDiv, Int.reduceMod, Nat.reduceBNe, Nat.reduceGT, Int.reduceBEq, Int.reduceBNe, Int.reduceGT, Nat.reduceDiv, Nat.reduceMod, Nat.reducePow, Int.reducePow, gt_iff_lt, ge_iff_le, List.reduceReplicate, ↓reduceIte, Int.toNat_natCast, f1, f2, hu2, hu1, hu0, hv1, hv0]
            | with_reducible refine roundS (next_of 1000 ?_)
            | with_reducible refine drawS_of mixed (by kernel_rfl) (dg_of 1000 ?_)
            | with_reducible refine endD_of (by kernel_rfl) (next_of 1000 ?_)
            | refine callS_p (mul64_p _ _ (by omega) (by omega) (by omega) (by omega)) (next_of 1000 ?_)
            | refine callD_p (mul64_p _ _ (by omega) (by omega) (by omega) (by omega)) (dg_of 1000 ?_)
            | refine callS_e (add64_e _ _ _ (by omega) (by omega) (by omega) (by omega)) (next_of 1000 ?_)
            | refine callD_e (add64_e _ _ _ (by omega) (by omega) (by omega) (by omega)) (dg_of 1000 ?_)
            | with_reducible refine next_of 1000 ?_
            | ((first | refine condS_split (fun h => ?_) (fun h => ?_) | refine testS_split (fun h => ?_) (fun h => ?_) | refine testD_split (fun h => ?_) (fun h => ?_)) <;> (try simp only [bne_iff_ne, ne_eq, beq_iff_eq, decide_eq_true_eq, decide_eq_false_iff_not, Bool.not_eq_true, Bool.not_eq_false, Bool.not_true, Bool.not_false, bne_eq_false_iff_eq, beq_eq_false_iff_ne, Bool.and_eq_true, Bool.or_eq_true, Bool.and_eq_false_imp, Bool.or_eq_false_iff, Bool.not_eq_true', Bool.not_eq_false', Int.not_lt, Int.not_le] at h) <;> (try (exfalso; omega))))
          all_goals simp only [Int.add_zero]
          all_goals first
            | exact ⟨q - 1, ⟨h3.ge, h3.over hS (by omega) (by omega), by omega⟩, Weak.sub (weak_of (by
                rw [show ((q : Int) - 1) = ((q - 1 : Nat) : Int) by omega]
                simp [wσ, go_sem, closed, closeds]) (by simp [whs, go_sem, EObj.closed, closeds_ints]) (by simp) rfl rfl (by simp))⟩
            | exact ⟨(q - 1, r + v1), ⟨h3, by show r + v1 < 18446744073709551616; omega, by show q - 1 < 18446744073709551616; omega⟩, Weak.sub (weak_of (by
                rw [show ((q : Int) - 1) = ((q - 1 : Nat) : Int) by omega, show ((r : Int) + (v1 : Int)) % 18446744073709551616 = ((r + v1 : Nat) : Int) by omega]
                simp [wσ, go_sem, closed, closeds]) (by simp [whs, go_sem, EObj.closed, closeds_ints]) (by simp) rfl rfl (by simp)), by show q - 1 < q; omega⟩
            | (exfalso; omega)
        · refine next_of 1000 ?_
          repeat' (first
            | with_reducible refine And.intro (by first | omega | assumption | (constructor <;> assumption) | (simp; done) | (simp; omega) | (simp [*]; done)) ?_
            | simp (maxSteps := 4000000) (disch := omega) only [go_sem, Nat.reduceBEq, Nat.reduceAdd, Nat.reduceMul, Nat.reduceSub, Nat.reduceLT, Nat.reduceLeDiff, Int.reduceToNat, Int.reduceLT, Int.reduceLE, Int.reduceAdd, Int.reduceMul, Int.reduceSub, Int.reduceNeg, Int.reduceDiv, Int.reduceMod, Nat.reduceBNe, Nat.reduceGT, Int.reduceBEq, Int.reduceBNe, Int.reduceGT, Nat.reduceDiv, Nat.reduceMod, Nat.reducePow, Int.reducePow, gt_iff_lt, ge_iff_le, List.reduceReplicate, ↓reduceIte, Int.toNat_natCast, f1, f2, hu2, hu1, hu0, hv1, hv0]
            | with_reducible refine roundS (next_of 1000 ?_)
            | with_reducible refine drawS_of mixed (by kernel_rfl) (dg_of 1000 ?_)
            | with_reducible refine endD_of (by kernel_rfl) (next_of 1000 ?_)
            | refine callS_p (mul64_p _ _ (by omega) (by omega) (by omega) (by omega)) (next_of 1000 ?_)
            | refine callD_p (mul64_p _ _ (by omega) (by omega) (by omega) (by omega)) (dg_of 1000 ?_)
            | with_reducible refine next_of 1000 ?_
            | ((first | refine condS_split (fun h => ?_) (fun h => ?_) | refine testS_split (fun h => ?_) (fun h => ?_) | refine testD_split (fun h => ?_) (fun h => ?_)) <;> (try simp only [bne_iff_ne, ne_eq, beq_iff_eq, decide_eq_true_eq, decide_eq_false_iff_not, Bool.not_eq_true, Bool.not_eq_false, Bool.not_true, Bool.not_false, bne_eq_false_iff_eq, beq_eq_false_iff_ne, Bool.and_eq_true, Bool.or_eq_true, Bool.and_eq_false_imp, Bool.or_eq_false_iff, Bool.not_eq_true', Bool.not_eq_false', Int.not_lt, Int.not_le] at h) <;> (try (exfalso; omega))))
          all_goals first | exact ⟨q, ⟨hH.ge, hH.le hS hq (by omega), hq⟩, Weak.sub (weak_of (by simp [wσ, go_sem, closed, closeds, closeds_ints]) (by simp [whs, go_sem, EObj.closed, closed, closeds, closeds_ints]) (by simp [*]) rfl rfl (by simp))⟩ | (exfalso; omega)
      · rintro q hq
        refine next_of 1000 ?_
        simp (maxSteps := 4000000) (disch := omega) only [go_sem, Nat.reduceBEq, Nat.reduceAdd, Nat.reduceMul, Nat.reduceSub, Nat.reduceLT, Nat.reduceLeDiff, Int.reduceToNat, Int.reduceLT, Int.reduceLE, Int.reduceAdd, Int.reduceMul, Int.reduceSub, Int.reduceNeg, Int.reduceDiv, Int.reduceMod, Nat.reduceBNe, Nat.reduceGT, Int.reduceBEq, Int.reduceBNe, Int.reduceGT, Nat.reduceDiv, Nat.reduceMod, Nat.reducePow, Int.reducePow, gt_iff_lt, ge_iff_le, List.reduceReplicate, ↓reduceIte]
        repeat (with_reducible refine And.intro (by first | omega | assumption | (constructor <;> assumption) | (simp; done) | (simp; omega) | (simp [*]; done)) ?_)
        refine Ew.Next.sub (tail q hq) ?_
        exact Weak.sub (weak_of (by simp [wσ, go_sem, closed, closeds, closeds_ints]) (by simp [whs, go_sem, EObj.closed, closed, closeds, closeds_ints]) (by simp [*]) rfl rfl (by simp))
    · have := hS.topq (by omega)
      refine Ew.Next.sub (tail (18446744073709551616 - 1) ⟨this.1, this.2, by decide⟩) ?_
      exact Weak.sub (weak_of (by simp [wσ, go_sem, closed, closeds, closeds_ints]) (by simp [whs, go_sem, EObj.closed, closed, closeds, closeds_ints]) (by simp [*]) rfl rfl (by simp))
  case tl =>
    rintro q ⟨hq1, hq2, hq3⟩
    have hAD := Nat.div_add_mod A D
    have hmod := Nat.mod_lt A hpos
    generalize hQd : A / D = Qd at *
    have hqq : q = Qd ∨ q = Qd + 1 := by omega
    have hDP : (D : Int) < (18446744073709551616 ^ n : Nat) := by
      rw [← hD]; exact (num_bd (k := n) (fun i _ => hy i)).2
    refine loopS_rounds 1 (roundS (next_of 1000 ?_))
    repeat' (first
      | with_reducible refine And.intro (by first | omega | assumption | (constructor <;> assumption) | (simp; done) | (simp; omega) | (simp [*]; done)) ?_
      | simp (maxSteps := 4000000) (disch := omega) only [go_sem, Nat.reduceBEq, Nat.reduceAdd, Nat.reduceMul, Nat.reduceSub, Nat.reduceLT, Nat.reduceLeDiff, Int.reduceToNat, Int.reduceLT, Int.reduceLE, Int.reduceAdd, Int.reduceMul, Int.reduceSub, Int.reduceNeg, Int.reduceDiv, Int.reduceMod, Nat.reduceBNe, Nat.reduceGT, Int.reduceBEq, Int.reduceBNe, Int.reduceGT, Nat.reduceDiv, Nat.reduceMod, Nat.reducePow, Int.reducePow, gt_iff_lt, ge_iff_le, List.reduceReplicate, ↓reduceIte, Int.toNat_natCast]
      | with_reducible refine roundS (next_of 1000 ?_)
      | with_reducible refine drawS_of mixed (by kernel_rfl) (dg_of 1000 ?_)
      | with_reducible refine endD_of (by kernel_rfl) (next_of 1000 ?_)
      | with_reducible refine next_of 1000 ?_
      | ((first | refine condS_split (fun h => ?_) (fun h => ?_) | refine testS_split (fun h => ?_) (fun h => ?_) | refine testD_split (fun h => ?_) (fun h => ?_)) <;> (try simp only [bne_iff_ne, ne_eq, beq_iff_eq, decide_eq_true_eq, decide_eq_false_iff_not, Bool.not_eq_true, Bool.not_eq_false, Bool.not_true, Bool.not_false, bne_eq_false_iff_eq, beq_eq_false_iff_ne, Bool.and_eq_true, Bool.or_eq_true, Bool.and_eq_false_imp, Bool.or_eq_false_iff, Bool.not_eq_true', Bool.not_eq_false', Int.not_lt, Int.not_le] at h) <;> (try (exfalso; omega))))
    refine callS_wr (fun _ => True) (fun _ => .bool (decide (numS off z (n + 1) < (q : Int) * num 18446744073709551616 y n))) (fun _ => 2)
      (fun _ => [some (.cells (ints .u64 (putD z off (n + 1) ((numS off z (n + 1) - (q : Int) * num 18446744073709551616 y n) % (18446744073709551616 ^ (n + 1) : Nat)).toNat) La) Ta (0, 0)), some (.cells (ints .u64 y Lb) Tb (0, 0))]) [0, 1] en140
      (by simp [go_sem]) (by simp) (by simp) (fun bs w' hh => take_calls (two_of hh (i := 0) (j := 1) rfl rfl (by omega)) hz hy (q : Int) ⟨by omega, by omega⟩ hla hlb hsm) (fun _ _ => next_of 1000 ?_)
    rw [hA, hD]
    have hqD : ((q * D : Nat) : Int) = (q : Int) * (D : Int) := Int.natCast_mul _ _
    have hBn : ((18446744073709551616 ^ (n + 1) : Nat) : Int) = (18446744073709551616 ^ n : Nat) * 18446744073709551616 := by rw [Nat.pow_succ]; simp
    have hDn : D < 18446744073709551616 ^ n := by omega
    have hM0 : 18446744073709551616 ^ (n + 1) = 18446744073709551616 ^ n * 18446744073709551616 := Nat.pow_succ _ _
    rcases hqq with hq | hq
    · have e1 : q * D = A - A % D := by rw [hq, Nat.mul_comm]; omega
      have hc : decide ((A : Int) < (q : Int) * (D : Int)) = false := by rw [decide_eq_false_iff_not, ← hqD, e1]; omega
      have hm : (((A : Int) - (q : Int) * (D : Int)) % ((18446744073709551616 ^ (n + 1) : Nat) : Int)).toNat = A % D := by
        have h0 : (A : Int) - (q : Int) * (D : Int) = ((A % D : Nat) : Int) := by rw [← hqD, e1]; omega
        rw [h0, ← Int.natCast_emod, Int.toNat_natCast]
        exact Nat.mod_eq_of_lt (by omega)
      rw [hc, hm, hq]
      repeat' (first
        | with_reducible refine And.intro (by first | omega | assumption | (constructor <;> assumption) | (simp; done) | (simp; omega) | (simp [*]; done)) ?_
        | simp (maxSteps := 4000000) (disch := omega) only [go_sem, Nat.reduceBEq, Nat.reduceAdd, Nat.reduceMul, Nat.reduceSub, Nat.reduceLT, Nat.reduceLeDiff, Int.reduceToNat, Int.reduceLT, Int.reduceLE, Int.reduceAdd, Int.reduceMul, Int.reduceSub, Int.reduceNeg, Int.reduceDiv, Int.reduceMod, Nat.reduceBNe, Nat.reduceGT, Int.reduceBEq, Int.reduceBNe, Int.reduceGT, Nat.reduceDiv, Nat.reduceMod, Nat.reducePow, Int.reducePow, gt_iff_lt, ge_iff_le, List.reduceReplicate, ↓reduceIte]
        | with_reducible refine roundS (next_of 1000 ?_)
        | with_reducible refine drawS_of mixed (by kernel_rfl) (dg_of 1000 ?_)
        | with_reducible refine endD_of (by kernel_rfl) (next_of 1000 ?_)
        | with_reducible refine next_of 1000 ?_
        | ((first | refine condS_split (fun h => ?_) (fun h => ?_) | refine testS_split (fun h => ?_) (fun h => ?_) | refine testD_split (fun h => ?_) (fun h => ?_)) <;> (try simp only [bne_iff_ne, ne_eq, beq_iff_eq, decide_eq_true_eq, decide_eq_false_iff_not, Bool.not_eq_true, Bool.not_eq_false, Bool.not_true, Bool.not_false, bne_eq_false_iff_eq, beq_eq_false_iff_ne, Bool.and_eq_true, Bool.or_eq_true, Bool.and_eq_false_imp, Bool.or_eq_false_iff, Bool.not_eq_true', Bool.not_eq_false', Int.not_lt, Int.not_le] at h) <;> (try (exfalso; omega))))
      first
        | (refine ⟨(), rfl, fin2a, fin2b ?_ ?_⟩ <;> rfl)
        | (refine ⟨(), fin2a, fin2b ?_ ?_⟩ <;> rfl)
    · have e1 : q * D = A - A % D + D := by rw [hq, Nat.add_mul, Nat.mul_comm]; omega
      have hc : decide ((A : Int) < (q : Int) * (D : Int)) = true := by rw [decide_eq_true_eq, ← hqD, e1]; omega
      have hm : (((A : Int) - (q : Int) * (D : Int)) % ((18446744073709551616 ^ (n + 1) : Nat) : Int)).toNat = A % D + 18446744073709551616 ^ (n + 1) - D := by
        have h0 : (A : Int) - (q : Int) * (D : Int) = ((A % D + 18446744073709551616 ^ (n + 1) - D : Nat) : Int) + ((18446744073709551616 ^ (n + 1) : Nat) : Int) * (-1) := by rw [← hqD, e1]; omega
        rw [h0, Int.add_mul_emod_self_left, ← Int.natCast_emod, Int.toNat_natCast]
        exact Nat.mod_eq_of_lt (by omega)
      rw [hc, hm]
      obtain ⟨M1, hM1⟩ : ∃ M1, M1 = A % D + 18446744073709551616 ^ (n + 1) - D := ⟨_, rfl⟩
      rw [← hM1]
      have hp1 := putD_bd off (n + 1) M1 hz
      have hn1 : numS off (putD z off (n + 1) M1) (n + 1) = (M1 : Int) := by
        rw [numS_putD, Nat.mod_eq_of_lt (by omega)]
      have hq1' : (q : Int) - 1 = (Qd : Int) := by omega
      repeat' (first
        | with_reducible refine And.intro (by first | omega | assumption | (constructor <;> assumption) | (simp; done) | (simp; omega) | (simp [*]; done)) ?_
        | simp (maxSteps := 4000000) (disch := omega) only [go_sem, Nat.reduceBEq, Nat.reduceAdd, Nat.reduceMul, Nat.reduceSub, Nat.reduceLT, Nat.reduceLeDiff, Int.reduceToNat, Int.reduceLT, Int.reduceLE, Int.reduceAdd, Int.reduceMul, Int.reduceSub, Int.reduceNeg, Int.reduceDiv, Int.reduceMod, Nat.reduceBNe, Nat.reduceGT, Int.reduceBEq, Int.reduceBNe, Int.reduceGT, Nat.reduceDiv, Nat.reduceMod, Nat.reducePow, Int.reducePow, gt_iff_lt, ge_iff_le, List.reduceReplicate, ↓reduceIte, hq1']
        | with_reducible refine roundS (next_of 1000 ?_)
        | with_reducible refine drawS_of mixed (by kernel_rfl) (dg_of 1000 ?_)
        | with_reducible refine endD_of (by kernel_rfl) (next_of 1000 ?_)
        | with_reducible refine next_of 1000 ?_
        | ((first | refine condS_split (fun h => ?_) (fun h => ?_) | refine testS_split (fun h => ?_) (fun h => ?_) | refine testD_split (fun h => ?_) (fun h => ?_)) <;> (try simp only [bne_iff_ne, ne_eq, beq_iff_eq, decide_eq_true_eq, decide_eq_false_iff_not, Bool.not_eq_true, Bool.not_eq_false, Bool.not_true, Bool.not_false, bne_eq_false_iff_eq, beq_eq_false_iff_ne, Bool.and_eq_true, Bool.or_eq_true, Bool.and_eq_false_imp, Bool.or_eq_false_iff, Bool.not_eq_true', Bool.not_eq_false', Int.not_lt, Int.not_le] at h) <;> (try (exfalso; omega))))
      refine callS_wr (fun _ => True) (fun _ => .bool (decide (((18446744073709551616 ^ (n + 1) : Nat) : Int) ≤ numS off (putD z off (n + 1) M1) (n + 1) + num 18446744073709551616 y n))) (fun _ => 2)
        (fun _ => [some (.cells (ints .u64 (putD (putD z off (n + 1) M1) off (n + 1) ((numS off (putD z off (n + 1) M1) (n + 1) + num 18446744073709551616 y n) % (18446744073709551616 ^ (n + 1) : Nat)).toNat) La) Ta (0, 0)), some (.cells (ints .u64 y Lb) Tb (0, 0))]) [0, 1] en141
        (by simp [go_sem]) (by simp) (by simp) (fun bs w' hh => give_calls (two_of hh (i := 0) (j := 1) rfl rfl (by omega)) hp1 hy hla hlb hsm) (fun _ _ => next_of 1000 ?_)
      rw [hn1, hD]
      have hm2 : (((M1 : Int) + (D : Int)) % ((18446744073709551616 ^ (n + 1) : Nat) : Int)).toNat = A % D := by
        have h0 : (M1 : Int) + (D : Int) = ((A % D : Nat) : Int) + ((18446744073709551616 ^ (n + 1) : Nat) : Int) * 1 := by omega
        rw [h0, Int.add_mul_emod_self_left, ← Int.natCast_emod, Int.toNat_natCast]
        exact Nat.mod_eq_of_lt (by omega)
      rw [hm2, putD_putD]
      have hz0 : putD z off (n + 1) (A % D) (off + n) = 0 := by
        simp only [putD]
        rw [if_pos (by omega), show off + n - off = n by omega, dig, Nat.div_eq_of_lt (by omega)]; rfl
      repeat' (first
        | with_reducible refine And.intro (by first | omega | assumption | (constructor <;> assumption) | (simp; done) | (simp; omega) | (simp [*]; done)) ?_
        | simp (maxSteps := 4000000) (disch := omega) only [go_sem, Nat.reduceBEq, Nat.reduceAdd, Nat.reduceMul, Nat.reduceSub, Nat.reduceLT, Nat.reduceLeDiff, Int.reduceToNat, Int.reduceLT, Int.reduceLE, Int.reduceAdd, Int.reduceMul, Int.reduceSub, Int.reduceNeg, Int.reduceDiv, Int.reduceMod, Nat.reduceBNe, Nat.reduceGT, Int.reduceBEq, Int.reduceBNe, Int.reduceGT, Nat.reduceDiv, Nat.reduceMod, Nat.reducePow, Int.reducePow, gt_iff_lt, ge_iff_le, List.reduceReplicate, ↓reduceIte, Int.toNat_natCast, hz0]
        | with_reducible refine roundS (next_of 1000 ?_)
        | with_reducible refine drawS_of mixed (by kernel_rfl) (dg_of 1000 ?_)
        | with_reducible refine endD_of (by kernel_rfl) (next_of 1000 ?_)
        | with_reducible refine next_of 1000 ?_
        | ((first | refine condS_split (fun h => ?_) (fun h => ?_) | refine testS_split (fun h => ?_) (fun h => ?_) | refine testD_split (fun h => ?_) (fun h => ?_)) <;> (try simp only [bne_iff_ne, ne_eq, beq_iff_eq, decide_eq_true_eq, decide_eq_false_iff_not, Bool.not_eq_true, Bool.not_eq_false, Bool.not_true, Bool.not_false, bne_eq_false_iff_eq, beq_eq_false_iff_ne, Bool.and_eq_true, Bool.or_eq_true, Bool.and_eq_false_imp, Bool.or_eq_false_iff, Bool.not_eq_true', Bool.not_eq_false', Int.not_lt, Int.not_le] at h) <;> (try (exfalso; omega))))
      first
        | (refine ⟨(), rfl, fin2a, fin2b ?_ ?_⟩ <;> rfl)
        | (refine ⟨(), fin2a, fin2b ?_ ?_⟩ <;> rfl)
end Go.Proofs.YtbilnedgpgpanaaDoor
