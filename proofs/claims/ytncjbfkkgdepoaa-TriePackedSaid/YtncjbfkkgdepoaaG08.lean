/- Part of a proof over the seat Ytncjbfkkgdepoaa. -/
import Derived.Test.YtncjbfkkgdepoaaG07
import Derived.Test.YtncjbfkkgdepoaaEng2
set_option linter.unusedSimpArgs false
set_option linter.unusedVariables false
set_option maxRecDepth 100000
namespace Go.Proofs.Ytncjbfkkgdepoaa
open Go RowKit Go.Ew
set_option maxHeartbeats 4000000
theorem Cx7 : C5 Try.f102.ntmps (Try.f102.body.getD .skip) = true := by kernel_rfl
theorem Cx8 : C5 Try.f101.ntmps (Try.f101.body.getD .skip) = true := by kernel_rfl
/-- What stands ahead of a payload. -/
def hd (base n : Nat) : List UInt8 := if n ≤ 55 then [UInt8.ofNat (base + n)] else UInt8.ofNat (base + 55 + nby n) :: leB n
theorem Bh4 {base n : Nat} : (hd base n).length = if n ≤ 55 then 1 else 1 + nby n := by
 unfold hd
 split
 ·rfl
 ·rw [List.length_cons, Ar2]; omega
theorem Cp3 {n : Nat} (h : n < 18446744073709551616) : nby n ≤ 8 := by
 have : blen n ≤ 64 := blen_le.2 (by omega)
 unfold nby; omega
theorem Ce0 {k : Nat} (h : k < 256) : ((UInt8.ofNat k).toNat : Int) = (k : Int) := by
 rw [UInt8.toNat_ofNat_of_lt' (by simpa using h)]
theorem Z4 (base n : Nat) (hb : base ≤ 192) (hn : n < 4611686018427387904) (B : Base) :
  Does Try.prog 102 [.int .u8 (base : Nat), .int .i64 (n : Nat)] B (fun s : Option Addr × Nat => .raw (.slice s.1 (hd base n).length s.2)) (fun s B' => BytesAt B' s.1 (hd base n)) := by
 refine Bu2 Cz8 (fun s B B' hB hR => hR.ext hB) Try.func102 rfl Cx7 (by simp [Try.f102]) (by simp [A0, closed]) (fun B0 hB0 => A3 1000 ?_)
 by_cases h55 : n ≤ 55
 ·have eh : hd base n = [UInt8.ofNat (base + n)] := if_pos h55
  have ev : ((UInt8.ofNat (base + n)).toNat : Int) = (base : Int) + n := by rw [Ce0 (by omega)]; push_cast; rfl
  repeat' (first | with_reducible refine And.intro (by first | omega | (simp; done)) ?_ | simp (maxSteps := 4000000) (disch := omega) only [go_sem, ↓reduceIte, Try.f102] | ((first | refine A6 (fun h => ?_) (fun h => ?_) | refine D9 (fun h => ?_) (fun h => ?_) | refine E9 (fun h => ?_) (fun h => ?_)) <;> (try simp only [bne_iff_ne, ne_eq, beq_iff_eq, decide_eq_true_eq, decide_eq_false_iff_not, Bool.not_eq_true, Bool.not_eq_false, Bool.not_true, Bool.not_false, bne_eq_false_iff_eq, beq_eq_false_iff_ne, Bool.and_eq_true, Bool.or_eq_true, Bool.and_eq_false_imp, Bool.or_eq_false_iff, Bool.not_eq_true', Bool.not_eq_false', Int.not_lt, Int.not_le] at h) <;> (try (exfalso; omega))))
  refine ⟨BExt.refl _, Bs5 (T := 5) 0 1 (l := some (1, [])) (xs := hd base n) (by rw [eh]; simp only [List.map_cons, List.map_nil, bE, ev]; rfl) (by rw [eh]; rfl) (by simp [lOk, maxLen]) (fun b ad cap B' hB hf hC hc => ?_)⟩
  simp only [lE] at hf
  rw [hf, eh]
  rw [eh] at hC
  exact ⟨by simp [closed], (ad, cap), rfl, hC⟩
 ·have eh : hd base n = UInt8.ofNat (base + 55 + nby n) :: leB n := if_neg h55
  have h8 := Cp3 (n := n) (by omega)
  have ev : ((UInt8.ofNat (base + 55 + nby n)).toNat : Int) = (base : Int) + 55 + nby n := by rw [Ce0 (by omega)]; push_cast; rfl
  repeat' (first | simp (maxSteps := 4000000) (disch := omega) only [go_sem, ↓reduceIte, Try.f102] | ((first | refine A6 (fun h => ?_) (fun h => ?_) | refine D9 (fun h => ?_) (fun h => ?_) | refine E9 (fun h => ?_) (fun h => ?_)) <;> (try simp only [bne_iff_ne, ne_eq, beq_iff_eq, decide_eq_true_eq, decide_eq_false_iff_not, Bool.not_eq_true, Bool.not_eq_false, Bool.not_true, Bool.not_false, bne_eq_false_iff_eq, beq_eq_false_iff_ne, Bool.and_eq_true, Bool.or_eq_true, Bool.and_eq_false_imp, Bool.or_eq_false_iff, Bool.not_eq_true', Bool.not_eq_false', Int.not_lt, Int.not_le] at h) <;> (try (exfalso; omega))))
  refine F4 (Bq2 n (by omega) _) (fun _ => by simp [closed]) (fun s B2 hB2 hR => A3 1000 ?_)
  repeat' (first | with_reducible refine And.intro (by first | omega | (simp; done)) ?_ | simp (maxSteps := 4000000) (disch := omega) only [go_sem, ↓reduceIte])
  refine appB (T := 5) (l := some (1, [])) (xs := [UInt8.ofNat (base + 55 + nby n)]) 0 1 (leB n) rfl Try.underlying22 (.inl ⟨_, Try.underlying22⟩) zr5 cz5 by5 rfl rfl (by simp only [List.map_cons, List.map_nil, bE, ev]; rfl) (by simp [lOk, maxLen]) ((Ar2 n) ▸ hR.1.src _) (by rw [Ar2]; omega) (fun l1 hl1 => A3 1000 ?_)
  repeat' (simp (maxSteps := 4000000) (disch := omega) only [go_sem, ↓reduceIte])
  refine ⟨by rcases l1 with _ | ⟨q1, q2⟩ <;> rfl, hB2, Bs5 (T := 5) 1 (1 + (leB n).length) (l := l1) (xs := hd base n) (by rw [eh]; rfl) (by rw [eh, List.length_cons]; omega) hl1 (fun b ad cap B' hB hf hC hc => ?_)⟩
  rw [hf, show 1 + (leB n).length = (hd base n).length by rw [eh, List.length_cons]; omega]
  exact ⟨by simp [closed], (ad, cap), rfl, hC⟩
end Go.Proofs.Ytncjbfkkgdepoaa
namespace Go.Proofs.Ytncjbfkkgdepoaa
open Go RowKit Go.Ew
set_option maxHeartbeats 4000000
mutual
/-- An item's J2. -/
def J2 : Itm → List UInt8
 | .mk l b ks => if l = 1 then hd 192 (E2 ks).length ++ E2 ks else if b.length = 1 ∧ b.getD 0 0 < 128 then b else hd 128 b.length ++ b
def E2 : List Itm → List UInt8
 | [] => []
 | k :: ks => J2 k ++ E2 ks
end
def pay : Itm → List UInt8
 | .mk l b ks => if l = 1 then E2 ks else b
mutual
/-- Whether an item may be. -/
def okI : Itm → Bool
 | .mk l b ks => ((l == 0 && ks.isEmpty) || (l == 1 && b.isEmpty)) && okL ks
def okL : List Itm → Bool
 | [] => true
 | k :: ks => okI k && okL ks
end
theorem okL_iff {ks : List Itm} : okL ks = true ↔ ∀ k ∈ ks, okI k = true := by
 induction ks with
 | nil => simp [okL]
 | cons k ks ih => simp [okL, ih]
theorem V7 (a b : List Itm) : E2 (a ++ b) = E2 a ++ E2 b := by
 induction a with
 | nil => rfl
 | cons k a ih => simp only [List.cons_append, E2, ih, List.append_assoc]
theorem X5 {ks : List Itm} {i : Nat} (hi : i < ks.length) : E2 (ks.take (i + 1)) = E2 (ks.take i) ++ J2 ks[i] := by
 rw [List.take_succ_eq_append_getElem hi, V7]; simp [E2]
theorem Ab6 {ks : List Itm} (i : Nat) : (E2 (ks.take i)).length ≤ (E2 ks).length := by
 have : E2 ks = E2 (ks.take i) ++ E2 (ks.drop i) := by rw [← V7, List.take_append_drop]
 rw [this, List.length_append]; omega
theorem Bd2 {ks : List Itm} {k : Itm} (h : k ∈ ks) : (J2 k).length ≤ (E2 ks).length := by
 obtain ⟨i, hi, rfl⟩ := List.getElem_of_mem h
 have h1 := X5 hi
 have h2 := Ab6 (ks := ks) (i + 1)
 rw [h1, List.length_append] at h2; omega
theorem Ar9 {base n : Nat} (h : n < 4611686018427387904) : 1 ≤ (hd base n).length ∧ (hd base n).length ≤ 9 := by
 have := Cp3 (n := n) (by omega)
 rw [Bh4]; split <;> omega
theorem Ch7 {B : Base} {t : Itm} {s : Plc} (h : ItAt B t s) (hok : okI t = true) (hf : (J2 t).length < 1152921504606846976) :
  Does Try.prog 101 [.agg (itE t s)] B (fun _ : Unit => .tup [.int .i64 ((J2 t).length : Nat), .int .i64 ((pay t).length : Nat)]) (fun _ _ => True) := by
 induction h with
 | mk l b qs s hb hbl hc hql hk ih =>
 have e1 : (Itm.mk l b (qs.map Prod.fst)).list = l := rfl
 have e2 : (Itm.mk l b (qs.map Prod.fst)).bytes = b := rfl
 have e3 : (Itm.mk l b (qs.map Prod.fst)).kids.length = qs.length := List.length_map _
 simp only [itE, e1, e2, e3]
 refine J9 Cz9 (fun s B B' hB hR => hR) Try.func101 rfl Cx8 (by simp [Try.f101]) (by simp [A0, closed]) (fun B0 hB0 => A3 1000 ?_)
 replace hb := hb.ext hB0
 replace hc := hc.ext hB0
 obtain ⟨K, hK⟩ : ∃ K, K = qs.map Prod.fst := ⟨_, rfl⟩
 have hKl : K.length = qs.length := by rw [hK, List.length_map]
 rw [← hK] at hok hf
 simp only [← hK]
 simp only [okI, Bool.and_eq_true, Bool.or_eq_true, beq_iff_eq, List.isEmpty_iff] at hok
 obtain ⟨hs, hkids⟩ := hok
 rcases hs with ⟨rfl, hks⟩ | ⟨rfl, rfl⟩
 ·subst hks
  have hq0 : qs.length = 0 := by rw [← hKl]; rfl
  have n10 : ((0 : Int) = 1) = False := by simp
  simp only [J2, show ((0 : Int) = 1) = False from n10, if_false] at hf
  by_cases h1 : b.length = 1
  ·obtain ⟨c0, hc0⟩ : ∃ c0 : UInt8, c0 = b.getD 0 0 := ⟨_, rfl⟩
   have hl0 : F5 B0 (I0 s.bA 0) = .int .u8 (c0.toNat : Int) := by rw [hb.ld 0 (by omega), hc0]; rfl
   have hlt : (c0 < 128) = ((c0.toNat : Int) < 128) := propext ⟨fun h => by have : c0.toNat < 128 := h; omega, fun h => by show c0.toNat < 128; omega⟩
   simp only [J2, n10, if_false, pay, h1, ← hc0, hlt, true_and]
   have hs0 := hb.lS 0 (by omega)
   have hd0 := hb.lD (by omega)
   have hso := hb.ok.so (by omega)
   have hcr := c0.toNat_lt
   repeat' (first | with_reducible refine And.intro (by first | omega | assumption | (constructor <;> assumption) | (simp; done) | (simp; omega) | (simp [*]; done) | ((repeat' refine And.intro ?_ ?_) <;> first | omega | assumption | (refine SlOk.so (n := ?_) ?_ ?_; rotate_left; assumption; omega) | (simp; done) | fail) | fail) ?_ | simp (maxSteps := 4000000) (disch := omega) only [go_sem, ↓reduceIte, Try.f101, hl0, Int.toNat_zero] | ((first | refine A6 (fun h => ?_) (fun h => ?_) | refine D9 (fun h => ?_) (fun h => ?_) | refine E9 (fun h => ?_) (fun h => ?_)) <;> (try simp only [bne_iff_ne, ne_eq, beq_iff_eq, decide_eq_true_eq, decide_eq_false_iff_not, Bool.not_eq_true, Bool.not_eq_false, Bool.not_true, Bool.not_false, bne_eq_false_iff_eq, beq_eq_false_iff_ne, Bool.and_eq_true, Bool.or_eq_true, Bool.and_eq_false_imp, Bool.or_eq_false_iff, Bool.not_eq_true', Bool.not_eq_false', Int.not_lt, Int.not_le] at h) <;> (try (exfalso; omega))))
   ·rw [if_pos (by assumption), h1]
    exact ⟨BExt.refl _, (), rfl, by simp [closed, A0]⟩
   ·refine F4 (Z4 128 1 (by omega) (by omega) _) (fun _ => by simp [closed]) (fun s B2 hB2 hR => A3 1000 ?_)
    have hh := Ar9 (base := 128) (n := 1) (by omega)
    rw [if_neg (by omega), List.length_append, h1]
    repeat' (first | with_reducible refine And.intro (by first | omega | assumption | (constructor <;> assumption) | (simp; done) | (simp; omega) | (simp [*]; done) | ((repeat' refine And.intro ?_ ?_) <;> first | omega | assumption | (refine SlOk.so (n := ?_) ?_ ?_; rotate_left; assumption; omega) | (simp; done) | fail) | fail) ?_ | simp (maxSteps := 4000000) (disch := omega) only [go_sem, ↓reduceIte])
    exact ⟨(), by simp [Int.add_comm], by simp [closed, A0]⟩
  ·have h1' : ¬ ((b.length : Int) = 1) := by omega
   simp only [J2, n10, if_false, pay, show ¬ (b.length = 1 ∧ b.getD 0 0 < 128) from fun h => h1 h.1]
   repeat' (first | with_reducible refine And.intro (by first | omega | assumption | (constructor <;> assumption) | (simp; done) | (simp; omega) | (simp [*]; done) | ((repeat' refine And.intro ?_ ?_) <;> first | omega | assumption | (refine SlOk.so (n := ?_) ?_ ?_; rotate_left; assumption; omega) | (simp; done) | fail) | fail) ?_ | simp (maxSteps := 4000000) (disch := omega) only [go_sem, ↓reduceIte, Try.f101] | ((first | refine A6 (fun h => ?_) (fun h => ?_) | refine D9 (fun h => ?_) (fun h => ?_) | refine E9 (fun h => ?_) (fun h => ?_)) <;> (try simp only [bne_iff_ne, ne_eq, beq_iff_eq, decide_eq_true_eq, decide_eq_false_iff_not, Bool.not_eq_true, Bool.not_eq_false, Bool.not_true, Bool.not_false, bne_eq_false_iff_eq, beq_eq_false_iff_ne, Bool.and_eq_true, Bool.or_eq_true, Bool.and_eq_false_imp, Bool.or_eq_false_iff, Bool.not_eq_true', Bool.not_eq_false', Int.not_lt, Int.not_le] at h) <;> (try (exfalso; omega))))
   refine F4 (Z4 128 b.length (by omega) (by omega) _) (fun _ => by simp [closed]) (fun s B2 hB2 hR => A3 1000 ?_)
   have hh := Ar9 (base := 128) (n := b.length) (by omega)
   rw [List.length_append]
   repeat' (first | with_reducible refine And.intro (by first | omega | assumption | (constructor <;> assumption) | (simp; done) | (simp; omega) | (simp [*]; done) | ((repeat' refine And.intro ?_ ?_) <;> first | omega | assumption | (refine SlOk.so (n := ?_) ?_ ?_; rotate_left; assumption; omega) | (simp; done) | fail) | fail) ?_ | simp (maxSteps := 4000000) (disch := omega) only [go_sem, ↓reduceIte])
   exact ⟨(), by simp [Int.add_comm], by simp [closed, A0]⟩
 ·simp only [J2, ↓reduceIte, List.length_append] at hf
  have ih' : ∀ q ∈ qs, Does Try.prog 101 [.agg (itE q.1 q.2)] B0 (fun _ : Unit => .tup [.int .i64 ((J2 q.1).length : Nat), .int .i64 ((pay q.1).length : Nat)]) (fun _ _ => True) := fun q hq => by
   have hm : q.1 ∈ K := by rw [hK]; exact List.mem_map_of_mem hq
   exact N5 (ih q hq (okL_iff.1 hkids _ hm) (by have := Bd2 hm; omega)) hB0
  repeat' (first | with_reducible refine And.intro (by first | omega | assumption | (constructor <;> assumption) | (simp; done) | (simp; omega) | (simp [*]; done) | ((repeat' refine And.intro ?_ ?_) <;> first | omega | assumption | (refine SlOk.so (n := ?_) ?_ ?_; rotate_left; assumption; omega) | (simp; done) | fail) | fail) ?_ | simp (maxSteps := 4000000) (disch := omega) only [go_sem, ↓reduceIte, Try.f101, List.length_nil])
  refine G1 (S := Nat) (fun i => i ≤ qs.length)
   (fun i => ⟨[(18, .int .i64 (i : Nat)), (17, .int .i64 (qs.length : Nat)), (16, .raw (.slice s.kA qs.length s.kc)), (4, .int .i64 ((E2 (K.take i)).length : Nat))], 0, [], B0, []⟩)
   (fun i => qs.length - i) 0 (Nat.zero_le _) (Weak.sub (A5 (by simp [wσ, go_sem, closed, A0, A4, E2] <;> omega) (by simp [whs, Go.Ew.hget, go_sem, EObj.closed, closed, A0, A4, E2]) (by first | (simp [*]; done) | (simp only [cxG]; omega)) rfl rfl (by simp))) ?_
  intro i hi
  have hle := Ab6 (ks := K) i
  refine A3 1000 ?_
  simp (maxSteps := 4000000) (disch := omega) only [go_sem, ↓reduceIte]
  repeat (with_reducible refine And.intro (by first | omega | assumption | (constructor <;> assumption) | (simp; done) | (simp; omega) | (simp [*]; done) | ((repeat' refine And.intro ?_ ?_) <;> first | omega | assumption | (refine SlOk.so (n := ?_) ?_ ?_; rotate_left; assumption; omega) | (simp; done) | fail) | fail) ?_)
  refine A6 (fun h2 => ?_) (fun h2 => ?_)
  all_goals (try simp only [bne_iff_ne, ne_eq, beq_iff_eq, decide_eq_true_eq, decide_eq_false_iff_not, Bool.not_eq_true, Bool.not_eq_false, Bool.not_true, Bool.not_false, bne_eq_false_iff_eq, beq_eq_false_iff_ne, Bool.and_eq_true, Bool.or_eq_true, Bool.and_eq_false_imp, Bool.or_eq_false_iff, Bool.not_eq_true', Bool.not_eq_false', Int.not_lt, Int.not_le] at h2)
  ·have hi2 : i < qs.length := by omega
   obtain ⟨l1, l2, l3, l4⟩ := Bh0 hc hi2
   have hq := ih' _ (List.getElem_mem hi2)
   have hft := X5 (ks := K) (i := i) (by omega)
   have hle2 := Ab6 (ks := K) (i + 1)
   have hKi : K[i]'(by omega) = qs[i].1 := by simp [hK]
   rw [hKi] at hft
   obtain ⟨q, hq0⟩ : ∃ q, q = qs[i] := ⟨_, rfl⟩
   rw [← hq0] at l1 hq hft
   have hlen : (E2 (K.take (i + 1))).length = (E2 (K.take i)).length + (J2 q.1).length := by rw [hft, List.length_append]
   have hcast : ((E2 (K.take (i + 1))).length : Int) = ((E2 (K.take i)).length : Int) + ((J2 q.1).length : Int) := by rw [hlen]; push_cast; rfl
   repeat' (first | with_reducible refine And.intro (by first | omega | assumption | (constructor <;> assumption) | (simp; done) | (simp; omega) | (simp [*]; done) | ((repeat' refine And.intro ?_ ?_) <;> first | omega | assumption | (refine SlOk.so (n := ?_) ?_ ?_; rotate_left; assumption; omega) | (simp; done) | fail) | fail) ?_ | simp (maxSteps := 4000000) (disch := omega) only [go_sem, ↓reduceIte, Int.toNat_natCast, l1] | refine G9 (hq) (by simp [closed, A0, A2, C4]) (A3 1000 ?_))
   exact ⟨i + 1, hi2, Weak.sub (A5 (by simp [wσ, go_sem, closed, A0, A4, hcast] <;> omega) (by simp [whs, Go.Ew.hget, go_sem, EObj.closed, closed, A0, A4, hcast]) (by first | (simp [*]; done) | (simp only [cxG]; omega)) rfl rfl (by simp)), by omega⟩
  ·obtain rfl : i = qs.length := by omega
   rw [← hKl, List.take_length] at hle ⊢
   repeat' (first | simp (maxSteps := 4000000) (disch := omega) only [go_sem, ↓reduceIte] | with_reducible refine A3 1000 ?_)
   refine F4 (Z4 128 (E2 K).length (by omega) (by omega) _) (fun _ => by simp [closed]) (fun s B2 hB2 hR => A3 1000 ?_)
   have hh := Ar9 (base := 128) (n := (E2 K).length) (by omega)
   have hh2 : (hd 192 (E2 K).length).length = (hd 128 (E2 K).length).length := by rw [Bh4, Bh4]
   repeat' (first | with_reducible refine And.intro (by first | omega | assumption | (constructor <;> assumption) | (simp; done) | (simp; omega) | (simp [*]; done) | ((repeat' refine And.intro ?_ ?_) <;> first | omega | assumption | (refine SlOk.so (n := ?_) ?_ ?_; rotate_left; assumption; omega) | (simp; done) | fail) | fail) ?_ | simp (maxSteps := 4000000) (disch := omega) only [go_sem, ↓reduceIte])
   refine ⟨(), ?_, by simp [closed, A0]⟩
   simp only [J2, pay, ↓reduceIte, List.length_append, hh2]
   simp [Int.add_comm]
end Go.Proofs.Ytncjbfkkgdepoaa
namespace Go.Proofs.Ytncjbfkkgdepoaa
open Go RowKit Go.Ew
set_option maxHeartbeats 4000000
theorem Cx5 : C5 Try.f112.ntmps (Try.f112.body.getD .skip) = true := by kernel_rfl
theorem Cx2 : C5 Try.f119.ntmps (Try.f119.body.getD .skip) = true := by kernel_rfl
theorem Cx9 : C5 Try.f100.ntmps (Try.f100.body.getD .skip) = true := by kernel_rfl
theorem De9 : C5 Try.f86.ntmps (Try.f86.body.getD .skip) = true := by kernel_rfl
theorem Au9 (a : Option Addr) (n m : Nat) (w : World) : Calls Try.prog 112 #[.slice a n m] w (Cs9 (.fn (.func 119) [] [.ptr 0 0]) [.cells [.raw (.slice a n m)] 89 (0, 0)] w) := by
 refine Ax0 _ _ [.raw (.slice a n m)] Try.func112 rfl Cx5 (by simp [Try.f112]) (by simp [A0, closed]) ?_
 refine A3 1000 ?_
 simp (maxSteps := 4000000) (disch := omega) only [go_sem, ↓reduceIte, Try.f112, Value.oneCell']
 repeat (with_reducible refine And.intro (by fail) ?_)
 rintro (_ | i) o h <;> simp_all [hget]
theorem X2 (l : Int) (bA kA : Option Addr) (bn bc kn kc : Nat) (w : World) : Calls Try.prog 100 (A8 (fun _ => 0) [.agg [.int .i64 l, .raw (.slice bA bn bc), .raw (.slice kA kn kc)]]).toArray w (Cs9 (.fn (.func 119) [] [.ptr 1 0]) [.cells [.int .i64 l, .raw (.slice bA bn bc), .raw (.slice kA kn kc)] 91 (0, 0), .cells [.raw (.slice kA kn kc)] 89 (0, 0)] w) := by
 refine Ax0 _ _ [.agg [.int .i64 l, .raw (.slice bA bn bc), .raw (.slice kA kn kc)]] Try.func100 rfl Cx9 (by simp [Try.f100]) (by simp [A0, closed]) ?_
 refine A3 1000 ?_
 simp (maxSteps := 4000000) (disch := omega) only [go_sem, ↓reduceIte, Try.f100, Value.oneCell']
 repeat (with_reducible refine And.intro (by omega) ?_)
 refine W1 (.fn (.func 119) [] [.ptr 0 0]) [.cells [.raw (.slice kA kn kc)] 89 (0, 0)] Cz6 (by simp [closed, A0]) (by simp [EObj.closed, closed, A0]) (fun bs w _ => Au9 _ _ _ w) (A3 1000 ?_)
 simp (maxSteps := 4000000) (disch := omega) only [go_sem, ↓reduceIte]
 repeat (with_reducible refine And.intro (by fail) ?_)
 rintro (_ | _ | i) o h <;> simp_all [hget]
def Bx9 (q : Itm × Plc) : Array Value := (A8 (fun _ => 0) [.agg (itE q.1 q.2)]).toArray
/-- The iterator over an item's kids. -/
theorem Aa0 (W : World) (qs : List (Itm × Plc)) (p cap : Nat) (ad : Option Addr) (DB : Nat → Prop) (hDB : ∀ b, DB b → b < W.heap.size) (hp : W.cell? ⟨p, 0, none⟩ = some (.slice ad qs.length cap)) (hc0 : CellsAt ⟨W, DB⟩ ad (qs.flatMap itC)) (hql : qs.length ≤ 1099511627776)
  (Rd : Nat → Prop) (hRp : Rd p) (hRB : ∀ b, DB b → Rd b) (hRW : ∀ b, Rd b → b < W.heap.size) :
  Bj7 Try.prog 119 (fun y => (A8 (fun _ => 0) [.raw y, .raw (.pointer (some ⟨p, 0, none⟩))]).toArray) W Rd qs.length Bx9 (fun k q _ _ => qs[k]? = some q) := by
 refine Ck1 (fun y => [.raw y, .raw (.pointer (some ⟨p, 0, none⟩))]) Try.func119 rfl Cx2 (fun y => by simp [Try.f119]) (fun y => by simp [A0, closed]) ?_
 intro l J Jx hJ hJx hR h0 hB
 have hDp : p < W.heap.size := hRW p hRp
 have hX : ∀ B', ItB W Rd B' → BExt ⟨W, DB⟩ B' := fun B' h => ⟨fun b hb => h.D b (hDB b hb), fun b hb => h.rd b (hRB b hb), h.size, h.os, h.tape, h.output⟩
 refine A3 1000 ?_
 simp (maxSteps := 4000000) (disch := omega) only [go_sem, ↓reduceIte, Try.f119, Value.oneCell', hp, F5, Option.getD_some]
 repeat (with_reducible refine And.intro (by omega) ?_)
 refine G1 (S := Nat × Base) (fun s => ItB W Rd s.2 ∧ s.1 ≤ qs.length ∧ J s.1 s.2.D s.2.w)
  (fun s => ⟨[(7, .int .i64 (s.1 : Nat)), (6, .int .i64 (qs.length : Nat)), (5, .raw (.slice ad qs.length cap)), (0, .raw (.func (.yield l) #[] #[]))], 0, [], s.2, []⟩) (fun s => qs.length - s.1) (0, base W) ⟨hB, Nat.zero_le _, h0⟩ (Weak.sub (A5 (by simp [wσ, go_sem, closed, A0, A4] <;> omega) (by simp [whs, Go.Ew.hget, go_sem, EObj.closed, closed, A0, A4]) (by first | (simp [*]; done) | (simp only [cxG]; omega)) rfl rfl (by simp))) ?_
 rintro ⟨i, B⟩ ⟨hI, hi, hJi⟩
 simp only at hI hi hJi ⊢
 have hc := hc0.ext (hX _ hI)
 refine A3 1000 ?_
 simp (maxSteps := 4000000) (disch := omega) only [go_sem, ↓reduceIte]
 repeat (with_reducible refine And.intro (by omega) ?_)
 refine A6 (fun h2 => ?_) (fun h2 => ?_)
 all_goals (try simp only [bne_iff_ne, ne_eq, beq_iff_eq, decide_eq_true_eq, decide_eq_false_iff_not, Bool.not_eq_true, Bool.not_eq_false, Bool.not_true, Bool.not_false, bne_eq_false_iff_eq, beq_eq_false_iff_ne, Bool.and_eq_true, Bool.or_eq_true, Bool.and_eq_false_imp, Bool.or_eq_false_iff, Bool.not_eq_true', Bool.not_eq_false', Int.not_lt, Int.not_le] at h2)
 ·have hi2 : i < qs.length := by omega
  obtain ⟨l1, l2, l3, l4⟩ := Bh0 hc hi2
  have hem : qs[i]? = some qs[i] := List.getElem?_eq_getElem hi2
  obtain ⟨q, hq0⟩ : ∃ q, q = qs[i] := ⟨_, rfl⟩
  rw [← hq0] at l1 hem
  repeat' (first | with_reducible refine And.intro (by first | omega | (constructor <;> assumption) | (simp [*]; done)) ?_ | simp (maxSteps := 4000000) (disch := omega) only [go_sem, ↓reduceIte, Int.toNat_natCast, l1])
  refine Cm9 (vs := [.agg (itE q.1 q.2)]) q rfl rfl hR hJ rfl rfl (fun bs => by simp only [Bx9]; rw [D5 bs (fun _ => 0) (by simp [A0, closed])]) hi2 (fun w _ => hem) hJi hI hRW (fun B2 hJ2 hI2 => A3 1000 ?_) (fun B2 hJ2 hI2 => A3 1000 ?_)
  ·repeat' (simp (maxSteps := 4000000) (disch := omega) only [go_sem, ↓reduceIte])
   exact ⟨(i + 1, B2), ⟨hI2, hi2, hJ2⟩, Weak.sub (A5 (by simp [wσ, go_sem, closed, A0, A4] <;> omega) (by simp [whs, Go.Ew.hget, go_sem, EObj.closed, closed, A0, A4]) (by first | (simp [*]; done) | (simp only [cxG]; omega)) rfl rfl (by simp)), by simp only; omega⟩
  ·repeat' (simp (maxSteps := 4000000) (disch := omega) only [go_sem, ↓reduceIte])
   exact ⟨hI2, .inr ⟨_, hJ2⟩⟩
 ·obtain rfl : i = qs.length := by omega
  repeat' (first | simp (maxSteps := 4000000) (disch := omega) only [go_sem, ↓reduceIte] | with_reducible refine A3 1000 ?_)
  exact ⟨hI, .inl hJi⟩
end Go.Proofs.Ytncjbfkkgdepoaa
namespace Go.Proofs.Ytncjbfkkgdepoaa
open Go RowKit Go.Ew
set_option maxHeartbeats 4000000
mutual
/-- Why an item may not be. -/
def chk : Itm → Nat → Int
 | .mk l b ks, d => if l = 1 ∧ 64 ≤ d then 44 else if (l ≠ 0 ∧ l ≠ 1) ∨ (l = 0 ∧ ks ≠ []) ∨ (l = 1 ∧ b ≠ []) then 40 else Ba4 ks (d + 1)
def Ba4 : List Itm → Nat → Int
 | [], _ => 0
 | k :: ks, d => if chk k d = 0 then Ba4 ks d else chk k d
end
theorem Ay7 {ks : List Itm} {d : Nat} (h : ∀ k ∈ ks, chk k d = 0) : Ba4 ks d = 0 := by
 induction ks with
 | nil => rfl
 | cons k ks ih => rw [Ba4, if_pos (h k (by simp))]; exact ih fun a ha => h a (by simp [ha])
theorem Ck9 {ks : List Itm} {d i : Nat} (hi : i < ks.length) (h : ∀ j (hj : j < i), chk (ks[j]'(by omega)) d = 0) (hn : chk ks[i] d ≠ 0) : Ba4 ks d = chk ks[i] d := by
 induction ks generalizing i with
 | nil => simp at hi
 | cons k ks ih =>
  cases i with
  | zero => rw [Ba4]; simp only [List.getElem_cons_zero] at hn ⊢; rw [if_neg hn]
  | succ i =>
   have h0 := h 0 (by omega)
   simp only [List.getElem_cons_zero] at h0
   rw [Ba4, if_pos h0]
   simp only [List.getElem_cons_succ] at hn ⊢
   exact ih (by simpa using hi) (fun j hj => by have := h (j + 1) (by omega); simpa using this) hn
theorem Cc3 {B : Base} {t : Itm} {s : Plc} (h : ItAt B t s) : ∀ d : Nat, d ≤ 64 →
  Does Try.prog 86 [.agg (itE t s), .int .i64 (d : Nat)] B (fun _ : Unit => .int .i64 (chk t d)) (fun _ _ => True) := by
 induction h with
 | mk l b qs s hb hbl hc hql hk ih =>
 intro d hd
 have e1 : (Itm.mk l b (qs.map Prod.fst)).list = l := rfl
 have e2 : (Itm.mk l b (qs.map Prod.fst)).bytes = b := rfl
 have e3 : (Itm.mk l b (qs.map Prod.fst)).kids.length = qs.length := List.length_map _
 simp only [itE, e1, e2, e3]
 refine J9 Di3 (fun s B B' hB hR => hR) Try.func86 rfl De9 (by simp [Try.f86]) (by simp [A0, closed]) (fun B0 hB0 => A3 1000 ?_)
 replace hc := hc.ext hB0
 obtain ⟨K, hK⟩ : ∃ K, K = qs.map Prod.fst := ⟨_, rfl⟩
 have hKl : K.length = qs.length := by rw [hK, List.length_map]
 have hK0 : (K ≠ []) = (0 < qs.length) := by rw [← hKl]; exact propext List.length_pos_iff.symm
 have hb0 : (b ≠ []) = (0 < b.length) := propext List.length_pos_iff.symm
 simp only [← hK, chk, hK0, hb0]
 by_cases hl1 : l = 1
 ·subst hl1
  by_cases hd1 : 64 ≤ d
  ·rw [if_pos ⟨rfl, hd1⟩]
   repeat' (first | with_reducible refine And.intro (by omega) ?_ | simp (maxSteps := 4000000) (disch := omega) only [go_sem, ↓reduceIte, Try.f86] | ((first | refine A6 (fun h => ?_) (fun h => ?_) | refine D9 (fun h => ?_) (fun h => ?_) | refine E9 (fun h => ?_) (fun h => ?_)) <;> (try simp only [bne_iff_ne, ne_eq, beq_iff_eq, decide_eq_true_eq, decide_eq_false_iff_not, Bool.not_eq_true, Bool.not_eq_false, Bool.not_true, Bool.not_false, bne_eq_false_iff_eq, beq_eq_false_iff_ne, Bool.and_eq_true, Bool.or_eq_true, Bool.and_eq_false_imp, Bool.or_eq_false_iff, Bool.not_eq_true', Bool.not_eq_false', Int.not_lt, Int.not_le] at h) <;> (try (exfalso; omega))))
   exact ⟨BExt.refl _, (), by simp [closed]⟩
  ·rw [if_neg (by omega)]
   by_cases hbl0 : 0 < b.length
   ·rw [if_pos (.inr (.inr ⟨rfl, hbl0⟩))]
    repeat' (first | with_reducible refine And.intro (by omega) ?_ | simp (maxSteps := 4000000) (disch := omega) only [go_sem, ↓reduceIte, Try.f86] | ((first | refine A6 (fun h => ?_) (fun h => ?_) | refine D9 (fun h => ?_) (fun h => ?_) | refine E9 (fun h => ?_) (fun h => ?_)) <;> (try simp only [bne_iff_ne, ne_eq, beq_iff_eq, decide_eq_true_eq, decide_eq_false_iff_not, Bool.not_eq_true, Bool.not_eq_false, Bool.not_true, Bool.not_false, bne_eq_false_iff_eq, beq_eq_false_iff_ne, Bool.and_eq_true, Bool.or_eq_true, Bool.and_eq_false_imp, Bool.or_eq_false_iff, Bool.not_eq_true', Bool.not_eq_false', Int.not_lt, Int.not_le] at h) <;> (try (exfalso; omega))))
    exact ⟨BExt.refl _, (), by simp [closed]⟩
   ·rw [if_neg (by omega)]
    have ih' : ∀ q ∈ qs, Does Try.prog 86 [.agg (itE q.1 q.2), .int .i64 ((d + 1 : Nat) : Int)] B0 (fun _ : Unit => .int .i64 (chk q.1 (d + 1))) (fun _ _ => True) := fun q hq => N5 (ih q hq (d + 1) (by omega)) hB0
    repeat' (first | with_reducible refine And.intro (by omega) ?_ | simp (maxSteps := 4000000) (disch := omega) only [go_sem, ↓reduceIte, Try.f86] | ((first | refine A6 (fun h => ?_) (fun h => ?_) | refine D9 (fun h => ?_) (fun h => ?_) | refine E9 (fun h => ?_) (fun h => ?_)) <;> (try simp only [bne_iff_ne, ne_eq, beq_iff_eq, decide_eq_true_eq, decide_eq_false_iff_not, Bool.not_eq_true, Bool.not_eq_false, Bool.not_true, Bool.not_false, bne_eq_false_iff_eq, beq_eq_false_iff_ne, Bool.and_eq_true, Bool.or_eq_true, Bool.and_eq_false_imp, Bool.or_eq_false_iff, Bool.not_eq_true', Bool.not_eq_false', Int.not_lt, Int.not_le] at h) <;> (try (exfalso; omega))))
    refine W1 (.fn (.func 119) [] [.ptr 1 0]) [.cells [.int .i64 1, .raw (.slice s.bA b.length s.bc), .raw (.slice s.kA qs.length s.kc)] 91 (0, 0), .cells [.raw (.slice s.kA qs.length s.kc)] 89 (0, 0)] Cb8 (by simp [closed, A0]) (by simp [EObj.closed, closed, A0]) (fun bs w _ => by rw [D5 bs (fun _ => 0) (by simp [A0, closed])]; exact X2 _ _ _ _ _ _ _ w) (A3 1000 ?_)
    repeat' (simp (maxSteps := 4000000) (disch := omega) only [go_sem, ↓reduceIte])
    refine Bf9 rfl rfl Cb7 (by simp) ⟨by kernel_rfl, by kernel_rfl⟩ (S := Int)
     (fun k e => e = 0 ∧ ∀ j, j < k → ∀ q, qs[j]? = some q → chk q.1 (d + 1) = 0) (fun cd e => cd = .ret ∧ e ≠ 0 ∧ Ba4 K (d + 1) = e) (fun _ => 7)
     (fun e => [(4, some (.cells [.raw (.slice s.kA qs.length s.kc)] 89 (0, 0))), (2, some (.cells [.int .i64 e] 23 (0, 0))), (1, some (.cells [.int .i64 (d : Nat)] 3 (0, 0)))])
     (fun _ => B0) (0 : Int) ⟨rfl, fun j hj => absurd hj (Nat.not_lt_zero j)⟩ (A5 (by simp [wσ, go_sem, closed, A0, A4] <;> omega) (by simp [whs, Go.Ew.hget, go_sem, EObj.closed, closed, A0, A4]) (by first | (simp [*]; done) | (simp only [cxG]; omega)) rfl rfl (by simp)) (fun s => by simp [hget]) ⟨fun _ _ _ => Nat.le_refl _, fun _ _ _ => Nat.le_refl _⟩ [4] (fun q => B0.D q) (by simp [hget])
     (fun q hq => ⟨hq, fun k s hs => ⟨hq, rfl⟩, fun k s hs => ⟨hq, rfl⟩⟩)
     (len := qs.length) (enc := Bx9) (El := fun k q _ _ => qs[k]? = some q) (fun q => [.agg (itE q.1 q.2)]) (fun q bs => by simp only [Bx9]; rw [D5 bs (fun _ => 0) (by simp [A0, closed])]) (fun q => by simp [A0, closed]) (fun q => rfl) ?_
     (fun k q => qs[k]? = some q) (fun k q D w h => h) ?_ ?_ ?_ ?_ (fun cd s h => .inl h.1)
    ·intro bs w2 hH
     have hl1 := (hH.live 4 _ rfl).2
     refine Aa0 w2 qs (bs 4) s.kc s.kA B0.D (fun b hb => (hH.frame b hb).1) (by simp [World.cell?, hl1, EObj.real, A8, real]) (hc.ext hH.ext) hql _ (.inl ⟨4, by simp, rfl⟩) (fun b hb => .inr hb) ?_
     rintro q (⟨i, hi, rfl⟩ | hq)
     ·simp only [List.mem_singleton] at hi; subst hi; exact G3 hl1
     ·exact (hH.frame q hq).1
    ·rintro k e q l' olds e' E r r' ⟨rfl, hz⟩ hk2 hq holds
     have hx := ih' q (List.mem_of_getElem? hq)
     obtain ⟨ec, hec⟩ : ∃ ec, ec = chk q.1 (d + 1) := ⟨_, rfl⟩
     rw [← hec] at hx
     have hcast : ((d : Int) + 1) = ((d + 1 : Nat) : Int) := by push_cast; rfl
     refine A3 1000 ?_
     repeat' (first | simp (maxSteps := 4000000) (disch := omega) only [go_sem, ↓reduceIte, hcast] | refine G9 (hx) (by simp [closed, A0, A2, C4]) (A3 1000 ?_) | with_reducible refine A3 1000 ?_ | ((first | refine A6 (fun h => ?_) (fun h => ?_) | refine D9 (fun h => ?_) (fun h => ?_) | refine E9 (fun h => ?_) (fun h => ?_)) <;> (try simp only [bne_iff_ne, ne_eq, beq_iff_eq, decide_eq_true_eq, decide_eq_false_iff_not, Bool.not_eq_true, Bool.not_eq_false, Bool.not_true, Bool.not_false, bne_eq_false_iff_eq, beq_eq_false_iff_ne, Bool.and_eq_true, Bool.or_eq_true, Bool.and_eq_false_imp, Bool.or_eq_false_iff, Bool.not_eq_true', Bool.not_eq_false', Int.not_lt, Int.not_le] at h) <;> (try (exfalso; omega))))
     ·refine ⟨ec, ⟨by assumption, ?_⟩, (A5 (by simp [wσ, go_sem, closed, A0, A4, holds] <;> omega) (by simp [whs, Go.Ew.hget, go_sem, EObj.closed, closed, A0, A4, holds]) (by first | (simp [*]; done) | (simp only [cxG]; omega)) rfl rfl (by simp))⟩
      obtain ⟨hlt, hge⟩ := List.getElem?_eq_some_iff.1 hq
      have hKk : K[k]'(by omega) = q.1 := by simp [hK, hge]
      rw [Ck9 (ks := K) (i := k) (by omega) (fun j hj => by
       have := hz j hj (qs[j]'(by omega)) (List.getElem?_eq_getElem (by omega))
       simpa [hK] using this) (by rw [hKk, ← hec]; assumption), hKk, ← hec]
     ·refine ⟨0, ⟨rfl, fun j hj q' hq' => ?_⟩, (A5 (by simp [wσ, go_sem, closed, A0, A4, holds] <;> omega) (by simp [whs, Go.Ew.hget, go_sem, EObj.closed, closed, A0, A4, holds]) (by first | (simp [*]; done) | (simp only [cxG]; omega)) rfl rfl (by simp))⟩
      rcases Nat.lt_or_ge j k with h3 | h3
      ·exact hz j h3 q' hq'
      ·obtain rfl : j = k := by omega
       rw [hq] at hq'; cases hq'
       rw [← hec]; assumption
    ·rintro e ⟨rfl, hz⟩
     have hz0 : Ba4 K (d + 1) = 0 := Ay7 fun k hk2 => by
      rw [hK] at hk2
      obtain ⟨q, hq, rfl⟩ := List.mem_map.1 hk2
      obtain ⟨i, hi, rfl⟩ := List.getElem_of_mem hq
      exact hz i hi _ (List.getElem?_eq_getElem hi)
     rw [hz0]
     refine A3 1000 ?_
     repeat' (simp (maxSteps := 4000000) (disch := omega) only [go_sem, ↓reduceIte])
     exact ⟨BExt.refl _, (), trivial⟩
    ·rintro e ⟨_, hne, he⟩
     rw [he]
     repeat' (simp (maxSteps := 4000000) (disch := omega) only [go_sem, ↓reduceIte])
     exact ⟨BExt.refl _, (), by simp [closed]⟩
    ·rintro id e ⟨h, _⟩; cases h
 ·rw [if_neg (fun h => hl1 h.1)]
  by_cases hl0 : l = 0
  ·subst hl0
   by_cases hq0 : 0 < qs.length
   ·rw [if_pos (.inr (.inl ⟨rfl, hq0⟩))]
    repeat' (first | with_reducible refine And.intro (by omega) ?_ | simp (maxSteps := 4000000) (disch := omega) only [go_sem, ↓reduceIte, Try.f86] | ((first | refine A6 (fun h => ?_) (fun h => ?_) | refine D9 (fun h => ?_) (fun h => ?_) | refine E9 (fun h => ?_) (fun h => ?_)) <;> (try simp only [bne_iff_ne, ne_eq, beq_iff_eq, decide_eq_true_eq, decide_eq_false_iff_not, Bool.not_eq_true, Bool.not_eq_false, Bool.not_true, Bool.not_false, bne_eq_false_iff_eq, beq_eq_false_iff_ne, Bool.and_eq_true, Bool.or_eq_true, Bool.and_eq_false_imp, Bool.or_eq_false_iff, Bool.not_eq_true', Bool.not_eq_false', Int.not_lt, Int.not_le] at h) <;> (try (exfalso; omega))))
    exact ⟨BExt.refl _, (), by simp [closed]⟩
   ·rw [if_neg (by omega)]
    have ih' : ∀ q ∈ qs, Does Try.prog 86 [.agg (itE q.1 q.2), .int .i64 ((d + 1 : Nat) : Int)] B0 (fun _ : Unit => .int .i64 (chk q.1 (d + 1))) (fun _ _ => True) := fun q hq => by
     have := List.length_pos_of_mem hq; omega
    repeat' (first | with_reducible refine And.intro (by omega) ?_ | simp (maxSteps := 4000000) (disch := omega) only [go_sem, ↓reduceIte, Try.f86] | ((first | refine A6 (fun h => ?_) (fun h => ?_) | refine D9 (fun h => ?_) (fun h => ?_) | refine E9 (fun h => ?_) (fun h => ?_)) <;> (try simp only [bne_iff_ne, ne_eq, beq_iff_eq, decide_eq_true_eq, decide_eq_false_iff_not, Bool.not_eq_true, Bool.not_eq_false, Bool.not_true, Bool.not_false, bne_eq_false_iff_eq, beq_eq_false_iff_ne, Bool.and_eq_true, Bool.or_eq_true, Bool.and_eq_false_imp, Bool.or_eq_false_iff, Bool.not_eq_true', Bool.not_eq_false', Int.not_lt, Int.not_le] at h) <;> (try (exfalso; omega))))
    refine W1 (.fn (.func 119) [] [.ptr 1 0]) [.cells [.int .i64 0, .raw (.slice s.bA b.length s.bc), .raw (.slice s.kA qs.length s.kc)] 91 (0, 0), .cells [.raw (.slice s.kA qs.length s.kc)] 89 (0, 0)] Cb8 (by simp [closed, A0]) (by simp [EObj.closed, closed, A0]) (fun bs w _ => by rw [D5 bs (fun _ => 0) (by simp [A0, closed])]; exact X2 _ _ _ _ _ _ _ w) (A3 1000 ?_)
    repeat' (simp (maxSteps := 4000000) (disch := omega) only [go_sem, ↓reduceIte])
    refine Bf9 rfl rfl Cb7 (by simp) ⟨by kernel_rfl, by kernel_rfl⟩ (S := Int)
     (fun k e => e = 0 ∧ ∀ j, j < k → ∀ q, qs[j]? = some q → chk q.1 (d + 1) = 0) (fun cd e => cd = .ret ∧ e ≠ 0 ∧ Ba4 K (d + 1) = e) (fun _ => 7)
     (fun e => [(4, some (.cells [.raw (.slice s.kA qs.length s.kc)] 89 (0, 0))), (2, some (.cells [.int .i64 e] 23 (0, 0))), (1, some (.cells [.int .i64 (d : Nat)] 3 (0, 0)))])
     (fun _ => B0) (0 : Int) ⟨rfl, fun j hj => absurd hj (Nat.not_lt_zero j)⟩ (A5 (by simp [wσ, go_sem, closed, A0, A4] <;> omega) (by simp [whs, Go.Ew.hget, go_sem, EObj.closed, closed, A0, A4]) (by first | (simp [*]; done) | (simp only [cxG]; omega)) rfl rfl (by simp)) (fun s => by simp [hget]) ⟨fun _ _ _ => Nat.le_refl _, fun _ _ _ => Nat.le_refl _⟩ [4] (fun q => B0.D q) (by simp [hget])
     (fun q hq => ⟨hq, fun k s hs => ⟨hq, rfl⟩, fun k s hs => ⟨hq, rfl⟩⟩)
     (len := qs.length) (enc := Bx9) (El := fun k q _ _ => qs[k]? = some q) (fun q => [.agg (itE q.1 q.2)]) (fun q bs => by simp only [Bx9]; rw [D5 bs (fun _ => 0) (by simp [A0, closed])]) (fun q => by simp [A0, closed]) (fun q => rfl) ?_
     (fun k q => qs[k]? = some q) (fun k q D w h => h) ?_ ?_ ?_ ?_ (fun cd s h => .inl h.1)
    ·intro bs w2 hH
     have hl1 := (hH.live 4 _ rfl).2
     refine Aa0 w2 qs (bs 4) s.kc s.kA B0.D (fun b hb => (hH.frame b hb).1) (by simp [World.cell?, hl1, EObj.real, A8, real]) (hc.ext hH.ext) hql _ (.inl ⟨4, by simp, rfl⟩) (fun b hb => .inr hb) ?_
     rintro q (⟨i, hi, rfl⟩ | hq)
     ·simp only [List.mem_singleton] at hi; subst hi; exact G3 hl1
     ·exact (hH.frame q hq).1
    ·rintro k e q l' olds e' E r r' ⟨rfl, hz⟩ hk2 hq holds
     omega
    ·rintro e ⟨rfl, hz⟩
     have hz0 : Ba4 K (d + 1) = 0 := Ay7 fun k hk2 => by
      rw [hK] at hk2
      obtain ⟨q, hq, rfl⟩ := List.mem_map.1 hk2
      obtain ⟨i, hi, rfl⟩ := List.getElem_of_mem hq
      exact hz i hi _ (List.getElem?_eq_getElem hi)
     rw [hz0]
     refine A3 1000 ?_
     repeat' (simp (maxSteps := 4000000) (disch := omega) only [go_sem, ↓reduceIte])
     exact ⟨BExt.refl _, (), trivial⟩
    ·rintro e ⟨_, hne, he⟩
     rw [he]
     repeat' (simp (maxSteps := 4000000) (disch := omega) only [go_sem, ↓reduceIte])
     exact ⟨BExt.refl _, (), by simp [closed]⟩
    ·rintro id e ⟨h, _⟩; cases h
  ·rw [if_pos (.inl ⟨hl0, hl1⟩)]
   repeat' (first | with_reducible refine And.intro (by omega) ?_ | simp (maxSteps := 4000000) (disch := omega) only [go_sem, ↓reduceIte, Try.f86] | ((first | refine A6 (fun h => ?_) (fun h => ?_) | refine D9 (fun h => ?_) (fun h => ?_) | refine E9 (fun h => ?_) (fun h => ?_)) <;> (try simp only [bne_iff_ne, ne_eq, beq_iff_eq, decide_eq_true_eq, decide_eq_false_iff_not, Bool.not_eq_true, Bool.not_eq_false, Bool.not_true, Bool.not_false, bne_eq_false_iff_eq, beq_eq_false_iff_ne, Bool.and_eq_true, Bool.or_eq_true, Bool.and_eq_false_imp, Bool.or_eq_false_iff, Bool.not_eq_true', Bool.not_eq_false', Int.not_lt, Int.not_le] at h) <;> (try (exfalso; omega))))
   exact ⟨BExt.refl _, (), by simp [closed]⟩
end Go.Proofs.Ytncjbfkkgdepoaa
