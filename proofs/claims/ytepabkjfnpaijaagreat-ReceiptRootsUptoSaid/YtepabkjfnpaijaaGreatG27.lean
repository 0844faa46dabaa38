/- Part of a proof over the seat YtepabkjfnpaijaaGreat. -/
import Derived.Test.YtepabkjfnpaijaaGreatG26
import Derived.Test.YtepabkjfnpaijaaGreatG11
import Derived.Test.YtepabkjfnpaijaaGreatEng2
import Derived.Test.YtepabkjfnpaijaaGreatRows
import Derived.WalkKit
import Derived.ProofKit
import Derived.OpenShut
import Derived.Below
import Derived.JoinedCond
import Derived.ChangeSlices
import Derived.SizedLaws
set_option linter.unusedSimpArgs false
set_option linter.unusedVariables false
set_option maxRecDepth 100000
namespace Go.Proofs.YtepabkjfnpaijaaGreat
open Go RowKit Go.Ew
set_option maxHeartbeats 8000000
theorem in6 : D5 Tryz.f6.ntmps (Tryz.f6.body.getD .skip) = true := by kernel_rfl
theorem in7 : D5 Tryz.f7.ntmps (Tryz.f7.body.getD .skip) = true := by kernel_rfl
theorem in3 : D5 Tryz.f3.ntmps (Tryz.f3.body.getD .skip) = true := by kernel_rfl
def Cs5 (Rs : List RcV) : Bool := Rs.all An7
/-- What the root of receipts is. -/
def Ak6 (Rs : List RcV) : EV := if Cs5 Rs then .tup [.agg (D4 .u8 (K0 (H5 (E3 (lrN (Rs.map Ab6) Rs.length)))) 32), .int .i64 0] else .tup [.agg (D4 .u8 (fun _ => 0) 32), .int .i64 190]
theorem An1 (n : Nat) (Rs : List RcV) : closed n (Ak6 Rs) := by
 unfold Ak6; split <;> simp [closed, A0, A2]
theorem Bi6 {Rs : List RcV} {i : Nat} (hi : i < Rs.length) : Cs5 (Rs.take (i + 1)) = (Cs5 (Rs.take i) && An7 Rs[i]) := by
 rw [Cs5, List.take_succ_eq_append_getElem hi, List.all_append]; simp [Cs5]
theorem Ci1 {Rs : List RcV} {i : Nat} (hi : i < Rs.length) (h : An7 Rs[i] = false) : Cs5 Rs = false := by
 rw [Cs5, List.all_eq_false]
 exact ⟨Rs[i], List.getElem_mem hi, by rw [h]; simp⟩
structure RsIn (B : Base) (ad : Option Addr) (Rs : List RcV) : Prop where
 at' : RcsAt B ad Rs
 gas : ∀ r ∈ Rs, r.gas < 18446744073709551616
 few : ∀ r ∈ Rs, r.L.length + Ap1 r.L ≤ 500
 len : Rs.length ≤ 1048576
theorem RsIn.ext {B B' : Base} {ad : Option Addr} {Rs : List RcV} (h : RsIn B ad Rs) (e : BExt B B') : RsIn B' ad Rs := ⟨h.at'.ext e, h.gas, h.few, h.len⟩
theorem Bk3 {B : Base} {r : RcV} (h : LogsAt B r.lA r.L) (hm : An7 r = true) (hgas : r.gas < 18446744073709551616) (hf : r.L.length + Ap1 r.L ≤ 500) : (H5 (Aw3 r)).length ≤ 100000 ∧ (Ab6 r).length ≤ 100001 := by
 have hok' : r.ok.toNat < 18446744073709551616 := by
  simp only [An7, Bool.and_eq_true, decide_eq_true_eq, Bool.or_eq_true, beq_iff_eq] at hm
  rcases hm.2.1.2 with h | h <;> rw [h] <;> decide
 have h1 := Br1 h hok' hgas hf
 have h2 := Da1 r
 exact ⟨h1, by omega⟩
theorem Cg5 {B : Base} (Rs : List RcV) (n : Nat) (ad : Option Addr) (cap : Nat) (h : RsIn B ad Rs) (hn : Rs.length = n) :
  Does Tryz.prog 6 [.raw (.slice ad n cap)] B (fun _ : Unit => Ak6 Rs) (fun _ _ => True) := by
 subst hn
 refine I7 en6 (fun s B B' hB hR => hR) Tryz.func6 rfl in6 (by simp [Tryz.f6]) (by simp [A0, closed]) (fun B0 hB0 => A3 1000 ?_)
 replace h := h.ext hB0
 have hlen := h.len
 have hcl : ∀ p n, A0 n (D4 .u8 (K0 p) 32) := fun p n => A2 _ _ _ _
 have hsp : ∀ p, I3 (D4 .u8 (fun _ => 0) 32) 0 (D4 .u8 (K0 p) 32) = D4 .u8 (K0 p) 32 := fun p => by rw [← O6]; exact J6 (K6 _) (by omega) _
 have hz32 : ∀ n, A0 n (D4 .u8 (fun _ => 0) 32) := fun n => A2 _ _ _ _
 have eN : ∀ r n, lE r n none = .raw (.slice none 0 0) := fun _ _ => rfl
 have oN : ∀ T xs, lO T xs none = none := fun _ _ => rfl
 have cn : ∀ n, clO n (none : Option EObj) = True := fun n => by simp [clO]
 repeat' (simp (maxSteps := 4000000) (disch := omega) only [go_sem, ↓reduceIte, Tryz.f6])
 refine G8 (S := Nat × List Bs × Lst × Base) (fun s => s.1 ≤ Rs.length ∧ Cs5 (Rs.take s.1) = true ∧ s.2.1.map Bs.l = (Rs.take s.1).map Ab6 ∧ lOk zS s.1 s.2.2.1 ∧ BExt B0 s.2.2.2 ∧ ∀ q ∈ s.2.1, q.Ok s.2.2.2)
  (fun s => ⟨[(11, .int .i64 (s.1 : Nat)), (10, .int .i64 (Rs.length : Nat)), (9, .raw (.slice ad Rs.length cap)), (4, lE 1 s.1 s.2.2.1), (2, .ptr 0 0)], 2, [(1, lO 39 (s.2.1.map bsE) s.2.2.1), (0, some (.cells (D4 .u8 (fun _ => 0) 32) 32 (0, 0)))], s.2.2.2, []⟩)
  (fun s => Rs.length - s.1) (0, [], none, B0) ⟨Nat.zero_le _, rfl, rfl, rfl, BExt.refl _, by simp⟩ (Weak.sub (A5 (by simp [wσ, go_sem, closed, A0, A4, eN, oN, cn, hz32] <;> omega) (by simp [whs, Go.Ew.hget, go_sem, EObj.closed, closed, A0, A4, eN, oN, cn, hz32]) (by first | (simp [*]; done) | (simp only [cxG]; omega)) rfl rfl (by simp))) ?_
 rintro ⟨i, qs, l, B2⟩ ⟨hi, hok, hqs, hl, hB2, hqo⟩
 simp only at hi hok hqs hl hB2 hqo ⊢
 have hql : qs.length = i := by
  have := congrArg List.length hqs
  rw [List.length_map, List.length_map, List.length_take] at this; omega
 have hclL : ∀ n, clO n (lO 39 (qs.map bsE) l) = True := fun n => G0 hl (G3 0 _) H3
 rcases Nat.lt_or_ge i Rs.length with hi2 | hi2
 ·have cA : decide ((i : Int) < (Rs.length : Int)) = true := decide_eq_true (by omega)
  obtain ⟨l1, l2, l3, l4⟩ := (h.at'.ext hB2).ld hi2
  have hL := (h.at'.ext hB2).ok _ (List.getElem_mem hi2)
  have hgas := h.gas _ (List.getElem_mem hi2)
  have hfew := h.few _ (List.getElem_mem hi2)
  have hno := fun h => Ci1 hi2 h
  have htk := Bi6 hi2
  have hmt : (Rs.take (i + 1)).map Ab6 = (Rs.take i).map Ab6 ++ [Ab6 Rs[i]] := by rw [List.take_succ_eq_append_getElem hi2, List.map_append]; rfl
  obtain ⟨r, hr⟩ : ∃ r, r = Rs[i] := ⟨_, rfl⟩
  rw [← hr] at l1 hL hgas hfew hno htk hmt
  refine A3 1000 ?_
  cases hm : An7 r with
  | false =>
   have hrr : Ak6 Rs = .tup [.agg (D4 .u8 (fun _ => 0) 32), .int .i64 190] := by rw [Ak6, hno hm, if_neg (by simp)]
   rw [hrr]
   repeat' (first | with_reducible refine And.intro (by first | omega | (constructor <;> assumption) | (simp [*]; done)) ?_ | simp (maxSteps := 4000000) (disch := omega) only [go_sem, ↓reduceIte, cA, Int.toNat_natCast, l1, R0, U5, U4] | refine F5 (Da0 hL hm) (by simp [closed, A0, A2, C6]) (A3 1000 ?_))
   exact ⟨(), by simp [closed, A0, hz32]⟩
  | true =>
   obtain ⟨hs1, hs2⟩ := Bk3 hL hm hgas hfew
   repeat' (first | with_reducible refine And.intro (by first | omega | (constructor <;> assumption) | (simp [*]; done)) ?_ | simp (maxSteps := 4000000) (disch := omega) only [go_sem, ↓reduceIte, cA, Int.toNat_natCast, l1, R0, U5, U4])
   refine F9 (Cn2 hL hm hgas (by omega)) (fun _ => by simp [closed, A0]) (fun s3 B3 hB3 hR3 => A3 1000 ?_)
   change BExt B2 B3 at hB3
   rw [hok, hm, Bool.and_self] at htk
   obtain ⟨N, hN⟩ : ∃ N : Bs, N = ⟨Ab6 r, s3.1, s3.2⟩ := ⟨_, rfl⟩
   have hNok : N.Ok B3 := by rw [hN]; exact ⟨hR3.1, hR3.2, by simp only; omega⟩
   have hNv : [N].map bsE = [.raw (.slice s3.1 (Ab6 r).length s3.2)] := by rw [hN]; rfl
   have hNl : N.l = Ab6 r := by rw [hN]
   repeat' (first | with_reducible refine And.intro (by first | omega | (simp; done)) ?_ | simp (maxSteps := 4000000) (disch := omega) only [go_sem, ↓reduceIte])
   refine Dn6 rfl (l := l) (xs := qs) 1 i [N] 1 rfl hql rfl rfl rfl hl ⟨_, F3 (m := 1) rfl (by rw [hNv]; rfl), by simp⟩ (by omega) (fun l5 hl5 => A3 1000 ?_)
   have hl5' := hl5
   obtain ⟨cp5, rest5, rfl, -⟩ := D8 hl5 (by omega)
   obtain ⟨qs2, hqs2⟩ : ∃ a, a = qs ++ [N] := ⟨_, rfl⟩
   rw [← hqs2]
   simp only [A6]
   repeat' (simp (maxSteps := 4000000) (disch := omega) only [go_sem, ↓reduceIte])
   have cl5 : ∀ n, clO n (lO 39 (qs2.map bsE) (some (cp5, rest5))) = True := fun n => G0 hl5' (G3 0 _) H3
   refine ⟨(i + 1, qs2, some (cp5, rest5), B3), ⟨hi2, htk, by rw [hqs2, List.map_append, hqs, hmt, ← hNl]; rfl, hl5', hB2.trans hB3, fun a ha => by
    rw [hqs2] at ha
    rcases List.mem_append.1 ha with h3 | h3
    ·exact (hqo a h3).ext hB3
    ·obtain rfl := List.mem_singleton.1 h3; exact hNok⟩, (M7 [4] 1 (by simp) (by simp) (by simp [cxG]) (by simp)).trans ?_, by simp only; omega⟩
   simp only [go_sem, okC, okE, O8, M1, E6, E1, F4 (ks := [4]) (k := 1) hl5' (G3 0 qs2) H3, A6]
   exact Weak.sub (A5 (by simp [wσ, go_sem, closed, A0, A4, cl5, A6, hz32] <;> omega) (by simp [whs, Go.Ew.hget, go_sem, EObj.closed, closed, A0, A4, cl5, A6, hz32]) (by first | (simp [*]; done) | (simp only [cxG]; omega)) rfl rfl (by simp))
 ·obtain rfl : i = Rs.length := by omega
  have cA : decide ((Rs.length : Int) < (Rs.length : Int)) = false := decide_eq_false (by omega)
  rw [List.take_of_length_le (Nat.le_refl _)] at hok hqs
  have hrr : Ak6 Rs = .tup [.agg (D4 .u8 (K0 (H5 (E3 (lrN (Rs.map Ab6) Rs.length)))) 32), .int .i64 0] := by rw [Ak6, hok, if_pos rfl]
  rw [hrr]
  refine Am2 (xs := qs) (T := 39) 1 Rs.length rfl hql hl (by simp) (fun b7 ad7 cap7 B4 hB4 hfz7 hC7 hcap7 => A3 1000 ?_)
  change BExt B2 B4 at hB4
  repeat' (first | simp (maxSteps := 4000000) (disch := omega) only [go_sem, ↓reduceIte, cA, hfz7] | with_reducible refine A3 1000 ?_)
  refine F9 (Bq2 _ qs Rs.length ad7 cap7 ⟨hC7, fun q hq => (hqo q hq).ext hB4, by omega⟩ hql) (fun _ => by simp [closed, hcl]) (fun s3 B3 hB3 hR3 => A3 1000 ?_)
  change BExt B4 B3 at hB3
  rw [hqs, hql]
  repeat' (simp (maxSteps := 4000000) (disch := omega) only [go_sem, ↓reduceIte, hsp])
  first | exact ⟨hB2.trans (hB4.trans hB3), (), rfl, by simp [closed, A0, hcl], trivial⟩ | exact ⟨(), by simp [closed, A0, hcl]⟩ | exact ⟨hB2.trans (hB4.trans hB3), (), by simp [closed, A0, hcl]⟩
theorem Bh7 {B : Base} (Rs : List RcV) (n : Nat) (ad : Option Addr) (cap : Nat) (h : RsIn B ad Rs) (hn : Rs.length = n) :
  Does Tryz.prog 7 [.raw (.slice ad n cap)] B (fun _ : Unit => Ak6 Rs) (fun _ _ => True) := by
 subst hn
 refine I7 en7 (fun s B B' hB hR => hR) Tryz.func7 rfl in7 (by simp [Tryz.f7]) (by simp [A0, closed]) (fun B0 hB0 => A3 1000 ?_)
 replace h := h.ext hB0
 have hlen := h.len
 have hcl : ∀ p n, A0 n (D4 .u8 (K0 p) 32) := fun p n => A2 _ _ _ _
 have hsp : ∀ p, I3 (D4 .u8 (fun _ => 0) 32) 0 (D4 .u8 (K0 p) 32) = D4 .u8 (K0 p) 32 := fun p => by rw [← O6]; exact J6 (K6 _) (by omega) _
 have hz32 : ∀ n, A0 n (D4 .u8 (fun _ => 0) 32) := fun n => A2 _ _ _ _
 have eN : ∀ r n, lE r n none = .raw (.slice none 0 0) := fun _ _ => rfl
 have oN : ∀ T xs, lO T xs none = none := fun _ _ => rfl
 have cn : ∀ n, clO n (none : Option EObj) = True := fun n => by simp [clO]
 repeat' (simp (maxSteps := 4000000) (disch := omega) only [go_sem, ↓reduceIte, Tryz.f7])
 refine G8 (S := Nat × List Bs × Lst × Base) (fun s => s.1 ≤ Rs.length ∧ Cs5 (Rs.take s.1) = true ∧ s.2.1.map Bs.l = (Rs.take s.1).map Ab6 ∧ lOk zS s.1 s.2.2.1 ∧ BExt B0 s.2.2.2 ∧ ∀ q ∈ s.2.1, q.Ok s.2.2.2)
  (fun s => ⟨[(11, .int .i64 (s.1 : Nat)), (10, .int .i64 (Rs.length : Nat)), (9, .raw (.slice ad Rs.length cap)), (4, lE 1 s.1 s.2.2.1), (2, .ptr 0 0)], 2, [(1, lO 39 (s.2.1.map bsE) s.2.2.1), (0, some (.cells (D4 .u8 (fun _ => 0) 32) 32 (0, 0)))], s.2.2.2, []⟩)
  (fun s => Rs.length - s.1) (0, [], none, B0) ⟨Nat.zero_le _, rfl, rfl, rfl, BExt.refl _, by simp⟩ (Weak.sub (A5 (by simp [wσ, go_sem, closed, A0, A4, eN, oN, cn, hz32] <;> omega) (by simp [whs, Go.Ew.hget, go_sem, EObj.closed, closed, A0, A4, eN, oN, cn, hz32]) (by first | (simp [*]; done) | (simp only [cxG]; omega)) rfl rfl (by simp))) ?_
 rintro ⟨i, qs, l, B2⟩ ⟨hi, hok, hqs, hl, hB2, hqo⟩
 simp only at hi hok hqs hl hB2 hqo ⊢
 have hql : qs.length = i := by
  have := congrArg List.length hqs
  rw [List.length_map, List.length_map, List.length_take] at this; omega
 have hclL : ∀ n, clO n (lO 39 (qs.map bsE) l) = True := fun n => G0 hl (G3 0 _) H3
 rcases Nat.lt_or_ge i Rs.length with hi2 | hi2
 ·have cA : decide ((i : Int) < (Rs.length : Int)) = true := decide_eq_true (by omega)
  obtain ⟨l1, l2, l3, l4⟩ := (h.at'.ext hB2).ld hi2
  have hL := (h.at'.ext hB2).ok _ (List.getElem_mem hi2)
  have hgas := h.gas _ (List.getElem_mem hi2)
  have hfew := h.few _ (List.getElem_mem hi2)
  have hno := fun h => Ci1 hi2 h
  have htk := Bi6 hi2
  have hmt : (Rs.take (i + 1)).map Ab6 = (Rs.take i).map Ab6 ++ [Ab6 Rs[i]] := by rw [List.take_succ_eq_append_getElem hi2, List.map_append]; rfl
  obtain ⟨r, hr⟩ : ∃ r, r = Rs[i] := ⟨_, rfl⟩
  rw [← hr] at l1 hL hgas hfew hno htk hmt
  refine A3 1000 ?_
  cases hm : An7 r with
  | false =>
   have hrr : Ak6 Rs = .tup [.agg (D4 .u8 (fun _ => 0) 32), .int .i64 190] := by rw [Ak6, hno hm, if_neg (by simp)]
   rw [hrr]
   repeat' (first | with_reducible refine And.intro (by first | omega | (constructor <;> assumption) | (simp [*]; done)) ?_ | simp (maxSteps := 4000000) (disch := omega) only [go_sem, ↓reduceIte, cA, Int.toNat_natCast, l1, R0, U5, U4] | refine F5 (Cg9 hL hm) (by simp [closed, A0, A2, C6]) (A3 1000 ?_))
   exact ⟨(), by simp [closed, A0, hz32]⟩
  | true =>
   obtain ⟨hs1, hs2⟩ := Bk3 hL hm hgas hfew
   repeat' (first | with_reducible refine And.intro (by first | omega | (constructor <;> assumption) | (simp [*]; done)) ?_ | simp (maxSteps := 4000000) (disch := omega) only [go_sem, ↓reduceIte, cA, Int.toNat_natCast, l1, R0, U5, U4])
   refine F9 (Cw8 hL hm hgas (by omega)) (fun _ => by simp [closed, A0]) (fun s3 B3 hB3 hR3 => A3 1000 ?_)
   change BExt B2 B3 at hB3
   rw [hok, hm, Bool.and_self] at htk
   obtain ⟨N, hN⟩ : ∃ N : Bs, N = ⟨Ab6 r, s3.1, s3.2⟩ := ⟨_, rfl⟩
   have hNok : N.Ok B3 := by rw [hN]; exact ⟨hR3.1, hR3.2, by simp only; omega⟩
   have hNv : [N].map bsE = [.raw (.slice s3.1 (Ab6 r).length s3.2)] := by rw [hN]; rfl
   have hNl : N.l = Ab6 r := by rw [hN]
   repeat' (first | with_reducible refine And.intro (by first | omega | (simp; done)) ?_ | simp (maxSteps := 4000000) (disch := omega) only [go_sem, ↓reduceIte])
   refine Dn6 rfl (l := l) (xs := qs) 1 i [N] 1 rfl hql rfl rfl rfl hl ⟨_, F3 (m := 1) rfl (by rw [hNv]; rfl), by simp⟩ (by omega) (fun l5 hl5 => A3 1000 ?_)
   have hl5' := hl5
   obtain ⟨cp5, rest5, rfl, -⟩ := D8 hl5 (by omega)
   obtain ⟨qs2, hqs2⟩ : ∃ a, a = qs ++ [N] := ⟨_, rfl⟩
   rw [← hqs2]
   simp only [A6]
   repeat' (simp (maxSteps := 4000000) (disch := omega) only [go_sem, ↓reduceIte])
   have cl5 : ∀ n, clO n (lO 39 (qs2.map bsE) (some (cp5, rest5))) = True := fun n => G0 hl5' (G3 0 _) H3
   refine ⟨(i + 1, qs2, some (cp5, rest5), B3), ⟨hi2, htk, by rw [hqs2, List.map_append, hqs, hmt, ← hNl]; rfl, hl5', hB2.trans hB3, fun a ha => by
    rw [hqs2] at ha
    rcases List.mem_append.1 ha with h3 | h3
    ·exact (hqo a h3).ext hB3
    ·obtain rfl := List.mem_singleton.1 h3; exact hNok⟩, (M7 [4] 1 (by simp) (by simp) (by simp [cxG]) (by simp)).trans ?_, by simp only; omega⟩
   simp only [go_sem, okC, okE, O8, M1, E6, E1, F4 (ks := [4]) (k := 1) hl5' (G3 0 qs2) H3, A6]
   exact Weak.sub (A5 (by simp [wσ, go_sem, closed, A0, A4, cl5, A6, hz32] <;> omega) (by simp [whs, Go.Ew.hget, go_sem, EObj.closed, closed, A0, A4, cl5, A6, hz32]) (by first | (simp [*]; done) | (simp only [cxG]; omega)) rfl rfl (by simp))
 ·obtain rfl : i = Rs.length := by omega
  have cA : decide ((Rs.length : Int) < (Rs.length : Int)) = false := decide_eq_false (by omega)
  rw [List.take_of_length_le (Nat.le_refl _)] at hok hqs
  have hrr : Ak6 Rs = .tup [.agg (D4 .u8 (K0 (H5 (E3 (lrN (Rs.map Ab6) Rs.length)))) 32), .int .i64 0] := by rw [Ak6, hok, if_pos rfl]
  rw [hrr]
  refine Am2 (xs := qs) (T := 39) 1 Rs.length rfl hql hl (by simp) (fun b7 ad7 cap7 B4 hB4 hfz7 hC7 hcap7 => A3 1000 ?_)
  change BExt B2 B4 at hB4
  repeat' (first | simp (maxSteps := 4000000) (disch := omega) only [go_sem, ↓reduceIte, cA, hfz7] | with_reducible refine A3 1000 ?_)
  refine F9 (Bh2 _ qs Rs.length ad7 cap7 ⟨hC7, fun q hq => (hqo q hq).ext hB4, by omega⟩ hql (by omega)) (fun _ => by simp [closed, hcl]) (fun s3 B3 hB3 hR3 => A3 1000 ?_)
  change BExt B4 B3 at hB3
  rw [hqs, hql]
  repeat' (simp (maxSteps := 4000000) (disch := omega) only [go_sem, ↓reduceIte, hsp])
  first | exact ⟨hB2.trans (hB4.trans hB3), (), rfl, by simp [closed, A0, hcl], trivial⟩ | exact ⟨(), by simp [closed, A0, hcl]⟩ | exact ⟨hB2.trans (hB4.trans hB3), (), by simp [closed, A0, hcl]⟩
theorem Ck9 (W : World) (Rs : List RcV) (rA : Option Addr) (rc : Nat) (hR : RcsAt (base W) rA Rs) (hg : ∀ r ∈ Rs, r.gas < 18446744073709551616) :
  Calls Tryz.prog 3 #[.slice rA Rs.length rc] W (Ret (.bool true) W) := by
 refine Bo9 [.raw (.slice rA Rs.length rc)] Tryz.func3 rfl in3 (by simp [Tryz.f3]) (by simp [A0, closed]) (A3 1000 ?_)
 have hlR := hR.len
 repeat' (first | simp (maxSteps := 4000000) (disch := omega) only [go_sem, ↓reduceIte, Tryz.f3] | refine F5 (Dc3 _) (by simp [closed, A0, A2, C6]) (A3 1000 ?_))
 refine G8 (S := Nat) (fun i => i ≤ Rs.length ∧ (∀ r ∈ Rs.take i, r.L.length + Ap1 r.L ≤ 500))
  (fun i => ⟨[(13, .int .i64 (i : Nat)), (12, .int .i64 (Rs.length : Nat)), (11, .raw (.slice rA Rs.length rc)), (0, .raw (.slice rA Rs.length rc))], 0, [], base W, []⟩)
  (fun i => Rs.length - i) 0 ⟨Nat.zero_le _, by simp⟩ (Weak.sub (A5 (by simp [wσ, go_sem, closed, A0, A4, ] <;> omega) (by simp [whs, Go.Ew.hget, go_sem, EObj.closed, closed, A0, A4, ]) (by first | (simp [*]; done) | (simp only [cxG]; omega)) rfl rfl (by simp))) ?_
 rintro i ⟨hi, hall⟩
 rcases Nat.lt_or_ge i Rs.length with hi2 | hi2
 ·refine A3 1000 ?_
  have cA : decide ((i : Int) < (Rs.length : Int)) = true := decide_eq_true (by omega)
  obtain ⟨l1, l2, l3, l4⟩ := hR.ld hi2
  have l2' : (adr rA).block < W.heap.size := l2
  have hL := hR.ok _ (List.getElem_mem hi2)
  have htk : Rs.take (i + 1) = Rs.take i ++ [Rs[i]] := List.take_succ_eq_append_getElem hi2
  obtain ⟨r, hr⟩ : ∃ r, r = Rs[i] := ⟨_, rfl⟩
  rw [← hr] at l1 hL htk
  have hfew := Ds3 r.L r.L.length _ r.lA r.lc hL rfl
  cases hb : decide (r.L.length + Ap1 r.L ≤ 500) with
  | false =>
   rw [hb] at hfew
   repeat' (first | with_reducible refine And.intro (by first | omega | (constructor <;> assumption) | (simp [*]; done)) ?_ | simp (maxSteps := 4000000) (disch := omega) only [go_sem, ↓reduceIte, cA, Int.toNat_natCast, l1, R0, U5, U4, Ah9] | refine F5 (hfew) (by simp [closed, A0, A2, C6]) (A3 1000 ?_))
   exact ⟨BExt.refl _, fun bs => rfl⟩
  | true =>
   rw [hb] at hfew
   have hle : r.L.length + Ap1 r.L ≤ 500 := of_decide_eq_true hb
   rcases Nat.lt_or_ge 40 Rs.length with h4 | h4
   ·have c1 : decide ((40 : Int) < (Rs.length : Int)) = true := decide_eq_true (by omega)
    repeat' (first | with_reducible refine And.intro (by first | omega | (constructor <;> assumption) | (simp [*]; done)) ?_ | simp (maxSteps := 4000000) (disch := omega) only [go_sem, ↓reduceIte, cA, Int.toNat_natCast, l1, R0, U5, U4, Ah9, c1] | refine F5 (hfew) (by simp [closed, A0, A2, C6]) (A3 1000 ?_))
    exact ⟨BExt.refl _, fun bs => rfl⟩
   ·have c1 : decide ((40 : Int) < (Rs.length : Int)) = false := decide_eq_false (by omega)
    repeat' (first | with_reducible refine And.intro (by first | omega | (constructor <;> assumption) | (simp [*]; done)) ?_ | simp (maxSteps := 4000000) (disch := omega) only [go_sem, ↓reduceIte, cA, Int.toNat_natCast, l1, R0, U5, U4, Ah9, c1] | refine F5 (hfew) (by simp [closed, A0, A2, C6]) (A3 1000 ?_))
    refine ⟨i + 1, ⟨hi2, fun a ha => ?_⟩, Weak.sub (A5 (by simp [wσ, go_sem, closed, A0, A4, ] <;> omega) (by simp [whs, Go.Ew.hget, go_sem, EObj.closed, closed, A0, A4, ]) (by first | (simp [*]; done) | (simp only [cxG]; omega)) rfl rfl (by simp)), by omega⟩
    rw [htk] at ha
    rcases List.mem_append.1 ha with h | h
    ·exact hall a h
    ·obtain rfl := List.mem_singleton.1 h; exact hle
 ·obtain rfl : i = Rs.length := by omega
  have cA : decide ((Rs.length : Int) < (Rs.length : Int)) = false := decide_eq_false (by omega)
  rw [List.take_length] at hall
  have hin : RsIn (base W) rA Rs := ⟨hR, hg, hall, hlR⟩
  refine A3 1000 ?_
  have hcl : ∀ p n, A0 n (D4 .u8 (K0 p) 32) := fun p n => A2 _ _ _ _
  have hz32 : ∀ n, A0 n (D4 .u8 (fun _ => 0) 32) := fun n => A2 _ _ _ _
  have hsp : ∀ p, I3 (D4 .u8 (fun _ => 0) 32) 0 (D4 .u8 (K0 p) 32) = D4 .u8 (K0 p) 32 := fun p => by rw [← O6]; exact J6 (K6 _) (by omega) _
  have hsz : I3 (D4 .u8 (fun _ => 0) 32) 0 (D4 .u8 (fun _ => 0) 32) = D4 .u8 (fun _ => 0) 32 := by rfl
  repeat' (first | simp (maxSteps := 4000000) (disch := omega) only [go_sem, ↓reduceIte, cA] | with_reducible refine A3 1000 ?_)
  refine F9 (Cg5 Rs Rs.length rA rc hin rfl) (fun _ => An1 0 Rs) (fun s1 B1 hB1 hR1 => A3 1000 ?_)
  change BExt (base W) B1 at hB1
  have hrf := fun B hB => Bh7 Rs Rs.length rA rc (hin.ext (B' := B) hB) rfl
  have hrc := An1 0 Rs
  unfold Ak6 at hrf hrc ⊢
  cases hok : Cs5 Rs with
  | true =>
   rw [hok] at hrf hrc
   simp only [if_true] at hrf hrc ⊢
   repeat' (simp (maxSteps := 4000000) (disch := omega) only [go_sem, ↓reduceIte, hsp])
   refine F9 (hrf _ hB1) (fun _ => hrc) (fun s2 B2 hB2 hR2 => A3 1000 ?_)
   change BExt B1 B2 at hB2
   repeat' (simp (maxSteps := 4000000) (disch := omega) only [go_sem, ↓reduceIte, hsp, X7, beq_self_eq_true])
   exact ⟨hB1.trans hB2, fun bs => rfl⟩
  | false =>
   rw [hok] at hrf hrc
   simp only [Bool.false_eq_true, if_false] at hrf hrc ⊢
   repeat' (simp (maxSteps := 4000000) (disch := omega) only [go_sem, ↓reduceIte, hsz])
   refine F9 (hrf _ hB1) (fun _ => hrc) (fun s2 B2 hB2 hR2 => A3 1000 ?_)
   change BExt B1 B2 at hB2
   repeat' (simp (maxSteps := 4000000) (disch := omega) only [go_sem, ↓reduceIte, hsz, X7, beq_self_eq_true])
   exact ⟨hB1.trans hB2, fun bs => rfl⟩
end Go.Proofs.YtepabkjfnpaijaaGreat
namespace Go.Proofs.YtepabkjfnpaijaaGreat
open Go Go.Ew Go.ChangeShapes Go.WideShapes Go.ChangeAt Go.RowKit
theorem own : ownKnob Tryz.prog.godebug = none := by kernel_rfl
theorem Dj7 : laidOutB Tryz.prog = true := by kernel_rfl
theorem Dg8 {n : Int} (h : (Lit.int .u8 n).wf = true) : 0 ≤ n ∧ n < 256 := by
 simp [Lit.wf, IntKind.min, IntKind.max, IntKind.signed, IntKind.bits] at h; omega
theorem Db6 {H : Type} (d : DataW H) : 1 ≤ Rows.uptoBulk d := by
 cases d with
 | lit l => cases l <;> simp [Rows.uptoBulk]
 | _ => simp [Rows.uptoBulk]
theorem Aq0 {H : Type} {d : DataW H} : ∀ {l : List (DataW H)}, d ∈ l → Rows.uptoBulk d ≤ Rows.uptoBulkAll l
 | x :: r, h => by
  simp only [Rows.uptoBulkAll]
  rcases List.mem_cons.1 h with rfl | h
  ·omega
  ·have := Aq0 h; omega
theorem Ak0 {H : Type} : ∀ (l : List (DataW H)), l.length ≤ Rows.uptoBulkAll l
 | [] => by simp [Rows.uptoBulkAll]
 | x :: r => by have := Db6 x; have := Ak0 r; simp only [Rows.uptoBulkAll, List.length_cons]; omega
theorem Cd7 {H : Type} {l : List (DataW H)} (hk : Rows.uptoSmall H l = true) : Rows.uptoBulkAll l ≤ 1048576 := of_decide_eq_true hk
theorem Am6 {w : World} {a : Addr} {v : Value} (h : w.cell? a = some v) : a.block < w.heap.size := by
 unfold World.cell? at h
 split at h
 ·rename_i h1
  exact (Array.getElem?_eq_some_iff.1 h1).1
 ·cases h
theorem By3 {W : World} {a : Addr} {m : Nat} (h : ∀ j, j < m → ∃ z : Int, W.cell? (a.add j) = some (.int .u8 z) ∧ 0 ≤ z ∧ z < 256) : ∃ l : List UInt8, l.length = m ∧ BytesAt (base W) (some a) l := by
 refine ⟨(List.range m).map fun j => match W.cell? (a.add j) with
  | some (.int _ z) => UInt8.ofNat z.toNat
  | _ => 0, by simp, fun b hb h0 => ?_, fun _ => rfl, fun j hj => ?_⟩
 ·cases hb
  simp only [List.length_map, List.length_range] at h0
  obtain ⟨z, hz, _⟩ := h 0 h0
  have := Am6 hz
  rwa [K5] at this
 ·simp only [List.length_map, List.length_range] at hj
  obtain ⟨z, hz, h1, h2⟩ := h j hj
  rw [E9]
  show W.cell? (a.add j) = _
  rw [hz]
  simp only [List.getElem?_map, List.getElem?_range hj, Option.map_some, hz, bV]
  rw [UInt8.toNat_ofNat_of_lt' (by simp; omega)]
  congr 2
  omega
section
variable {H : Type} {enc : TypeId × Value → H} {W : World} {fuel : Nat} {cs : List Value} {x : DataW H × List MemPlace}
theorem Cz3 (h : DataW.trod enc Tryz.prog W 0 (fun _ => true) true fuel 39 cs = some x) :
  ∃ (ad : Option Addr) (n cap : Nat) (l : List UInt8), cs = [.slice ad n cap] ∧ BytesAt (base W) ad l ∧ l.length = n ∧ n ≤ Rows.uptoBulk x.1 := by
 rcases open_ints Tryz.underlying39 Tryz.underlying5 cz5 h with ⟨rfl, rfl⟩ | ⟨a, n, cap, zs, rfl, _, hl, hm, hlen, rfl, hcell, hwf⟩
 ·exact ⟨none, 0, 0, [], rfl, BytesAt.nil _, rfl, by simp⟩
 ·simp only [if_true] at hlen
  obtain ⟨l, h1, h2⟩ := By3 (W := W) (a := a) (m := n) (fun j hj => ⟨zs.getD j 0, hcell j (by omega), Dg8 (hwf _ (by rw [List.getD_eq_getElem?_getD, List.getElem?_eq_getElem (show j < zs.length by omega)]; simp))⟩)
  refine ⟨some a, n, cap, l, rfl, h2, h1, ?_⟩
  have e1 : (lits (H := H) .u8 (zs.take n)).length = n := by simp [lits]; omega
  have := Ak0 (lits (H := H) .u8 (zs.take n))
  simp only [Rows.uptoBulk]; omega
theorem Cl6 {t m : Nat} (ht : Tryz.prog.underlying t = some (.array m 5)) (hc : Tryz.prog.cellsOf t = m) (h : DataW.trod enc Tryz.prog W 0 (fun _ => true) true fuel t cs = some x) :
  ∃ l : List UInt8, l.length = m ∧ cs = l.map bV := by
 obtain ⟨xs, m', rfl, rfl, hl, hx, hi⟩ := DataW.trod_array ht h
 rw [hc] at hl
 have hz : ∀ i, i < m → ∃ z : Int, cs[i]? = some (.int .u8 z) ∧ 0 ≤ z ∧ z < 256 := fun i h0 => by
  have h1 := hi i h0
  rw [List.getElem?_eq_getElem (by omega)] at h1
  obtain ⟨z, h2, _, h3⟩ := DataW.trod_int Tryz.underlying5 h1
  rw [cz5, Nat.mul_one] at h2
  refine ⟨z, ?_, Dg8 h3⟩
  have := congrArg (fun l => l[0]?) h2
  simpa using this
 refine ⟨(List.range m).map fun j => match cs[j]? with
  | some (Value.int _ z) => UInt8.ofNat z.toNat
  | _ => 0, by simp, ?_⟩
 apply List.ext_getElem?
 intro j
 rcases Nat.lt_or_ge j m with hj | hj
 ·obtain ⟨z, h1, h2, h3⟩ := hz j hj
  simp only [List.getElem?_map, List.getElem?_range hj, Option.map_some, h1, bV]
  rw [UInt8.toNat_ofNat_of_lt' (by simp; omega)]
  congr 2
  omega
 ·rw [List.getElem?_eq_none (by omega), List.getElem?_eq_none (by simp; omega)]
theorem Cl5 (h : DataW.trod enc Tryz.prog W 0 (fun _ => true) true fuel 45 cs = some x) :
  ∃ (ad : Option Addr) (n cap : Nat) (l : List UInt8), cs = [.slice ad n cap] ∧ BytesAt (base W) ad l ∧ l.length = 32 * n ∧ n ≤ Rows.uptoBulk x.1 := by
 rcases DataW.trod_slice Tryz.underlying45 h with ⟨rfl, rfl⟩ | ⟨a, n, cap, elems, rest, m, _, rfl, rfl, _, hl, hm, hlen, hel, _, _⟩
 ·exact ⟨none, 0, 0, [], rfl, BytesAt.nil _, rfl, by simp⟩
 ·have hz : ∀ j, j < 32 * n → ∃ z : Int, W.cell? (a.add j) = some (.int .u8 z) ∧ 0 ≤ z ∧ z < 256 := fun j hj => by
   have hi : j / 32 < n := by omega
   have h1 := hel (j / 32) hi
   rw [List.getElem?_eq_getElem (by omega), Option.bind_eq_some_iff] at h1
   obtain ⟨cs', hc, ht⟩ := h1
   rw [Dz6] at hc
   obtain ⟨_, hcl, hce⟩ := World.cells?_some hc
   obtain ⟨l, hl1, rfl⟩ := Cl6 Tryz.underlying32 Dz6 ht
   have h2 := hce (j % 32) (by omega)
   rw [X0, show j / 32 * 32 + j % 32 = j by omega, List.getElem?_map, List.getElem?_eq_getElem (by omega)] at h2
   refine ⟨_, h2, ?_⟩
   have := (l[j % 32]'(by omega)).toNat_lt
   omega
  obtain ⟨l, h1, h2⟩ := By3 hz
  refine ⟨some a, n, cap, l, rfl, h2, h1, ?_⟩
  have := Ak0 (elems.map (·.1))
  simp only [List.length_map] at this
  simp only [Rows.uptoBulk]; omega
theorem Dr9 (h : DataW.trod enc Tryz.prog W 0 (fun _ => true) true fuel 47 cs = some x) (hb : Rows.uptoBulk x.1 ≤ 1048576) : ∃ g : LogV, cs = g.cells ∧ g.Ok (base W) := by
 obtain ⟨xs, n, rfl, rfl, hl, hxl, hf⟩ := DataW.trod_struct Tryz.underlying47 h
 rw [Dz3] at hl
 have hx3 : xs.length = 3 := hxl
 obtain ⟨x0, x1, x2, rfl⟩ : ∃ a b c, xs = [a, b, c] := by
  match xs, hx3 with
  | [a, b, c], _ => exact ⟨a, b, c, rfl⟩
 have f0 := hf 0 _ rfl
 have f1 := hf 1 _ rfl
 have f2 := hf 2 _ rfl
 change DataW.trod _ _ _ _ _ _ _ 44 ((cs.drop 0).take (Tryz.prog.cellsOf 44)) = some x0 at f0
 change DataW.trod _ _ _ _ _ _ _ 45 ((cs.drop 20).take (Tryz.prog.cellsOf 45)) = some x1 at f1
 change DataW.trod _ _ _ _ _ _ _ 39 ((cs.drop 21).take (Tryz.prog.cellsOf 39)) = some x2 at f2
 rw [Dz4] at f0
 rw [Ed2] at f1
 rw [Dz5] at f2
 obtain ⟨l0, hl0, e0⟩ := Cl6 Tryz.underlying44 Dz4 f0
 obtain ⟨ad1, n1, c1, l1, e1, b1, hl1, k1⟩ := Cl5 f1
 obtain ⟨ad2, n2, c2, l2, e2, b2, hl2, k2⟩ := Cz3 f2
 simp only [Rows.uptoBulk, List.map_cons, List.map_nil, Rows.uptoBulkAll] at hb
 refine ⟨⟨l0, ad1, n1, c1, l1, ad2, n2, c2, l2⟩, ?_, hl0, hl1, hl2, b1, b2, by simp only; omega, by simp only; omega⟩
 have hcs : cs = (cs.drop 0).take 20 ++ ((cs.drop 20).take 1 ++ (cs.drop 21).take 1) := by
  have a1 : (cs.drop 21).take 1 = cs.drop 21 := List.take_of_length_le (by simp; omega)
  have a2 : (cs.drop 20).take 1 ++ cs.drop 21 = cs.drop 20 := by
   have := List.take_append_drop 1 (cs.drop 20)
   rwa [List.drop_drop] at this
  rw [a1, a2, List.drop_zero, List.take_append_drop]
 rw [hcs, e0, e1, e2]
 rfl
theorem Bq3 {α : Type} {P : Nat → α → Prop} : ∀ (n : Nat), (∀ i, i < n → ∃ a, P i a) → ∃ l : List α, l.length = n ∧ ∀ i (hi : i < l.length), P i l[i]
 | 0, _ => ⟨[], rfl, fun i hi => by simp at hi⟩
 | n + 1, h => by
  obtain ⟨l, h1, h2⟩ := Bq3 n (fun i hi => h i (by omega))
  obtain ⟨a, ha⟩ := h n (by omega)
  refine ⟨l ++ [a], by simp [h1], fun i hi => ?_⟩
  rcases Nat.lt_or_ge i l.length with h3 | h3
  ·rw [List.getElem_append_left h3]; exact h2 i h3
  ·simp only [List.length_append, List.length_singleton] at hi
   obtain rfl : i = l.length := by omega
   rw [List.getElem_append_right (by omega)]
   simp only [Nat.sub_self, List.getElem_cons_zero]
   rw [h1]; exact ha
theorem Dj8 (h : DataW.trod enc Tryz.prog W 0 (fun _ => true) true fuel 27 cs = some x) (hb : Rows.uptoBulk x.1 ≤ 1048576) :
  ∃ (ad : Option Addr) (cap : Nat) (L : List LogV), cs = [.slice ad L.length cap] ∧ LogsAt (base W) ad L := by
 rcases DataW.trod_slice Tryz.underlying27 h with ⟨rfl, rfl⟩ | ⟨a, n, cap, elems, rest, m, _, rfl, rfl, _, hl, hm, hlen, hel, _, _⟩
 ·exact ⟨none, 0, [], rfl, CellsAt.nil _, by simp, by simp⟩
 ·have hbl := Ak0 (elems.map (·.1))
  simp only [List.length_map] at hbl
  simp only [Rows.uptoBulk] at hb
  obtain ⟨L, hL, hP⟩ := Bq3 (P := fun i (g : LogV) => W.cells? 0 (a.add (i * 22)) 22 = some g.cells ∧ g.Ok (base W)) n (fun i hi => by
   have h1 := hel i hi
   rw [List.getElem?_eq_getElem (by omega), Option.bind_eq_some_iff] at h1
   obtain ⟨cs', hc, ht⟩ := h1
   rw [Dz3] at hc
   have hm := Aq0 (d := (elems[i]'(by omega)).1) (l := elems.map (·.1)) (List.mem_map_of_mem (List.getElem_mem _))
   obtain ⟨g, rfl, hg⟩ := Dr9 ht (by omega)
   exact ⟨g, hc, hg⟩)
  have hok : ∀ g ∈ L, g.Ok (base W) := fun g hg => by
   obtain ⟨i, hi, rfl⟩ := List.getElem_of_mem hg
   exact (hP i hi).2
  have hfl : (L.flatMap LogV.cells).length = 22 * L.length := L5 (k := 22) (fun g hg => LogV.cells_len (hok g hg).ha)
  have hcell : ∀ j, j < (L.flatMap LogV.cells).length → W.cell? (a.add j) = (L.flatMap LogV.cells)[j]? := fun j hj => by
   rw [hfl] at hj
   have hi : j / 22 < L.length := by omega
   obtain ⟨_, _, hce⟩ := World.cells?_some (hP _ hi).1
   have h2 := hce (j % 22) (by omega)
   rw [X0, show j / 22 * 22 + j % 22 = j by omega] at h2
   have h3 := Aa3 (f := LogV.cells) (k := 22) (l := L) (fun g hg => LogV.cells_len (hok g hg).ha) hi (j := j % 22) (by omega)
   rw [show j / 22 * 22 + j % 22 = j by omega] at h3
   rw [h2, h3]
  refine ⟨some a, cap, L, by rw [hL], ⟨⟨fun b hb2 h0 => ?_, fun _ => rfl, fun j hj => by rw [E9]; exact hcell j hj⟩, hok, by omega⟩⟩
  cases hb2
  have := hcell 0 h0
  rw [List.getElem?_eq_getElem h0] at this
  have := Am6 this
  rwa [K5] at this
end
end Go.Proofs.YtepabkjfnpaijaaGreat
namespace Go.Proofs.YtepabkjfnpaijaaGreat
open Go Go.Ew Go.ChangeShapes Go.WideShapes Go.ChangeAt Go.RowKit
section
variable {H : Type} {enc : TypeId × Value → H} {W : World} {fuel : Nat} {cs : List Value} {x : DataW H × List MemPlace}
def Dl8 (l : List UInt8) : Blm := fun i => BitVec.ofNat 8 (l.getD i 0).toNat
theorem Bs9 {l : List UInt8} (h : l.length = 256) : blB (Dl8 l) = l := by
 apply List.ext_getElem (by simp [blB, h])
 intro j h1 h2
 simp only [blB, List.getElem_map, List.getElem_range, Dl8, List.getD_eq_getElem?_getD, List.getElem?_eq_getElem h2, Option.getD_some, BitVec.toNat_ofNat]
 have := (l[j]).toNat_lt
 rw [Nat.mod_eq_of_lt (by omega)]
 exact UInt8.toNat_inj.1 (by rw [UInt8.toNat_ofNat_of_lt' (by simpa using this)])
theorem Cc3 (h : DataW.trod enc Tryz.prog W 0 (fun _ => true) true fuel 29 cs = some x) (hb : Rows.uptoBulk x.1 ≤ 1048576) : ∃ r : RcV, cs = rcC r ∧ LogsAt (base W) r.lA r.L ∧ r.gas < 18446744073709551616 := by
 obtain ⟨xs, n, rfl, rfl, hl, hxl, hf⟩ := DataW.trod_struct Tryz.underlying29 h
 rw [Dz7] at hl
 have hx5 : xs.length = 5 := hxl
 obtain ⟨x0, x1, x2, x3, x4, rfl⟩ : ∃ a b c d e, xs = [a, b, c, d, e] := by
  match xs, hx5 with
  | [a, b, c, d, e], _ => exact ⟨a, b, c, d, e, rfl⟩
 have f0 := hf 0 _ rfl
 have f1 := hf 1 _ rfl
 have f2 := hf 2 _ rfl
 have f3 := hf 3 _ rfl
 have f4 := hf 4 _ rfl
 change DataW.trod _ _ _ _ _ _ _ 5 ((cs.drop 0).take (Tryz.prog.cellsOf 5)) = some x0 at f0
 change DataW.trod _ _ _ _ _ _ _ 3 ((cs.drop 1).take (Tryz.prog.cellsOf 3)) = some x1 at f1
 change DataW.trod _ _ _ _ _ _ _ 24 ((cs.drop 2).take (Tryz.prog.cellsOf 24)) = some x2 at f2
 change DataW.trod _ _ _ _ _ _ _ 26 ((cs.drop 3).take (Tryz.prog.cellsOf 26)) = some x3 at f3
 change DataW.trod _ _ _ _ _ _ _ 27 ((cs.drop 259).take (Tryz.prog.cellsOf 27)) = some x4 at f4
 rw [cz5] at f0
 rw [cz3] at f1
 rw [Ed4] at f2
 rw [Dz8] at f3
 rw [Ed3] at f4
 obtain ⟨z0, e0, _, w0⟩ := DataW.trod_int Tryz.underlying5 f0
 obtain ⟨z1, e1, _, w1⟩ := DataW.trod_int Tryz.underlying3 f1
 obtain ⟨z2, e2, _, w2⟩ := DataW.trod_int Tryz.underlying24 f2
 obtain ⟨l3, hl3, e3⟩ := Cl6 Tryz.underlying26 Dz8 f3
 simp only [Rows.uptoBulk, List.map_cons, List.map_nil, Rows.uptoBulkAll] at hb
 obtain ⟨lA, lc, L, e4, hL⟩ := Dj8 f4 (by omega)
 have g0 := Dg8 w0
 have g2 : 0 ≤ z2 ∧ z2 < 18446744073709551616 := by
  simp [Lit.wf, IntKind.min, IntKind.max, IntKind.signed, IntKind.bits] at w2; omega
 refine ⟨⟨UInt8.ofNat z0.toNat, z1, z2.toNat, Dl8 l3, lA, lc, L⟩, ?_, hL, by simp only; omega⟩
 have hcs : cs = (cs.drop 0).take 1 ++ ((cs.drop 1).take 1 ++ ((cs.drop 2).take 1 ++ ((cs.drop 3).take 256 ++ (cs.drop 259).take 1))) := by
  have a1 : (cs.drop 259).take 1 = cs.drop 259 := List.take_of_length_le (by simp; omega)
  have a2 : (cs.drop 3).take 256 ++ cs.drop 259 = cs.drop 3 := by
   have := List.take_append_drop 256 (cs.drop 3)
   rwa [List.drop_drop] at this
  have a3 : (cs.drop 2).take 1 ++ cs.drop 3 = cs.drop 2 := by
   have := List.take_append_drop 1 (cs.drop 2)
   rwa [List.drop_drop] at this
  have a4 : (cs.drop 1).take 1 ++ cs.drop 2 = cs.drop 1 := by
   have := List.take_append_drop 1 (cs.drop 1)
   rwa [List.drop_drop] at this
  rw [a1, a2, a3, a4, List.drop_zero, List.take_append_drop]
 rw [hcs, e0, e1, e2, e3, e4, rcC, Bs9 hl3]
 simp only [List.cons_append, List.nil_append]
 rw [UInt8.toNat_ofNat_of_lt' (by simp; omega)]
 congr 2
 ·omega
 ·congr 2
  ·omega
theorem Bq8 (h : DataW.trod enc Tryz.prog W 0 (fun _ => true) true fuel 22 cs = some x) (hb : Rows.uptoBulk x.1 ≤ 1048576) :
  ∃ (ad : Option Addr) (cap : Nat) (L : List RcV), cs = [.slice ad L.length cap] ∧ RcsAt (base W) ad L ∧ ∀ r ∈ L, r.gas < 18446744073709551616 := by
 rcases DataW.trod_slice Tryz.underlying22 h with ⟨rfl, rfl⟩ | ⟨a, n, cap, elems, rest, m, _, rfl, rfl, _, hl, hm, hlen, hel, _, _⟩
 ·exact ⟨none, 0, [], rfl, ⟨CellsAt.nil _, by simp, by simp⟩, by simp⟩
 ·have hbl := Ak0 (elems.map (·.1))
  simp only [List.length_map] at hbl
  simp only [Rows.uptoBulk] at hb
  obtain ⟨L, hL, hP⟩ := Bq3 (P := fun i (g : RcV) => W.cells? 0 (a.add (i * 260)) 260 = some (rcC g) ∧ LogsAt (base W) g.lA g.L ∧ g.gas < 18446744073709551616) n (fun i hi => by
   have h1 := hel i hi
   rw [List.getElem?_eq_getElem (by omega), Option.bind_eq_some_iff] at h1
   obtain ⟨cs', hc, ht⟩ := h1
   rw [Dz7] at hc
   have hm := Aq0 (d := (elems[i]'(by omega)).1) (l := elems.map (·.1)) (List.mem_map_of_mem (List.getElem_mem _))
   obtain ⟨g, rfl, hg⟩ := Cc3 ht (by omega)
   exact ⟨g, hc, hg⟩)
  have hok : ∀ g ∈ L, LogsAt (base W) g.lA g.L ∧ g.gas < 18446744073709551616 := fun g hg => by
   obtain ⟨i, hi, rfl⟩ := List.getElem_of_mem hg
   exact (hP i hi).2
  have hfl : (L.flatMap rcC).length = 260 * L.length := L5 (k := 260) (fun g hg => Ar7 g)
  have hcell : ∀ j, j < (L.flatMap rcC).length → W.cell? (a.add j) = (L.flatMap rcC)[j]? := fun j hj => by
   rw [hfl] at hj
   have hi : j / 260 < L.length := by omega
   obtain ⟨_, _, hce⟩ := World.cells?_some (hP _ hi).1
   have h2 := hce (j % 260) (by omega)
   rw [X0, show j / 260 * 260 + j % 260 = j by omega] at h2
   have h3 := Aa3 (f := rcC) (k := 260) (l := L) (fun g hg => Ar7 g) hi (j := j % 260) (by omega)
   rw [show j / 260 * 260 + j % 260 = j by omega] at h3
   rw [h2, h3]
  refine ⟨some a, cap, L, by rw [hL], ⟨⟨fun b hb2 h0 => ?_, fun _ => rfl, fun j hj => by rw [E9]; exact hcell j hj⟩, fun r hr => (hok r hr).1, by omega⟩, fun r hr => (hok r hr).2⟩
  cases hb2
  have := hcell 0 h0
  rw [List.getElem?_eq_getElem h0] at this
  have := Am6 this
  rwa [K5] at this
end
/-- A slice that came in, opened. -/
theorem Dt8 {H : Type} {enc : TypeId × Value → H} {W : World} {r : Reach} {bs : Nat} {t e : TypeId} {v : Value} {d : DataW H} {p : List MemPlace} (ht : Tryz.prog.underlying t = some (.slice e)) (hval : Value.okWide Tryz.prog W r bs t v)
  (h : DataW.Trod enc Tryz.prog W 0 (fun _ => true) true t v d p) : ∃ ad n cap fuel, v = .slice ad n cap ∧ DataW.trod enc Tryz.prog W 0 (fun _ => true) true fuel t [.slice ad n cap] = some (d, p) := by
 obtain ⟨a, n, cap, rfl⟩ := okWide_slice ht hval
 obtain ⟨fuel, hf⟩ := h
 exact ⟨a, n, cap, fuel, rfl, by simpa [Value.cells] using hf⟩
end Go.Proofs.YtepabkjfnpaijaaGreat
