/- Part of a proof over the seat Ytepabkjfnpaijaa. -/
import Derived.Test.YtepabkjfnpaijaaG16
import Derived.Test.YtepabkjfnpaijaaG13
import Derived.Test.YtepabkjfnpaijaaEng2
import Derived.Test.YtepabkjfnpaijaaG09
import Derived.Test.YtepabkjfnpaijaaG10
set_option linter.unusedSimpArgs false
set_option linter.unusedVariables false
set_option maxRecDepth 100000
namespace Go.Proofs.Ytepabkjfnpaijaa
open Go RowKit Go.Ew
set_option maxHeartbeats 4000000
theorem in40 : codeIn Try.f40.ntmps (Try.f40.body.getD .skip) = true := by kernel_rfl
theorem in41 : codeIn Try.f41.ntmps (Try.f41.body.getD .skip) = true := by kernel_rfl
theorem in43 : codeIn Try.f43.ntmps (Try.f43.body.getD .skip) = true := by kernel_rfl
theorem in86 : codeIn Try.f86.ntmps (Try.f86.body.getD .skip) = true := by kernel_rfl
theorem rtext_fn (p : List UInt8) (n : Nat) (B : Base) (ad : Option Addr) (cap : Nat) (h : BytesAt B ad p) (hn : p.length = n) (hp : n ≤ 1099511627776) :
  Does Try.prog 40 [.raw (.slice ad n cap)] B (fun s : Plc => .agg (itE (txt p) s)) (fun s B' => ItAt B' (txt p) s) := by
 subst hn
 refine fn_of en40 (fun s B B' hB hR => hR.ext hB) Try.func40 rfl in40 (by simp [Try.f40]) (by simp [closeds, closed]) (fun B0 hB0 => next_of 1000 ?_)
 replace h := h.ext hB0
 repeat' (first | with_reducible refine And.intro (by first | omega | (simp; done)) ?_ | simp (maxSteps := 4000000) (disch := omega) only [go_sem, ↓reduceIte, Try.f40])
 refine appB (T := 5) (l := some (0, [])) (xs := []) 1 0 p rfl Try.underlying23 (.inl ⟨_, Try.underlying23⟩) zr5 cz5 by5 rfl rfl rfl ⟨Nat.le_refl _, Nat.zero_le _, rfl, by simp⟩ (h.src _) (by omega) (fun l1 hl1 => ?_)
 simp only [Nat.zero_add, List.nil_append] at hl1 ⊢
 refine freezeB (xs := p) (T := 5) 2 p.length rfl rfl hl1 (by simp) (fun b2 ad2 cap2 B2 hB2 hfz hbY hcap2 => next_of 1000 ?_)
 change BExt B0 B2 at hB2
 repeat' (first | with_reducible refine And.intro (by omega) ?_ | simp (maxSteps := 4000000) (disch := omega) only [go_sem, ↓reduceIte, hfz])
 first | exact ⟨hB2, ⟨ad2, cap2, none, 0⟩, rfl, by simp [closed, closeds], txt_at hbY hp⟩ | exact ⟨⟨ad2, cap2, none, 0⟩, rfl, by simp [closed, closeds], txt_at hbY hp⟩ | exact ⟨hB2, ⟨ad2, cap2, none, 0⟩, by simp [closed, closeds], txt_at hbY hp⟩ | exact ⟨⟨ad2, cap2, none, 0⟩, by simp [closed, closeds], txt_at hbY hp⟩ | exact ⟨hB2, ⟨ad2, cap2, none, 0⟩, by simp [closed, closeds, bytes_any]⟩ | exact ⟨⟨ad2, cap2, none, 0⟩, by simp [closed, closeds, bytes_any]⟩
theorem itsE_one (qs : List (Itm × Plc)) : oneAll (qs.flatMap itQ) = true := by
 induction qs with
 | nil => rfl
 | cons q qs ih => rw [List.flatMap_cons, oneAll_append, ih]; rfl
theorem rlst_fn (qs : List (Itm × Plc)) (n : Nat) (B : Base) (ad : Option Addr) (cap : Nat) (hc : CellsAt B ad (qs.flatMap itC)) (hql : qs.length ≤ 1099511627776) (hk : ∀ q ∈ qs, ItAt B q.1 q.2) (hn : qs.length = n) :
  Does Try.prog 41 [.raw (.slice ad n cap)] B (fun s : Plc => .agg (itE (.mk 1 [] (qs.map Prod.fst)) s)) (fun s B' => ItAt B' (.mk 1 [] (qs.map Prod.fst)) s) := by
 subst hn
 have e1 : (Itm.mk 1 [] (qs.map Prod.fst)).list = 1 := rfl
 have e2 : (Itm.mk 1 [] (qs.map Prod.fst)).bytes = [] := rfl
 have e3 : (Itm.mk 1 [] (qs.map Prod.fst)).kids.length = qs.length := List.length_map _
 simp only [itE, e1, e2, e3, List.length_nil]
 refine fn_of en41 (fun s B B' hB hR => hR.ext hB) Try.func41 rfl in41 (by simp [Try.f41]) (by simp [closeds, closed]) (fun B0 hB0 => next_of 1000 ?_)
 replace hc := hc.ext hB0
 have hcl : (qs.flatMap itC).length = qs.length * 3 := by rw [flat_len (k := 3) (fun q _ => rfl)]; omega
 have hmo : (qs.flatMap itC).map ofScalar = qs.flatMap itQ := by
  rw [List.map_flatMap]; rfl
 obtain ⟨c, hs1, hs2⟩ := CellsAt.src (cap := cap) hc (sz := 3) (by omega) hcl []
 repeat' (first | with_reducible refine And.intro (by first | omega | (simp; done)) ?_ | simp (maxSteps := 4000000) (disch := omega) only [go_sem, ↓reduceIte, Try.f41])
 refine appendL (l := some (0, [])) (xs := []) (zs := z3) (news := qs.flatMap itQ) (T := 79) 1 0 rfl Try.underlying77 (.inl ⟨_, Try.underlying77⟩) zr79 cz79 (by simp [z3]) z3_closed rfl rfl rfl ⟨Nat.le_refl _, Nat.zero_le _, rfl, by simp⟩ rfl trivial (by rw [← hmo]; exact (CellsAt.src (cap := cap) hc (sz := 3) (by omega) hcl _).choose_spec.1) (CellsAt.src (cap := cap) hc (sz := 3) (by omega) hcl _).choose_spec.2 (itsE_one qs) (by simp only [maxLen]; omega) (by rw [show Try.prog.bytesOf 79 = 56 from by79]; omega) (fun l1 hl1 => ?_)
 simp only [Nat.zero_add, List.nil_append] at hl1 ⊢
 refine freezeL (xs := qs.flatMap itQ) (T := 79) 2 qs.length rfl hl1 (by rw [itsE_len]; rfl) (itsE_closed 0 qs) z3_closed (by simp) (fun b2 kA kc B3 hB3 hf2' hD hso hcell => next_of 1000 ?_)
 change BExt B0 B3 at hB3
 have hC : CellsAt B3 kA (qs.flatMap itC) := cellsAt_frz hD hso (fun h0 => by
  rw [List.length_eq_zero_iff.1 h0]; rfl) hcell (reals_itQ _ _)
 repeat' (first | with_reducible refine And.intro (by omega) ?_ | simp (maxSteps := 4000000) (disch := omega) only [go_sem, ↓reduceIte, hf2'])
 have hfin : ItAt B3 (.mk 1 [] (qs.map Prod.fst)) ⟨none, 0, kA, kc⟩ := .mk 1 [] qs _ (bytes_any _) (by simp) hC hql (fun q hq => (hk q hq).ext (hB0.trans hB3))
 first | exact ⟨hB3, ⟨none, 0, kA, kc⟩, rfl, by simp [closed, closeds], hfin⟩ | exact ⟨⟨none, 0, kA, kc⟩, rfl, by simp [closed, closeds], hfin⟩ | exact ⟨hB3, ⟨none, 0, kA, kc⟩, by simp [closed, closeds], hfin⟩ | exact ⟨⟨none, 0, kA, kc⟩, by simp [closed, closeds], hfin⟩ | exact ⟨hB3, ⟨none, 0, kA, kc⟩, by simp [closed, closeds, bytes_any]⟩ | exact ⟨⟨none, 0, kA, kc⟩, by simp [closed, closeds, bytes_any]⟩
theorem rnum_fn (n : Nat) (h : n < 18446744073709551616) (B : Base) :
  Does Try.prog 43 [.int .u64 (n : Int)] B (fun s : Plc => .agg (itE (txt (leB n)) s)) (fun s B' => ItAt B' (txt (leB n)) s) := by
 refine fn_of en43 (fun s B B' hB hR => hR.ext hB) Try.func43 rfl in43 (by simp [Try.f43]) (by simp [closeds, closed]) (fun B0 hB0 => next_of 1000 ?_)
 repeat' (first | simp (maxSteps := 4000000) (disch := omega) only [go_sem, ↓reduceIte, Try.f43] | refine callS_p (refof_p n h) (next_of 1000 ?_))
 refine callS_f (rleast_fn n (by omega) _) (fun _ => by simp [closed]) (fun s B2 hB2 hR => next_of 1000 ?_)
 change BExt B0 B2 at hB2
 have hl := nby_le (x := n) (by omega)
 repeat' (simp (maxSteps := 4000000) (disch := omega) only [go_sem, ↓reduceIte])
 refine callS_f (rtext_fn (leB n) (nby n) B2 s.1 s.2 hR.1 (leB_len n) (by omega)) (fun _ => by simp [closed, closeds]) (fun s3 B3 hB3 hR3 => next_of 1000 ?_)
 change BExt B2 B3 at hB3
 repeat' (simp (maxSteps := 4000000) (disch := omega) only [go_sem, ↓reduceIte])
 first | exact ⟨hB2.trans hB3, s3, rfl, by simp [closed, closeds], hR3⟩ | exact ⟨s3, rfl, by simp [closed, closeds], hR3⟩ | exact ⟨hB2.trans hB3, s3, by simp [closed, closeds], hR3⟩ | exact ⟨s3, by simp [closed, closeds], hR3⟩ | exact ⟨hB2.trans hB3, s3, by simp [closed, closeds, bytes_any]⟩ | exact ⟨s3, by simp [closed, closeds, bytes_any]⟩
theorem rhead_own (base n : Nat) (hb : base ≤ 192) (hn : n < 4611686018427387904) (B : Base) :
  Owns Try.prog 86 5 [.int .u8 0] [.int .u8 (base : Nat), .int .i64 (n : Nat)] B (fun _ : Lst => (hd base n).length) (fun _ => (hd base n).map bE) (fun l => l) (fun _ _ => True) := by
 refine owns_of en86 (fun s B B' hB hR => hR) Try.func86 rfl in86 (by simp [Try.f86]) (by simp [closeds, closed]) (fun B0 hB0 => next_of 1000 ?_) hz8
 by_cases h55 : n ≤ 55
 ·have eh : hd base n = [UInt8.ofNat (base + n)] := if_pos h55
  have ev : ((UInt8.ofNat (base + n)).toNat : Int) = (base : Int) + n := by rw [u8_nat (by omega)]; push_cast; rfl
  repeat' (first | with_reducible refine And.intro (by first | omega | (simp; done)) ?_ | simp (maxSteps := 4000000) (disch := omega) only [go_sem, ↓reduceIte, Try.f86] | ((first | refine condS_split (fun h => ?_) (fun h => ?_) | refine testS_split (fun h => ?_) (fun h => ?_) | refine testT_split (fun h => ?_) (fun h => ?_)) <;> (try simp only [bne_iff_ne, ne_eq, beq_iff_eq, decide_eq_true_eq, decide_eq_false_iff_not, Bool.not_eq_true, Bool.not_eq_false, Bool.not_true, Bool.not_false, bne_eq_false_iff_eq, beq_eq_false_iff_ne, Bool.and_eq_true, Bool.or_eq_true, Bool.and_eq_false_imp, Bool.or_eq_false_iff, Bool.not_eq_true', Bool.not_eq_false', Int.not_lt, Int.not_le] at h) <;> (try (exfalso; omega))))
  refine ⟨BExt.refl _, some (1, []), by rw [eh]; rfl, ?_, by rw [eh]; exact ⟨Nat.le_refl _, by simp [maxLen], rfl, by simp⟩, closeds_bE 0 _⟩
  rw [eh]; simp only [List.map_cons, List.map_nil, bE, ev]; rfl
 ·have eh : hd base n = UInt8.ofNat (base + 55 + nby n) :: leB n := if_neg h55
  have h8 := nby_8 (n := n) (by omega)
  have ev : ((UInt8.ofNat (base + 55 + nby n)).toNat : Int) = (base : Int) + 55 + nby n := by rw [u8_nat (by omega)]; push_cast; rfl
  have hll := leB_len n
  have hlh : (hd base n).length = 1 + nby n := by rw [eh, List.length_cons]; omega
  repeat' (first | simp (maxSteps := 4000000) (disch := omega) only [go_sem, ↓reduceIte, Try.f86] | refine callS_p (refof_p n (by omega)) (next_of 1000 ?_) | ((first | refine condS_split (fun h => ?_) (fun h => ?_) | refine testS_split (fun h => ?_) (fun h => ?_) | refine testT_split (fun h => ?_) (fun h => ?_)) <;> (try simp only [bne_iff_ne, ne_eq, beq_iff_eq, decide_eq_true_eq, decide_eq_false_iff_not, Bool.not_eq_true, Bool.not_eq_false, Bool.not_true, Bool.not_false, bne_eq_false_iff_eq, beq_eq_false_iff_ne, Bool.and_eq_true, Bool.or_eq_true, Bool.and_eq_false_imp, Bool.or_eq_false_iff, Bool.not_eq_true', Bool.not_eq_false', Int.not_lt, Int.not_le] at h) <;> (try (exfalso; omega))))
  refine callS_f (rleast_fn n (by omega) _) (fun _ => by simp [closed]) (fun s B2 hB2 hR => next_of 1000 ?_)
  change BExt B0 B2 at hB2
  repeat' (first | with_reducible refine And.intro (by first | omega | (simp; done)) ?_ | simp (maxSteps := 4000000) (disch := omega) only [go_sem, ↓reduceIte])
  refine appB (T := 5) (l := some (1, [])) (xs := [UInt8.ofNat (base + 55 + nby n)]) 0 1 (leB n) rfl Try.underlying23 (.inl ⟨_, Try.underlying23⟩) zr5 cz5 by5 rfl rfl (by simp only [List.map_cons, List.map_nil, bE, ev]; rfl) (by simp [lOk, maxLen]) ((leB_len n) ▸ hR.1.src _) (by rw [leB_len]; omega) (fun l1 hl1 => ?_)
  have hx : [UInt8.ofNat (base + 55 + nby n)] ++ leB n = hd base n := eh.symm
  have e5 : 1 + (leB n).length = (hd base n).length := by omega
  simp only [e5, hx] at hl1 ⊢
  have hl1' := hl1
  obtain ⟨cp, rest, rfl, -⟩ := lst_some hl1 (by omega)
  simp only [lE_some]
  refine packS [1] 0 (by simp) (by simp) (by simp [cxG]) (by simp) (next_of 1000 ?_)
  have hpk := pkO_lO (T := 5) (ks := [1]) (k := 0) hl1' (closeds_bE 0 (hd base n)) hz8
  repeat' (first | with_reducible refine And.intro (by omega) ?_ | simp (maxSteps := 4000000) (disch := omega) only [go_sem, ↓reduceIte, okC, okE, okCs, pkO_some, hpk, pkO_none])
  first | exact ⟨hB2, some (cp, rest), rfl, rfl, hl1', closeds_bE 0 _⟩ | exact ⟨some (cp, rest), rfl, rfl, hl1', closeds_bE 0 _⟩
end Go.Proofs.Ytepabkjfnpaijaa
namespace Go.Proofs.Ytepabkjfnpaijaa
open Go RowKit Go.Ew
set_option maxHeartbeats 4000000
theorem in64 : codeIn Try.f64.ntmps (Try.f64.body.getD .skip) = true := by kernel_rfl
theorem rcheck_fn {B : Base} {t : Itm} {s : Plc} (h : ItAt B t s) : ∀ d : Nat, d ≤ 64 →
  Does Try.prog 64 [.agg (itE t s), .int .i64 (d : Nat)] B (fun _ : Unit => .int .i64 (chk t d)) (fun _ _ => True) := by
 induction h with
 | mk l b qs s hb hbl hc hql hk ih =>
 intro d hd
 have e1 : (Itm.mk l b (qs.map Prod.fst)).list = l := rfl
 have e2 : (Itm.mk l b (qs.map Prod.fst)).bytes = b := rfl
 have e3 : (Itm.mk l b (qs.map Prod.fst)).kids.length = qs.length := List.length_map _
 simp only [itE, e1, e2, e3]
 refine fn_of en64 (fun s B B' hB hR => hR) Try.func64 rfl in64 (by simp [Try.f64]) (by simp [closeds, closed]) (fun B0 hB0 => next_of 1000 ?_)
 replace hc := hc.ext hB0
 obtain ⟨K, hK⟩ : ∃ K, K = qs.map Prod.fst := ⟨_, rfl⟩
 have hKl : K.length = qs.length := by rw [hK, List.length_map]
 have hK0 : (K ≠ []) = (0 < qs.length) := by rw [← hKl]; exact propext List.length_pos_iff.symm
 have hb0 : (b ≠ []) = (0 < b.length) := propext List.length_pos_iff.symm
 simp only [← hK, chk, hK0, hb0]
 by_cases hl1 : l = 1
 ·subst hl1
  by_cases hd1 : 64 ≤ d
  ·rw [if_pos ⟨rfl, hd1⟩]
   have c1 : decide ((64 : Int) ≤ (d : Int)) = true := decide_eq_true (by omega)
   repeat' (first | with_reducible refine And.intro (by omega) ?_ | simp (maxSteps := 4000000) (disch := omega) only [go_sem, ↓reduceIte, Try.f64, c1])
   exact ⟨BExt.refl _, (), by simp [closed]⟩
  ·rw [if_neg (by omega)]
   have c1 : decide ((64 : Int) ≤ (d : Int)) = false := decide_eq_false (by omega)
   by_cases hbl0 : 0 < b.length
   ·rw [if_pos (.inr (.inr ⟨rfl, hbl0⟩))]
    have c2 : decide ((0 : Int) < (b.length : Int)) = true := decide_eq_true (by omega)
    repeat' (first | with_reducible refine And.intro (by omega) ?_ | simp (maxSteps := 4000000) (disch := omega) only [go_sem, ↓reduceIte, Try.f64, c1, c2])
    exact ⟨BExt.refl _, (), by simp [closed]⟩
   ·rw [if_neg (by omega)]
    have c2 : decide ((0 : Int) < (b.length : Int)) = false := decide_eq_false (by omega)
    have hb00 : b.length = 0 := by omega
    repeat' (first | with_reducible refine And.intro (by omega) ?_ | simp (maxSteps := 4000000) (disch := omega) only [go_sem, ↓reduceIte, Try.f64, c1, c2])
    have ih' : ∀ q ∈ qs, Does Try.prog 64 [.agg (itE q.1 q.2), .int .i64 ((d + 1 : Nat) : Int)] B0 (fun _ : Unit => .int .i64 (chk q.1 (d + 1))) (fun _ _ => True) := fun q hq => Does_ext (ih q hq (d + 1) (by omega)) hB0
    have hcast : ((d : Int) + 1) = ((d + 1 : Nat) : Int) := by push_cast; rfl
    refine loopU (S := Nat) (fun i => i ≤ qs.length ∧ ∀ j (hj : j < i) (hj2 : j < K.length), chk K[j] (d + 1) = 0)
     (fun i => ⟨[(5, .int .i64 (i : Nat)), (2, .ptr 0 0), (1, .int .i64 (d : Nat))], 1, [(0, some (.cells [.int .i64 1, .raw (.slice s.bA b.length s.bc), .raw (.slice s.kA qs.length s.kc)] 79 (0, 0)))], B0, []⟩)
     (fun i => qs.length - i) 0 ⟨Nat.zero_le _, fun j hj => absurd hj (Nat.not_lt_zero j)⟩ (Weak.sub (weak_of (by simp [wσ, go_sem, closed, closeds, lE_closed, ] <;> omega) (by simp [whs, Go.Ew.hget, go_sem, EObj.closed, closed, closeds, lE_closed, ]) (by simp [*]) rfl rfl (by simp))) ?_
    rintro i ⟨hi, hz⟩
    rcases Nat.lt_or_ge i qs.length with hi2 | hi2
    ·have c3 : decide ((i : Int) < (qs.length : Int)) = true := decide_eq_true (by omega)
     obtain ⟨l1, l2, l3, l4⟩ := kid_ld hc hi2
     have hx := ih' _ (List.getElem_mem hi2)
     have hKi : K[i]'(by omega) = qs[i].1 := by simp [hK]
     have hat := chkL_at (ks := K) (d := d + 1) (i := i) (by omega) (fun j hj => hz j hj (by omega))
     rw [hKi] at hat
     obtain ⟨q, hq0⟩ : ∃ q, q = qs[i] := ⟨_, rfl⟩
     rw [← hq0] at l1 hx hat hKi
     obtain ⟨ec, hec⟩ : ∃ ec, ec = chk q.1 (d + 1) := ⟨_, rfl⟩
     rw [← hec] at hx hat
     refine next_of 1000 ?_
     by_cases hez : ec = 0
     ·subst hez
      repeat' (first | with_reducible refine And.intro (by first | omega | (constructor <;> assumption) | ((repeat' refine And.intro ?_ ?_) <;> first | omega | assumption | (refine SlOk.so (n := ?_) ?_ ?_; rotate_left; assumption; omega) | (simp; done) | fail)) ?_ | simp (maxSteps := 4000000) (disch := omega) only [go_sem, ↓reduceIte, c3, Int.toNat_natCast, l1, hcast] | refine callS_fp (hx) (by simp [closed, closeds, closeds_ints, closed_wE]) (next_of 1000 ?_))
      refine ⟨i + 1, ⟨hi2, fun j hj hj2 => ?_⟩, Weak.sub (weak_of (by simp [wσ, go_sem, closed, closeds, lE_closed, ] <;> omega) (by simp [whs, Go.Ew.hget, go_sem, EObj.closed, closed, closeds, lE_closed, ]) (by simp [*]) rfl rfl (by simp)), by omega⟩
      rcases Nat.lt_or_ge j i with h3 | h3
      ·exact hz j h3 hj2
      ·obtain rfl : j = i := by omega
       rw [hKi, ← hec]
     ·rw [hat hez]
      have c4 : (ec == 0) = false := by simpa using hez
      repeat' (first | with_reducible refine And.intro (by first | omega | (constructor <;> assumption) | (simp [*]; done)) ?_ | simp (maxSteps := 4000000) (disch := omega) only [go_sem, ↓reduceIte, c3, Int.toNat_natCast, l1, hcast, bne, c4] | refine callS_fp (hx) (by simp [closed, closeds, closeds_ints, closed_wE]) (next_of 1000 ?_))
      exact ⟨BExt.refl _, (), by simp [closed]⟩
    ·have c3 : decide ((i : Int) < (qs.length : Int)) = false := decide_eq_false (by omega)
     rw [chkL_zero (fun k hk2 => by
      obtain ⟨j, hj, rfl⟩ := List.getElem_of_mem hk2
      exact hz j (by omega) hj)]
     refine next_of 1000 ?_
     repeat' (first | with_reducible refine And.intro (by omega) ?_ | simp (maxSteps := 4000000) (disch := omega) only [go_sem, ↓reduceIte, c3] | with_reducible refine next_of 1000 ?_)
     exact ⟨BExt.refl _, (), by simp [closed]⟩
 ·rw [if_neg (fun h => hl1 h.1)]
  by_cases hl0 : l = 0
  ·subst hl0
   by_cases hq0 : 0 < qs.length
   ·rw [if_pos (.inr (.inl ⟨rfl, hq0⟩))]
    have c2 : decide ((0 : Int) < (qs.length : Int)) = true := decide_eq_true (by omega)
    repeat' (first | with_reducible refine And.intro (by omega) ?_ | simp (maxSteps := 4000000) (disch := omega) only [go_sem, ↓reduceIte, Try.f64, c2])
    exact ⟨BExt.refl _, (), by simp [closed]⟩
   ·rw [if_neg (by omega)]
    have c2 : decide ((0 : Int) < (qs.length : Int)) = false := decide_eq_false (by omega)
    have hK00 : K = [] := List.length_eq_zero_iff.1 (by omega)
    rw [hK00, show chkL [] (d + 1) = 0 from rfl]
    repeat' (first | with_reducible refine And.intro (by omega) ?_ | simp (maxSteps := 4000000) (disch := omega) only [go_sem, ↓reduceIte, Try.f64, c2])
    refine loopS_rounds 1 ?_
    repeat' (first | with_reducible refine And.intro (by omega) ?_ | simp (maxSteps := 4000000) (disch := omega) only [go_sem, ↓reduceIte, c2] | with_reducible refine roundS (next_of 1000 ?_) | with_reducible refine next_of 1000 ?_)
    exact ⟨BExt.refl _, (), by simp [closed]⟩
  ·rw [if_pos (.inl ⟨hl0, hl1⟩)]
   have c0 : (l == 0) = false := by simpa using hl0
   have c1 : (l == 1) = false := by simpa using hl1
   by_cases hneg : l < 0
   ·have c2 : decide (l < 0) = true := decide_eq_true hneg
    repeat' (first | with_reducible refine And.intro (by omega) ?_ | simp (maxSteps := 4000000) (disch := omega) only [go_sem, ↓reduceIte, Try.f64, c0, c1, c2])
    exact ⟨BExt.refl _, (), by simp [closed]⟩
   ·have c2 : decide (l < 0) = false := decide_eq_false hneg
    have c3 : decide (1 < l) = true := decide_eq_true (by omega)
    repeat' (first | with_reducible refine And.intro (by omega) ?_ | simp (maxSteps := 4000000) (disch := omega) only [go_sem, ↓reduceIte, Try.f64, c0, c1, c2, c3])
    exact ⟨BExt.refl _, (), by simp [closed]⟩
end Go.Proofs.Ytepabkjfnpaijaa
namespace Go.Proofs.Ytepabkjfnpaijaa
open Go RowKit Go.Ew
set_option maxHeartbeats 4000000
theorem in65 : codeIn Try.f65.ntmps (Try.f65.body.getD .skip) = true := by kernel_rfl
theorem in42 : codeIn Try.f42.ntmps (Try.f42.body.getD .skip) = true := by kernel_rfl
theorem form_pos' : ∀ t : Itm, 1 ≤ (form t).length
 | .mk l b ks => by
  have h := fun base n => hd_len (base := base) (n := n)
  rw [form]
  split
  ·rw [List.length_append, h]; split <;> omega
  ·split
   ·omega
   ·rw [List.length_append, h]; split <;> omega
theorem rform_fn {B : Base} {t : Itm} {s : Plc} (h : ItAt B t s) (hok : okI t = true) (hf : (form t).length < 35184372088832) :
  Does Try.prog 65 [.agg (itE t s)] B (fun u : Option Addr × Nat => .raw (.slice u.1 (form t).length u.2)) (fun u B' => BytesAt B' u.1 (form t) ∧ (form t).length ≤ u.2) := by
 induction h with
 | mk l b qs s hb hbl hc hql hk ih =>
 have e1 : (Itm.mk l b (qs.map Prod.fst)).list = l := rfl
 have e2 : (Itm.mk l b (qs.map Prod.fst)).bytes = b := rfl
 have e3 : (Itm.mk l b (qs.map Prod.fst)).kids.length = qs.length := List.length_map _
 simp only [itE, e1, e2, e3]
 refine fn_of en65 (fun s B B' hB hR => ⟨hR.1.ext hB, hR.2⟩) Try.func65 rfl in65 (by simp [Try.f65]) (by simp [closeds, closed]) (fun B0 hB0 => next_of 1000 ?_)
 replace hb := hb.ext hB0
 replace hc := hc.ext hB0
 obtain ⟨K, hK⟩ : ∃ K, K = qs.map Prod.fst := ⟨_, rfl⟩
 have hKl : K.length = qs.length := by rw [hK, List.length_map]
 rw [← hK] at hok hf ⊢
 simp only [okI, Bool.and_eq_true, Bool.or_eq_true, beq_iff_eq, List.isEmpty_iff] at hok
 obtain ⟨hs, hkids⟩ := hok
 rcases hs with ⟨rfl, hks⟩ | ⟨rfl, rfl⟩
 ·subst hks
  have n10 : ((0 : Int) = 1) = False := by simp
  simp only [form, n10, if_false] at hf ⊢
  by_cases h1 : b.length = 1 ∧ b.getD 0 0 < 128
  ·rw [if_pos h1] at hf ⊢
   have m1 := hb.ld 0 (by omega)
   have m2 := hb.lS 0 (by omega)
   have m3 := hb.lD (by omega)
   have m4 := hb.ok.so (by omega)
   obtain ⟨z, hz⟩ : ∃ z, z = (b.getD 0 0).toNat := ⟨_, rfl⟩
   have hz1 : z < 128 := by rw [hz]; exact UInt8.lt_iff_toNat_lt.1 h1.2
   have m5 : rawCell B0 (adrAt s.bA 0) = .int .u8 (z : Int) := by rw [m1, bE, hz]
   have c1 : decide ((z : Int) < 128) = true := decide_eq_true (by omega)
   have hl0 := h1.1
   have hlc : (((b.length : Nat) : Int) == 1) = true := by rw [beq_iff_eq]; omega
   repeat' (first | with_reducible refine And.intro (by first | omega | (constructor <;> assumption) | (simp; done) | (simp [*]; done)) ?_ | simp (maxSteps := 4000000) (disch := omega) only [go_sem, ↓reduceIte, Try.f65, m5, c1, hlc])
   refine appB (T := 5) (l := some (0, [])) (xs := []) 1 0 b rfl Try.underlying23 (.inl ⟨_, Try.underlying23⟩) zr5 cz5 by5 rfl rfl rfl ⟨Nat.le_refl _, Nat.zero_le _, rfl, by simp⟩ (hb.src _) (by omega) (fun l1 hl1 => ?_)
   simp only [Nat.zero_add, List.nil_append] at hl1 ⊢
   refine freezeB (xs := b) (T := 5) 2 b.length rfl rfl hl1 (by simp) (fun b2 ad2 cap2 B2 hB2 hfz hbY hcap2 => next_of 1000 ?_)
   change BExt B0 B2 at hB2
   repeat' (first | with_reducible refine And.intro (by omega) ?_ | simp (maxSteps := 4000000) (disch := omega) only [go_sem, ↓reduceIte, hfz])
   first | exact ⟨hB2, (ad2, cap2), rfl, by simp [closed, closeds], ⟨hbY, hcap2⟩⟩ | exact ⟨(ad2, cap2), rfl, by simp [closed, closeds], ⟨hbY, hcap2⟩⟩ | exact ⟨hB2, (ad2, cap2), by simp [closed, closeds], ⟨hbY, hcap2⟩⟩ | exact ⟨(ad2, cap2), by simp [closed, closeds], ⟨hbY, hcap2⟩⟩ | exact ⟨hB2, (ad2, cap2), by simp [closed, closeds, bytes_any]⟩ | exact ⟨(ad2, cap2), by simp [closed, closeds, bytes_any]⟩
  ·rw [if_neg h1] at hf ⊢
   have hh := hd_le (base := 128) (n := b.length) (by omega)
   rw [List.length_append] at hf
   have hown := rhead_own 128 b.length (by omega) (by omega) B0
   by_cases hl1 : b.length = 1
   ·have m1 := hb.ld 0 (by omega)
    have m2 := hb.lS 0 (by omega)
    have m3 := hb.lD (by omega)
    have m4 := hb.ok.so (by omega)
    obtain ⟨z, hz⟩ : ∃ z, z = (b.getD 0 0).toNat := ⟨_, rfl⟩
    have hz1 : ¬ z < 128 := fun h => h1 ⟨hl1, by rw [hz] at h; exact UInt8.lt_iff_toNat_lt.2 h⟩
    have m5 : rawCell B0 (adrAt s.bA 0) = .int .u8 (z : Int) := by rw [m1, bE, hz]
    have c1 : decide ((z : Int) < 128) = false := decide_eq_false (by omega)
    have hlc : (((b.length : Nat) : Int) == 1) = true := by rw [beq_iff_eq]; omega
    repeat' (first | with_reducible refine And.intro (by first | omega | (constructor <;> assumption) | (simp [*]; done)) ?_ | simp (maxSteps := 4000000) (disch := omega) only [go_sem, ↓reduceIte, Try.f65, m5, c1, hlc] | with_reducible refine drawT_of (id := 4) [0, 1, 2, 4, 5, 3, 6, 7] mixed (by kernel_rfl) (by simp) (fun hin => dt_of 1000 hin ?_))
    refine callT_own 26 hown hz8 rfl (by simp [cxG]) (by kernel_rfl) (ck_of (by kernel_rfl) (nmT_of (by kernel_rfl))) (fun hin3 ll B3 hB3 hR3 hlk3 hx3 => dt_of 1000 hin3 ?_)
    change BExt B0 B3 at hB3
    have hE26 := lO_av (T := 5) hlk3 (closeds_bE 0 (hd 128 b.length)) hz8
    obtain ⟨cp, rest, rfl, -⟩ := lst_some hlk3 (by omega)
    simp only [lE_some]
    repeat' (simp (maxSteps := 4000000) (disch := omega) only [go_sem, ↓reduceIte])
    refine appBT (T := 5) (l := some (cp, rest)) (xs := hd 128 b.length) 29 100026 (hd 128 b.length).length b [] rfl rfl Try.underlying23 (.inl ⟨_, Try.underlying23⟩) zr5 cz5 by5 rfl rfl rfl hlk3 (fun B hs hB _ => ((hb.ext hB3).ext hB).src _) (by omega) (by simp [cxG]) (by kernel_rfl) (ck_of (by kernel_rfl) ((nmT_rv [100026, 100029] (by kernel_rfl) (by with_unfolding_all (repeat' (first | exact True.intro | exact none_av | exact hE26 | refine And.intro ?_ ?_)))))) (fun l1 hl1 => dt_of 1000 (by assumption) ?_)
    have hl1' := hl1
    have hE29 := lO_av (T := 5) hl1 (closeds_bE 0 (hd 128 b.length ++ b)) hz8
    obtain ⟨cp2, rest2, rfl, -⟩ := lst_some hl1 (by omega)
    simp only [lE_some]
    repeat' (simp (maxSteps := 4000000) (disch := omega) only [go_sem, ↓reduceIte])
    refine endT_of (by kernel_rfl) ((nmT_rv [100026, 100029] (by kernel_rfl) (by with_unfolding_all (repeat' (first | exact True.intro | exact none_av | exact hE26 | exact hE29 | refine And.intro ?_ ?_))))) ?_
    refine freezeB (xs := hd 128 b.length ++ b) (T := 5) (l := some (cp2, rest2)) 100029 ((hd 128 b.length).length + b.length) rfl (by rw [List.length_append]) hl1' (by simp) (fun b2 ad2 cap2 B4 hB4 hfz hbY hcap2 => next_of 1000 ?_)
    change BExt B3 B4 at hB4
    simp only [lE_some, frz, ↓reduceIte, EV.raw.injEq, Value.slice.injEq, true_and] at hfz
    obtain ⟨rfl, rfl⟩ := hfz
    repeat' (simp (maxSteps := 4000000) (disch := omega) only [go_sem, ↓reduceIte])
    rw [List.length_append]
    first | exact ⟨hB3.trans hB4, (some ⟨b2, 0, none⟩, cp2), rfl, by simp [closed, closeds], ⟨hbY, hcap2⟩⟩ | exact ⟨(some ⟨b2, 0, none⟩, cp2), rfl, by simp [closed, closeds], ⟨hbY, hcap2⟩⟩ | exact ⟨hB3.trans hB4, (some ⟨b2, 0, none⟩, cp2), by simp [closed, closeds], ⟨hbY, hcap2⟩⟩ | exact ⟨(some ⟨b2, 0, none⟩, cp2), by simp [closed, closeds], ⟨hbY, hcap2⟩⟩ | exact ⟨hB3.trans hB4, (some ⟨b2, 0, none⟩, cp2), by simp [closed, closeds, bytes_any]⟩ | exact ⟨(some ⟨b2, 0, none⟩, cp2), by simp [closed, closeds, bytes_any]⟩
   ·have hlc : (((b.length : Nat) : Int) == 1) = false := by rw [beq_eq_false_iff_ne]; omega
    repeat' (first | with_reducible refine And.intro (by omega) ?_ | simp (maxSteps := 4000000) (disch := omega) only [go_sem, ↓reduceIte, Try.f65, hlc] | with_reducible refine drawT_of (id := 4) [0, 1, 2, 4, 5, 3, 6, 7] mixed (by kernel_rfl) (by simp) (fun hin => dt_of 1000 hin ?_))
    refine callT_own 26 hown hz8 rfl (by simp [cxG]) (by kernel_rfl) (ck_of (by kernel_rfl) (nmT_of (by kernel_rfl))) (fun hin3 ll B3 hB3 hR3 hlk3 hx3 => dt_of 1000 hin3 ?_)
    change BExt B0 B3 at hB3
    have hE26 := lO_av (T := 5) hlk3 (closeds_bE 0 (hd 128 b.length)) hz8
    obtain ⟨cp, rest, rfl, -⟩ := lst_some hlk3 (by omega)
    simp only [lE_some]
    repeat' (simp (maxSteps := 4000000) (disch := omega) only [go_sem, ↓reduceIte])
    refine appBT (T := 5) (l := some (cp, rest)) (xs := hd 128 b.length) 29 100026 (hd 128 b.length).length b [] rfl rfl Try.underlying23 (.inl ⟨_, Try.underlying23⟩) zr5 cz5 by5 rfl rfl rfl hlk3 (fun B hs hB _ => ((hb.ext hB3).ext hB).src _) (by omega) (by simp [cxG]) (by kernel_rfl) (ck_of (by kernel_rfl) ((nmT_rv [100026, 100029] (by kernel_rfl) (by with_unfolding_all (repeat' (first | exact True.intro | exact none_av | exact hE26 | refine And.intro ?_ ?_)))))) (fun l1 hl1 => dt_of 1000 (by assumption) ?_)
    have hl1' := hl1
    have hE29 := lO_av (T := 5) hl1 (closeds_bE 0 (hd 128 b.length ++ b)) hz8
    obtain ⟨cp2, rest2, rfl, -⟩ := lst_some hl1 (by omega)
    simp only [lE_some]
    repeat' (simp (maxSteps := 4000000) (disch := omega) only [go_sem, ↓reduceIte])
    refine endT_of (by kernel_rfl) ((nmT_rv [100026, 100029] (by kernel_rfl) (by with_unfolding_all (repeat' (first | exact True.intro | exact none_av | exact hE26 | exact hE29 | refine And.intro ?_ ?_))))) ?_
    refine freezeB (xs := hd 128 b.length ++ b) (T := 5) (l := some (cp2, rest2)) 100029 ((hd 128 b.length).length + b.length) rfl (by rw [List.length_append]) hl1' (by simp) (fun b2 ad2 cap2 B4 hB4 hfz hbY hcap2 => next_of 1000 ?_)
    change BExt B3 B4 at hB4
    simp only [lE_some, frz, ↓reduceIte, EV.raw.injEq, Value.slice.injEq, true_and] at hfz
    obtain ⟨rfl, rfl⟩ := hfz
    repeat' (simp (maxSteps := 4000000) (disch := omega) only [go_sem, ↓reduceIte])
    rw [List.length_append]
    first | exact ⟨hB3.trans hB4, (some ⟨b2, 0, none⟩, cp2), rfl, by simp [closed, closeds], ⟨hbY, hcap2⟩⟩ | exact ⟨(some ⟨b2, 0, none⟩, cp2), rfl, by simp [closed, closeds], ⟨hbY, hcap2⟩⟩ | exact ⟨hB3.trans hB4, (some ⟨b2, 0, none⟩, cp2), by simp [closed, closeds], ⟨hbY, hcap2⟩⟩ | exact ⟨(some ⟨b2, 0, none⟩, cp2), by simp [closed, closeds], ⟨hbY, hcap2⟩⟩ | exact ⟨hB3.trans hB4, (some ⟨b2, 0, none⟩, cp2), by simp [closed, closeds, bytes_any]⟩ | exact ⟨(some ⟨b2, 0, none⟩, cp2), by simp [closed, closeds, bytes_any]⟩
 ·simp only [form, ↓reduceIte, List.length_append, List.length_nil] at hf ⊢
  have hh := hd_le (base := 192) (n := (formL K).length) (by omega)
  have hown := fun B => rhead_own 192 (formL K).length (by omega) (by omega) B
  have ih' : ∀ q ∈ qs, Does Try.prog 65 [.agg (itE q.1 q.2)] B0 (fun u : Option Addr × Nat => .raw (.slice u.1 (form q.1).length u.2)) (fun u B' => BytesAt B' u.1 (form q.1) ∧ (form q.1).length ≤ u.2) := fun q hq => by
   have hm : q.1 ∈ K := by rw [hK]; exact List.mem_map_of_mem hq
   exact Does_ext (ih q hq (okL_iff.1 hkids _ hm) (by have := form_le hm; omega)) hB0
  repeat' (first | with_reducible refine And.intro (by omega) ?_ | simp (maxSteps := 4000000) (disch := omega) only [go_sem, ↓reduceIte, Try.f65])
  refine loopU (S := Nat × Lst × Base) (fun u => u.1 ≤ qs.length ∧ lOk [.int .u8 0] (formL (K.take u.1)).length u.2.1 ∧ BExt B0 u.2.2)
   (fun u => ⟨[(4, .int .i64 (u.1 : Nat)), (3, lE 1 (formL (K.take u.1)).length u.2.1), (1, .ptr 0 0)], 2,
    [(1, lO 5 ((formL (K.take u.1)).map bE) u.2.1), (0, some (.cells [.int .i64 1, .raw (.slice s.bA 0 s.bc), .raw (.slice s.kA qs.length s.kc)] 79 (0, 0)))], u.2.2, []⟩)
   (fun u => qs.length - u.1) (0, none, B0) ⟨Nat.zero_le _, rfl, BExt.refl _⟩ (Weak.sub (weak_of (by simp [wσ, go_sem, closed, closeds, lE_closed, lE, lO, clO, formL, List.take_zero] <;> omega) (by simp [whs, Go.Ew.hget, go_sem, EObj.closed, closed, closeds, lE_closed, lE, lO, clO, formL, List.take_zero]) (by simp [*]) rfl rfl (by simp))) ?_
  rintro ⟨i, l, B2⟩ ⟨hi, hl, hB2⟩
  simp only at hi hl hB2 ⊢
  rcases Nat.lt_or_ge i qs.length with hi2 | hi2
  ·have c3 : decide ((i : Int) < (qs.length : Int)) = true := decide_eq_true (by omega)
   obtain ⟨l1, l2, l3, l4⟩ := kid_ld (hc.ext hB2) hi2
   have hx := Does_ext (ih' _ (List.getElem_mem hi2)) hB2
   have hKi : K[i]'(by omega) = qs[i].1 := by simp [hK]
   have htk := formL_take (ks := K) (i := i) (by omega)
   have hle := formL_le (ks := K) (i + 1)
   rw [hKi] at htk
   obtain ⟨q, hq0⟩ : ∃ q, q = qs[i] := ⟨_, rfl⟩
   rw [← hq0] at l1 hx htk
   have hlen : (formL (K.take (i + 1))).length = (formL (K.take i)).length + (form q.1).length := by rw [htk, List.length_append]
   have hpos := form_pos' q.1
   refine next_of 1000 ?_
   repeat' (first | with_reducible refine And.intro (by first | omega | (constructor <;> assumption) | (simp [*]; done)) ?_ | simp (maxSteps := 4000000) (disch := omega) only [go_sem, ↓reduceIte, c3, Int.toNat_natCast, l1])
   refine callS_f hx (fun _ => by simp [closed]) (fun u B3 hB3 hR3 => next_of 1000 ?_)
   change BExt B2 B3 at hB3
   repeat' (simp (maxSteps := 4000000) (disch := omega) only [go_sem, ↓reduceIte])
   refine appB (T := 5) (l := l) (xs := formL (K.take i)) 1 (formL (K.take i)).length (form q.1) rfl Try.underlying23 (.inl ⟨_, Try.underlying23⟩) zr5 cz5 by5 rfl rfl rfl hl (hR3.1.src _) (by omega) (fun l5 hl5 => ?_)
   rw [← hlen] at hl5 ⊢
   rw [← htk]
   have hl5' := hl5
   obtain ⟨cp, rest, rfl, -⟩ := lst_some hl5 (by omega)
   simp only [lE_some]
   refine next_of 1000 ?_
   repeat' (simp (maxSteps := 4000000) (disch := omega) only [go_sem, ↓reduceIte])
   have cl2 : ∀ n, clO n (lO 5 ((formL (K.take (i + 1))).map bE) (some (cp, rest))) = True := fun n => clO_lO hl5' (closeds_bE 0 _) hz8
   refine ⟨(i + 1, some (cp, rest), B3), ⟨hi2, hl5', hB2.trans hB3⟩, (pack_sub [2] 1 (by simp) (by simp) (by simp) (by simp)).trans ?_, by simp only; omega⟩
   simp only [go_sem, okC, okE, okCs, pkO_some, pkO_lO (ks := [2]) (k := 1) hl5' (closeds_bE 0 _) hz8, pkO_none, lE_some]
   exact Weak.sub (weak_of (by simp [wσ, go_sem, closed, closeds, lE_closed, cl2, lE_some] <;> omega) (by simp [whs, Go.Ew.hget, go_sem, EObj.closed, closed, closeds, lE_closed, cl2, lE_some]) (by simp [*]) rfl rfl (by simp))
  ·obtain rfl : i = qs.length := by omega
   have c3 : decide ((qs.length : Int) < (qs.length : Int)) = false := decide_eq_false (by omega)
   have hKt : K.take qs.length = K := List.take_of_length_le (by omega)
   rw [hKt] at hl ⊢
   refine freezeB (xs := formL K) (T := 5) 1 (formL K).length rfl rfl hl (by simp) (fun b2 ad2 cap2 B4 hB4 hfz hbY hcap2 => next_of 1000 ?_)
   change BExt B2 B4 at hB4
   repeat' (first | with_reducible refine And.intro (by omega) ?_ | simp (maxSteps := 4000000) (disch := omega) only [go_sem, ↓reduceIte, c3, hfz] | with_reducible refine next_of 1000 ?_)
   refine callS_own (hown B4) hz8 (fun l6 B6 hB6 _ hl6 _ => next_of 1000 ?_)
   change BExt B4 B6 at hB6
   have hl6' := hl6
   obtain ⟨cp, rest, rfl, -⟩ := lst_some hl6 (by omega)
   repeat' (simp (maxSteps := 4000000) (disch := omega) only [go_sem, ↓reduceIte, lE_some])
   refine appB (T := 5) (l := some (cp, rest)) (xs := hd 192 (formL K).length) 2 (hd 192 (formL K).length).length (formL K) rfl Try.underlying23 (.inl ⟨_, Try.underlying23⟩) zr5 cz5 by5 rfl rfl rfl hl6' ((hbY.ext hB6).src _) (by omega) (fun l7 hl7 => ?_)
   refine freezeB (xs := hd 192 (formL K).length ++ formL K) (T := 5) 3 ((hd 192 (formL K).length).length + (formL K).length) rfl (by rw [List.length_append]) hl7 (by simp) (fun b3 ad3 cap3 B7 hB7 hfz hbY hcap3 => next_of 1000 ?_)
   change BExt B6 B7 at hB7
   repeat' (simp (maxSteps := 4000000) (disch := omega) only [go_sem, ↓reduceIte, hfz])
   first | exact ⟨hB2.trans (hB4.trans (hB6.trans hB7)), (ad3, cap3), rfl, by simp [closed, closeds], ⟨hbY, hcap3⟩⟩ | exact ⟨(ad3, cap3), rfl, by simp [closed, closeds], ⟨hbY, hcap3⟩⟩ | exact ⟨hB2.trans (hB4.trans (hB6.trans hB7)), (ad3, cap3), by simp [closed, closeds], ⟨hbY, hcap3⟩⟩ | exact ⟨(ad3, cap3), by simp [closed, closeds], ⟨hbY, hcap3⟩⟩ | exact ⟨hB2.trans (hB4.trans (hB6.trans hB7)), (ad3, cap3), by simp [closed, closeds, bytes_any]⟩ | exact ⟨(ad3, cap3), by simp [closed, closeds, bytes_any]⟩
theorem renc_fn {B : Base} {t : Itm} {s : Plc} (h : ItAt B t s) (hok : chk t 0 = 0) (hf : (form t).length < 35184372088832) :
  Does Try.prog 42 [.agg (itE t s)] B (fun s : Option Addr × Nat => .tup [.raw (.slice s.1 (form t).length s.2), .int .i64 0]) (fun s B' => BytesAt B' s.1 (form t) ∧ (form t).length ≤ s.2) := by
 refine fn_of en42 (fun s B B' hB hR => ⟨hR.1.ext hB, hR.2⟩) Try.func42 rfl in42 (by simp [Try.f42]) (by simp [closeds, closed]) (fun B0 hB0 => next_of 1000 ?_)
 replace h := h.ext hB0
 have h1 := rcheck_fn h 0 (by omega)
 rw [hok] at h1
 repeat' (first | simp (maxSteps := 4000000) (disch := omega) only [go_sem, ↓reduceIte, Try.f42] | refine callS_fp (h1) (by simp [closed, closeds, closeds_ints, closed_wE]) (next_of 1000 ?_))
 refine callS_f (rform_fn h (chk_ok t 0 hok) hf) (fun _ => by simp [closed]) (fun u B1 hB1 hR1 => next_of 1000 ?_)
 change BExt B0 B1 at hB1
 repeat' (first | with_reducible refine And.intro (by omega) ?_ | simp (maxSteps := 4000000) (disch := omega) only [go_sem, ↓reduceIte])
 first | exact ⟨hB1, u, rfl, by simp [closed, closeds], hR1⟩ | exact ⟨u, rfl, by simp [closed, closeds], hR1⟩ | exact ⟨hB1, u, by simp [closed, closeds], hR1⟩ | exact ⟨u, by simp [closed, closeds], hR1⟩ | exact ⟨hB1, u, by simp [closed, closeds, bytes_any]⟩ | exact ⟨u, by simp [closed, closeds, bytes_any]⟩
end Go.Proofs.Ytepabkjfnpaijaa
