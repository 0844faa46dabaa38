/- Part of a proof over the seat Ytncjbfkkgdepoaa. -/
import Derived.Test.YtncjbfkkgdepoaaG15
import Derived.Test.YtncjbfkkgdepoaaG08
import Derived.Test.YtncjbfkkgdepoaaG09
import Derived.Test.YtncjbfkkgdepoaaEng2
set_option linter.unusedSimpArgs false
set_option linter.unusedVariables false
set_option maxRecDepth 100000
namespace Go.Proofs.Ytncjbfkkgdepoaa
open Go RowKit Go.Ew
set_option maxHeartbeats 4000000
theorem Dz4 : D0 Try.f62.ntmps (Try.f62.body.getD .skip) = true := by kernel_rfl
theorem Cc5 {B : Base} {t : Itm} {s : Plc} (h : ItAt B t s) : ∀ d : Nat, d ≤ 64 →
  Does Try.prog 62 [.agg (itE t s), .int .i64 (d : Nat)] B (fun _ : Unit => .int .i64 (chk t d)) (fun _ _ => True) := by
 induction h with
 | mk l b qs s hb hbl hc hql hk ih =>
 intro d hd
 have e1 : (Itm.mk l b (qs.map Prod.fst)).list = l := rfl
 have e2 : (Itm.mk l b (qs.map Prod.fst)).bytes = b := rfl
 have e3 : (Itm.mk l b (qs.map Prod.fst)).kids.length = qs.length := List.length_map _
 simp only [itE, e1, e2, e3]
 refine K2 Ee1 (fun s B B' hB hR => hR) Try.func62 rfl Dz4 (by simp [Try.f62]) (by simp [A0, closed]) (fun B0 hB0 => A2 1000 ?_)
 replace hc := hc.ext hB0
 obtain ⟨K, hK⟩ : ∃ K, K = qs.map Prod.fst := ⟨_, rfl⟩
 have hKl : K.length = qs.length := by rw [hK, List.length_map]
 have hK0 : (K ≠ []) = (0 < qs.length) := by rw [← hKl]; exact propext List.length_pos_iff.symm
 have hb0 : (b ≠ []) = (0 < b.length) := propext List.length_pos_iff.symm
 simp only [← hK, chk, hK0, hb0]
 by_cases hl1 : l = 1
 ·subst hl1
  by_cases hd1 : 64 ≤ d
  ·rw [if_pos ⟨rfl, hd1⟩]
   have c1 : decide ((64 : Int) ≤ (d : Int)) = true := decide_eq_true (by omega)
   repeat' (first | with_reducible refine And.intro (by omega) ?_ | simp (maxSteps := 4000000) (disch := omega) only [go_sem, ↓reduceIte, Try.f62, c1])
   exact ⟨BExt.refl _, (), by simp [closed]⟩
  ·rw [if_neg (by omega)]
   have c1 : decide ((64 : Int) ≤ (d : Int)) = false := decide_eq_false (by omega)
   by_cases hbl0 : 0 < b.length
   ·rw [if_pos (.inr (.inr ⟨rfl, hbl0⟩))]
    have c2 : decide ((0 : Int) < (b.length : Int)) = true := decide_eq_true (by omega)
    repeat' (first | with_reducible refine And.intro (by omega) ?_ | simp (maxSteps := 4000000) (disch := omega) only [go_sem, ↓reduceIte, Try.f62, c1, c2])
    exact ⟨BExt.refl _, (), by simp [closed]⟩
   ·rw [if_neg (by omega)]
    have c2 : decide ((0 : Int) < (b.length : Int)) = false := decide_eq_false (by omega)
    have hb00 : b.length = 0 := by omega
    repeat' (first | with_reducible refine And.intro (by omega) ?_ | simp (maxSteps := 4000000) (disch := omega) only [go_sem, ↓reduceIte, Try.f62, c1, c2])
    have ih' : ∀ q ∈ qs, Does Try.prog 62 [.agg (itE q.1 q.2), .int .i64 ((d + 1 : Nat) : Int)] B0 (fun _ : Unit => .int .i64 (chk q.1 (d + 1))) (fun _ _ => True) := fun q hq => N4 (ih q hq (d + 1) (by omega)) hB0
    have hcast : ((d : Int) + 1) = ((d + 1 : Nat) : Int) := by push_cast; rfl
    refine H2 (S := Nat) (fun i => i ≤ qs.length ∧ ∀ j (hj : j < i) (hj2 : j < K.length), chk K[j] (d + 1) = 0)
     (fun i => ⟨[(5, .int .i64 (i : Nat)), (2, .ptr 0 0), (1, .int .i64 (d : Nat))], 1, [(0, some (.cells [.int .i64 1, .raw (.slice s.bA b.length s.bc), .raw (.slice s.kA qs.length s.kc)] 91 (0, 0)))], B0, []⟩)
     (fun i => qs.length - i) 0 ⟨Nat.zero_le _, fun j hj => absurd hj (Nat.not_lt_zero j)⟩ (Weak.sub (A6 (by simp [wσ, go_sem, closed, A0, A4, ] <;> omega) (by simp [whs, Go.Ew.hget, go_sem, EObj.closed, closed, A0, A4, ]) (by first | (simp [*]; done) | (simp only [cxG]; omega)) rfl rfl (by simp))) ?_
    rintro i ⟨hi, hz⟩
    rcases Nat.lt_or_ge i qs.length with hi2 | hi2
    ·have c3 : decide ((i : Int) < (qs.length : Int)) = true := decide_eq_true (by omega)
     obtain ⟨l1, l2, l3, l4⟩ := Av0 hc hi2
     have hx := ih' _ (List.getElem_mem hi2)
     have hKi : K[i]'(by omega) = qs[i].1 := by simp [hK]
     have hat := Ci5 (ks := K) (d := d + 1) (i := i) (by omega) (fun j hj => hz j hj (by omega))
     rw [hKi] at hat
     obtain ⟨q, hq0⟩ : ∃ q, q = qs[i] := ⟨_, rfl⟩
     rw [← hq0] at l1 hx hat hKi
     obtain ⟨ec, hec⟩ : ∃ ec, ec = chk q.1 (d + 1) := ⟨_, rfl⟩
     rw [← hec] at hx hat
     refine A2 1000 ?_
     by_cases hez : ec = 0
     ·subst hez
      repeat' (first | with_reducible refine And.intro (by first | omega | (constructor <;> assumption) | ((repeat' refine And.intro ?_ ?_) <;> first | omega | assumption | (refine SlOk.so (n := ?_) ?_ ?_; rotate_left; assumption; omega) | (simp; done) | fail)) ?_ | simp (maxSteps := 4000000) (disch := omega) only [go_sem, ↓reduceIte, c3, Int.toNat_natCast, l1, hcast] | refine G8 (hx) (by simp [closed, A0, A3, C6]) (A2 1000 ?_))
      refine ⟨i + 1, ⟨hi2, fun j hj hj2 => ?_⟩, Weak.sub (A6 (by simp [wσ, go_sem, closed, A0, A4, ] <;> omega) (by simp [whs, Go.Ew.hget, go_sem, EObj.closed, closed, A0, A4, ]) (by first | (simp [*]; done) | (simp only [cxG]; omega)) rfl rfl (by simp)), by omega⟩
      rcases Nat.lt_or_ge j i with h3 | h3
      ·exact hz j h3 hj2
      ·obtain rfl : j = i := by omega
       rw [hKi, ← hec]
     ·rw [hat hez]
      have c4 : (ec == 0) = false := by simpa using hez
      repeat' (first | with_reducible refine And.intro (by first | omega | (constructor <;> assumption) | (simp [*]; done)) ?_ | simp (maxSteps := 4000000) (disch := omega) only [go_sem, ↓reduceIte, c3, Int.toNat_natCast, l1, hcast, bne, c4] | refine G8 (hx) (by simp [closed, A0, A3, C6]) (A2 1000 ?_))
      exact ⟨BExt.refl _, (), by simp [closed]⟩
    ·have c3 : decide ((i : Int) < (qs.length : Int)) = false := decide_eq_false (by omega)
     rw [Aq3 (fun k hk2 => by
      obtain ⟨j, hj, rfl⟩ := List.getElem_of_mem hk2
      exact hz j (by omega) hj)]
     refine A2 1000 ?_
     repeat' (first | with_reducible refine And.intro (by omega) ?_ | simp (maxSteps := 4000000) (disch := omega) only [go_sem, ↓reduceIte, c3] | with_reducible refine A2 1000 ?_)
     exact ⟨BExt.refl _, (), by simp [closed]⟩
 ·rw [if_neg (fun h => hl1 h.1)]
  by_cases hl0 : l = 0
  ·subst hl0
   by_cases hq0 : 0 < qs.length
   ·rw [if_pos (.inr (.inl ⟨rfl, hq0⟩))]
    have c2 : decide ((0 : Int) < (qs.length : Int)) = true := decide_eq_true (by omega)
    repeat' (first | with_reducible refine And.intro (by omega) ?_ | simp (maxSteps := 4000000) (disch := omega) only [go_sem, ↓reduceIte, Try.f62, c2])
    exact ⟨BExt.refl _, (), by simp [closed]⟩
   ·rw [if_neg (by omega)]
    have c2 : decide ((0 : Int) < (qs.length : Int)) = false := decide_eq_false (by omega)
    have hK00 : K = [] := List.length_eq_zero_iff.1 (by omega)
    rw [hK00, show Bh3 [] (d + 1) = 0 from rfl]
    repeat' (first | with_reducible refine And.intro (by omega) ?_ | simp (maxSteps := 4000000) (disch := omega) only [go_sem, ↓reduceIte, Try.f62, c2])
    refine Ak4 1 ?_
    repeat' (first | with_reducible refine And.intro (by omega) ?_ | simp (maxSteps := 4000000) (disch := omega) only [go_sem, ↓reduceIte, c2] | with_reducible refine Cv3 (A2 1000 ?_) | with_reducible refine A2 1000 ?_)
    exact ⟨BExt.refl _, (), by simp [closed]⟩
  ·rw [if_pos (.inl ⟨hl0, hl1⟩)]
   have c0 : (l == 0) = false := by simpa using hl0
   have c1 : (l == 1) = false := by simpa using hl1
   by_cases hneg : l < 0
   ·have c2 : decide (l < 0) = true := decide_eq_true hneg
    repeat' (first | with_reducible refine And.intro (by omega) ?_ | simp (maxSteps := 4000000) (disch := omega) only [go_sem, ↓reduceIte, Try.f62, c0, c1, c2])
    exact ⟨BExt.refl _, (), by simp [closed]⟩
   ·have c2 : decide (l < 0) = false := decide_eq_false hneg
    have c3 : decide (1 < l) = true := decide_eq_true (by omega)
    repeat' (first | with_reducible refine And.intro (by omega) ?_ | simp (maxSteps := 4000000) (disch := omega) only [go_sem, ↓reduceIte, Try.f62, c0, c1, c2, c3])
    exact ⟨BExt.refl _, (), by simp [closed]⟩
end Go.Proofs.Ytncjbfkkgdepoaa
namespace Go.Proofs.Ytncjbfkkgdepoaa
open Go RowKit Go.Ew
set_option maxHeartbeats 4000000
theorem Dz3 : D0 Try.f63.ntmps (Try.f63.body.getD .skip) = true := by kernel_rfl
theorem Ea9 : D0 Try.f39.ntmps (Try.f39.body.getD .skip) = true := by kernel_rfl
theorem Ch1 : ∀ t : Itm, 1 ≤ (H6 t).length
 | .mk l b ks => by
  have h := fun base n => Bg0 (base := base) (n := n)
  rw [H6]
  split
  ·rw [List.length_append, h]; split <;> omega
  ·split
   ·omega
   ·rw [List.length_append, h]; split <;> omega
theorem Cp5 {B : Base} {t : Itm} {s : Plc} (h : ItAt B t s) (hok : okI t = true) (hf : (H6 t).length < 35184372088832) :
  Does Try.prog 63 [.agg (itE t s)] B (fun u : Option Addr × Nat => .raw (.slice u.1 (H6 t).length u.2)) (fun u B' => BytesAt B' u.1 (H6 t) ∧ (H6 t).length ≤ u.2) := by
 induction h with
 | mk l b qs s hb hbl hc hql hk ih =>
 have e1 : (Itm.mk l b (qs.map Prod.fst)).list = l := rfl
 have e2 : (Itm.mk l b (qs.map Prod.fst)).bytes = b := rfl
 have e3 : (Itm.mk l b (qs.map Prod.fst)).kids.length = qs.length := List.length_map _
 simp only [itE, e1, e2, e3]
 refine K2 Ee0 (fun s B B' hB hR => ⟨hR.1.ext hB, hR.2⟩) Try.func63 rfl Dz3 (by simp [Try.f63]) (by simp [A0, closed]) (fun B0 hB0 => A2 1000 ?_)
 replace hb := hb.ext hB0
 replace hc := hc.ext hB0
 obtain ⟨K, hK⟩ : ∃ K, K = qs.map Prod.fst := ⟨_, rfl⟩
 have hKl : K.length = qs.length := by rw [hK, List.length_map]
 rw [← hK] at hok hf ⊢
 simp only [okI, Bool.and_eq_true, Bool.or_eq_true, beq_iff_eq, List.isEmpty_iff] at hok
 obtain ⟨hs, hkids⟩ := hok
 rcases hs with ⟨rfl, hks⟩ | ⟨rfl, rfl⟩
 ·subst hks
  have n10 : ((0 : Int) = 1) = False := by simp
  simp only [H6, n10, if_false] at hf ⊢
  by_cases h1 : b.length = 1 ∧ b.getD 0 0 < 128
  ·rw [if_pos h1] at hf ⊢
   have m1 := hb.ld 0 (by omega)
   have m2 := hb.lS 0 (by omega)
   have m3 := hb.lD (by omega)
   have m4 := hb.ok.so (by omega)
   obtain ⟨z, hz⟩ : ∃ z, z = (b.getD 0 0).toNat := ⟨_, rfl⟩
   have hz1 : z < 128 := by rw [hz]; exact UInt8.lt_iff_toNat_lt.1 h1.2
   have m5 : G5 B0 (H7 s.bA 0) = .int .u8 (z : Int) := by rw [m1, bE, hz]
   have c1 : decide ((z : Int) < 128) = true := decide_eq_true (by omega)
   have hl0 := h1.1
   have hlc : (((b.length : Nat) : Int) == 1) = true := by rw [beq_iff_eq]; omega
   repeat' (first | with_reducible refine And.intro (by first | omega | (constructor <;> assumption) | (simp; done) | (simp [*]; done)) ?_ | simp (maxSteps := 4000000) (disch := omega) only [go_sem, ↓reduceIte, Try.f63, m5, c1, hlc])
   refine appB (T := 5) (l := some (0, [])) (xs := []) 1 0 b rfl Try.underlying22 (.inl ⟨_, Try.underlying22⟩) zr5 cz5 by5 rfl rfl rfl ⟨Nat.le_refl _, Nat.zero_le _, rfl, by simp⟩ (hb.src _) (by omega) (fun l1 hl1 => ?_)
   simp only [Nat.zero_add, List.nil_append] at hl1 ⊢
   refine I3 (xs := b) (T := 5) 2 b.length rfl rfl hl1 (by simp) (fun b2 ad2 cap2 B2 hB2 hfz hbY hcap2 => A2 1000 ?_)
   change BExt B0 B2 at hB2
   repeat' (first | with_reducible refine And.intro (by omega) ?_ | simp (maxSteps := 4000000) (disch := omega) only [go_sem, ↓reduceIte, hfz])
   first | exact ⟨hB2, (ad2, cap2), rfl, by simp [closed, A0], ⟨hbY, hcap2⟩⟩ | exact ⟨(ad2, cap2), rfl, by simp [closed, A0], ⟨hbY, hcap2⟩⟩ | exact ⟨hB2, (ad2, cap2), by simp [closed, A0], ⟨hbY, hcap2⟩⟩ | exact ⟨(ad2, cap2), by simp [closed, A0], ⟨hbY, hcap2⟩⟩ | exact ⟨hB2, (ad2, cap2), by simp [closed, A0, E5]⟩ | exact ⟨(ad2, cap2), by simp [closed, A0, E5]⟩
  ·rw [if_neg h1] at hf ⊢
   have hh := Ao9 (base := 128) (n := b.length) (by omega)
   rw [List.length_append] at hf
   have hown := Bd7 128 b.length (by omega) (by omega) B0
   by_cases hl1 : b.length = 1
   ·have m1 := hb.ld 0 (by omega)
    have m2 := hb.lS 0 (by omega)
    have m3 := hb.lD (by omega)
    have m4 := hb.ok.so (by omega)
    obtain ⟨z, hz⟩ : ∃ z, z = (b.getD 0 0).toNat := ⟨_, rfl⟩
    have hz1 : ¬ z < 128 := fun h => h1 ⟨hl1, by rw [hz] at h; exact UInt8.lt_iff_toNat_lt.2 h⟩
    have m5 : G5 B0 (H7 s.bA 0) = .int .u8 (z : Int) := by rw [m1, bE, hz]
    have c1 : decide ((z : Int) < 128) = false := decide_eq_false (by omega)
    have hlc : (((b.length : Nat) : Int) == 1) = true := by rw [beq_iff_eq]; omega
    repeat' (first | with_reducible refine And.intro (by first | omega | (constructor <;> assumption) | (simp [*]; done)) ?_ | simp (maxSteps := 4000000) (disch := omega) only [go_sem, ↓reduceIte, Try.f63, m5, c1, hlc] | with_reducible refine C8 (id := 4) [0, 1, 2, 4, 5, 3, 6, 7] mixed (by kernel_rfl) (by simp) (fun hin => D7 1000 hin ?_))
    refine Bh5 26 hown hz8 rfl (by simp [cxG]) (by kernel_rfl) (F6 (by kernel_rfl) (C4 (by kernel_rfl))) (fun hin3 ll B3 hB3 hR3 hlk3 hx3 => D7 1000 hin3 ?_)
    change BExt B0 B3 at hB3
    have hE26 := L6 (T := 5) hlk3 (A7 0 (hd 128 b.length)) hz8
    obtain ⟨cp, rest, rfl, -⟩ := D8 hlk3 (by omega)
    simp only [A5]
    repeat' (simp (maxSteps := 4000000) (disch := omega) only [go_sem, ↓reduceIte])
    refine W5 (T := 5) (l := some (cp, rest)) (xs := hd 128 b.length) 29 100026 (hd 128 b.length).length b [] rfl rfl Try.underlying22 (.inl ⟨_, Try.underlying22⟩) zr5 cz5 by5 rfl rfl rfl hlk3 (fun B hs hB _ => ((hb.ext hB3).ext hB).src _) (by omega) (by simp [cxG]) (by kernel_rfl) (F6 (by kernel_rfl) ((J4 [100026, 100029] (by kernel_rfl) (by with_unfolding_all (repeat' (first | exact True.intro | exact H1 | exact hE26 | refine And.intro ?_ ?_)))))) (fun l1 hl1 => D7 1000 (by assumption) ?_)
    have hl1' := hl1
    have hE29 := L6 (T := 5) hl1 (A7 0 (hd 128 b.length ++ b)) hz8
    obtain ⟨cp2, rest2, rfl, -⟩ := D8 hl1 (by omega)
    simp only [A5]
    repeat' (simp (maxSteps := 4000000) (disch := omega) only [go_sem, ↓reduceIte])
    refine E1 (by kernel_rfl) ((J4 [100026, 100029] (by kernel_rfl) (by with_unfolding_all (repeat' (first | exact True.intro | exact H1 | exact hE26 | exact hE29 | refine And.intro ?_ ?_))))) ?_
    refine I3 (xs := hd 128 b.length ++ b) (T := 5) (l := some (cp2, rest2)) 100029 ((hd 128 b.length).length + b.length) rfl (by rw [List.length_append]) hl1' (by simp) (fun b2 ad2 cap2 B4 hB4 hfz hbY hcap2 => A2 1000 ?_)
    change BExt B3 B4 at hB4
    simp only [A5, frz, ↓reduceIte, EV.raw.injEq, Value.slice.injEq, true_and] at hfz
    obtain ⟨rfl, rfl⟩ := hfz
    repeat' (simp (maxSteps := 4000000) (disch := omega) only [go_sem, ↓reduceIte])
    rw [List.length_append]
    first | exact ⟨hB3.trans hB4, (some ⟨b2, 0, none⟩, cp2), rfl, by simp [closed, A0], ⟨hbY, hcap2⟩⟩ | exact ⟨(some ⟨b2, 0, none⟩, cp2), rfl, by simp [closed, A0], ⟨hbY, hcap2⟩⟩ | exact ⟨hB3.trans hB4, (some ⟨b2, 0, none⟩, cp2), by simp [closed, A0], ⟨hbY, hcap2⟩⟩ | exact ⟨(some ⟨b2, 0, none⟩, cp2), by simp [closed, A0], ⟨hbY, hcap2⟩⟩ | exact ⟨hB3.trans hB4, (some ⟨b2, 0, none⟩, cp2), by simp [closed, A0, E5]⟩ | exact ⟨(some ⟨b2, 0, none⟩, cp2), by simp [closed, A0, E5]⟩
   ·have hlc : (((b.length : Nat) : Int) == 1) = false := by rw [beq_eq_false_iff_ne]; omega
    repeat' (first | with_reducible refine And.intro (by omega) ?_ | simp (maxSteps := 4000000) (disch := omega) only [go_sem, ↓reduceIte, Try.f63, hlc] | with_reducible refine C8 (id := 4) [0, 1, 2, 4, 5, 3, 6, 7] mixed (by kernel_rfl) (by simp) (fun hin => D7 1000 hin ?_))
    refine Bh5 26 hown hz8 rfl (by simp [cxG]) (by kernel_rfl) (F6 (by kernel_rfl) (C4 (by kernel_rfl))) (fun hin3 ll B3 hB3 hR3 hlk3 hx3 => D7 1000 hin3 ?_)
    change BExt B0 B3 at hB3
    have hE26 := L6 (T := 5) hlk3 (A7 0 (hd 128 b.length)) hz8
    obtain ⟨cp, rest, rfl, -⟩ := D8 hlk3 (by omega)
    simp only [A5]
    repeat' (simp (maxSteps := 4000000) (disch := omega) only [go_sem, ↓reduceIte])
    refine W5 (T := 5) (l := some (cp, rest)) (xs := hd 128 b.length) 29 100026 (hd 128 b.length).length b [] rfl rfl Try.underlying22 (.inl ⟨_, Try.underlying22⟩) zr5 cz5 by5 rfl rfl rfl hlk3 (fun B hs hB _ => ((hb.ext hB3).ext hB).src _) (by omega) (by simp [cxG]) (by kernel_rfl) (F6 (by kernel_rfl) ((J4 [100026, 100029] (by kernel_rfl) (by with_unfolding_all (repeat' (first | exact True.intro | exact H1 | exact hE26 | refine And.intro ?_ ?_)))))) (fun l1 hl1 => D7 1000 (by assumption) ?_)
    have hl1' := hl1
    have hE29 := L6 (T := 5) hl1 (A7 0 (hd 128 b.length ++ b)) hz8
    obtain ⟨cp2, rest2, rfl, -⟩ := D8 hl1 (by omega)
    simp only [A5]
    repeat' (simp (maxSteps := 4000000) (disch := omega) only [go_sem, ↓reduceIte])
    refine E1 (by kernel_rfl) ((J4 [100026, 100029] (by kernel_rfl) (by with_unfolding_all (repeat' (first | exact True.intro | exact H1 | exact hE26 | exact hE29 | refine And.intro ?_ ?_))))) ?_
    refine I3 (xs := hd 128 b.length ++ b) (T := 5) (l := some (cp2, rest2)) 100029 ((hd 128 b.length).length + b.length) rfl (by rw [List.length_append]) hl1' (by simp) (fun b2 ad2 cap2 B4 hB4 hfz hbY hcap2 => A2 1000 ?_)
    change BExt B3 B4 at hB4
    simp only [A5, frz, ↓reduceIte, EV.raw.injEq, Value.slice.injEq, true_and] at hfz
    obtain ⟨rfl, rfl⟩ := hfz
    repeat' (simp (maxSteps := 4000000) (disch := omega) only [go_sem, ↓reduceIte])
    rw [List.length_append]
    first | exact ⟨hB3.trans hB4, (some ⟨b2, 0, none⟩, cp2), rfl, by simp [closed, A0], ⟨hbY, hcap2⟩⟩ | exact ⟨(some ⟨b2, 0, none⟩, cp2), rfl, by simp [closed, A0], ⟨hbY, hcap2⟩⟩ | exact ⟨hB3.trans hB4, (some ⟨b2, 0, none⟩, cp2), by simp [closed, A0], ⟨hbY, hcap2⟩⟩ | exact ⟨(some ⟨b2, 0, none⟩, cp2), by simp [closed, A0], ⟨hbY, hcap2⟩⟩ | exact ⟨hB3.trans hB4, (some ⟨b2, 0, none⟩, cp2), by simp [closed, A0, E5]⟩ | exact ⟨(some ⟨b2, 0, none⟩, cp2), by simp [closed, A0, E5]⟩
 ·simp only [H6, ↓reduceIte, List.length_append, List.length_nil] at hf ⊢
  have hh := Ao9 (base := 192) (n := (E6 K).length) (by omega)
  have hown := fun B => Bd7 192 (E6 K).length (by omega) (by omega) B
  have ih' : ∀ q ∈ qs, Does Try.prog 63 [.agg (itE q.1 q.2)] B0 (fun u : Option Addr × Nat => .raw (.slice u.1 (H6 q.1).length u.2)) (fun u B' => BytesAt B' u.1 (H6 q.1) ∧ (H6 q.1).length ≤ u.2) := fun q hq => by
   have hm : q.1 ∈ K := by rw [hK]; exact List.mem_map_of_mem hq
   exact N4 (ih q hq (okL_iff.1 hkids _ hm) (by have := Ba2 hm; omega)) hB0
  repeat' (first | with_reducible refine And.intro (by omega) ?_ | simp (maxSteps := 4000000) (disch := omega) only [go_sem, ↓reduceIte, Try.f63])
  refine H2 (S := Nat × Lst × Base) (fun u => u.1 ≤ qs.length ∧ lOk [.int .u8 0] (E6 (K.take u.1)).length u.2.1 ∧ BExt B0 u.2.2)
   (fun u => ⟨[(4, .int .i64 (u.1 : Nat)), (3, lE 1 (E6 (K.take u.1)).length u.2.1), (1, .ptr 0 0)], 2,
    [(1, lO 5 ((E6 (K.take u.1)).map bE) u.2.1), (0, some (.cells [.int .i64 1, .raw (.slice s.bA 0 s.bc), .raw (.slice s.kA qs.length s.kc)] 91 (0, 0)))], u.2.2, []⟩)
   (fun u => qs.length - u.1) (0, none, B0) ⟨Nat.zero_le _, rfl, BExt.refl _⟩ (Weak.sub (A6 (by simp [wσ, go_sem, closed, A0, A4, lE, lO, clO, E6, List.take_zero] <;> omega) (by simp [whs, Go.Ew.hget, go_sem, EObj.closed, closed, A0, A4, lE, lO, clO, E6, List.take_zero]) (by first | (simp [*]; done) | (simp only [cxG]; omega)) rfl rfl (by simp))) ?_
  rintro ⟨i, l, B2⟩ ⟨hi, hl, hB2⟩
  simp only at hi hl hB2 ⊢
  rcases Nat.lt_or_ge i qs.length with hi2 | hi2
  ·have c3 : decide ((i : Int) < (qs.length : Int)) = true := decide_eq_true (by omega)
   obtain ⟨l1, l2, l3, l4⟩ := Av0 (hc.ext hB2) hi2
   have hx := N4 (ih' _ (List.getElem_mem hi2)) hB2
   have hKi : K[i]'(by omega) = qs[i].1 := by simp [hK]
   have htk := V8 (ks := K) (i := i) (by omega)
   have hle := Ab6 (ks := K) (i + 1)
   rw [hKi] at htk
   obtain ⟨q, hq0⟩ : ∃ q, q = qs[i] := ⟨_, rfl⟩
   rw [← hq0] at l1 hx htk
   have hlen : (E6 (K.take (i + 1))).length = (E6 (K.take i)).length + (H6 q.1).length := by rw [htk, List.length_append]
   have hpos := Ch1 q.1
   refine A2 1000 ?_
   repeat' (first | with_reducible refine And.intro (by first | omega | (constructor <;> assumption) | (simp [*]; done)) ?_ | simp (maxSteps := 4000000) (disch := omega) only [go_sem, ↓reduceIte, c3, Int.toNat_natCast, l1])
   refine F8 hx (fun _ => by simp [closed]) (fun u B3 hB3 hR3 => A2 1000 ?_)
   change BExt B2 B3 at hB3
   repeat' (simp (maxSteps := 4000000) (disch := omega) only [go_sem, ↓reduceIte])
   refine appB (T := 5) (l := l) (xs := E6 (K.take i)) 1 (E6 (K.take i)).length (H6 q.1) rfl Try.underlying22 (.inl ⟨_, Try.underlying22⟩) zr5 cz5 by5 rfl rfl rfl hl (hR3.1.src _) (by omega) (fun l5 hl5 => ?_)
   rw [← hlen] at hl5 ⊢
   rw [← htk]
   have hl5' := hl5
   obtain ⟨cp, rest, rfl, -⟩ := D8 hl5 (by omega)
   simp only [A5]
   refine A2 1000 ?_
   repeat' (simp (maxSteps := 4000000) (disch := omega) only [go_sem, ↓reduceIte])
   have cl2 : ∀ n, clO n (lO 5 ((E6 (K.take (i + 1))).map bE) (some (cp, rest))) = True := fun n => G1 hl5' (A7 0 _) hz8
   refine ⟨(i + 1, some (cp, rest), B3), ⟨hi2, hl5', hB2.trans hB3⟩, (M8 [2] 1 (by simp) (by simp) (by simp) (by simp)).trans ?_, by simp only; omega⟩
   simp only [go_sem, okC, okE, P3, E9, F5 (ks := [2]) (k := 1) hl5' (A7 0 _) hz8, E4, A5]
   exact Weak.sub (A6 (by simp [wσ, go_sem, closed, A0, A4, cl2, A5] <;> omega) (by simp [whs, Go.Ew.hget, go_sem, EObj.closed, closed, A0, A4, cl2, A5]) (by first | (simp [*]; done) | (simp only [cxG]; omega)) rfl rfl (by simp))
  ·obtain rfl : i = qs.length := by omega
   have c3 : decide ((qs.length : Int) < (qs.length : Int)) = false := decide_eq_false (by omega)
   have hKt : K.take qs.length = K := List.take_of_length_le (by omega)
   rw [hKt] at hl ⊢
   refine I3 (xs := E6 K) (T := 5) 1 (E6 K).length rfl rfl hl (by simp) (fun b2 ad2 cap2 B4 hB4 hfz hbY hcap2 => A2 1000 ?_)
   change BExt B2 B4 at hB4
   repeat' (first | with_reducible refine And.intro (by omega) ?_ | simp (maxSteps := 4000000) (disch := omega) only [go_sem, ↓reduceIte, c3, hfz] | with_reducible refine A2 1000 ?_)
   refine Cj0 (hown B4) hz8 (fun l6 B6 hB6 _ hl6 _ => A2 1000 ?_)
   change BExt B4 B6 at hB6
   have hl6' := hl6
   obtain ⟨cp, rest, rfl, -⟩ := D8 hl6 (by omega)
   repeat' (simp (maxSteps := 4000000) (disch := omega) only [go_sem, ↓reduceIte, A5])
   refine appB (T := 5) (l := some (cp, rest)) (xs := hd 192 (E6 K).length) 2 (hd 192 (E6 K).length).length (E6 K) rfl Try.underlying22 (.inl ⟨_, Try.underlying22⟩) zr5 cz5 by5 rfl rfl rfl hl6' ((hbY.ext hB6).src _) (by omega) (fun l7 hl7 => ?_)
   refine I3 (xs := hd 192 (E6 K).length ++ E6 K) (T := 5) 3 ((hd 192 (E6 K).length).length + (E6 K).length) rfl (by rw [List.length_append]) hl7 (by simp) (fun b3 ad3 cap3 B7 hB7 hfz hbY hcap3 => A2 1000 ?_)
   change BExt B6 B7 at hB7
   repeat' (simp (maxSteps := 4000000) (disch := omega) only [go_sem, ↓reduceIte, hfz])
   first | exact ⟨hB2.trans (hB4.trans (hB6.trans hB7)), (ad3, cap3), rfl, by simp [closed, A0], ⟨hbY, hcap3⟩⟩ | exact ⟨(ad3, cap3), rfl, by simp [closed, A0], ⟨hbY, hcap3⟩⟩ | exact ⟨hB2.trans (hB4.trans (hB6.trans hB7)), (ad3, cap3), by simp [closed, A0], ⟨hbY, hcap3⟩⟩ | exact ⟨(ad3, cap3), by simp [closed, A0], ⟨hbY, hcap3⟩⟩ | exact ⟨hB2.trans (hB4.trans (hB6.trans hB7)), (ad3, cap3), by simp [closed, A0, E5]⟩ | exact ⟨(ad3, cap3), by simp [closed, A0, E5]⟩
theorem Cc2 {B : Base} {t : Itm} {s : Plc} (h : ItAt B t s) (hok : chk t 0 = 0) (hf : (H6 t).length < 35184372088832) :
  Does Try.prog 39 [.agg (itE t s)] B (fun s : Option Addr × Nat => .tup [.raw (.slice s.1 (H6 t).length s.2), .int .i64 0]) (fun s B' => BytesAt B' s.1 (H6 t) ∧ (H6 t).length ≤ s.2) := by
 refine K2 Ef4 (fun s B B' hB hR => ⟨hR.1.ext hB, hR.2⟩) Try.func39 rfl Ea9 (by simp [Try.f39]) (by simp [A0, closed]) (fun B0 hB0 => A2 1000 ?_)
 replace h := h.ext hB0
 have h1 := Cc5 h 0 (by omega)
 rw [hok] at h1
 repeat' (first | simp (maxSteps := 4000000) (disch := omega) only [go_sem, ↓reduceIte, Try.f39] | refine G8 (h1) (by simp [closed, A0, A3, C6]) (A2 1000 ?_))
 refine F8 (Cp5 h (Ci2 t 0 hok) hf) (fun _ => by simp [closed]) (fun u B1 hB1 hR1 => A2 1000 ?_)
 change BExt B0 B1 at hB1
 repeat' (first | with_reducible refine And.intro (by omega) ?_ | simp (maxSteps := 4000000) (disch := omega) only [go_sem, ↓reduceIte])
 first | exact ⟨hB1, u, rfl, by simp [closed, A0], hR1⟩ | exact ⟨u, rfl, by simp [closed, A0], hR1⟩ | exact ⟨hB1, u, by simp [closed, A0], hR1⟩ | exact ⟨u, by simp [closed, A0], hR1⟩ | exact ⟨hB1, u, by simp [closed, A0, E5]⟩ | exact ⟨u, by simp [closed, A0, E5]⟩
end Go.Proofs.Ytncjbfkkgdepoaa
