/- Part of a proof over the seat YtepabkjfnpaijaaGreat. -/
import Derived.Test.YtepabkjfnpaijaaGreatG12
import Derived.Test.YtepabkjfnpaijaaGreatG10
import Derived.Test.YtepabkjfnpaijaaGreatEng2
set_option linter.unusedSimpArgs false
set_option linter.unusedVariables false
set_option maxRecDepth 100000
namespace Go.Proofs.YtepabkjfnpaijaaGreat
open Go RowKit Go.Ew
set_option maxHeartbeats 4000000
theorem Ei9 : D5 Tryz.f48.ntmps (Tryz.f48.body.getD .skip) = true := by kernel_rfl
theorem Ek7 : D5 Tryz.f29.ntmps (Tryz.f29.body.getD .skip) = true := by kernel_rfl
theorem Cm7 : ∀ t : Itm, 1 ≤ (H5 t).length
 | .mk l b ks => by
  have h := fun base n => Bk0 (base := base) (n := n)
  rw [H5]
  split
  ·rw [List.length_append, h]; split <;> omega
  ·split
   ·omega
   ·rw [List.length_append, h]; split <;> omega
theorem Cw7 {B : Base} {t : Itm} {s : Plc} (h : ItAt B t s) (hok : okI t = true) (hf : (H5 t).length < 35184372088832) :
  Does Tryz.prog 48 [.agg (itE t s)] B (fun u : Option Addr × Nat => .raw (.slice u.1 (H5 t).length u.2)) (fun u B' => BytesAt B' u.1 (H5 t) ∧ (H5 t).length ≤ u.2) := by
 induction h with
 | mk l b qs s hb hbl hc hql hk ih =>
 have e1 : (Itm.mk l b (qs.map Prod.fst)).list = l := rfl
 have e2 : (Itm.mk l b (qs.map Prod.fst)).bytes = b := rfl
 have e3 : (Itm.mk l b (qs.map Prod.fst)).kids.length = qs.length := List.length_map _
 simp only [itE, e1, e2, e3]
 refine I7 Ep8 (fun s B B' hB hR => ⟨hR.1.ext hB, hR.2⟩) Tryz.func48 rfl Ei9 (by simp [Tryz.f48]) (by simp [A0, closed]) (fun B0 hB0 => A3 1000 ?_)
 replace hb := hb.ext hB0
 replace hc := hc.ext hB0
 obtain ⟨K, hK⟩ : ∃ K, K = qs.map Prod.fst := ⟨_, rfl⟩
 have hKl : K.length = qs.length := by rw [hK, List.length_map]
 rw [← hK] at hok hf ⊢
 simp only [okI, Bool.and_eq_true, Bool.or_eq_true, beq_iff_eq, List.isEmpty_iff] at hok
 obtain ⟨hs, hkids⟩ := hok
 rcases hs with ⟨rfl, hks⟩ | ⟨rfl, rfl⟩
 ·subst hks
  have n10 : ((0 : Int) = 1) = False := by simp
  simp only [H5, n10, if_false] at hf ⊢
  by_cases h1 : b.length = 1 ∧ b.getD 0 0 < 128
  ·rw [if_pos h1] at hf ⊢
   have m1 := hb.ld 0 (by omega)
   have m2 := hb.lS 0 (by omega)
   have m3 := hb.lD (by omega)
   have m4 := hb.ok.so (by omega)
   obtain ⟨z, hz⟩ : ∃ z, z = (b.getD 0 0).toNat := ⟨_, rfl⟩
   have hz1 : z < 128 := by rw [hz]; exact UInt8.lt_iff_toNat_lt.1 h1.2
   have m5 : H2 B0 (G9 s.bA 0) = .int .u8 (z : Int) := by rw [m1, bE, hz]
   have c1 : decide ((z : Int) < 128) = true := decide_eq_true (by omega)
   have hl0 := h1.1
   have hlc : (((b.length : Nat) : Int) == 1) = true := by rw [beq_iff_eq]; omega
   repeat' (first | with_reducible refine And.intro (by first | omega | (constructor <;> assumption) | (simp; done) | (simp [*]; done)) ?_ | simp (maxSteps := 4000000) (disch := omega) only [go_sem, ↓reduceIte, Tryz.f48, m5, c1, hlc])
   refine appB (T := 5) (l := some (0, [])) (xs := []) 1 0 b rfl Tryz.underlying39 (.inl ⟨_, Tryz.underlying39⟩) zr5 cz5 by5 rfl rfl rfl ⟨Nat.le_refl _, Nat.zero_le _, rfl, by simp⟩ (hb.src _) (by omega) (fun l1 hl1 => ?_)
   simp only [Nat.zero_add, List.nil_append] at hl1 ⊢
   refine J0 (xs := b) (T := 5) 2 b.length rfl rfl hl1 (by simp) (fun b2 ad2 cap2 B2 hB2 hfz hbY hcap2 => A3 1000 ?_)
   change BExt B0 B2 at hB2
   repeat' (first | with_reducible refine And.intro (by omega) ?_ | simp (maxSteps := 4000000) (disch := omega) only [go_sem, ↓reduceIte, hfz])
   first | exact ⟨hB2, (ad2, cap2), rfl, by simp [closed, A0], ⟨hbY, hcap2⟩⟩ | exact ⟨(ad2, cap2), rfl, by simp [closed, A0], ⟨hbY, hcap2⟩⟩ | exact ⟨hB2, (ad2, cap2), by simp [closed, A0], ⟨hbY, hcap2⟩⟩ | exact ⟨(ad2, cap2), by simp [closed, A0], ⟨hbY, hcap2⟩⟩ | exact ⟨hB2, (ad2, cap2), by simp [closed, A0, E2]⟩ | exact ⟨(ad2, cap2), by simp [closed, A0, E2]⟩
  ·rw [if_neg h1] at hf ⊢
   have hh := Ap0 (base := 128) (n := b.length) (by omega)
   rw [List.length_append] at hf
   have hown := Bh5 128 b.length (by omega) (by omega) B0
   by_cases hl1 : b.length = 1
   ·have m1 := hb.ld 0 (by omega)
    have m2 := hb.lS 0 (by omega)
    have m3 := hb.lD (by omega)
    have m4 := hb.ok.so (by omega)
    obtain ⟨z, hz⟩ : ∃ z, z = (b.getD 0 0).toNat := ⟨_, rfl⟩
    have hz1 : ¬ z < 128 := fun h => h1 ⟨hl1, by rw [hz] at h; exact UInt8.lt_iff_toNat_lt.2 h⟩
    have m5 : H2 B0 (G9 s.bA 0) = .int .u8 (z : Int) := by rw [m1, bE, hz]
    have c1 : decide ((z : Int) < 128) = false := decide_eq_false (by omega)
    have hlc : (((b.length : Nat) : Int) == 1) = true := by rw [beq_iff_eq]; omega
    repeat' (first | with_reducible refine And.intro (by first | omega | (constructor <;> assumption) | (simp [*]; done)) ?_ | simp (maxSteps := 4000000) (disch := omega) only [go_sem, ↓reduceIte, Tryz.f48, m5, c1, hlc] | with_reducible refine C9 (id := 4) [0, 1, 2, 4, 5, 3, 6, 7] mixed (by kernel_rfl) (by simp) (fun hin => C8 1000 hin ?_))
    refine Bl4 26 hown hz8 rfl (by simp [cxG]) (by kernel_rfl) (F1 (by kernel_rfl) (C1 (by kernel_rfl))) (fun hin3 ll B3 hB3 hR3 hlk3 hx3 => C8 1000 hin3 ?_)
    change BExt B0 B3 at hB3
    have hE26 := M0 (T := 5) hlk3 (A9 0 (hd 128 b.length)) hz8
    obtain ⟨cp, rest, rfl, -⟩ := D8 hlk3 (by omega)
    simp only [A6]
    repeat' (simp (maxSteps := 4000000) (disch := omega) only [go_sem, ↓reduceIte])
    refine Y9 (T := 5) (l := some (cp, rest)) (xs := hd 128 b.length) 29 100026 (hd 128 b.length).length b [] rfl rfl Tryz.underlying39 (.inl ⟨_, Tryz.underlying39⟩) zr5 cz5 by5 rfl rfl rfl hlk3 (fun B hs hB _ => ((hb.ext hB3).ext hB).src _) (by omega) (by simp [cxG]) (by kernel_rfl) (F1 (by kernel_rfl) ((J9 [100026, 100029] (by kernel_rfl) (by with_unfolding_all (repeat' (first | exact True.intro | exact I0 | exact hE26 | refine And.intro ?_ ?_)))))) (fun l1 hl1 => C8 1000 (by assumption) ?_)
    have hl1' := hl1
    have hE29 := M0 (T := 5) hl1 (A9 0 (hd 128 b.length ++ b)) hz8
    obtain ⟨cp2, rest2, rfl, -⟩ := D8 hl1 (by omega)
    simp only [A6]
    repeat' (simp (maxSteps := 4000000) (disch := omega) only [go_sem, ↓reduceIte])
    refine D7 (by kernel_rfl) ((J9 [100026, 100029] (by kernel_rfl) (by with_unfolding_all (repeat' (first | exact True.intro | exact I0 | exact hE26 | exact hE29 | refine And.intro ?_ ?_))))) ?_
    refine J0 (xs := hd 128 b.length ++ b) (T := 5) (l := some (cp2, rest2)) 100029 ((hd 128 b.length).length + b.length) rfl (by rw [List.length_append]) hl1' (by simp) (fun b2 ad2 cap2 B4 hB4 hfz hbY hcap2 => A3 1000 ?_)
    change BExt B3 B4 at hB4
    simp only [A6, frz, ↓reduceIte, EV.raw.injEq, Value.slice.injEq, true_and] at hfz
    obtain ⟨rfl, rfl⟩ := hfz
    repeat' (simp (maxSteps := 4000000) (disch := omega) only [go_sem, ↓reduceIte])
    rw [List.length_append]
    first | exact ⟨hB3.trans hB4, (some ⟨b2, 0, none⟩, cp2), rfl, by simp [closed, A0], ⟨hbY, hcap2⟩⟩ | exact ⟨(some ⟨b2, 0, none⟩, cp2), rfl, by simp [closed, A0], ⟨hbY, hcap2⟩⟩ | exact ⟨hB3.trans hB4, (some ⟨b2, 0, none⟩, cp2), by simp [closed, A0], ⟨hbY, hcap2⟩⟩ | exact ⟨(some ⟨b2, 0, none⟩, cp2), by simp [closed, A0], ⟨hbY, hcap2⟩⟩ | exact ⟨hB3.trans hB4, (some ⟨b2, 0, none⟩, cp2), by simp [closed, A0, E2]⟩ | exact ⟨(some ⟨b2, 0, none⟩, cp2), by simp [closed, A0, E2]⟩
   ·have hlc : (((b.length : Nat) : Int) == 1) = false := by rw [beq_eq_false_iff_ne]; omega
    repeat' (first | with_reducible refine And.intro (by omega) ?_ | simp (maxSteps := 4000000) (disch := omega) only [go_sem, ↓reduceIte, Tryz.f48, hlc] | with_reducible refine C9 (id := 4) [0, 1, 2, 4, 5, 3, 6, 7] mixed (by kernel_rfl) (by simp) (fun hin => C8 1000 hin ?_))
    refine Bl4 26 hown hz8 rfl (by simp [cxG]) (by kernel_rfl) (F1 (by kernel_rfl) (C1 (by kernel_rfl))) (fun hin3 ll B3 hB3 hR3 hlk3 hx3 => C8 1000 hin3 ?_)
    change BExt B0 B3 at hB3
    have hE26 := M0 (T := 5) hlk3 (A9 0 (hd 128 b.length)) hz8
    obtain ⟨cp, rest, rfl, -⟩ := D8 hlk3 (by omega)
    simp only [A6]
    repeat' (simp (maxSteps := 4000000) (disch := omega) only [go_sem, ↓reduceIte])
    refine Y9 (T := 5) (l := some (cp, rest)) (xs := hd 128 b.length) 29 100026 (hd 128 b.length).length b [] rfl rfl Tryz.underlying39 (.inl ⟨_, Tryz.underlying39⟩) zr5 cz5 by5 rfl rfl rfl hlk3 (fun B hs hB _ => ((hb.ext hB3).ext hB).src _) (by omega) (by simp [cxG]) (by kernel_rfl) (F1 (by kernel_rfl) ((J9 [100026, 100029] (by kernel_rfl) (by with_unfolding_all (repeat' (first | exact True.intro | exact I0 | exact hE26 | refine And.intro ?_ ?_)))))) (fun l1 hl1 => C8 1000 (by assumption) ?_)
    have hl1' := hl1
    have hE29 := M0 (T := 5) hl1 (A9 0 (hd 128 b.length ++ b)) hz8
    obtain ⟨cp2, rest2, rfl, -⟩ := D8 hl1 (by omega)
    simp only [A6]
    repeat' (simp (maxSteps := 4000000) (disch := omega) only [go_sem, ↓reduceIte])
    refine D7 (by kernel_rfl) ((J9 [100026, 100029] (by kernel_rfl) (by with_unfolding_all (repeat' (first | exact True.intro | exact I0 | exact hE26 | exact hE29 | refine And.intro ?_ ?_))))) ?_
    refine J0 (xs := hd 128 b.length ++ b) (T := 5) (l := some (cp2, rest2)) 100029 ((hd 128 b.length).length + b.length) rfl (by rw [List.length_append]) hl1' (by simp) (fun b2 ad2 cap2 B4 hB4 hfz hbY hcap2 => A3 1000 ?_)
    change BExt B3 B4 at hB4
    simp only [A6, frz, ↓reduceIte, EV.raw.injEq, Value.slice.injEq, true_and] at hfz
    obtain ⟨rfl, rfl⟩ := hfz
    repeat' (simp (maxSteps := 4000000) (disch := omega) only [go_sem, ↓reduceIte])
    rw [List.length_append]
    first | exact ⟨hB3.trans hB4, (some ⟨b2, 0, none⟩, cp2), rfl, by simp [closed, A0], ⟨hbY, hcap2⟩⟩ | exact ⟨(some ⟨b2, 0, none⟩, cp2), rfl, by simp [closed, A0], ⟨hbY, hcap2⟩⟩ | exact ⟨hB3.trans hB4, (some ⟨b2, 0, none⟩, cp2), by simp [closed, A0], ⟨hbY, hcap2⟩⟩ | exact ⟨(some ⟨b2, 0, none⟩, cp2), by simp [closed, A0], ⟨hbY, hcap2⟩⟩ | exact ⟨hB3.trans hB4, (some ⟨b2, 0, none⟩, cp2), by simp [closed, A0, E2]⟩ | exact ⟨(some ⟨b2, 0, none⟩, cp2), by simp [closed, A0, E2]⟩
 ·simp only [H5, ↓reduceIte, List.length_append, List.length_nil] at hf ⊢
  have hh := Ap0 (base := 192) (n := (E7 K).length) (by omega)
  have hown := fun B => Bh5 192 (E7 K).length (by omega) (by omega) B
  have ih' : ∀ q ∈ qs, Does Tryz.prog 48 [.agg (itE q.1 q.2)] B0 (fun u : Option Addr × Nat => .raw (.slice u.1 (H5 q.1).length u.2)) (fun u B' => BytesAt B' u.1 (H5 q.1) ∧ (H5 q.1).length ≤ u.2) := fun q hq => by
   have hm : q.1 ∈ K := by rw [hK]; exact List.mem_map_of_mem hq
   exact O4 (ih q hq (okL_iff.1 hkids _ hm) (by have := Bd5 hm; omega)) hB0
  repeat' (first | with_reducible refine And.intro (by omega) ?_ | simp (maxSteps := 4000000) (disch := omega) only [go_sem, ↓reduceIte, Tryz.f48])
  refine G8 (S := Nat × Lst × Base) (fun u => u.1 ≤ qs.length ∧ lOk [.int .u8 0] (E7 (K.take u.1)).length u.2.1 ∧ BExt B0 u.2.2)
   (fun u => ⟨[(4, .int .i64 (u.1 : Nat)), (3, lE 1 (E7 (K.take u.1)).length u.2.1), (1, .ptr 0 0)], 2,
    [(1, lO 5 ((E7 (K.take u.1)).map bE) u.2.1), (0, some (.cells [.int .i64 1, .raw (.slice s.bA 0 s.bc), .raw (.slice s.kA qs.length s.kc)] 55 (0, 0)))], u.2.2, []⟩)
   (fun u => qs.length - u.1) (0, none, B0) ⟨Nat.zero_le _, rfl, BExt.refl _⟩ (Weak.sub (A5 (by simp [wσ, go_sem, closed, A0, A4, lE, lO, clO, E7, List.take_zero] <;> omega) (by simp [whs, Go.Ew.hget, go_sem, EObj.closed, closed, A0, A4, lE, lO, clO, E7, List.take_zero]) (by simp [*]) rfl rfl (by simp))) ?_
  rintro ⟨i, l, B2⟩ ⟨hi, hl, hB2⟩
  simp only at hi hl hB2 ⊢
  rcases Nat.lt_or_ge i qs.length with hi2 | hi2
  ·have c3 : decide ((i : Int) < (qs.length : Int)) = true := decide_eq_true (by omega)
   obtain ⟨l1, l2, l3, l4⟩ := Az0 (hc.ext hB2) hi2
   have hx := O4 (ih' _ (List.getElem_mem hi2)) hB2
   have hKi : K[i]'(by omega) = qs[i].1 := by simp [hK]
   have htk := X8 (ks := K) (i := i) (by omega)
   have hle := Ae0 (ks := K) (i + 1)
   rw [hKi] at htk
   obtain ⟨q, hq0⟩ : ∃ q, q = qs[i] := ⟨_, rfl⟩
   rw [← hq0] at l1 hx htk
   have hlen : (E7 (K.take (i + 1))).length = (E7 (K.take i)).length + (H5 q.1).length := by rw [htk, List.length_append]
   have hpos := Cm7 q.1
   refine A3 1000 ?_
   repeat' (first | with_reducible refine And.intro (by first | omega | (constructor <;> assumption) | (simp [*]; done)) ?_ | simp (maxSteps := 4000000) (disch := omega) only [go_sem, ↓reduceIte, c3, Int.toNat_natCast, l1])
   refine F9 hx (fun _ => by simp [closed]) (fun u B3 hB3 hR3 => A3 1000 ?_)
   change BExt B2 B3 at hB3
   repeat' (simp (maxSteps := 4000000) (disch := omega) only [go_sem, ↓reduceIte])
   refine appB (T := 5) (l := l) (xs := E7 (K.take i)) 1 (E7 (K.take i)).length (H5 q.1) rfl Tryz.underlying39 (.inl ⟨_, Tryz.underlying39⟩) zr5 cz5 by5 rfl rfl rfl hl (hR3.1.src _) (by omega) (fun l5 hl5 => ?_)
   rw [← hlen] at hl5 ⊢
   rw [← htk]
   have hl5' := hl5
   obtain ⟨cp, rest, rfl, -⟩ := D8 hl5 (by omega)
   simp only [A6]
   refine A3 1000 ?_
   repeat' (simp (maxSteps := 4000000) (disch := omega) only [go_sem, ↓reduceIte])
   have cl2 : ∀ n, clO n (lO 5 ((E7 (K.take (i + 1))).map bE) (some (cp, rest))) = True := fun n => G0 hl5' (A9 0 _) hz8
   refine ⟨(i + 1, some (cp, rest), B3), ⟨hi2, hl5', hB2.trans hB3⟩, (M7 [2] 1 (by simp) (by simp) (by simp) (by simp)).trans ?_, by simp only; omega⟩
   simp only [go_sem, okC, okE, O8, E6, F4 (ks := [2]) (k := 1) hl5' (A9 0 _) hz8, E1, A6]
   exact Weak.sub (A5 (by simp [wσ, go_sem, closed, A0, A4, cl2, A6] <;> omega) (by simp [whs, Go.Ew.hget, go_sem, EObj.closed, closed, A0, A4, cl2, A6]) (by simp [*]) rfl rfl (by simp))
  ·obtain rfl : i = qs.length := by omega
   have c3 : decide ((qs.length : Int) < (qs.length : Int)) = false := decide_eq_false (by omega)
   have hKt : K.take qs.length = K := List.take_of_length_le (by omega)
   rw [hKt] at hl ⊢
   refine J0 (xs := E7 K) (T := 5) 1 (E7 K).length rfl rfl hl (by simp) (fun b2 ad2 cap2 B4 hB4 hfz hbY hcap2 => A3 1000 ?_)
   change BExt B2 B4 at hB4
   repeat' (first | with_reducible refine And.intro (by omega) ?_ | simp (maxSteps := 4000000) (disch := omega) only [go_sem, ↓reduceIte, c3, hfz] | with_reducible refine A3 1000 ?_)
   refine Cp0 (hown B4) hz8 (fun l6 B6 hB6 _ hl6 _ => A3 1000 ?_)
   change BExt B4 B6 at hB6
   have hl6' := hl6
   obtain ⟨cp, rest, rfl, -⟩ := D8 hl6 (by omega)
   repeat' (simp (maxSteps := 4000000) (disch := omega) only [go_sem, ↓reduceIte, A6])
   refine appB (T := 5) (l := some (cp, rest)) (xs := hd 192 (E7 K).length) 2 (hd 192 (E7 K).length).length (E7 K) rfl Tryz.underlying39 (.inl ⟨_, Tryz.underlying39⟩) zr5 cz5 by5 rfl rfl rfl hl6' ((hbY.ext hB6).src _) (by omega) (fun l7 hl7 => ?_)
   refine J0 (xs := hd 192 (E7 K).length ++ E7 K) (T := 5) 3 ((hd 192 (E7 K).length).length + (E7 K).length) rfl (by rw [List.length_append]) hl7 (by simp) (fun b3 ad3 cap3 B7 hB7 hfz hbY hcap3 => A3 1000 ?_)
   change BExt B6 B7 at hB7
   repeat' (simp (maxSteps := 4000000) (disch := omega) only [go_sem, ↓reduceIte, hfz])
   first | exact ⟨hB2.trans (hB4.trans (hB6.trans hB7)), (ad3, cap3), rfl, by simp [closed, A0], ⟨hbY, hcap3⟩⟩ | exact ⟨(ad3, cap3), rfl, by simp [closed, A0], ⟨hbY, hcap3⟩⟩ | exact ⟨hB2.trans (hB4.trans (hB6.trans hB7)), (ad3, cap3), by simp [closed, A0], ⟨hbY, hcap3⟩⟩ | exact ⟨(ad3, cap3), by simp [closed, A0], ⟨hbY, hcap3⟩⟩ | exact ⟨hB2.trans (hB4.trans (hB6.trans hB7)), (ad3, cap3), by simp [closed, A0, E2]⟩ | exact ⟨(ad3, cap3), by simp [closed, A0, E2]⟩
theorem Bb9 {B : Base} {t : Itm} {s : Plc} (h : ItAt B t s) (hok : chk t 0 = 0) (hf : (H5 t).length < 35184372088832) :
  Does Tryz.prog 29 [.agg (itE t s)] B (fun s : Option Addr × Nat => .tup [.raw (.slice s.1 (H5 t).length s.2), .int .i64 0]) (fun s B' => BytesAt B' s.1 (H5 t) ∧ (H5 t).length ≤ s.2) := by
 refine I7 Er5 (fun s B B' hB hR => ⟨hR.1.ext hB, hR.2⟩) Tryz.func29 rfl Ek7 (by simp [Tryz.f29]) (by simp [A0, closed]) (fun B0 hB0 => A3 1000 ?_)
 replace h := h.ext hB0
 have h1 := Ch4 h 0 (by omega)
 rw [hok] at h1
 repeat' (first | simp (maxSteps := 4000000) (disch := omega) only [go_sem, ↓reduceIte, Tryz.f29] | refine F5 (h1) (by simp [closed, A0, A2, C6]) (A3 1000 ?_))
 refine F9 (Cw7 h (Co3 t 0 hok) hf) (fun _ => by simp [closed]) (fun u B1 hB1 hR1 => A3 1000 ?_)
 change BExt B0 B1 at hB1
 repeat' (first | with_reducible refine And.intro (by omega) ?_ | simp (maxSteps := 4000000) (disch := omega) only [go_sem, ↓reduceIte])
 first | exact ⟨hB1, u, rfl, by simp [closed, A0], hR1⟩ | exact ⟨u, rfl, by simp [closed, A0], hR1⟩ | exact ⟨hB1, u, by simp [closed, A0], hR1⟩ | exact ⟨u, by simp [closed, A0], hR1⟩ | exact ⟨hB1, u, by simp [closed, A0, E2]⟩ | exact ⟨u, by simp [closed, A0, E2]⟩
end Go.Proofs.YtepabkjfnpaijaaGreat
