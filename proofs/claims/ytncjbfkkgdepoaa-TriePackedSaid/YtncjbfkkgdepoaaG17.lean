/- Part of a proof over the seat Ytncjbfkkgdepoaa. -/
import Derived.Test.YtncjbfkkgdepoaaG16
set_option linter.unusedSimpArgs false
set_option linter.unusedVariables false
set_option maxRecDepth 100000
namespace Go.Proofs.Ytncjbfkkgdepoaa
open Go RowKit Go.Ew
set_option maxHeartbeats 16000000
theorem Ai8 (b : List UInt8) (n : Nat) (B : Base) (ad : Option Addr) (cap : Nat) (hb : BytesAt B ad b) (hn : b.length = n) (hc : n ≤ 70368744177664) :
  Does Try.prog 11 [.raw (.slice ad n cap)] B (fun s : Option Addr × Nat => .raw (.slice s.1 (G7 b).length s.2)) (fun s B' => BytesAt B' s.1 (G7 b) ∧ (G7 b).length ≤ s.2) := by
 subst hn
 refine J9 Cz7 (fun s B B' hB hR => ⟨hR.1.ext hB, hR.2⟩) Try.func11 rfl Dc8 (by simp [Try.f11]) (by simp [A0, closed]) (fun B0 hB0 => A3 1000 ?_)
 replace hb := hb.ext hB0
 have eN : ∀ r n, lE r n none = .raw (.slice none 0 0) := fun _ _ => rfl
 have oN : ∀ T xs, lO T xs none = none := fun _ _ => rfl
 have cn : ∀ n, clO n (none : Option EObj) = True := fun n => by simp [clO]
 repeat' (simp (maxSteps := 4000000) (disch := omega) only [go_sem, ↓reduceIte, Try.f11])
 refine G1 (S := Nat × Lst) (fun s => s.1 ≤ b.length ∧ lOk [.int .u8 0] (G7 (b.take s.1)).length s.2)
  (fun s => ⟨[(8, .int .i64 (s.1 : Nat)), (7, .int .i64 (b.length : Nat)), (6, .raw (.slice ad b.length cap)), (3, lE 0 (G7 (b.take s.1)).length s.2)], 1, [(0, lO 5 ((G7 (b.take s.1)).map bE) s.2)], B0, []⟩)
  (fun s => b.length - s.1) (0, none) ⟨Nat.zero_le _, rfl⟩ (Weak.sub (A5 (by simp [wσ, go_sem, closed, A0, A4, eN, oN, cn, List.take_zero, G7] <;> omega) (by simp [whs, Go.Ew.hget, go_sem, EObj.closed, closed, A0, A4, eN, oN, cn, List.take_zero, G7]) (by first | (simp [*]; done) | (simp only [cxG]; omega)) rfl rfl (by simp))) ?_
 rintro ⟨i, l⟩ ⟨hi, hl⟩
 simp only at hi hl ⊢
 rcases Nat.lt_or_ge i b.length with hi2 | hi2
 ·have cA : decide ((i : Int) < (b.length : Int)) = true := decide_eq_true (by omega)
  have m1 := hb.ld i hi2
  have m2 := hb.lS i hi2
  have m3 := hb.lD (by omega)
  have m4 := hb.ok.so (by omega)
  have htk := Ai7 hi2
  have hgi : b.getD i 0 = b[i] := by rw [List.getD_eq_getElem?_getD, List.getElem?_eq_getElem hi2]; rfl
  rw [hgi] at m1
  obtain ⟨c, hc0⟩ : ∃ c, c = b[i] := ⟨_, rfl⟩
  rw [← hc0] at m1 htk
  have e4 := Cv3 c
  have e15 := Ae5 c
  have hlen := O7 (b.take i)
  have hlt : (b.take i).length = i := by rw [List.length_take]; omega
  have hlen2 : (G7 (b.take (i + 1))).length = (G7 (b.take i)).length + 2 := by rw [htk, List.length_append]; rfl
  refine A3 1000 ?_
  repeat' (first | with_reducible refine And.intro (by first | omega | (constructor <;> assumption) | (simp; done) | (simp [*]; done)) ?_ | simp (maxSteps := 4000000) (disch := omega) only [go_sem, ↓reduceIte, cA, Int.toNat_natCast, m1, bE, e4, e15])
  refine Au0 (l := l) (xs := (G7 (b.take i)).map bE) (zs := [.int .u8 0]) (news := [hiN c, loN c].map bE) (m := 2) (T := 5) 0 (G7 (b.take i)).length rfl Try.underlying22 (.inl ⟨_, Try.underlying22⟩) zr5 cz5 (by simp) hz8 rfl rfl rfl hl (by simp) (A7 0 _) (J5 (m := 2) rfl rfl) (by simp) (Bx0 _) (by simp only [maxLen]; omega) (by rw [show Try.prog.bytesOf 5 = 1 from by5]; omega) (fun l2 hl2 => ?_)
  rw [← hlen2] at hl2
  have hl2' := hl2
  obtain ⟨cp, rest, rfl, -⟩ := E6 hl2 (by omega)
  have hev : (G7 (b.take i)).map bE ++ [hiN c, loN c].map bE = (G7 (b.take (i + 1))).map bE := by rw [htk, List.map_append]
  rw [hev, ← hlen2]
  simp only [C1]
  refine A3 1000 ?_
  repeat' (simp (maxSteps := 4000000) (disch := omega) only [go_sem, ↓reduceIte])
  have cl2 : ∀ n, clO n (lO 5 ((G7 (b.take (i + 1))).map bE) (some (cp, rest))) = True := fun n => J4 hl2' (A7 0 _) hz8
  refine ⟨(i + 1, some (cp, rest)), ⟨hi2, hl2'⟩, (Bg2 [2] 0 (by simp) (by simp) (by simp) (by simp)).trans ?_, by simp only; omega⟩
  simp only [go_sem, okC, okE, U9, F2, H2 (ks := [2]) (k := 0) hl2' (A7 0 _) hz8, E3, C1]
  exact Weak.sub (A5 (by simp [wσ, go_sem, closed, A0, A4, cl2, C1] <;> omega) (by simp [whs, Go.Ew.hget, go_sem, EObj.closed, closed, A0, A4, cl2, C1]) (by first | (simp [*]; done) | (simp only [cxG]; omega)) rfl rfl (by simp))
 ·obtain rfl : i = b.length := by omega
  have cA : decide ((b.length : Int) < (b.length : Int)) = false := decide_eq_false (by omega)
  rw [List.take_length] at hl ⊢
  refine J8 (xs := G7 b) (T := 5) 0 (G7 b).length rfl rfl hl (by simp) (fun b2 ad2 cap2 B4 hB4 hfz hbY hcap2 => A3 1000 ?_)
  change BExt B0 B4 at hB4
  repeat' (first | with_reducible refine And.intro (by omega) ?_ | simp (maxSteps := 4000000) (disch := omega) only [go_sem, ↓reduceIte, cA, hfz] | with_reducible refine A3 1000 ?_)
  first | exact ⟨hB4, (ad2, cap2), rfl, by simp [closed, A0], ⟨hbY, hcap2⟩⟩ | exact ⟨(ad2, cap2), rfl, by simp [closed, A0], ⟨hbY, hcap2⟩⟩ | exact ⟨hB4, (ad2, cap2), by simp [closed, A0], ⟨hbY, hcap2⟩⟩ | exact ⟨(ad2, cap2), by simp [closed, A0], ⟨hbY, hcap2⟩⟩ | exact ⟨hB4, (ad2, cap2), by simp [closed, A0, F6]⟩ | exact ⟨(ad2, cap2), by simp [closed, A0, F6]⟩
theorem W9 (l : List UInt8) (leaf : Bool) (n : Nat) (B : Base) (ad : Option Addr) (cap : Nat) (hb : BytesAt B ad l) (hn : l.length = n) (hnc : n ≤ cap) (hc : n ≤ 140737488355328) :
  Does Try.prog 13 [.raw (.slice ad n cap), .bool leaf] B (fun s : Option Addr × Nat => .raw (.slice s.1 (pfx l leaf).length s.2)) (fun s B' => BytesAt B' s.1 (pfx l leaf) ∧ (pfx l leaf).length ≤ s.2) := by
 subst hn
 refine J9 Dd6 (fun s B B' hB hR => ⟨hR.1.ext hB, hR.2⟩) Try.func13 rfl Dc7 (by simp [Try.f13]) (by simp [A0, closed]) (fun B0 hB0 => A3 1000 ?_)
 replace hb := hb.ext hB0
 by_cases hpar : l.length % 2 = 1
 ·have c1 : ((l.length : Int) % 2 == 1) = true := by rw [beq_iff_eq]; omega
  have m1 := hb.ld 0 (by omega)
  have m2 := hb.lS 0 (by omega)
  have m3 := hb.lD (by omega)
  have m4 := hb.ok.so (by omega)
  obtain ⟨c, hc0⟩ : ∃ c, c = l.getD 0 0 := ⟨_, rfl⟩
  rw [← hc0] at m1
  have e15 := Ae5 c
  have w3 := wr3 c
  have w1 := wr1 c
  have hM := I1 hb 1 hnc
  have hML : (l.drop 1).length = l.length - 1 := List.length_drop
  obtain ⟨m, hm⟩ : ∃ m, m = l.drop 1 := ⟨_, rfl⟩
  rw [← hm] at hM hML
  obtain ⟨mA, hmA⟩ : ∃ mA, mA = (if cap = 1 then ad else ad.map (·.add 1)) := ⟨_, rfl⟩
  rw [← hmA] at hM
  simp only [Addr.add, Nat.one_ne_zero, if_false] at hmA
  cases leaf with
  | true =>
   have hH : pfx l true = M0 3 c :: O6 m := by
    rw [hm]
    have : l = c :: l.drop 1 := by
     cases l with
     | nil => simp at hpar
     | cons x r => simp at hc0; simp [hc0]
    rw [pfx, if_pos hpar]
    generalize l.drop 1 = m at this
    subst this
    rfl
   repeat' (first | with_reducible refine And.intro (by first | omega | (constructor <;> assumption) | (simp; done) | (simp; omega) | ((repeat' refine And.intro ?_ ?_) <;> first | omega | assumption | (refine SlOk.so (n := ?_) ?_ ?_; rotate_left; assumption; omega) | (simp; done) | fail)) ?_ | simp (maxSteps := 4000000) (disch := omega) only [go_sem, ↓reduceIte, Try.f13, c1, m1, bE, e15, w3, w1, ← hmA])
   refine G1 (S := Nat × Nat × List EV) (fun s => 2 * s.1 ≤ (l.length - 1) ∧ lOk [.int .u8 0] (s.1 + 1) (some s.2))
    (fun s => ⟨[(7, .int .i64 (2 * s.1 : Nat)), (6, .sl 0 0 (s.1 + 1) s.2.1), (0, .raw (.slice mA (l.length - 1) (cap - 1)))], 1, [(0, lO 5 ((M1 (M0 3 c) (m) s.1).map bE) (some s.2))], B0, []⟩)
    (fun s => (l.length - 1) - 2 * s.1) (0, 1, []) ⟨Nat.zero_le _, Nat.le_refl _, by simp only [maxLen]; omega, rfl, by simp⟩ (Weak.sub (A5 (by simp [wσ, go_sem, closed, A0, A4, H3, G6, bE] <;> omega) (by simp [whs, Go.Ew.hget, go_sem, EObj.closed, closed, A0, A4, H3, G6, bE]) (by first | (simp [*]; done) | (simp only [cxG]; omega)) rfl rfl (by simp))) ?_
   rintro ⟨i, cp, rest⟩ ⟨hi, hl⟩
   simp only at hi hl ⊢
   rcases Nat.lt_or_ge (2 * i) ((l.length - 1)) with hi2 | hi2
   ·have cA : decide (((2 * i : Nat) : Int) < (((l.length - 1) : Nat) : Int)) = true := decide_eq_true (by omega)
    have htk := N8 (M0 3 c) (m) i (by omega)
    have m1 := hM.ld (2 * i) (by omega)
    have m2 := hM.lS (2 * i) (by omega)
    have m5 := hM.ld (2 * i + 1) (by omega)
    have m6 := hM.lS (2 * i + 1) (by omega)
    have m3 := hM.lD (by omega)
    have m4 := hM.ok.so (by omega)
    obtain ⟨e, he0⟩ : ∃ e, e = (m).getD (2 * i) 0 := ⟨_, rfl⟩
    obtain ⟨d, hd0⟩ : ∃ d, d = (m).getD (2 * i + 1) 0 := ⟨_, rfl⟩
    rw [← he0] at m1 htk
    rw [← hd0] at m5 htk
    have e4 := Ce3 e
    have e15 := Ae5 d
    have eor := Ce9 e d
    have g1 : ((2 * i : Nat) : Int).toNat = 2 * i := Int.toNat_natCast _
    have g2 : (((2 * i : Nat) : Int) + 1).toNat = 2 * i + 1 := by omega
    have hpl := I3 (M0 3 c) (m) i (by omega)
    refine A3 1000 ?_
    repeat' (first | with_reducible refine And.intro (by first | omega | (constructor <;> assumption) | (simp; done) | ((repeat' refine And.intro ?_ ?_) <;> first | omega | assumption | (refine SlOk.so (n := ?_) ?_ ?_; rotate_left; assumption; omega) | (simp; done) | fail)) ?_ | simp (maxSteps := 4000000) (disch := omega) only [go_sem, ↓reduceIte, cA, g1, g2, m1, m5, bE, e4, e15, eor] | with_reducible refine D6 (id := 11) [0, 1, 2, 3, 4, 5, 6, 7, 8, 9, 10, 11, 12, 13, 14, 15] mixed (by kernel_rfl) (by simp) (fun hin => D4 1000 hin ?_))
    refine Ac3 (T := 5) (l := some (cp, rest)) (xs := M1 (M0 3 c) (m) i) 48 0 (i + 1) [M0 e d] [100047] rfl rfl Try.underlying22 (.inl ⟨_, Try.underlying22⟩) zr5 cz5 by5 hpl rfl rfl hl (fun B hs hB hfb => ⟨_, J5 (by rw [hfb 100047 (by simp)]; rfl) rfl, by simp⟩) (by simp only [List.length_singleton]; omega) (by simp) (by kernel_rfl) (F9 (by kernel_rfl) (C3 (by kernel_rfl))) (fun l5 hl5 => D4 1000 (by assumption) ?_)
    have hl5' := hl5
    obtain ⟨cp2, rest2, rfl, -⟩ := E6 hl5 (by omega)
    simp only [C1]
    repeat' (simp (maxSteps := 4000000) (disch := omega) only [go_sem, ↓reduceIte])
    refine E1 (by kernel_rfl) (C3 (by kernel_rfl)) ?_
    refine L0 [100048] 0 (by simp) (by simp) (by simp) (by simp) (A3 1000 ?_)
    rw [← htk]
    repeat' (simp (maxSteps := 4000000) (disch := omega) only [go_sem, ↓reduceIte, okC, okE, U9, F2, H2 (ks := [100048]) (k := 0) hl5' (A7 0 (M1 (M0 3 c) (m) (i + 1))) hz8, E3, List.length_singleton])
    have cl2 : ∀ n, clO n (lO 5 ((M1 (M0 3 c) (m) (i + 1)).map bE) (some (cp2, rest2))) = True := fun n => J4 hl5' (A7 0 _) hz8
    exact ⟨(i + 1, cp2, rest2), ⟨by simp only; omega, hl5'⟩, Weak.sub (A5 (by simp [wσ, go_sem, closed, A0, A4, cl2, C1] <;> omega) (by simp [whs, Go.Ew.hget, go_sem, EObj.closed, closed, A0, A4, cl2, C1]) (by first | (simp [*]; done) | (simp only [cxG]; omega)) rfl rfl (by simp)), by simp only; omega⟩
   ·have cA : decide (((2 * i : Nat) : Int) < (((l.length - 1) : Nat) : Int)) = false := decide_eq_false (by omega)
    have hpe : M1 (M0 3 c) (m) i = pfx l true := by rw [hH, M1, List.take_of_length_le (by omega)]
    have hpl := I3 (M0 3 c) (m) i (by omega)
    rw [hpe] at hpl
    rw [← hpl] at hl
    rw [← hpl, hpe]
    refine J8 (xs := pfx l true) (T := 5) 0 (pfx l true).length rfl rfl hl (by simp) (fun b2 ad2 cap2 B4 hB4 hfz hbY hcap2 => A3 1000 ?_)
    change BExt B0 B4 at hB4
    rw [C1] at hfz
    simp [frz] at hfz
    obtain ⟨rfl, rfl⟩ := hfz
    repeat' (first | with_reducible refine And.intro (by omega) ?_ | simp (maxSteps := 4000000) (disch := omega) only [go_sem, ↓reduceIte, cA, frz] | with_reducible refine A3 1000 ?_)
    first | exact ⟨hB4, (_, _), rfl, trivial, hbY, hcap2⟩ | exact ⟨(_, _), rfl, trivial, hbY, hcap2⟩
  | false =>
   have hH : pfx l false = M0 1 c :: O6 m := by
    rw [hm]
    have : l = c :: l.drop 1 := by
     cases l with
     | nil => simp at hpar
     | cons x r => simp at hc0; simp [hc0]
    rw [pfx, if_pos hpar]
    generalize l.drop 1 = m at this
    subst this
    rfl
   repeat' (first | with_reducible refine And.intro (by first | omega | (constructor <;> assumption) | (simp; done) | (simp; omega) | ((repeat' refine And.intro ?_ ?_) <;> first | omega | assumption | (refine SlOk.so (n := ?_) ?_ ?_; rotate_left; assumption; omega) | (simp; done) | fail)) ?_ | simp (maxSteps := 4000000) (disch := omega) only [go_sem, ↓reduceIte, Try.f13, c1, m1, bE, e15, w3, w1, ← hmA])
   refine G1 (S := Nat × Nat × List EV) (fun s => 2 * s.1 ≤ (l.length - 1) ∧ lOk [.int .u8 0] (s.1 + 1) (some s.2))
    (fun s => ⟨[(7, .int .i64 (2 * s.1 : Nat)), (6, .sl 0 0 (s.1 + 1) s.2.1), (0, .raw (.slice mA (l.length - 1) (cap - 1)))], 1, [(0, lO 5 ((M1 (M0 1 c) (m) s.1).map bE) (some s.2))], B0, []⟩)
    (fun s => (l.length - 1) - 2 * s.1) (0, 1, []) ⟨Nat.zero_le _, Nat.le_refl _, by simp only [maxLen]; omega, rfl, by simp⟩ (Weak.sub (A5 (by simp [wσ, go_sem, closed, A0, A4, H3, G6, bE] <;> omega) (by simp [whs, Go.Ew.hget, go_sem, EObj.closed, closed, A0, A4, H3, G6, bE]) (by first | (simp [*]; done) | (simp only [cxG]; omega)) rfl rfl (by simp))) ?_
   rintro ⟨i, cp, rest⟩ ⟨hi, hl⟩
   simp only at hi hl ⊢
   rcases Nat.lt_or_ge (2 * i) ((l.length - 1)) with hi2 | hi2
   ·have cA : decide (((2 * i : Nat) : Int) < (((l.length - 1) : Nat) : Int)) = true := decide_eq_true (by omega)
    have htk := N8 (M0 1 c) (m) i (by omega)
    have m1 := hM.ld (2 * i) (by omega)
    have m2 := hM.lS (2 * i) (by omega)
    have m5 := hM.ld (2 * i + 1) (by omega)
    have m6 := hM.lS (2 * i + 1) (by omega)
    have m3 := hM.lD (by omega)
    have m4 := hM.ok.so (by omega)
    obtain ⟨e, he0⟩ : ∃ e, e = (m).getD (2 * i) 0 := ⟨_, rfl⟩
    obtain ⟨d, hd0⟩ : ∃ d, d = (m).getD (2 * i + 1) 0 := ⟨_, rfl⟩
    rw [← he0] at m1 htk
    rw [← hd0] at m5 htk
    have e4 := Ce3 e
    have e15 := Ae5 d
    have eor := Ce9 e d
    have g1 : ((2 * i : Nat) : Int).toNat = 2 * i := Int.toNat_natCast _
    have g2 : (((2 * i : Nat) : Int) + 1).toNat = 2 * i + 1 := by omega
    have hpl := I3 (M0 1 c) (m) i (by omega)
    refine A3 1000 ?_
    repeat' (first | with_reducible refine And.intro (by first | omega | (constructor <;> assumption) | (simp; done) | ((repeat' refine And.intro ?_ ?_) <;> first | omega | assumption | (refine SlOk.so (n := ?_) ?_ ?_; rotate_left; assumption; omega) | (simp; done) | fail)) ?_ | simp (maxSteps := 4000000) (disch := omega) only [go_sem, ↓reduceIte, cA, g1, g2, m1, m5, bE, e4, e15, eor] | with_reducible refine D6 (id := 11) [0, 1, 2, 3, 4, 5, 6, 7, 8, 9, 10, 11, 12, 13, 14, 15] mixed (by kernel_rfl) (by simp) (fun hin => D4 1000 hin ?_))
    refine Ac3 (T := 5) (l := some (cp, rest)) (xs := M1 (M0 1 c) (m) i) 48 0 (i + 1) [M0 e d] [100047] rfl rfl Try.underlying22 (.inl ⟨_, Try.underlying22⟩) zr5 cz5 by5 hpl rfl rfl hl (fun B hs hB hfb => ⟨_, J5 (by rw [hfb 100047 (by simp)]; rfl) rfl, by simp⟩) (by simp only [List.length_singleton]; omega) (by simp) (by kernel_rfl) (F9 (by kernel_rfl) (C3 (by kernel_rfl))) (fun l5 hl5 => D4 1000 (by assumption) ?_)
    have hl5' := hl5
    obtain ⟨cp2, rest2, rfl, -⟩ := E6 hl5 (by omega)
    simp only [C1]
    repeat' (simp (maxSteps := 4000000) (disch := omega) only [go_sem, ↓reduceIte])
    refine E1 (by kernel_rfl) (C3 (by kernel_rfl)) ?_
    refine L0 [100048] 0 (by simp) (by simp) (by simp) (by simp) (A3 1000 ?_)
    rw [← htk]
    repeat' (simp (maxSteps := 4000000) (disch := omega) only [go_sem, ↓reduceIte, okC, okE, U9, F2, H2 (ks := [100048]) (k := 0) hl5' (A7 0 (M1 (M0 1 c) (m) (i + 1))) hz8, E3, List.length_singleton])
    have cl2 : ∀ n, clO n (lO 5 ((M1 (M0 1 c) (m) (i + 1)).map bE) (some (cp2, rest2))) = True := fun n => J4 hl5' (A7 0 _) hz8
    exact ⟨(i + 1, cp2, rest2), ⟨by simp only; omega, hl5'⟩, Weak.sub (A5 (by simp [wσ, go_sem, closed, A0, A4, cl2, C1] <;> omega) (by simp [whs, Go.Ew.hget, go_sem, EObj.closed, closed, A0, A4, cl2, C1]) (by first | (simp [*]; done) | (simp only [cxG]; omega)) rfl rfl (by simp)), by simp only; omega⟩
   ·have cA : decide (((2 * i : Nat) : Int) < (((l.length - 1) : Nat) : Int)) = false := decide_eq_false (by omega)
    have hpe : M1 (M0 1 c) (m) i = pfx l false := by rw [hH, M1, List.take_of_length_le (by omega)]
    have hpl := I3 (M0 1 c) (m) i (by omega)
    rw [hpe] at hpl
    rw [← hpl] at hl
    rw [← hpl, hpe]
    refine J8 (xs := pfx l false) (T := 5) 0 (pfx l false).length rfl rfl hl (by simp) (fun b2 ad2 cap2 B4 hB4 hfz hbY hcap2 => A3 1000 ?_)
    change BExt B0 B4 at hB4
    rw [C1] at hfz
    simp [frz] at hfz
    obtain ⟨rfl, rfl⟩ := hfz
    repeat' (first | with_reducible refine And.intro (by omega) ?_ | simp (maxSteps := 4000000) (disch := omega) only [go_sem, ↓reduceIte, cA, frz] | with_reducible refine A3 1000 ?_)
    first | exact ⟨hB4, (_, _), rfl, trivial, hbY, hcap2⟩ | exact ⟨(_, _), rfl, trivial, hbY, hcap2⟩
 ·have c1 : ((l.length : Int) % 2 == 1) = false := by rw [beq_eq_false_iff_ne]; omega
  have hM := hb
  cases leaf with
  | true =>
   have hH : pfx l true = 32 :: O6 l := by rw [pfx, if_neg hpar]; rfl
   repeat' (first | with_reducible refine And.intro (by first | omega | (simp; done)) ?_ | simp (maxSteps := 4000000) (disch := omega) only [go_sem, ↓reduceIte, Try.f13, c1])
   refine G1 (S := Nat × Nat × List EV) (fun s => 2 * s.1 ≤ l.length ∧ lOk [.int .u8 0] (s.1 + 1) (some s.2))
    (fun s => ⟨[(7, .int .i64 (2 * s.1 : Nat)), (6, .sl 0 0 (s.1 + 1) s.2.1), (0, .raw (.slice ad l.length cap))], 1, [(0, lO 5 ((M1 (32 : UInt8) (l) s.1).map bE) (some s.2))], B0, []⟩)
    (fun s => l.length - 2 * s.1) (0, 1, []) ⟨Nat.zero_le _, Nat.le_refl _, by simp only [maxLen]; omega, rfl, by simp⟩ (Weak.sub (A5 (by simp [wσ, go_sem, closed, A0, A4, H3, G6, bE] <;> omega) (by simp [whs, Go.Ew.hget, go_sem, EObj.closed, closed, A0, A4, H3, G6, bE]) (by first | (simp [*]; done) | (simp only [cxG]; omega)) rfl rfl (by simp))) ?_
   rintro ⟨i, cp, rest⟩ ⟨hi, hl⟩
   simp only at hi hl ⊢
   rcases Nat.lt_or_ge (2 * i) (l.length) with hi2 | hi2
   ·have cA : decide (((2 * i : Nat) : Int) < ((l.length : Nat) : Int)) = true := decide_eq_true (by omega)
    have htk := N8 (32 : UInt8) (l) i (by omega)
    have m1 := hM.ld (2 * i) (by omega)
    have m2 := hM.lS (2 * i) (by omega)
    have m5 := hM.ld (2 * i + 1) (by omega)
    have m6 := hM.lS (2 * i + 1) (by omega)
    have m3 := hM.lD (by omega)
    have m4 := hM.ok.so (by omega)
    obtain ⟨e, he0⟩ : ∃ e, e = (l).getD (2 * i) 0 := ⟨_, rfl⟩
    obtain ⟨d, hd0⟩ : ∃ d, d = (l).getD (2 * i + 1) 0 := ⟨_, rfl⟩
    rw [← he0] at m1 htk
    rw [← hd0] at m5 htk
    have e4 := Ce3 e
    have e15 := Ae5 d
    have eor := Ce9 e d
    have g1 : ((2 * i : Nat) : Int).toNat = 2 * i := Int.toNat_natCast _
    have g2 : (((2 * i : Nat) : Int) + 1).toNat = 2 * i + 1 := by omega
    have hpl := I3 (32 : UInt8) (l) i (by omega)
    refine A3 1000 ?_
    repeat' (first | with_reducible refine And.intro (by first | omega | (constructor <;> assumption) | (simp; done) | ((repeat' refine And.intro ?_ ?_) <;> first | omega | assumption | (refine SlOk.so (n := ?_) ?_ ?_; rotate_left; assumption; omega) | (simp; done) | fail)) ?_ | simp (maxSteps := 4000000) (disch := omega) only [go_sem, ↓reduceIte, cA, g1, g2, m1, m5, bE, e4, e15, eor] | with_reducible refine D6 (id := 11) [0, 1, 2, 3, 4, 5, 6, 7, 8, 9, 10, 11, 12, 13, 14, 15] mixed (by kernel_rfl) (by simp) (fun hin => D4 1000 hin ?_))
    refine Ac3 (T := 5) (l := some (cp, rest)) (xs := M1 (32 : UInt8) (l) i) 48 0 (i + 1) [M0 e d] [100047] rfl rfl Try.underlying22 (.inl ⟨_, Try.underlying22⟩) zr5 cz5 by5 hpl rfl rfl hl (fun B hs hB hfb => ⟨_, J5 (by rw [hfb 100047 (by simp)]; rfl) rfl, by simp⟩) (by simp only [List.length_singleton]; omega) (by simp) (by kernel_rfl) (F9 (by kernel_rfl) (C3 (by kernel_rfl))) (fun l5 hl5 => D4 1000 (by assumption) ?_)
    have hl5' := hl5
    obtain ⟨cp2, rest2, rfl, -⟩ := E6 hl5 (by omega)
    simp only [C1]
    repeat' (simp (maxSteps := 4000000) (disch := omega) only [go_sem, ↓reduceIte])
    refine E1 (by kernel_rfl) (C3 (by kernel_rfl)) ?_
    refine L0 [100048] 0 (by simp) (by simp) (by simp) (by simp) (A3 1000 ?_)
    rw [← htk]
    repeat' (simp (maxSteps := 4000000) (disch := omega) only [go_sem, ↓reduceIte, okC, okE, U9, F2, H2 (ks := [100048]) (k := 0) hl5' (A7 0 (M1 (32 : UInt8) (l) (i + 1))) hz8, E3, List.length_singleton])
    have cl2 : ∀ n, clO n (lO 5 ((M1 (32 : UInt8) (l) (i + 1)).map bE) (some (cp2, rest2))) = True := fun n => J4 hl5' (A7 0 _) hz8
    exact ⟨(i + 1, cp2, rest2), ⟨by simp only; omega, hl5'⟩, Weak.sub (A5 (by simp [wσ, go_sem, closed, A0, A4, cl2, C1] <;> omega) (by simp [whs, Go.Ew.hget, go_sem, EObj.closed, closed, A0, A4, cl2, C1]) (by first | (simp [*]; done) | (simp only [cxG]; omega)) rfl rfl (by simp)), by simp only; omega⟩
   ·have cA : decide (((2 * i : Nat) : Int) < ((l.length : Nat) : Int)) = false := decide_eq_false (by omega)
    have hpe : M1 (32 : UInt8) (l) i = pfx l true := by rw [hH, M1, List.take_of_length_le (by omega)]
    have hpl := I3 (32 : UInt8) (l) i (by omega)
    rw [hpe] at hpl
    rw [← hpl] at hl
    rw [← hpl, hpe]
    refine J8 (xs := pfx l true) (T := 5) 0 (pfx l true).length rfl rfl hl (by simp) (fun b2 ad2 cap2 B4 hB4 hfz hbY hcap2 => A3 1000 ?_)
    change BExt B0 B4 at hB4
    rw [C1] at hfz
    simp [frz] at hfz
    obtain ⟨rfl, rfl⟩ := hfz
    repeat' (first | with_reducible refine And.intro (by omega) ?_ | simp (maxSteps := 4000000) (disch := omega) only [go_sem, ↓reduceIte, cA, frz] | with_reducible refine A3 1000 ?_)
    first | exact ⟨hB4, (_, _), rfl, trivial, hbY, hcap2⟩ | exact ⟨(_, _), rfl, trivial, hbY, hcap2⟩
  | false =>
   have hH : pfx l false = 0 :: O6 l := by rw [pfx, if_neg hpar]; rfl
   repeat' (first | with_reducible refine And.intro (by first | omega | (simp; done)) ?_ | simp (maxSteps := 4000000) (disch := omega) only [go_sem, ↓reduceIte, Try.f13, c1])
   refine G1 (S := Nat × Nat × List EV) (fun s => 2 * s.1 ≤ l.length ∧ lOk [.int .u8 0] (s.1 + 1) (some s.2))
    (fun s => ⟨[(7, .int .i64 (2 * s.1 : Nat)), (6, .sl 0 0 (s.1 + 1) s.2.1), (0, .raw (.slice ad l.length cap))], 1, [(0, lO 5 ((M1 (0 : UInt8) (l) s.1).map bE) (some s.2))], B0, []⟩)
    (fun s => l.length - 2 * s.1) (0, 1, []) ⟨Nat.zero_le _, Nat.le_refl _, by simp only [maxLen]; omega, rfl, by simp⟩ (Weak.sub (A5 (by simp [wσ, go_sem, closed, A0, A4, H3, G6, bE] <;> omega) (by simp [whs, Go.Ew.hget, go_sem, EObj.closed, closed, A0, A4, H3, G6, bE]) (by first | (simp [*]; done) | (simp only [cxG]; omega)) rfl rfl (by simp))) ?_
   rintro ⟨i, cp, rest⟩ ⟨hi, hl⟩
   simp only at hi hl ⊢
   rcases Nat.lt_or_ge (2 * i) (l.length) with hi2 | hi2
   ·have cA : decide (((2 * i : Nat) : Int) < ((l.length : Nat) : Int)) = true := decide_eq_true (by omega)
    have htk := N8 (0 : UInt8) (l) i (by omega)
    have m1 := hM.ld (2 * i) (by omega)
    have m2 := hM.lS (2 * i) (by omega)
    have m5 := hM.ld (2 * i + 1) (by omega)
    have m6 := hM.lS (2 * i + 1) (by omega)
    have m3 := hM.lD (by omega)
    have m4 := hM.ok.so (by omega)
    obtain ⟨e, he0⟩ : ∃ e, e = (l).getD (2 * i) 0 := ⟨_, rfl⟩
    obtain ⟨d, hd0⟩ : ∃ d, d = (l).getD (2 * i + 1) 0 := ⟨_, rfl⟩
    rw [← he0] at m1 htk
    rw [← hd0] at m5 htk
    have e4 := Ce3 e
    have e15 := Ae5 d
    have eor := Ce9 e d
    have g1 : ((2 * i : Nat) : Int).toNat = 2 * i := Int.toNat_natCast _
    have g2 : (((2 * i : Nat) : Int) + 1).toNat = 2 * i + 1 := by omega
    have hpl := I3 (0 : UInt8) (l) i (by omega)
    refine A3 1000 ?_
    repeat' (first | with_reducible refine And.intro (by first | omega | (constructor <;> assumption) | (simp; done) | ((repeat' refine And.intro ?_ ?_) <;> first | omega | assumption | (refine SlOk.so (n := ?_) ?_ ?_; rotate_left; assumption; omega) | (simp; done) | fail)) ?_ | simp (maxSteps := 4000000) (disch := omega) only [go_sem, ↓reduceIte, cA, g1, g2, m1, m5, bE, e4, e15, eor] | with_reducible refine D6 (id := 11) [0, 1, 2, 3, 4, 5, 6, 7, 8, 9, 10, 11, 12, 13, 14, 15] mixed (by kernel_rfl) (by simp) (fun hin => D4 1000 hin ?_))
    refine Ac3 (T := 5) (l := some (cp, rest)) (xs := M1 (0 : UInt8) (l) i) 48 0 (i + 1) [M0 e d] [100047] rfl rfl Try.underlying22 (.inl ⟨_, Try.underlying22⟩) zr5 cz5 by5 hpl rfl rfl hl (fun B hs hB hfb => ⟨_, J5 (by rw [hfb 100047 (by simp)]; rfl) rfl, by simp⟩) (by simp only [List.length_singleton]; omega) (by simp) (by kernel_rfl) (F9 (by kernel_rfl) (C3 (by kernel_rfl))) (fun l5 hl5 => D4 1000 (by assumption) ?_)
    have hl5' := hl5
    obtain ⟨cp2, rest2, rfl, -⟩ := E6 hl5 (by omega)
    simp only [C1]
    repeat' (simp (maxSteps := 4000000) (disch := omega) only [go_sem, ↓reduceIte])
    refine E1 (by kernel_rfl) (C3 (by kernel_rfl)) ?_
    refine L0 [100048] 0 (by simp) (by simp) (by simp) (by simp) (A3 1000 ?_)
    rw [← htk]
    repeat' (simp (maxSteps := 4000000) (disch := omega) only [go_sem, ↓reduceIte, okC, okE, U9, F2, H2 (ks := [100048]) (k := 0) hl5' (A7 0 (M1 (0 : UInt8) (l) (i + 1))) hz8, E3, List.length_singleton])
    have cl2 : ∀ n, clO n (lO 5 ((M1 (0 : UInt8) (l) (i + 1)).map bE) (some (cp2, rest2))) = True := fun n => J4 hl5' (A7 0 _) hz8
    exact ⟨(i + 1, cp2, rest2), ⟨by simp only; omega, hl5'⟩, Weak.sub (A5 (by simp [wσ, go_sem, closed, A0, A4, cl2, C1] <;> omega) (by simp [whs, Go.Ew.hget, go_sem, EObj.closed, closed, A0, A4, cl2, C1]) (by first | (simp [*]; done) | (simp only [cxG]; omega)) rfl rfl (by simp)), by simp only; omega⟩
   ·have cA : decide (((2 * i : Nat) : Int) < ((l.length : Nat) : Int)) = false := decide_eq_false (by omega)
    have hpe : M1 (0 : UInt8) (l) i = pfx l false := by rw [hH, M1, List.take_of_length_le (by omega)]
    have hpl := I3 (0 : UInt8) (l) i (by omega)
    rw [hpe] at hpl
    rw [← hpl] at hl
    rw [← hpl, hpe]
    refine J8 (xs := pfx l false) (T := 5) 0 (pfx l false).length rfl rfl hl (by simp) (fun b2 ad2 cap2 B4 hB4 hfz hbY hcap2 => A3 1000 ?_)
    change BExt B0 B4 at hB4
    rw [C1] at hfz
    simp [frz] at hfz
    obtain ⟨rfl, rfl⟩ := hfz
    repeat' (first | with_reducible refine And.intro (by omega) ?_ | simp (maxSteps := 4000000) (disch := omega) only [go_sem, ↓reduceIte, cA, frz] | with_reducible refine A3 1000 ?_)
    first | exact ⟨hB4, (_, _), rfl, trivial, hbY, hcap2⟩ | exact ⟨(_, _), rfl, trivial, hbY, hcap2⟩
theorem U4 (p : List UInt8) (n : Nat) (B : Base) (ad : Option Addr) (cap : Nat) (h : BytesAt B ad p) (hn : p.length = n) (hp : n ≤ 140737488355328) :
  Does Try.prog 9 [.raw (.slice ad n cap)] B (fun s : Option Addr × Nat => .raw (.slice s.1 n s.2)) (fun s B' => BytesAt B' s.1 p ∧ n ≤ s.2) := by
 subst hn
 refine J9 en9 (fun s B B' hB hR => ⟨hR.1.ext hB, hR.2⟩) Try.func9 rfl in9 (by simp [Try.f9]) (by simp [A0, closed]) (fun B0 hB0 => A3 1000 ?_)
 replace h := h.ext hB0
 repeat' (first | with_reducible refine And.intro (by first | omega | (simp; done)) ?_ | simp (maxSteps := 4000000) (disch := omega) only [go_sem, ↓reduceIte, Try.f9])
 refine appB (T := 5) (l := some (0, [])) (xs := []) 0 0 p rfl Try.underlying22 (.inl ⟨_, Try.underlying22⟩) zr5 cz5 by5 rfl rfl rfl ⟨Nat.le_refl _, Nat.zero_le _, rfl, by simp⟩ (h.src _) (by omega) (fun l1 hl1 => ?_)
 simp only [Nat.zero_add, List.nil_append] at hl1 ⊢
 refine J8 (xs := p) (T := 5) 1 p.length rfl rfl hl1 (by simp) (fun b2 ad2 cap2 B2 hB2 hfz hbY hcap2 => A3 1000 ?_)
 change BExt B0 B2 at hB2
 repeat' (first | with_reducible refine And.intro (by omega) ?_ | simp (maxSteps := 4000000) (disch := omega) only [go_sem, ↓reduceIte, hfz])
 first | exact ⟨hB2, (ad2, cap2), rfl, by simp [closed, A0], ⟨hbY, hcap2⟩⟩ | exact ⟨(ad2, cap2), rfl, by simp [closed, A0], ⟨hbY, hcap2⟩⟩ | exact ⟨hB2, (ad2, cap2), by simp [closed, A0], ⟨hbY, hcap2⟩⟩ | exact ⟨(ad2, cap2), by simp [closed, A0], ⟨hbY, hcap2⟩⟩ | exact ⟨hB2, (ad2, cap2), by simp [closed, A0, F6]⟩ | exact ⟨(ad2, cap2), by simp [closed, A0, F6]⟩
theorem Av0 (b : List UInt8) (n : Nat) (B : Base) (ad : Option Addr) (cap : Nat) (hb : BytesAt B ad b) (hn : b.length = n) (hc : n ≤ 70368744177664) :
  Does Try.prog 8 [.raw (.slice ad n cap)] B (fun s : Option Addr × Nat => .tup [.raw (.slice s.1 (unL b).length s.2), .bool (unF b), .int .i64 (unE b : Nat)]) (fun s B' => BytesAt B' s.1 (unL b)) := by
 subst hn
 refine J9 en8 (fun s B B' hB hR => hR.ext hB) Try.func8 rfl in8 (by simp [Try.f8]) (by simp [A0, closed]) (fun B0 hB0 => A3 1000 ?_)
 replace hb := hb.ext hB0
 have hno : Ba7 b = false → unL b = [] ∧ unF b = false ∧ unE b = 123 := fun h => by simp [unL, unF, unE, h]
 by_cases h0 : b = []
 ·obtain ⟨g1, g2, g3⟩ := hno (by simp [Ba7, h0])
  rw [g1, g2, g3]
  subst h0
  repeat' (simp (maxSteps := 4000000) (disch := omega) only [go_sem, ↓reduceIte, Try.f8, List.length_nil])
  first | exact ⟨BExt.refl _, (none, 0), rfl, by simp [closed, A0], F6 none⟩ | exact ⟨(none, 0), by simp [closed, A0], F6 none⟩ | exact ⟨(none, 0), rfl, by simp [closed, A0], F6 none⟩
 ·have hbl : 0 < b.length := List.length_pos_iff.2 h0
  have c0 : (((b.length : Nat) : Int) == 0) = false := by rw [beq_eq_false_iff_ne]; omega
  have m1 := hb.ld 0 (by omega)
  have m2 := hb.lS 0 (by omega)
  have m3 := hb.lD (by omega)
  have m4 := hb.ok.so (by omega)
  have hokd : Ba7 b = (decide (b ≠ []) && (decide ((hiN (b.getD 0 0)).toNat ≤ 3) && (decide ((hiN (b.getD 0 0)).toNat % 2 = 1) || decide ((loN (b.getD 0 0)).toNat = 0)))) := rfl
  have hLd : unL b = if Ba7 b then (G7 b).drop (2 - (hiN (b.getD 0 0)).toNat % 2) else [] := rfl
  have hFd : unF b = (Ba7 b && decide (2 ≤ (hiN (b.getD 0 0)).toNat)) := rfl
  rw [decide_eq_true h0, Bool.true_and] at hokd
  obtain ⟨c, hc0⟩ : ∃ c, c = b.getD 0 0 := ⟨_, rfl⟩
  rw [← hc0] at m1 hokd hLd hFd
  have e4 := Cv3 c
  have e15 := Ae5 c
  have e1 := Dl9 (hiN c).toNat (UInt8.toNat_lt _)
  obtain ⟨hx, hh⟩ : ∃ hx, hx = (hiN c).toNat := ⟨_, rfl⟩
  obtain ⟨w, hw⟩ : ∃ w, w = (loN c).toNat := ⟨_, rfl⟩
  rw [← hh] at e4 e1 hokd hLd hFd
  rw [← hw] at e15 hokd
  by_cases g3 : 3 < hx
  ·have c3 : decide ((3 : Int) < (hx : Int)) = true := decide_eq_true (by omega)
   obtain ⟨g1, g2, g3⟩ := hno (by rw [hokd, decide_eq_false (by omega : ¬ hx ≤ 3)]; rfl)
   rw [g1, g2, g3]
   repeat' (first | with_reducible refine And.intro (by first | omega | (constructor <;> assumption) | (simp [*]; done)) ?_ | simp (maxSteps := 4000000) (disch := omega) only [go_sem, ↓reduceIte, Try.f8, c0, m1, bE, e4, c3])
   first | exact ⟨BExt.refl _, (none, 0), rfl, by simp [closed, A0], F6 none⟩ | exact ⟨(none, 0), by simp [closed, A0], F6 none⟩ | exact ⟨(none, 0), rfl, by simp [closed, A0], F6 none⟩
  ·have c3 : decide ((3 : Int) < (hx : Int)) = false := decide_eq_false (by omega)
   rcases Nat.mod_two_eq_zero_or_one hx with gp | gp
   ·by_cases gw : w = 0
    ·have hok : Ba7 b = true := by rw [hokd, decide_eq_true (by omega : hx ≤ 3), decide_eq_true gw, Bool.or_true]; rfl
     have cw : ((w : Int) == 0) = true := by rw [gw]; rfl
     have hE : unE b = 0 := by simp [unE, hok]
     rw [hok, if_pos rfl, gp] at hLd
     rw [hok, Bool.true_and] at hFd
     have hLd : unL b = (G7 b).drop 2 := hLd
     rw [hLd, hFd, hE]
     have e1' : Bj3 .u8 (hx : Int) 1 = 0 := by rw [e1, gp]; rfl
     have hnl := O7 b
     have hdr : ((G7 b).drop 2).length = (G7 b).length - 2 := List.length_drop
     have hde : decide ((2 : Int) ≤ (hx : Int)) = decide (2 ≤ hx) := decide_eq_decide.2 (by omega)
     repeat' (first | with_reducible refine And.intro (by first | omega | (constructor <;> assumption) | (simp [*]; done)) ?_ | simp (maxSteps := 4000000) (disch := omega) only [go_sem, ↓reduceIte, Try.f8, c0, m1, bE, e4, c3, e1', e15, cw] | ((first | refine A6 (fun h => ?_) (fun h => ?_) | refine D9 (fun h => ?_) (fun h => ?_) | refine E9 (fun h => ?_) (fun h => ?_)) <;> (try simp only [bne_iff_ne, ne_eq, beq_iff_eq, decide_eq_true_eq, decide_eq_false_iff_not, Bool.not_eq_true, Bool.not_eq_false, Bool.not_true, Bool.not_false, bne_eq_false_iff_eq, beq_eq_false_iff_ne, Bool.and_eq_true, Bool.or_eq_true, Bool.and_eq_false_imp, Bool.or_eq_false_iff, Bool.not_eq_true', Bool.not_eq_false', Int.not_lt, Int.not_le] at h) <;> (try (exfalso; omega))))
     refine F4 (Ai8 b b.length _ ad cap hb rfl hc) (fun _ => by simp [closed]) (fun s2 B2 hB2 hR2 => A3 1000 ?_)
     change BExt B0 B2 at hB2
     have hM := I1 hR2.1 2 hR2.2
     have n1 := (hb.ext hB2).ld 0 (by omega)
     have n2 := (hb.ext hB2).lS 0 (by omega)
     have n3 := (hb.ext hB2).lD (by omega)
     rw [← hc0] at n1
     obtain ⟨mA, hmA⟩ : ∃ mA, mA = (if s2.2 = 2 then s2.1 else s2.1.map (·.add 2)) := ⟨_, rfl⟩
     rw [← hmA] at hM
     simp only [Addr.add, Nat.one_ne_zero, if_false, Nat.reduceEqDiff] at hmA
     rw [hdr]
     repeat' (first | with_reducible refine And.intro (by first | omega | (constructor <;> assumption) | (simp; omega) | (simp [*]; done)) ?_ | simp (maxSteps := 4000000) (disch := omega) only [go_sem, ↓reduceIte, n1, bE, e4, e1', ← hmA, hde] | with_reducible refine D6 (id := 4) [0, 1, 2, 3, 4, 5, 6, 7, 8, 9, 10, 11, 12, 13, 14, 15, 16] mixed (by kernel_rfl) (by simp) (fun hin => D4 1000 hin ?_) | with_reducible refine E1 (by kernel_rfl) (C3 (by kernel_rfl)) (A3 1000 ?_))
     all_goals first | exact ⟨hB2, (mA, s2.2 - 2), rfl, by simp [closed, A0], hM⟩ | exact ⟨(mA, s2.2 - 2), rfl, by simp [closed, A0], hM⟩ | exact ⟨(mA, s2.2 - 2), by simp [closed, A0], hM⟩ | exact ⟨hB2, (mA, s2.2 - 2), by simp [closed, A0], hM⟩
    ·have cw : ((w : Int) == 0) = false := by rw [beq_eq_false_iff_ne]; omega
     obtain ⟨g1, g2, g4⟩ := hno (by rw [hokd, decide_eq_false (by omega : ¬ hx % 2 = 1), decide_eq_false gw, Bool.or_false, Bool.and_false])
     rw [g1, g2, g4]
     have e1' : Bj3 .u8 (hx : Int) 1 = 0 := by rw [e1, gp]; rfl
     repeat' (first | with_reducible refine And.intro (by first | omega | (constructor <;> assumption) | (simp [*]; done)) ?_ | simp (maxSteps := 4000000) (disch := omega) only [go_sem, ↓reduceIte, Try.f8, c0, m1, bE, e4, c3, e1', e15, cw] | ((first | refine A6 (fun h => ?_) (fun h => ?_) | refine D9 (fun h => ?_) (fun h => ?_) | refine E9 (fun h => ?_) (fun h => ?_)) <;> (try simp only [bne_iff_ne, ne_eq, beq_iff_eq, decide_eq_true_eq, decide_eq_false_iff_not, Bool.not_eq_true, Bool.not_eq_false, Bool.not_true, Bool.not_false, bne_eq_false_iff_eq, beq_eq_false_iff_ne, Bool.and_eq_true, Bool.or_eq_true, Bool.and_eq_false_imp, Bool.or_eq_false_iff, Bool.not_eq_true', Bool.not_eq_false', Int.not_lt, Int.not_le] at h) <;> (try (exfalso; omega))))
     first | exact ⟨BExt.refl _, (none, 0), rfl, by simp [closed, A0], F6 none⟩ | exact ⟨(none, 0), by simp [closed, A0], F6 none⟩ | exact ⟨(none, 0), rfl, by simp [closed, A0], F6 none⟩
   ·have hok : Ba7 b = true := by rw [hokd, decide_eq_true (by omega : hx ≤ 3), decide_eq_true gp]; rfl
    have hE : unE b = 0 := by simp [unE, hok]
    rw [hok, if_pos rfl, gp] at hLd
    rw [hok, Bool.true_and] at hFd
    have hLd : unL b = (G7 b).drop 1 := hLd
    rw [hLd, hFd, hE]
    have e1' : Bj3 .u8 (hx : Int) 1 = 1 := by rw [e1, gp]; rfl
    have hnl := O7 b
    have hdr : ((G7 b).drop 1).length = (G7 b).length - 1 := List.length_drop
    have hde : decide ((2 : Int) ≤ (hx : Int)) = decide (2 ≤ hx) := decide_eq_decide.2 (by omega)
    repeat' (first | with_reducible refine And.intro (by first | omega | (constructor <;> assumption) | (simp [*]; done)) ?_ | simp (maxSteps := 4000000) (disch := omega) only [go_sem, ↓reduceIte, Try.f8, c0, m1, bE, e4, c3, e1'])
    refine F4 (Ai8 b b.length _ ad cap hb rfl hc) (fun _ => by simp [closed]) (fun s2 B2 hB2 hR2 => A3 1000 ?_)
    change BExt B0 B2 at hB2
    have hM := I1 hR2.1 1 hR2.2
    have n1 := (hb.ext hB2).ld 0 (by omega)
    have n2 := (hb.ext hB2).lS 0 (by omega)
    have n3 := (hb.ext hB2).lD (by omega)
    rw [← hc0] at n1
    obtain ⟨mA, hmA⟩ : ∃ mA, mA = (if s2.2 = 1 then s2.1 else s2.1.map (·.add 1)) := ⟨_, rfl⟩
    rw [← hmA] at hM
    simp only [Addr.add, Nat.one_ne_zero, if_false, Nat.reduceEqDiff] at hmA
    rw [hdr]
    repeat' (first | with_reducible refine And.intro (by first | omega | (constructor <;> assumption) | (simp; omega) | (simp [*]; done)) ?_ | simp (maxSteps := 4000000) (disch := omega) only [go_sem, ↓reduceIte, n1, bE, e4, e1', ← hmA, hde] | with_reducible refine D6 (id := 4) [0, 1, 2, 3, 4, 5, 6, 7, 8, 9, 10, 11, 12, 13, 14, 15, 16] mixed (by kernel_rfl) (by simp) (fun hin => D4 1000 hin ?_) | with_reducible refine E1 (by kernel_rfl) (C3 (by kernel_rfl)) (A3 1000 ?_))
    all_goals first | exact ⟨hB2, (mA, s2.2 - 1), rfl, by simp [closed, A0], hM⟩ | exact ⟨(mA, s2.2 - 1), rfl, by simp [closed, A0], hM⟩ | exact ⟨(mA, s2.2 - 1), by simp [closed, A0], hM⟩ | exact ⟨hB2, (mA, s2.2 - 1), by simp [closed, A0], hM⟩
end Go.Proofs.Ytncjbfkkgdepoaa
namespace Go.Proofs.Ytncjbfkkgdepoaa
open Go RowKit Go.Ew
theorem Cq4 {a b : UInt8} (ha : a.toNat < 16) (hb : b.toNat < 16) : hiN (M0 a b) = a ∧ loN (M0 a b) = b := by
 constructor
 ·apply UInt8.toNat_inj.1; rw [Ad8, Aa1]; omega
 ·apply UInt8.toNat_inj.1; rw [O4, Aa1]; omega
theorem Aw9 : ∀ m : List UInt8, m.length % 2 = 0 → (∀ x ∈ m, x.toNat < 16) → G7 (O6 m) = m
 | [], _, _ => rfl
 | [_], h, _ => by simp at h
 | a :: b :: r, h, hx => by
  have ih := Aw9 r (by simp at h; omega) (fun x h2 => hx x (by simp [h2]))
  obtain ⟨e1, e2⟩ := Cq4 (hx a (by simp)) (hx b (by simp))
  have e : G7 (M0 a b :: O6 r) = hiN (M0 a b) :: loN (M0 a b) :: G7 (O6 r) := rfl
  rw [O6, e, e1, e2, ih]
theorem Bu0 (leaf : Bool) : (fpx leaf).toNat = (if leaf then 2 else 0) ∧ (fpx leaf + 1).toNat = (if leaf then 3 else 1) := by
 cases leaf <;> decide
theorem Ca1 (l : List UInt8) (leaf : Bool) (h : ∀ x ∈ l, x.toNat < 16) : G7 (pfx l leaf) = (if l.length % 2 = 1 then [fpx leaf + 1] else [fpx leaf, 0]) ++ l := by
 obtain ⟨f1, f2⟩ := Bu0 leaf
 refine Aw9 _ ?_ (fun x hx => ?_)
 ·rw [List.length_append]; split <;> simp <;> omega
 ·rcases List.mem_append.1 hx with hx | hx
  ·split at hx
   ·obtain rfl := List.mem_singleton.1 hx
    rw [f2]; split <;> omega
   ·simp only [List.mem_cons, List.not_mem_nil, or_false] at hx
    rcases hx with rfl | rfl
    ·rw [f1]; split <;> omega
    ·decide
  ·exact h x hx
theorem Bp5 (l : List UInt8) (leaf : Bool) (h : ∀ x ∈ l, x.toNat < 16) : Ba7 (pfx l leaf) = true ∧ unL (pfx l leaf) = l ∧ unF (pfx l leaf) = leaf := by
 obtain ⟨f1, f2⟩ := Bu0 leaf
 have hn := Ca1 l leaf h
 have hl := congrArg List.length hn
 rw [O7, List.length_append] at hl
 have hne : pfx l leaf ≠ [] := fun h0 => by
  rw [h0, List.length_nil, Nat.mul_zero] at hl
  have : (if l.length % 2 = 1 then [fpx leaf + 1] else [fpx leaf, 0]).length ≠ 0 := by split <;> simp
  omega
 obtain ⟨w0, w1⟩ := Bq6 hne
 rw [hn] at w0 w1
 by_cases hp : l.length % 2 = 1
 ·rw [if_pos hp] at hn w0
  have e0 : hiN ((pfx l leaf).getD 0 0) = fpx leaf + 1 := by rw [← w0]; rfl
  have hok : Ba7 (pfx l leaf) = true := by
   rw [Ba7, e0, f2, decide_eq_true hne]
   cases leaf <;> rfl
  refine ⟨hok, ?_, ?_⟩
  ·rw [unL, hok, if_pos rfl, e0, f2, hn]
   cases leaf <;> rfl
  ·rw [unF, hok, e0, f2]
   cases leaf <;> rfl
 ·rw [if_neg hp] at hn w0 w1
  have e0 : hiN ((pfx l leaf).getD 0 0) = fpx leaf := by rw [← w0]; rfl
  have e1 : loN ((pfx l leaf).getD 0 0) = 0 := by rw [← w1]; rfl
  have hok : Ba7 (pfx l leaf) = true := by
   rw [Ba7, e0, e1, f1, decide_eq_true hne]
   cases leaf <;> rfl
  refine ⟨hok, ?_, ?_⟩
  ·rw [unL, hok, if_pos rfl, e0, f1, hn]
   cases leaf <;> rfl
  ·rw [unF, hok, e0, f1]
   cases leaf <;> rfl
theorem Cj0 {l m : List UInt8} {a b : Bool} (hl : ∀ x ∈ l, x.toNat < 16) (hm : ∀ x ∈ m, x.toNat < 16) : pfx l a = pfx m b ↔ l = m ∧ a = b := by
 constructor
 ·intro h
  obtain ⟨_, h1, h2⟩ := Bp5 l a hl
  obtain ⟨_, h3, h4⟩ := Bp5 m b hm
  rw [h] at h1 h2
  exact ⟨h1.symm.trans h3, h2.symm.trans h4⟩
 ·rintro ⟨rfl, rfl⟩; rfl
theorem Ci9 (l : List UInt8) (a : Bool) : (pfx l a).length ≤ l.length / 2 + 1 := by
 rw [pfx, R9, List.length_append]
 split <;> simp <;> omega
end Go.Proofs.Ytncjbfkkgdepoaa
