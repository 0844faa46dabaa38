/- Part of a proof over the seat Ytncjbfkkgdepoaa. -/
import Derived.Test.YtncjbfkkgdepoaaTD
import Derived.Test.YtncjbfkkgdepoaaG09
import Derived.Test.YtncjbfkkgdepoaaEng2
set_option linter.unusedSimpArgs false
set_option linter.unusedVariables false
set_option maxRecDepth 100000
namespace Go.Proofs.Ytncjbfkkgdepoaa
open Go RowKit Go.Ew
set_option maxHeartbeats 8000000
theorem Dg6 : C4 Try.f13.ntmps (Try.f13.body.getD .skip) = true := by kernel_rfl
def P4 (a b : UInt8) : UInt8 := UInt8.ofNat (a.toNat % 16 * 16 + b.toNat % 16)
theorem Ag0 (a b : UInt8) : (P4 a b).toNat = a.toNat % 16 * 16 + b.toNat % 16 :=
 UInt8.toNat_ofNat_of_lt' (by show _ < 256; omega)
def G0 : List UInt8 → List UInt8
 | a :: b :: r => P4 a b :: G0 r
 | _ => []
theorem I5 : ∀ l : List UInt8, (G0 l).length = l.length / 2
 | [] => rfl
 | [_] => by simp [G0]
 | a :: b :: r => by
  simp only [G0, List.length_cons, I5 r]
  omega
theorem O3 : ∀ (l : List UInt8) (i : Nat), 2 * i + 1 < l.length → G0 (l.take (2 * (i + 1))) = G0 (l.take (2 * i)) ++ [P4 (l.getD (2 * i) 0) (l.getD (2 * i + 1) 0)]
 | [], i, h => by simp at h
 | [_], i, h => by simp at h
 | a :: b :: r, 0, h => by simp [G0]
 | a :: b :: r, i + 1, h => by
  have e1 : 2 * (i + 1 + 1) = 2 * (i + 1) + 2 := by omega
  have e2 : 2 * (i + 1) = 2 * i + 2 := by omega
  have e3 : 2 * i + 2 + 1 = 2 * i + 1 + 2 := by omega
  have := O3 r i (by simp at h; omega)
  rw [e2] at this
  rw [e1, e2, List.take_succ_cons, List.take_succ_cons, List.take_succ_cons, List.take_succ_cons, G0, G0, this, e3]
  simp
def fpx (leaf : Bool) : UInt8 := if leaf then 2 else 0
def pfx (l : List UInt8) (leaf : Bool) : List UInt8 := G0 ((if l.length % 2 = 1 then [fpx leaf + 1] else [fpx leaf, 0]) ++ l)
theorem Cs0 (c : UInt8) : Bw0 .u8 (c.toNat : Int) 4 = (c.toNat % 16 * 16 : Nat) := by
 have h : ∀ n : Fin 256, Bw0 .u8 ((n.val : Nat) : Int) 4 = ((n.val % 16 * 16 : Nat) : Int) := by decide +kernel
 exact h ⟨c.toNat, c.toNat_lt⟩
theorem Cs1 (a b : UInt8) : bOr .u8 ((a.toNat % 16 * 16 : Nat) : Int) ((loN b).toNat : Int) = ((P4 a b).toNat : Int) := by
 have h : ∀ n m : Fin 16, bOr .u8 ((n.val * 16 : Nat) : Int) ((m.val : Nat) : Int) = ((n.val * 16 + m.val : Nat) : Int) := by decide +kernel
 rw [R2, Ag0]; exact h ⟨a.toNat % 16, Nat.mod_lt _ (by omega)⟩ ⟨b.toNat % 16, Nat.mod_lt _ (by omega)⟩
def Y1 (h : UInt8) (m : List UInt8) (i : Nat) : List UInt8 := h :: G0 (m.take (2 * i))
theorem N3 (h : UInt8) (m : List UInt8) : Y1 h m 0 = [h] := by simp [Y1, G0]
theorem Q1 (h : UInt8) (m : List UInt8) (i : Nat) (hi : 2 * i ≤ m.length) : (Y1 h m i).length = i + 1 := by
 rw [Y1, List.length_cons, I5, List.length_take]; omega
theorem Aa4 (h : UInt8) (m : List UInt8) (i : Nat) (hi : 2 * i + 1 < m.length) : Y1 h m (i + 1) = Y1 h m i ++ [P4 (m.getD (2 * i) 0) (m.getD (2 * i + 1) 0)] := by
 rw [Y1, O3 m i hi, Y1]; rfl
theorem wr3 (b : UInt8) : IntKind.u8.wrap (48 + ((loN b).toNat : Int)) = ((P4 3 b).toNat : Int) := by
 have h : ∀ m : Fin 16, IntKind.u8.wrap (48 + ((m.val : Nat) : Int)) = ((3 * 16 + m.val : Nat) : Int) := by decide +kernel
 rw [R2, Ag0]; exact h ⟨b.toNat % 16, Nat.mod_lt _ (by omega)⟩
theorem wr1 (b : UInt8) : IntKind.u8.wrap (16 + ((loN b).toNat : Int)) = ((P4 1 b).toNat : Int) := by
 have h : ∀ m : Fin 16, IntKind.u8.wrap (16 + ((m.val : Nat) : Int)) = ((1 * 16 + m.val : Nat) : Int) := by decide +kernel
 rw [R2, Ag0]; exact h ⟨b.toNat % 16, Nat.mod_lt _ (by omega)⟩
theorem Ah9 (l : List UInt8) (leaf : Bool) (n : Nat) (B : Base) (ad : Option Addr) (cap : Nat) (hb : BytesAt B ad l) (hn : l.length = n) (hnc : n ≤ cap) (hc : n ≤ 1099511627776) :
  Does Try.prog 13 [.raw (.slice ad n cap), .bool leaf] B (fun s : Option Addr × Nat => .raw (.slice s.1 (pfx l leaf).length s.2)) (fun s B' => BytesAt B' s.1 (pfx l leaf) ∧ (pfx l leaf).length ≤ s.2) := by
 subst hn
 refine K0 Dj8 (fun s B B' hB hR => ⟨hR.1.ext hB, hR.2⟩) Try.func13 rfl Dg6 (by simp [Try.f13]) (by simp [A0, closed]) (fun B0 hB0 => A3 1000 ?_)
 replace hb := hb.ext hB0
 by_cases hpar : l.length % 2 = 1
 ·have c1 : ((l.length : Int) % 2 == 1) = true := by rw [beq_iff_eq]; omega
  have m1 := hb.ld 0 (by omega)
  have m2 := hb.lS 0 (by omega)
  have m3 := hb.lD (by omega)
  have m4 := hb.ok.so (by omega)
  obtain ⟨c, hc0⟩ : ∃ c, c = l.getD 0 0 := ⟨_, rfl⟩
  rw [← hc0] at m1
  have e15 := Be4 c
  have w3 := wr3 c
  have w1 := wr1 c
  have hM := H3 hb 1 hnc
  have hML : (l.drop 1).length = l.length - 1 := List.length_drop
  obtain ⟨m, hm⟩ : ∃ m, m = l.drop 1 := ⟨_, rfl⟩
  rw [← hm] at hM hML
  obtain ⟨mA, hmA⟩ : ∃ mA, mA = (if cap = 1 then ad else ad.map (·.add 1)) := ⟨_, rfl⟩
  rw [← hmA] at hM
  simp only [Addr.add, Nat.one_ne_zero, if_false] at hmA
  cases leaf with
  | true =>
   have hH : pfx l true = P4 3 c :: G0 m := by
    rw [hm]
    have : l = c :: l.drop 1 := by
     cases l with
     | nil => simp at hpar
     | cons x r => simp at hc0; simp [hc0]
    rw [pfx, if_pos hpar]
    generalize l.drop 1 = m at this
    subst this
    rfl
   repeat' (first | with_reducible refine And.intro (by first | omega | (constructor <;> assumption) | (simp; done) | (simp; omega) | ((repeat' refine And.intro ?_ ?_) <;> first | omega | assumption | (refine SlOk.so (n := ?_) ?_ ?_; rotate_left; assumption; omega) | (simp; done) | fail)) ?_ | simp (maxSteps := 4000000) (disch := omega) only [go_sem, ↓reduceIte, Try.f13, c1, m1, bE, e15, w3, w1, ← hmA])
   refine H1 (S := Nat × Nat × List EV) (fun s => 2 * s.1 ≤ (l.length - 1) ∧ lOk [.int .u8 0] (s.1 + 1) (some s.2))
    (fun s => ⟨[(7, .int .i64 (2 * s.1 : Nat)), (6, .sl 0 0 (s.1 + 1) s.2.1), (0, .raw (.slice mA (l.length - 1) (cap - 1)))], 1, [(0, lO 5 ((Y1 (P4 3 c) (m) s.1).map bE) (some s.2))], B0, []⟩)
    (fun s => (l.length - 1) - 2 * s.1) (0, 1, []) ⟨Nat.zero_le _, Nat.le_refl _, by simp only [maxLen]; omega, rfl, by simp⟩ (Weak.sub (A7 (by simp [wσ, go_sem, closed, A0, A4, R3, N3, bE] <;> omega) (by simp [whs, Go.Ew.hget, go_sem, EObj.closed, closed, A0, A4, R3, N3, bE]) (by first | (simp [*]; done) | (simp only [cxG]; omega)) rfl rfl (by simp))) ?_
   rintro ⟨i, cp, rest⟩ ⟨hi, hl⟩
   simp only at hi hl ⊢
   rcases Nat.lt_or_ge (2 * i) ((l.length - 1)) with hi2 | hi2
   ·have cA : decide (((2 * i : Nat) : Int) < (((l.length - 1) : Nat) : Int)) = true := decide_eq_true (by omega)
    have htk := Aa4 (P4 3 c) (m) i (by omega)
    have m1 := hM.ld (2 * i) (by omega)
    have m2 := hM.lS (2 * i) (by omega)
    have m5 := hM.ld (2 * i + 1) (by omega)
    have m6 := hM.lS (2 * i + 1) (by omega)
    have m3 := hM.lD (by omega)
    have m4 := hM.ok.so (by omega)
    obtain ⟨e, he0⟩ : ∃ e, e = (m).getD (2 * i) 0 := ⟨_, rfl⟩
    obtain ⟨d, hd0⟩ : ∃ d, d = (m).getD (2 * i + 1) 0 := ⟨_, rfl⟩
    rw [← he0] at m1 htk
    rw [← hd0] at m5 htk
    have e4 := Cs0 e
    have e15 := Be4 d
    have eor := Cs1 e d
    have g1 : ((2 * i : Nat) : Int).toNat = 2 * i := Int.toNat_natCast _
    have g2 : (((2 * i : Nat) : Int) + 1).toNat = 2 * i + 1 := by omega
    have hpl := Q1 (P4 3 c) (m) i (by omega)
    refine A3 1000 ?_
    repeat' (first | with_reducible refine And.intro (by first | omega | (constructor <;> assumption) | (simp; done) | ((repeat' refine And.intro ?_ ?_) <;> first | omega | assumption | (refine SlOk.so (n := ?_) ?_ ?_; rotate_left; assumption; omega) | (simp; done) | fail)) ?_ | simp (maxSteps := 4000000) (disch := omega) only [go_sem, ↓reduceIte, cA, g1, g2, m1, m5, bE, e4, e15, eor] | with_reducible refine C8 (id := 11) [0, 1, 2, 3, 4, 5, 6, 7, 8, 9, 10, 11, 12, 13, 14, 15] mixed (by kernel_rfl) (by simp) (fun hin => D4 1000 hin ?_))
    refine S9 (T := 5) (l := some (cp, rest)) (xs := Y1 (P4 3 c) (m) i) 48 0 (i + 1) [P4 e d] [100047] rfl rfl Try.underlying22 (.inl ⟨_, Try.underlying22⟩) zr5 cz5 by5 hpl rfl rfl hl (fun B hs hB hfb => ⟨_, G9 (by rw [hfb 100047 (by simp)]; rfl) rfl, by simp⟩) (by simp only [List.length_singleton]; omega) (by simp) (by kernel_rfl) (F7 (by kernel_rfl) (C3 (by kernel_rfl))) (fun l5 hl5 => D4 1000 (by assumption) ?_)
    have hl5' := hl5
    obtain ⟨cp2, rest2, rfl, -⟩ := E5 hl5 (by omega)
    simp only [C0]
    repeat' (simp (maxSteps := 4000000) (disch := omega) only [go_sem, ↓reduceIte])
    refine D9 (by kernel_rfl) (C3 (by kernel_rfl)) ?_
    refine J2 [100048] 0 (by simp) (by simp) (by simp) (by simp) (A3 1000 ?_)
    rw [← htk]
    repeat' (simp (maxSteps := 4000000) (disch := omega) only [go_sem, ↓reduceIte, okC, okE, R1, E8, G1 (ks := [100048]) (k := 0) hl5' (A5 0 (Y1 (P4 3 c) (m) (i + 1))) hz8, E1, List.length_singleton])
    have cl2 : ∀ n, clO n (lO 5 ((Y1 (P4 3 c) (m) (i + 1)).map bE) (some (cp2, rest2))) = True := fun n => K2 hl5' (A5 0 _) hz8
    exact ⟨(i + 1, cp2, rest2), ⟨by simp only; omega, hl5'⟩, Weak.sub (A7 (by simp [wσ, go_sem, closed, A0, A4, cl2, C0] <;> omega) (by simp [whs, Go.Ew.hget, go_sem, EObj.closed, closed, A0, A4, cl2, C0]) (by first | (simp [*]; done) | (simp only [cxG]; omega)) rfl rfl (by simp)), by simp only; omega⟩
   ·have cA : decide (((2 * i : Nat) : Int) < (((l.length - 1) : Nat) : Int)) = false := decide_eq_false (by omega)
    have hpe : Y1 (P4 3 c) (m) i = pfx l true := by rw [hH, Y1, List.take_of_length_le (by omega)]
    have hpl := Q1 (P4 3 c) (m) i (by omega)
    rw [hpe] at hpl
    rw [← hpl] at hl
    rw [← hpl, hpe]
    refine J3 (xs := pfx l true) (T := 5) 0 (pfx l true).length rfl rfl hl (by simp) (fun b2 ad2 cap2 B4 hB4 hfz hbY hcap2 => A3 1000 ?_)
    change BExt B0 B4 at hB4
    rw [C0] at hfz
    simp [frz] at hfz
    obtain ⟨rfl, rfl⟩ := hfz
    repeat' (first | with_reducible refine And.intro (by omega) ?_ | simp (maxSteps := 4000000) (disch := omega) only [go_sem, ↓reduceIte, cA, frz] | with_reducible refine A3 1000 ?_)
    first | exact ⟨hB4, (_, _), rfl, trivial, hbY, hcap2⟩ | exact ⟨(_, _), rfl, trivial, hbY, hcap2⟩
  | false =>
   have hH : pfx l false = P4 1 c :: G0 m := by
    rw [hm]
    have : l = c :: l.drop 1 := by
     cases l with
     | nil => simp at hpar
     | cons x r => simp at hc0; simp [hc0]
    rw [pfx, if_pos hpar]
    generalize l.drop 1 = m at this
    subst this
    rfl
   repeat' (first | with_reducible refine And.intro (by first | omega | (constructor <;> assumption) | (simp; done) | (simp; omega) | ((repeat' refine And.intro ?_ ?_) <;> first | omega | assumption | (refine SlOk.so (n := ?_) ?_ ?_; rotate_left; assumption; omega) | (simp; done) | fail)) ?_ | simp (maxSteps := 4000000) (disch := omega) only [go_sem, ↓reduceIte, Try.f13, c1, m1, bE, e15, w3, w1, ← hmA])
   refine H1 (S := Nat × Nat × List EV) (fun s => 2 * s.1 ≤ (l.length - 1) ∧ lOk [.int .u8 0] (s.1 + 1) (some s.2))
    (fun s => ⟨[(7, .int .i64 (2 * s.1 : Nat)), (6, .sl 0 0 (s.1 + 1) s.2.1), (0, .raw (.slice mA (l.length - 1) (cap - 1)))], 1, [(0, lO 5 ((Y1 (P4 1 c) (m) s.1).map bE) (some s.2))], B0, []⟩)
    (fun s => (l.length - 1) - 2 * s.1) (0, 1, []) ⟨Nat.zero_le _, Nat.le_refl _, by simp only [maxLen]; omega, rfl, by simp⟩ (Weak.sub (A7 (by simp [wσ, go_sem, closed, A0, A4, R3, N3, bE] <;> omega) (by simp [whs, Go.Ew.hget, go_sem, EObj.closed, closed, A0, A4, R3, N3, bE]) (by first | (simp [*]; done) | (simp only [cxG]; omega)) rfl rfl (by simp))) ?_
   rintro ⟨i, cp, rest⟩ ⟨hi, hl⟩
   simp only at hi hl ⊢
   rcases Nat.lt_or_ge (2 * i) ((l.length - 1)) with hi2 | hi2
   ·have cA : decide (((2 * i : Nat) : Int) < (((l.length - 1) : Nat) : Int)) = true := decide_eq_true (by omega)
    have htk := Aa4 (P4 1 c) (m) i (by omega)
    have m1 := hM.ld (2 * i) (by omega)
    have m2 := hM.lS (2 * i) (by omega)
    have m5 := hM.ld (2 * i + 1) (by omega)
    have m6 := hM.lS (2 * i + 1) (by omega)
    have m3 := hM.lD (by omega)
    have m4 := hM.ok.so (by omega)
    obtain ⟨e, he0⟩ : ∃ e, e = (m).getD (2 * i) 0 := ⟨_, rfl⟩
    obtain ⟨d, hd0⟩ : ∃ d, d = (m).getD (2 * i + 1) 0 := ⟨_, rfl⟩
    rw [← he0] at m1 htk
    rw [← hd0] at m5 htk
    have e4 := Cs0 e
    have e15 := Be4 d
    have eor := Cs1 e d
    have g1 : ((2 * i : Nat) : Int).toNat = 2 * i := Int.toNat_natCast _
    have g2 : (((2 * i : Nat) : Int) + 1).toNat = 2 * i + 1 := by omega
    have hpl := Q1 (P4 1 c) (m) i (by omega)
    refine A3 1000 ?_
    repeat' (first | with_reducible refine And.intro (by first | omega | (constructor <;> assumption) | (simp; done) | ((repeat' refine And.intro ?_ ?_) <;> first | omega | assumption | (refine SlOk.so (n := ?_) ?_ ?_; rotate_left; assumption; omega) | (simp; done) | fail)) ?_ | simp (maxSteps := 4000000) (disch := omega) only [go_sem, ↓reduceIte, cA, g1, g2, m1, m5, bE, e4, e15, eor] | with_reducible refine C8 (id := 11) [0, 1, 2, 3, 4, 5, 6, 7, 8, 9, 10, 11, 12, 13, 14, 15] mixed (by kernel_rfl) (by simp) (fun hin => D4 1000 hin ?_))
    refine S9 (T := 5) (l := some (cp, rest)) (xs := Y1 (P4 1 c) (m) i) 48 0 (i + 1) [P4 e d] [100047] rfl rfl Try.underlying22 (.inl ⟨_, Try.underlying22⟩) zr5 cz5 by5 hpl rfl rfl hl (fun B hs hB hfb => ⟨_, G9 (by rw [hfb 100047 (by simp)]; rfl) rfl, by simp⟩) (by simp only [List.length_singleton]; omega) (by simp) (by kernel_rfl) (F7 (by kernel_rfl) (C3 (by kernel_rfl))) (fun l5 hl5 => D4 1000 (by assumption) ?_)
    have hl5' := hl5
    obtain ⟨cp2, rest2, rfl, -⟩ := E5 hl5 (by omega)
    simp only [C0]
    repeat' (simp (maxSteps := 4000000) (disch := omega) only [go_sem, ↓reduceIte])
    refine D9 (by kernel_rfl) (C3 (by kernel_rfl)) ?_
    refine J2 [100048] 0 (by simp) (by simp) (by simp) (by simp) (A3 1000 ?_)
    rw [← htk]
    repeat' (simp (maxSteps := 4000000) (disch := omega) only [go_sem, ↓reduceIte, okC, okE, R1, E8, G1 (ks := [100048]) (k := 0) hl5' (A5 0 (Y1 (P4 1 c) (m) (i + 1))) hz8, E1, List.length_singleton])
    have cl2 : ∀ n, clO n (lO 5 ((Y1 (P4 1 c) (m) (i + 1)).map bE) (some (cp2, rest2))) = True := fun n => K2 hl5' (A5 0 _) hz8
    exact ⟨(i + 1, cp2, rest2), ⟨by simp only; omega, hl5'⟩, Weak.sub (A7 (by simp [wσ, go_sem, closed, A0, A4, cl2, C0] <;> omega) (by simp [whs, Go.Ew.hget, go_sem, EObj.closed, closed, A0, A4, cl2, C0]) (by first | (simp [*]; done) | (simp only [cxG]; omega)) rfl rfl (by simp)), by simp only; omega⟩
   ·have cA : decide (((2 * i : Nat) : Int) < (((l.length - 1) : Nat) : Int)) = false := decide_eq_false (by omega)
    have hpe : Y1 (P4 1 c) (m) i = pfx l false := by rw [hH, Y1, List.take_of_length_le (by omega)]
    have hpl := Q1 (P4 1 c) (m) i (by omega)
    rw [hpe] at hpl
    rw [← hpl] at hl
    rw [← hpl, hpe]
    refine J3 (xs := pfx l false) (T := 5) 0 (pfx l false).length rfl rfl hl (by simp) (fun b2 ad2 cap2 B4 hB4 hfz hbY hcap2 => A3 1000 ?_)
    change BExt B0 B4 at hB4
    rw [C0] at hfz
    simp [frz] at hfz
    obtain ⟨rfl, rfl⟩ := hfz
    repeat' (first | with_reducible refine And.intro (by omega) ?_ | simp (maxSteps := 4000000) (disch := omega) only [go_sem, ↓reduceIte, cA, frz] | with_reducible refine A3 1000 ?_)
    first | exact ⟨hB4, (_, _), rfl, trivial, hbY, hcap2⟩ | exact ⟨(_, _), rfl, trivial, hbY, hcap2⟩
 ·have c1 : ((l.length : Int) % 2 == 1) = false := by rw [beq_eq_false_iff_ne]; omega
  have hM := hb
  cases leaf with
  | true =>
   have hH : pfx l true = 32 :: G0 l := by rw [pfx, if_neg hpar]; rfl
   repeat' (first | with_reducible refine And.intro (by first | omega | (simp; done)) ?_ | simp (maxSteps := 4000000) (disch := omega) only [go_sem, ↓reduceIte, Try.f13, c1])
   refine H1 (S := Nat × Nat × List EV) (fun s => 2 * s.1 ≤ l.length ∧ lOk [.int .u8 0] (s.1 + 1) (some s.2))
    (fun s => ⟨[(7, .int .i64 (2 * s.1 : Nat)), (6, .sl 0 0 (s.1 + 1) s.2.1), (0, .raw (.slice ad l.length cap))], 1, [(0, lO 5 ((Y1 (32 : UInt8) (l) s.1).map bE) (some s.2))], B0, []⟩)
    (fun s => l.length - 2 * s.1) (0, 1, []) ⟨Nat.zero_le _, Nat.le_refl _, by simp only [maxLen]; omega, rfl, by simp⟩ (Weak.sub (A7 (by simp [wσ, go_sem, closed, A0, A4, R3, N3, bE] <;> omega) (by simp [whs, Go.Ew.hget, go_sem, EObj.closed, closed, A0, A4, R3, N3, bE]) (by first | (simp [*]; done) | (simp only [cxG]; omega)) rfl rfl (by simp))) ?_
   rintro ⟨i, cp, rest⟩ ⟨hi, hl⟩
   simp only at hi hl ⊢
   rcases Nat.lt_or_ge (2 * i) (l.length) with hi2 | hi2
   ·have cA : decide (((2 * i : Nat) : Int) < ((l.length : Nat) : Int)) = true := decide_eq_true (by omega)
    have htk := Aa4 (32 : UInt8) (l) i (by omega)
    have m1 := hM.ld (2 * i) (by omega)
    have m2 := hM.lS (2 * i) (by omega)
    have m5 := hM.ld (2 * i + 1) (by omega)
    have m6 := hM.lS (2 * i + 1) (by omega)
    have m3 := hM.lD (by omega)
    have m4 := hM.ok.so (by omega)
    obtain ⟨e, he0⟩ : ∃ e, e = (l).getD (2 * i) 0 := ⟨_, rfl⟩
    obtain ⟨d, hd0⟩ : ∃ d, d = (l).getD (2 * i + 1) 0 := ⟨_, rfl⟩
    rw [← he0] at m1 htk
    rw [← hd0] at m5 htk
    have e4 := Cs0 e
    have e15 := Be4 d
    have eor := Cs1 e d
    have g1 : ((2 * i : Nat) : Int).toNat = 2 * i := Int.toNat_natCast _
    have g2 : (((2 * i : Nat) : Int) + 1).toNat = 2 * i + 1 := by omega
    have hpl := Q1 (32 : UInt8) (l) i (by omega)
    refine A3 1000 ?_
    repeat' (first | with_reducible refine And.intro (by first | omega | (constructor <;> assumption) | (simp; done) | ((repeat' refine And.intro ?_ ?_) <;> first | omega | assumption | (refine SlOk.so (n := ?_) ?_ ?_; rotate_left; assumption; omega) | (simp; done) | fail)) ?_ | simp (maxSteps := 4000000) (disch := omega) only [go_sem, ↓reduceIte, cA, g1, g2, m1, m5, bE, e4, e15, eor] | with_reducible refine C8 (id := 11) [0, 1, 2, 3, 4, 5, 6, 7, 8, 9, 10, 11, 12, 13, 14, 15] mixed (by kernel_rfl) (by simp) (fun hin => D4 1000 hin ?_))
    refine S9 (T := 5) (l := some (cp, rest)) (xs := Y1 (32 : UInt8) (l) i) 48 0 (i + 1) [P4 e d] [100047] rfl rfl Try.underlying22 (.inl ⟨_, Try.underlying22⟩) zr5 cz5 by5 hpl rfl rfl hl (fun B hs hB hfb => ⟨_, G9 (by rw [hfb 100047 (by simp)]; rfl) rfl, by simp⟩) (by simp only [List.length_singleton]; omega) (by simp) (by kernel_rfl) (F7 (by kernel_rfl) (C3 (by kernel_rfl))) (fun l5 hl5 => D4 1000 (by assumption) ?_)
    have hl5' := hl5
    obtain ⟨cp2, rest2, rfl, -⟩ := E5 hl5 (by omega)
    simp only [C0]
    repeat' (simp (maxSteps := 4000000) (disch := omega) only [go_sem, ↓reduceIte])
    refine D9 (by kernel_rfl) (C3 (by kernel_rfl)) ?_
    refine J2 [100048] 0 (by simp) (by simp) (by simp) (by simp) (A3 1000 ?_)
    rw [← htk]
    repeat' (simp (maxSteps := 4000000) (disch := omega) only [go_sem, ↓reduceIte, okC, okE, R1, E8, G1 (ks := [100048]) (k := 0) hl5' (A5 0 (Y1 (32 : UInt8) (l) (i + 1))) hz8, E1, List.length_singleton])
    have cl2 : ∀ n, clO n (lO 5 ((Y1 (32 : UInt8) (l) (i + 1)).map bE) (some (cp2, rest2))) = True := fun n => K2 hl5' (A5 0 _) hz8
    exact ⟨(i + 1, cp2, rest2), ⟨by simp only; omega, hl5'⟩, Weak.sub (A7 (by simp [wσ, go_sem, closed, A0, A4, cl2, C0] <;> omega) (by simp [whs, Go.Ew.hget, go_sem, EObj.closed, closed, A0, A4, cl2, C0]) (by first | (simp [*]; done) | (simp only [cxG]; omega)) rfl rfl (by simp)), by simp only; omega⟩
   ·have cA : decide (((2 * i : Nat) : Int) < ((l.length : Nat) : Int)) = false := decide_eq_false (by omega)
    have hpe : Y1 (32 : UInt8) (l) i = pfx l true := by rw [hH, Y1, List.take_of_length_le (by omega)]
    have hpl := Q1 (32 : UInt8) (l) i (by omega)
    rw [hpe] at hpl
    rw [← hpl] at hl
    rw [← hpl, hpe]
    refine J3 (xs := pfx l true) (T := 5) 0 (pfx l true).length rfl rfl hl (by simp) (fun b2 ad2 cap2 B4 hB4 hfz hbY hcap2 => A3 1000 ?_)
    change BExt B0 B4 at hB4
    rw [C0] at hfz
    simp [frz] at hfz
    obtain ⟨rfl, rfl⟩ := hfz
    repeat' (first | with_reducible refine And.intro (by omega) ?_ | simp (maxSteps := 4000000) (disch := omega) only [go_sem, ↓reduceIte, cA, frz] | with_reducible refine A3 1000 ?_)
    first | exact ⟨hB4, (_, _), rfl, trivial, hbY, hcap2⟩ | exact ⟨(_, _), rfl, trivial, hbY, hcap2⟩
  | false =>
   have hH : pfx l false = 0 :: G0 l := by rw [pfx, if_neg hpar]; rfl
   repeat' (first | with_reducible refine And.intro (by first | omega | (simp; done)) ?_ | simp (maxSteps := 4000000) (disch := omega) only [go_sem, ↓reduceIte, Try.f13, c1])
   refine H1 (S := Nat × Nat × List EV) (fun s => 2 * s.1 ≤ l.length ∧ lOk [.int .u8 0] (s.1 + 1) (some s.2))
    (fun s => ⟨[(7, .int .i64 (2 * s.1 : Nat)), (6, .sl 0 0 (s.1 + 1) s.2.1), (0, .raw (.slice ad l.length cap))], 1, [(0, lO 5 ((Y1 (0 : UInt8) (l) s.1).map bE) (some s.2))], B0, []⟩)
    (fun s => l.length - 2 * s.1) (0, 1, []) ⟨Nat.zero_le _, Nat.le_refl _, by simp only [maxLen]; omega, rfl, by simp⟩ (Weak.sub (A7 (by simp [wσ, go_sem, closed, A0, A4, R3, N3, bE] <;> omega) (by simp [whs, Go.Ew.hget, go_sem, EObj.closed, closed, A0, A4, R3, N3, bE]) (by first | (simp [*]; done) | (simp only [cxG]; omega)) rfl rfl (by simp))) ?_
   rintro ⟨i, cp, rest⟩ ⟨hi, hl⟩
   simp only at hi hl ⊢
   rcases Nat.lt_or_ge (2 * i) (l.length) with hi2 | hi2
   ·have cA : decide (((2 * i : Nat) : Int) < ((l.length : Nat) : Int)) = true := decide_eq_true (by omega)
    have htk := Aa4 (0 : UInt8) (l) i (by omega)
    have m1 := hM.ld (2 * i) (by omega)
    have m2 := hM.lS (2 * i) (by omega)
    have m5 := hM.ld (2 * i + 1) (by omega)
    have m6 := hM.lS (2 * i + 1) (by omega)
    have m3 := hM.lD (by omega)
    have m4 := hM.ok.so (by omega)
    obtain ⟨e, he0⟩ : ∃ e, e = (l).getD (2 * i) 0 := ⟨_, rfl⟩
    obtain ⟨d, hd0⟩ : ∃ d, d = (l).getD (2 * i + 1) 0 := ⟨_, rfl⟩
    rw [← he0] at m1 htk
    rw [← hd0] at m5 htk
    have e4 := Cs0 e
    have e15 := Be4 d
    have eor := Cs1 e d
    have g1 : ((2 * i : Nat) : Int).toNat = 2 * i := Int.toNat_natCast _
    have g2 : (((2 * i : Nat) : Int) + 1).toNat = 2 * i + 1 := by omega
    have hpl := Q1 (0 : UInt8) (l) i (by omega)
    refine A3 1000 ?_
    repeat' (first | with_reducible refine And.intro (by first | omega | (constructor <;> assumption) | (simp; done) | ((repeat' refine And.intro ?_ ?_) <;> first | omega | assumption | (refine SlOk.so (n := ?_) ?_ ?_; rotate_left; assumption; omega) | (simp; done) | fail)) ?_ | simp (maxSteps := 4000000) (disch := omega) only [go_sem, ↓reduceIte, cA, g1, g2, m1, m5, bE, e4, e15, eor] | with_reducible refine C8 (id := 11) [0, 1, 2, 3, 4, 5, 6, 7, 8, 9, 10, 11, 12, 13, 14, 15] mixed (by kernel_rfl) (by simp) (fun hin => D4 1000 hin ?_))
    refine S9 (T := 5) (l := some (cp, rest)) (xs := Y1 (0 : UInt8) (l) i) 48 0 (i + 1) [P4 e d] [100047] rfl rfl Try.underlying22 (.inl ⟨_, Try.underlying22⟩) zr5 cz5 by5 hpl rfl rfl hl (fun B hs hB hfb => ⟨_, G9 (by rw [hfb 100047 (by simp)]; rfl) rfl, by simp⟩) (by simp only [List.length_singleton]; omega) (by simp) (by kernel_rfl) (F7 (by kernel_rfl) (C3 (by kernel_rfl))) (fun l5 hl5 => D4 1000 (by assumption) ?_)
    have hl5' := hl5
    obtain ⟨cp2, rest2, rfl, -⟩ := E5 hl5 (by omega)
    simp only [C0]
    repeat' (simp (maxSteps := 4000000) (disch := omega) only [go_sem, ↓reduceIte])
    refine D9 (by kernel_rfl) (C3 (by kernel_rfl)) ?_
    refine J2 [100048] 0 (by simp) (by simp) (by simp) (by simp) (A3 1000 ?_)
    rw [← htk]
    repeat' (simp (maxSteps := 4000000) (disch := omega) only [go_sem, ↓reduceIte, okC, okE, R1, E8, G1 (ks := [100048]) (k := 0) hl5' (A5 0 (Y1 (0 : UInt8) (l) (i + 1))) hz8, E1, List.length_singleton])
    have cl2 : ∀ n, clO n (lO 5 ((Y1 (0 : UInt8) (l) (i + 1)).map bE) (some (cp2, rest2))) = True := fun n => K2 hl5' (A5 0 _) hz8
    exact ⟨(i + 1, cp2, rest2), ⟨by simp only; omega, hl5'⟩, Weak.sub (A7 (by simp [wσ, go_sem, closed, A0, A4, cl2, C0] <;> omega) (by simp [whs, Go.Ew.hget, go_sem, EObj.closed, closed, A0, A4, cl2, C0]) (by first | (simp [*]; done) | (simp only [cxG]; omega)) rfl rfl (by simp)), by simp only; omega⟩
   ·have cA : decide (((2 * i : Nat) : Int) < ((l.length : Nat) : Int)) = false := decide_eq_false (by omega)
    have hpe : Y1 (0 : UInt8) (l) i = pfx l false := by rw [hH, Y1, List.take_of_length_le (by omega)]
    have hpl := Q1 (0 : UInt8) (l) i (by omega)
    rw [hpe] at hpl
    rw [← hpl] at hl
    rw [← hpl, hpe]
    refine J3 (xs := pfx l false) (T := 5) 0 (pfx l false).length rfl rfl hl (by simp) (fun b2 ad2 cap2 B4 hB4 hfz hbY hcap2 => A3 1000 ?_)
    change BExt B0 B4 at hB4
    rw [C0] at hfz
    simp [frz] at hfz
    obtain ⟨rfl, rfl⟩ := hfz
    repeat' (first | with_reducible refine And.intro (by omega) ?_ | simp (maxSteps := 4000000) (disch := omega) only [go_sem, ↓reduceIte, cA, frz] | with_reducible refine A3 1000 ?_)
    first | exact ⟨hB4, (_, _), rfl, trivial, hbY, hcap2⟩ | exact ⟨(_, _), rfl, trivial, hbY, hcap2⟩
end Go.Proofs.Ytncjbfkkgdepoaa
namespace Go.Proofs.Ytncjbfkkgdepoaa
open Go RowKit Go.Ew
set_option maxHeartbeats 4000000
def lst (ks : List Itm) : Itm := .mk 1 [] ks
end Go.Proofs.Ytncjbfkkgdepoaa
namespace Go.Proofs.Ytncjbfkkgdepoaa
open Go RowKit Go.Ew
set_option maxHeartbeats 8000000
theorem Cv6 : C4 Try.f145.ntmps (Try.f145.body.getD .skip) = true := by kernel_rfl
theorem Cv3 : C4 Try.f148.ntmps (Try.f148.body.getD .skip) = true := by kernel_rfl
theorem Cv1 : C4 Try.f150.ntmps (Try.f150.body.getD .skip) = true := by kernel_rfl
theorem Cv2 : C4 Try.f149.ntmps (Try.f149.body.getD .skip) = true := by kernel_rfl
theorem Df2 : C4 Try.f38.ntmps (Try.f38.body.getD .skip) = true := by kernel_rfl
def Bg4 (p : List UInt8) : List UInt8 := (List.range 32).map fun i => UInt8.ofNat (N9 p i).toNat
theorem O0 (p : List UInt8) : (Bg4 p).length = 32 := by simp [Bg4]
theorem Z0 (p : List UInt8) : (Bg4 p).map bE = C9 .u8 (N9 p) 32 := by
 simp only [Bg4, C9, List.map_map]
 apply List.map_congr_left
 intro i _
 have h := An8 p i
 simp only [Function.comp_def, bE]
 rw [UInt8.toNat_ofNat_of_lt' (by show _ < 256; omega)]
 congr 1
 first | done | omega
def P5 (t : Itm) : Itm := if (J1 t).length < 32 then t else txt (Bg4 (J1 t))
mutual
def E6 : Nd → Itm
 | .nil => txt []
 | .leaf r v => lst [txt (pfx r true), txt v]
 | .ext r k => lst [txt (pfx r false), P5 (E6 k)]
 | .br ks v => lst (Ae3 ks ++ [txt v])
def Ae3 : List Nd → List Itm
 | [] => []
 | k :: ks => P5 (E6 k) :: Ae3 ks
end
theorem Aa3 (ks : List Nd) : Ae3 ks = ks.map fun k => P5 (E6 k) := by
 induction ks with
 | nil => rfl
 | cons k ks ih => rw [Ae3, ih]; rfl
theorem Bz1 : P5 (E6 .nil) = txt [] := rfl
/-- The item's function of a node's kind. -/
def itF (T : TypeId) : FuncId := if T = 112 then 145 else if T = 116 then 148 else 150
theorem Bc2 {B : Base} {r v : List UInt8} {b : Nat} (h : NdAt B (.leaf r v) (.iface 112 (.pointer (some ⟨b, 0, none⟩)))) :
  Does Try.prog 145 [.raw (.pointer (some ⟨b, 0, none⟩))] B (fun s : Plc => .agg (itE (E6 (.leaf r v)) s)) (fun s B' => ItAt B' (E6 (.leaf r v)) s) := by
 refine K0 Cx7 (fun s B B' hB hR => hR.ext hB) Try.func145 rfl Cv6 (by simp [Try.f145]) (by simp [A0, closed]) (fun B0 hB0 => A3 1000 ?_)
 replace h := h.ext' hB0
 cases h with
 | leaf r v _ sA wA sc wc hc hsr hwv e1 e2 e3 =>
  obtain ⟨q0, q0d, q0s⟩ := hc.raw (j := 0) (v := .slice sA r.length sc) rfl
  obtain ⟨q1, q1d, q1s⟩ := hc.raw (j := 1) (v := .slice wA v.length wc) rfl
  simp only [F1, Addr.add, ↓reduceIte, Nat.reduceAdd, Nat.reduceEqDiff, D0, if_false, Nat.zero_add, Nat.one_ne_zero] at q0 q0s q1 q1s
  have qD : B0.D b := q0d
  have hpl : (pfx r true).length ≤ 1099511627776 := by rw [pfx, I5]; split <;> simp <;> omega
  repeat' (first | with_reducible refine And.intro (by first | omega | (constructor <;> assumption)) ?_ | simp (maxSteps := 4000000) (disch := omega) only [go_sem, ↓reduceIte, Try.f145, q0, q1] | with_reducible refine C8 (id := 1) [0, 1, 2, 3, 6, 7, 8, 9, 4, 5, 10, 11, 12, 13] mixed (by kernel_rfl) (by simp) (fun hin => D4 1000 hin ?_))
  refine G7 (Ah9 r true r.length _ sA sc hsr rfl e1 e2) (fun _ => by simp [closed, A0]) (by kernel_rfl) (F7 (by kernel_rfl) (C3 (by kernel_rfl))) (fun hin2 s5 B5 hB5 hR5 => D4 1000 hin2 ?_)
  change BExt B0 B5 at hB5
  repeat' (simp (maxSteps := 4000000) (disch := omega) only [go_sem, ↓reduceIte])
  refine G7 (Ac2 (pfx r true) _ _ s5.1 s5.2 hR5.1 rfl hpl) (fun _ => by simp [closed, A0]) (by kernel_rfl) (F7 (by kernel_rfl) (C3 (by kernel_rfl))) (fun hin2 s6 B6 hB6 hR6 => D4 1000 hin2 ?_)
  change BExt B5 B6 at hB6
  have hBX := hB5.trans hB6
  repeat' (simp (maxSteps := 4000000) (disch := omega) only [go_sem, ↓reduceIte])
  refine G7 (Ac2 v _ _ wA wc (hwv.ext hBX) rfl e3) (fun _ => by simp [closed, A0]) (by kernel_rfl) (F7 (by kernel_rfl) (C3 (by kernel_rfl))) (fun hin2 s7 B7 hB7 hR7 => D4 1000 hin2 ?_)
  change BExt B6 B7 at hB7
  repeat' (first | with_reducible refine And.intro (by first | omega | (simp; done)) ?_ | simp (maxSteps := 4000000) (disch := omega) only [go_sem, ↓reduceIte])
  refine Ay3 100014 0 2 2 [] ([(txt (pfx r true), s6), (txt v, s7)].flatMap itC) Ca9 rfl rfl rfl (fun s => by simp [closed, A0]) (fun B ad cap hB hc3 => Bc0 [(txt (pfx r true), s6), (txt v, s7)] 2 B ad cap hc3 (by simp) (fun q hq => by
   simp only [List.mem_cons, List.not_mem_nil, or_false] at hq
   rcases hq with rfl | rfl
   ·exact hR6.ext (hB7.trans hB)
   ·exact hR7.ext hB) rfl) (by kernel_rfl) (F7 (by kernel_rfl) (C3 (by kernel_rfl))) (fun hin2 s8 B8 hB8 hR8 => D4 1000 hin2 ?_)
  change BExt B7 B8 at hB8
  repeat' (first | simp (maxSteps := 4000000) (disch := omega) only [go_sem, ↓reduceIte] | with_reducible refine D9 (by kernel_rfl) (C3 (by kernel_rfl)) (A3 1000 ?_))
  have hfin : Itm.mk 1 [] (List.map Prod.fst [(txt (pfx r true), s6), (txt v, s7)]) = E6 (.leaf r v) := rfl
  rw [hfin] at hR8
  first | exact ⟨hB5.trans (hB6.trans (hB7.trans hB8)), s8, rfl, by simp [closed, A0], hR8⟩ | exact ⟨s8, rfl, by simp [closed, A0], hR8⟩
theorem Bl6 {B : Base} {r : List UInt8} {k : Nd} {b : Nat} (h : NdAt B (.ext r k) (.iface 116 (.pointer (some ⟨b, 0, none⟩))))
  (hrf : ∀ B' kv, BExt B B' → NdAt B' k kv → Does Try.prog 149 [.raw kv] B' (fun s : Plc => .agg (itE (P5 (E6 k)) s)) (fun s B' => ItAt B' (P5 (E6 k)) s)) :
  Does Try.prog 148 [.raw (.pointer (some ⟨b, 0, none⟩))] B (fun s : Plc => .agg (itE (E6 (.ext r k)) s)) (fun s B' => ItAt B' (E6 (.ext r k)) s) := by
 refine K0 Cx5 (fun s B B' hB hR => hR.ext hB) Try.func148 rfl Cv3 (by simp [Try.f148]) (by simp [A0, closed]) (fun B0 hB0 => A3 1000 ?_)
 replace h := h.ext' hB0
 cases h with
 | ext r kd _ sA sc kdv hc hsr e1 e2 hkd =>
  obtain ⟨q0, q0d, q0s⟩ := hc.raw (j := 0) (v := .slice sA r.length sc) rfl
  obtain ⟨q1, q1d, q1s⟩ := hc.raw (j := 1) (v := kdv) rfl
  rw [hkd.ofS] at q1
  simp only [F1, Addr.add, ↓reduceIte, Nat.reduceAdd, Nat.reduceEqDiff, D0, if_false, Nat.zero_add, Nat.one_ne_zero] at q0 q0s q1 q1s
  have qD : B0.D b := q0d
  have hpl : (pfx r false).length ≤ 1099511627776 := by rw [pfx, I5]; split <;> simp <;> omega
  repeat' (first | with_reducible refine And.intro (by first | omega | (constructor <;> assumption)) ?_ | simp (maxSteps := 4000000) (disch := omega) only [go_sem, ↓reduceIte, Try.f148, q0, q1] | with_reducible refine C8 (id := 1) [0, 1, 2, 3, 6, 7, 8, 9, 4, 5, 10, 11, 12, 13] mixed (by kernel_rfl) (by simp) (fun hin => D4 1000 hin ?_))
  refine G7 (Ah9 r false r.length _ sA sc hsr rfl e1 e2) (fun _ => by simp [closed, A0]) (by kernel_rfl) (F7 (by kernel_rfl) (C3 (by kernel_rfl))) (fun hin2 s5 B5 hB5 hR5 => D4 1000 hin2 ?_)
  change BExt B0 B5 at hB5
  repeat' (simp (maxSteps := 4000000) (disch := omega) only [go_sem, ↓reduceIte])
  refine G7 (Ac2 (pfx r false) _ _ s5.1 s5.2 hR5.1 rfl hpl) (fun _ => by simp [closed, A0]) (by kernel_rfl) (F7 (by kernel_rfl) (C3 (by kernel_rfl))) (fun hin2 s6 B6 hB6 hR6 => D4 1000 hin2 ?_)
  change BExt B5 B6 at hB6
  have hBX := hB5.trans hB6
  repeat' (simp (maxSteps := 4000000) (disch := omega) only [go_sem, ↓reduceIte])
  refine G7 (hrf B6 kdv (hB0.trans hBX) (hkd.ext' hBX)) (fun _ => by simp [closed, A0]) (by kernel_rfl) (F7 (by kernel_rfl) (C3 (by kernel_rfl))) (fun hin2 s7 B7 hB7 hR7 => D4 1000 hin2 ?_)
  change BExt B6 B7 at hB7
  repeat' (first | with_reducible refine And.intro (by first | omega | (simp; done)) ?_ | simp (maxSteps := 4000000) (disch := omega) only [go_sem, ↓reduceIte])
  refine Ay3 100014 0 2 2 [] ([(txt (pfx r false), s6), (P5 (E6 k), s7)].flatMap itC) Ca9 rfl rfl rfl (fun s => by simp [closed, A0]) (fun B ad cap hB hc3 => Bc0 [(txt (pfx r false), s6), (P5 (E6 k), s7)] 2 B ad cap hc3 (by simp) (fun q hq => by
   simp only [List.mem_cons, List.not_mem_nil, or_false] at hq
   rcases hq with rfl | rfl
   ·exact hR6.ext (hB7.trans hB)
   ·exact hR7.ext hB) rfl) (by kernel_rfl) (F7 (by kernel_rfl) (C3 (by kernel_rfl))) (fun hin2 s8 B8 hB8 hR8 => D4 1000 hin2 ?_)
  change BExt B7 B8 at hB8
  repeat' (first | simp (maxSteps := 4000000) (disch := omega) only [go_sem, ↓reduceIte] | with_reducible refine D9 (by kernel_rfl) (C3 (by kernel_rfl)) (A3 1000 ?_))
  have hfin : Itm.mk 1 [] (List.map Prod.fst [(txt (pfx r false), s6), (P5 (E6 k), s7)]) = E6 (.ext r k) := rfl
  rw [hfin] at hR8
  first | exact ⟨hB5.trans (hB6.trans (hB7.trans hB8)), s8, rfl, by simp [closed, A0], hR8⟩ | exact ⟨s8, rfl, by simp [closed, A0], hR8⟩
theorem Cf0 {B : Base} {nd : Nd} {T : TypeId} {b : Nat} (h : NdAt B nd (.iface T (.pointer (some ⟨b, 0, none⟩)))) (w : World) : (method (Try.prog.types.size + Made.depth) T (.pointer (some ⟨b, 0, none⟩)) "cairn/trie.item").run Try.prog w = .ok (itF T, .pointer (some ⟨b, 0, none⟩)) w := by
 cases h with
 | leaf => kernel_rfl
 | ext => kernel_rfl
 | br => kernel_rfl
theorem Bt4 {B : Base} {nd : Nd} {T : TypeId} {b : Nat} (h : NdAt B nd (.iface T (.pointer (some ⟨b, 0, none⟩))))
  (hi : Does Try.prog (itF T) [.raw (.pointer (some ⟨b, 0, none⟩))] B (fun s : Plc => .agg (itE (E6 nd) s)) (fun s B' => ItAt B' (E6 nd) s)) (hok : chk (E6 nd) 0 = 0) (hf : (J1 (E6 nd)).length < 35184372088832) :
  Does Try.prog 38 [.raw (.iface T (.pointer (some ⟨b, 0, none⟩)))] B (fun s : Option Addr × Nat => .raw (.slice s.1 (J1 (E6 nd)).length s.2)) (fun s B' => BytesAt B' s.1 (J1 (E6 nd)) ∧ (J1 (E6 nd)).length ≤ s.2) := by
 refine K0 Di8 (fun s B B' hB hR => ⟨hR.1.ext hB, hR.2⟩) Try.func38 rfl Df2 (by simp [Try.f38]) (by simp [A0, closed]) (fun B0 hB0 => A3 1000 ?_)
 repeat' (simp (maxSteps := 4000000) (disch := omega) only [go_sem, ↓reduceIte, Try.f38])
 refine Db3 rfl rfl (Cf0 h) ?_
 refine F4 (M9 hi hB0) (fun _ => by simp [closed, A0]) (fun s1 B1 hB1 hR1 => A3 1000 ?_)
 change BExt B0 B1 at hB1
 repeat' (simp (maxSteps := 4000000) (disch := omega) only [go_sem, ↓reduceIte])
 refine F4 (Cp5 hR1 hok hf) (fun _ => by simp [closed, A0]) (fun s2 B2 hB2 hR2 => A3 1000 ?_)
 change BExt B1 B2 at hB2
 repeat' (simp (maxSteps := 4000000) (disch := omega) only [go_sem, ↓reduceIte])
 first | exact ⟨hB1.trans hB2, s2, rfl, by simp [closed, A0], hR2⟩ | exact ⟨s2, rfl, by simp [closed, A0], hR2⟩
end Go.Proofs.Ytncjbfkkgdepoaa
