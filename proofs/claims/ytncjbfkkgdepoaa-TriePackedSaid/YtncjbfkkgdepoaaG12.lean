/- Part of a proof over the seat Ytncjbfkkgdepoaa. -/
import Derived.Test.YtncjbfkkgdepoaaTD
import Derived.Test.YtncjbfkkgdepoaaG09
import Derived.Test.YtncjbfkkgdepoaaEng2
set_option linter.unusedSimpArgs false
set_option linter.unusedVariables false
set_option maxRecDepth 100000
namespace Go.Proofs.Ytncjbfkkgdepoaa
open Go RowKit Go.Ew
set_option maxHeartbeats 8000000
theorem Dc7 : C5 Try.f13.ntmps (Try.f13.body.getD .skip) = true := by kernel_rfl
def M0 (a b : UInt8) : UInt8 := UInt8.ofNat (a.toNat % 16 * 16 + b.toNat % 16)
theorem Aa1 (a b : UInt8) : (M0 a b).toNat = a.toNat % 16 * 16 + b.toNat % 16 :=
 UInt8.toNat_ofNat_of_lt' (by show _ < 256; omega)
def O6 : List UInt8 → List UInt8
 | a :: b :: r => M0 a b :: O6 r
 | _ => []
theorem R9 : ∀ l : List UInt8, (O6 l).length = l.length / 2
 | [] => rfl
 | [_] => by simp [O6]
 | a :: b :: r => by
  simp only [O6, List.length_cons, R9 r]
  omega
theorem An7 : ∀ (l : List UInt8) (i : Nat), 2 * i + 1 < l.length → O6 (l.take (2 * (i + 1))) = O6 (l.take (2 * i)) ++ [M0 (l.getD (2 * i) 0) (l.getD (2 * i + 1) 0)]
 | [], i, h => by simp at h
 | [_], i, h => by simp at h
 | a :: b :: r, 0, h => by simp [O6]
 | a :: b :: r, i + 1, h => by
  have e1 : 2 * (i + 1 + 1) = 2 * (i + 1) + 2 := by omega
  have e2 : 2 * (i + 1) = 2 * i + 2 := by omega
  have e3 : 2 * i + 2 + 1 = 2 * i + 1 + 2 := by omega
  have := An7 r i (by simp at h; omega)
  rw [e2] at this
  rw [e1, e2, List.take_succ_cons, List.take_succ_cons, List.take_succ_cons, List.take_succ_cons, O6, O6, this, e3]
  simp
def fpx (leaf : Bool) : UInt8 := if leaf then 2 else 0
def pfx (l : List UInt8) (leaf : Bool) : List UInt8 := O6 ((if l.length % 2 = 1 then [fpx leaf + 1] else [fpx leaf, 0]) ++ l)
theorem Ce3 (c : UInt8) : Bw9 .u8 (c.toNat : Int) 4 = (c.toNat % 16 * 16 : Nat) := by
 have h : ∀ n : Fin 256, Bw9 .u8 ((n.val : Nat) : Int) 4 = ((n.val % 16 * 16 : Nat) : Int) := by decide +kernel
 exact h ⟨c.toNat, c.toNat_lt⟩
theorem Ce9 (a b : UInt8) : bOr .u8 ((a.toNat % 16 * 16 : Nat) : Int) ((loN b).toNat : Int) = ((M0 a b).toNat : Int) := by
 have h : ∀ n m : Fin 16, bOr .u8 ((n.val * 16 : Nat) : Int) ((m.val : Nat) : Int) = ((n.val * 16 + m.val : Nat) : Int) := by decide +kernel
 rw [O4, Aa1]; exact h ⟨a.toNat % 16, Nat.mod_lt _ (by omega)⟩ ⟨b.toNat % 16, Nat.mod_lt _ (by omega)⟩
def M1 (h : UInt8) (m : List UInt8) (i : Nat) : List UInt8 := h :: O6 (m.take (2 * i))
theorem G6 (h : UInt8) (m : List UInt8) : M1 h m 0 = [h] := by simp [M1, O6]
theorem I3 (h : UInt8) (m : List UInt8) (i : Nat) (hi : 2 * i ≤ m.length) : (M1 h m i).length = i + 1 := by
 rw [M1, List.length_cons, R9, List.length_take]; omega
theorem N8 (h : UInt8) (m : List UInt8) (i : Nat) (hi : 2 * i + 1 < m.length) : M1 h m (i + 1) = M1 h m i ++ [M0 (m.getD (2 * i) 0) (m.getD (2 * i + 1) 0)] := by
 rw [M1, An7 m i hi, M1]; rfl
theorem wr3 (b : UInt8) : IntKind.u8.wrap (48 + ((loN b).toNat : Int)) = ((M0 3 b).toNat : Int) := by
 have h : ∀ m : Fin 16, IntKind.u8.wrap (48 + ((m.val : Nat) : Int)) = ((3 * 16 + m.val : Nat) : Int) := by decide +kernel
 rw [O4, Aa1]; exact h ⟨b.toNat % 16, Nat.mod_lt _ (by omega)⟩
theorem wr1 (b : UInt8) : IntKind.u8.wrap (16 + ((loN b).toNat : Int)) = ((M0 1 b).toNat : Int) := by
 have h : ∀ m : Fin 16, IntKind.u8.wrap (16 + ((m.val : Nat) : Int)) = ((1 * 16 + m.val : Nat) : Int) := by decide +kernel
 rw [O4, Aa1]; exact h ⟨b.toNat % 16, Nat.mod_lt _ (by omega)⟩
theorem Aw3 (l : List UInt8) (leaf : Bool) (n : Nat) (B : Base) (ad : Option Addr) (cap : Nat) (hb : BytesAt B ad l) (hn : l.length = n) (hnc : n ≤ cap) (hc : n ≤ 1099511627776) :
  Does Try.prog 13 [.raw (.slice ad n cap), .bool leaf] B (fun s : Option Addr × Nat => .raw (.slice s.1 (pfx l leaf).length s.2)) (fun s B' => BytesAt B' s.1 (pfx l leaf) ∧ (pfx l leaf).length ≤ s.2) := by
 subst hn
 refine J9 Dd6 (fun s B B' hB hR => ⟨hR.1.ext hB, hR.2⟩) Try.func13 rfl Dc7 (by simp [Try.f13]) (by simp [A0, closed]) (fun B0 hB0 => A3 1000 ?_)
 replace hb := hb.ext hB0
 by_cases hpar : l.length % 2 = 1
 ·have c1 : ((l.length : Int) % 2 == 1) = true := by rw [beq_iff_eq]; omega
  have m1 := hb.ld 0 (by omega)
  have m2 := hb.lS 0 (by omega)
  have m3 := hb.lD (by omega)
  have m4 := hb.ok.so (by omega)
  obtain ⟨c, hc0⟩ : ∃ c, c = l.getD 0 0 := ⟨_, rfl⟩
  rw [← hc0] at m1
  have e15 := Ae5 c
  have w3 := wr3 c
  have w1 := wr1 c
  have hM := I1 hb 1 hnc
  have hML : (l.drop 1).length = l.length - 1 := List.length_drop
  obtain ⟨m, hm⟩ : ∃ m, m = l.drop 1 := ⟨_, rfl⟩
  rw [← hm] at hM hML
  obtain ⟨mA, hmA⟩ : ∃ mA, mA = (if cap = 1 then ad else ad.map (·.add 1)) := ⟨_, rfl⟩
  rw [← hmA] at hM
  simp only [Addr.add, Nat.one_ne_zero, if_false] at hmA
  cases leaf with
  | true =>
   have hH : pfx l true = M0 3 c :: O6 m := by
    rw [hm]
    have : l = c :: l.drop 1 := by
     cases l with
     | nil => simp at hpar
     | cons x r => simp at hc0; simp [hc0]
    rw [pfx, if_pos hpar]
    generalize l.drop 1 = m at this
    subst this
    rfl
   repeat' (first | with_reducible refine And.intro (by first | omega | (constructor <;> assumption) | (simp; done) | (simp; omega) | ((repeat' refine And.intro ?_ ?_) <;> first | omega | assumption | (refine SlOk.so (n := ?_) ?_ ?_; rotate_left; assumption; omega) | (simp; done) | fail)) ?_ | simp (maxSteps := 4000000) (disch := omega) only [go_sem, ↓reduceIte, Try.f13, c1, m1, bE, e15, w3, w1, ← hmA])
   refine G1 (S := Nat × Nat × List EV) (fun s => 2 * s.1 ≤ (l.length - 1) ∧ lOk [.int .u8 0] (s.1 + 1) (some s.2))
    (fun s => ⟨[(7, .int .i64 (2 * s.1 : Nat)), (6, .sl 0 0 (s.1 + 1) s.2.1), (0, .raw (.slice mA (l.length - 1) (cap - 1)))], 1, [(0, lO 5 ((M1 (M0 3 c) (m) s.1).map bE) (some s.2))], B0, []⟩)
    (fun s => (l.length - 1) - 2 * s.1) (0, 1, []) ⟨Nat.zero_le _, Nat.le_refl _, by simp only [maxLen]; omega, rfl, by simp⟩ (Weak.sub (A5 (by simp [wσ, go_sem, closed, A0, A4, H3, G6, bE] <;> omega) (by simp [whs, Go.Ew.hget, go_sem, EObj.closed, closed, A0, A4, H3, G6, bE]) (by first | (simp [*]; done) | (simp only [cxG]; omega)) rfl rfl (by simp))) ?_
   rintro ⟨i, cp, rest⟩ ⟨hi, hl⟩
   simp only at hi hl ⊢
   rcases Nat.lt_or_ge (2 * i) ((l.length - 1)) with hi2 | hi2
   ·have cA : decide (((2 * i : Nat) : Int) < (((l.length - 1) : Nat) : Int)) = true := decide_eq_true (by omega)
    have htk := N8 (M0 3 c) (m) i (by omega)
    have m1 := hM.ld (2 * i) (by omega)
    have m2 := hM.lS (2 * i) (by omega)
    have m5 := hM.ld (2 * i + 1) (by omega)
    have m6 := hM.lS (2 * i + 1) (by omega)
    have m3 := hM.lD (by omega)
    have m4 := hM.ok.so (by omega)
    obtain ⟨e, he0⟩ : ∃ e, e = (m).getD (2 * i) 0 := ⟨_, rfl⟩
    obtain ⟨d, hd0⟩ : ∃ d, d = (m).getD (2 * i + 1) 0 := ⟨_, rfl⟩
    rw [← he0] at m1 htk
    rw [← hd0] at m5 htk
    have e4 := Ce3 e
    have e15 := Ae5 d
    have eor := Ce9 e d
    have g1 : ((2 * i : Nat) : Int).toNat = 2 * i := Int.toNat_natCast _
    have g2 : (((2 * i : Nat) : Int) + 1).toNat = 2 * i + 1 := by omega
    have hpl := I3 (M0 3 c) (m) i (by omega)
    refine A3 1000 ?_
    repeat' (first | with_reducible refine And.intro (by first | omega | (constructor <;> assumption) | (simp; done) | ((repeat' refine And.intro ?_ ?_) <;> first | omega | assumption | (refine SlOk.so (n := ?_) ?_ ?_; rotate_left; assumption; omega) | (simp; done) | fail)) ?_ | simp (maxSteps := 4000000) (disch := omega) only [go_sem, ↓reduceIte, cA, g1, g2, m1, m5, bE, e4, e15, eor] | with_reducible refine D6 (id := 11) [0, 1, 2, 3, 4, 5, 6, 7, 8, 9, 10, 11, 12, 13, 14, 15] mixed (by kernel_rfl) (by simp) (fun hin => D4 1000 hin ?_))
    refine Ac3 (T := 5) (l := some (cp, rest)) (xs := M1 (M0 3 c) (m) i) 48 0 (i + 1) [M0 e d] [100047] rfl rfl Try.underlying22 (.inl ⟨_, Try.underlying22⟩) zr5 cz5 by5 hpl rfl rfl hl (fun B hs hB hfb => ⟨_, J5 (by rw [hfb 100047 (by simp)]; rfl) rfl, by simp⟩) (by simp only [List.length_singleton]; omega) (by simp) (by kernel_rfl) (F9 (by kernel_rfl) (C3 (by kernel_rfl))) (fun l5 hl5 => D4 1000 (by assumption) ?_)
    have hl5' := hl5
    obtain ⟨cp2, rest2, rfl, -⟩ := E6 hl5 (by omega)
    simp only [C1]
    repeat' (simp (maxSteps := 4000000) (disch := omega) only [go_sem, ↓reduceIte])
    refine E1 (by kernel_rfl) (C3 (by kernel_rfl)) ?_
    refine L0 [100048] 0 (by simp) (by simp) (by simp) (by simp) (A3 1000 ?_)
    rw [← htk]
    repeat' (simp (maxSteps := 4000000) (disch := omega) only [go_sem, ↓reduceIte, okC, okE, U9, F2, H2 (ks := [100048]) (k := 0) hl5' (A7 0 (M1 (M0 3 c) (m) (i + 1))) hz8, E3, List.length_singleton])
    have cl2 : ∀ n, clO n (lO 5 ((M1 (M0 3 c) (m) (i + 1)).map bE) (some (cp2, rest2))) = True := fun n => J4 hl5' (A7 0 _) hz8
    exact ⟨(i + 1, cp2, rest2), ⟨by simp only; omega, hl5'⟩, Weak.sub (A5 (by simp [wσ, go_sem, closed, A0, A4, cl2, C1] <;> omega) (by simp [whs, Go.Ew.hget, go_sem, EObj.closed, closed, A0, A4, cl2, C1]) (by first | (simp [*]; done) | (simp only [cxG]; omega)) rfl rfl (by simp)), by simp only; omega⟩
   ·have cA : decide (((2 * i : Nat) : Int) < (((l.length - 1) : Nat) : Int)) = false := decide_eq_false (by omega)
    have hpe : M1 (M0 3 c) (m) i = pfx l true := by rw [hH, M1, List.take_of_length_le (by omega)]
    have hpl := I3 (M0 3 c) (m) i (by omega)
    rw [hpe] at hpl
    rw [← hpl] at hl
    rw [← hpl, hpe]
    refine J8 (xs := pfx l true) (T := 5) 0 (pfx l true).length rfl rfl hl (by simp) (fun b2 ad2 cap2 B4 hB4 hfz hbY hcap2 => A3 1000 ?_)
    change BExt B0 B4 at hB4
    rw [C1] at hfz
    simp [frz] at hfz
    obtain ⟨rfl, rfl⟩ := hfz
    repeat' (first | with_reducible refine And.intro (by omega) ?_ | simp (maxSteps := 4000000) (disch := omega) only [go_sem, ↓reduceIte, cA, frz] | with_reducible refine A3 1000 ?_)
    first | exact ⟨hB4, (_, _), rfl, trivial, hbY, hcap2⟩ | exact ⟨(_, _), rfl, trivial, hbY, hcap2⟩
  | false =>
   have hH : pfx l false = M0 1 c :: O6 m := by
    rw [hm]
    have : l = c :: l.drop 1 := by
     cases l with
     | nil => simp at hpar
     | cons x r => simp at hc0; simp [hc0]
    rw [pfx, if_pos hpar]
    generalize l.drop 1 = m at this
    subst this
    rfl
   repeat' (first | with_reducible refine And.intro (by first | omega | (constructor <;> assumption) | (simp; done) | (simp; omega) | ((repeat' refine And.intro ?_ ?_) <;> first | omega | assumption | (refine SlOk.so (n := ?_) ?_ ?_; rotate_left; assumption; omega) | (simp; done) | fail)) ?_ | simp (maxSteps := 4000000) (disch := omega) only [go_sem, ↓reduceIte, Try.f13, c1, m1, bE, e15, w3, w1, ← hmA])
   refine G1 (S := Nat × Nat × List EV) (fun s => 2 * s.1 ≤ (l.length - 1) ∧ lOk [.int .u8 0] (s.1 + 1) (some s.2))
    (fun s => ⟨[(7, .int .i64 (2 * s.1 : Nat)), (6, .sl 0 0 (s.1 + 1) s.2.1), (0, .raw (.slice mA (l.length - 1) (cap - 1)))], 1, [(0, lO 5 ((M1 (M0 1 c) (m) s.1).map bE) (some s.2))], B0, []⟩)
    (fun s => (l.length - 1) - 2 * s.1) (0, 1, []) ⟨Nat.zero_le _, Nat.le_refl _, by simp only [maxLen]; omega, rfl, by simp⟩ (Weak.sub (A5 (by simp [wσ, go_sem, closed, A0, A4, H3, G6, bE] <;> omega) (by simp [whs, Go.Ew.hget, go_sem, EObj.closed, closed, A0, A4, H3, G6, bE]) (by first | (simp [*]; done) | (simp only [cxG]; omega)) rfl rfl (by simp))) ?_
   rintro ⟨i, cp, rest⟩ ⟨hi, hl⟩
   simp only at hi hl ⊢
   rcases Nat.lt_or_ge (2 * i) ((l.length - 1)) with hi2 | hi2
   ·have cA : decide (((2 * i : Nat) : Int) < (((l.length - 1) : Nat) : Int)) = true := decide_eq_true (by omega)
    have htk := N8 (M0 1 c) (m) i (by omega)
    have m1 := hM.ld (2 * i) (by omega)
    have m2 := hM.lS (2 * i) (by omega)
    have m5 := hM.ld (2 * i + 1) (by omega)
    have m6 := hM.lS (2 * i + 1) (by omega)
    have m3 := hM.lD (by omega)
    have m4 := hM.ok.so (by omega)
    obtain ⟨e, he0⟩ : ∃ e, e = (m).getD (2 * i) 0 := ⟨_, rfl⟩
    obtain ⟨d, hd0⟩ : ∃ d, d = (m).getD (2 * i + 1) 0 := ⟨_, rfl⟩
    rw [← he0] at m1 htk
    rw [← hd0] at m5 htk
    have e4 := Ce3 e
    have e15 := Ae5 d
    have eor := Ce9 e d
    have g1 : ((2 * i : Nat) : Int).toNat = 2 * i := Int.toNat_natCast _
    have g2 : (((2 * i : Nat) : Int) + 1).toNat = 2 * i + 1 := by omega
    have hpl := I3 (M0 1 c) (m) i (by omega)
    refine A3 1000 ?_
    repeat' (first | with_reducible refine And.intro (by first | omega | (constructor <;> assumption) | (simp; done) | ((repeat' refine And.intro ?_ ?_) <;> first | omega | assumption | (refine SlOk.so (n := ?_) ?_ ?_; rotate_left; assumption; omega) | (simp; done) | fail)) ?_ | simp (maxSteps := 4000000) (disch := omega) only [go_sem, ↓reduceIte, cA, g1, g2, m1, m5, bE, e4, e15, eor] | with_reducible refine D6 (id := 11) [0, 1, 2, 3, 4, 5, 6, 7, 8, 9, 10, 11, 12, 13, 14, 15] mixed (by kernel_rfl) (by simp) (fun hin => D4 1000 hin ?_))
    refine Ac3 (T := 5) (l := some (cp, rest)) (xs := M1 (M0 1 c) (m) i) 48 0 (i + 1) [M0 e d] [100047] rfl rfl Try.underlying22 (.inl ⟨_, Try.underlying22⟩) zr5 cz5 by5 hpl rfl rfl hl (fun B hs hB hfb => ⟨_, J5 (by rw [hfb 100047 (by simp)]; rfl) rfl, by simp⟩) (by simp only [List.length_singleton]; omega) (by simp) (by kernel_rfl) (F9 (by kernel_rfl) (C3 (by kernel_rfl))) (fun l5 hl5 => D4 1000 (by assumption) ?_)
    have hl5' := hl5
    obtain ⟨cp2, rest2, rfl, -⟩ := E6 hl5 (by omega)
    simp only [C1]
    repeat' (simp (maxSteps := 4000000) (disch := omega) only [go_sem, ↓reduceIte])
    refine E1 (by kernel_rfl) (C3 (by kernel_rfl)) ?_
    refine L0 [100048] 0 (by simp) (by simp) (by simp) (by simp) (A3 1000 ?_)
    rw [← htk]
    repeat' (simp (maxSteps := 4000000) (disch := omega) only [go_sem, ↓reduceIte, okC, okE, U9, F2, H2 (ks := [100048]) (k := 0) hl5' (A7 0 (M1 (M0 1 c) (m) (i + 1))) hz8, E3, List.length_singleton])
    have cl2 : ∀ n, clO n (lO 5 ((M1 (M0 1 c) (m) (i + 1)).map bE) (some (cp2, rest2))) = True := fun n => J4 hl5' (A7 0 _) hz8
    exact ⟨(i + 1, cp2, rest2), ⟨by simp only; omega, hl5'⟩, Weak.sub (A5 (by simp [wσ, go_sem, closed, A0, A4, cl2, C1] <;> omega) (by simp [whs, Go.Ew.hget, go_sem, EObj.closed, closed, A0, A4, cl2, C1]) (by first | (simp [*]; done) | (simp only [cxG]; omega)) rfl rfl (by simp)), by simp only; omega⟩
   ·have cA : decide (((2 * i : Nat) : Int) < (((l.length - 1) : Nat) : Int)) = false := decide_eq_false (by omega)
    have hpe : M1 (M0 1 c) (m) i = pfx l false := by rw [hH, M1, List.take_of_length_le (by omega)]
    have hpl := I3 (M0 1 c) (m) i (by omega)
    rw [hpe] at hpl
    rw [← hpl] at hl
    rw [← hpl, hpe]
    refine J8 (xs := pfx l false) (T := 5) 0 (pfx l false).length rfl rfl hl (by simp) (fun b2 ad2 cap2 B4 hB4 hfz hbY hcap2 => A3 1000 ?_)
    change BExt B0 B4 at hB4
    rw [C1] at hfz
    simp [frz] at hfz
    obtain ⟨rfl, rfl⟩ := hfz
    repeat' (first | with_reducible refine And.intro (by omega) ?_ | simp (maxSteps := 4000000) (disch := omega) only [go_sem, ↓reduceIte, cA, frz] | with_reducible refine A3 1000 ?_)
    first | exact ⟨hB4, (_, _), rfl, trivial, hbY, hcap2⟩ | exact ⟨(_, _), rfl, trivial, hbY, hcap2⟩
 ·have c1 : ((l.length : Int) % 2 == 1) = false := by rw [beq_eq_false_iff_ne]; omega
  have hM := hb
  cases leaf with
  | true =>
   have hH : pfx l true = 32 :: O6 l := by rw [pfx, if_neg hpar]; rfl
   repeat' (first | with_reducible refine And.intro (by first | omega | (simp; done)) ?_ | simp (maxSteps := 4000000) (disch := omega) only [go_sem, ↓reduceIte, Try.f13, c1])
   refine G1 (S := Nat × Nat × List EV) (fun s => 2 * s.1 ≤ l.length ∧ lOk [.int .u8 0] (s.1 + 1) (some s.2))
    (fun s => ⟨[(7, .int .i64 (2 * s.1 : Nat)), (6, .sl 0 0 (s.1 + 1) s.2.1), (0, .raw (.slice ad l.length cap))], 1, [(0, lO 5 ((M1 (32 : UInt8) (l) s.1).map bE) (some s.2))], B0, []⟩)
    (fun s => l.length - 2 * s.1) (0, 1, []) ⟨Nat.zero_le _, Nat.le_refl _, by simp only [maxLen]; omega, rfl, by simp⟩ (Weak.sub (A5 (by simp [wσ, go_sem, closed, A0, A4, H3, G6, bE] <;> omega) (by simp [whs, Go.Ew.hget, go_sem, EObj.closed, closed, A0, A4, H3, G6, bE]) (by first | (simp [*]; done) | (simp only [cxG]; omega)) rfl rfl (by simp))) ?_
   rintro ⟨i, cp, rest⟩ ⟨hi, hl⟩
   simp only at hi hl ⊢
   rcases Nat.lt_or_ge (2 * i) (l.length) with hi2 | hi2
   ·have cA : decide (((2 * i : Nat) : Int) < ((l.length : Nat) : Int)) = true := decide_eq_true (by omega)
    have htk := N8 (32 : UInt8) (l) i (by omega)
    have m1 := hM.ld (2 * i) (by omega)
    have m2 := hM.lS (2 * i) (by omega)
    have m5 := hM.ld (2 * i + 1) (by omega)
    have m6 := hM.lS (2 * i + 1) (by omega)
    have m3 := hM.lD (by omega)
    have m4 := hM.ok.so (by omega)
    obtain ⟨e, he0⟩ : ∃ e, e = (l).getD (2 * i) 0 := ⟨_, rfl⟩
    obtain ⟨d, hd0⟩ : ∃ d, d = (l).getD (2 * i + 1) 0 := ⟨_, rfl⟩
    rw [← he0] at m1 htk
    rw [← hd0] at m5 htk
    have e4 := Ce3 e
    have e15 := Ae5 d
    have eor := Ce9 e d
    have g1 : ((2 * i : Nat) : Int).toNat = 2 * i := Int.toNat_natCast _
    have g2 : (((2 * i : Nat) : Int) + 1).toNat = 2 * i + 1 := by omega
    have hpl := I3 (32 : UInt8) (l) i (by omega)
    refine A3 1000 ?_
    repeat' (first | with_reducible refine And.intro (by first | omega | (constructor <;> assumption) | (simp; done) | ((repeat' refine And.intro ?_ ?_) <;> first | omega | assumption | (refine SlOk.so (n := ?_) ?_ ?_; rotate_left; assumption; omega) | (simp; done) | fail)) ?_ | simp (maxSteps := 4000000) (disch := omega) only [go_sem, ↓reduceIte, cA, g1, g2, m1, m5, bE, e4, e15, eor] | with_reducible refine D6 (id := 11) [0, 1, 2, 3, 4, 5, 6, 7, 8, 9, 10, 11, 12, 13, 14, 15] mixed (by kernel_rfl) (by simp) (fun hin => D4 1000 hin ?_))
    refine Ac3 (T := 5) (l := some (cp, rest)) (xs := M1 (32 : UInt8) (l) i) 48 0 (i + 1) [M0 e d] [100047] rfl rfl Try.underlying22 (.inl ⟨_, Try.underlying22⟩) zr5 cz5 by5 hpl rfl rfl hl (fun B hs hB hfb => ⟨_, J5 (by rw [hfb 100047 (by simp)]; rfl) rfl, by simp⟩) (by simp only [List.length_singleton]; omega) (by simp) (by kernel_rfl) (F9 (by kernel_rfl) (C3 (by kernel_rfl))) (fun l5 hl5 => D4 1000 (by assumption) ?_)
    have hl5' := hl5
    obtain ⟨cp2, rest2, rfl, -⟩ := E6 hl5 (by omega)
    simp only [C1]
    repeat' (simp (maxSteps := 4000000) (disch := omega) only [go_sem, ↓reduceIte])
    refine E1 (by kernel_rfl) (C3 (by kernel_rfl)) ?_
    refine L0 [100048] 0 (by simp) (by simp) (by simp) (by simp) (A3 1000 ?_)
    rw [← htk]
    repeat' (simp (maxSteps := 4000000) (disch := omega) only [go_sem, ↓reduceIte, okC, okE, U9, F2, H2 (ks := [100048]) (k := 0) hl5' (A7 0 (M1 (32 : UInt8) (l) (i + 1))) hz8, E3, List.length_singleton])
    have cl2 : ∀ n, clO n (lO 5 ((M1 (32 : UInt8) (l) (i + 1)).map bE) (some (cp2, rest2))) = True := fun n => J4 hl5' (A7 0 _) hz8
    exact ⟨(i + 1, cp2, rest2), ⟨by simp only; omega, hl5'⟩, Weak.sub (A5 (by simp [wσ, go_sem, closed, A0, A4, cl2, C1] <;> omega) (by simp [whs, Go.Ew.hget, go_sem, EObj.closed, closed, A0, A4, cl2, C1]) (by first | (simp [*]; done) | (simp only [cxG]; omega)) rfl rfl (by simp)), by simp only; omega⟩
   ·have cA : decide (((2 * i : Nat) : Int) < ((l.length : Nat) : Int)) = false := decide_eq_false (by omega)
    have hpe : M1 (32 : UInt8) (l) i = pfx l true := by rw [hH, M1, List.take_of_length_le (by omega)]
    have hpl := I3 (32 : UInt8) (l) i (by omega)
    rw [hpe] at hpl
    rw [← hpl] at hl
    rw [← hpl, hpe]
    refine J8 (xs := pfx l true) (T := 5) 0 (pfx l true).length rfl rfl hl (by simp) (fun b2 ad2 cap2 B4 hB4 hfz hbY hcap2 => A3 1000 ?_)
    change BExt B0 B4 at hB4
    rw [C1] at hfz
    simp [frz] at hfz
    obtain ⟨rfl, rfl⟩ := hfz
    repeat' (first | with_reducible refine And.intro (by omega) ?_ | simp (maxSteps := 4000000) (disch := omega) only [go_sem, ↓reduceIte, cA, frz] | with_reducible refine A3 1000 ?_)
    first | exact ⟨hB4, (_, _), rfl, trivial, hbY, hcap2⟩ | exact ⟨(_, _), rfl, trivial, hbY, hcap2⟩
  | false =>
   have hH : pfx l false = 0 :: O6 l := by rw [pfx, if_neg hpar]; rfl
   repeat' (first | with_reducible refine And.intro (by first | omega | (simp; done)) ?_ | simp (maxSteps := 4000000) (disch := omega) only [go_sem, ↓reduceIte, Try.f13, c1])
   refine G1 (S := Nat × Nat × List EV) (fun s => 2 * s.1 ≤ l.length ∧ lOk [.int .u8 0] (s.1 + 1) (some s.2))
    (fun s => ⟨[(7, .int .i64 (2 * s.1 : Nat)), (6, .sl 0 0 (s.1 + 1) s.2.1), (0, .raw (.slice ad l.length cap))], 1, [(0, lO 5 ((M1 (0 : UInt8) (l) s.1).map bE) (some s.2))], B0, []⟩)
    (fun s => l.length - 2 * s.1) (0, 1, []) ⟨Nat.zero_le _, Nat.le_refl _, by simp only [maxLen]; omega, rfl, by simp⟩ (Weak.sub (A5 (by simp [wσ, go_sem, closed, A0, A4, H3, G6, bE] <;> omega) (by simp [whs, Go.Ew.hget, go_sem, EObj.closed, closed, A0, A4, H3, G6, bE]) (by first | (simp [*]; done) | (simp only [cxG]; omega)) rfl rfl (by simp))) ?_
   rintro ⟨i, cp, rest⟩ ⟨hi, hl⟩
   simp only at hi hl ⊢
   rcases Nat.lt_or_ge (2 * i) (l.length) with hi2 | hi2
   ·have cA : decide (((2 * i : Nat) : Int) < ((l.length : Nat) : Int)) = true := decide_eq_true (by omega)
    have htk := N8 (0 : UInt8) (l) i (by omega)
    have m1 := hM.ld (2 * i) (by omega)
    have m2 := hM.lS (2 * i) (by omega)
    have m5 := hM.ld (2 * i + 1) (by omega)
    have m6 := hM.lS (2 * i + 1) (by omega)
    have m3 := hM.lD (by omega)
    have m4 := hM.ok.so (by omega)
    obtain ⟨e, he0⟩ : ∃ e, e = (l).getD (2 * i) 0 := ⟨_, rfl⟩
    obtain ⟨d, hd0⟩ : ∃ d, d = (l).getD (2 * i + 1) 0 := ⟨_, rfl⟩
    rw [← he0] at m1 htk
    rw [← hd0] at m5 htk
    have e4 := Ce3 e
    have e15 := Ae5 d
    have eor := Ce9 e d
    have g1 : ((2 * i : Nat) : Int).toNat = 2 * i := Int.toNat_natCast _
    have g2 : (((2 * i : Nat) : Int) + 1).toNat = 2 * i + 1 := by omega
    have hpl := I3 (0 : UInt8) (l) i (by omega)
    refine A3 1000 ?_
    repeat' (first | with_reducible refine And.intro (by first | omega | (constructor <;> assumption) | (simp; done) | ((repeat' refine And.intro ?_ ?_) <;> first | omega | assumption | (refine SlOk.so (n := ?_) ?_ ?_; rotate_left; assumption; omega) | (simp; done) | fail)) ?_ | simp (maxSteps := 4000000) (disch := omega) only [go_sem, ↓reduceIte, cA, g1, g2, m1, m5, bE, e4, e15, eor] | with_reducible refine D6 (id := 11) [0, 1, 2, 3, 4, 5, 6, 7, 8, 9, 10, 11, 12, 13, 14, 15] mixed (by kernel_rfl) (by simp) (fun hin => D4 1000 hin ?_))
    refine Ac3 (T := 5) (l := some (cp, rest)) (xs := M1 (0 : UInt8) (l) i) 48 0 (i + 1) [M0 e d] [100047] rfl rfl Try.underlying22 (.inl ⟨_, Try.underlying22⟩) zr5 cz5 by5 hpl rfl rfl hl (fun B hs hB hfb => ⟨_, J5 (by rw [hfb 100047 (by simp)]; rfl) rfl, by simp⟩) (by simp only [List.length_singleton]; omega) (by simp) (by kernel_rfl) (F9 (by kernel_rfl) (C3 (by kernel_rfl))) (fun l5 hl5 => D4 1000 (by assumption) ?_)
    have hl5' := hl5
    obtain ⟨cp2, rest2, rfl, -⟩ := E6 hl5 (by omega)
    simp only [C1]
    repeat' (simp (maxSteps := 4000000) (disch := omega) only [go_sem, ↓reduceIte])
    refine E1 (by kernel_rfl) (C3 (by kernel_rfl)) ?_
    refine L0 [100048] 0 (by simp) (by simp) (by simp) (by simp) (A3 1000 ?_)
    rw [← htk]
    repeat' (simp (maxSteps := 4000000) (disch := omega) only [go_sem, ↓reduceIte, okC, okE, U9, F2, H2 (ks := [100048]) (k := 0) hl5' (A7 0 (M1 (0 : UInt8) (l) (i + 1))) hz8, E3, List.length_singleton])
    have cl2 : ∀ n, clO n (lO 5 ((M1 (0 : UInt8) (l) (i + 1)).map bE) (some (cp2, rest2))) = True := fun n => J4 hl5' (A7 0 _) hz8
    exact ⟨(i + 1, cp2, rest2), ⟨by simp only; omega, hl5'⟩, Weak.sub (A5 (by simp [wσ, go_sem, closed, A0, A4, cl2, C1] <;> omega) (by simp [whs, Go.Ew.hget, go_sem, EObj.closed, closed, A0, A4, cl2, C1]) (by first | (simp [*]; done) | (simp only [cxG]; omega)) rfl rfl (by simp)), by simp only; omega⟩
   ·have cA : decide (((2 * i : Nat) : Int) < ((l.length : Nat) : Int)) = false := decide_eq_false (by omega)
    have hpe : M1 (0 : UInt8) (l) i = pfx l false := by rw [hH, M1, List.take_of_length_le (by omega)]
    have hpl := I3 (0 : UInt8) (l) i (by omega)
    rw [hpe] at hpl
    rw [← hpl] at hl
    rw [← hpl, hpe]
    refine J8 (xs := pfx l false) (T := 5) 0 (pfx l false).length rfl rfl hl (by simp) (fun b2 ad2 cap2 B4 hB4 hfz hbY hcap2 => A3 1000 ?_)
    change BExt B0 B4 at hB4
    rw [C1] at hfz
    simp [frz] at hfz
    obtain ⟨rfl, rfl⟩ := hfz
    repeat' (first | with_reducible refine And.intro (by omega) ?_ | simp (maxSteps := 4000000) (disch := omega) only [go_sem, ↓reduceIte, cA, frz] | with_reducible refine A3 1000 ?_)
    first | exact ⟨hB4, (_, _), rfl, trivial, hbY, hcap2⟩ | exact ⟨(_, _), rfl, trivial, hbY, hcap2⟩
end Go.Proofs.Ytncjbfkkgdepoaa
namespace Go.Proofs.Ytncjbfkkgdepoaa
open Go RowKit Go.Ew
set_option maxHeartbeats 4000000
def lst (ks : List Itm) : Itm := .mk 1 [] ks
end Go.Proofs.Ytncjbfkkgdepoaa
namespace Go.Proofs.Ytncjbfkkgdepoaa
open Go RowKit Go.Ew
set_option maxHeartbeats 8000000
theorem Cw7 : C5 Try.f145.ntmps (Try.f145.body.getD .skip) = true := by kernel_rfl
theorem Cw4 : C5 Try.f148.ntmps (Try.f148.body.getD .skip) = true := by kernel_rfl
theorem Cw2 : C5 Try.f150.ntmps (Try.f150.body.getD .skip) = true := by kernel_rfl
theorem Cw3 : C5 Try.f149.ntmps (Try.f149.body.getD .skip) = true := by kernel_rfl
theorem Dg6 : C5 Try.f38.ntmps (Try.f38.body.getD .skip) = true := by kernel_rfl
def Bh1 (p : List UInt8) : List UInt8 := (List.range 32).map fun i => UInt8.ofNat (O5 p i).toNat
theorem O8 (p : List UInt8) : (Bh1 p).length = 32 := by simp [Bh1]
theorem Z3 (p : List UInt8) : (Bh1 p).map bE = C8 .u8 (O5 p) 32 := by
 simp only [Bh1, C8, List.map_map]
 apply List.map_congr_left
 intro i _
 have h := Ao2 p i
 simp only [Function.comp_def, bE]
 rw [UInt8.toNat_ofNat_of_lt' (by show _ < 256; omega)]
 congr 1
 first | done | omega
def Q2 (t : Itm) : Itm := if (J2 t).length < 32 then t else txt (Bh1 (J2 t))
mutual
def E4 : Nd → Itm
 | .nil => txt []
 | .leaf r v => lst [txt (pfx r true), txt v]
 | .ext r k => lst [txt (pfx r false), Q2 (E4 k)]
 | .br ks v => lst (Ae7 ks ++ [txt v])
def Ae7 : List Nd → List Itm
 | [] => []
 | k :: ks => Q2 (E4 k) :: Ae7 ks
end
theorem Aa7 (ks : List Nd) : Ae7 ks = ks.map fun k => Q2 (E4 k) := by
 induction ks with
 | nil => rfl
 | cons k ks ih => rw [Ae7, ih]; rfl
theorem Ca0 : Q2 (E4 .nil) = txt [] := rfl
/-- The item's function of a node's kind. -/
def itF (T : TypeId) : FuncId := if T = 112 then 145 else if T = 116 then 148 else 150
theorem Bc9 {B : Base} {r v : List UInt8} {b : Nat} (h : NdAt B (.leaf r v) (.iface 112 (.pointer (some ⟨b, 0, none⟩)))) :
  Does Try.prog 145 [.raw (.pointer (some ⟨b, 0, none⟩))] B (fun s : Plc => .agg (itE (E4 (.leaf r v)) s)) (fun s B' => ItAt B' (E4 (.leaf r v)) s) := by
 refine J9 Cy8 (fun s B B' hB hR => hR.ext hB) Try.func145 rfl Cw7 (by simp [Try.f145]) (by simp [A0, closed]) (fun B0 hB0 => A3 1000 ?_)
 replace h := h.ext' hB0
 cases h with
 | leaf r v _ sA wA sc wc hc hsr hwv e1 e2 e3 =>
  obtain ⟨q0, q0d, q0s⟩ := hc.raw (j := 0) (v := .slice sA r.length sc) rfl
  obtain ⟨q1, q1d, q1s⟩ := hc.raw (j := 1) (v := .slice wA v.length wc) rfl
  simp only [E8, Addr.add, ↓reduceIte, Nat.reduceAdd, Nat.reduceEqDiff, C9, if_false, Nat.zero_add, Nat.one_ne_zero] at q0 q0s q1 q1s
  have qD : B0.D b := q0d
  have hpl : (pfx r true).length ≤ 1099511627776 := by rw [pfx, R9]; split <;> simp <;> omega
  repeat' (first | with_reducible refine And.intro (by first | omega | (constructor <;> assumption)) ?_ | simp (maxSteps := 4000000) (disch := omega) only [go_sem, ↓reduceIte, Try.f145, q0, q1] | with_reducible refine D6 (id := 1) [0, 1, 2, 3, 6, 7, 8, 9, 4, 5, 10, 11, 12, 13] mixed (by kernel_rfl) (by simp) (fun hin => D4 1000 hin ?_))
  refine G8 (Aw3 r true r.length _ sA sc hsr rfl e1 e2) (fun _ => by simp [closed, A0]) (by kernel_rfl) (F9 (by kernel_rfl) (C3 (by kernel_rfl))) (fun hin2 s5 B5 hB5 hR5 => D4 1000 hin2 ?_)
  change BExt B0 B5 at hB5
  repeat' (simp (maxSteps := 4000000) (disch := omega) only [go_sem, ↓reduceIte])
  refine G8 (Ac6 (pfx r true) _ _ s5.1 s5.2 hR5.1 rfl hpl) (fun _ => by simp [closed, A0]) (by kernel_rfl) (F9 (by kernel_rfl) (C3 (by kernel_rfl))) (fun hin2 s6 B6 hB6 hR6 => D4 1000 hin2 ?_)
  change BExt B5 B6 at hB6
  have hBX := hB5.trans hB6
  repeat' (simp (maxSteps := 4000000) (disch := omega) only [go_sem, ↓reduceIte])
  refine G8 (Ac6 v _ _ wA wc (hwv.ext hBX) rfl e3) (fun _ => by simp [closed, A0]) (by kernel_rfl) (F9 (by kernel_rfl) (C3 (by kernel_rfl))) (fun hin2 s7 B7 hB7 hR7 => D4 1000 hin2 ?_)
  change BExt B6 B7 at hB7
  repeat' (first | with_reducible refine And.intro (by first | omega | (simp; done)) ?_ | simp (maxSteps := 4000000) (disch := omega) only [go_sem, ↓reduceIte])
  refine Ay9 100014 0 2 2 [] ([(txt (pfx r true), s6), (txt v, s7)].flatMap itC) Cb6 rfl rfl rfl (fun s => by simp [closed, A0]) (fun B ad cap hB hc3 => Bc7 [(txt (pfx r true), s6), (txt v, s7)] 2 B ad cap hc3 (by simp) (fun q hq => by
   simp only [List.mem_cons, List.not_mem_nil, or_false] at hq
   rcases hq with rfl | rfl
   ·exact hR6.ext (hB7.trans hB)
   ·exact hR7.ext hB) rfl) (by kernel_rfl) (F9 (by kernel_rfl) (C3 (by kernel_rfl))) (fun hin2 s8 B8 hB8 hR8 => D4 1000 hin2 ?_)
  change BExt B7 B8 at hB8
  repeat' (first | simp (maxSteps := 4000000) (disch := omega) only [go_sem, ↓reduceIte] | with_reducible refine E1 (by kernel_rfl) (C3 (by kernel_rfl)) (A3 1000 ?_))
  have hfin : Itm.mk 1 [] (List.map Prod.fst [(txt (pfx r true), s6), (txt v, s7)]) = E4 (.leaf r v) := rfl
  rw [hfin] at hR8
  first | exact ⟨hB5.trans (hB6.trans (hB7.trans hB8)), s8, rfl, by simp [closed, A0], hR8⟩ | exact ⟨s8, rfl, by simp [closed, A0], hR8⟩
theorem Bm0 {B : Base} {r : List UInt8} {k : Nd} {b : Nat} (h : NdAt B (.ext r k) (.iface 116 (.pointer (some ⟨b, 0, none⟩))))
  (hrf : ∀ B' kv, BExt B B' → NdAt B' k kv → Does Try.prog 149 [.raw kv] B' (fun s : Plc => .agg (itE (Q2 (E4 k)) s)) (fun s B' => ItAt B' (Q2 (E4 k)) s)) :
  Does Try.prog 148 [.raw (.pointer (some ⟨b, 0, none⟩))] B (fun s : Plc => .agg (itE (E4 (.ext r k)) s)) (fun s B' => ItAt B' (E4 (.ext r k)) s) := by
 refine J9 Cy6 (fun s B B' hB hR => hR.ext hB) Try.func148 rfl Cw4 (by simp [Try.f148]) (by simp [A0, closed]) (fun B0 hB0 => A3 1000 ?_)
 replace h := h.ext' hB0
 cases h with
 | ext r kd _ sA sc kdv hc hsr e1 e2 hkd =>
  obtain ⟨q0, q0d, q0s⟩ := hc.raw (j := 0) (v := .slice sA r.length sc) rfl
  obtain ⟨q1, q1d, q1s⟩ := hc.raw (j := 1) (v := kdv) rfl
  rw [hkd.ofS] at q1
  simp only [E8, Addr.add, ↓reduceIte, Nat.reduceAdd, Nat.reduceEqDiff, C9, if_false, Nat.zero_add, Nat.one_ne_zero] at q0 q0s q1 q1s
  have qD : B0.D b := q0d
  have hpl : (pfx r false).length ≤ 1099511627776 := by rw [pfx, R9]; split <;> simp <;> omega
  repeat' (first | with_reducible refine And.intro (by first | omega | (constructor <;> assumption)) ?_ | simp (maxSteps := 4000000) (disch := omega) only [go_sem, ↓reduceIte, Try.f148, q0, q1] | with_reducible refine D6 (id := 1) [0, 1, 2, 3, 6, 7, 8, 9, 4, 5, 10, 11, 12, 13] mixed (by kernel_rfl) (by simp) (fun hin => D4 1000 hin ?_))
  refine G8 (Aw3 r false r.length _ sA sc hsr rfl e1 e2) (fun _ => by simp [closed, A0]) (by kernel_rfl) (F9 (by kernel_rfl) (C3 (by kernel_rfl))) (fun hin2 s5 B5 hB5 hR5 => D4 1000 hin2 ?_)
  change BExt B0 B5 at hB5
  repeat' (simp (maxSteps := 4000000) (disch := omega) only [go_sem, ↓reduceIte])
  refine G8 (Ac6 (pfx r false) _ _ s5.1 s5.2 hR5.1 rfl hpl) (fun _ => by simp [closed, A0]) (by kernel_rfl) (F9 (by kernel_rfl) (C3 (by kernel_rfl))) (fun hin2 s6 B6 hB6 hR6 => D4 1000 hin2 ?_)
  change BExt B5 B6 at hB6
  have hBX := hB5.trans hB6
  repeat' (simp (maxSteps := 4000000) (disch := omega) only [go_sem, ↓reduceIte])
  refine G8 (hrf B6 kdv (hB0.trans hBX) (hkd.ext' hBX)) (fun _ => by simp [closed, A0]) (by kernel_rfl) (F9 (by kernel_rfl) (C3 (by kernel_rfl))) (fun hin2 s7 B7 hB7 hR7 => D4 1000 hin2 ?_)
  change BExt B6 B7 at hB7
  repeat' (first | with_reducible refine And.intro (by first | omega | (simp; done)) ?_ | simp (maxSteps := 4000000) (disch := omega) only [go_sem, ↓reduceIte])
  refine Ay9 100014 0 2 2 [] ([(txt (pfx r false), s6), (Q2 (E4 k), s7)].flatMap itC) Cb6 rfl rfl rfl (fun s => by simp [closed, A0]) (fun B ad cap hB hc3 => Bc7 [(txt (pfx r false), s6), (Q2 (E4 k), s7)] 2 B ad cap hc3 (by simp) (fun q hq => by
   simp only [List.mem_cons, List.not_mem_nil, or_false] at hq
   rcases hq with rfl | rfl
   ·exact hR6.ext (hB7.trans hB)
   ·exact hR7.ext hB) rfl) (by kernel_rfl) (F9 (by kernel_rfl) (C3 (by kernel_rfl))) (fun hin2 s8 B8 hB8 hR8 => D4 1000 hin2 ?_)
  change BExt B7 B8 at hB8
  repeat' (first | simp (maxSteps := 4000000) (disch := omega) only [go_sem, ↓reduceIte] | with_reducible refine E1 (by kernel_rfl) (C3 (by kernel_rfl)) (A3 1000 ?_))
  have hfin : Itm.mk 1 [] (List.map Prod.fst [(txt (pfx r false), s6), (Q2 (E4 k), s7)]) = E4 (.ext r k) := rfl
  rw [hfin] at hR8
  first | exact ⟨hB5.trans (hB6.trans (hB7.trans hB8)), s8, rfl, by simp [closed, A0], hR8⟩ | exact ⟨s8, rfl, by simp [closed, A0], hR8⟩
theorem Cf5 {B : Base} {nd : Nd} {T : TypeId} {b : Nat} (h : NdAt B nd (.iface T (.pointer (some ⟨b, 0, none⟩)))) (w : World) : (method (Try.prog.types.size + Made.depth) T (.pointer (some ⟨b, 0, none⟩)) "cairn/trie.item").run Try.prog w = .ok (itF T, .pointer (some ⟨b, 0, none⟩)) w := by
 cases h with
 | leaf => kernel_rfl
 | ext => kernel_rfl
 | br => kernel_rfl
theorem Bu1 {B : Base} {nd : Nd} {T : TypeId} {b : Nat} (h : NdAt B nd (.iface T (.pointer (some ⟨b, 0, none⟩))))
  (hi : Does Try.prog (itF T) [.raw (.pointer (some ⟨b, 0, none⟩))] B (fun s : Plc => .agg (itE (E4 nd) s)) (fun s B' => ItAt B' (E4 nd) s)) (hok : chk (E4 nd) 0 = 0) (hf : (J2 (E4 nd)).length < 35184372088832) :
  Does Try.prog 38 [.raw (.iface T (.pointer (some ⟨b, 0, none⟩)))] B (fun s : Option Addr × Nat => .raw (.slice s.1 (J2 (E4 nd)).length s.2)) (fun s B' => BytesAt B' s.1 (J2 (E4 nd)) ∧ (J2 (E4 nd)).length ≤ s.2) := by
 refine J9 Dj8 (fun s B B' hB hR => ⟨hR.1.ext hB, hR.2⟩) Try.func38 rfl Dg6 (by simp [Try.f38]) (by simp [A0, closed]) (fun B0 hB0 => A3 1000 ?_)
 repeat' (simp (maxSteps := 4000000) (disch := omega) only [go_sem, ↓reduceIte, Try.f38])
 refine Dc4 rfl rfl (Cf5 h) ?_
 refine F4 (N5 hi hB0) (fun _ => by simp [closed, A0]) (fun s1 B1 hB1 hR1 => A3 1000 ?_)
 change BExt B0 B1 at hB1
 repeat' (simp (maxSteps := 4000000) (disch := omega) only [go_sem, ↓reduceIte])
 refine F4 (Cq8 hR1 hok hf) (fun _ => by simp [closed, A0]) (fun s2 B2 hB2 hR2 => A3 1000 ?_)
 change BExt B1 B2 at hB2
 repeat' (simp (maxSteps := 4000000) (disch := omega) only [go_sem, ↓reduceIte])
 first | exact ⟨hB1.trans hB2, s2, rfl, by simp [closed, A0], hR2⟩ | exact ⟨s2, rfl, by simp [closed, A0], hR2⟩
end Go.Proofs.Ytncjbfkkgdepoaa
