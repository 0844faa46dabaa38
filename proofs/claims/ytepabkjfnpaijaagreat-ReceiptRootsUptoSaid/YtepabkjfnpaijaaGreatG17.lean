/- Part of a proof over the seat YtepabkjfnpaijaaGreat. -/
import Derived.Test.YtepabkjfnpaijaaGreatTD
import Derived.Test.YtepabkjfnpaijaaGreatG11
set_option linter.unusedSimpArgs false
set_option linter.unusedVariables false
set_option maxRecDepth 100000
namespace Go.Proofs.YtepabkjfnpaijaaGreat
open Go RowKit Go.Ew
set_option maxHeartbeats 8000000
theorem Dy1 : D5 Tryz.f127.ntmps (Tryz.f127.body.getD .skip) = true := by kernel_rfl
def V2 (a b : UInt8) : UInt8 := UInt8.ofNat (a.toNat % 16 * 16 + b.toNat % 16)
theorem Ap3 (a b : UInt8) : (V2 a b).toNat = a.toNat % 16 * 16 + b.toNat % 16 :=
 UInt8.toNat_ofNat_of_lt' (by show _ < 256; omega)
def I9 : List UInt8 → List UInt8
 | a :: b :: r => V2 a b :: I9 r
 | _ => []
theorem L9 : ∀ l : List UInt8, (I9 l).length = l.length / 2
 | [] => rfl
 | [_] => by simp [I9]
 | a :: b :: r => by
  simp only [I9, List.length_cons, L9 r]
  omega
theorem T6 : ∀ (l : List UInt8) (i : Nat), 2 * i + 1 < l.length → I9 (l.take (2 * (i + 1))) = I9 (l.take (2 * i)) ++ [V2 (l.getD (2 * i) 0) (l.getD (2 * i + 1) 0)]
 | [], i, h => by simp at h
 | [_], i, h => by simp at h
 | a :: b :: r, 0, h => by simp [I9]
 | a :: b :: r, i + 1, h => by
  have e1 : 2 * (i + 1 + 1) = 2 * (i + 1) + 2 := by omega
  have e2 : 2 * (i + 1) = 2 * i + 2 := by omega
  have e3 : 2 * i + 2 + 1 = 2 * i + 1 + 2 := by omega
  have := T6 r i (by simp at h; omega)
  rw [e2] at this
  rw [e1, e2, List.take_succ_cons, List.take_succ_cons, List.take_succ_cons, List.take_succ_cons, I9, I9, this, e3]
  simp
def fpx (leaf : Bool) : UInt8 := if leaf then 2 else 0
def pfx (l : List UInt8) (leaf : Bool) : List UInt8 := I9 ((if l.length % 2 = 1 then [fpx leaf + 1] else [fpx leaf, 0]) ++ l)
theorem Du6 (c : UInt8) : Bz0 .u8 (c.toNat : Int) 4 = (c.toNat % 16 * 16 : Nat) := by
 have h : ∀ n : Fin 256, Bz0 .u8 ((n.val : Nat) : Int) 4 = ((n.val % 16 * 16 : Nat) : Int) := by decide +kernel
 exact h ⟨c.toNat, c.toNat_lt⟩
theorem Du7 (a b : UInt8) : bOr .u8 ((a.toNat % 16 * 16 : Nat) : Int) ((loN b).toNat : Int) = ((V2 a b).toNat : Int) := by
 have h : ∀ n m : Fin 16, bOr .u8 ((n.val * 16 : Nat) : Int) ((m.val : Nat) : Int) = ((n.val * 16 + m.val : Nat) : Int) := by decide +kernel
 rw [W8, Ap3]; exact h ⟨a.toNat % 16, Nat.mod_lt _ (by omega)⟩ ⟨b.toNat % 16, Nat.mod_lt _ (by omega)⟩
def Af0 (h : UInt8) (m : List UInt8) (i : Nat) : List UInt8 := h :: I9 (m.take (2 * i))
theorem S7 (h : UInt8) (m : List UInt8) : Af0 h m 0 = [h] := by simp [Af0, I9]
theorem V9 (h : UInt8) (m : List UInt8) (i : Nat) (hi : 2 * i ≤ m.length) : (Af0 h m i).length = i + 1 := by
 rw [Af0, List.length_cons, L9, List.length_take]; omega
theorem Ai1 (h : UInt8) (m : List UInt8) (i : Nat) (hi : 2 * i + 1 < m.length) : Af0 h m (i + 1) = Af0 h m i ++ [V2 (m.getD (2 * i) 0) (m.getD (2 * i + 1) 0)] := by
 rw [Af0, T6 m i hi, Af0]; rfl
theorem wr3 (b : UInt8) : IntKind.u8.wrap (48 + ((loN b).toNat : Int)) = ((V2 3 b).toNat : Int) := by
 have h : ∀ m : Fin 16, IntKind.u8.wrap (48 + ((m.val : Nat) : Int)) = ((3 * 16 + m.val : Nat) : Int) := by decide +kernel
 rw [W8, Ap3]; exact h ⟨b.toNat % 16, Nat.mod_lt _ (by omega)⟩
theorem wr1 (b : UInt8) : IntKind.u8.wrap (16 + ((loN b).toNat : Int)) = ((V2 1 b).toNat : Int) := by
 have h : ∀ m : Fin 16, IntKind.u8.wrap (16 + ((m.val : Nat) : Int)) = ((1 * 16 + m.val : Nat) : Int) := by decide +kernel
 rw [W8, Ap3]; exact h ⟨b.toNat % 16, Nat.mod_lt _ (by omega)⟩
theorem Bi3 (l : List UInt8) (leaf : Bool) (n : Nat) (B : Base) (ad : Option Addr) (cap : Nat) (hb : BytesAt B ad l) (hn : l.length = n) (hnc : n ≤ cap) (hc : n ≤ 1099511627776) :
  Does Tryz.prog 127 [.raw (.slice ad n cap), .bool leaf] B (fun s : Option Addr × Nat => .raw (.slice s.1 (pfx l leaf).length s.2)) (fun s B' => BytesAt B' s.1 (pfx l leaf) ∧ (pfx l leaf).length ≤ s.2) := by
 subst hn
 refine I7 Dz1 (fun s B B' hB hR => ⟨hR.1.ext hB, hR.2⟩) Tryz.func127 rfl Dy1 (by simp [Tryz.f127]) (by simp [A0, closed]) (fun B0 hB0 => A3 1000 ?_)
 replace hb := hb.ext hB0
 by_cases hpar : l.length % 2 = 1
 ·have c1 : ((l.length : Int) % 2 == 1) = true := by rw [beq_iff_eq]; omega
  have m1 := hb.ld 0 (by omega)
  have m2 := hb.lS 0 (by omega)
  have m3 := hb.lD (by omega)
  have m4 := hb.ok.so (by omega)
  obtain ⟨c, hc0⟩ : ∃ c, c = l.getD 0 0 := ⟨_, rfl⟩
  rw [← hc0] at m1
  have e15 := Cd9 c
  have w3 := wr3 c
  have w1 := wr1 c
  have hM := M5 hb 1 hnc
  have hML : (l.drop 1).length = l.length - 1 := List.length_drop
  obtain ⟨m, hm⟩ : ∃ m, m = l.drop 1 := ⟨_, rfl⟩
  rw [← hm] at hM hML
  obtain ⟨mA, hmA⟩ : ∃ mA, mA = (if cap = 1 then ad else ad.map (·.add 1)) := ⟨_, rfl⟩
  rw [← hmA] at hM
  simp only [Addr.add, Nat.one_ne_zero, if_false] at hmA
  cases leaf with
  | true =>
   have hH : pfx l true = V2 3 c :: I9 m := by
    rw [hm]
    have : l = c :: l.drop 1 := by
     cases l with
     | nil => simp at hpar
     | cons x r => simp at hc0; simp [hc0]
    rw [pfx, if_pos hpar]
    generalize l.drop 1 = m at this
    subst this
    rfl
   repeat' (first | with_reducible refine And.intro (by first | omega | (constructor <;> assumption) | (simp; done) | (simp; omega) | ((repeat' refine And.intro ?_ ?_) <;> first | omega | assumption | (refine SlOk.so (n := ?_) ?_ ?_; rotate_left; assumption; omega) | (simp; done) | fail)) ?_ | simp (maxSteps := 4000000) (disch := omega) only [go_sem, ↓reduceIte, Tryz.f127, c1, m1, bE, e15, w3, w1, ← hmA])
   refine G8 (S := Nat × Nat × List EV) (fun s => 2 * s.1 ≤ (l.length - 1) ∧ lOk [.int .u8 0] (s.1 + 1) (some s.2))
    (fun s => ⟨[(7, .int .i64 (2 * s.1 : Nat)), (6, .sl 0 0 (s.1 + 1) s.2.1), (0, .raw (.slice mA (l.length - 1) (cap - 1)))], 1, [(0, lO 5 ((Af0 (V2 3 c) (m) s.1).map bE) (some s.2))], B0, []⟩)
    (fun s => (l.length - 1) - 2 * s.1) (0, 1, []) ⟨Nat.zero_le _, Nat.le_refl _, by simp only [maxLen]; omega, rfl, by simp⟩ (Weak.sub (A5 (by simp [wσ, go_sem, closed, A0, A4, W9, S7, bE] <;> omega) (by simp [whs, Go.Ew.hget, go_sem, EObj.closed, closed, A0, A4, W9, S7, bE]) (by simp [*]) rfl rfl (by simp))) ?_
   rintro ⟨i, cp, rest⟩ ⟨hi, hl⟩
   simp only at hi hl ⊢
   rcases Nat.lt_or_ge (2 * i) ((l.length - 1)) with hi2 | hi2
   ·have cA : decide (((2 * i : Nat) : Int) < (((l.length - 1) : Nat) : Int)) = true := decide_eq_true (by omega)
    have htk := Ai1 (V2 3 c) (m) i (by omega)
    have m1 := hM.ld (2 * i) (by omega)
    have m2 := hM.lS (2 * i) (by omega)
    have m5 := hM.ld (2 * i + 1) (by omega)
    have m6 := hM.lS (2 * i + 1) (by omega)
    have m3 := hM.lD (by omega)
    have m4 := hM.ok.so (by omega)
    obtain ⟨e, he0⟩ : ∃ e, e = (m).getD (2 * i) 0 := ⟨_, rfl⟩
    obtain ⟨d, hd0⟩ : ∃ d, d = (m).getD (2 * i + 1) 0 := ⟨_, rfl⟩
    rw [← he0] at m1 htk
    rw [← hd0] at m5 htk
    have e4 := Du6 e
    have e15 := Cd9 d
    have eor := Du7 e d
    have g1 : ((2 * i : Nat) : Int).toNat = 2 * i := Int.toNat_natCast _
    have g2 : (((2 * i : Nat) : Int) + 1).toNat = 2 * i + 1 := by omega
    have hpl := V9 (V2 3 c) (m) i (by omega)
    refine A3 1000 ?_
    repeat' (first | with_reducible refine And.intro (by first | omega | (constructor <;> assumption) | (simp; done) | ((repeat' refine And.intro ?_ ?_) <;> first | omega | assumption | (refine SlOk.so (n := ?_) ?_ ?_; rotate_left; assumption; omega) | (simp; done) | fail)) ?_ | simp (maxSteps := 4000000) (disch := omega) only [go_sem, ↓reduceIte, cA, g1, g2, m1, m5, bE, e4, e15, eor] | with_reducible refine C9 (id := 11) [0, 1, 2, 3, 4, 5, 6, 7, 8, 9, 10, 11, 12, 13, 14, 15] mixed (by kernel_rfl) (by simp) (fun hin => C8 1000 hin ?_))
    refine Y9 (T := 5) (l := some (cp, rest)) (xs := Af0 (V2 3 c) (m) i) 48 0 (i + 1) [V2 e d] [100047] rfl rfl Tryz.underlying39 (.inl ⟨_, Tryz.underlying39⟩) zr5 cz5 by5 hpl rfl rfl hl (fun B hs hB hfb => ⟨_, F3 (by rw [hfb 100047 (by simp)]; rfl) rfl, by simp⟩) (by simp only [List.length_singleton]; omega) (by simp) (by kernel_rfl) (F1 (by kernel_rfl) (C1 (by kernel_rfl))) (fun l5 hl5 => C8 1000 (by assumption) ?_)
    have hl5' := hl5
    obtain ⟨cp2, rest2, rfl, -⟩ := D8 hl5 (by omega)
    simp only [A6]
    repeat' (simp (maxSteps := 4000000) (disch := omega) only [go_sem, ↓reduceIte])
    refine D7 (by kernel_rfl) (C1 (by kernel_rfl)) ?_
    refine K7 [100048] 0 (by simp) (by simp) (by simp) (by simp) (A3 1000 ?_)
    rw [← htk]
    repeat' (simp (maxSteps := 4000000) (disch := omega) only [go_sem, ↓reduceIte, okC, okE, O8, E6, F4 (ks := [100048]) (k := 0) hl5' (A9 0 (Af0 (V2 3 c) (m) (i + 1))) hz8, E1, List.length_singleton])
    have cl2 : ∀ n, clO n (lO 5 ((Af0 (V2 3 c) (m) (i + 1)).map bE) (some (cp2, rest2))) = True := fun n => G0 hl5' (A9 0 _) hz8
    exact ⟨(i + 1, cp2, rest2), ⟨by simp only; omega, hl5'⟩, Weak.sub (A5 (by simp [wσ, go_sem, closed, A0, A4, cl2, A6] <;> omega) (by simp [whs, Go.Ew.hget, go_sem, EObj.closed, closed, A0, A4, cl2, A6]) (by simp [*]) rfl rfl (by simp)), by simp only; omega⟩
   ·have cA : decide (((2 * i : Nat) : Int) < (((l.length - 1) : Nat) : Int)) = false := decide_eq_false (by omega)
    have hpe : Af0 (V2 3 c) (m) i = pfx l true := by rw [hH, Af0, List.take_of_length_le (by omega)]
    have hpl := V9 (V2 3 c) (m) i (by omega)
    rw [hpe] at hpl
    rw [← hpl] at hl
    rw [← hpl, hpe]
    refine J0 (xs := pfx l true) (T := 5) 0 (pfx l true).length rfl rfl hl (by simp) (fun b2 ad2 cap2 B4 hB4 hfz hbY hcap2 => A3 1000 ?_)
    change BExt B0 B4 at hB4
    rw [A6] at hfz
    simp [frz] at hfz
    obtain ⟨rfl, rfl⟩ := hfz
    repeat' (first | with_reducible refine And.intro (by omega) ?_ | simp (maxSteps := 4000000) (disch := omega) only [go_sem, ↓reduceIte, cA, frz] | with_reducible refine A3 1000 ?_)
    first | exact ⟨hB4, (_, _), rfl, trivial, hbY, hcap2⟩ | exact ⟨(_, _), rfl, trivial, hbY, hcap2⟩
  | false =>
   have hH : pfx l false = V2 1 c :: I9 m := by
    rw [hm]
    have : l = c :: l.drop 1 := by
     cases l with
     | nil => simp at hpar
     | cons x r => simp at hc0; simp [hc0]
    rw [pfx, if_pos hpar]
    generalize l.drop 1 = m at this
    subst this
    rfl
   repeat' (first | with_reducible refine And.intro (by first | omega | (constructor <;> assumption) | (simp; done) | (simp; omega) | ((repeat' refine And.intro ?_ ?_) <;> first | omega | assumption | (refine SlOk.so (n := ?_) ?_ ?_; rotate_left; assumption; omega) | (simp; done) | fail)) ?_ | simp (maxSteps := 4000000) (disch := omega) only [go_sem, ↓reduceIte, Tryz.f127, c1, m1, bE, e15, w3, w1, ← hmA])
   refine G8 (S := Nat × Nat × List EV) (fun s => 2 * s.1 ≤ (l.length - 1) ∧ lOk [.int .u8 0] (s.1 + 1) (some s.2))
    (fun s => ⟨[(7, .int .i64 (2 * s.1 : Nat)), (6, .sl 0 0 (s.1 + 1) s.2.1), (0, .raw (.slice mA (l.length - 1) (cap - 1)))], 1, [(0, lO 5 ((Af0 (V2 1 c) (m) s.1).map bE) (some s.2))], B0, []⟩)
    (fun s => (l.length - 1) - 2 * s.1) (0, 1, []) ⟨Nat.zero_le _, Nat.le_refl _, by simp only [maxLen]; omega, rfl, by simp⟩ (Weak.sub (A5 (by simp [wσ, go_sem, closed, A0, A4, W9, S7, bE] <;> omega) (by simp [whs, Go.Ew.hget, go_sem, EObj.closed, closed, A0, A4, W9, S7, bE]) (by simp [*]) rfl rfl (by simp))) ?_
   rintro ⟨i, cp, rest⟩ ⟨hi, hl⟩
   simp only at hi hl ⊢
   rcases Nat.lt_or_ge (2 * i) ((l.length - 1)) with hi2 | hi2
   ·have cA : decide (((2 * i : Nat) : Int) < (((l.length - 1) : Nat) : Int)) = true := decide_eq_true (by omega)
    have htk := Ai1 (V2 1 c) (m) i (by omega)
    have m1 := hM.ld (2 * i) (by omega)
    have m2 := hM.lS (2 * i) (by omega)
    have m5 := hM.ld (2 * i + 1) (by omega)
    have m6 := hM.lS (2 * i + 1) (by omega)
    have m3 := hM.lD (by omega)
    have m4 := hM.ok.so (by omega)
    obtain ⟨e, he0⟩ : ∃ e, e = (m).getD (2 * i) 0 := ⟨_, rfl⟩
    obtain ⟨d, hd0⟩ : ∃ d, d = (m).getD (2 * i + 1) 0 := ⟨_, rfl⟩
    rw [← he0] at m1 htk
    rw [← hd0] at m5 htk
    have e4 := Du6 e
    have e15 := Cd9 d
    have eor := Du7 e d
    have g1 : ((2 * i : Nat) : Int).toNat = 2 * i := Int.toNat_natCast _
    have g2 : (((2 * i : Nat) : Int) + 1).toNat = 2 * i + 1 := by omega
    have hpl := V9 (V2 1 c) (m) i (by omega)
    refine A3 1000 ?_
    repeat' (first | with_reducible refine And.intro (by first | omega | (constructor <;> assumption) | (simp; done) | ((repeat' refine And.intro ?_ ?_) <;> first | omega | assumption | (refine SlOk.so (n := ?_) ?_ ?_; rotate_left; assumption; omega) | (simp; done) | fail)) ?_ | simp (maxSteps := 4000000) (disch := omega) only [go_sem, ↓reduceIte, cA, g1, g2, m1, m5, bE, e4, e15, eor] | with_reducible refine C9 (id := 11) [0, 1, 2, 3, 4, 5, 6, 7, 8, 9, 10, 11, 12, 13, 14, 15] mixed (by kernel_rfl) (by simp) (fun hin => C8 1000 hin ?_))
    refine Y9 (T := 5) (l := some (cp, rest)) (xs := Af0 (V2 1 c) (m) i) 48 0 (i + 1) [V2 e d] [100047] rfl rfl Tryz.underlying39 (.inl ⟨_, Tryz.underlying39⟩) zr5 cz5 by5 hpl rfl rfl hl (fun B hs hB hfb => ⟨_, F3 (by rw [hfb 100047 (by simp)]; rfl) rfl, by simp⟩) (by simp only [List.length_singleton]; omega) (by simp) (by kernel_rfl) (F1 (by kernel_rfl) (C1 (by kernel_rfl))) (fun l5 hl5 => C8 1000 (by assumption) ?_)
    have hl5' := hl5
    obtain ⟨cp2, rest2, rfl, -⟩ := D8 hl5 (by omega)
    simp only [A6]
    repeat' (simp (maxSteps := 4000000) (disch := omega) only [go_sem, ↓reduceIte])
    refine D7 (by kernel_rfl) (C1 (by kernel_rfl)) ?_
    refine K7 [100048] 0 (by simp) (by simp) (by simp) (by simp) (A3 1000 ?_)
    rw [← htk]
    repeat' (simp (maxSteps := 4000000) (disch := omega) only [go_sem, ↓reduceIte, okC, okE, O8, E6, F4 (ks := [100048]) (k := 0) hl5' (A9 0 (Af0 (V2 1 c) (m) (i + 1))) hz8, E1, List.length_singleton])
    have cl2 : ∀ n, clO n (lO 5 ((Af0 (V2 1 c) (m) (i + 1)).map bE) (some (cp2, rest2))) = True := fun n => G0 hl5' (A9 0 _) hz8
    exact ⟨(i + 1, cp2, rest2), ⟨by simp only; omega, hl5'⟩, Weak.sub (A5 (by simp [wσ, go_sem, closed, A0, A4, cl2, A6] <;> omega) (by simp [whs, Go.Ew.hget, go_sem, EObj.closed, closed, A0, A4, cl2, A6]) (by simp [*]) rfl rfl (by simp)), by simp only; omega⟩
   ·have cA : decide (((2 * i : Nat) : Int) < (((l.length - 1) : Nat) : Int)) = false := decide_eq_false (by omega)
    have hpe : Af0 (V2 1 c) (m) i = pfx l false := by rw [hH, Af0, List.take_of_length_le (by omega)]
    have hpl := V9 (V2 1 c) (m) i (by omega)
    rw [hpe] at hpl
    rw [← hpl] at hl
    rw [← hpl, hpe]
    refine J0 (xs := pfx l false) (T := 5) 0 (pfx l false).length rfl rfl hl (by simp) (fun b2 ad2 cap2 B4 hB4 hfz hbY hcap2 => A3 1000 ?_)
    change BExt B0 B4 at hB4
    rw [A6] at hfz
    simp [frz] at hfz
    obtain ⟨rfl, rfl⟩ := hfz
    repeat' (first | with_reducible refine And.intro (by omega) ?_ | simp (maxSteps := 4000000) (disch := omega) only [go_sem, ↓reduceIte, cA, frz] | with_reducible refine A3 1000 ?_)
    first | exact ⟨hB4, (_, _), rfl, trivial, hbY, hcap2⟩ | exact ⟨(_, _), rfl, trivial, hbY, hcap2⟩
 ·have c1 : ((l.length : Int) % 2 == 1) = false := by rw [beq_eq_false_iff_ne]; omega
  have hM := hb
  cases leaf with
  | true =>
   have hH : pfx l true = 32 :: I9 l := by rw [pfx, if_neg hpar]; rfl
   repeat' (first | with_reducible refine And.intro (by first | omega | (simp; done)) ?_ | simp (maxSteps := 4000000) (disch := omega) only [go_sem, ↓reduceIte, Tryz.f127, c1])
   refine G8 (S := Nat × Nat × List EV) (fun s => 2 * s.1 ≤ l.length ∧ lOk [.int .u8 0] (s.1 + 1) (some s.2))
    (fun s => ⟨[(7, .int .i64 (2 * s.1 : Nat)), (6, .sl 0 0 (s.1 + 1) s.2.1), (0, .raw (.slice ad l.length cap))], 1, [(0, lO 5 ((Af0 (32 : UInt8) (l) s.1).map bE) (some s.2))], B0, []⟩)
    (fun s => l.length - 2 * s.1) (0, 1, []) ⟨Nat.zero_le _, Nat.le_refl _, by simp only [maxLen]; omega, rfl, by simp⟩ (Weak.sub (A5 (by simp [wσ, go_sem, closed, A0, A4, W9, S7, bE] <;> omega) (by simp [whs, Go.Ew.hget, go_sem, EObj.closed, closed, A0, A4, W9, S7, bE]) (by simp [*]) rfl rfl (by simp))) ?_
   rintro ⟨i, cp, rest⟩ ⟨hi, hl⟩
   simp only at hi hl ⊢
   rcases Nat.lt_or_ge (2 * i) (l.length) with hi2 | hi2
   ·have cA : decide (((2 * i : Nat) : Int) < ((l.length : Nat) : Int)) = true := decide_eq_true (by omega)
    have htk := Ai1 (32 : UInt8) (l) i (by omega)
    have m1 := hM.ld (2 * i) (by omega)
    have m2 := hM.lS (2 * i) (by omega)
    have m5 := hM.ld (2 * i + 1) (by omega)
    have m6 := hM.lS (2 * i + 1) (by omega)
    have m3 := hM.lD (by omega)
    have m4 := hM.ok.so (by omega)
    obtain ⟨e, he0⟩ : ∃ e, e = (l).getD (2 * i) 0 := ⟨_, rfl⟩
    obtain ⟨d, hd0⟩ : ∃ d, d = (l).getD (2 * i + 1) 0 := ⟨_, rfl⟩
    rw [← he0] at m1 htk
    rw [← hd0] at m5 htk
    have e4 := Du6 e
    have e15 := Cd9 d
    have eor := Du7 e d
    have g1 : ((2 * i : Nat) : Int).toNat = 2 * i := Int.toNat_natCast _
    have g2 : (((2 * i : Nat) : Int) + 1).toNat = 2 * i + 1 := by omega
    have hpl := V9 (32 : UInt8) (l) i (by omega)
    refine A3 1000 ?_
    repeat' (first | with_reducible refine And.intro (by first | omega | (constructor <;> assumption) | (simp; done) | ((repeat' refine And.intro ?_ ?_) <;> first | omega | assumption | (refine SlOk.so (n := ?_) ?_ ?_; rotate_left; assumption; omega) | (simp; done) | fail)) ?_ | simp (maxSteps := 4000000) (disch := omega) only [go_sem, ↓reduceIte, cA, g1, g2, m1, m5, bE, e4, e15, eor] | with_reducible refine C9 (id := 11) [0, 1, 2, 3, 4, 5, 6, 7, 8, 9, 10, 11, 12, 13, 14, 15] mixed (by kernel_rfl) (by simp) (fun hin => C8 1000 hin ?_))
    refine Y9 (T := 5) (l := some (cp, rest)) (xs := Af0 (32 : UInt8) (l) i) 48 0 (i + 1) [V2 e d] [100047] rfl rfl Tryz.underlying39 (.inl ⟨_, Tryz.underlying39⟩) zr5 cz5 by5 hpl rfl rfl hl (fun B hs hB hfb => ⟨_, F3 (by rw [hfb 100047 (by simp)]; rfl) rfl, by simp⟩) (by simp only [List.length_singleton]; omega) (by simp) (by kernel_rfl) (F1 (by kernel_rfl) (C1 (by kernel_rfl))) (fun l5 hl5 => C8 1000 (by assumption) ?_)
    have hl5' := hl5
    obtain ⟨cp2, rest2, rfl, -⟩ := D8 hl5 (by omega)
    simp only [A6]
    repeat' (simp (maxSteps := 4000000) (disch := omega) only [go_sem, ↓reduceIte])
    refine D7 (by kernel_rfl) (C1 (by kernel_rfl)) ?_
    refine K7 [100048] 0 (by simp) (by simp) (by simp) (by simp) (A3 1000 ?_)
    rw [← htk]
    repeat' (simp (maxSteps := 4000000) (disch := omega) only [go_sem, ↓reduceIte, okC, okE, O8, E6, F4 (ks := [100048]) (k := 0) hl5' (A9 0 (Af0 (32 : UInt8) (l) (i + 1))) hz8, E1, List.length_singleton])
    have cl2 : ∀ n, clO n (lO 5 ((Af0 (32 : UInt8) (l) (i + 1)).map bE) (some (cp2, rest2))) = True := fun n => G0 hl5' (A9 0 _) hz8
    exact ⟨(i + 1, cp2, rest2), ⟨by simp only; omega, hl5'⟩, Weak.sub (A5 (by simp [wσ, go_sem, closed, A0, A4, cl2, A6] <;> omega) (by simp [whs, Go.Ew.hget, go_sem, EObj.closed, closed, A0, A4, cl2, A6]) (by simp [*]) rfl rfl (by simp)), by simp only; omega⟩
   ·have cA : decide (((2 * i : Nat) : Int) < ((l.length : Nat) : Int)) = false := decide_eq_false (by omega)
    have hpe : Af0 (32 : UInt8) (l) i = pfx l true := by rw [hH, Af0, List.take_of_length_le (by omega)]
    have hpl := V9 (32 : UInt8) (l) i (by omega)
    rw [hpe] at hpl
    rw [← hpl] at hl
    rw [← hpl, hpe]
    refine J0 (xs := pfx l true) (T := 5) 0 (pfx l true).length rfl rfl hl (by simp) (fun b2 ad2 cap2 B4 hB4 hfz hbY hcap2 => A3 1000 ?_)
    change BExt B0 B4 at hB4
    rw [A6] at hfz
    simp [frz] at hfz
    obtain ⟨rfl, rfl⟩ := hfz
    repeat' (first | with_reducible refine And.intro (by omega) ?_ | simp (maxSteps := 4000000) (disch := omega) only [go_sem, ↓reduceIte, cA, frz] | with_reducible refine A3 1000 ?_)
    first | exact ⟨hB4, (_, _), rfl, trivial, hbY, hcap2⟩ | exact ⟨(_, _), rfl, trivial, hbY, hcap2⟩
  | false =>
   have hH : pfx l false = 0 :: I9 l := by rw [pfx, if_neg hpar]; rfl
   repeat' (first | with_reducible refine And.intro (by first | omega | (simp; done)) ?_ | simp (maxSteps := 4000000) (disch := omega) only [go_sem, ↓reduceIte, Tryz.f127, c1])
   refine G8 (S := Nat × Nat × List EV) (fun s => 2 * s.1 ≤ l.length ∧ lOk [.int .u8 0] (s.1 + 1) (some s.2))
    (fun s => ⟨[(7, .int .i64 (2 * s.1 : Nat)), (6, .sl 0 0 (s.1 + 1) s.2.1), (0, .raw (.slice ad l.length cap))], 1, [(0, lO 5 ((Af0 (0 : UInt8) (l) s.1).map bE) (some s.2))], B0, []⟩)
    (fun s => l.length - 2 * s.1) (0, 1, []) ⟨Nat.zero_le _, Nat.le_refl _, by simp only [maxLen]; omega, rfl, by simp⟩ (Weak.sub (A5 (by simp [wσ, go_sem, closed, A0, A4, W9, S7, bE] <;> omega) (by simp [whs, Go.Ew.hget, go_sem, EObj.closed, closed, A0, A4, W9, S7, bE]) (by simp [*]) rfl rfl (by simp))) ?_
   rintro ⟨i, cp, rest⟩ ⟨hi, hl⟩
   simp only at hi hl ⊢
   rcases Nat.lt_or_ge (2 * i) (l.length) with hi2 | hi2
   ·have cA : decide (((2 * i : Nat) : Int) < ((l.length : Nat) : Int)) = true := decide_eq_true (by omega)
    have htk := Ai1 (0 : UInt8) (l) i (by omega)
    have m1 := hM.ld (2 * i) (by omega)
    have m2 := hM.lS (2 * i) (by omega)
    have m5 := hM.ld (2 * i + 1) (by omega)
    have m6 := hM.lS (2 * i + 1) (by omega)
    have m3 := hM.lD (by omega)
    have m4 := hM.ok.so (by omega)
    obtain ⟨e, he0⟩ : ∃ e, e = (l).getD (2 * i) 0 := ⟨_, rfl⟩
    obtain ⟨d, hd0⟩ : ∃ d, d = (l).getD (2 * i + 1) 0 := ⟨_, rfl⟩
    rw [← he0] at m1 htk
    rw [← hd0] at m5 htk
    have e4 := Du6 e
    have e15 := Cd9 d
    have eor := Du7 e d
    have g1 : ((2 * i : Nat) : Int).toNat = 2 * i := Int.toNat_natCast _
    have g2 : (((2 * i : Nat) : Int) + 1).toNat = 2 * i + 1 := by omega
    have hpl := V9 (0 : UInt8) (l) i (by omega)
    refine A3 1000 ?_
    repeat' (first | with_reducible refine And.intro (by first | omega | (constructor <;> assumption) | (simp; done) | ((repeat' refine And.intro ?_ ?_) <;> first | omega | assumption | (refine SlOk.so (n := ?_) ?_ ?_; rotate_left; assumption; omega) | (simp; done) | fail)) ?_ | simp (maxSteps := 4000000) (disch := omega) only [go_sem, ↓reduceIte, cA, g1, g2, m1, m5, bE, e4, e15, eor] | with_reducible refine C9 (id := 11) [0, 1, 2, 3, 4, 5, 6, 7, 8, 9, 10, 11, 12, 13, 14, 15] mixed (by kernel_rfl) (by simp) (fun hin => C8 1000 hin ?_))
    refine Y9 (T := 5) (l := some (cp, rest)) (xs := Af0 (0 : UInt8) (l) i) 48 0 (i + 1) [V2 e d] [100047] rfl rfl Tryz.underlying39 (.inl ⟨_, Tryz.underlying39⟩) zr5 cz5 by5 hpl rfl rfl hl (fun B hs hB hfb => ⟨_, F3 (by rw [hfb 100047 (by simp)]; rfl) rfl, by simp⟩) (by simp only [List.length_singleton]; omega) (by simp) (by kernel_rfl) (F1 (by kernel_rfl) (C1 (by kernel_rfl))) (fun l5 hl5 => C8 1000 (by assumption) ?_)
    have hl5' := hl5
    obtain ⟨cp2, rest2, rfl, -⟩ := D8 hl5 (by omega)
    simp only [A6]
    repeat' (simp (maxSteps := 4000000) (disch := omega) only [go_sem, ↓reduceIte])
    refine D7 (by kernel_rfl) (C1 (by kernel_rfl)) ?_
    refine K7 [100048] 0 (by simp) (by simp) (by simp) (by simp) (A3 1000 ?_)
    rw [← htk]
    repeat' (simp (maxSteps := 4000000) (disch := omega) only [go_sem, ↓reduceIte, okC, okE, O8, E6, F4 (ks := [100048]) (k := 0) hl5' (A9 0 (Af0 (0 : UInt8) (l) (i + 1))) hz8, E1, List.length_singleton])
    have cl2 : ∀ n, clO n (lO 5 ((Af0 (0 : UInt8) (l) (i + 1)).map bE) (some (cp2, rest2))) = True := fun n => G0 hl5' (A9 0 _) hz8
    exact ⟨(i + 1, cp2, rest2), ⟨by simp only; omega, hl5'⟩, Weak.sub (A5 (by simp [wσ, go_sem, closed, A0, A4, cl2, A6] <;> omega) (by simp [whs, Go.Ew.hget, go_sem, EObj.closed, closed, A0, A4, cl2, A6]) (by simp [*]) rfl rfl (by simp)), by simp only; omega⟩
   ·have cA : decide (((2 * i : Nat) : Int) < ((l.length : Nat) : Int)) = false := decide_eq_false (by omega)
    have hpe : Af0 (0 : UInt8) (l) i = pfx l false := by rw [hH, Af0, List.take_of_length_le (by omega)]
    have hpl := V9 (0 : UInt8) (l) i (by omega)
    rw [hpe] at hpl
    rw [← hpl] at hl
    rw [← hpl, hpe]
    refine J0 (xs := pfx l false) (T := 5) 0 (pfx l false).length rfl rfl hl (by simp) (fun b2 ad2 cap2 B4 hB4 hfz hbY hcap2 => A3 1000 ?_)
    change BExt B0 B4 at hB4
    rw [A6] at hfz
    simp [frz] at hfz
    obtain ⟨rfl, rfl⟩ := hfz
    repeat' (first | with_reducible refine And.intro (by omega) ?_ | simp (maxSteps := 4000000) (disch := omega) only [go_sem, ↓reduceIte, cA, frz] | with_reducible refine A3 1000 ?_)
    first | exact ⟨hB4, (_, _), rfl, trivial, hbY, hcap2⟩ | exact ⟨(_, _), rfl, trivial, hbY, hcap2⟩
end Go.Proofs.YtepabkjfnpaijaaGreat
namespace Go.Proofs.YtepabkjfnpaijaaGreat
open Go RowKit Go.Ew
set_option maxHeartbeats 8000000
theorem Dy2 : D5 Tryz.f126.ntmps (Tryz.f126.body.getD .skip) = true := by kernel_rfl
theorem Dx8 : D5 Tryz.f130.ntmps (Tryz.f130.body.getD .skip) = true := by kernel_rfl
theorem Dy0 : D5 Tryz.f128.ntmps (Tryz.f128.body.getD .skip) = true := by kernel_rfl
theorem Dx9 : D5 Tryz.f129.ntmps (Tryz.f129.body.getD .skip) = true := by kernel_rfl
theorem Ej2 : D5 Tryz.f45.ntmps (Tryz.f45.body.getD .skip) = true := by kernel_rfl
def Ao9 (p : List UInt8) : List UInt8 := (List.range 32).map fun i => UInt8.ofNat (K0 p i).toNat
theorem K6 (p : List UInt8) : (Ao9 p).length = 32 := by simp [Ao9]
theorem O6 (p : List UInt8) : (Ao9 p).map bE = D4 .u8 (K0 p) 32 := by
 simp only [Ao9, D4, List.map_map]
 apply List.map_congr_left
 intro i _
 have h := O1 p i
 simp only [Function.comp_def, bE]
 rw [UInt8.toNat_ofNat_of_lt' (by show _ < 256; omega)]
 congr 1
 first | done | omega
def M8 (t : Itm) : Itm := if (H5 t).length < 32 then t else txt (Ao9 (H5 t))
mutual
def E3 : Nd → Itm
 | .nil => txt []
 | .leaf r v => lst [txt (pfx r true), txt v]
 | .ext r k => lst [txt (pfx r false), M8 (E3 k)]
 | .br ks v => lst (Af4 ks ++ [txt v])
def Af4 : List Nd → List Itm
 | [] => []
 | k :: ks => M8 (E3 k) :: Af4 ks
end
theorem V6 (ks : List Nd) : Af4 ks = ks.map fun k => M8 (E3 k) := by
 induction ks with
 | nil => rfl
 | cons k ks ih => rw [Af4, ih]; rfl
theorem Cx0 : M8 (E3 .nil) = txt [] := rfl
/-- The item's function of a node's kind. -/
def itF (T : TypeId) : FuncId := if T = 137 then 126 else if T = 149 then 130 else 128
theorem Bq5 {B : Base} {r v : List UInt8} {b : Nat} (h : NdAt B (.leaf r v) (.iface 137 (.pointer (some ⟨b, 0, none⟩)))) :
  Does Tryz.prog 126 [.raw (.pointer (some ⟨b, 0, none⟩))] B (fun s : Plc => .agg (itE (E3 (.leaf r v)) s)) (fun s B' => ItAt B' (E3 (.leaf r v)) s) := by
 refine I7 Dz2 (fun s B B' hB hR => hR.ext hB) Tryz.func126 rfl Dy2 (by simp [Tryz.f126]) (by simp [A0, closed]) (fun B0 hB0 => A3 1000 ?_)
 replace h := h.ext' hB0
 cases h with
 | leaf r v _ sA wA sc wc hc hsr hwv e1 e2 e3 =>
  obtain ⟨q0, q0d, q0s⟩ := hc.raw (j := 0) (v := .slice sA r.length sc) rfl
  obtain ⟨q1, q1d, q1s⟩ := hc.raw (j := 1) (v := .slice wA v.length wc) rfl
  simp only [E9, Addr.add, ↓reduceIte, Nat.reduceAdd, Nat.reduceEqDiff, D6, if_false, Nat.zero_add, Nat.one_ne_zero] at q0 q0s q1 q1s
  have qD : B0.D b := q0d
  have hpl : (pfx r true).length ≤ 1099511627776 := by rw [pfx, L9]; split <;> simp <;> omega
  repeat' (first | with_reducible refine And.intro (by first | omega | (constructor <;> assumption)) ?_ | simp (maxSteps := 4000000) (disch := omega) only [go_sem, ↓reduceIte, Tryz.f126, q0, q1] | with_reducible refine C9 (id := 1) [0, 1, 2, 3, 6, 7, 8, 9, 4, 5, 10, 11, 12, 13] mixed (by kernel_rfl) (by simp) (fun hin => C8 1000 hin ?_))
  refine H7 (Bi3 r true r.length _ sA sc hsr rfl e1 e2) (fun _ => by simp [closed, A0]) (by kernel_rfl) (F1 (by kernel_rfl) (C1 (by kernel_rfl))) (fun hin2 s5 B5 hB5 hR5 => C8 1000 hin2 ?_)
  change BExt B0 B5 at hB5
  repeat' (simp (maxSteps := 4000000) (disch := omega) only [go_sem, ↓reduceIte])
  refine H7 (W4 (pfx r true) _ _ s5.1 s5.2 hR5.1 rfl hpl) (fun _ => by simp [closed, A0]) (by kernel_rfl) (F1 (by kernel_rfl) (C1 (by kernel_rfl))) (fun hin2 s6 B6 hB6 hR6 => C8 1000 hin2 ?_)
  change BExt B5 B6 at hB6
  have hBX := hB5.trans hB6
  repeat' (simp (maxSteps := 4000000) (disch := omega) only [go_sem, ↓reduceIte])
  refine H7 (W4 v _ _ wA wc (hwv.ext hBX) rfl e3) (fun _ => by simp [closed, A0]) (by kernel_rfl) (F1 (by kernel_rfl) (C1 (by kernel_rfl))) (fun hin2 s7 B7 hB7 hR7 => C8 1000 hin2 ?_)
  change BExt B6 B7 at hB7
  repeat' (first | with_reducible refine And.intro (by first | omega | (simp; done)) ?_ | simp (maxSteps := 4000000) (disch := omega) only [go_sem, ↓reduceIte])
  refine M9 100014 0 2 2 [] ([(txt (pfx r true), s6), (txt v, s7)].flatMap itC) Dn5 rfl rfl rfl (fun s => by simp [closed, A0]) (fun B ad cap hB hc3 => Af9 [(txt (pfx r true), s6), (txt v, s7)] 2 B ad cap hc3 (by simp) (fun q hq => by
   simp only [List.mem_cons, List.not_mem_nil, or_false] at hq
   rcases hq with rfl | rfl
   ·exact hR6.ext (hB7.trans hB)
   ·exact hR7.ext hB) rfl) (by kernel_rfl) (F1 (by kernel_rfl) (C1 (by kernel_rfl))) (fun hin2 s8 B8 hB8 hR8 => C8 1000 hin2 ?_)
  change BExt B7 B8 at hB8
  repeat' (first | simp (maxSteps := 4000000) (disch := omega) only [go_sem, ↓reduceIte] | with_reducible refine D7 (by kernel_rfl) (C1 (by kernel_rfl)) (A3 1000 ?_))
  have hfin : Itm.mk 1 [] (List.map Prod.fst [(txt (pfx r true), s6), (txt v, s7)]) = E3 (.leaf r v) := rfl
  rw [hfin] at hR8
  first | exact ⟨hB5.trans (hB6.trans (hB7.trans hB8)), s8, rfl, by simp [closed, A0], hR8⟩ | exact ⟨s8, rfl, by simp [closed, A0], hR8⟩
theorem Cc5 {B : Base} {r : List UInt8} {k : Nd} {b : Nat} (h : NdAt B (.ext r k) (.iface 149 (.pointer (some ⟨b, 0, none⟩))))
  (hrf : ∀ B' kv, BExt B B' → NdAt B' k kv → Does Tryz.prog 129 [.raw kv] B' (fun s : Plc => .agg (itE (M8 (E3 k)) s)) (fun s B' => ItAt B' (M8 (E3 k)) s)) :
  Does Tryz.prog 130 [.raw (.pointer (some ⟨b, 0, none⟩))] B (fun s : Plc => .agg (itE (E3 (.ext r k)) s)) (fun s B' => ItAt B' (E3 (.ext r k)) s) := by
 refine I7 Dy8 (fun s B B' hB hR => hR.ext hB) Tryz.func130 rfl Dx8 (by simp [Tryz.f130]) (by simp [A0, closed]) (fun B0 hB0 => A3 1000 ?_)
 replace h := h.ext' hB0
 cases h with
 | ext r kd _ sA sc kdv hc hsr e1 e2 hkd =>
  obtain ⟨q0, q0d, q0s⟩ := hc.raw (j := 0) (v := .slice sA r.length sc) rfl
  obtain ⟨q1, q1d, q1s⟩ := hc.raw (j := 1) (v := kdv) rfl
  rw [hkd.ofS] at q1
  simp only [E9, Addr.add, ↓reduceIte, Nat.reduceAdd, Nat.reduceEqDiff, D6, if_false, Nat.zero_add, Nat.one_ne_zero] at q0 q0s q1 q1s
  have qD : B0.D b := q0d
  have hpl : (pfx r false).length ≤ 1099511627776 := by rw [pfx, L9]; split <;> simp <;> omega
  repeat' (first | with_reducible refine And.intro (by first | omega | (constructor <;> assumption)) ?_ | simp (maxSteps := 4000000) (disch := omega) only [go_sem, ↓reduceIte, Tryz.f130, q0, q1] | with_reducible refine C9 (id := 1) [0, 1, 2, 3, 6, 7, 8, 9, 4, 5, 10, 11, 12, 13] mixed (by kernel_rfl) (by simp) (fun hin => C8 1000 hin ?_))
  refine H7 (Bi3 r false r.length _ sA sc hsr rfl e1 e2) (fun _ => by simp [closed, A0]) (by kernel_rfl) (F1 (by kernel_rfl) (C1 (by kernel_rfl))) (fun hin2 s5 B5 hB5 hR5 => C8 1000 hin2 ?_)
  change BExt B0 B5 at hB5
  repeat' (simp (maxSteps := 4000000) (disch := omega) only [go_sem, ↓reduceIte])
  refine H7 (W4 (pfx r false) _ _ s5.1 s5.2 hR5.1 rfl hpl) (fun _ => by simp [closed, A0]) (by kernel_rfl) (F1 (by kernel_rfl) (C1 (by kernel_rfl))) (fun hin2 s6 B6 hB6 hR6 => C8 1000 hin2 ?_)
  change BExt B5 B6 at hB6
  have hBX := hB5.trans hB6
  repeat' (simp (maxSteps := 4000000) (disch := omega) only [go_sem, ↓reduceIte])
  refine H7 (hrf B6 kdv (hB0.trans hBX) (hkd.ext' hBX)) (fun _ => by simp [closed, A0]) (by kernel_rfl) (F1 (by kernel_rfl) (C1 (by kernel_rfl))) (fun hin2 s7 B7 hB7 hR7 => C8 1000 hin2 ?_)
  change BExt B6 B7 at hB7
  repeat' (first | with_reducible refine And.intro (by first | omega | (simp; done)) ?_ | simp (maxSteps := 4000000) (disch := omega) only [go_sem, ↓reduceIte])
  refine M9 100014 0 2 2 [] ([(txt (pfx r false), s6), (M8 (E3 k), s7)].flatMap itC) Dn5 rfl rfl rfl (fun s => by simp [closed, A0]) (fun B ad cap hB hc3 => Af9 [(txt (pfx r false), s6), (M8 (E3 k), s7)] 2 B ad cap hc3 (by simp) (fun q hq => by
   simp only [List.mem_cons, List.not_mem_nil, or_false] at hq
   rcases hq with rfl | rfl
   ·exact hR6.ext (hB7.trans hB)
   ·exact hR7.ext hB) rfl) (by kernel_rfl) (F1 (by kernel_rfl) (C1 (by kernel_rfl))) (fun hin2 s8 B8 hB8 hR8 => C8 1000 hin2 ?_)
  change BExt B7 B8 at hB8
  repeat' (first | simp (maxSteps := 4000000) (disch := omega) only [go_sem, ↓reduceIte] | with_reducible refine D7 (by kernel_rfl) (C1 (by kernel_rfl)) (A3 1000 ?_))
  have hfin : Itm.mk 1 [] (List.map Prod.fst [(txt (pfx r false), s6), (M8 (E3 k), s7)]) = E3 (.ext r k) := rfl
  rw [hfin] at hR8
  first | exact ⟨hB5.trans (hB6.trans (hB7.trans hB8)), s8, rfl, by simp [closed, A0], hR8⟩ | exact ⟨s8, rfl, by simp [closed, A0], hR8⟩
theorem De6 {B : Base} {nd : Nd} {T : TypeId} {b : Nat} (h : NdAt B nd (.iface T (.pointer (some ⟨b, 0, none⟩)))) (w : World) : (method (Tryz.prog.types.size + Made.depth) T (.pointer (some ⟨b, 0, none⟩)) "cairn/trie.item").run Tryz.prog w = .ok (itF T, .pointer (some ⟨b, 0, none⟩)) w := by
 cases h with
 | leaf => kernel_rfl
 | ext => kernel_rfl
 | br => kernel_rfl
theorem Cm8 {B : Base} {nd : Nd} {T : TypeId} {b : Nat} (h : NdAt B nd (.iface T (.pointer (some ⟨b, 0, none⟩))))
  (hi : Does Tryz.prog (itF T) [.raw (.pointer (some ⟨b, 0, none⟩))] B (fun s : Plc => .agg (itE (E3 nd) s)) (fun s B' => ItAt B' (E3 nd) s)) (hok : chk (E3 nd) 0 = 0) (hf : (H5 (E3 nd)).length < 35184372088832) :
  Does Tryz.prog 45 [.raw (.iface T (.pointer (some ⟨b, 0, none⟩)))] B (fun s : Option Addr × Nat => .raw (.slice s.1 (H5 (E3 nd)).length s.2)) (fun s B' => BytesAt B' s.1 (H5 (E3 nd)) ∧ (H5 (E3 nd)).length ≤ s.2) := by
 refine I7 Eq1 (fun s B B' hB hR => ⟨hR.1.ext hB, hR.2⟩) Tryz.func45 rfl Ej2 (by simp [Tryz.f45]) (by simp [A0, closed]) (fun B0 hB0 => A3 1000 ?_)
 repeat' (simp (maxSteps := 4000000) (disch := omega) only [go_sem, ↓reduceIte, Tryz.f45])
 refine Eb8 rfl rfl (De6 h) ?_
 refine F9 (O4 hi hB0) (fun _ => by simp [closed, A0]) (fun s1 B1 hB1 hR1 => A3 1000 ?_)
 change BExt B0 B1 at hB1
 repeat' (simp (maxSteps := 4000000) (disch := omega) only [go_sem, ↓reduceIte])
 refine F9 (Cn3 hR1 hok hf) (fun _ => by simp [closed, A0]) (fun s2 B2 hB2 hR2 => A3 1000 ?_)
 change BExt B1 B2 at hB2
 repeat' (simp (maxSteps := 4000000) (disch := omega) only [go_sem, ↓reduceIte])
 first | exact ⟨hB1.trans hB2, s2, rfl, by simp [closed, A0], hR2⟩ | exact ⟨s2, rfl, by simp [closed, A0], hR2⟩
end Go.Proofs.YtepabkjfnpaijaaGreat
