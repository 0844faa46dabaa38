/- Part of a proof over the seat Ytncjbfkkgdepoaa. -/
import Derived.Test.YtncjbfkkgdepoaaG09
import Derived.Test.YtncjbfkkgdepoaaEng2
set_option linter.unusedSimpArgs false
set_option linter.unusedVariables false
set_option maxRecDepth 100000
namespace Go.Proofs.Ytncjbfkkgdepoaa
open Go RowKit Go.Ew
set_option maxHeartbeats 4000000
theorem Dc8 : C5 Try.f11.ntmps (Try.f11.body.getD .skip) = true := by kernel_rfl
theorem Dg4 : C5 Try.f45.ntmps (Try.f45.body.getD .skip) = true := by kernel_rfl
theorem Dg0 : C5 Try.f52.ntmps (Try.f52.body.getD .skip) = true := by kernel_rfl
theorem Df2 : C5 Try.f79.ntmps (Try.f79.body.getD .skip) = true := by kernel_rfl
def hiN (c : UInt8) : UInt8 := UInt8.ofNat (c.toNat / 16)
def loN (c : UInt8) : UInt8 := UInt8.ofNat (c.toNat % 16)
theorem Ad8 (c : UInt8) : (hiN c).toNat = c.toNat / 16 := by
 have := c.toNat_lt
 exact UInt8.toNat_ofNat_of_lt' (by show c.toNat / 16 < 256; omega)
theorem O4 (c : UInt8) : (loN c).toNat = c.toNat % 16 := by
 have := c.toNat_lt
 exact UInt8.toNat_ofNat_of_lt' (by show c.toNat % 16 < 256; omega)
def G7 (b : List UInt8) : List UInt8 := b.flatMap fun c => [hiN c, loN c]
theorem O7 (b : List UInt8) : (G7 b).length = 2 * b.length := by
 rw [G7, R0 (k := 2) (fun _ _ => rfl)]
theorem Ai7 {b : List UInt8} {i : Nat} (hi : i < b.length) : G7 (b.take (i + 1)) = G7 (b.take i) ++ [hiN b[i], loN b[i]] := by
 rw [List.take_succ_eq_append_getElem hi, G7, List.flatMap_append, List.flatMap_singleton]; rfl
theorem Cv3 (c : UInt8) : Cg4 .u8 (c.toNat : Int) 4 = ((hiN c).toNat : Int) := by
 have h : ∀ n : Fin 256, Cg4 .u8 ((n.val : Nat) : Int) 4 = ((n.val / 16 : Nat) : Int) := by decide +kernel
 rw [Ad8]; exact h ⟨c.toNat, c.toNat_lt⟩
theorem Ae5 (c : UInt8) : Bj3 .u8 (c.toNat : Int) 15 = ((loN c).toNat : Int) := by
 have h : ∀ n : Fin 256, Bj3 .u8 ((n.val : Nat) : Int) 15 = ((n.val % 16 : Nat) : Int) := by decide +kernel
 rw [O4]; exact h ⟨c.toNat, c.toNat_lt⟩
theorem Ad3 (b : List UInt8) (n : Nat) (B : Base) (ad : Option Addr) (cap : Nat) (hb : BytesAt B ad b) (hn : b.length = n) (hc : n ≤ 1099511627776) :
  Does Try.prog 11 [.raw (.slice ad n cap)] B (fun s : Option Addr × Nat => .raw (.slice s.1 (G7 b).length s.2)) (fun s B' => BytesAt B' s.1 (G7 b) ∧ (G7 b).length ≤ s.2) := by
 subst hn
 refine J9 Cz7 (fun s B B' hB hR => ⟨hR.1.ext hB, hR.2⟩) Try.func11 rfl Dc8 (by simp [Try.f11]) (by simp [A0, closed]) (fun B0 hB0 => A3 1000 ?_)
 replace hb := hb.ext hB0
 have eN : ∀ r n, lE r n none = .raw (.slice none 0 0) := fun _ _ => rfl
 have oN : ∀ T xs, lO T xs none = none := fun _ _ => rfl
 have cn : ∀ n, clO n (none : Option EObj) = True := fun n => by simp [clO]
 repeat' (simp (maxSteps := 4000000) (disch := omega) only [go_sem, ↓reduceIte, Try.f11])
 refine G1 (S := Nat × Lst) (fun s => s.1 ≤ b.length ∧ lOk [.int .u8 0] (G7 (b.take s.1)).length s.2)
  (fun s => ⟨[(8, .int .i64 (s.1 : Nat)), (7, .int .i64 (b.length : Nat)), (6, .raw (.slice ad b.length cap)), (3, lE 0 (G7 (b.take s.1)).length s.2)], 1, [(0, lO 5 ((G7 (b.take s.1)).map bE) s.2)], B0, []⟩)
  (fun s => b.length - s.1) (0, none) ⟨Nat.zero_le _, rfl⟩ (Weak.sub (A5 (by simp [wσ, go_sem, closed, A0, A4, eN, oN, cn, List.take_zero, G7] <;> omega) (by simp [whs, Go.Ew.hget, go_sem, EObj.closed, closed, A0, A4, eN, oN, cn, List.take_zero, G7]) (by first | (simp [*]; done) | (simp only [cxG]; omega)) rfl rfl (by simp))) ?_
 rintro ⟨i, l⟩ ⟨hi, hl⟩
 simp only at hi hl ⊢
 rcases Nat.lt_or_ge i b.length with hi2 | hi2
 ·have cA : decide ((i : Int) < (b.length : Int)) = true := decide_eq_true (by omega)
  have m1 := hb.ld i hi2
  have m2 := hb.lS i hi2
  have m3 := hb.lD (by omega)
  have m4 := hb.ok.so (by omega)
  have htk := Ai7 hi2
  have hgi : b.getD i 0 = b[i] := by rw [List.getD_eq_getElem?_getD, List.getElem?_eq_getElem hi2]; rfl
  rw [hgi] at m1
  obtain ⟨c, hc0⟩ : ∃ c, c = b[i] := ⟨_, rfl⟩
  rw [← hc0] at m1 htk
  have e4 := Cv3 c
  have e15 := Ae5 c
  have hlen := O7 (b.take i)
  have hlt : (b.take i).length = i := by rw [List.length_take]; omega
  have hlen2 : (G7 (b.take (i + 1))).length = (G7 (b.take i)).length + 2 := by rw [htk, List.length_append]; rfl
  refine A3 1000 ?_
  repeat' (first | with_reducible refine And.intro (by first | omega | assumption | (constructor <;> assumption) | (simp; done) | (simp; omega) | (simp [*]; done) | ((repeat' refine And.intro ?_ ?_) <;> first | omega | assumption | (refine SlOk.so (n := ?_) ?_ ?_; rotate_left; assumption; omega) | (simp; done) | fail) | fail) ?_ | simp (maxSteps := 4000000) (disch := omega) only [go_sem, ↓reduceIte, cA, Int.toNat_natCast, m1, bE, e4, e15])
  refine Au0 (l := l) (xs := (G7 (b.take i)).map bE) (zs := [.int .u8 0]) (news := [hiN c, loN c].map bE) (m := 2) (T := 5) 0 (G7 (b.take i)).length rfl Try.underlying22 (.inl ⟨_, Try.underlying22⟩) zr5 cz5 (by simp) hz8 rfl rfl rfl hl (by simp) (A7 0 _) (J5 (m := 2) rfl rfl) (by simp) (Bx0 _) (by simp only [maxLen]; omega) (by rw [show Try.prog.bytesOf 5 = 1 from by5]; omega) (fun l2 hl2 => ?_)
  rw [← hlen2] at hl2
  have hl2' := hl2
  obtain ⟨cp, rest, rfl, -⟩ := E6 hl2 (by omega)
  have hev : (G7 (b.take i)).map bE ++ [hiN c, loN c].map bE = (G7 (b.take (i + 1))).map bE := by rw [htk, List.map_append]
  rw [hev, ← hlen2]
  simp only [C1]
  refine A3 1000 ?_
  repeat' (simp (maxSteps := 4000000) (disch := omega) only [go_sem, ↓reduceIte])
  have cl2 : ∀ n, clO n (lO 5 ((G7 (b.take (i + 1))).map bE) (some (cp, rest))) = True := fun n => J4 hl2' (A7 0 _) hz8
  refine ⟨(i + 1, some (cp, rest)), ⟨hi2, hl2'⟩, (Bg2 [2] 0 (by simp) (by simp) (by simp) (by simp)).trans ?_, by simp only; omega⟩
  simp only [go_sem, okC, okE, U9, F2, H2 (ks := [2]) (k := 0) hl2' (A7 0 _) hz8, E3, C1]
  exact Weak.sub (A5 (by simp [wσ, go_sem, closed, A0, A4, cl2, C1] <;> omega) (by simp [whs, Go.Ew.hget, go_sem, EObj.closed, closed, A0, A4, cl2, C1]) (by first | (simp [*]; done) | (simp only [cxG]; omega)) rfl rfl (by simp))
 ·obtain rfl : i = b.length := by omega
  have cA : decide ((b.length : Int) < (b.length : Int)) = false := decide_eq_false (by omega)
  rw [List.take_length] at hl ⊢
  refine J8 (xs := G7 b) (T := 5) 0 (G7 b).length rfl rfl hl (by simp) (fun b2 ad2 cap2 B4 hB4 hfz hbY hcap2 => A3 1000 ?_)
  change BExt B0 B4 at hB4
  repeat' (first | with_reducible refine And.intro (by first | omega | assumption | (constructor <;> assumption) | (simp; done) | (simp; omega) | (simp [*]; done) | ((repeat' refine And.intro ?_ ?_) <;> first | omega | assumption | (refine SlOk.so (n := ?_) ?_ ?_; rotate_left; assumption; omega) | (simp; done) | fail) | fail) ?_ | simp (maxSteps := 4000000) (disch := omega) only [go_sem, ↓reduceIte, cA, hfz] | with_reducible refine A3 1000 ?_)
  first | exact ⟨hB4, (ad2, cap2), rfl, by simp [closed, A0], ⟨hbY, hcap2⟩⟩ | exact ⟨(ad2, cap2), rfl, by simp [closed, A0], ⟨hbY, hcap2⟩⟩ | exact ⟨hB4, (ad2, cap2), by simp [closed, A0], ⟨hbY, hcap2⟩⟩ | exact ⟨(ad2, cap2), by simp [closed, A0], ⟨hbY, hcap2⟩⟩ | exact ⟨hB4, (ad2, cap2), by simp [closed, A0, F6]⟩ | exact ⟨(ad2, cap2), by simp [closed, A0, F6]⟩
theorem Ba0 (p : List UInt8) (n : Nat) (B : Base) (ad : Option Addr) (cap : Nat) (h : BytesAt B ad p) (hn : p.length = n) (hp : n ≤ 1099511627776) :
  Does Try.prog 45 [.raw (.slice ad n cap)] B (fun s : Option Addr × Nat => .raw (.slice s.1 n s.2)) (fun s B' => BytesAt B' s.1 p ∧ n ≤ s.2) := by
 subst hn
 refine J9 Dj7 (fun s B B' hB hR => ⟨hR.1.ext hB, hR.2⟩) Try.func45 rfl Dg4 (by simp [Try.f45]) (by simp [A0, closed]) (fun B0 hB0 => A3 1000 ?_)
 replace h := h.ext hB0
 cases ad with
 | none =>
  have h0 : p.length = 0 := by
   rcases Nat.eq_zero_or_pos p.length with h1 | h1
   ·exact h1
   ·have := h.ok h1; cases this
  obtain rfl := List.length_eq_zero_iff.1 h0
  repeat' (first | with_reducible refine And.intro (by first | omega | assumption | (constructor <;> assumption) | (simp; done) | (simp; omega) | (simp [*]; done) | ((repeat' refine And.intro ?_ ?_) <;> first | omega | assumption | (refine SlOk.so (n := ?_) ?_ ?_; rotate_left; assumption; omega) | (simp; done) | fail) | fail) ?_ | simp (maxSteps := 4000000) (disch := omega) only [go_sem, ↓reduceIte, Try.f45, Option.isNone_none])
  exact ⟨BExt.refl _, (none, 0), by simp [closed, h]⟩
 | some a =>
  repeat' (first | with_reducible refine And.intro (by first | omega | assumption | (constructor <;> assumption) | (simp; done) | (simp; omega) | (simp [*]; done) | ((repeat' refine And.intro ?_ ?_) <;> first | omega | assumption | (refine SlOk.so (n := ?_) ?_ ?_; rotate_left; assumption; omega) | (simp; done) | fail) | fail) ?_ | simp (maxSteps := 4000000) (disch := omega) only [go_sem, ↓reduceIte, Try.f45, Option.isNone_some])
  refine appB (T := 5) (l := some (0, [])) (xs := []) 0 0 p rfl Try.underlying22 (.inl ⟨_, Try.underlying22⟩) zr5 cz5 by5 rfl rfl rfl ⟨Nat.le_refl _, Nat.zero_le _, rfl, by simp⟩ (h.src _) (by omega) (fun l1 hl1 => ?_)
  simp only [Nat.zero_add, List.nil_append] at hl1 ⊢
  refine J8 (xs := p) (T := 5) 1 p.length rfl rfl hl1 (by simp) (fun b2 ad2 cap2 B2 hB2 hfz hbY hcap2 => A3 1000 ?_)
  change BExt B0 B2 at hB2
  repeat' (first | with_reducible refine And.intro (by first | omega | assumption | (constructor <;> assumption) | (simp; done) | (simp; omega) | (simp [*]; done) | ((repeat' refine And.intro ?_ ?_) <;> first | omega | assumption | (refine SlOk.so (n := ?_) ?_ ?_; rotate_left; assumption; omega) | (simp; done) | fail) | fail) ?_ | simp (maxSteps := 4000000) (disch := omega) only [go_sem, ↓reduceIte, hfz])
  first | exact ⟨hB2, (ad2, cap2), rfl, by simp [closed, A0], ⟨hbY, hcap2⟩⟩ | exact ⟨(ad2, cap2), rfl, by simp [closed, A0], ⟨hbY, hcap2⟩⟩ | exact ⟨hB2, (ad2, cap2), by simp [closed, A0], ⟨hbY, hcap2⟩⟩ | exact ⟨(ad2, cap2), by simp [closed, A0], ⟨hbY, hcap2⟩⟩ | exact ⟨hB2, (ad2, cap2), by simp [closed, A0, F6]⟩ | exact ⟨(ad2, cap2), by simp [closed, A0, F6]⟩
theorem Aq1 {a b : List UInt8} : ((Aa3 a).toList == (Aa3 b).toList) = decide (a = b) := by
 have key : ∀ l : List UInt8, (Aa3 l).toList = l := fun l => by
  rw [Aq2, ByteArray.toList_eq]
 rw [key, key, Bool.eq_iff_iff, decide_eq_true_eq, beq_iff_eq]
theorem Bh7 (p q : List UInt8) (n m : Nat) (B : Base) (ad bd : Option Addr) (cp cq : Nat) (hp : BytesAt B ad p) (hq : BytesAt B bd q) (hn : p.length = n) (hm : q.length = m) :
  Does Try.prog 52 [.raw (.slice ad n cp), .raw (.slice bd m cq)] B (fun _ : Unit => .bool (decide (p = q))) (fun _ _ => True) := by
 refine J9 Dj3 (fun s B B' hB hR => hR) Try.func52 rfl Dg0 (by simp [Try.f52]) (by simp [A0, closed]) (fun B0 hB0 => A3 1000 ?_)
 replace hp := hp.ext hB0
 replace hq := hq.ext hB0
 repeat' (simp (maxSteps := 4000000) (disch := omega) only [go_sem, ↓reduceIte, Try.f52])
 refine Bk1 p rfl Try.underlying22 Try.underlying5 Try.underlying9 rfl hn hp (A3 1000 ?_)
 repeat' (simp (maxSteps := 4000000) (disch := omega) only [go_sem, ↓reduceIte])
 refine Bk1 q rfl Try.underlying22 Try.underlying5 Try.underlying9 rfl hm hq (A3 1000 ?_)
 have hs := Aq1 (a := p) (b := q)
 repeat' (simp (maxSteps := 4000000) (disch := omega) only [go_sem, ↓reduceIte, hs])
 first | exact ⟨BExt.refl _, (), rfl, trivial, trivial⟩ | exact ⟨BExt.refl _, (), rfl, trivial⟩ | exact ⟨BExt.refl _, (), trivial⟩
/-- How many bytes two lists have in common at their beginnings. -/
def com : List UInt8 → List UInt8 → Nat
 | a :: l, b :: m => if a = b then com l m + 1 else 0
 | _, _ => 0
theorem Ao6 : ∀ l m : List UInt8, com l m ≤ l.length ∧ com l m ≤ m.length
 | a :: l, b :: m => by
  have := Ao6 l m
  rw [com]; split <;> simp <;> omega
 | [], _ => by simp [com]
 | _ :: _, [] => by simp [com]
theorem Cg1 : ∀ (l m : List UInt8) (i : Nat), i < com l m → l.getD i 0 = m.getD i 0
 | a :: l, b :: m, i, h => by
  rw [com] at h
  split at h
  ·rename_i e
   cases i with
   | zero => simpa using e
   | succ i => simpa using Cg1 l m i (by omega)
  ·omega
 | [], _, i, h => by simp [com] at h
 | _ :: _, [], i, h => by simp [com] at h
theorem Bi2 : ∀ (l m : List UInt8), com l m < l.length → com l m < m.length → l.getD (com l m) 0 ≠ m.getD (com l m) 0
 | a :: l, b :: m, h1, h2 => by
  rw [com] at h1 h2 ⊢
  split
  ·rename_i e
   rw [if_pos e] at h1 h2
   simpa using Bi2 l m (by simpa using h1) (by simpa using h2)
  ·rename_i e
   simpa using e
 | [], _, h1, _ => by simp at h1
 | _ :: _, [], _, h2 => by simp at h2
theorem Cc2 {l m : List UInt8} {i : Nat} (hi : i ≤ com l m) : (i < l.length ∧ i < m.length ∧ l.getD i 0 = m.getD i 0) ↔ i < com l m := by
 have hle := Ao6 l m
 constructor
 ·rintro ⟨h1, h2, h3⟩
  rcases Nat.lt_or_ge i (com l m) with h | h
  ·exact h
  ·obtain rfl : i = com l m := by omega
   exact absurd h3 (Bi2 l m h1 h2)
 ·intro h
  exact ⟨by omega, by omega, Cg1 l m i h⟩
theorem Ay5 (p q : List UInt8) (n m : Nat) (B : Base) (ad bd : Option Addr) (cp cq : Nat) (hp : BytesAt B ad p) (hq : BytesAt B bd q) (hn : p.length = n) (hm : q.length = m) (hbn : n ≤ 1099511627776) (hbm : m ≤ 1099511627776) :
  Does Try.prog 79 [.raw (.slice ad n cp), .raw (.slice bd m cq)] B (fun _ : Unit => .int .i64 (com p q : Nat)) (fun _ _ => True) := by
 subst hn hm
 refine J9 Di5 (fun s B B' hB hR => hR) Try.func79 rfl Df2 (by simp [Try.f79]) (by simp [A0, closed]) (fun B0 hB0 => A3 1000 ?_)
 replace hp := hp.ext hB0
 replace hq := hq.ext hB0
 have hle := Ao6 p q
 repeat' (simp (maxSteps := 4000000) (disch := omega) only [go_sem, ↓reduceIte, Try.f79])
 refine G1 (S := Nat) (fun i => i ≤ com p q)
  (fun i => ⟨[(5, .int .i64 (i : Nat)), (1, .raw (.slice bd q.length cq)), (0, .raw (.slice ad p.length cp))], 0, [], B0, []⟩)
  (fun i => com p q - i) 0 (Nat.zero_le _) (Weak.sub (A5 (by simp [wσ, go_sem, closed, A0, A4, ] <;> omega) (by simp [whs, Go.Ew.hget, go_sem, EObj.closed, closed, A0, A4, ]) (by first | (simp [*]; done) | (simp only [cxG]; omega)) rfl rfl (by simp))) ?_
 intro i hi
 have hnx := Cc2 hi
 refine A3 1000 ?_
 by_cases h1 : i < p.length
 ·have m1 := hp.ld i h1
  have m2 := hp.lS i h1
  have m3 := hp.lD (by omega)
  have m4 := hp.ok.so (by omega)
  have c1 : decide ((i : Int) < (p.length : Int)) = true := decide_eq_true (by omega)
  by_cases h2 : i < q.length
  ·have k1 := hq.ld i h2
   have k2 := hq.lS i h2
   have k3 := hq.lD (by omega)
   have k4 := hq.ok.so (by omega)
   have c2 : decide ((i : Int) < (q.length : Int)) = true := decide_eq_true (by omega)
   by_cases h3 : p.getD i 0 = q.getD i 0
   ·have c3 : ((((p.getD i 0).toNat : Nat) : Int) == (((q.getD i 0).toNat : Nat) : Int)) = true := by rw [h3]; exact beq_self_eq_true _
    have hlt := hnx.1 ⟨h1, h2, h3⟩
    repeat' (first | with_reducible refine And.intro (by first | omega | assumption | (constructor <;> assumption) | (simp; done) | (simp; omega) | (simp [*]; done) | ((repeat' refine And.intro ?_ ?_) <;> first | omega | assumption | (refine SlOk.so (n := ?_) ?_ ?_; rotate_left; assumption; omega) | (simp; done) | fail) | fail) ?_ | simp (maxSteps := 4000000) (disch := omega) only [go_sem, ↓reduceIte, c1, c2, c3, m1, k1, bE, Int.toNat_natCast] | with_reducible refine D6 (id := 2) [0, 1, 2, 3, 4, 5, 6, 7, 8, 9, 10, 11, 12, 13, 14, 15, 16, 17, 18, 19, 20] mixed (by kernel_rfl) (by simp) (fun hin => D4 1000 hin ?_) | with_reducible refine E1 (by kernel_rfl) (C3 (by kernel_rfl)) (A3 1000 ?_))
    exact ⟨i + 1, hlt, Weak.sub (A5 (by simp [wσ, go_sem, closed, A0, A4, ] <;> omega) (by simp [whs, Go.Ew.hget, go_sem, EObj.closed, closed, A0, A4, ]) (by first | (simp [*]; done) | (simp only [cxG]; omega)) rfl rfl (by simp)), by omega⟩
   ·have c3 : ((((p.getD i 0).toNat : Nat) : Int) == (((q.getD i 0).toNat : Nat) : Int)) = false := by
     rw [beq_eq_false_iff_ne]
     exact fun h => h3 (UInt8.toNat_inj.1 (by omega))
    have hge : i = com p q := by
     have : ¬ i < com p q := fun h => h3 (hnx.2 h).2.2
     omega
    rw [← hge]
    repeat' (first | with_reducible refine And.intro (by first | omega | assumption | (constructor <;> assumption) | (simp; done) | (simp; omega) | (simp [*]; done) | ((repeat' refine And.intro ?_ ?_) <;> first | omega | assumption | (refine SlOk.so (n := ?_) ?_ ?_; rotate_left; assumption; omega) | (simp; done) | fail) | fail) ?_ | simp (maxSteps := 4000000) (disch := omega) only [go_sem, ↓reduceIte, c1, c2, c3, m1, k1, bE, Int.toNat_natCast] | with_reducible refine D6 (id := 2) [0, 1, 2, 3, 4, 5, 6, 7, 8, 9, 10, 11, 12, 13, 14, 15, 16, 17, 18, 19, 20] mixed (by kernel_rfl) (by simp) (fun hin => D4 1000 hin ?_) | with_reducible refine E1 (by kernel_rfl) (C3 (by kernel_rfl)) (A3 1000 ?_) | with_reducible refine A3 1000 ?_)
    first | exact ⟨BExt.refl _, (), rfl, trivial, trivial⟩ | exact ⟨BExt.refl _, (), rfl, trivial⟩ | exact ⟨BExt.refl _, (), trivial⟩
  ·have c2 : decide ((i : Int) < (q.length : Int)) = false := decide_eq_false (by omega)
   have hge : i = com p q := by omega
   rw [← hge]
   repeat' (first | simp (maxSteps := 4000000) (disch := omega) only [go_sem, ↓reduceIte, c1, c2, m1, bE, Int.toNat_natCast] | with_reducible refine D6 (id := 2) [0, 1, 2, 3, 4, 5, 6, 7, 8, 9, 10, 11, 12, 13, 14, 15, 16, 17, 18, 19, 20] mixed (by kernel_rfl) (by simp) (fun hin => D4 1000 hin ?_) | with_reducible refine E1 (by kernel_rfl) (C3 (by kernel_rfl)) (A3 1000 ?_) | with_reducible refine A3 1000 ?_)
   first | exact ⟨BExt.refl _, (), rfl, trivial, trivial⟩ | exact ⟨BExt.refl _, (), rfl, trivial⟩ | exact ⟨BExt.refl _, (), trivial⟩
 ·have c1 : decide ((i : Int) < (p.length : Int)) = false := decide_eq_false (by omega)
  have hge : i = com p q := by omega
  rw [← hge]
  repeat' (first | simp (maxSteps := 4000000) (disch := omega) only [go_sem, ↓reduceIte, c1, Int.toNat_natCast] | with_reducible refine D6 (id := 2) [0, 1, 2, 3, 4, 5, 6, 7, 8, 9, 10, 11, 12, 13, 14, 15, 16, 17, 18, 19, 20] mixed (by kernel_rfl) (by simp) (fun hin => D4 1000 hin ?_) | with_reducible refine E1 (by kernel_rfl) (C3 (by kernel_rfl)) (A3 1000 ?_) | with_reducible refine A3 1000 ?_)
  first | exact ⟨BExt.refl _, (), rfl, trivial, trivial⟩ | exact ⟨BExt.refl _, (), rfl, trivial⟩ | exact ⟨BExt.refl _, (), trivial⟩
end Go.Proofs.Ytncjbfkkgdepoaa
namespace Go.Proofs.Ytncjbfkkgdepoaa
open Go RowKit Go.Ew
set_option maxHeartbeats 4000000
theorem Dc6 : C5 Try.f80.ntmps (Try.f80.body.getD .skip) = true := by kernel_rfl
theorem Df1 : C5 Try.f81.ntmps (Try.f81.body.getD .skip) = true := by kernel_rfl
inductive Nd where
 | nil
 | leaf (r v : List UInt8)
 | ext (r : List UInt8) (k : Nd)
 | br (ks : List Nd) (v : List UInt8)
inductive NdAt (B : Base) : Nd → Value → Prop where
 | nil : NdAt B .nil .nilIface
 | leaf (r v : List UInt8) (b : Nat) (rA vA : Option Addr) (rc vc : Nat) (hc : CellsAt B (some ⟨b, 0, none⟩) [.slice rA r.length rc, .slice vA v.length vc]) (hr : BytesAt B rA r) (hv : BytesAt B vA v) (h1 : r.length ≤ rc) (h2 : r.length ≤ 1099511627776) (h3 : v.length ≤ 1099511627776) :
   NdAt B (.leaf r v) (.iface 112 (.pointer (some ⟨b, 0, none⟩)))
 | ext (r : List UInt8) (k : Nd) (b : Nat) (rA : Option Addr) (rc : Nat) (kv : Value) (hc : CellsAt B (some ⟨b, 0, none⟩) [.slice rA r.length rc, kv]) (hr : BytesAt B rA r) (h1 : r.length ≤ rc) (h2 : r.length ≤ 1099511627776) (hk : NdAt B k kv) :
   NdAt B (.ext r k) (.iface 116 (.pointer (some ⟨b, 0, none⟩)))
 | br (qs : List (Nd × Value)) (v : List UInt8) (b : Nat) (vA : Option Addr) (vc : Nat) (hc : CellsAt B (some ⟨b, 0, none⟩) (qs.map Prod.snd ++ [.slice vA v.length vc])) (hq : qs.length = 16) (hk : ∀ q ∈ qs, NdAt B q.1 q.2) (hv : BytesAt B vA v) (h3 : v.length ≤ 1099511627776) :
   NdAt B (.br (qs.map Prod.fst) v) (.iface 119 (.pointer (some ⟨b, 0, none⟩)))
theorem NdAt.ext' {B B' : Base} {t : Nd} {v : Value} (h : NdAt B t v) (e : BExt B B') : NdAt B' t v := by
 induction h with
 | nil => exact .nil
 | leaf r v b rA vA rc vc hc hr hv h1 h2 h3 => exact .leaf r v b rA vA rc vc (hc.ext e) (hr.ext e) (hv.ext e) h1 h2 h3
 | ext r k b rA rc kv hc hr h1 h2 hk ih => exact .ext r k b rA rc kv (hc.ext e) (hr.ext e) h1 h2 ih
 | br qs v b vA vc hc hq hk hv h3 ih => exact .br qs v b vA vc (hc.ext e) hq ih (hv.ext e) h3
/-- Whether a node's value is none. -/
theorem NdAt.cases' {B : Base} {t : Nd} {v : Value} (h : NdAt B t v) : (t = .nil ∧ v = .nilIface) ∨ (t ≠ .nil ∧ ∃ T b, v = .iface T (.pointer (some ⟨b, 0, none⟩))) := by
 cases h with
 | nil => exact .inl ⟨rfl, rfl⟩
 | leaf => exact .inr ⟨by simp, _, _, rfl⟩
 | ext => exact .inr ⟨by simp, _, _, rfl⟩
 | br => exact .inr ⟨by simp, _, _, rfl⟩
structure BrS where
 qs : List (Nd × Value)
 vA : Option Addr
 vn : Nat
 vc : Nat
def brC (s : BrS) : List EV := s.qs.map (fun q => .raw q.2) ++ [.raw (.slice s.vA s.vn s.vc)]
def brO (s : BrS) : EObj := .cells (brC s) 122 (0, 0)
structure BrOk (B : Base) (s : BrS) (v : List UInt8) : Prop where
 q : s.qs.length = 16
 k : ∀ q ∈ s.qs, NdAt B q.1 q.2
 b : BytesAt B s.vA v
 l : v.length = s.vn
 m : s.vn ≤ 1099511627776
theorem BrOk.ext {B B' : Base} {s : BrS} {v : List UInt8} (h : BrOk B s v) (e : BExt B B') : BrOk B' s v := ⟨h.q, fun q hq => (h.k q hq).ext' e, h.b.ext e, h.l, h.m⟩
theorem P1 (n : Nat) (s : BrS) : A0 n (brC s) := by
 have : ∀ l : List (Nd × Value), A0 n (l.map (fun q => EV.raw q.2)) := fun l => by
  induction l with
  | nil => trivial
  | cons a l ih => exact ⟨trivial, ih⟩
 exact closeds_append.2 ⟨this _, trivial, trivial⟩
theorem Ag8 (i b : Nat) (s : BrS) : Ag3 i b (brC s) = brC s := I9 _ (P1 0 s)
theorem H5 (s : BrS) : (brO s).closed 0 := P1 0 s
theorem Be2 {s : BrS} (h : s.qs.length = 16) : (brC s).length = 17 := by simp [brC, h]
theorem Az7 {s : BrS} (h : s.qs.length = 16) (vA : Option Addr) (vn vc : Nat) : (brC s).set 16 (.raw (.slice vA vn vc)) = brC ⟨s.qs, vA, vn, vc⟩ := by
 simp [brC, List.set_append, h]
theorem Bw2 {s : BrS} {i : Nat} (hi : i < s.qs.length) (t : Nd) (v : Value) : (brC s).set i (.raw v) = brC ⟨s.qs.set i (t, v), s.vA, s.vn, s.vc⟩ := by
 simp only [brC]
 rw [List.set_append_left _ _ (by simpa using hi), List.map_set]
/-- A kid laid below a branch. -/
def Z9 (rest : List UInt8) (kid : Nd) (v : List UInt8) : Nd :=
 match kid with
 | .nil => .leaf (rest.drop 1) v
 | k => if 1 < rest.length then .ext (rest.drop 1) k else k
theorem S7 {B : Base} (ad : Option Addr) : BytesAt B ad [] := ⟨fun a _ h0 => absurd h0 (by simp), fun h => absurd h (by simp), fun j hj => absurd hj (by simp)⟩
theorem I1 {B : Base} {ad : Option Addr} {l : List UInt8} {cap : Nat} (h : BytesAt B ad l) (k : Nat) (hc : l.length ≤ cap) : BytesAt B (if cap = k then ad else ad.map (·.add k)) (l.drop k) := by
 split
 ·rename_i e
  rw [List.drop_eq_nil_of_le (by omega)]
  exact S7 _
 ·exact h.drop k
theorem Co0 {B : Base} {s : BrS} {w : List UInt8} (hs : BrOk B s w) (rest : List UInt8) (rA : Option Addr) (rc : Nat) (kid : Nd) (kv : Value) (v : List UInt8) (vA : Option Addr) (vc : Nat)
  (hr : BytesAt B rA rest) (hrc : rest.length ≤ rc) (hrl : rest.length ≤ 1099511627776) (hk : NdAt B kid kv) (hv : BytesAt B vA v) (hvl : v.length ≤ 1099511627776) (hne : rest ≠ []) (h16 : (rest.getD 0 0).toNat < 16) :
  Turn2 Try.prog 80 [.raw (.slice rA rest.length rc), .raw kv, .raw (.slice vA v.length vc)] (brO s) B (fun _ : Value => .tup []) (fun u => brO ⟨s.qs.set (rest.getD 0 0).toNat (Z9 rest kid v, u), s.vA, s.vn, s.vc⟩)
   (fun u B' => BExt B B' ∧ NdAt B' (Z9 rest kid v) u) := by
 refine Q3 Dd1 (fun s B B' hB hR => ⟨hR.1.trans hB, hR.2.ext' hB⟩) Try.func80 rfl Dc6 (by simp [Try.f80]) (by simp [A0, closed]) (H5 _) (fun u => H5 _) (fun B0 hB0 b => A3 1000 ?_)
 replace hs := hs.ext hB0
 replace hr := hr.ext hB0
 replace hk := hk.ext' hB0
 replace hv := hv.ext hB0
 have hlen : 1 ≤ rest.length := by
  rcases Nat.eq_zero_or_pos rest.length with h1 | h1
  ·exact absurd (List.length_eq_zero_iff.1 h1) hne
  ·exact h1
 have c0 : (((rest.length : Nat) : Int) == 0) = false := by rw [beq_eq_false_iff_ne]; omega
 have m1 := hr.ld 0 (by omega)
 have m2 := hr.lS 0 (by omega)
 have m3 := hr.lD (by omega)
 have m4 := hr.ok.so (by omega)
 obtain ⟨z, hz⟩ : ∃ z, z = (rest.getD 0 0).toNat := ⟨_, rfl⟩
 have m5 : F5 B0 (I0 rA 0) = .int .u8 (z : Int) := by rw [m1, bE, hz]
 rw [← hz] at h16 ⊢
 have hbl := Be2 hs.q
 have hbs := fun t v => Bw2 (s := s) (i := z) (by rw [hs.q]; omega) t v
 have hdl : (rest.drop 1).length = rest.length - 1 := List.length_drop
 have hrd := I1 hr 1 hrc
 have m6 : ∀ {B1 : Base}, BExt B0 B1 → F5 B1 (I0 rA 0) = .int .u8 (z : Int) := fun e => by rw [(hr.ext e).ld 0 (by omega), bE, hz]
 rcases hk.cases' with ⟨rfl, rfl⟩ | ⟨hkn, T, a, rfl⟩
 ·repeat' (simp (maxSteps := 4000000) (disch := omega) only [go_sem, ↓reduceIte, Try.f80, c0, brO])
  refine As8 rfl Try.underlying71 rfl (A3 1000 ?_)
  repeat' (first | with_reducible refine And.intro (by first | omega | assumption | (constructor <;> assumption) | (simp; done) | (simp; omega) | (simp [*]; done) | ((repeat' refine And.intro ?_ ?_) <;> first | omega | assumption | (refine SlOk.so (n := ?_) ?_ ?_; rotate_left; assumption; omega) | (simp; done) | fail) | fail) ?_ | simp (maxSteps := 4000000) (disch := omega) only [go_sem, ↓reduceIte, brO])
  refine V6 1 rfl Try.underlying112 rfl rfl (by simp [A0, closed]) (by simp) (by simp) (fun b2 B1 hB1 hD hH => A3 1000 ?_)
  change BExt B0 B1 at hB1
  simp only [frzσ, frz, I6, N1, EObj.frz, Ag8, Nat.reduceEqDiff, if_false, if_true, ↓reduceIte, Ag3]
  have hC := M4 hD hH
  have hN : NdAt B1 (Z9 rest .nil v) (.iface 112 (.pointer (some ⟨b2, 0, none⟩))) := by
   rw [Z9]
   exact NdAt.leaf (rest.drop 1) v b2 _ vA (rc - 1) vc (by rw [hdl]; exact hC) (hrd.ext hB1) (hv.ext hB1) (by rw [hdl]; omega) (by rw [hdl]; omega) hvl
  have hr1 := hr.ext hB1
  have k1 := hr1.ld 0 (by omega)
  have k2 := hr1.lS 0 (by omega)
  have k3 := hr1.lD (by omega)
  have k5 : F5 B1 (I0 rA 0) = .int .u8 (z : Int) := by rw [k1, bE, hz]
  repeat' (first | with_reducible refine And.intro (by first | omega | assumption | (constructor <;> assumption) | (simp; done) | (simp; omega) | (simp [*]; done) | ((repeat' refine And.intro ?_ ?_) <;> first | omega | assumption | (refine SlOk.so (n := ?_) ?_ ?_; rotate_left; assumption; omega) | (simp; done) | fail) | fail) ?_ | simp (maxSteps := 4000000) (disch := omega) only [go_sem, ↓reduceIte, k5, hbl, Ag8, hbs (Z9 rest .nil v), Int.toNat_natCast] | with_reducible refine D6 (id := 6) [0, 1, 2, 3, 4, 5, 6, 7, 8] mixed (by kernel_rfl) (by simp) (fun hin => D4 1000 hin ?_) | with_reducible refine E1 (by kernel_rfl) (C3 (by kernel_rfl)) (A3 1000 ?_))
  exact ⟨_, trivial, rfl, hB0.trans hB1, hN⟩
 ·have hkid : Z9 rest kid v = if 1 < rest.length then .ext (rest.drop 1) kid else kid := by
   cases kid with
   | nil => exact absurd rfl hkn
   | leaf => rfl
   | ext => rfl
   | br => rfl
  repeat' (simp (maxSteps := 4000000) (disch := omega) only [go_sem, ↓reduceIte, Try.f80, c0, brO])
  refine Ab8 rfl Try.underlying71 rfl (A3 1000 ?_)
  by_cases h1 : 1 < rest.length
  ·have c1 : decide ((1 : Int) < (rest.length : Int)) = true := decide_eq_true (by omega)
   rw [if_pos h1] at hkid
   repeat' (first | with_reducible refine And.intro (by first | omega | assumption | (constructor <;> assumption) | (simp; done) | (simp; omega) | (simp [*]; done) | ((repeat' refine And.intro ?_ ?_) <;> first | omega | assumption | (refine SlOk.so (n := ?_) ?_ ?_; rotate_left; assumption; omega) | (simp; done) | fail) | fail) ?_ | simp (maxSteps := 4000000) (disch := omega) only [go_sem, ↓reduceIte, c1, brO])
   refine V6 1 rfl Try.underlying116 rfl rfl (by simp [A0, closed]) (by simp) (by simp) (fun b2 B1 hB1 hD hH => A3 1000 ?_)
   change BExt B0 B1 at hB1
   simp only [frzσ, frz, I6, N1, EObj.frz, Ag8, Nat.reduceEqDiff, if_false, if_true, ↓reduceIte, Ag3]
   have hC := M4 hD hH
   have hN : NdAt B1 (Z9 rest kid v) (.iface 116 (.pointer (some ⟨b2, 0, none⟩))) := by
    rw [hkid]
    exact NdAt.ext (rest.drop 1) kid b2 _ (rc - 1) _ (by rw [hdl]; exact hC) (hrd.ext hB1) (by rw [hdl]; omega) (by rw [hdl]; omega) (hk.ext' hB1)
   have hr1 := hr.ext hB1
   have k1 := hr1.ld 0 (by omega)
   have k2 := hr1.lS 0 (by omega)
   have k3 := hr1.lD (by omega)
   have k5 : F5 B1 (I0 rA 0) = .int .u8 (z : Int) := by rw [k1, bE, hz]
   repeat' (first | with_reducible refine And.intro (by first | omega | assumption | (constructor <;> assumption) | (simp; done) | (simp; omega) | (simp [*]; done) | ((repeat' refine And.intro ?_ ?_) <;> first | omega | assumption | (refine SlOk.so (n := ?_) ?_ ?_; rotate_left; assumption; omega) | (simp; done) | fail) | fail) ?_ | simp (maxSteps := 4000000) (disch := omega) only [go_sem, ↓reduceIte, k5, hbl, Ag8, hbs (Z9 rest kid v), Int.toNat_natCast] | with_reducible refine D6 (id := 6) [0, 1, 2, 3, 4, 5, 6, 7, 8] mixed (by kernel_rfl) (by simp) (fun hin => D4 1000 hin ?_) | with_reducible refine E1 (by kernel_rfl) (C3 (by kernel_rfl)) (A3 1000 ?_))
   exact ⟨_, trivial, rfl, hB0.trans hB1, hN⟩
  ·have c1 : decide ((1 : Int) < (rest.length : Int)) = false := decide_eq_false (by omega)
   rw [if_neg h1] at hkid
   have hN : NdAt B0 (Z9 rest kid v) (.iface T (.pointer (some ⟨a, 0, none⟩))) := by rw [hkid]; exact hk
   repeat' (first | with_reducible refine And.intro (by first | omega | assumption | (constructor <;> assumption) | (simp; done) | (simp; omega) | (simp [*]; done) | ((repeat' refine And.intro ?_ ?_) <;> first | omega | assumption | (refine SlOk.so (n := ?_) ?_ ?_; rotate_left; assumption; omega) | (simp; done) | fail) | fail) ?_ | simp (maxSteps := 4000000) (disch := omega) only [go_sem, ↓reduceIte, c1, brO, m5, hbl, hbs (Z9 rest kid v), Int.toNat_natCast] | with_reducible refine D6 (id := 6) [0, 1, 2, 3, 4, 5, 6, 7, 8] mixed (by kernel_rfl) (by simp) (fun hin => D4 1000 hin ?_) | with_reducible refine E1 (by kernel_rfl) (C3 (by kernel_rfl)) (A3 1000 ?_))
   first | exact ⟨_, trivial, rfl, hB0, hN⟩ | exact ⟨BExt.refl _, _, trivial, rfl, hB0, hN⟩
theorem Ch8 {B : Base} {s : BrS} {w : List UInt8} (hs : BrOk B s w) (rA : Option Addr) (rc : Nat) (kv : Value) (v : List UInt8) (vA : Option Addr) (vc : Nat) :
  Turn2 Try.prog 80 [.raw (.slice rA 0 rc), .raw kv, .raw (.slice vA v.length vc)] (brO s) B (fun _ : Unit => .tup []) (fun _ => brO ⟨s.qs, vA, v.length, vc⟩) (fun _ B' => BExt B B') := by
 refine Q3 Dd1 (fun s B B' hB hR => hR.trans hB) Try.func80 rfl Dc6 (by simp [Try.f80]) (by simp [A0, closed]) (H5 _) (fun u => H5 _) (fun B0 hB0 b => A3 1000 ?_)
 have hbl := Be2 hs.q
 have hbs := fun vA vn vc => Az7 (s := s) hs.q vA vn vc
 repeat' (first | with_reducible refine And.intro (by first | omega | assumption | (constructor <;> assumption) | (simp; done) | (simp; omega) | (simp [*]; done) | ((repeat' refine And.intro ?_ ?_) <;> first | omega | assumption | (refine SlOk.so (n := ?_) ?_ ?_; rotate_left; assumption; omega) | (simp; done) | fail) | fail) ?_ | simp (maxSteps := 4000000) (disch := omega) only [go_sem, ↓reduceIte, Try.f80, brO, hbl, hbs])
 first | exact ⟨BExt.refl _, (), trivial, rfl, hB0⟩ | exact ⟨(), trivial, rfl, hB0⟩ | exact ⟨BExt.refl _, (), trivial, hB0⟩
/-- A branch behind some nibbles. -/
def Au4 (head : List UInt8) (n : Nd) : Nd := if head = [] then n else .ext head n
theorem Bp6 {B : Base} {n : Nd} {a : Nat} (hn : NdAt B n (.iface 119 (.pointer (some ⟨a, 0, none⟩)))) (head : List UInt8) (hA : Option Addr) (hc : Nat) (hh : BytesAt B hA head) (h1 : head.length ≤ hc) (h2 : head.length ≤ 1099511627776) :
  Does Try.prog 81 [.raw (.slice hA head.length hc), .raw (.pointer (some ⟨a, 0, none⟩))] B (fun u : Value => .raw u) (fun u B' => NdAt B' (Au4 head n) u) := by
 refine J9 Cy2 (fun s B B' hB hR => hR.ext' hB) Try.func81 rfl Df1 (by simp [Try.f81]) (by simp [A0, closed]) (fun B0 hB0 => A3 1000 ?_)
 replace hn := hn.ext' hB0
 replace hh := hh.ext hB0
 by_cases h0 : head = []
 ·have hl0 : head.length = 0 := by rw [h0]; rfl
  have hp : Au4 head n = n := by rw [Au4, if_pos h0]
  have c0 : (((head.length : Nat) : Int) == 0) = true := by rw [beq_iff_eq]; omega
  rw [hp]
  repeat' (simp (maxSteps := 4000000) (disch := omega) only [go_sem, ↓reduceIte, Try.f81, c0])
  refine Bc2 rfl Try.underlying119 rfl (A3 1000 ?_)
  repeat' (simp (maxSteps := 4000000) (disch := omega) only [go_sem, ↓reduceIte])
  first | exact ⟨BExt.refl _, _, rfl, trivial, hn⟩ | exact ⟨_, rfl, trivial, hn⟩
 ·have hlp : head.length ≠ 0 := fun h => h0 (List.length_eq_zero_iff.1 h)
  have hp : Au4 head n = .ext head n := by rw [Au4, if_neg h0]
  have c0 : (((head.length : Nat) : Int) == 0) = false := by rw [beq_eq_false_iff_ne]; omega
  rw [hp]
  repeat' (simp (maxSteps := 4000000) (disch := omega) only [go_sem, ↓reduceIte, Try.f81, c0])
  refine Bc2 rfl Try.underlying119 rfl (A3 1000 ?_)
  repeat' (simp (maxSteps := 4000000) (disch := omega) only [go_sem, ↓reduceIte])
  refine V6 0 rfl Try.underlying116 rfl rfl (by simp [A0, closed]) (by simp) (by simp) (fun b2 B1 hB1 hD hH => A3 1000 ?_)
  change BExt B0 B1 at hB1
  have hC := M4 hD hH
  have hN : NdAt B1 (.ext head n) (.iface 116 (.pointer (some ⟨b2, 0, none⟩))) := NdAt.ext head n b2 hA hc _ hC (hh.ext hB1) h1 h2 (hn.ext' hB1)
  repeat' (first | with_reducible refine And.intro (by first | omega | assumption | (constructor <;> assumption) | (simp; done) | (simp; omega) | (simp [*]; done) | ((repeat' refine And.intro ?_ ?_) <;> first | omega | assumption | (refine SlOk.so (n := ?_) ?_ ?_; rotate_left; assumption; omega) | (simp; done) | fail) | fail) ?_ | simp (maxSteps := 4000000) (disch := omega) only [go_sem, ↓reduceIte, frzσ, frz])
  first | exact ⟨hB1, _, rfl, trivial, hN⟩ | exact ⟨_, rfl, trivial, hN⟩
end Go.Proofs.Ytncjbfkkgdepoaa
namespace Go.Proofs.Ytncjbfkkgdepoaa
open Go RowKit Go.Ew
set_option maxHeartbeats 8000000
theorem Dg1 : C5 Try.f51.ntmps (Try.f51.body.getD .skip) = true := by kernel_rfl
theorem Am7 {S S' : Type} {P : Program} {f : FuncId} {args : List EV} {o0 : EObj} {B : Base} {vf : S → EV} {o1 : S → EObj} {R : S → Base → Prop} {vf' : S' → EV} {o1' : S' → EObj} {R' : S' → Base → Prop} (h : Turn2 P f args o0 B vf o1 R) (g : S → S')
  (hv : ∀ s, vf s = vf' (g s)) (ho : ∀ s, o1 s = o1' (g s)) (hR : ∀ s B', R s B' → R' (g s) B') : Turn2 P f args o0 B vf' o1' R' := by
 refine ⟨h.en, h.cl, fun B0 hB hlt b hb hD => (h.run B0 hB hlt b hb hD).mono ?_⟩
 rintro e w' ⟨s, bs, h1, h2, h3, h4, h5, h6, h7⟩
 refine ⟨g s, bs, by rw [← hv]; exact h1, by rw [← hv]; exact h2, h3, h4, ?_, ?_, ?_⟩
 ·rw [← ho]; exact h5
 ·rw [← ho]; exact h6
 ·rw [← ho]; exact hR s _ h7
def Q4 (ks : List Nd) (w rest : List UInt8) (kid : Nd) (v : List UInt8) : List Nd × List UInt8 :=
 if rest = [] then (ks, v) else (ks.set (rest.getD 0 0).toNat (Z9 rest kid v), w)
theorem Aq6 {B : Base} {s : BrS} {w : List UInt8} (hs : BrOk B s w) (rest : List UInt8) (n : Nat) (rA : Option Addr) (rc : Nat) (kid : Nd) (kv : Value) (v : List UInt8) (vA : Option Addr) (vn vc : Nat) (hn : rest.length = n) (hvn : v.length = vn)
  (hr : BytesAt B rA rest) (hrc : rest.length ≤ rc) (hrl : rest.length ≤ 1099511627776) (hk : NdAt B kid kv) (hv : BytesAt B vA v) (hvl : v.length ≤ 1099511627776) (h16 : ∀ x ∈ rest, x.toNat < 16) :
  Turn2 Try.prog 80 [.raw (.slice rA n rc), .raw kv, .raw (.slice vA vn vc)] (brO s) B (fun _ : BrS => .tup []) (fun u => brO u)
   (fun u B' => BrOk B' u (Q4 (s.qs.map Prod.fst) w rest kid v).2 ∧ u.qs.map Prod.fst = (Q4 (s.qs.map Prod.fst) w rest kid v).1) := by
 subst hn hvn
 by_cases h0 : rest = []
 ·subst h0
  have h := Ch8 hs rA rc kv v vA vc
  refine Am7 h (fun _ => ⟨s.qs, vA, v.length, vc⟩) (fun _ => rfl) (fun _ => rfl) (fun _ B' hB => ?_)
  simp only [Q4, if_true]
  exact ⟨⟨hs.q, fun q hq => (hs.k q hq).ext' hB, hv.ext hB, rfl, hvl⟩, trivial⟩
 ·have hz : (rest.getD 0 0).toNat < 16 := by
   cases rest with
   | nil => exact absurd rfl h0
   | cons x l => exact h16 x (by simp)
  have h := Co0 hs rest rA rc kid kv v vA vc hr hrc hrl hk hv hvl h0 hz
  refine Am7 h (fun u => ⟨s.qs.set (rest.getD 0 0).toNat (Z9 rest kid v, u), s.vA, s.vn, s.vc⟩) (fun _ => rfl) (fun _ => rfl) (fun u B' hu => ?_)
  obtain ⟨hB, hu⟩ := hu
  simp only [Q4, h0, if_false]
  refine ⟨⟨by simp [hs.q], fun q hq => ?_, hs.b.ext hB, hs.l, hs.m⟩, by rw [List.map_set]⟩
  rcases List.mem_or_eq_of_mem_set hq with hq | rfl
  ·exact (hs.k q hq).ext' hB
  ·exact hu
/-- The trie's own cells. -/
def trO (sv rv : Value) : EObj := .cells [.int .i64 1, .raw sv, .raw rv] 77 (0, 0)
theorem C7 (sv rv : Value) : (trO sv rv).closed 0 := by simp [trO, EObj.closed, A0, closed]
theorem Ag9 (w : World) : (zeroValue 78).run Try.prog w = .ok (.pointer none) w := by kernel_rfl
theorem Bf1 (B : Base) (sv rv : Value) (T : TypeId) (a : Nat) (hT : T ≠ 78) :
  Turn2 Try.prog 51 [.raw (.iface T (.pointer (some ⟨a, 0, none⟩)))] (trO sv rv) B (fun _ : Unit => .tup [.raw (.iface T (.pointer (some ⟨a, 0, none⟩))), .int .i64 0]) (fun _ => trO sv rv) (fun _ _ => True) := by
 refine Q3 Dj4 (fun s B B' hB hR => hR) Try.func51 rfl Dg1 (by simp [Try.f51]) (by simp [A0, closed]) (C7 _ _) (fun u => C7 _ _) (fun B0 hB0 b => A3 1000 ?_)
 repeat' (simp (maxSteps := 4000000) (disch := omega) only [go_sem, ↓reduceIte, Try.f51, trO])
 refine Am6 rfl Try.underlying78 Ag9 rfl hT (A3 1000 ?_)
 repeat' (simp (maxSteps := 4000000) (disch := omega) only [go_sem, ↓reduceIte])
 first | exact ⟨BExt.refl _, (), rfl, by simp [closed, A0], rfl, trivial⟩ | exact ⟨(), rfl, by simp [closed, A0], rfl, trivial⟩ | exact ⟨BExt.refl _, (), by simp [closed, A0]⟩
theorem Bg6 {B : Base} {n : Nd} {T : TypeId} {a : Nat} (h : NdAt B n (.iface T (.pointer (some ⟨a, 0, none⟩)))) : T ≠ 78 := by
 cases h <;> decide
end Go.Proofs.Ytncjbfkkgdepoaa
