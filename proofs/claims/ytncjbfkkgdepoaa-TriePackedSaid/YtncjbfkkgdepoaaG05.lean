/- Part of a proof over the seat Ytncjbfkkgdepoaa. -/
import Derived.Test.YtncjbfkkgdepoaaG04
import Derived.Test.YtncjbfkkgdepoaaEng2
set_option linter.unusedSimpArgs false
set_option linter.unusedVariables false
set_option maxRecDepth 100000
namespace Go.Proofs.Ytncjbfkkgdepoaa
open Go RowKit Go.Ew
set_option maxHeartbeats 4000000
/-- A block laid over the lanes byte by byte. -/
def By2 (a : Nat → L64) (l : List UInt8) (o i : Nat) : Nat → L64 := fun j => if j < i / 8 then a j ^^^ lx (fun t => l.getD (o + 8 * j + t) 0) 8 else if j = i / 8 then a j ^^^ lx (fun t => l.getD (o + 8 * j + t) 0) (i % 8) else a j
theorem Au7 (a : Nat → L64) (l : List UInt8) (o : Nat) : By2 a l o 0 = a := by
 funext j
 simp only [By2]
 rw [if_neg (by omega)]
 split
 ·simp [lx]
 ·rfl
theorem Bn8 (a : Nat → L64) (l : List UInt8) (o i : Nat) : Y4 (By2 a l o i) (i / 8) (By2 a l o i (i / 8) ^^^ (b64 (l.getD (o + i) 0) <<< (8 * (i % 8)))) = By2 a l o (i + 1) := by
 funext j
 simp only [Y4, By2]
 have hd : o + 8 * (i / 8) + i % 8 = o + i := by omega
 have hl : lx (fun t => l.getD (o + 8 * (i / 8) + t) 0) (i % 8) ^^^ (b64 (l.getD (o + i) 0) <<< (8 * (i % 8))) = lx (fun t => l.getD (o + 8 * (i / 8) + t) 0) (i % 8 + 1) := by simp only [lx, hd]
 by_cases h : j = i / 8
 ·subst h
  simp only [if_true, Nat.lt_irrefl, if_false]
  rw [BitVec.xor_assoc, hl]
  by_cases h7 : i % 8 = 7
  ·rw [if_pos (by omega), h7]
  ·rw [if_neg (by omega), if_pos (by omega), show (i + 1) % 8 = i % 8 + 1 by omega]
 ·rw [if_neg h]
  by_cases h2 : j < i / 8
  ·rw [if_pos h2, if_pos (by omega)]
  ·rw [if_neg h2, if_neg h, if_neg (by omega)]
   by_cases h3 : j = (i + 1) / 8
   ·rw [if_pos h3, show (i + 1) % 8 = 0 by omega]; simp [lx]
   ·rw [if_neg h3]
theorem By1 (a : Nat → L64) (l : List UInt8) (o : Nat) : By2 a l o 136 = Bo0 a l o 17 := by
 funext j
 simp only [By2, Bo0]
 by_cases h : j < 17
 ·rw [if_pos (by omega), if_pos h]
 ·rw [if_neg (by omega), if_neg h]
  split
  ·simp [lx]
  ·rfl
def hQ (a : Nat → L64) (i : Nat) : Nat → Int := fun j => if j < i then hF a j else 0
theorem Bt3 (a : Nat → L64) : hQ a 0 = fun _ => 0 := funext fun j => if_neg (by omega)
theorem Ck4 (a : Nat → L64) (i : Nat) : Bp2 (hQ a i) i (n64 (a (i / 8) >>> (8 * (i % 8))) % 256) = hQ a (i + 1) := by
 funext j
 simp only [Bp2, hQ]
 by_cases h : j = i
 ·subst h; rw [if_pos rfl, if_pos (by omega)]; rfl
 ·rw [if_neg h]
  by_cases h2 : j < i
  ·rw [if_pos h2, if_pos (by omega)]
  ·rw [if_neg h2, if_neg (by omega)]
theorem Dg3 : C5 Try.f47.ntmps (Try.f47.body.getD .skip) = true := by kernel_rfl
theorem Av7 (p : List UInt8) (n : Nat) (B : Base) (ad : Option Addr) (cap : Nat) (h : BytesAt B ad p) (hn : p.length = n) (hp : n < 2 ^ 46) :
  Does Try.prog 47 [.raw (.slice ad n cap)] B (fun _ : Unit => .agg (C8 .u8 (O5 p) 32)) (fun _ _ => True) := by
 refine J9 Dj6 (fun s B B' hB hR => hR) Try.func47 rfl Dg3 (by simp [Try.f47]) (by simp [A0, closed]) (fun B0 hB0 => A3 1000 ?_)
 subst hn
 replace h := h.ext hB0
 repeat' (simp (maxSteps := 4000000) (disch := omega) only [go_sem, ↓reduceIte, Try.f47])
 refine appB (T := 5) (l := none) (xs := []) 1 0 p rfl Try.underlying22 (.inl ⟨_, Try.underlying22⟩) zr5 cz5 by5 rfl rfl rfl rfl (h.src _) (by omega) (fun l1 hl1 => ?_)
 simp only [Nat.zero_add, List.nil_append] at hl1 ⊢
 refine L0 [1] 1 (by simp) (by simp) (by simp) (by simp) (A3 1000 ?_)
 repeat' (first | with_reducible refine And.intro (by first | omega | (simp; done)) ?_ | simp (maxSteps := 4000000) (disch := omega) only [go_sem, ↓reduceIte, Z0 (ks := [1]) (k := 1) (r := 1) rfl, H2 (ks := [1]) (k := 1) hl1 (A7 0 _) hz8, E3])
 refine appB (T := 5) (xs := p) 1 p.length [1] rfl Try.underlying22 (.inl ⟨_, Try.underlying22⟩) zr5 cz5 by5 rfl rfl rfl hl1 ⟨_, rfl, by simp⟩ (by simp only [List.length_cons, List.length_nil]; omega) (fun l2 hl2 => ?_)
 simp only [List.length_cons, List.length_nil, Nat.zero_add] at hl2 ⊢
 refine L0 [3] 1 (by simp) (by simp) (by simp) (by simp) (A3 1000 ?_)
 repeat' (simp (maxSteps := 4000000) (disch := omega) only [go_sem, ↓reduceIte, Z0 (ks := [3]) (k := 1) (r := 3) rfl, H2 (ks := [3]) (k := 1) hl2 (A7 0 _) hz8, E3])
 have hl2b : ∀ n, clO n (lO 5 (p.map bE ++ [bE 1]) l2) = True := fun n => by have := J4 (T := 5) (n := n) hl2 (A7 0 (p ++ [1])) hz8; rwa [List.map_append] at this
 have hw := fun k => show p.length + 1 + k + 1 = p.length + 1 + (k + 1) by omega
 refine G1 (S := Nat × Lst) (fun s => s.1 ≤ Y9 p.length ∧ lOk [.int .u8 0] (p.length + 1 + s.1) s.2)
  (fun s => ⟨[(3, lE 1 (p.length + 1 + s.1) s.2), (2, .ptr 0 0)], 2, [(1, lO 5 ((p ++ 1 :: List.replicate s.1 0).map bE) s.2), (0, some (.cells (C8 .u8 (fun _ => 0) 32) 45 (0, 0)))], B0, []⟩)
  (fun s => Y9 p.length - s.1) (0, l2) ⟨Nat.zero_le _, hl2⟩ (Weak.sub (A5 (by simp [wσ, go_sem, closed, A0, A4, A2, hl2b] <;> omega) (by simp [whs, Go.Ew.hget, go_sem, EObj.closed, closed, A0, A4, A2, hl2b]) (by first | (simp [*]; done) | (simp only [cxG]; omega)) rfl rfl (by simp)) ) ?_
 ·rintro ⟨k, l3⟩ ⟨hk, hl3⟩
  simp only at hk hl3 ⊢
  have hl3' := hl3
  obtain ⟨cp, rest, rfl, -⟩ := E6 hl3 (by omega)
  simp only [C1, H3]
  refine A3 1000 ?_
  simp (maxSteps := 4000000) (disch := omega) only [go_sem, ↓reduceIte]
  repeat (with_reducible refine And.intro (by omega) ?_)
  refine A6 (fun h1 => ?_) (fun h1 => ?_)
  all_goals (try simp only [bne_iff_ne, ne_eq, beq_iff_eq, decide_eq_true_eq, decide_eq_false_iff_not, Bool.not_eq_true, Bool.not_eq_false, Bool.not_true, Bool.not_false, bne_eq_false_iff_eq, beq_eq_false_iff_ne, Bool.and_eq_true, Bool.or_eq_true, Bool.and_eq_false_imp, Bool.or_eq_false_iff, Bool.not_eq_true', Bool.not_eq_false', Int.not_lt, Int.not_le] at h1)
  ·have hlt : k < Y9 p.length := by unfold Y9 at hk ⊢; omega
   simp (maxSteps := 4000000) (disch := omega) only [go_sem, ↓reduceIte]
   repeat (with_reducible refine And.intro (by first | omega | (simp; done)) ?_)
   refine appB (T := 5) (xs := p ++ 1 :: List.replicate k 0) (l := some (cp, rest)) 1 (p.length + 1 + k) [0] rfl Try.underlying22 (.inl ⟨_, Try.underlying22⟩) zr5 cz5 by5 (by simp; omega) rfl rfl hl3 ⟨_, rfl, by simp⟩ (by simp only [List.length_cons, List.length_nil]; unfold Y9 at hk; omega) (fun l4 hl4 => ?_)
   simp only [List.length_cons, List.length_nil, Nat.zero_add] at hl4 ⊢
   refine L0 [3] 1 (by simp) (by simp) (by simp) (by simp) (A3 1000 ?_)
   repeat' (simp (maxSteps := 4000000) (disch := omega) only [go_sem, ↓reduceIte, Z0 (ks := [3]) (k := 1) (r := 3) rfl, H2 (ks := [3]) (k := 1) hl4 (A7 0 _) hz8, E3])
   have e0 : p ++ 1 :: List.replicate k 0 ++ [0] = p ++ 1 :: List.replicate (k + 1) 0 := by rw [List.replicate_succ', List.append_assoc]; rfl
   rw [e0]
   have c4 : ∀ n, clO n (lO 5 (p.map bE ++ bE 1 :: bE 0 :: List.replicate k (bE 0)) l4) = True := fun n => by have := clB (T := 5) (m := n) (xs := p ++ 1 :: 0 :: List.replicate k 0) hl4; simpa using this
   exact ⟨(k + 1, l4), ⟨hlt, by rw [← hw]; exact hl4⟩, Weak.sub (A5 (by simp [wσ, go_sem, closed, A0, A4, ← hw, A2, List.replicate_succ, c4] <;> omega) (by simp [whs, Go.Ew.hget, go_sem, EObj.closed, closed, A0, A4, ← hw, A2, List.replicate_succ, c4]) (by first | (simp [*]; done) | (simp only [cxG]; omega)) rfl rfl (by simp)), by simp only; omega⟩
  ·have hkk : k = Y9 p.length := by unfold Y9 at hk ⊢; omega
   subst hkk
   obtain ⟨N, hN⟩ : ∃ N, N = p.length + 1 + Y9 p.length := ⟨_, rfl⟩
   obtain ⟨X, hX⟩ : ∃ X, X = p ++ 1 :: List.replicate (Y9 p.length) 0 := ⟨_, rfl⟩
   have hXl : X.length = N := by rw [hX, hN]; simp; omega
   have hN0 : 0 < N ∧ N < 2 ^ 47 ∧ N % 136 = 0 := by rw [hN]; unfold Y9 at hk ⊢; omega
   rw [← hN] at hl3'
   simp only [← hN, ← hX]
   clear hl3 hk h1 hl2b hw hl2 hl1
   refine A3 1000 ?_
   have ei : ((N : Int) - 1).toNat = N - 1 := by omega
   repeat' (first | with_reducible refine And.intro (by first | omega | (simp; omega)) ?_ | simp (maxSteps := 4000000) (disch := omega) only [go_sem, ↓reduceIte, ei, Dc1, X8 (xs := X) (rest := rest) (i := N - 1) (by omega), Ae4 (xs := X) (rest := rest) (i := N - 1) (by omega), P8 (xs := X) (rest := rest) (i := N - 1) (by omega)])
   obtain ⟨Y, hY⟩ : ∃ Y, Y = X.set (N - 1) (X.getD (N - 1) 0 ||| 128) := ⟨_, rfl⟩
   have hYl : Y.length = N := by rw [hY, List.length_set, hXl]
   simp only [← hY]
   have hK : hF (Ba2 Y (N / 136)) = O5 p := by
    unfold O5 Cm1
    rw [← hX, hY, hN, show p.length + 1 + Y9 p.length - 1 = p.length + Y9 p.length by omega]
   have clr : ∀ n, A0 n rest := fun n => D7 (Nat.zero_le _) _ (by
    rw [D8]; intro v hv
    have := hl3'.2.2.2 v hv
    simp at this; subst this; simp [closed])
   have clY : ∀ n, A0 n (Y.map bE ++ rest) := fun n => closeds_append.2 ⟨A7 _ _, clr n⟩
   clear hl3' hX hXl ei
   clear hN hY
   refine G1 (S := Nat) (fun m => 136 * m ≤ N)
    (fun m => ⟨[(5, .int .i64 (136 * m : Nat)), (4, .ptr 2 0), (3, .sl 1 0 N cp), (2, .ptr 0 0)], 3, [(2, some (.cells (C8 .u64 (fL (Ba2 Y m)) 25) 133 (0, 0))), (1, some (.cells (Y.map bE ++ rest) 5 (0, 0))), (0, some (.cells (C8 .u8 (fun _ => 0) 32) 45 (0, 0)))], B0, []⟩)
    (fun m => N - 136 * m) 0 (Nat.zero_le _) (Weak.sub (A5 (by simp [wσ, go_sem, closed, A0, A4, A2, Ag5, clY] <;> omega) (by simp [whs, Go.Ew.hget, go_sem, EObj.closed, closed, A0, A4, A2, Ag5, clY]) (by first | (simp [*]; done) | (simp only [cxG]; omega)) rfl rfl (by simp))) ?_
   intro m hm
   refine A3 1000 ?_
   simp (maxSteps := 4000000) (disch := omega) only [go_sem, ↓reduceIte]
   repeat (with_reducible refine And.intro (by omega) ?_)
   refine A6 (fun h1 => ?_) (fun h1 => ?_)
   all_goals (try simp only [bne_iff_ne, ne_eq, beq_iff_eq, decide_eq_true_eq, decide_eq_false_iff_not, Bool.not_eq_true, Bool.not_eq_false, Bool.not_true, Bool.not_false, bne_eq_false_iff_eq, beq_eq_false_iff_ne, Bool.and_eq_true, Bool.or_eq_true, Bool.and_eq_false_imp, Bool.or_eq_false_iff, Bool.not_eq_true', Bool.not_eq_false', Int.not_lt, Int.not_le] at h1)
   ·have hm2 : 136 * (m + 1) ≤ N := by omega
    simp (maxSteps := 4000000) (disch := omega) only [go_sem, ↓reduceIte]
    repeat (with_reducible refine And.intro (by omega) ?_)
    refine G1 (S := Nat) (fun i => i ≤ 136)
     (fun i => ⟨[(6, .int .i64 (i : Nat)), (5, .int .i64 (136 * m : Nat)), (4, .ptr 2 0), (3, .sl 1 0 N cp), (2, .ptr 0 0)], 3, [(2, some (.cells (C8 .u64 (fL (By2 (Ba2 Y m) Y (136 * m) i)) 25) 133 (0, 0))), (1, some (.cells (Y.map bE ++ rest) 5 (0, 0))), (0, some (.cells (C8 .u8 (fun _ => 0) 32) 45 (0, 0)))], B0, []⟩)
     (fun i => 136 - i) 0 (by simp) (Weak.sub (A5 (by simp [wσ, go_sem, closed, A0, A4, A2, Au7, clY] <;> omega) (by simp [whs, Go.Ew.hget, go_sem, EObj.closed, closed, A0, A4, A2, Au7, clY]) (by first | (simp [*]; done) | (simp only [cxG]; omega)) rfl rfl (by simp))) ?_
    intro i hi
    refine A3 1000 ?_
    simp (maxSteps := 4000000) (disch := omega) only [go_sem, ↓reduceIte]
    repeat (with_reducible refine And.intro (by omega) ?_)
    refine A6 (fun h2 => ?_) (fun h2 => ?_)
    all_goals (try simp only [bne_iff_ne, ne_eq, beq_iff_eq, decide_eq_true_eq, decide_eq_false_iff_not, Bool.not_eq_true, Bool.not_eq_false, Bool.not_true, Bool.not_false, bne_eq_false_iff_eq, beq_eq_false_iff_ne, Bool.and_eq_true, Bool.or_eq_true, Bool.and_eq_false_imp, Bool.or_eq_false_iff, Bool.not_eq_true', Bool.not_eq_false', Int.not_lt, Int.not_le] at h2)
    ·have e8 : ((i : Int) / 8).toNat = i / 8 := by omega
     have e9 : (((136 * m : Nat) : Int) + (i : Int)).toNat = 136 * m + i := by omega
     have e10 : (8 : Int) * ((i : Int) % 8) = ((8 * (i % 8) : Nat) : Int) := by omega
     have s8 := fun x => Ce2 x (8 * (i % 8)) (by omega)
     repeat' (first | with_reducible refine And.intro (by first | omega | (simp; omega)) ?_ | simp (maxSteps := 4000000) (disch := omega) only [go_sem, ↓reduceIte, Int.toNat_natCast, e8, e9, e10, Y1, Br3, Cn1, s8, Ah1, S4, Bn8, Ae4 (xs := Y) (rest := rest) (i := 136 * m + i) (by omega), P8 (xs := Y) (rest := rest) (i := 136 * m + i) (by omega)] | with_reducible refine L7 mixed (by kernel_rfl) (Ac0 1000 ?_) | with_reducible refine P6 (by kernel_rfl) (A3 1000 ?_))
     exact ⟨i + 1, by omega, Weak.sub (A5 (by simp [wσ, go_sem, closed, A0, A4, A2, clY] <;> omega) (by simp [whs, Go.Ew.hget, go_sem, EObj.closed, closed, A0, A4, A2, clY]) (by first | (simp [*]; done) | (simp only [cxG]; omega)) rfl rfl (by simp)), by omega⟩
    ·obtain rfl : i = 136 := by omega
     repeat' (first | simp (maxSteps := 4000000) (disch := omega) only [go_sem, ↓reduceIte, Int.toNat_natCast, By1] | refine R4 (Av6 _) (A3 1000 ?_) | with_reducible refine A3 1000 ?_)
     exact ⟨m + 1, hm2, Weak.sub (A5 (by simp [wσ, go_sem, closed, A0, A4, A2, clY, Ba2, Nat.mul_succ] <;> omega) (by simp [whs, Go.Ew.hget, go_sem, EObj.closed, closed, A0, A4, A2, clY, Ba2, Nat.mul_succ]) (by first | (simp [*]; done) | (simp only [cxG]; omega)) rfl rfl (by simp)), by omega⟩
   ·obtain rfl : m = N / 136 := by omega
    repeat' (first | simp (maxSteps := 4000000) (disch := omega) only [go_sem, ↓reduceIte, Int.toNat_natCast] | with_reducible refine A3 1000 ?_)
    obtain ⟨A, hA⟩ : ∃ A, A = Ba2 Y (N / 136) := ⟨_, rfl⟩
    simp only [← hA] at hK ⊢
    refine G1 (S := Nat) (fun i => i ≤ 32)
     (fun i => ⟨[(59, .int .i64 (i : Nat)), (7, .ptr 3 0), (4, .ptr 2 0), (2, .ptr 0 0)], 4, [(3, some (.cells (C8 .u8 (hQ A i) 32) 45 (0, 0))), (2, some (.cells (C8 .u64 (fL A) 25) 133 (0, 0))), (0, some (.cells (C8 .u8 (fun _ => 0) 32) 45 (0, 0)))], B0, []⟩)
     (fun i => 32 - i) 0 (by simp) (Weak.sub (A5 (by simp [wσ, go_sem, closed, A0, A4, A2, Bt3] <;> omega) (by simp [whs, Go.Ew.hget, go_sem, EObj.closed, closed, A0, A4, A2, Bt3]) (by first | (simp [*]; done) | (simp only [cxG]; omega)) rfl rfl (by simp))) ?_
    intro i hi
    refine A3 1000 ?_
    simp (maxSteps := 4000000) (disch := omega) only [go_sem, ↓reduceIte]
    repeat (with_reducible refine And.intro (by omega) ?_)
    refine A6 (fun h2 => ?_) (fun h2 => ?_)
    all_goals (try simp only [bne_iff_ne, ne_eq, beq_iff_eq, decide_eq_true_eq, decide_eq_false_iff_not, Bool.not_eq_true, Bool.not_eq_false, Bool.not_true, Bool.not_false, bne_eq_false_iff_eq, beq_eq_false_iff_ne, Bool.and_eq_true, Bool.or_eq_true, Bool.and_eq_false_imp, Bool.or_eq_false_iff, Bool.not_eq_true', Bool.not_eq_false', Int.not_lt, Int.not_le] at h2)
    ·have e8 : ((i : Int) / 8).toNat = i / 8 := by omega
     have e10 : (8 : Int) * ((i : Int) % 8) = ((8 * (i % 8) : Nat) : Int) := by omega
     repeat' (first | with_reducible refine And.intro (by omega) ?_ | simp (maxSteps := 4000000) (disch := omega) only [go_sem, ↓reduceIte, Int.toNat_natCast, e8, e10, Bz5, Y1, Ah2, Ck4])
     exact ⟨i + 1, by omega, Weak.sub (A5 (by simp [wσ, go_sem, closed, A0, A4, A2] <;> omega) (by simp [whs, Go.Ew.hget, go_sem, EObj.closed, closed, A0, A4, A2]) (by first | (simp [*]; done) | (simp only [cxG]; omega)) rfl rfl (by simp)), by omega⟩
    ·obtain rfl : i = 32 := by omega
     repeat' (first | simp (maxSteps := 4000000) (disch := omega) only [go_sem, ↓reduceIte, Int.toNat_natCast] | with_reducible refine A3 1000 ?_)
     have hq : C8 .u8 (hQ A 32) 32 = C8 .u8 (hF A) 32 := X4 fun j hj => by rw [hQ, if_pos hj]
     rw [hq, hK]
     exact ⟨BExt.refl _, (), rfl, by simp [closed, A2]⟩
end Go.Proofs.Ytncjbfkkgdepoaa
namespace Go.Proofs.Ytncjbfkkgdepoaa
open Go RowKit Go.Ew
set_option maxHeartbeats 4000000
theorem Ao2 (p : List UInt8) (j : Nat) : 0 ≤ O5 p j ∧ O5 p j < 256 := by
 unfold O5 hF
 exact ⟨Int.emod_nonneg _ (by decide), Int.emod_lt_of_pos _ (by decide)⟩
end Go.Proofs.Ytncjbfkkgdepoaa
namespace Go.Proofs.Ytncjbfkkgdepoaa
open Go RowKit Go.Ew
set_option maxHeartbeats 4000000
abbrev L8 := BitVec 8
abbrev Blm := Nat → L8
def zB : Blm := fun _ => 0#8
end Go.Proofs.Ytncjbfkkgdepoaa
namespace Go.Proofs.Ytncjbfkkgdepoaa
open Go RowKit Go.Ew
set_option maxHeartbeats 4000000
/-- A log, and where its parts lie. -/
structure LogV where
 ad : List UInt8
 tA : Option Addr
 tn : Nat
 tc : Nat
 tp : List UInt8
 dA : Option Addr
 dn : Nat
 dc : Nat
 dt : List UInt8
theorem Bk5 {xs ys : List EV} (h : ys.length = xs.length) (h2 : 1 < ys.length) : H7 xs 0 ys = ys := by
 rw [Aa6 _ _ _ (by omega)]
 simp [h]
theorem R0 {α β : Type} {f : α → List β} {k : Nat} : ∀ {l : List α}, (∀ a ∈ l, (f a).length = k) → (l.flatMap f).length = k * l.length
 | [], _ => by simp
 | a :: l, h => by
  rw [List.flatMap_cons, List.length_append, h a (by simp), R0 (fun b hb => h b (by simp [hb])), List.length_cons, Nat.mul_succ]; omega
theorem As5 {α β : Type} {f : α → List β} {k : Nat} : ∀ {l : List α} {i j : Nat}, (∀ a ∈ l, (f a).length = k) → (hi : i < l.length) → j < k → (l.flatMap f)[i * k + j]? = (f l[i])[j]?
 | a :: l, 0, j, h, hi, hj => by
  rw [List.flatMap_cons, Nat.zero_mul, Nat.zero_add, List.getElem?_append_left (by rw [h a (by simp)]; exact hj)]; rfl
 | a :: l, i + 1, j, h, hi, hj => by
  have e := h a (by simp)
  rw [List.flatMap_cons, List.getElem?_append_right (by rw [e, Nat.succ_mul]; omega), e, show (i + 1) * k + j - k = i * k + j by rw [Nat.succ_mul]; omega,
   As5 (fun b hb => h b (by simp [hb])) (by simpa using hi) hj]
  simp
end Go.Proofs.Ytncjbfkkgdepoaa
namespace Go.Proofs.Ytncjbfkkgdepoaa
open Go RowKit Go.Ew
set_option maxHeartbeats 4000000
theorem Bx0 (l : List UInt8) : H8 (l.map bE) = true := by
 induction l with
 | nil => rfl
 | cons a l ih => simp only [List.map_cons, H8, Bool.and_eq_true]; exact ⟨rfl, ih⟩
theorem P9 {l : List UInt8} {n : Nat} (h : l.length = n) (h2 : 1 < n) (f : Nat → Int) : H7 (C8 .u8 f n) 0 (l.map bE) = l.map bE :=
 Bk5 (by simp [X3, h]) (by simp; omega)
end Go.Proofs.Ytncjbfkkgdepoaa
namespace Go.Proofs.Ytncjbfkkgdepoaa
open Go RowKit Go.Ew
set_option maxHeartbeats 4000000
theorem Cf0 (l : List UInt8) : (l.map bV).map C9 = l.map bE := by
 simp [bV, bE, C9, Function.comp_def]
end Go.Proofs.Ytncjbfkkgdepoaa
