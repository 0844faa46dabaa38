/- Part of a proof over the seat Ytncjbfkkgdepoaa. -/
import Derived.Test.YtncjbfkkgdepoaaG14
import Derived.Test.YtncjbfkkgdepoaaEng2
import Derived.Test.YtncjbfkkgdepoaaG08
import Derived.Test.YtncjbfkkgdepoaaG09
import Derived.Test.YtncjbfkkgdepoaaG05
set_option linter.unusedSimpArgs false
set_option linter.unusedVariables false
set_option maxRecDepth 100000
namespace Go.Proofs.Ytncjbfkkgdepoaa
open Go RowKit Go.Ew
set_option maxHeartbeats 8000000
theorem Dg7 : C4 Try.f12.ntmps (Try.f12.body.getD .skip) = true := by kernel_rfl
theorem Dg5 : C4 Try.f14.ntmps (Try.f14.body.getD .skip) = true := by kernel_rfl
theorem Df1 : C4 Try.f41.ntmps (Try.f41.body.getD .skip) = true := by kernel_rfl
theorem Df7 : C4 Try.f32.ntmps (Try.f32.body.getD .skip) = true := by kernel_rfl
theorem Cu6 (c : UInt8) : ((c.toNat : Int)).tdiv 16 = ((hiN c).toNat : Int) := by
 rw [Ai9, Int.tdiv_eq_ediv_of_nonneg (by omega)]; omega
theorem Aq5 (c : UInt8) : ((c.toNat : Int)).tmod 16 = ((loN c).toNat : Int) := by
 rw [R2, Int.tmod_eq_emod_of_nonneg (by omega)]; omega
theorem Da5 (c : UInt8) : IntKind.u8.wrap (c.toNat : Int) = (c.toNat : Int) := by
 have h : ∀ n : Fin 256, IntKind.u8.wrap ((n.val : Nat) : Int) = ((n.val : Nat) : Int) := by decide +kernel
 exact h ⟨c.toNat, c.toNat_lt⟩
theorem Ah7 (b : List UInt8) (n : Nat) (B : Base) (ad : Option Addr) (cap : Nat) (hb : BytesAt B ad b) (hn : b.length = n) (hc : n ≤ 1099511627776) :
  Does Try.prog 12 [.raw (.slice ad n cap)] B (fun s : Option Addr × Nat => .raw (.slice s.1 (F8 b).length s.2)) (fun s B' => BytesAt B' s.1 (F8 b) ∧ (F8 b).length ≤ s.2) := by
 subst hn
 refine K0 Dj9 (fun s B B' hB hR => ⟨hR.1.ext hB, hR.2⟩) Try.func12 rfl Dg7 (by simp [Try.f12]) (by simp [A0, closed]) (fun B0 hB0 => A3 1000 ?_)
 replace hb := hb.ext hB0
 have eN : ∀ r n, lE r n none = .raw (.slice none 0 0) := fun _ _ => rfl
 have oN : ∀ T xs, lO T xs none = none := fun _ _ => rfl
 have cn : ∀ n, clO n (none : Option EObj) = True := fun n => by simp [clO]
 repeat' (simp (maxSteps := 4000000) (disch := omega) only [go_sem, ↓reduceIte, Try.f12])
 refine H1 (S := Nat × Lst) (fun s => s.1 ≤ b.length ∧ lOk [.int .u8 0] (F8 (b.take s.1)).length s.2)
  (fun s => ⟨[(4, .int .i64 (s.1 : Nat)), (3, lE 0 (F8 (b.take s.1)).length s.2), (0, .raw (.slice ad b.length cap))], 1, [(0, lO 5 ((F8 (b.take s.1)).map bE) s.2)], B0, []⟩)
  (fun s => b.length - s.1) (0, none) ⟨Nat.zero_le _, rfl⟩ (Weak.sub (A7 (by simp [wσ, go_sem, closed, A0, A4, eN, oN, cn, List.take_zero, F8] <;> omega) (by simp [whs, Go.Ew.hget, go_sem, EObj.closed, closed, A0, A4, eN, oN, cn, List.take_zero, F8]) (by first | (simp [*]; done) | (simp only [cxG]; omega)) rfl rfl (by simp))) ?_
 rintro ⟨i, l⟩ ⟨hi, hl⟩
 simp only at hi hl ⊢
 rcases Nat.lt_or_ge i b.length with hi2 | hi2
 ·have cA : decide ((i : Int) < (b.length : Int)) = true := decide_eq_true (by omega)
  have m1 := hb.ld i hi2
  have m2 := hb.lS i hi2
  have m3 := hb.lD (by omega)
  have m4 := hb.ok.so (by omega)
  have htk := Aw2 hi2
  have hgi : b.getD i 0 = b[i] := by rw [List.getD_eq_getElem?_getD, List.getElem?_eq_getElem hi2]; rfl
  rw [hgi] at m1
  obtain ⟨c, hc0⟩ : ∃ c, c = b[i] := ⟨_, rfl⟩
  rw [← hc0] at m1 htk
  have e4 := Cu6 c
  have e15 := Aq5 c
  have hlen := Q2 (b.take i)
  have hlt : (b.take i).length = i := by rw [List.length_take]; omega
  have hlen2 : (F8 (b.take (i + 1))).length = (F8 (b.take i)).length + 2 := by rw [htk, List.length_append]; rfl
  obtain ⟨N, hN⟩ : ∃ N, N = F8 (b.take i) := ⟨_, rfl⟩
  rw [← hN] at hl htk hlen hlen2 ⊢
  have hav := Y9 (T := 5) hl (A5 0 N) hz8
  refine A3 1000 ?_
  have w1 : IntKind.u8.wrap ((hiN c).toNat : Int) = ((hiN c).toNat : Int) := Da5 _
  have w2 : IntKind.u8.wrap ((loN c).toNat : Int) = ((loN c).toNat : Int) := Da5 _
  rcases l with _ | ⟨cp0, rest0⟩
  ·repeat' (first | with_reducible refine And.intro (by first | omega | (constructor <;> assumption) | (simp; done) | (simp [*]; done)) ?_ | simp (maxSteps := 4000000) (disch := omega) only [go_sem, ↓reduceIte, cA, Int.toNat_natCast, m1, bE, e4, e15, w1, w2] | with_reducible refine C8 (id := 5) [0, 1, 2, 3, 4, 5, 6, 7, 8, 9, 10, 11, 12, 13] mixed (by kernel_rfl) (by simp) (fun hin => D4 1000 hin ?_))
   refine S9 (T := 5) (l := none) (xs := N) 23 0 N.length [hiN c, loN c] [100022] rfl rfl Try.underlying22 (.inl ⟨_, Try.underlying22⟩) zr5 cz5 by5 rfl rfl rfl hl (fun B hs hB hfb => ⟨_, G9 (m := 2) (by rw [hfb 100022 (by simp)]; rfl) rfl, by simp⟩) (by simp only [List.length_cons, List.length_nil]; omega) (by simp) (by kernel_rfl) (F7 (by kernel_rfl) (C3 (by kernel_rfl))) (fun l5 hl5 => D4 1000 (by assumption) ?_)
   have hl5' := hl5
   have hav5 := Y9 (T := 5) hl5 (A5 0 (N ++ [hiN c, loN c])) hz8
   obtain ⟨cp2, rest2, rfl, -⟩ := E5 hl5 (by simp)
   simp only [C0]
   repeat' (simp (maxSteps := 4000000) (disch := omega) only [go_sem, ↓reduceIte])
   refine D9 (by kernel_rfl) (C3 (by kernel_rfl)) ?_
   refine J2 [100023] 0 (by simp) (by simp) (by simp) (by simp) (A3 1000 ?_)
   rw [← htk]
   have hl6 : lOk [.int .u8 0] (F8 (b.take (i + 1))).length (some (cp2, rest2)) := by rw [hlen2]; exact hl5'
   have hl7 : N.length + 2 = (F8 (b.take (i + 1))).length := by rw [hlen2]
   rw [hl7]
   repeat' (simp (maxSteps := 4000000) (disch := omega) only [go_sem, ↓reduceIte, okC, okE, R1, E8, G1 (ks := [100023]) (k := 0) hl6 (A5 0 (F8 (b.take (i + 1)))) hz8, E1])
   have cl2 : ∀ n, clO n (lO 5 ((F8 (b.take (i + 1))).map bE) (some (cp2, rest2))) = True := fun n => K2 hl6 (A5 0 _) hz8
   exact ⟨(i + 1, some (cp2, rest2)), ⟨hi2, hl6⟩, Weak.sub (A7 (by simp [wσ, go_sem, closed, A0, A4, cl2, C0] <;> omega) (by simp [whs, Go.Ew.hget, go_sem, EObj.closed, closed, A0, A4, cl2, C0]) (by first | (simp [*]; done) | (simp only [cxG]; omega)) rfl rfl (by simp)), by simp only; omega⟩
  ·repeat' (first | with_reducible refine And.intro (by first | omega | (constructor <;> assumption) | (simp; done) | (simp [*]; done)) ?_ | simp (maxSteps := 4000000) (disch := omega) only [go_sem, ↓reduceIte, cA, Int.toNat_natCast, m1, bE, e4, e15, w1, w2] | with_reducible refine C8 (id := 5) [0, 1, 2, 3, 4, 5, 6, 7, 8, 9, 10, 11, 12, 13] mixed (by kernel_rfl) (by simp) (fun hin => D4 1000 hin ?_))
   refine S9 (T := 5) (l := some (cp0, rest0)) (xs := N) 23 0 N.length [hiN c, loN c] [100022] rfl rfl Try.underlying22 (.inl ⟨_, Try.underlying22⟩) zr5 cz5 by5 rfl rfl rfl hl (fun B hs hB hfb => ⟨_, G9 (m := 2) (by rw [hfb 100022 (by simp)]; rfl) rfl, by simp⟩) (by simp only [List.length_cons, List.length_nil]; omega) (by simp) (by kernel_rfl) (F7 (by kernel_rfl) (C3 (by kernel_rfl))) (fun l5 hl5 => D4 1000 (by assumption) ?_)
   have hl5' := hl5
   have hav5 := Y9 (T := 5) hl5 (A5 0 (N ++ [hiN c, loN c])) hz8
   obtain ⟨cp2, rest2, rfl, -⟩ := E5 hl5 (by simp)
   simp only [C0]
   repeat' (simp (maxSteps := 4000000) (disch := omega) only [go_sem, ↓reduceIte])
   refine D9 (by kernel_rfl) (C3 (by kernel_rfl)) ?_
   refine J2 [100023] 0 (by simp) (by simp) (by simp) (by simp) (A3 1000 ?_)
   rw [← htk]
   have hl6 : lOk [.int .u8 0] (F8 (b.take (i + 1))).length (some (cp2, rest2)) := by rw [hlen2]; exact hl5'
   have hl7 : N.length + 2 = (F8 (b.take (i + 1))).length := by rw [hlen2]
   rw [hl7]
   repeat' (simp (maxSteps := 4000000) (disch := omega) only [go_sem, ↓reduceIte, okC, okE, R1, E8, G1 (ks := [100023]) (k := 0) hl6 (A5 0 (F8 (b.take (i + 1)))) hz8, E1])
   have cl2 : ∀ n, clO n (lO 5 ((F8 (b.take (i + 1))).map bE) (some (cp2, rest2))) = True := fun n => K2 hl6 (A5 0 _) hz8
   exact ⟨(i + 1, some (cp2, rest2)), ⟨hi2, hl6⟩, Weak.sub (A7 (by simp [wσ, go_sem, closed, A0, A4, cl2, C0] <;> omega) (by simp [whs, Go.Ew.hget, go_sem, EObj.closed, closed, A0, A4, cl2, C0]) (by first | (simp [*]; done) | (simp only [cxG]; omega)) rfl rfl (by simp)), by simp only; omega⟩
 ·obtain rfl : i = b.length := by omega
  have cA : decide ((b.length : Int) < (b.length : Int)) = false := decide_eq_false (by omega)
  rw [List.take_length] at hl ⊢
  refine J3 (xs := F8 b) (T := 5) 0 (F8 b).length rfl rfl hl (by simp) (fun b2 ad2 cap2 B4 hB4 hfz hbY hcap2 => A3 1000 ?_)
  change BExt B0 B4 at hB4
  repeat' (first | with_reducible refine And.intro (by omega) ?_ | simp (maxSteps := 4000000) (disch := omega) only [go_sem, ↓reduceIte, cA, hfz] | with_reducible refine A3 1000 ?_)
  first | exact ⟨hB4, (ad2, cap2), rfl, by simp [closed, A0], ⟨hbY, hcap2⟩⟩ | exact ⟨(ad2, cap2), rfl, by simp [closed, A0], ⟨hbY, hcap2⟩⟩ | exact ⟨hB4, (ad2, cap2), by simp [closed, A0], ⟨hbY, hcap2⟩⟩ | exact ⟨(ad2, cap2), by simp [closed, A0], ⟨hbY, hcap2⟩⟩ | exact ⟨hB4, (ad2, cap2), by simp [closed, A0, D6]⟩ | exact ⟨(ad2, cap2), by simp [closed, A0, D6]⟩
theorem Cj0 (p : List UInt8) (n : Nat) (B : Base) (ad : Option Addr) (cap : Nat) (h : BytesAt B ad p) (hn : p.length = n) (hp : n < 2 ^ 46) :
  Does Try.prog 41 [.raw (.slice ad n cap)] B (fun _ : Unit => .agg (C9 .u8 (N9 p) 32)) (fun _ _ => True) := by
 refine K0 Db9 (fun s B B' hB hR => hR) Try.func41 rfl Df1 (by simp [Try.f41]) (by simp [A0, closed]) (fun B0 hB0 => A3 1000 ?_)
 have hcl : ∀ n, A0 n (C9 .u8 (N9 p) 32) := fun n => A2 _ _ _ _
 have hsp : H8 (C9 .u8 (fun _ => 0) 32) 0 (C9 .u8 (N9 p) 32) = C9 .u8 (N9 p) 32 := by rw [← Z0]; exact P3 (O0 _) (by omega) _
 repeat' (simp (maxSteps := 4000000) (disch := omega) only [go_sem, ↓reduceIte, Try.f41])
 refine F4 (Av1 p n _ ad cap (h.ext hB0) hn hp) (fun _ => hcl _) (fun s3 B3 hB3 hR3 => A3 1000 ?_)
 change BExt B0 B3 at hB3
 repeat' (first | with_reducible refine And.intro (by omega) ?_ | simp (maxSteps := 4000000) (disch := omega) only [go_sem, ↓reduceIte, hsp])
 exact ⟨(), hcl _⟩
theorem Bp2 (B : Base) : Does Try.prog 32 [] B (fun _ : Unit => .agg (C9 .u8 (N9 [128]) 32)) (fun _ _ => True) := by
 refine K0 Dj0 (fun s B B' hB hR => hR) Try.func32 rfl Df7 (by simp [Try.f32]) (by simp [A0, closed]) (fun B0 hB0 => A3 1000 ?_)
 have hcl : ∀ n, A0 n (C9 .u8 (N9 [128]) 32) := fun n => A2 _ _ _ _
 repeat' (first | with_reducible refine And.intro (by first | omega | (simp; done)) ?_ | simp (maxSteps := 4000000) (disch := omega) only [go_sem, ↓reduceIte, Try.f32])
 refine Ab9 (vf := fun _ : Unit => .agg (C9 .u8 (N9 [128]) 32)) 1 0 1 1 [] [128] Db9 (by simp [A0]) rfl rfl rfl (fun s => hcl _) (fun B ad cap hB hb => Cj0 [128] 1 B ad cap hb rfl (by omega)) (fun s1 B1 hB1 hR1 => A3 1000 ?_)
 change BExt B0 B1 at hB1
 have hsp : H8 (C9 .u8 (fun _ => 0) 32) 0 (C9 .u8 (N9 [128]) 32) = C9 .u8 (N9 [128]) 32 := by rw [← Z0]; exact P3 (O0 _) (by omega) _
 repeat' (first | with_reducible refine And.intro (by omega) ?_ | simp (maxSteps := 4000000) (disch := omega) only [go_sem, ↓reduceIte, hsp])
 exact ⟨(), hcl _⟩
theorem Bz3 (a : UInt8) : IntKind.u8.wrap (((loN a).toNat : Int) * 16) = ((a.toNat % 16 * 16 : Nat) : Int) := by
 have h : ∀ m : Fin 16, IntKind.u8.wrap (((m.val : Nat) : Int) * 16) = ((m.val * 16 : Nat) : Int) := by decide +kernel
 rw [R2]; exact h ⟨a.toNat % 16, Nat.mod_lt _ (by omega)⟩
theorem Cd3 (a b : UInt8) : IntKind.u8.wrap (((a.toNat % 16 * 16 : Nat) : Int) + ((loN b).toNat : Int)) = ((P4 a b).toNat : Int) := by
 have h : ∀ n m : Fin 16, IntKind.u8.wrap (((n.val * 16 : Nat) : Int) + ((m.val : Nat) : Int)) = ((n.val * 16 + m.val : Nat) : Int) := by decide +kernel
 rw [R2, Ag0]; exact h ⟨a.toNat % 16, Nat.mod_lt _ (by omega)⟩ ⟨b.toNat % 16, Nat.mod_lt _ (by omega)⟩
def Ae1 (l : List UInt8) (leaf : Bool) : List UInt8 := (if l.length % 2 = 1 then [fpx leaf + 1] else [fpx leaf, 0]) ++ l
theorem Cd0 (l : List UInt8) (leaf : Bool) : (Ae1 l leaf).length % 2 = 0 ∧ (Ae1 l leaf).length ≤ l.length + 2 := by
 rw [Ae1, List.length_append]; split <;> simp <;> omega
theorem Bk6 (l : List UInt8) (leaf : Bool) (n : Nat) (B : Base) (ad : Option Addr) (cap : Nat) (hb : BytesAt B ad l) (hn : l.length = n) (hc : n ≤ 1099511627776) :
  Does Try.prog 14 [.raw (.slice ad n cap), .bool leaf] B (fun s : Option Addr × Nat => .raw (.slice s.1 (pfx l leaf).length s.2)) (fun s B' => BytesAt B' s.1 (pfx l leaf) ∧ (pfx l leaf).length ≤ s.2) := by
 subst hn
 refine K0 Dj7 (fun s B B' hB hR => ⟨hR.1.ext hB, hR.2⟩) Try.func14 rfl Dg5 (by simp [Try.f14]) (by simp [A0, closed]) (fun B0 hB0 => A3 1000 ?_)
 replace hb := hb.ext hB0
 have hal := Cd0 l leaf
 have eN : ∀ r n, lE r n none = .raw (.slice none 0 0) := fun _ _ => rfl
 have oN : ∀ T xs, lO T xs none = none := fun _ _ => rfl
 have cn : ∀ n, clO n (none : Option EObj) = True := fun n => by simp [clO]
 cases leaf with
 | true =>
  by_cases hpar : l.length % 2 = 1
  ·have c1 : ((l.length : Int) % 2 == 1) = true := by rw [beq_iff_eq]; omega
   have hae : Ae1 l true = [3] ++ l := by rw [Ae1, if_pos hpar]; rfl
   repeat' (first | with_reducible refine And.intro (by first | omega | (simp; done)) ?_ | simp (maxSteps := 4000000) (disch := omega) only [go_sem, ↓reduceIte, Try.f14, c1])
   refine appB (T := 5) (l := none) (xs := []) 99 0 [3] rfl Try.underlying22 (.inl ⟨_, Try.underlying22⟩) zr5 cz5 by5 rfl rfl rfl rfl ⟨_, G9 (m := 1) rfl rfl, by simp⟩ (by simp) (fun l1 hl1 => A3 1000 ?_)
   simp only [List.nil_append, List.length_cons, List.length_nil, Nat.zero_add, Nat.reduceAdd] at hl1 ⊢
   repeat' (simp (maxSteps := 4000000) (disch := omega) only [go_sem, ↓reduceIte])
   refine appB (T := 5) (l := l1) (xs := [3]) 1 1 l rfl Try.underlying22 (.inl ⟨_, Try.underlying22⟩) zr5 cz5 by5 rfl rfl rfl hl1 (hb.src _) (by omega) (fun l2 hl2 => ?_)
   have hal2 : 1 + l.length = (Ae1 l true).length := by rw [hae, List.length_append]; rfl
   rw [← hae]
   rw [hal2] at hl2 ⊢
   refine J3 (xs := Ae1 l true) (T := 5) 2 (Ae1 l true).length rfl rfl hl2 (by simp) (fun b2 aA ac B1 hB1 hfz hbY hcap => A3 1000 ?_)
   change BExt B0 B1 at hB1
   obtain ⟨A, hA⟩ : ∃ A, A = Ae1 l true := ⟨_, rfl⟩
   have hpe : G0 A = pfx l true := by rw [hA]; rfl
   rw [← hA] at hfz hbY hcap hal
   rw [← hA]
   repeat' (simp (maxSteps := 4000000) (disch := omega) only [go_sem, ↓reduceIte, hfz])
   refine H1 (S := Nat × Lst) (fun s => 2 * s.1 ≤ A.length ∧ lOk [.int .u8 0] s.1 s.2)
    (fun s => ⟨[(8, .int .i64 (2 * s.1 : Nat)), (7, lE 3 s.1 s.2), (6, .raw (.slice aA A.length ac))], 4, [(3, lO 5 ((G0 (A.take (2 * s.1))).map bE) s.2)], B1, []⟩)
    (fun s => A.length - 2 * s.1) (0, none) ⟨Nat.zero_le _, rfl⟩ (Weak.sub (A7 (by simp [wσ, go_sem, closed, A0, A4, eN, oN, cn, List.take_zero, G0] <;> omega) (by simp [whs, Go.Ew.hget, go_sem, EObj.closed, closed, A0, A4, eN, oN, cn, List.take_zero, G0]) (by first | (simp [*]; done) | (simp only [cxG]; omega)) rfl rfl (by simp))) ?_
   rintro ⟨i, q⟩ ⟨hi, hl⟩
   simp only at hi hl ⊢
   rcases Nat.lt_or_ge (2 * i) A.length with hi2 | hi2
   ·have cA : decide (((2 * i : Nat) : Int) < (A.length : Int)) = true := decide_eq_true (by omega)
    have htk := O3 A i (by omega)
    have m1 := hbY.ld (2 * i) (by omega)
    have m2 := hbY.lS (2 * i) (by omega)
    have m5 := hbY.ld (2 * i + 1) (by omega)
    have m6 := hbY.lS (2 * i + 1) (by omega)
    have m3 := hbY.lD (by omega)
    have m4 := hbY.ok.so (by omega)
    obtain ⟨e, he0⟩ : ∃ e, e = A.getD (2 * i) 0 := ⟨_, rfl⟩
    obtain ⟨d, hd0⟩ : ∃ d, d = A.getD (2 * i + 1) 0 := ⟨_, rfl⟩
    rw [← he0] at m1 htk
    rw [← hd0] at m5 htk
    have r1 := Aq5 e
    have r2 := Aq5 d
    have eor := Cd3 e d
    have em := Bz3 e
    have g1 : ((2 * i : Nat) : Int).toNat = 2 * i := Int.toNat_natCast _
    have g2 : (((2 * i : Nat) : Int) + 1).toNat = 2 * i + 1 := by omega
    have hpl : (G0 (A.take (2 * i))).length = i := by rw [I5, List.length_take]; omega
    obtain ⟨N, hN⟩ : ∃ N, N = G0 (A.take (2 * i)) := ⟨_, rfl⟩
    rw [← hN] at hpl htk ⊢
    have hav := Y9 (T := 5) hl (A5 0 N) hz8
    refine A3 1000 ?_
    rcases q with _ | ⟨cp0, rest0⟩
    ·repeat' (first | with_reducible refine And.intro (by first | omega | (constructor <;> assumption) | (simp; done) | ((repeat' refine And.intro ?_ ?_) <;> first | omega | assumption | (refine SlOk.so (n := ?_) ?_ ?_; rotate_left; assumption; omega) | (simp; done) | fail)) ?_ | simp (maxSteps := 4000000) (disch := omega) only [go_sem, ↓reduceIte, cA, g1, g2, m1, m5, bE, r1, r2, em, eor] | with_reducible refine C8 (id := 13) [0, 1, 2, 3, 4, 5, 6, 7, 8, 9, 10, 11, 12, 13, 14, 15, 16] mixed (by kernel_rfl) (by simp) (fun hin => D4 1000 hin ?_))
     refine S9 (T := 5) (l := none) (xs := N) 47 3 i [P4 e d] [100046] rfl rfl Try.underlying22 (.inl ⟨_, Try.underlying22⟩) zr5 cz5 by5 hpl rfl rfl hl (fun B hs hB hfb => ⟨_, G9 (by rw [hfb 100046 (by simp)]; rfl) rfl, by simp⟩) (by simp only [List.length_singleton]; omega) (by simp) (by kernel_rfl) (F7 (by kernel_rfl) (C3 (by kernel_rfl))) (fun l5 hl5 => D4 1000 (by assumption) ?_)
     have hl5' := hl5
     have hav5 := Y9 (T := 5) hl5 (A5 0 (N ++ [P4 e d])) hz8
     obtain ⟨cp2, rest2, rfl, -⟩ := E5 hl5 (by simp)
     simp only [C0]
     repeat' (simp (maxSteps := 4000000) (disch := omega) only [go_sem, ↓reduceIte])
     refine D9 (by kernel_rfl) (C3 (by kernel_rfl)) ?_
     refine J2 [100047] 3 (by simp) (by simp) (by simp) (by simp) (A3 1000 ?_)
     rw [← htk]
     rw [List.length_singleton] at hl5'
     simp only [List.length_singleton]
     repeat' (simp (maxSteps := 4000000) (disch := omega) only [go_sem, ↓reduceIte, okC, okE, R1, E8, G1 (ks := [100047]) (k := 3) hl5' (A5 0 (G0 (A.take (2 * (i + 1))))) hz8, E1])
     have cl2 : ∀ n, clO n (lO 5 ((G0 (A.take (2 * (i + 1)))).map bE) (some (cp2, rest2))) = True := fun n => K2 hl5' (A5 0 _) hz8
     exact ⟨(i + 1, some (cp2, rest2)), ⟨by simp only; omega, hl5'⟩, Weak.sub (A7 (by simp [wσ, go_sem, closed, A0, A4, cl2, C0] <;> omega) (by simp [whs, Go.Ew.hget, go_sem, EObj.closed, closed, A0, A4, cl2, C0]) (by first | (simp [*]; done) | (simp only [cxG]; omega)) rfl rfl (by simp)), by simp only; omega⟩
    ·repeat' (first | with_reducible refine And.intro (by first | omega | (constructor <;> assumption) | (simp; done) | ((repeat' refine And.intro ?_ ?_) <;> first | omega | assumption | (refine SlOk.so (n := ?_) ?_ ?_; rotate_left; assumption; omega) | (simp; done) | fail)) ?_ | simp (maxSteps := 4000000) (disch := omega) only [go_sem, ↓reduceIte, cA, g1, g2, m1, m5, bE, r1, r2, em, eor] | with_reducible refine C8 (id := 13) [0, 1, 2, 3, 4, 5, 6, 7, 8, 9, 10, 11, 12, 13, 14, 15, 16] mixed (by kernel_rfl) (by simp) (fun hin => D4 1000 hin ?_))
     refine S9 (T := 5) (l := some (cp0, rest0)) (xs := N) 47 3 i [P4 e d] [100046] rfl rfl Try.underlying22 (.inl ⟨_, Try.underlying22⟩) zr5 cz5 by5 hpl rfl rfl hl (fun B hs hB hfb => ⟨_, G9 (by rw [hfb 100046 (by simp)]; rfl) rfl, by simp⟩) (by simp only [List.length_singleton]; omega) (by simp) (by kernel_rfl) (F7 (by kernel_rfl) (C3 (by kernel_rfl))) (fun l5 hl5 => D4 1000 (by assumption) ?_)
     have hl5' := hl5
     have hav5 := Y9 (T := 5) hl5 (A5 0 (N ++ [P4 e d])) hz8
     obtain ⟨cp2, rest2, rfl, -⟩ := E5 hl5 (by simp)
     simp only [C0]
     repeat' (simp (maxSteps := 4000000) (disch := omega) only [go_sem, ↓reduceIte])
     refine D9 (by kernel_rfl) (C3 (by kernel_rfl)) ?_
     refine J2 [100047] 3 (by simp) (by simp) (by simp) (by simp) (A3 1000 ?_)
     rw [← htk]
     rw [List.length_singleton] at hl5'
     simp only [List.length_singleton]
     repeat' (simp (maxSteps := 4000000) (disch := omega) only [go_sem, ↓reduceIte, okC, okE, R1, E8, G1 (ks := [100047]) (k := 3) hl5' (A5 0 (G0 (A.take (2 * (i + 1))))) hz8, E1])
     have cl2 : ∀ n, clO n (lO 5 ((G0 (A.take (2 * (i + 1)))).map bE) (some (cp2, rest2))) = True := fun n => K2 hl5' (A5 0 _) hz8
     exact ⟨(i + 1, some (cp2, rest2)), ⟨by simp only; omega, hl5'⟩, Weak.sub (A7 (by simp [wσ, go_sem, closed, A0, A4, cl2, C0] <;> omega) (by simp [whs, Go.Ew.hget, go_sem, EObj.closed, closed, A0, A4, cl2, C0]) (by first | (simp [*]; done) | (simp only [cxG]; omega)) rfl rfl (by simp)), by simp only; omega⟩
   ·have cA : decide (((2 * i : Nat) : Int) < (A.length : Int)) = false := decide_eq_false (by omega)
    have hte : A.take (2 * i) = A := List.take_of_length_le (by omega)
    have hpl : (pfx l true).length = i := by rw [← hpe, I5]; omega
    rw [hte, hpe, ← hpl]
    rw [← hpl] at hl
    refine J3 (xs := pfx l true) (T := 5) 3 (pfx l true).length rfl rfl hl (by simp) (fun b3 ad2 cap2 B4 hB4 hfz2 hbY2 hcap2 => A3 1000 ?_)
    change BExt B1 B4 at hB4
    rw [hpl] at hfz2 ⊢
    repeat' (first | simp (maxSteps := 4000000) (disch := omega) only [go_sem, ↓reduceIte, cA, hfz2, hpl] | with_reducible refine A3 1000 ?_)
    rw [← hpl]
    first | exact ⟨hB1.trans hB4, (ad2, cap2), rfl, by simp [closed, A0], ⟨hbY2, hcap2⟩⟩ | exact ⟨(ad2, cap2), rfl, by simp [closed, A0], ⟨hbY2, hcap2⟩⟩ | exact ⟨hB1.trans hB4, (ad2, cap2), by simp [closed, A0], ⟨hbY2, hcap2⟩⟩ | exact ⟨(ad2, cap2), by simp [closed, A0], ⟨hbY2, hcap2⟩⟩ | exact ⟨hB1.trans hB4, (ad2, cap2), by simp [closed, A0, D6]⟩ | exact ⟨(ad2, cap2), by simp [closed, A0, D6]⟩
  ·have c1 : ((l.length : Int) % 2 == 1) = false := by rw [beq_eq_false_iff_ne]; omega
   have hae : Ae1 l true = [2, 0] ++ l := by rw [Ae1, if_neg hpar]; rfl
   repeat' (first | with_reducible refine And.intro (by first | omega | (simp; done)) ?_ | simp (maxSteps := 4000000) (disch := omega) only [go_sem, ↓reduceIte, Try.f14, c1])
   refine appB (T := 5) (l := none) (xs := []) 99 0 [2, 0] rfl Try.underlying22 (.inl ⟨_, Try.underlying22⟩) zr5 cz5 by5 rfl rfl rfl rfl ⟨_, G9 (m := 2) rfl rfl, by simp⟩ (by simp) (fun l1 hl1 => A3 1000 ?_)
   simp only [List.nil_append, List.length_cons, List.length_nil, Nat.zero_add, Nat.reduceAdd] at hl1 ⊢
   repeat' (simp (maxSteps := 4000000) (disch := omega) only [go_sem, ↓reduceIte])
   refine appB (T := 5) (l := l1) (xs := [2, 0]) 1 2 l rfl Try.underlying22 (.inl ⟨_, Try.underlying22⟩) zr5 cz5 by5 rfl rfl rfl hl1 (hb.src _) (by omega) (fun l2 hl2 => ?_)
   have hal2 : 2 + l.length = (Ae1 l true).length := by rw [hae, List.length_append]; rfl
   rw [← hae]
   rw [hal2] at hl2 ⊢
   refine J3 (xs := Ae1 l true) (T := 5) 2 (Ae1 l true).length rfl rfl hl2 (by simp) (fun b2 aA ac B1 hB1 hfz hbY hcap => A3 1000 ?_)
   change BExt B0 B1 at hB1
   obtain ⟨A, hA⟩ : ∃ A, A = Ae1 l true := ⟨_, rfl⟩
   have hpe : G0 A = pfx l true := by rw [hA]; rfl
   rw [← hA] at hfz hbY hcap hal
   rw [← hA]
   repeat' (simp (maxSteps := 4000000) (disch := omega) only [go_sem, ↓reduceIte, hfz])
   refine H1 (S := Nat × Lst) (fun s => 2 * s.1 ≤ A.length ∧ lOk [.int .u8 0] s.1 s.2)
    (fun s => ⟨[(8, .int .i64 (2 * s.1 : Nat)), (7, lE 3 s.1 s.2), (6, .raw (.slice aA A.length ac))], 4, [(3, lO 5 ((G0 (A.take (2 * s.1))).map bE) s.2)], B1, []⟩)
    (fun s => A.length - 2 * s.1) (0, none) ⟨Nat.zero_le _, rfl⟩ (Weak.sub (A7 (by simp [wσ, go_sem, closed, A0, A4, eN, oN, cn, List.take_zero, G0] <;> omega) (by simp [whs, Go.Ew.hget, go_sem, EObj.closed, closed, A0, A4, eN, oN, cn, List.take_zero, G0]) (by first | (simp [*]; done) | (simp only [cxG]; omega)) rfl rfl (by simp))) ?_
   rintro ⟨i, q⟩ ⟨hi, hl⟩
   simp only at hi hl ⊢
   rcases Nat.lt_or_ge (2 * i) A.length with hi2 | hi2
   ·have cA : decide (((2 * i : Nat) : Int) < (A.length : Int)) = true := decide_eq_true (by omega)
    have htk := O3 A i (by omega)
    have m1 := hbY.ld (2 * i) (by omega)
    have m2 := hbY.lS (2 * i) (by omega)
    have m5 := hbY.ld (2 * i + 1) (by omega)
    have m6 := hbY.lS (2 * i + 1) (by omega)
    have m3 := hbY.lD (by omega)
    have m4 := hbY.ok.so (by omega)
    obtain ⟨e, he0⟩ : ∃ e, e = A.getD (2 * i) 0 := ⟨_, rfl⟩
    obtain ⟨d, hd0⟩ : ∃ d, d = A.getD (2 * i + 1) 0 := ⟨_, rfl⟩
    rw [← he0] at m1 htk
    rw [← hd0] at m5 htk
    have r1 := Aq5 e
    have r2 := Aq5 d
    have eor := Cd3 e d
    have em := Bz3 e
    have g1 : ((2 * i : Nat) : Int).toNat = 2 * i := Int.toNat_natCast _
    have g2 : (((2 * i : Nat) : Int) + 1).toNat = 2 * i + 1 := by omega
    have hpl : (G0 (A.take (2 * i))).length = i := by rw [I5, List.length_take]; omega
    obtain ⟨N, hN⟩ : ∃ N, N = G0 (A.take (2 * i)) := ⟨_, rfl⟩
    rw [← hN] at hpl htk ⊢
    have hav := Y9 (T := 5) hl (A5 0 N) hz8
    refine A3 1000 ?_
    rcases q with _ | ⟨cp0, rest0⟩
    ·repeat' (first | with_reducible refine And.intro (by first | omega | (constructor <;> assumption) | (simp; done) | ((repeat' refine And.intro ?_ ?_) <;> first | omega | assumption | (refine SlOk.so (n := ?_) ?_ ?_; rotate_left; assumption; omega) | (simp; done) | fail)) ?_ | simp (maxSteps := 4000000) (disch := omega) only [go_sem, ↓reduceIte, cA, g1, g2, m1, m5, bE, r1, r2, em, eor] | with_reducible refine C8 (id := 13) [0, 1, 2, 3, 4, 5, 6, 7, 8, 9, 10, 11, 12, 13, 14, 15, 16] mixed (by kernel_rfl) (by simp) (fun hin => D4 1000 hin ?_))
     refine S9 (T := 5) (l := none) (xs := N) 47 3 i [P4 e d] [100046] rfl rfl Try.underlying22 (.inl ⟨_, Try.underlying22⟩) zr5 cz5 by5 hpl rfl rfl hl (fun B hs hB hfb => ⟨_, G9 (by rw [hfb 100046 (by simp)]; rfl) rfl, by simp⟩) (by simp only [List.length_singleton]; omega) (by simp) (by kernel_rfl) (F7 (by kernel_rfl) (C3 (by kernel_rfl))) (fun l5 hl5 => D4 1000 (by assumption) ?_)
     have hl5' := hl5
     have hav5 := Y9 (T := 5) hl5 (A5 0 (N ++ [P4 e d])) hz8
     obtain ⟨cp2, rest2, rfl, -⟩ := E5 hl5 (by simp)
     simp only [C0]
     repeat' (simp (maxSteps := 4000000) (disch := omega) only [go_sem, ↓reduceIte])
     refine D9 (by kernel_rfl) (C3 (by kernel_rfl)) ?_
     refine J2 [100047] 3 (by simp) (by simp) (by simp) (by simp) (A3 1000 ?_)
     rw [← htk]
     rw [List.length_singleton] at hl5'
     simp only [List.length_singleton]
     repeat' (simp (maxSteps := 4000000) (disch := omega) only [go_sem, ↓reduceIte, okC, okE, R1, E8, G1 (ks := [100047]) (k := 3) hl5' (A5 0 (G0 (A.take (2 * (i + 1))))) hz8, E1])
     have cl2 : ∀ n, clO n (lO 5 ((G0 (A.take (2 * (i + 1)))).map bE) (some (cp2, rest2))) = True := fun n => K2 hl5' (A5 0 _) hz8
     exact ⟨(i + 1, some (cp2, rest2)), ⟨by simp only; omega, hl5'⟩, Weak.sub (A7 (by simp [wσ, go_sem, closed, A0, A4, cl2, C0] <;> omega) (by simp [whs, Go.Ew.hget, go_sem, EObj.closed, closed, A0, A4, cl2, C0]) (by first | (simp [*]; done) | (simp only [cxG]; omega)) rfl rfl (by simp)), by simp only; omega⟩
    ·repeat' (first | with_reducible refine And.intro (by first | omega | (constructor <;> assumption) | (simp; done) | ((repeat' refine And.intro ?_ ?_) <;> first | omega | assumption | (refine SlOk.so (n := ?_) ?_ ?_; rotate_left; assumption; omega) | (simp; done) | fail)) ?_ | simp (maxSteps := 4000000) (disch := omega) only [go_sem, ↓reduceIte, cA, g1, g2, m1, m5, bE, r1, r2, em, eor] | with_reducible refine C8 (id := 13) [0, 1, 2, 3, 4, 5, 6, 7, 8, 9, 10, 11, 12, 13, 14, 15, 16] mixed (by kernel_rfl) (by simp) (fun hin => D4 1000 hin ?_))
     refine S9 (T := 5) (l := some (cp0, rest0)) (xs := N) 47 3 i [P4 e d] [100046] rfl rfl Try.underlying22 (.inl ⟨_, Try.underlying22⟩) zr5 cz5 by5 hpl rfl rfl hl (fun B hs hB hfb => ⟨_, G9 (by rw [hfb 100046 (by simp)]; rfl) rfl, by simp⟩) (by simp only [List.length_singleton]; omega) (by simp) (by kernel_rfl) (F7 (by kernel_rfl) (C3 (by kernel_rfl))) (fun l5 hl5 => D4 1000 (by assumption) ?_)
     have hl5' := hl5
     have hav5 := Y9 (T := 5) hl5 (A5 0 (N ++ [P4 e d])) hz8
     obtain ⟨cp2, rest2, rfl, -⟩ := E5 hl5 (by simp)
     simp only [C0]
     repeat' (simp (maxSteps := 4000000) (disch := omega) only [go_sem, ↓reduceIte])
     refine D9 (by kernel_rfl) (C3 (by kernel_rfl)) ?_
     refine J2 [100047] 3 (by simp) (by simp) (by simp) (by simp) (A3 1000 ?_)
     rw [← htk]
     rw [List.length_singleton] at hl5'
     simp only [List.length_singleton]
     repeat' (simp (maxSteps := 4000000) (disch := omega) only [go_sem, ↓reduceIte, okC, okE, R1, E8, G1 (ks := [100047]) (k := 3) hl5' (A5 0 (G0 (A.take (2 * (i + 1))))) hz8, E1])
     have cl2 : ∀ n, clO n (lO 5 ((G0 (A.take (2 * (i + 1)))).map bE) (some (cp2, rest2))) = True := fun n => K2 hl5' (A5 0 _) hz8
     exact ⟨(i + 1, some (cp2, rest2)), ⟨by simp only; omega, hl5'⟩, Weak.sub (A7 (by simp [wσ, go_sem, closed, A0, A4, cl2, C0] <;> omega) (by simp [whs, Go.Ew.hget, go_sem, EObj.closed, closed, A0, A4, cl2, C0]) (by first | (simp [*]; done) | (simp only [cxG]; omega)) rfl rfl (by simp)), by simp only; omega⟩
   ·have cA : decide (((2 * i : Nat) : Int) < (A.length : Int)) = false := decide_eq_false (by omega)
    have hte : A.take (2 * i) = A := List.take_of_length_le (by omega)
    have hpl : (pfx l true).length = i := by rw [← hpe, I5]; omega
    rw [hte, hpe, ← hpl]
    rw [← hpl] at hl
    refine J3 (xs := pfx l true) (T := 5) 3 (pfx l true).length rfl rfl hl (by simp) (fun b3 ad2 cap2 B4 hB4 hfz2 hbY2 hcap2 => A3 1000 ?_)
    change BExt B1 B4 at hB4
    rw [hpl] at hfz2 ⊢
    repeat' (first | simp (maxSteps := 4000000) (disch := omega) only [go_sem, ↓reduceIte, cA, hfz2, hpl] | with_reducible refine A3 1000 ?_)
    rw [← hpl]
    first | exact ⟨hB1.trans hB4, (ad2, cap2), rfl, by simp [closed, A0], ⟨hbY2, hcap2⟩⟩ | exact ⟨(ad2, cap2), rfl, by simp [closed, A0], ⟨hbY2, hcap2⟩⟩ | exact ⟨hB1.trans hB4, (ad2, cap2), by simp [closed, A0], ⟨hbY2, hcap2⟩⟩ | exact ⟨(ad2, cap2), by simp [closed, A0], ⟨hbY2, hcap2⟩⟩ | exact ⟨hB1.trans hB4, (ad2, cap2), by simp [closed, A0, D6]⟩ | exact ⟨(ad2, cap2), by simp [closed, A0, D6]⟩
 | false =>
  by_cases hpar : l.length % 2 = 1
  ·have c1 : ((l.length : Int) % 2 == 1) = true := by rw [beq_iff_eq]; omega
   have hae : Ae1 l false = [1] ++ l := by rw [Ae1, if_pos hpar]; rfl
   repeat' (first | with_reducible refine And.intro (by first | omega | (simp; done)) ?_ | simp (maxSteps := 4000000) (disch := omega) only [go_sem, ↓reduceIte, Try.f14, c1])
   refine appB (T := 5) (l := none) (xs := []) 99 0 [1] rfl Try.underlying22 (.inl ⟨_, Try.underlying22⟩) zr5 cz5 by5 rfl rfl rfl rfl ⟨_, G9 (m := 1) rfl rfl, by simp⟩ (by simp) (fun l1 hl1 => A3 1000 ?_)
   simp only [List.nil_append, List.length_cons, List.length_nil, Nat.zero_add, Nat.reduceAdd] at hl1 ⊢
   repeat' (simp (maxSteps := 4000000) (disch := omega) only [go_sem, ↓reduceIte])
   refine appB (T := 5) (l := l1) (xs := [1]) 1 1 l rfl Try.underlying22 (.inl ⟨_, Try.underlying22⟩) zr5 cz5 by5 rfl rfl rfl hl1 (hb.src _) (by omega) (fun l2 hl2 => ?_)
   have hal2 : 1 + l.length = (Ae1 l false).length := by rw [hae, List.length_append]; rfl
   rw [← hae]
   rw [hal2] at hl2 ⊢
   refine J3 (xs := Ae1 l false) (T := 5) 2 (Ae1 l false).length rfl rfl hl2 (by simp) (fun b2 aA ac B1 hB1 hfz hbY hcap => A3 1000 ?_)
   change BExt B0 B1 at hB1
   obtain ⟨A, hA⟩ : ∃ A, A = Ae1 l false := ⟨_, rfl⟩
   have hpe : G0 A = pfx l false := by rw [hA]; rfl
   rw [← hA] at hfz hbY hcap hal
   rw [← hA]
   repeat' (simp (maxSteps := 4000000) (disch := omega) only [go_sem, ↓reduceIte, hfz])
   refine H1 (S := Nat × Lst) (fun s => 2 * s.1 ≤ A.length ∧ lOk [.int .u8 0] s.1 s.2)
    (fun s => ⟨[(8, .int .i64 (2 * s.1 : Nat)), (7, lE 3 s.1 s.2), (6, .raw (.slice aA A.length ac))], 4, [(3, lO 5 ((G0 (A.take (2 * s.1))).map bE) s.2)], B1, []⟩)
    (fun s => A.length - 2 * s.1) (0, none) ⟨Nat.zero_le _, rfl⟩ (Weak.sub (A7 (by simp [wσ, go_sem, closed, A0, A4, eN, oN, cn, List.take_zero, G0] <;> omega) (by simp [whs, Go.Ew.hget, go_sem, EObj.closed, closed, A0, A4, eN, oN, cn, List.take_zero, G0]) (by first | (simp [*]; done) | (simp only [cxG]; omega)) rfl rfl (by simp))) ?_
   rintro ⟨i, q⟩ ⟨hi, hl⟩
   simp only at hi hl ⊢
   rcases Nat.lt_or_ge (2 * i) A.length with hi2 | hi2
   ·have cA : decide (((2 * i : Nat) : Int) < (A.length : Int)) = true := decide_eq_true (by omega)
    have htk := O3 A i (by omega)
    have m1 := hbY.ld (2 * i) (by omega)
    have m2 := hbY.lS (2 * i) (by omega)
    have m5 := hbY.ld (2 * i + 1) (by omega)
    have m6 := hbY.lS (2 * i + 1) (by omega)
    have m3 := hbY.lD (by omega)
    have m4 := hbY.ok.so (by omega)
    obtain ⟨e, he0⟩ : ∃ e, e = A.getD (2 * i) 0 := ⟨_, rfl⟩
    obtain ⟨d, hd0⟩ : ∃ d, d = A.getD (2 * i + 1) 0 := ⟨_, rfl⟩
    rw [← he0] at m1 htk
    rw [← hd0] at m5 htk
    have r1 := Aq5 e
    have r2 := Aq5 d
    have eor := Cd3 e d
    have em := Bz3 e
    have g1 : ((2 * i : Nat) : Int).toNat = 2 * i := Int.toNat_natCast _
    have g2 : (((2 * i : Nat) : Int) + 1).toNat = 2 * i + 1 := by omega
    have hpl : (G0 (A.take (2 * i))).length = i := by rw [I5, List.length_take]; omega
    obtain ⟨N, hN⟩ : ∃ N, N = G0 (A.take (2 * i)) := ⟨_, rfl⟩
    rw [← hN] at hpl htk ⊢
    have hav := Y9 (T := 5) hl (A5 0 N) hz8
    refine A3 1000 ?_
    rcases q with _ | ⟨cp0, rest0⟩
    ·repeat' (first | with_reducible refine And.intro (by first | omega | (constructor <;> assumption) | (simp; done) | ((repeat' refine And.intro ?_ ?_) <;> first | omega | assumption | (refine SlOk.so (n := ?_) ?_ ?_; rotate_left; assumption; omega) | (simp; done) | fail)) ?_ | simp (maxSteps := 4000000) (disch := omega) only [go_sem, ↓reduceIte, cA, g1, g2, m1, m5, bE, r1, r2, em, eor] | with_reducible refine C8 (id := 13) [0, 1, 2, 3, 4, 5, 6, 7, 8, 9, 10, 11, 12, 13, 14, 15, 16] mixed (by kernel_rfl) (by simp) (fun hin => D4 1000 hin ?_))
     refine S9 (T := 5) (l := none) (xs := N) 47 3 i [P4 e d] [100046] rfl rfl Try.underlying22 (.inl ⟨_, Try.underlying22⟩) zr5 cz5 by5 hpl rfl rfl hl (fun B hs hB hfb => ⟨_, G9 (by rw [hfb 100046 (by simp)]; rfl) rfl, by simp⟩) (by simp only [List.length_singleton]; omega) (by simp) (by kernel_rfl) (F7 (by kernel_rfl) (C3 (by kernel_rfl))) (fun l5 hl5 => D4 1000 (by assumption) ?_)
     have hl5' := hl5
     have hav5 := Y9 (T := 5) hl5 (A5 0 (N ++ [P4 e d])) hz8
     obtain ⟨cp2, rest2, rfl, -⟩ := E5 hl5 (by simp)
     simp only [C0]
     repeat' (simp (maxSteps := 4000000) (disch := omega) only [go_sem, ↓reduceIte])
     refine D9 (by kernel_rfl) (C3 (by kernel_rfl)) ?_
     refine J2 [100047] 3 (by simp) (by simp) (by simp) (by simp) (A3 1000 ?_)
     rw [← htk]
     rw [List.length_singleton] at hl5'
     simp only [List.length_singleton]
     repeat' (simp (maxSteps := 4000000) (disch := omega) only [go_sem, ↓reduceIte, okC, okE, R1, E8, G1 (ks := [100047]) (k := 3) hl5' (A5 0 (G0 (A.take (2 * (i + 1))))) hz8, E1])
     have cl2 : ∀ n, clO n (lO 5 ((G0 (A.take (2 * (i + 1)))).map bE) (some (cp2, rest2))) = True := fun n => K2 hl5' (A5 0 _) hz8
     exact ⟨(i + 1, some (cp2, rest2)), ⟨by simp only; omega, hl5'⟩, Weak.sub (A7 (by simp [wσ, go_sem, closed, A0, A4, cl2, C0] <;> omega) (by simp [whs, Go.Ew.hget, go_sem, EObj.closed, closed, A0, A4, cl2, C0]) (by first | (simp [*]; done) | (simp only [cxG]; omega)) rfl rfl (by simp)), by simp only; omega⟩
    ·repeat' (first | with_reducible refine And.intro (by first | omega | (constructor <;> assumption) | (simp; done) | ((repeat' refine And.intro ?_ ?_) <;> first | omega | assumption | (refine SlOk.so (n := ?_) ?_ ?_; rotate_left; assumption; omega) | (simp; done) | fail)) ?_ | simp (maxSteps := 4000000) (disch := omega) only [go_sem, ↓reduceIte, cA, g1, g2, m1, m5, bE, r1, r2, em, eor] | with_reducible refine C8 (id := 13) [0, 1, 2, 3, 4, 5, 6, 7, 8, 9, 10, 11, 12, 13, 14, 15, 16] mixed (by kernel_rfl) (by simp) (fun hin => D4 1000 hin ?_))
     refine S9 (T := 5) (l := some (cp0, rest0)) (xs := N) 47 3 i [P4 e d] [100046] rfl rfl Try.underlying22 (.inl ⟨_, Try.underlying22⟩) zr5 cz5 by5 hpl rfl rfl hl (fun B hs hB hfb => ⟨_, G9 (by rw [hfb 100046 (by simp)]; rfl) rfl, by simp⟩) (by simp only [List.length_singleton]; omega) (by simp) (by kernel_rfl) (F7 (by kernel_rfl) (C3 (by kernel_rfl))) (fun l5 hl5 => D4 1000 (by assumption) ?_)
     have hl5' := hl5
     have hav5 := Y9 (T := 5) hl5 (A5 0 (N ++ [P4 e d])) hz8
     obtain ⟨cp2, rest2, rfl, -⟩ := E5 hl5 (by simp)
     simp only [C0]
     repeat' (simp (maxSteps := 4000000) (disch := omega) only [go_sem, ↓reduceIte])
     refine D9 (by kernel_rfl) (C3 (by kernel_rfl)) ?_
     refine J2 [100047] 3 (by simp) (by simp) (by simp) (by simp) (A3 1000 ?_)
     rw [← htk]
     rw [List.length_singleton] at hl5'
     simp only [List.length_singleton]
     repeat' (simp (maxSteps := 4000000) (disch := omega) only [go_sem, ↓reduceIte, okC, okE, R1, E8, G1 (ks := [100047]) (k := 3) hl5' (A5 0 (G0 (A.take (2 * (i + 1))))) hz8, E1])
     have cl2 : ∀ n, clO n (lO 5 ((G0 (A.take (2 * (i + 1)))).map bE) (some (cp2, rest2))) = True := fun n => K2 hl5' (A5 0 _) hz8
     exact ⟨(i + 1, some (cp2, rest2)), ⟨by simp only; omega, hl5'⟩, Weak.sub (A7 (by simp [wσ, go_sem, closed, A0, A4, cl2, C0] <;> omega) (by simp [whs, Go.Ew.hget, go_sem, EObj.closed, closed, A0, A4, cl2, C0]) (by first | (simp [*]; done) | (simp only [cxG]; omega)) rfl rfl (by simp)), by simp only; omega⟩
   ·have cA : decide (((2 * i : Nat) : Int) < (A.length : Int)) = false := decide_eq_false (by omega)
    have hte : A.take (2 * i) = A := List.take_of_length_le (by omega)
    have hpl : (pfx l false).length = i := by rw [← hpe, I5]; omega
    rw [hte, hpe, ← hpl]
    rw [← hpl] at hl
    refine J3 (xs := pfx l false) (T := 5) 3 (pfx l false).length rfl rfl hl (by simp) (fun b3 ad2 cap2 B4 hB4 hfz2 hbY2 hcap2 => A3 1000 ?_)
    change BExt B1 B4 at hB4
    rw [hpl] at hfz2 ⊢
    repeat' (first | simp (maxSteps := 4000000) (disch := omega) only [go_sem, ↓reduceIte, cA, hfz2, hpl] | with_reducible refine A3 1000 ?_)
    rw [← hpl]
    first | exact ⟨hB1.trans hB4, (ad2, cap2), rfl, by simp [closed, A0], ⟨hbY2, hcap2⟩⟩ | exact ⟨(ad2, cap2), rfl, by simp [closed, A0], ⟨hbY2, hcap2⟩⟩ | exact ⟨hB1.trans hB4, (ad2, cap2), by simp [closed, A0], ⟨hbY2, hcap2⟩⟩ | exact ⟨(ad2, cap2), by simp [closed, A0], ⟨hbY2, hcap2⟩⟩ | exact ⟨hB1.trans hB4, (ad2, cap2), by simp [closed, A0, D6]⟩ | exact ⟨(ad2, cap2), by simp [closed, A0, D6]⟩
  ·have c1 : ((l.length : Int) % 2 == 1) = false := by rw [beq_eq_false_iff_ne]; omega
   have hae : Ae1 l false = [0, 0] ++ l := by rw [Ae1, if_neg hpar]; rfl
   repeat' (first | with_reducible refine And.intro (by first | omega | (simp; done)) ?_ | simp (maxSteps := 4000000) (disch := omega) only [go_sem, ↓reduceIte, Try.f14, c1])
   refine appB (T := 5) (l := none) (xs := []) 99 0 [0, 0] rfl Try.underlying22 (.inl ⟨_, Try.underlying22⟩) zr5 cz5 by5 rfl rfl rfl rfl ⟨_, G9 (m := 2) rfl rfl, by simp⟩ (by simp) (fun l1 hl1 => A3 1000 ?_)
   simp only [List.nil_append, List.length_cons, List.length_nil, Nat.zero_add, Nat.reduceAdd] at hl1 ⊢
   repeat' (simp (maxSteps := 4000000) (disch := omega) only [go_sem, ↓reduceIte])
   refine appB (T := 5) (l := l1) (xs := [0, 0]) 1 2 l rfl Try.underlying22 (.inl ⟨_, Try.underlying22⟩) zr5 cz5 by5 rfl rfl rfl hl1 (hb.src _) (by omega) (fun l2 hl2 => ?_)
   have hal2 : 2 + l.length = (Ae1 l false).length := by rw [hae, List.length_append]; rfl
   rw [← hae]
   rw [hal2] at hl2 ⊢
   refine J3 (xs := Ae1 l false) (T := 5) 2 (Ae1 l false).length rfl rfl hl2 (by simp) (fun b2 aA ac B1 hB1 hfz hbY hcap => A3 1000 ?_)
   change BExt B0 B1 at hB1
   obtain ⟨A, hA⟩ : ∃ A, A = Ae1 l false := ⟨_, rfl⟩
   have hpe : G0 A = pfx l false := by rw [hA]; rfl
   rw [← hA] at hfz hbY hcap hal
   rw [← hA]
   repeat' (simp (maxSteps := 4000000) (disch := omega) only [go_sem, ↓reduceIte, hfz])
   refine H1 (S := Nat × Lst) (fun s => 2 * s.1 ≤ A.length ∧ lOk [.int .u8 0] s.1 s.2)
    (fun s => ⟨[(8, .int .i64 (2 * s.1 : Nat)), (7, lE 3 s.1 s.2), (6, .raw (.slice aA A.length ac))], 4, [(3, lO 5 ((G0 (A.take (2 * s.1))).map bE) s.2)], B1, []⟩)
    (fun s => A.length - 2 * s.1) (0, none) ⟨Nat.zero_le _, rfl⟩ (Weak.sub (A7 (by simp [wσ, go_sem, closed, A0, A4, eN, oN, cn, List.take_zero, G0] <;> omega) (by simp [whs, Go.Ew.hget, go_sem, EObj.closed, closed, A0, A4, eN, oN, cn, List.take_zero, G0]) (by first | (simp [*]; done) | (simp only [cxG]; omega)) rfl rfl (by simp))) ?_
   rintro ⟨i, q⟩ ⟨hi, hl⟩
   simp only at hi hl ⊢
   rcases Nat.lt_or_ge (2 * i) A.length with hi2 | hi2
   ·have cA : decide (((2 * i : Nat) : Int) < (A.length : Int)) = true := decide_eq_true (by omega)
    have htk := O3 A i (by omega)
    have m1 := hbY.ld (2 * i) (by omega)
    have m2 := hbY.lS (2 * i) (by omega)
    have m5 := hbY.ld (2 * i + 1) (by omega)
    have m6 := hbY.lS (2 * i + 1) (by omega)
    have m3 := hbY.lD (by omega)
    have m4 := hbY.ok.so (by omega)
    obtain ⟨e, he0⟩ : ∃ e, e = A.getD (2 * i) 0 := ⟨_, rfl⟩
    obtain ⟨d, hd0⟩ : ∃ d, d = A.getD (2 * i + 1) 0 := ⟨_, rfl⟩
    rw [← he0] at m1 htk
    rw [← hd0] at m5 htk
    have r1 := Aq5 e
    have r2 := Aq5 d
    have eor := Cd3 e d
    have em := Bz3 e
    have g1 : ((2 * i : Nat) : Int).toNat = 2 * i := Int.toNat_natCast _
    have g2 : (((2 * i : Nat) : Int) + 1).toNat = 2 * i + 1 := by omega
    have hpl : (G0 (A.take (2 * i))).length = i := by rw [I5, List.length_take]; omega
    obtain ⟨N, hN⟩ : ∃ N, N = G0 (A.take (2 * i)) := ⟨_, rfl⟩
    rw [← hN] at hpl htk ⊢
    have hav := Y9 (T := 5) hl (A5 0 N) hz8
    refine A3 1000 ?_
    rcases q with _ | ⟨cp0, rest0⟩
    ·repeat' (first | with_reducible refine And.intro (by first | omega | (constructor <;> assumption) | (simp; done) | ((repeat' refine And.intro ?_ ?_) <;> first | omega | assumption | (refine SlOk.so (n := ?_) ?_ ?_; rotate_left; assumption; omega) | (simp; done) | fail)) ?_ | simp (maxSteps := 4000000) (disch := omega) only [go_sem, ↓reduceIte, cA, g1, g2, m1, m5, bE, r1, r2, em, eor] | with_reducible refine C8 (id := 13) [0, 1, 2, 3, 4, 5, 6, 7, 8, 9, 10, 11, 12, 13, 14, 15, 16] mixed (by kernel_rfl) (by simp) (fun hin => D4 1000 hin ?_))
     refine S9 (T := 5) (l := none) (xs := N) 47 3 i [P4 e d] [100046] rfl rfl Try.underlying22 (.inl ⟨_, Try.underlying22⟩) zr5 cz5 by5 hpl rfl rfl hl (fun B hs hB hfb => ⟨_, G9 (by rw [hfb 100046 (by simp)]; rfl) rfl, by simp⟩) (by simp only [List.length_singleton]; omega) (by simp) (by kernel_rfl) (F7 (by kernel_rfl) (C3 (by kernel_rfl))) (fun l5 hl5 => D4 1000 (by assumption) ?_)
     have hl5' := hl5
     have hav5 := Y9 (T := 5) hl5 (A5 0 (N ++ [P4 e d])) hz8
     obtain ⟨cp2, rest2, rfl, -⟩ := E5 hl5 (by simp)
     simp only [C0]
     repeat' (simp (maxSteps := 4000000) (disch := omega) only [go_sem, ↓reduceIte])
     refine D9 (by kernel_rfl) (C3 (by kernel_rfl)) ?_
     refine J2 [100047] 3 (by simp) (by simp) (by simp) (by simp) (A3 1000 ?_)
     rw [← htk]
     rw [List.length_singleton] at hl5'
     simp only [List.length_singleton]
     repeat' (simp (maxSteps := 4000000) (disch := omega) only [go_sem, ↓reduceIte, okC, okE, R1, E8, G1 (ks := [100047]) (k := 3) hl5' (A5 0 (G0 (A.take (2 * (i + 1))))) hz8, E1])
     have cl2 : ∀ n, clO n (lO 5 ((G0 (A.take (2 * (i + 1)))).map bE) (some (cp2, rest2))) = True := fun n => K2 hl5' (A5 0 _) hz8
     exact ⟨(i + 1, some (cp2, rest2)), ⟨by simp only; omega, hl5'⟩, Weak.sub (A7 (by simp [wσ, go_sem, closed, A0, A4, cl2, C0] <;> omega) (by simp [whs, Go.Ew.hget, go_sem, EObj.closed, closed, A0, A4, cl2, C0]) (by first | (simp [*]; done) | (simp only [cxG]; omega)) rfl rfl (by simp)), by simp only; omega⟩
    ·repeat' (first | with_reducible refine And.intro (by first | omega | (constructor <;> assumption) | (simp; done) | ((repeat' refine And.intro ?_ ?_) <;> first | omega | assumption | (refine SlOk.so (n := ?_) ?_ ?_; rotate_left; assumption; omega) | (simp; done) | fail)) ?_ | simp (maxSteps := 4000000) (disch := omega) only [go_sem, ↓reduceIte, cA, g1, g2, m1, m5, bE, r1, r2, em, eor] | with_reducible refine C8 (id := 13) [0, 1, 2, 3, 4, 5, 6, 7, 8, 9, 10, 11, 12, 13, 14, 15, 16] mixed (by kernel_rfl) (by simp) (fun hin => D4 1000 hin ?_))
     refine S9 (T := 5) (l := some (cp0, rest0)) (xs := N) 47 3 i [P4 e d] [100046] rfl rfl Try.underlying22 (.inl ⟨_, Try.underlying22⟩) zr5 cz5 by5 hpl rfl rfl hl (fun B hs hB hfb => ⟨_, G9 (by rw [hfb 100046 (by simp)]; rfl) rfl, by simp⟩) (by simp only [List.length_singleton]; omega) (by simp) (by kernel_rfl) (F7 (by kernel_rfl) (C3 (by kernel_rfl))) (fun l5 hl5 => D4 1000 (by assumption) ?_)
     have hl5' := hl5
     have hav5 := Y9 (T := 5) hl5 (A5 0 (N ++ [P4 e d])) hz8
     obtain ⟨cp2, rest2, rfl, -⟩ := E5 hl5 (by simp)
     simp only [C0]
     repeat' (simp (maxSteps := 4000000) (disch := omega) only [go_sem, ↓reduceIte])
     refine D9 (by kernel_rfl) (C3 (by kernel_rfl)) ?_
     refine J2 [100047] 3 (by simp) (by simp) (by simp) (by simp) (A3 1000 ?_)
     rw [← htk]
     rw [List.length_singleton] at hl5'
     simp only [List.length_singleton]
     repeat' (simp (maxSteps := 4000000) (disch := omega) only [go_sem, ↓reduceIte, okC, okE, R1, E8, G1 (ks := [100047]) (k := 3) hl5' (A5 0 (G0 (A.take (2 * (i + 1))))) hz8, E1])
     have cl2 : ∀ n, clO n (lO 5 ((G0 (A.take (2 * (i + 1)))).map bE) (some (cp2, rest2))) = True := fun n => K2 hl5' (A5 0 _) hz8
     exact ⟨(i + 1, some (cp2, rest2)), ⟨by simp only; omega, hl5'⟩, Weak.sub (A7 (by simp [wσ, go_sem, closed, A0, A4, cl2, C0] <;> omega) (by simp [whs, Go.Ew.hget, go_sem, EObj.closed, closed, A0, A4, cl2, C0]) (by first | (simp [*]; done) | (simp only [cxG]; omega)) rfl rfl (by simp)), by simp only; omega⟩
   ·have cA : decide (((2 * i : Nat) : Int) < (A.length : Int)) = false := decide_eq_false (by omega)
    have hte : A.take (2 * i) = A := List.take_of_length_le (by omega)
    have hpl : (pfx l false).length = i := by rw [← hpe, I5]; omega
    rw [hte, hpe, ← hpl]
    rw [← hpl] at hl
    refine J3 (xs := pfx l false) (T := 5) 3 (pfx l false).length rfl rfl hl (by simp) (fun b3 ad2 cap2 B4 hB4 hfz2 hbY2 hcap2 => A3 1000 ?_)
    change BExt B1 B4 at hB4
    rw [hpl] at hfz2 ⊢
    repeat' (first | simp (maxSteps := 4000000) (disch := omega) only [go_sem, ↓reduceIte, cA, hfz2, hpl] | with_reducible refine A3 1000 ?_)
    rw [← hpl]
    first | exact ⟨hB1.trans hB4, (ad2, cap2), rfl, by simp [closed, A0], ⟨hbY2, hcap2⟩⟩ | exact ⟨(ad2, cap2), rfl, by simp [closed, A0], ⟨hbY2, hcap2⟩⟩ | exact ⟨hB1.trans hB4, (ad2, cap2), by simp [closed, A0], ⟨hbY2, hcap2⟩⟩ | exact ⟨(ad2, cap2), by simp [closed, A0], ⟨hbY2, hcap2⟩⟩ | exact ⟨hB1.trans hB4, (ad2, cap2), by simp [closed, A0, D6]⟩ | exact ⟨(ad2, cap2), by simp [closed, A0, D6]⟩
end Go.Proofs.Ytncjbfkkgdepoaa
