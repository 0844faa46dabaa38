/- Part of a proof over the seat Ytncjbfkkgdepoaa. -/
import Derived.Test.YtncjbfkkgdepoaaG17
import Derived.Test.YtncjbfkkgdepoaaG14
import Derived.Test.YtncjbfkkgdepoaaEng2
import Derived.Test.YtncjbfkkgdepoaaRows
import Derived.WalkKit
import Derived.ProofKit
import Derived.OpenShut
import Derived.Below
import Derived.JoinedCond
import Derived.ChangeSlices
import Derived.SizedLaws
import Derived.Test.YtncjbfkkgdepoaaG16
set_option linter.unusedSimpArgs false
set_option linter.unusedVariables false
set_option maxRecDepth 100000
namespace Go.Proofs.Ytncjbfkkgdepoaa
open Go RowKit Go.Ew
set_option maxHeartbeats 16000000
theorem in6 : C5 Try.f6.ntmps (Try.f6.body.getD .skip) = true := by kernel_rfl
theorem Ak8 (p : List UInt8) (n : Nat) (B : Base) (ad : Option Addr) (cap : Nat) (h : BytesAt B ad p) (hn : p.length = n) (hp : n ≤ 140737488355328) :
  Owns Try.prog 9 5 [.int .u8 0] [.raw (.slice ad n cap)] B (fun s : Lst => n) (fun s => p.map bE) (fun s => s) (fun s B' => True) := by
 subst hn
 refine Cj1 en9 (fun s B B' hB hR => hR) Try.func9 rfl in9 (by simp [Try.f9]) (by simp [A0, closed]) (fun B0 hB0 => A3 1000 ?_) hz8
 replace h := h.ext hB0
 repeat' (first | with_reducible refine And.intro (by first | omega | (simp; done)) ?_ | simp (maxSteps := 4000000) (disch := omega) only [go_sem, ↓reduceIte, Try.f9])
 refine appB (T := 5) (l := some (0, [])) (xs := []) 0 0 p rfl Try.underlying22 (.inl ⟨_, Try.underlying22⟩) zr5 cz5 by5 rfl rfl rfl ⟨Nat.le_refl _, Nat.zero_le _, rfl, by simp⟩ (h.src _) (by omega) (fun l1 hl1 => ?_)
 simp only [Nat.zero_add, List.nil_append] at hl1 ⊢
 refine L0 [1] 0 (by simp) (by simp) (by simp) (by simp) (A3 1000 ?_)
 have hpk := H2 (T := 5) (ks := [1]) (k := 0) hl1 (A7 0 p) hz8
 repeat' (simp (maxSteps := 4000000) (disch := omega) only [go_sem, ↓reduceIte, hpk, E3, Z0 (ks := [1]) (k := 0) (r := 1) rfl])
 exact ⟨by rcases l1 with _ | ⟨q1, q2⟩ <;> rfl, BExt.refl _, l1, rfl, rfl, hl1, A7 0 p⟩
def msk (p : List UInt8) (i : Nat) : List UInt8 := (p.take i).map loN ++ p.drop i
theorem Ag4 (p : List UInt8) : msk p 0 = p := by simp [msk]
theorem Br6 (p : List UInt8) : msk p p.length = p.map loN := by simp [msk]
theorem Bc1 (p : List UInt8) (i : Nat) : (msk p i).length = p.length := by simp [msk]; omega
theorem Br5 {p : List UInt8} {i : Nat} (h : i < p.length) : (msk p i).getD i 0 = p.getD i 0 := by
 rw [List.getD_eq_getElem?_getD, List.getD_eq_getElem?_getD, msk, List.getElem?_append_right (by rw [List.length_map, List.length_take]; exact Nat.min_le_left _ _), List.length_map, List.length_take, Nat.min_eq_left (by omega), Nat.sub_self, List.getElem?_drop]
 simp
theorem Br4 {p : List UInt8} {i : Nat} (h : i < p.length) : (msk p i).set i (loN (p.getD i 0)) = msk p (i + 1) := by
 have hg : p.getD i 0 = p[i] := by rw [List.getD_eq_getElem?_getD, List.getElem?_eq_getElem h]; rfl
 have hl : ((p.take i).map loN).length = i := by rw [List.length_map, List.length_take]; omega
 rw [msk, msk, List.set_append_right _ _ (by rw [hl]; exact Nat.le_refl _), hl, Nat.sub_self, List.drop_eq_getElem_cons h, List.set_cons_zero, hg, List.take_succ_eq_append_getElem h, List.map_append, List.append_assoc]
 rfl
theorem Bg8 (p : List UInt8) : ∀ x ∈ p.map loN, x.toNat < 16 := by
 intro x hx
 obtain ⟨c, _, rfl⟩ := List.mem_map.1 hx
 rw [O4]; omega
theorem Bl6 (B : Base) (p q : List UInt8) (leaf leaves : Bool) (n m : Nat) (ad bd : Option Addr) (cap dap : Nat) (hp : BytesAt B ad p) (hq : BytesAt B bd q) (hn : p.length = n) (hm : q.length = m) (hN : n ≤ 140737488351232) (hM : m ≤ 140737488351232) :
  Does Try.prog 6 [.raw (.slice ad n cap), .raw (.slice bd m dap), .bool leaf, .bool leaves] B (fun _ : Unit => .bool true) (fun _ _ => True) := by
 subst hn hm
 refine J9 en6 (fun s B B' hB hR => hR) Try.func6 rfl in6 (by simp [Try.f6]) (by simp [A0, closed]) (fun B0 hB0 => A3 1000 ?_)
 replace hp := hp.ext hB0
 replace hq := hq.ext hB0
 repeat' (first | simp (maxSteps := 4000000) (disch := omega) only [go_sem, ↓reduceIte, Try.f6] | refine G9 (Bn1 B0) (by simp [closed, A0, A2, C4]) (A3 1000 ?_))
 refine Az3 (Ak8 p p.length B0 ad cap hp rfl (by omega)) hz8 (fun la B1 hB1 _ hla hcla => A3 1000 ?_)
 change BExt B0 B1 at hB1
 repeat' (simp (maxSteps := 4000000) (disch := omega) only [go_sem, ↓reduceIte])
 refine Az3 (Ak8 q q.length B1 bd dap (hq.ext hB1) rfl (by omega)) hz8 (fun lb B2 hB2 _ hlb hclb => A3 1000 ?_)
 change BExt B1 B2 at hB2
 repeat' (simp (maxSteps := 4000000) (disch := omega) only [go_sem, ↓reduceIte])
 have hfA : ∀ i, clO 0 (lO 5 ((msk p i).map bE) la) = True := fun i => J4 (by rw [← Bc1 p i] at hla; exact hla) (A7 0 _) hz8
 have hclA : ∀ i n, clO n (lO 5 ((msk p i).map bE) la) = True := fun i n => J4 hla (A7 0 _) hz8
 have hclB : ∀ i n, clO n (lO 5 ((msk q i).map bE) lb) = True := fun i n => J4 hlb (A7 0 _) hz8
 have hclB0 : ∀ n, clO n (lO 5 (q.map bE) lb) = True := fun n => J4 hlb (A7 0 _) hz8
 have hclA0 : ∀ n, clO n (lO 5 (p.map bE) la) = True := fun n => J4 hla (A7 0 _) hz8
 refine G1 (S := Nat) (fun i => i ≤ p.length)
  (fun i => ⟨[(11, .int .i64 (i : Nat)), (10, lE 1 q.length lb), (9, lE 0 p.length la), (3, .bool leaves), (2, .bool leaf)], 2, [(1, lO 5 (q.map bE) lb), (0, lO 5 ((msk p i).map bE) la)], B2, []⟩)
  (fun i => p.length - i) 0 (Nat.zero_le _) (Weak.sub (A5 (by simp [wσ, go_sem, closed, A0, A4, hclA, hclB, hclA0, hclB0, Ag4] <;> omega) (by simp [whs, Go.Ew.hget, go_sem, EObj.closed, closed, A0, A4, hclA, hclB, hclA0, hclB0, Ag4]) (by first | (simp [*]; done) | (simp only [cxG]; omega)) rfl rfl (by simp))) ?_
 intro i hi
 rcases Nat.lt_or_ge i p.length with hi2 | hi2
 ·refine A3 1000 ?_
  have cA : decide ((i : Int) < (p.length : Int)) = true := decide_eq_true (by omega)
  obtain ⟨cp, rest, hlae, -⟩ := E6 hla (by omega)
  subst hlae
  have hml := Bc1 p i
  have g1 := P8 (xs := msk p i) (rest := rest) (i := i) (d := .any) (by omega)
  have g2 := Br5 hi2
  rw [g2] at g1
  have g3 := Br4 hi2
  have g4 := X8 (xs := msk p i) (rest := rest) (i := i) (v := loN (p.getD i 0)) (by omega)
  rw [g3] at g4
  obtain ⟨c, hc⟩ : ∃ c, c = p.getD i 0 := ⟨_, rfl⟩
  rw [← hc] at g1 g4
  have e16 : ((c.toNat : Int) % 16) = ((loN c).toNat : Int) := by rw [O4]; omega
  simp only [C1, H3]
  have e17 : ((c.toNat : Int).tmod 16) = ((loN c).toNat : Int) := by rw [Int.tmod_eq_emod_of_nonneg (by omega)]; exact e16
  repeat' (first | with_reducible refine And.intro (by first | omega | (simp; omega)) ?_ | simp (maxSteps := 4000000) (disch := omega) only [go_sem, ↓reduceIte, cA, Int.toNat_natCast, g1, e16, e17, g4])
  simp only [H3] at hclA
  exact ⟨i + 1, by omega, Weak.sub (A5 (by simp [wσ, go_sem, closed, A0, A4, hclA, hclB, hclB0] <;> omega) (by simp [whs, Go.Ew.hget, go_sem, EObj.closed, closed, A0, A4, hclA, hclB, hclB0]) (by first | (simp [*]; done) | (simp only [cxG]; omega)) rfl rfl (by simp)), by omega⟩
 ·obtain rfl : i = p.length := by omega
  have cA : decide ((p.length : Int) < (p.length : Int)) = false := decide_eq_false (by omega)
  have hA16 := Bg8 p
  have hAl : (p.map loN).length = p.length := List.length_map ..
  rw [Br6]
  obtain ⟨A, hA⟩ : ∃ A, A = p.map loN := ⟨_, rfl⟩
  rw [← hA] at hA16 hAl ⊢
  have hFb : ∀ i b, fzO i b (lO 5 (q.map bE) lb) = lO 5 (q.map bE) lb := fun i b => Cf8 hlb (A7 0 _) hz8
  refine J8 (xs := A) (T := 5) 0 p.length rfl hAl hla (by simp) (fun b3 ad3 cap3 B3 hB3 hfz3 hY3 hcap3 => A3 1000 ?_)
  change BExt B2 B3 at hB3
  simp only [frzσ, frz, hfz3, Cf9 (show (1 : Nat) ≠ 0 by omega), hFb, I6, N1, As2, EObj.frz, Nat.reduceEqDiff, if_false, if_true, ↓reduceIte]
  repeat' (first | simp (maxSteps := 4000000) (disch := omega) only [go_sem, ↓reduceIte, cA] | with_reducible refine A3 1000 ?_)
  refine G1 (S := Nat) (fun i => i ≤ q.length)
   (fun i => ⟨[(12, .int .i64 (i : Nat)), (10, lE 1 q.length lb), (9, .raw (.slice ad3 p.length cap3)), (3, .bool leaves), (2, .bool leaf)], 2, [(1, lO 5 ((msk q i).map bE) lb)], B3, []⟩)
   (fun i => q.length - i) 0 (Nat.zero_le _) (Weak.sub (A5 (by simp [wσ, go_sem, closed, A0, A4, hclA, hclB, hclA0, hclB0, Ag4] <;> omega) (by simp [whs, Go.Ew.hget, go_sem, EObj.closed, closed, A0, A4, hclA, hclB, hclA0, hclB0, Ag4]) (by first | (simp [*]; done) | (simp only [cxG]; omega)) rfl rfl (by simp))) ?_
  intro i hi
  rcases Nat.lt_or_ge i q.length with hi2 | hi2
  ·refine A3 1000 ?_
   have cA : decide ((i : Int) < (q.length : Int)) = true := decide_eq_true (by omega)
   obtain ⟨cp, rest, hlbe, -⟩ := E6 hlb (by omega)
   subst hlbe
   have hml := Bc1 q i
   have g1 := P8 (xs := msk q i) (rest := rest) (i := i) (d := .any) (by omega)
   have g2 := Br5 hi2
   rw [g2] at g1
   have g3 := Br4 hi2
   have g4 := X8 (xs := msk q i) (rest := rest) (i := i) (v := loN (q.getD i 0)) (by omega)
   rw [g3] at g4
   obtain ⟨c, hc⟩ : ∃ c, c = q.getD i 0 := ⟨_, rfl⟩
   rw [← hc] at g1 g4
   have e16 : ((c.toNat : Int) % 16) = ((loN c).toNat : Int) := by rw [O4]; omega
   simp only [C1, H3]
   have e17 : ((c.toNat : Int).tmod 16) = ((loN c).toNat : Int) := by rw [Int.tmod_eq_emod_of_nonneg (by omega)]; exact e16
   repeat' (first | with_reducible refine And.intro (by first | omega | (simp; omega)) ?_ | simp (maxSteps := 4000000) (disch := omega) only [go_sem, ↓reduceIte, cA, Int.toNat_natCast, g1, e16, e17, g4])
   simp only [H3] at hclB
   exact ⟨i + 1, by omega, Weak.sub (A5 (by simp [wσ, go_sem, closed, A0, A4, hclB] <;> omega) (by simp [whs, Go.Ew.hget, go_sem, EObj.closed, closed, A0, A4, hclB]) (by first | (simp [*]; done) | (simp only [cxG]; omega)) rfl rfl (by simp)), by omega⟩
  ·obtain rfl : i = q.length := by omega
   have cA : decide ((q.length : Int) < (q.length : Int)) = false := decide_eq_false (by omega)
   have hM16 := Bg8 q
   have hMl : (q.map loN).length = q.length := List.length_map ..
   rw [Br6]
   obtain ⟨M, hMM⟩ : ∃ M, M = q.map loN := ⟨_, rfl⟩
   rw [← hMM] at hM16 hMl ⊢
   refine J8 (xs := M) (T := 5) 1 q.length rfl hMl hlb (by simp) (fun b4 ad4 cap4 B4 hB4 hfz4 hY4 hcap4 => A3 1000 ?_)
   change BExt B3 B4 at hB4
   simp only [frzσ, frz, hfz4, I6, N1, As2, EObj.frz, Nat.reduceEqDiff, if_false, if_true, ↓reduceIte]
   repeat' (first | simp (maxSteps := 4000000) (disch := omega) only [go_sem, ↓reduceIte, cA] | with_reducible refine A3 1000 ?_)
   have hY3' := hY3.ext hB4
   refine F4 (U4 A p.length B4 ad3 cap3 hY3' hAl (by omega)) (fun _ => by simp [closed]) (fun s5 B5 hB5 hR5 => A3 1000 ?_)
   change BExt B4 B5 at hB5
   repeat' (simp (maxSteps := 4000000) (disch := omega) only [go_sem, ↓reduceIte])
   refine F4 (W9 A leaf p.length B5 s5.1 s5.2 hR5.1 hAl hR5.2 (by omega)) (fun _ => by simp [closed]) (fun s6 B6 hB6 hR6 => A3 1000 ?_)
   change BExt B5 B6 at hB6
   have hPl := Ci9 A leaf
   obtain ⟨hu1, hu2, hu3⟩ := Bp5 A leaf hA16
   have hu4 : unE (pfx A leaf) = 0 := by rw [unE, hu1]; rfl
   have hun := fun n' hn' hc' => Av0 (pfx A leaf) n' B6 s6.1 s6.2 hR6.1 hn' hc'
   rw [hu2, hu3, hu4, hAl] at hun
   have hPQ : ∀ M', (∀ x ∈ M', x.toNat < 16) → (pfx A leaf = pfx M' leaves ↔ A = M' ∧ leaf = leaves) := fun M' h' => Cj0 hA16 h'
   have hpM := hPQ M hM16
   obtain ⟨P, hP⟩ : ∃ P, P = pfx A leaf := ⟨_, rfl⟩
   rw [← hP] at hR6 hPl hun hpM ⊢
   repeat' (simp (maxSteps := 4000000) (disch := omega) only [go_sem, ↓reduceIte])
   refine F4 (hun P.length rfl (by omega)) (fun _ => by simp [closed, A0]) (fun s7 B7 hB7 hR7 => A3 1000 ?_)
   change BExt B6 B7 at hB7
   have hAll := hB1.trans (hB2.trans (hB3.trans (hB4.trans (hB5.trans (hB6.trans hB7)))))
   have cAB : ((Aa3 A).toList == (Aa3 M).toList) = decide (A = M) := Aq1
   have hq0 : ((0 : Nat) : Int) = 0 := rfl
   repeat' (first | simp (maxSteps := 4000000) (disch := omega) only [go_sem, ↓reduceIte, hq0, beq_self_eq_true] | with_reducible refine D6 (id := 14) [0, 1, 2, 3, 4, 5, 6, 7, 8, 9, 10, 11, 12, 13, 14, 15, 16, 17, 19, 23, 24, 25, 26, 27, 18, 20, 21, 22, 28, 29, 30, 31, 32, 33, 34, 35] mixed (by kernel_rfl) (by simp) (fun hin => D4 1000 hin ?_))
   refine Ag2 A rfl Try.underlying22 Try.underlying5 Try.underlying9 rfl hAl hR7 (fun hin8 => D4 1000 hin8 ?_)
   repeat' (simp (maxSteps := 4000000) (disch := omega) only [go_sem, ↓reduceIte, beq_self_eq_true])
   refine Ag2 A rfl Try.underlying22 Try.underlying5 Try.underlying9 rfl hAl (((hY3'.ext hB5).ext hB6).ext hB7) (fun hin9 => D4 1000 hin9 ?_)
   repeat' (simp (maxSteps := 4000000) (disch := omega) only [go_sem, ↓reduceIte, beq_self_eq_true])
   refine Ag2 P rfl Try.underlying22 Try.underlying5 Try.underlying9 rfl rfl (hR6.1.ext hB7) (fun hin7 => D4 1000 hin7 ?_)
   have cPQ0 : ((Aa3 P).toList == (Aa3 (pfx M leaves)).toList) = decide (P = pfx M leaves) := Aq1
   by_cases hAM : A = M
   ·have cAM : ((Aa3 A).toList == (Aa3 M).toList) = true := by rw [cAB, decide_eq_true hAM]
    by_cases hll : leaf = leaves
    ·have cPQ : ((Aa3 P).toList == (Aa3 (pfx M leaves)).toList) = true := by rw [cPQ0, decide_eq_true (hpM.2 ⟨hAM, hll⟩)]
     have cll : (leaf == leaves) = true := by rw [beq_iff_eq]; exact hll
     repeat' (simp (maxSteps := 4000000) (disch := omega) only [go_sem, ↓reduceIte, beq_self_eq_true, cPQ, cAM, cll])
     refine Ag2 A rfl Try.underlying22 Try.underlying5 Try.underlying9 rfl hAl (((hY3'.ext hB5).ext hB6).ext hB7) (fun hin11 => D4 1000 hin11 ?_)
     repeat' (simp (maxSteps := 4000000) (disch := omega) only [go_sem, ↓reduceIte, beq_self_eq_true, cPQ, cAM, cll])
     refine Ag2 M rfl Try.underlying22 Try.underlying5 Try.underlying9 rfl hMl (((hY4.ext hB5).ext hB6).ext hB7) (fun hin12 => D4 1000 hin12 ?_)
     repeat' (simp (maxSteps := 4000000) (disch := omega) only [go_sem, ↓reduceIte, beq_self_eq_true, cPQ, cAM, cll])
     refine G8 (U4 M q.length _ ad4 cap4 (((hY4.ext hB5).ext hB6).ext hB7) hMl (by omega)) (fun _ => by simp [closed]) (by kernel_rfl) (F9 (by kernel_rfl) (C3 (by kernel_rfl))) (fun hin8 s8 B8 hB8 hR8 => D4 1000 hin8 ?_)
     change BExt B7 B8 at hB8
     repeat' (simp (maxSteps := 4000000) (disch := omega) only [go_sem, ↓reduceIte, beq_self_eq_true, cPQ, cAM, cll])
     refine G8 (W9 M leaves q.length _ s8.1 s8.2 hR8.1 hMl hR8.2 (by omega)) (fun _ => by simp [closed]) (by kernel_rfl) (F9 (by kernel_rfl) (C3 (by kernel_rfl))) (fun hin9 s9 B9 hB9 hR9 => D4 1000 hin9 ?_)
     change BExt B8 B9 at hB9
     repeat' (simp (maxSteps := 4000000) (disch := omega) only [go_sem, ↓reduceIte, beq_self_eq_true, cPQ, cAM, cll])
     refine Ag2 (pfx M leaves) rfl Try.underlying22 Try.underlying5 Try.underlying9 rfl rfl hR9.1 (fun hin10 => D4 1000 hin10 ?_)
     repeat' (first | simp (maxSteps := 4000000) (disch := omega) only [go_sem, ↓reduceIte, beq_self_eq_true, cPQ, cAM, cll] | with_reducible refine E1 (by kernel_rfl) (C3 (by kernel_rfl)) (A3 1000 ?_))
     exact ⟨hAll.trans (hB8.trans hB9), (), trivial⟩
    ·have cPQ : ((Aa3 P).toList == (Aa3 (pfx M leaves)).toList) = false := by rw [cPQ0, decide_eq_false (fun h => hll (hpM.1 h).2)]
     have cll : (leaf == leaves) = false := by rw [beq_eq_false_iff_ne]; exact hll
     repeat' (simp (maxSteps := 4000000) (disch := omega) only [go_sem, ↓reduceIte, beq_self_eq_true, cPQ, cAM, cll])
     refine Ag2 A rfl Try.underlying22 Try.underlying5 Try.underlying9 rfl hAl (((hY3'.ext hB5).ext hB6).ext hB7) (fun hin11 => D4 1000 hin11 ?_)
     repeat' (simp (maxSteps := 4000000) (disch := omega) only [go_sem, ↓reduceIte, beq_self_eq_true, cPQ, cAM, cll])
     refine Ag2 M rfl Try.underlying22 Try.underlying5 Try.underlying9 rfl hMl (((hY4.ext hB5).ext hB6).ext hB7) (fun hin12 => D4 1000 hin12 ?_)
     repeat' (simp (maxSteps := 4000000) (disch := omega) only [go_sem, ↓reduceIte, beq_self_eq_true, cPQ, cAM, cll])
     refine G8 (U4 M q.length _ ad4 cap4 (((hY4.ext hB5).ext hB6).ext hB7) hMl (by omega)) (fun _ => by simp [closed]) (by kernel_rfl) (F9 (by kernel_rfl) (C3 (by kernel_rfl))) (fun hin8 s8 B8 hB8 hR8 => D4 1000 hin8 ?_)
     change BExt B7 B8 at hB8
     repeat' (simp (maxSteps := 4000000) (disch := omega) only [go_sem, ↓reduceIte, beq_self_eq_true, cPQ, cAM, cll])
     refine G8 (W9 M leaves q.length _ s8.1 s8.2 hR8.1 hMl hR8.2 (by omega)) (fun _ => by simp [closed]) (by kernel_rfl) (F9 (by kernel_rfl) (C3 (by kernel_rfl))) (fun hin9 s9 B9 hB9 hR9 => D4 1000 hin9 ?_)
     change BExt B8 B9 at hB9
     repeat' (simp (maxSteps := 4000000) (disch := omega) only [go_sem, ↓reduceIte, beq_self_eq_true, cPQ, cAM, cll])
     refine Ag2 (pfx M leaves) rfl Try.underlying22 Try.underlying5 Try.underlying9 rfl rfl hR9.1 (fun hin10 => D4 1000 hin10 ?_)
     repeat' (first | simp (maxSteps := 4000000) (disch := omega) only [go_sem, ↓reduceIte, beq_self_eq_true, cPQ, cAM, cll] | with_reducible refine E1 (by kernel_rfl) (C3 (by kernel_rfl)) (A3 1000 ?_))
     exact ⟨hAll.trans (hB8.trans hB9), (), trivial⟩
   ·have cAM : ((Aa3 A).toList == (Aa3 M).toList) = false := by rw [cAB, decide_eq_false hAM]
    have cPQ : ((Aa3 P).toList == (Aa3 (pfx M leaves)).toList) = false := by rw [cPQ0, decide_eq_false (fun h => hAM (hpM.1 h).1)]
    repeat' (simp (maxSteps := 4000000) (disch := omega) only [go_sem, ↓reduceIte, beq_self_eq_true, cPQ, cAM])
    refine Ag2 A rfl Try.underlying22 Try.underlying5 Try.underlying9 rfl hAl (((hY3'.ext hB5).ext hB6).ext hB7) (fun hin11 => D4 1000 hin11 ?_)
    repeat' (simp (maxSteps := 4000000) (disch := omega) only [go_sem, ↓reduceIte, beq_self_eq_true, cPQ, cAM])
    refine Ag2 M rfl Try.underlying22 Try.underlying5 Try.underlying9 rfl hMl (((hY4.ext hB5).ext hB6).ext hB7) (fun hin12 => D4 1000 hin12 ?_)
    repeat' (simp (maxSteps := 4000000) (disch := omega) only [go_sem, ↓reduceIte, beq_self_eq_true, cPQ, cAM])
    refine G8 (U4 M q.length _ ad4 cap4 (((hY4.ext hB5).ext hB6).ext hB7) hMl (by omega)) (fun _ => by simp [closed]) (by kernel_rfl) (F9 (by kernel_rfl) (C3 (by kernel_rfl))) (fun hin8 s8 B8 hB8 hR8 => D4 1000 hin8 ?_)
    change BExt B7 B8 at hB8
    repeat' (simp (maxSteps := 4000000) (disch := omega) only [go_sem, ↓reduceIte, beq_self_eq_true, cPQ, cAM])
    refine G8 (W9 M leaves q.length _ s8.1 s8.2 hR8.1 hMl hR8.2 (by omega)) (fun _ => by simp [closed]) (by kernel_rfl) (F9 (by kernel_rfl) (C3 (by kernel_rfl))) (fun hin9 s9 B9 hB9 hR9 => D4 1000 hin9 ?_)
    change BExt B8 B9 at hB9
    repeat' (simp (maxSteps := 4000000) (disch := omega) only [go_sem, ↓reduceIte, beq_self_eq_true, cPQ, cAM])
    refine Ag2 (pfx M leaves) rfl Try.underlying22 Try.underlying5 Try.underlying9 rfl rfl hR9.1 (fun hin10 => D4 1000 hin10 ?_)
    repeat' (first | simp (maxSteps := 4000000) (disch := omega) only [go_sem, ↓reduceIte, beq_self_eq_true, cPQ, cAM] | with_reducible refine E1 (by kernel_rfl) (C3 (by kernel_rfl)) (A3 1000 ?_))
    exact ⟨hAll.trans (hB8.trans hB9), (), trivial⟩
end Go.Proofs.Ytncjbfkkgdepoaa
namespace Go.Proofs.Ytncjbfkkgdepoaa
open Go Go.Ew Go.ChangeShapes Go.WideShapes Go.ChangeAt Go.RowKit
theorem own : ownKnob Try.prog.godebug = none := by kernel_rfl
theorem Ar3 : laidOutB Try.prog = true := by kernel_rfl
theorem Cv1 {n : Int} (h : (Lit.int .u8 n).wf = true) : 0 ≤ n ∧ n < 256 := by
 simp [Lit.wf, IntKind.min, IntKind.max, IntKind.signed, IntKind.bits] at h; omega
theorem Bm6 {w : World} {a : Addr} {v : Value} (h : w.cell? a = some v) : a.block < w.heap.size := by
 unfold World.cell? at h
 split at h
 ·rename_i h1
  exact (Array.getElem?_eq_some_iff.1 h1).1
 ·cases h
theorem Cd1 {W : World} {a : Addr} {m : Nat} (h : ∀ j, j < m → ∃ z : Int, W.cell? (a.add j) = some (.int .u8 z) ∧ 0 ≤ z ∧ z < 256) : ∃ l : List UInt8, l.length = m ∧ BytesAt (base W) (some a) l := by
 refine ⟨(List.range m).map fun j => match W.cell? (a.add j) with
  | some (.int _ z) => UInt8.ofNat z.toNat
  | _ => 0, by simp, fun b hb h0 => ?_, fun _ => rfl, fun j hj => ?_⟩
 ·cases hb
  simp only [List.length_map, List.length_range] at h0
  obtain ⟨z, hz, _⟩ := h 0 h0
  have := Bm6 hz
  rwa [K6] at this
 ·simp only [List.length_map, List.length_range] at hj
  obtain ⟨z, hz, h1, h2⟩ := h j hj
  rw [E8]
  show W.cell? (a.add j) = _
  rw [hz]
  simp only [List.getElem?_map, List.getElem?_range hj, Option.map_some, hz, bV]
  rw [UInt8.toNat_ofNat_of_lt' (by simp; omega)]
  congr 2
  omega
section
variable {H : Type} {enc : TypeId × Value → H} {W : World} {fuel : Nat} {cs : List Value} {x : DataW H × List MemPlace}
end
end Go.Proofs.Ytncjbfkkgdepoaa
namespace Go.Proofs.Ytncjbfkkgdepoaa
open Go Go.Ew Go.ChangeShapes Go.WideShapes Go.ChangeAt Go.RowKit
section
variable {H : Type} {enc : TypeId × Value → H} {W : World} {fuel : Nat} {cs : List Value} {x : DataW H × List MemPlace}
end
/-- A law that always tells true, called from outside. -/
theorem Cc1 {f : FuncId} {args : List EV} {W : World} {R : Unit → Base → Prop} (h : Does Try.prog f args (base W) (fun _ : Unit => .bool true) R) : Calls Try.prog f (A8 (fun _ => 0) args).toArray W (Ret (.bool true) W) := by
 refine (h.run (base W) (BExt.refl _) (fun b hb => hb)).mono ?_
 rintro e w' ⟨s, bs, he, _, hs, _⟩
 exact ⟨he, ⟨hs.os, hs.tape, hs.output, hs.size, fun k hk => hs.same k ⟨hk, by simp⟩⟩⟩
/-- A slice that came in, opened. -/
theorem Cg6 {H : Type} {enc : TypeId × Value → H} {W : World} {r : Reach} {bs : Nat} {t e : TypeId} {v : Value} {d : DataW H} {p : List MemPlace} (ht : Try.prog.underlying t = some (.slice e)) (hval : Value.okWide Try.prog W r bs t v)
  (h : DataW.Trod enc Try.prog W 0 (fun _ => true) true t v d p) : ∃ ad n cap fuel, v = .slice ad n cap ∧ DataW.trod enc Try.prog W 0 (fun _ => true) true fuel t [.slice ad n cap] = some (d, p) := by
 obtain ⟨a, n, cap, rfl⟩ := okWide_slice ht hval
 obtain ⟨fuel, hf⟩ := h
 exact ⟨a, n, cap, fuel, rfl, by simpa [Value.cells] using hf⟩
end Go.Proofs.Ytncjbfkkgdepoaa
