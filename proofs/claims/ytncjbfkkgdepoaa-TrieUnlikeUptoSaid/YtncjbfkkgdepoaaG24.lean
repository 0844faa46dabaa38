/- Part of a proof over the seat Ytncjbfkkgdepoaa. -/
import Derived.Test.YtncjbfkkgdepoaaG23
import Derived.Test.YtncjbfkkgdepoaaG15
import Derived.Test.YtncjbfkkgdepoaaEng2
import Derived.Test.YtncjbfkkgdepoaaRows
import Derived.WalkKit
import Derived.ProofKit
import Derived.OpenShut
import Derived.Below
import Derived.JoinedCond
import Derived.ChangeSlices
import Derived.SizedLaws
set_option linter.unusedSimpArgs false
set_option linter.unusedVariables false
set_option maxRecDepth 100000
namespace Go.Proofs.Ytncjbfkkgdepoaa
open Go RowKit Go.Ew
set_option maxHeartbeats 16000000
theorem in5 : D0 Try.f5.ntmps (Try.f5.body.getD .skip) = true := by kernel_rfl
theorem Cb3 (L : List KV) (hE : rtE L = 0) : rtN L L.length = Z3 200 (rtM L L.length) ∧ (rtM L L.length = [] ∨ MOk 200 (Ar9 (rtM L L.length)) 0) ∧ (∀ p ∈ rtM L L.length, p.1.length ≤ 64 ∧ p.2.length ≤ 1048576) := by
 have hbad : L.any Bt3 = false := by
  by_cases h : L.any Bt3 = true
  ·rw [rtE, if_pos h] at hE; cases hE
  ·simpa using h
 have hdup : Dc4 L = false := by
  by_cases h : Dc4 L = true
  ·rw [rtE, hbad, h] at hE; cases hE
  ·simpa using h
 have hd : ∀ j, j < L.length → As7 L j = false := fun j hj => by
  have := List.any_eq_false.1 hdup j (List.mem_range.2 hj)
  simpa using this
 have ha := Ay3 L hbad L.length (Nat.le_refl _) hd
 have hk := Cb4 L hbad L.length (Nat.le_refl _)
 obtain ⟨h1, h2⟩ := By9 ha (fun p hp => (hk p hp).1)
 exact ⟨h1, h2, hk⟩
theorem Bx1 (B : Base) (ps qs : List Pr) (n m : Nat) (ad bd : Option Addr) (cap dap : Nat) (h : PrsAt B ad ps) (h2 : PrsAt B bd qs) (hn : ps.length = n) (hm : qs.length = m) (hN : n ≤ 1048576) (hM : m ≤ 1048576) :
  Does Try.prog 5 [.raw (.slice ad n cap), .raw (.slice bd m dap)] B (fun _ : Unit => .bool true) (fun _ _ => True) := by
 subst hn hm
 refine K2 en5 (fun s B B' hB hR => hR) Try.func5 rfl in5 (by simp [Try.f5]) (by simp [A0, closed]) (fun B0 hB0 => A2 1000 ?_)
 replace h := h.ext hB0
 replace h2 := h2.ext hB0
 have hcl : ∀ p n, A0 n (D5 .u8 (J1 p) 32) := fun p n => A3 _ _ _ _
 have hsp : ∀ p, H5 (D5 .u8 (fun _ => 0) 32) 0 (D5 .u8 (J1 p) 32) = D5 .u8 (J1 p) 32 := fun p => by rw [← O9]; exact N8 (K5 _) (by omega) _
 have hz32 : ∀ n, A0 n (D5 .u8 (fun _ => 0) 32) := fun n => A3 _ _ _ _
 have hH : ∀ L, ∃ p, rtH L = D5 .u8 p 32 := fun L => by
  unfold rtH; split
  ·exact ⟨_, rfl⟩
  ·exact ⟨_, rfl⟩
 obtain ⟨L, hL⟩ : ∃ L, L = ps.map Pr.kv := ⟨_, rfl⟩
 obtain ⟨M, hM0⟩ : ∃ M, M = qs.map Pr.kv := ⟨_, rfl⟩
 have hLl : L.length = ps.length := by rw [hL, List.length_map]
 have hMl : M.length = qs.length := by rw [hM0, List.length_map]
 have hHc : ∀ L n, A0 n (rtH L) := fun L n => by obtain ⟨p, hp⟩ := hH L; rw [hp]; exact A3 _ _ _ _
 have hHs : ∀ L, H5 (D5 .u8 (fun _ => 0) 32) 0 (rtH L) = rtH L := fun L => by
  unfold rtH; split
  ·exact hsp _
  ·rfl
 have hHl : ∀ L, (rtH L).length = 32 := fun L => by obtain ⟨p, hp⟩ := hH L; rw [hp]; exact U2 _ _ _
 have hHo : ∀ L, (rtH L).all (EV.isInt .u8) = true := fun L => by obtain ⟨p, hp⟩ := hH L; rw [hp]; simp [D5, EV.isInt]
 have hHp : ∀ L, G2 (rtH L) = true := fun L => by obtain ⟨p, hp⟩ := hH L; rw [hp]; exact Ad4 _ _ _
 have t1 := Ax5 B0 ps ps.length ad cap h rfl
 rw [← hL] at t1
 repeat' (first | simp (maxSteps := 4000000) (disch := omega) only [go_sem, ↓reduceIte, Try.f5] | refine G8 (By6 B0) (by simp [closed, A0, A3, C6]) (A2 1000 ?_))
 refine F8 t1 (fun _ => by simp [closed, A0, hHc]) (fun _ B1 hB1 _ => A2 1000 ?_)
 change BExt B0 B1 at hB1
 have t2 := Ax5 B1 qs qs.length bd dap (h2.ext hB1) rfl
 rw [← hM0] at t2
 repeat' (simp (maxSteps := 4000000) (disch := omega) only [go_sem, ↓reduceIte, hHs, hHl, hHo, hHp])
 refine F8 t2 (fun _ => by simp [closed, A0, hHc]) (fun _ B2 hB2 _ => A2 1000 ?_)
 change BExt B1 B2 at hB2
 by_cases e1 : rtE L = 0
 ·by_cases e2 : rtE M = 0
  ·obtain ⟨r1, r2, r3⟩ := Cb3 L e1
   obtain ⟨s1, s2, s3⟩ := Cb3 M e2
   have hH1 : rtH L = D5 .u8 (J1 (rtB L)) 32 := by rw [rtH, if_pos e1]
   have hH2 : rtH M = D5 .u8 (J1 (rtB M)) 32 := by rw [rtH, if_pos e2]
   rw [e1, e2, hH1, hH2]
   repeat' (simp (maxSteps := 4000000) (disch := omega) only [go_sem, ↓reduceIte, hsp])
   refine H2 (S := Nat × Option Addr × Nat × List Pr × Base) (fun s => s.1 ≤ ps.length ∧ PrsAt s.2.2.2.2 s.2.1 s.2.2.2.1 ∧ s.2.2.2.1.length ≤ s.2.2.1 ∧ s.2.2.2.1.map Pr.kv = rtM L s.1 ∧ BExt B2 s.2.2.2.2)
    (fun s => ⟨[(11, .int .i64 (s.1 : Nat)), (10, .raw (.slice none 0 0)), (9, .raw (.slice s.2.1 s.2.2.2.1.length s.2.2.1)), (7, .ptr 1 0), (5, .ptr 0 0), (1, .raw (.slice bd qs.length dap)), (0, .raw (.slice ad ps.length cap))], 2, [(1, some (.cells (D5 .u8 (J1 (rtB M)) 32) 45 (0, 0))), (0, some (.cells (D5 .u8 (J1 (rtB L)) 32) 45 (0, 0)))], s.2.2.2.2, []⟩)
    (fun s => ps.length - s.1) (0, none, 0, [], B2) ⟨Nat.zero_le _, ⟨T3 _ _, fun q hq => by simp at hq, by simp⟩, by simp, rfl, BExt.refl _⟩ (Weak.sub (A6 (by simp [wσ, go_sem, closed, A0, A4, hcl] <;> omega) (by simp [whs, Go.Ew.hget, go_sem, EObj.closed, closed, A0, A4, hcl]) (by first | (simp [*]; done) | (simp only [cxG]; omega)) rfl rfl (by simp))) ?_
   rintro ⟨i, mA, mc, us, B3⟩ ⟨hi, hus, huc, hum, hB3⟩
   simp only at hi hus huc hum hB3 ⊢
   have hul : us.length ≤ i := by
    have := Bk4 L i
    rw [← hum, List.length_map] at this; exact this
   refine A2 1000 ?_
   rcases Nat.lt_or_ge i ps.length with hi2 | hi2
   ·have cA : decide ((i : Int) < (ps.length : Int)) = true := decide_eq_true (by omega)
    have hX := h.ext (hB1.trans (hB2.trans hB3))
    obtain ⟨l1, l2, l3, l4, l5, l6⟩ := hX.ld hi2
    have hok := hX.ok _ (List.getElem_mem hi2)
    have hLg : L.getD i ([], []) = (ps[i]).kv := by simp [List.getD, hL, hi2]
    have hbnd := Aw4 (l := L) (by
     by_cases hb : L.any Bt3 = true
     ·rw [rtE, if_pos hb] at e1; cases e1
     ·simpa using hb) (p := (ps[i]).kv) (by rw [hL]; exact List.mem_map_of_mem (List.getElem_mem hi2))
    have hnx : rtM L (i + 1) = An8 (rtM L i) (L.getD i ([], [])).1 (L.getD i ([], [])).2 := rfl
    rw [hLg] at hnx
    obtain ⟨q, hq⟩ : ∃ q, q = ps[i] := ⟨_, rfl⟩
    rw [← hq] at l1 l2 hok hnx hbnd
    simp only [Pr.kv] at hnx hbnd
    repeat' (first | with_reducible refine And.intro (by first | omega | (constructor <;> assumption) | (simp [*]; done)) ?_ | simp (maxSteps := 4000000) (disch := omega) only [go_sem, ↓reduceIte, cA, Int.toNat_natCast, l1, l2] | with_reducible refine C8 (id := 11) [0, 1, 2, 3, 4, 5, 6, 7, 8, 9, 10, 11, 12] mixed (by kernel_rfl) (by simp) (fun hin => D7 1000 hin ?_))
    refine J6 (Cb5 us us.length mA mc q.k.l q.v.l q.k.l.length q.v.l.length q.k.ad q.v.ad q.k.c q.v.c hus hok.1.b hok.2.b rfl huc rfl rfl (by omega) (by omega) (by omega)) (fun _ => by simp [closed]) (by kernel_rfl) (F6 (by kernel_rfl) (C4 (by kernel_rfl))) (fun hin2 s5 B5 hB5 hR5 => D7 1000 hin2 ?_)
    change BExt B3 B5 at hB5
    obtain ⟨h51, h52, h53⟩ := hR5
    repeat' (first | simp (maxSteps := 4000000) (disch := omega) only [go_sem, ↓reduceIte] | with_reducible refine E1 (by kernel_rfl) (C4 (by kernel_rfl)) (A2 1000 ?_))
    exact ⟨(i + 1, s5.1, s5.2.1, s5.2.2, B5), ⟨hi2, h51, h52, by rw [h53, hum, hnx], hB3.trans hB5⟩, Weak.sub (A6 (by simp [wσ, go_sem, closed, A0, A4, hcl] <;> omega) (by simp [whs, Go.Ew.hget, go_sem, EObj.closed, closed, A0, A4, hcl]) (by first | (simp [*]; done) | (simp only [cxG]; omega)) rfl rfl (by simp)), by simp only; omega⟩
   ·obtain rfl : i = ps.length := by omega
    have cA : decide ((ps.length : Int) < (ps.length : Int)) = false := decide_eq_false (by omega)
    repeat' (first | simp (maxSteps := 4000000) (disch := omega) only [go_sem, ↓reduceIte, cA] | with_reducible refine A2 1000 ?_)
    refine H2 (S := Nat × Option Addr × Nat × List Pr × Base) (fun s => s.1 ≤ qs.length ∧ PrsAt s.2.2.2.2 s.2.1 s.2.2.2.1 ∧ s.2.2.2.1.length ≤ s.2.2.1 ∧ s.2.2.2.1.map Pr.kv = rtM M s.1 ∧ BExt B3 s.2.2.2.2)
     (fun s => ⟨[(12, .int .i64 (s.1 : Nat)), (10, .raw (.slice s.2.1 s.2.2.2.1.length s.2.2.1)), (9, .raw (.slice mA us.length mc)), (7, .ptr 1 0), (5, .ptr 0 0), (1, .raw (.slice bd qs.length dap)), (0, .raw (.slice ad ps.length cap))], 2, [(1, some (.cells (D5 .u8 (J1 (rtB M)) 32) 45 (0, 0))), (0, some (.cells (D5 .u8 (J1 (rtB L)) 32) 45 (0, 0)))], s.2.2.2.2, []⟩)
     (fun s => qs.length - s.1) (0, none, 0, [], B3) ⟨Nat.zero_le _, ⟨T3 _ _, fun q hq => by simp at hq, by simp⟩, by simp, rfl, BExt.refl _⟩ (Weak.sub (A6 (by simp [wσ, go_sem, closed, A0, A4, hcl] <;> omega) (by simp [whs, Go.Ew.hget, go_sem, EObj.closed, closed, A0, A4, hcl]) (by first | (simp [*]; done) | (simp only [cxG]; omega)) rfl rfl (by simp))) ?_
    rintro ⟨k, mB, md, vs, B4⟩ ⟨hk, hvs, hvc, hvm, hB4⟩
    simp only at hk hvs hvc hvm hB4 ⊢
    have hvl : vs.length ≤ k := by
     have := Bk4 M k
     rw [← hvm, List.length_map] at this; exact this
    refine A2 1000 ?_
    rcases Nat.lt_or_ge k qs.length with hi2 | hi2
    ·have cA : decide ((k : Int) < (qs.length : Int)) = true := decide_eq_true (by omega)
     have hX := h2.ext (hB1.trans (hB2.trans (hB3.trans hB4)))
     obtain ⟨l1, l2, l3, l4, l5, l6⟩ := hX.ld hi2
     have hok := hX.ok _ (List.getElem_mem hi2)
     have hLg : M.getD k ([], []) = (qs[k]).kv := by simp [List.getD, hM0, hi2]
     have hbnd := Aw4 (l := M) (by
      by_cases hb : M.any Bt3 = true
      ·rw [rtE, if_pos hb] at e2; cases e2
      ·simpa using hb) (p := (qs[k]).kv) (by rw [hM0]; exact List.mem_map_of_mem (List.getElem_mem hi2))
     have hnx : rtM  M (k + 1) = An8 (rtM  M k) (M.getD k ([], [])).1 (M.getD k ([], [])).2 := rfl
     rw [hLg] at hnx
     obtain ⟨q, hq⟩ : ∃ q, q = qs[k] := ⟨_, rfl⟩
     rw [← hq] at l1 l2 hok hnx hbnd
     simp only [Pr.kv] at hnx hbnd
     repeat' (first | with_reducible refine And.intro (by first | omega | (constructor <;> assumption) | (simp [*]; done)) ?_ | simp (maxSteps := 4000000) (disch := omega) only [go_sem, ↓reduceIte, cA, Int.toNat_natCast, l1, l2] | with_reducible refine C8 (id := 15) [0, 1, 2, 3, 4, 5, 6, 7, 8, 9, 10, 11, 12] mixed (by kernel_rfl) (by simp) (fun hin => D7 1000 hin ?_))
     refine J6 (Cb5 vs vs.length mB md q.k.l q.v.l q.k.l.length q.v.l.length q.k.ad q.v.ad q.k.c q.v.c hvs hok.1.b hok.2.b rfl hvc rfl rfl (by omega) (by omega) (by omega)) (fun _ => by simp [closed]) (by kernel_rfl) (F6 (by kernel_rfl) (C4 (by kernel_rfl))) (fun hin2 s5 B5 hB5 hR5 => D7 1000 hin2 ?_)
     change BExt B4 B5 at hB5
     obtain ⟨h51, h52, h53⟩ := hR5
     repeat' (first | simp (maxSteps := 4000000) (disch := omega) only [go_sem, ↓reduceIte] | with_reducible refine E1 (by kernel_rfl) (C4 (by kernel_rfl)) (A2 1000 ?_))
     exact ⟨(k + 1, s5.1, s5.2.1, s5.2.2, B5), ⟨hi2, h51, h52, by rw [h53, hvm, hnx], hB4.trans hB5⟩, Weak.sub (A6 (by simp [wσ, go_sem, closed, A0, A4, hcl] <;> omega) (by simp [whs, Go.Ew.hget, go_sem, EObj.closed, closed, A0, A4, hcl]) (by first | (simp [*]; done) | (simp only [cxG]; omega)) rfl rfl (by simp)), by simp only; omega⟩
    ·obtain rfl : k = qs.length := by omega
     have cA : decide ((qs.length : Int) < (qs.length : Int)) = false := decide_eq_false (by omega)
     repeat' (first | simp (maxSteps := 4000000) (disch := omega) only [go_sem, ↓reduceIte, cA] | with_reducible refine A2 1000 ?_)
     have hus2 : us.map Pr.kv = rtM L L.length := by rw [hLl]; exact hum
     have hvs2 : vs.map Pr.kv = rtM M M.length := by rw [hMl]; exact hvm
     have hul2 : us.length ≤ 1048576 := by omega
     have hvl2 : vs.length ≤ 1048576 := by omega
     have f1 := Bt0 200 us us.length mA mc (hus.ext hB4) rfl (by
      rcases r2 with h0 | h0
      ·left; rw [h0] at hus2; exact List.map_eq_nil_iff.1 hus2
      ·right; rw [hus2]; exact h0) (fun p hp => by rw [hus2] at hp; have := r3 p hp; omega) (by omega)
     rw [hus2, ← r1] at f1
     skip
     refine F8 f1 (fun _ => by simp [closed, A0, hcl]) (fun s6 B6 hB6 hR6 => A2 1000 ?_)
     change BExt B4 B6 at hB6
     have f2 := Bt0 200 vs vs.length mB md (hvs.ext hB6) rfl (by
      rcases s2 with h0 | h0
      ·left; rw [h0] at hvs2; exact List.map_eq_nil_iff.1 hvs2
      ·right; rw [hvs2]; exact h0) (fun p hp => by rw [hvs2] at hp; have := s3 p hp; omega) (by omega)
     rw [hvs2, ← s1] at f2
     repeat' (simp (maxSteps := 4000000) (disch := omega) only [go_sem, ↓reduceIte, hsp])
     refine F8 f2 (fun _ => by simp [closed, A0, hcl]) (fun s7 B7 hB7 hR7 => A2 1000 ?_)
     change BExt B6 B7 at hB7
     have g1 : H6 (D6 (rtN L L.length)) = rtB L := rfl
     have g2 : H6 (D6 (rtN M M.length)) = rtB M := rfl
     have hiI : ∀ p, (D5 .u8 (J1 p) 32).all (EV.isInt .u8) = true := fun p => by simp [D5, EV.isInt]
     rw [g1, g2]
     repeat' (first | simp (maxSteps := 4000000) (disch := omega) only [go_sem, ↓reduceIte, hsp, hiI] | with_reducible refine C8 (id := 18) [0, 1, 2, 3, 4, 5, 6, 7] mixed (by kernel_rfl) (by simp) (fun hin => D7 1000 hin ?_) | with_reducible refine E1 (by kernel_rfl) (C4 (by kernel_rfl)) (A2 1000 ?_))
     have hAll : BExt B0 B7 := hB1.trans (hB2.trans (hB3.trans (hB4.trans (hB6.trans hB7))))
     first | exact ⟨hAll, (), rfl, by simp [closed], trivial⟩ | exact ⟨(), by simp [closed]⟩ | exact ⟨hAll, (), by simp [closed]⟩
  ·have hE2 : (((rtE M : Nat) : Int) == 0) = false := by rw [beq_eq_false_iff_ne]; omega
   rw [e1]
   repeat' (first | simp (maxSteps := 4000000) (disch := omega) only [go_sem, ↓reduceIte, hHs, hHl, hHo, hHp, hE2] | ((first | refine A9 (fun h => ?_) (fun h => ?_) | refine F2 (fun h => ?_) (fun h => ?_) | refine G0 (fun h => ?_) (fun h => ?_)) <;> (try simp only [bne_iff_ne, ne_eq, beq_iff_eq, decide_eq_true_eq, decide_eq_false_iff_not, Bool.not_eq_true, Bool.not_eq_false, Bool.not_true, Bool.not_false, bne_eq_false_iff_eq, beq_eq_false_iff_ne, Bool.and_eq_true, Bool.or_eq_true, Bool.and_eq_false_imp, Bool.or_eq_false_iff, Bool.not_eq_true', Bool.not_eq_false', Int.not_lt, Int.not_le] at h) <;> (try (exfalso; omega))))
   first | exact ⟨hB1.trans hB2, (), rfl, by simp [closed], trivial⟩ | exact ⟨(), by simp [closed]⟩ | exact ⟨hB1.trans hB2, (), by simp [closed]⟩
 ·have hE1 : (((rtE L : Nat) : Int) == 0) = false := by rw [beq_eq_false_iff_ne]; omega
  repeat' (first | simp (maxSteps := 4000000) (disch := omega) only [go_sem, ↓reduceIte, hHs, hHl, hHo, hHp, hE1] | ((first | refine A9 (fun h => ?_) (fun h => ?_) | refine F2 (fun h => ?_) (fun h => ?_) | refine G0 (fun h => ?_) (fun h => ?_)) <;> (try simp only [bne_iff_ne, ne_eq, beq_iff_eq, decide_eq_true_eq, decide_eq_false_iff_not, Bool.not_eq_true, Bool.not_eq_false, Bool.not_true, Bool.not_false, bne_eq_false_iff_eq, beq_eq_false_iff_ne, Bool.and_eq_true, Bool.or_eq_true, Bool.and_eq_false_imp, Bool.or_eq_false_iff, Bool.not_eq_true', Bool.not_eq_false', Int.not_lt, Int.not_le] at h) <;> (try (exfalso; omega))))
  first | exact ⟨hB1.trans hB2, (), rfl, by simp [closed], trivial⟩ | exact ⟨(), by simp [closed]⟩ | exact ⟨hB1.trans hB2, (), by simp [closed]⟩
end Go.Proofs.Ytncjbfkkgdepoaa
namespace Go.Proofs.Ytncjbfkkgdepoaa
open Go Go.Ew Go.ChangeShapes Go.WideShapes Go.ChangeAt Go.RowKit
theorem own : ownKnob Try.prog.godebug = none := by kernel_rfl
theorem Cf8 : laidOutB Try.prog = true := by kernel_rfl
theorem Dn1 {n : Int} (h : (Lit.int .u8 n).wf = true) : 0 ≤ n ∧ n < 256 := by
 simp [Lit.wf, IntKind.min, IntKind.max, IntKind.signed, IntKind.bits] at h; omega
theorem Ct9 {H : Type} (d : DataW H) : 1 ≤ Rows.uptoBulk d := by
 cases d with
 | lit l => cases l <;> simp [Rows.uptoBulk]
 | _ => simp [Rows.uptoBulk]
theorem Bb3 {H : Type} {d : DataW H} : ∀ {l : List (DataW H)}, d ∈ l → Rows.uptoBulk d ≤ Rows.uptoBulkAll l
 | x :: r, h => by
  simp only [Rows.uptoBulkAll]
  rcases List.mem_cons.1 h with rfl | h
  ·omega
  ·have := Bb3 h; omega
theorem Bb4 {H : Type} : ∀ (l : List (DataW H)), l.length ≤ Rows.uptoBulkAll l
 | [] => by simp [Rows.uptoBulkAll]
 | x :: r => by have := Ct9 x; have := Bb4 r; simp only [Rows.uptoBulkAll, List.length_cons]; omega
theorem By5 {H : Type} {l : List (DataW H)} (hk : Rows.uptoSmall H l = true) : Rows.uptoBulkAll l ≤ 1048576 := of_decide_eq_true hk
theorem Aw1 {w : World} {a : Addr} {v : Value} (h : w.cell? a = some v) : a.block < w.heap.size := by
 unfold World.cell? at h
 split at h
 ·rename_i h1
  exact (Array.getElem?_eq_some_iff.1 h1).1
 ·cases h
theorem Ct7 {W : World} {a : Addr} {m : Nat} (h : ∀ j, j < m → ∃ z : Int, W.cell? (a.add j) = some (.int .u8 z) ∧ 0 ≤ z ∧ z < 256) : ∃ l : List UInt8, l.length = m ∧ BytesAt (base W) (some a) l := by
 refine ⟨(List.range m).map fun j => match W.cell? (a.add j) with
  | some (.int _ z) => UInt8.ofNat z.toNat
  | _ => 0, by simp, fun b hb h0 => ?_, fun _ => rfl, fun j hj => ?_⟩
 ·cases hb
  simp only [List.length_map, List.length_range] at h0
  obtain ⟨z, hz, _⟩ := h 0 h0
  have := Aw1 hz
  rwa [K4] at this
 ·simp only [List.length_map, List.length_range] at hj
  obtain ⟨z, hz, h1, h2⟩ := h j hj
  rw [F4]
  show W.cell? (a.add j) = _
  rw [hz]
  simp only [List.getElem?_map, List.getElem?_range hj, Option.map_some, hz, bV]
  rw [UInt8.toNat_ofNat_of_lt' (by simp; omega)]
  congr 2
  omega
section
variable {H : Type} {enc : TypeId × Value → H} {W : World} {fuel : Nat} {cs : List Value} {x : DataW H × List MemPlace}
theorem Cf3 {α : Type} {P : Nat → α → Prop} : ∀ (n : Nat), (∀ i, i < n → ∃ a, P i a) → ∃ l : List α, l.length = n ∧ ∀ i (hi : i < l.length), P i l[i]
 | 0, _ => ⟨[], rfl, fun i hi => by simp at hi⟩
 | n + 1, h => by
  obtain ⟨l, h1, h2⟩ := Cf3 n (fun i hi => h i (by omega))
  obtain ⟨a, ha⟩ := h n (by omega)
  refine ⟨l ++ [a], by simp [h1], fun i hi => ?_⟩
  rcases Nat.lt_or_ge i l.length with h3 | h3
  ·rw [List.getElem_append_left h3]; exact h2 i h3
  ·simp only [List.length_append, List.length_singleton] at hi
   obtain rfl : i = l.length := by omega
   rw [List.getElem_append_right (by omega)]
   simp only [Nat.sub_self, List.getElem_cons_zero]
   rw [h1]; exact ha
end
end Go.Proofs.Ytncjbfkkgdepoaa
namespace Go.Proofs.Ytncjbfkkgdepoaa
open Go Go.Ew Go.ChangeShapes Go.WideShapes Go.ChangeAt Go.RowKit
section
variable {H : Type} {enc : TypeId × Value → H} {W : World} {fuel : Nat} {cs : List Value} {x : DataW H × List MemPlace}
theorem Di7 (h : DataW.trod enc Try.prog W 0 (fun _ => true) true fuel 22 cs = some x) : ∃ q : Bs, cs = [q.v] ∧ BytesAt (base W) q.ad q.l ∧ q.l.length ≤ q.c ∧ q.c ≤ maxLen ∧ q.l.length ≤ Rows.uptoBulk x.1 := by
 rcases DataW.trod_slice Try.underlying22 h with ⟨rfl, rfl⟩ | ⟨a, n, cap, elems, rest, m, _, rfl, rfl, _, hl, hm, hlen, hel, _, _⟩
 ·exact ⟨⟨[], none, 0⟩, rfl, BytesAt.nil _, Nat.le_refl _, Nat.zero_le _, by simp⟩
 ·have hz : ∀ j, j < n → ∃ z : Int, W.cell? (a.add j) = some (.int .u8 z) ∧ 0 ≤ z ∧ z < 256 := fun j hj => by
   have h1 := hel j hj
   rw [List.getElem?_eq_getElem (by omega), Option.bind_eq_some_iff] at h1
   obtain ⟨cs', hc, ht⟩ := h1
   rw [cz5] at hc
   obtain ⟨_, hcl, hce⟩ := World.cells?_some hc
   obtain ⟨z, h2, _, h3⟩ := DataW.trod_int Try.underlying5 ht
   have h4 := hce 0 (by omega)
   rw [Ae5, Nat.mul_one, Nat.add_zero, h2] at h4
   exact ⟨z, h4, Dn1 h3⟩
  obtain ⟨l, h1, h2⟩ := Ct7 hz
  have hb := Bb4 (elems.map (·.1))
  simp only [List.length_map] at hb
  refine ⟨⟨l, some a, cap⟩, by simp [Bs.v, h1], h2, by simp only; omega, hm, ?_⟩
  simp only [Rows.uptoBulk]; omega
theorem Do3 (h : DataW.trod enc Try.prog W 0 (fun _ => true) true fuel 35 cs = some x) (hb : Rows.uptoBulk x.1 ≤ 1048576) : ∃ p : Pr, cs = p.cells ∧ p.k.Ok (base W) ∧ p.v.Ok (base W) := by
 obtain ⟨xs, n, rfl, rfl, hl, hxl, hf⟩ := DataW.trod_struct Try.underlying35 h
 rw [Dl5] at hl
 have hx5 : xs.length = 2 := hxl
 obtain ⟨x0, x1, rfl⟩ : ∃ a b, xs = [a, b] := by
  match xs, hx5 with
  | [a, b], _ => exact ⟨a, b, rfl⟩
 have f0 := hf 0 _ rfl
 have f1 := hf 1 _ rfl
 change DataW.trod _ _ _ _ _ _ _ 22 ((cs.drop 0).take (Try.prog.cellsOf 22)) = some x0 at f0
 change DataW.trod _ _ _ _ _ _ _ 22 ((cs.drop 1).take (Try.prog.cellsOf 22)) = some x1 at f1
 rw [Dt0] at f0 f1
 simp only [Rows.uptoBulk, List.map_cons, List.map_nil, Rows.uptoBulkAll] at hb
 obtain ⟨q0, e0, a0, b0, c0, d0⟩ := Di7 f0
 obtain ⟨q1, e1, a1, b1, c1, d1⟩ := Di7 f1
 refine ⟨⟨q0, q1⟩, ?_, ⟨a0, b0, by simp only; omega⟩, ⟨a1, b1, by simp only; omega⟩⟩
 have hcs : cs = (cs.drop 0).take 1 ++ (cs.drop 1).take 1 := by
  have a1 : (cs.drop 1).take 1 = cs.drop 1 := List.take_of_length_le (by simp; omega)
  rw [a1, List.drop_zero, List.take_append_drop]
 rw [hcs, e0, e1]; rfl
theorem Cx0 (h : DataW.trod enc Try.prog W 0 (fun _ => true) true fuel 32 cs = some x) (hb : Rows.uptoBulk x.1 ≤ 1048576) :
  ∃ (ad : Option Addr) (cap : Nat) (L : List Pr), cs = [.slice ad L.length cap] ∧ PrsAt (base W) ad L ∧ L.length ≤ 1048576 ∧ L.length ≤ cap ∧ cap ≤ maxLen := by
 rcases DataW.trod_slice Try.underlying32 h with ⟨rfl, rfl⟩ | ⟨a, n, cap, elems, rest, m, _, rfl, rfl, _, hl, hm, hlen, hel, _, _⟩
 ·exact ⟨none, 0, [], rfl, ⟨CellsAt.nil _, by simp, by simp⟩, by simp, by simp, by simp⟩
 ·have hbl := Bb4 (elems.map (·.1))
  simp only [List.length_map] at hbl
  simp only [Rows.uptoBulk] at hb
  obtain ⟨L, hL, hP⟩ := Cf3 (P := fun i (g : Pr) => W.cells? 0 (a.add (i * 2)) 2 = some g.cells ∧ g.k.Ok (base W) ∧ g.v.Ok (base W)) n (fun i hi => by
   have h1 := hel i hi
   rw [List.getElem?_eq_getElem (by omega), Option.bind_eq_some_iff] at h1
   obtain ⟨cs', hc, ht⟩ := h1
   rw [Dl5] at hc
   have hm := Bb3 (d := (elems[i]'(by omega)).1) (l := elems.map (·.1)) (List.mem_map_of_mem (List.getElem_mem _))
   obtain ⟨g, rfl, hg⟩ := Do3 ht (by omega)
   exact ⟨g, hc, hg⟩)
  have hok : ∀ g ∈ L, g.k.Ok (base W) ∧ g.v.Ok (base W) := fun g hg => by
   obtain ⟨i, hi, rfl⟩ := List.getElem_of_mem hg
   exact (hP i hi).2
  have hfl : (L.flatMap Pr.cells).length = 2 * L.length := N1 (k := 2) (fun g hg => rfl)
  have hcell : ∀ j, j < (L.flatMap Pr.cells).length → W.cell? (a.add j) = (L.flatMap Pr.cells)[j]? := fun j hj => by
   rw [hfl] at hj
   have hi : j / 2 < L.length := by omega
   obtain ⟨_, _, hce⟩ := World.cells?_some (hP _ hi).1
   have h2 := hce (j % 2) (by omega)
   rw [Ae5, show j / 2 * 2 + j % 2 = j by omega] at h2
   have h3 := Al9 (f := Pr.cells) (k := 2) (l := L) (fun g hg => rfl) hi (j := j % 2) (by omega)
   rw [show j / 2 * 2 + j % 2 = j by omega] at h3
   rw [h2, h3]
  refine ⟨some a, cap, L, by rw [hL], ⟨⟨fun b hb2 h0 => ?_, fun _ => rfl, fun j hj => by rw [F4]; exact hcell j hj⟩, hok, by omega⟩, by omega, by omega, hm⟩
  cases hb2
  have := hcell 0 h0
  rw [List.getElem?_eq_getElem h0] at this
  have := Aw1 this
  rwa [K4] at this
end
/-- A law that always tells true, called from outside. -/
theorem Cs3 {f : FuncId} {args : List EV} {W : World} {R : Unit → Base → Prop} (h : Does Try.prog f args (base W) (fun _ : Unit => .bool true) R) : Calls Try.prog f (C2 (fun _ => 0) args).toArray W (Ret (.bool true) W) := by
 refine (h.run (base W) (BExt.refl _) (fun b hb => hb)).mono ?_
 rintro e w' ⟨s, bs, he, _, hs, _⟩
 exact ⟨he, ⟨hs.os, hs.tape, hs.output, hs.size, fun k hk => hs.same k ⟨hk, by simp⟩⟩⟩
/-- A slice that came in, opened. -/
theorem Cy0 {H : Type} {enc : TypeId × Value → H} {W : World} {r : Reach} {bs : Nat} {t e : TypeId} {v : Value} {d : DataW H} {p : List MemPlace} (ht : Try.prog.underlying t = some (.slice e)) (hval : Value.okWide Try.prog W r bs t v)
  (h : DataW.Trod enc Try.prog W 0 (fun _ => true) true t v d p) : ∃ ad n cap fuel, v = .slice ad n cap ∧ DataW.trod enc Try.prog W 0 (fun _ => true) true fuel t [.slice ad n cap] = some (d, p) := by
 obtain ⟨a, n, cap, rfl⟩ := okWide_slice ht hval
 obtain ⟨fuel, hf⟩ := h
 exact ⟨a, n, cap, fuel, rfl, by simpa [Value.cells] using hf⟩
end Go.Proofs.Ytncjbfkkgdepoaa
