/- Part of a proof over the seat YtepabkjfnpaijaaGreat. -/
import Derived.Test.YtepabkjfnpaijaaGreatG12
import Derived.Test.YtepabkjfnpaijaaGreatG11
import Derived.Test.YtepabkjfnpaijaaGreatSE
import Derived.Test.YtepabkjfnpaijaaGreatEng2
set_option linter.unusedSimpArgs false
set_option linter.unusedVariables false
set_option maxRecDepth 100000
namespace Go.Proofs.YtepabkjfnpaijaaGreat
open Go RowKit Go.Ew
set_option maxHeartbeats 8000000
theorem Ec2 : D5 Tryz.f11.ntmps (Tryz.f11.body.getD .skip) = true := by kernel_rfl
theorem Cy2 {r : RcV} (h : An7 r = true) : r.ok = 0 ∨ r.ok = 1 := by
 simp only [An7, Bool.and_eq_true, decide_eq_true_eq, Bool.or_eq_true, beq_iff_eq] at h
 exact h.2.1.2
theorem Cg9 {B : Base} {r : RcV} (h : LogsAt B r.lA r.L) (hm : An7 r = false) : Does Tryz.prog 11 [.agg (rcE r)] B (fun _ : Unit => .tup [.raw (.slice none 0 0), .int .i64 190]) (fun _ _ => True) := by
 refine I7 Ed1 (fun s B B' hB hR => hR) Tryz.func11 rfl Ec2 (by simp [Tryz.f11]) ⟨O9 0 r, trivial⟩ (fun B0 hB0 => A3 1000 ?_)
 have hmy := Bu5 (h.ext hB0)
 rw [hm] at hmy
 repeat' (first | simp (maxSteps := 4000000) (disch := omega) only [go_sem, ↓reduceIte, Tryz.f11, R0, Bu9, U5] | refine F5 (hmy) (by simp [closed, A0, A2, C6]) (A3 1000 ?_))
 first | exact ⟨BExt.refl _, (), rfl, by simp [closed, A0], trivial⟩ | exact ⟨(), rfl, by simp [closed, A0], trivial⟩ | exact ⟨BExt.refl _, (), by simp [closed, A0], trivial⟩ | exact ⟨(), by simp [closed, A0], trivial⟩ | exact ⟨BExt.refl _, (), by simp [closed, A0, E2]⟩ | exact ⟨(), by simp [closed, A0, E2]⟩
theorem Cw8 {B : Base} {r : RcV} (h : LogsAt B r.lA r.L) (hm : An7 r = true) (hgas : r.gas < 18446744073709551616) (hf : (H5 (Aw3 r)).length < 35184372088832) :
  Does Tryz.prog 11 [.agg (rcE r)] B (fun s : Option Addr × Nat => .tup [.raw (.slice s.1 (Ab6 r).length s.2), .int .i64 0]) (fun s B' => BytesAt B' s.1 (Ab6 r) ∧ (Ab6 r).length ≤ s.2) := by
 refine I7 Ed1 (fun s B B' hB hR => ⟨hR.1.ext hB, hR.2⟩) Tryz.func11 rfl Ec2 (by simp [Tryz.f11]) ⟨O9 0 r, trivial⟩ (fun B0 hB0 => A3 1000 ?_)
 replace h := h.ext hB0
 have hmy := Bu5 h
 rw [hm] at hmy
 have hrc : ∀ n, A0 n (rcE r) := fun n => O9 n r
 repeat' (first | with_reducible refine And.intro (by omega) ?_ | simp (maxSteps := 4000000) (disch := omega) only [go_sem, ↓reduceIte, Tryz.f11, R0, Dm7, Dm6, Dm5, Ah9, Bu9, U5] | refine F5 (hmy) (by simp [closed, A0, A2, C6]) (A3 1000 ?_))
 refine G8 (S := Nat × Lst × List (Itm × Plc) × Base) (fun s => s.1 ≤ r.L.length ∧ lOk z3 s.1 s.2.1 ∧ BExt B0 s.2.2.2 ∧ (∀ q ∈ s.2.2.1, ItAt s.2.2.2 q.1 q.2) ∧ s.2.2.1.map Prod.fst = (r.L.take s.1).map T4)
  (fun u => ⟨[(19, .int .i64 (u.1 : Nat)), (18, .int .i64 (r.L.length : Nat)), (17, .raw (.slice r.lA r.L.length r.lc)), (4, .ptr 1 0), (1, .ptr 0 0)], 3, [(2, lO 55 (u.2.2.1.flatMap itQ) u.2.1), (1, some (.cells [.int .i64 1, .raw (.slice none 0 0), lE 2 u.1 u.2.1] 55 (0, 0))), (0, some (.cells (rcE r) 29 (0, 0)))], u.2.2.2, []⟩)
  (fun u => r.L.length - u.1) (0, none, [], B0) ⟨Nat.zero_le _, rfl, BExt.refl _, by simp, rfl⟩ (Weak.sub (A5 (by simp [wσ, go_sem, closed, A0, A4, lE, lO, clO, hrc, EObj.closed] <;> omega) (by simp [whs, Go.Ew.hget, go_sem, EObj.closed, closed, A0, A4, lE, lO, clO, hrc, EObj.closed]) (by first | (simp [*]; done) | (simp only [cxG]; omega)) rfl rfl (by simp))) ?_
 rintro ⟨i, l, qs, B2⟩ ⟨hi, hl, hB2, hok, hbd⟩
 simp only at hi hl hB2 hok hbd ⊢
 replace h := h.ext hB2
 have hlen := h.len
 have hLl : qs.length = i := by have := congrArg List.length hbd; simp at this; omega
 rcases Nat.lt_or_ge i r.L.length with hi2 | hi2
 ·have cA : decide ((i : Int) < (r.L.length : Int)) = true := decide_eq_true (by omega)
  obtain ⟨l1, l2, l3, l4⟩ := h.ld hi2
  have h1 := h.ok _ (List.getElem_mem hi2)
  have htk : r.L.take (i + 1) = r.L.take i ++ [r.L[i]] := List.take_succ_eq_append_getElem hi2
  obtain ⟨g, hg⟩ : ∃ g, g = r.L[i] := ⟨_, rfl⟩
  rw [← hg] at l1 h1 htk
  have ht := h1.tb
  have f1 : F7 g.ev = true := Aa0 rfl rfl
  have f2 : ∀ u v, (T7 g.ad u v).length = 22 := fun u v => Q4 h1.ha
  have f3 : ∀ u v d, (T7 g.ad u v).getD 20 d = u := fun u v d => Af7 h1.ha
  have f4 : ∀ u v d, (T7 g.ad u v).getD 21 d = v := fun u v d => As6 h1.ha
  have f8 : ∀ u v, List.take 22 (T7 g.ad u v) = T7 g.ad u v := fun u v => Bj6 h1.ha
  have hgc : ∀ n, A0 n g.ev := fun n => Aa1 (by simp [closed]) (by simp [closed])
  have cn : ∀ n, clO n (none : Option EObj) = True := fun n => by simp [clO]
  have eN : ∀ r n, lE r n none = .raw (.slice none 0 0) := fun _ _ => rfl
  have oN : ∀ T xs, lO T xs none = none := fun _ _ => rfl
  have cl0 : ∀ n, clO n (lO 55 (qs.flatMap itQ) l) = True := fun n => G0 hl (A7 0 _) C0
  refine A3 1000 ?_
  repeat' (first | with_reducible refine And.intro (by first | omega | (constructor <;> assumption) | (simp [*]; done)) ?_ | simp (maxSteps := 4000000) (disch := omega) only [go_sem, ↓reduceIte, cA, Int.toNat_natCast, l1, f1, f2, f3, f4, f8, I4 h1.ha])
  refine G8 (S := Nat × Lst × List (Itm × Plc) × Base) (fun s => s.1 ≤ g.tn ∧ lOk z3 s.1 s.2.1 ∧ BExt B2 s.2.2.2 ∧ (∀ q ∈ s.2.2.1, ItAt s.2.2.2 q.1 q.2) ∧ s.2.2.1.map Prod.fst = (g.tops.take s.1).map txt)
   (fun u => ⟨[(27, .int .i64 (u.1 : Nat)), (26, .int .i64 (g.tn : Nat)), (25, .raw (.slice g.tA g.tn g.tc)), (7, .ptr 4 0), (6, .ptr 3 0), (19, .int .i64 (i : Nat)), (18, .int .i64 (r.L.length : Nat)), (17, .raw (.slice r.lA r.L.length r.lc)), (4, .ptr 1 0), (1, .ptr 0 0)], 6,
    [(5, lO 55 (u.2.2.1.flatMap itQ) u.2.1), (4, some (.cells [.int .i64 1, .raw (.slice none 0 0), lE 5 u.1 u.2.1] 55 (0, 0))), (3, some (.cells g.ev 47 (0, 0))), (2, lO 55 (qs.flatMap itQ) l), (1, some (.cells [.int .i64 1, .raw (.slice none 0 0), lE 2 i l] 55 (0, 0))), (0, some (.cells (rcE r) 29 (0, 0)))], u.2.2.2, []⟩)
   (fun u => g.tn - u.1) (0, none, [], B2) ⟨Nat.zero_le _, rfl, BExt.refl _, by simp, rfl⟩ (Weak.sub (A5 (by simp [wσ, go_sem, closed, A0, A4, eN, oN, cn, cl0, hrc, hgc, EObj.closed] <;> omega) (by simp [whs, Go.Ew.hget, go_sem, EObj.closed, closed, A0, A4, eN, oN, cn, cl0, hrc, hgc, EObj.closed]) (by first | (simp [*]; done) | (simp only [cxG]; omega)) rfl rfl (by simp))) ?_
  --INNER
  rintro ⟨k, l', qs2, B3⟩ ⟨hk, hl2, hB3, hok2, hbd2⟩
  simp only at hk hl2 hB3 hok2 hbd2 ⊢
  replace h1 := h1.ext hB3
  have hLl2 : qs2.length = k := by have := congrArg List.length hbd2; simp [L1] at this; omega
  rcases Nat.lt_or_ge k g.tn with hk2 | hk2
  ·have cB : decide ((k : Int) < (g.tn : Int)) = true := decide_eq_true (by omega)
   obtain ⟨m1, m2, m3, m4⟩ := h1.ldT hk2
   have hq := Ar0 h1 hk2
   have hqi : g.tops[k]'(by rw [L1]; exact hk2) = g.top k := Ap4 hk2
   obtain ⟨q, hq0⟩ : ∃ q, q = g.top k := ⟨_, rfl⟩
   rw [← hq0] at m1 hq hqi
   have q1 := Ao5 q
   refine A3 1000 ?_
   rcases l' with _ | ⟨cp0, rest0⟩
   ·have hk0 : k = 0 := hl2
    simp only [eN, oN]
    repeat' (first | with_reducible refine And.intro (by first | omega | (constructor <;> assumption) | (simp; done) | ((repeat' refine And.intro ?_ ?_) <;> first | omega | assumption | (refine SlOk.so (n := ?_) ?_ ?_; rotate_left; assumption; omega) | (simp; done) | fail)) ?_ | simp (maxSteps := 4000000) (disch := omega) only [go_sem, ↓reduceIte, cB, Int.toNat_natCast, m1, q1, List.length_map, hq, J6 hq] | with_reducible refine C9 (id := 11) [0, 1, 2, 3, 4, 5, 6, 7] mixed (by kernel_rfl) (by simp) (fun hin => C8 1000 hin ?_))
    refine M9 6 0 32 32 [] (q.map bV) Ds6 rfl rfl (by rw [Bi9, List.drop_zero, List.length_map, hq, List.take_of_length_le (by rw [List.length_map]; omega)]) (fun s => by simp [closed, A0]) (fun B ad cap hB hC => N1 q 32 B ad cap hC hq (by omega)) (by kernel_rfl) (F1 (by kernel_rfl) (C1 (by kernel_rfl))) (fun hin2 s2 B4 hB4 hR4 => C8 1000 hin2 ?_)
    change BExt B3 B4 at hB4
    repeat' (first | with_reducible refine And.intro (by first | omega | (simp; done)) ?_ | simp (maxSteps := 4000000) (disch := omega) only [go_sem, ↓reduceIte])
    refine Av1 (c := True) (zs := z3) (xs := qs2.flatMap itQ) (m := 1) (news := itE (txt q) s2) (T := 55) (l := none) 36 5 k [100035] rfl rfl Tryz.underlying53 (.inl ⟨_, Tryz.underlying53⟩) Av7 Aw7 (by simp [z3]) C0 rfl rfl rfl hl2 (by rw [G6, hLl2]; rfl) (A7 0 _) (fun B hs hB hfb => ⟨_, F3 (by rw [hfb 100035 (by simp)]; rfl) rfl, by simp [z3]⟩) rfl (by simp [A0, closed]) (by simp only [maxLen]; omega) (by rw [show Tryz.prog.bytesOf 55 = 56 from Ax2]; omega) (by simp) (by kernel_rfl) (F1 (by kernel_rfl) (C1 (by kernel_rfl))) (fun l5 hl5 => C8 1000 (by assumption) ?_)
    have hl5' := hl5
    obtain ⟨cp, rest, rfl, -⟩ := D8 hl5 (by omega)
    simp only [A6]
    repeat' (first | with_reducible refine And.intro (by omega) ?_ | simp (maxSteps := 4000000) (disch := omega) only [go_sem, ↓reduceIte])
    refine D7 (by kernel_rfl) (C1 (by kernel_rfl)) ?_
    refine K7 [100036] 5 (by simp) (by simp) (by simp) (by simp) (A3 1000 ?_)
    have hev : qs2.flatMap itQ ++ itE (txt q) s2 = (qs2 ++ [(txt q, s2)]).flatMap itQ := by
     rw [List.flatMap_append, List.flatMap_singleton]; rfl
    repeat' (simp (maxSteps := 4000000) (disch := omega) only [go_sem, ↓reduceIte, hev, okC, okE, O8, R3 (ks := [100036]) (k := 5) (r := 2) (len := i) (l := l) rfl, M1, E6, F4 (ks := [100036]) (k := 5) hl5' (A7 0 (qs2 ++ [(txt q, s2)])) C0, F4 (ks := [100036]) (k := 5) hl (A7 0 qs) C0, E1, G2 (Nat.zero_le _) _ (hrc 0), H4 _ _ (hrc 0), G2 (Nat.zero_le _) _ (hgc 0), H4 _ _ (hgc 0), G2 (Nat.zero_le _) _ (A9 0 q), H4 _ _ (A9 0 q)])
    have hok' : ∀ a ∈ qs2 ++ [(txt q, s2)], ItAt B4 a.1 a.2 := fun a ha => by
     rcases List.mem_append.1 ha with h3 | h3
     ·exact (hok2 a h3).ext hB4
     ·obtain rfl := List.mem_singleton.1 h3
      exact hR4
    have hbd' : (qs2 ++ [(txt q, s2)]).map Prod.fst = (g.tops.take (k + 1)).map txt := by
     rw [List.take_succ_eq_append_getElem (by rw [L1]; exact hk2), List.map_append, List.map_append, hbd2, hqi]
     rfl
    have cl2 : ∀ n, clO n (lO 55 ((qs2 ++ [(txt q, s2)]).flatMap itQ) (some (cp, rest))) = True := fun n => G0 hl5' (A7 0 _) C0
    have cl3 : ∀ n, clO n (lO 55 (qs2.flatMap itQ ++ itQ (txt q, s2)) (some (cp, rest))) = True := fun n => by have := cl2 n; rwa [List.flatMap_append, List.flatMap_singleton] at this
    exact ⟨(k + 1, some (cp, rest), qs2 ++ [(txt q, s2)], B4), ⟨hk2, hl5', hB3.trans hB4, hok', hbd'⟩, Weak.sub (A5 (by simp [wσ, go_sem, closed, A0, A4, cl3, cl0, A6, hrc, hgc] <;> omega) (by simp [whs, Go.Ew.hget, go_sem, EObj.closed, closed, A0, A4, cl3, cl0, A6, hrc, hgc]) (by first | (simp [*]; done) | (simp only [cxG]; omega)) rfl rfl (by simp)), by simp only; omega⟩
   ·simp only [A6]
    repeat' (first | with_reducible refine And.intro (by first | omega | (constructor <;> assumption) | (simp; done) | ((repeat' refine And.intro ?_ ?_) <;> first | omega | assumption | (refine SlOk.so (n := ?_) ?_ ?_; rotate_left; assumption; omega) | (simp; done) | fail)) ?_ | simp (maxSteps := 4000000) (disch := omega) only [go_sem, ↓reduceIte, cB, Int.toNat_natCast, m1, q1, List.length_map, hq, J6 hq] | with_reducible refine C9 (id := 11) [0, 1, 2, 3, 4, 5, 6, 7] mixed (by kernel_rfl) (by simp) (fun hin => C8 1000 hin ?_))
    refine M9 6 0 32 32 [] (q.map bV) Ds6 rfl rfl (by rw [Bi9, List.drop_zero, List.length_map, hq, List.take_of_length_le (by rw [List.length_map]; omega)]) (fun s => by simp [closed, A0]) (fun B ad cap hB hC => N1 q 32 B ad cap hC hq (by omega)) (by kernel_rfl) (F1 (by kernel_rfl) (C1 (by kernel_rfl))) (fun hin2 s2 B4 hB4 hR4 => C8 1000 hin2 ?_)
    change BExt B3 B4 at hB4
    repeat' (first | with_reducible refine And.intro (by first | omega | (simp; done)) ?_ | simp (maxSteps := 4000000) (disch := omega) only [go_sem, ↓reduceIte])
    refine Av1 (c := True) (zs := z3) (xs := qs2.flatMap itQ) (m := 1) (news := itE (txt q) s2) (T := 55) (l := (some (cp0, rest0))) 36 5 k [100035] rfl rfl Tryz.underlying53 (.inl ⟨_, Tryz.underlying53⟩) Av7 Aw7 (by simp [z3]) C0 rfl rfl rfl hl2 (by rw [G6, hLl2]; rfl) (A7 0 _) (fun B hs hB hfb => ⟨_, F3 (by rw [hfb 100035 (by simp)]; rfl) rfl, by simp [z3]⟩) rfl (by simp [A0, closed]) (by simp only [maxLen]; omega) (by rw [show Tryz.prog.bytesOf 55 = 56 from Ax2]; omega) (by simp) (by kernel_rfl) (F1 (by kernel_rfl) (C1 (by kernel_rfl))) (fun l5 hl5 => C8 1000 (by assumption) ?_)
    have hl5' := hl5
    obtain ⟨cp, rest, rfl, -⟩ := D8 hl5 (by omega)
    simp only [A6]
    repeat' (first | with_reducible refine And.intro (by omega) ?_ | simp (maxSteps := 4000000) (disch := omega) only [go_sem, ↓reduceIte])
    refine D7 (by kernel_rfl) (C1 (by kernel_rfl)) ?_
    refine K7 [100036] 5 (by simp) (by simp) (by simp) (by simp) (A3 1000 ?_)
    have hev : qs2.flatMap itQ ++ itE (txt q) s2 = (qs2 ++ [(txt q, s2)]).flatMap itQ := by
     rw [List.flatMap_append, List.flatMap_singleton]; rfl
    repeat' (simp (maxSteps := 4000000) (disch := omega) only [go_sem, ↓reduceIte, hev, okC, okE, O8, R3 (ks := [100036]) (k := 5) (r := 2) (len := i) (l := l) rfl, M1, E6, F4 (ks := [100036]) (k := 5) hl5' (A7 0 (qs2 ++ [(txt q, s2)])) C0, F4 (ks := [100036]) (k := 5) hl (A7 0 qs) C0, E1, G2 (Nat.zero_le _) _ (hrc 0), H4 _ _ (hrc 0), G2 (Nat.zero_le _) _ (hgc 0), H4 _ _ (hgc 0), G2 (Nat.zero_le _) _ (A9 0 q), H4 _ _ (A9 0 q)])
    have hok' : ∀ a ∈ qs2 ++ [(txt q, s2)], ItAt B4 a.1 a.2 := fun a ha => by
     rcases List.mem_append.1 ha with h3 | h3
     ·exact (hok2 a h3).ext hB4
     ·obtain rfl := List.mem_singleton.1 h3
      exact hR4
    have hbd' : (qs2 ++ [(txt q, s2)]).map Prod.fst = (g.tops.take (k + 1)).map txt := by
     rw [List.take_succ_eq_append_getElem (by rw [L1]; exact hk2), List.map_append, List.map_append, hbd2, hqi]
     rfl
    have cl2 : ∀ n, clO n (lO 55 ((qs2 ++ [(txt q, s2)]).flatMap itQ) (some (cp, rest))) = True := fun n => G0 hl5' (A7 0 _) C0
    have cl3 : ∀ n, clO n (lO 55 (qs2.flatMap itQ ++ itQ (txt q, s2)) (some (cp, rest))) = True := fun n => by have := cl2 n; rwa [List.flatMap_append, List.flatMap_singleton] at this
    exact ⟨(k + 1, some (cp, rest), qs2 ++ [(txt q, s2)], B4), ⟨hk2, hl5', hB3.trans hB4, hok', hbd'⟩, Weak.sub (A5 (by simp [wσ, go_sem, closed, A0, A4, cl3, cl0, A6, hrc, hgc] <;> omega) (by simp [whs, Go.Ew.hget, go_sem, EObj.closed, closed, A0, A4, cl3, cl0, A6, hrc, hgc]) (by first | (simp [*]; done) | (simp only [cxG]; omega)) rfl rfl (by simp)), by simp only; omega⟩
  ·obtain rfl : k = g.tn := by omega
   have cB : decide ((g.tn : Int) < (g.tn : Int)) = false := decide_eq_false (by omega)
   refine R5 (xs := qs2.flatMap itQ) (T := 55) 5 g.tn rfl hl2 (by rw [G6, hLl2]; rfl) (A7 0 _) C0 (by simp) (fun b2 kA kc B4 hB4 hf2 hD hso hcell => ?_)
   change BExt B3 B4 at hB4
   have hC : CellsAt B4 kA (qs2.flatMap itC) := J1 hD hso (fun h0 => by
    rw [h0] at hLl2; rw [List.length_eq_zero_iff.1 hLl2]; rfl) hcell (S6 _ _)
   have hbt : qs2.map Prod.fst = g.tops.map txt := by rw [hbd2, List.take_of_length_le (by rw [L1]; omega)]
   simp only [frzσ, frz, hf2, Ab5 (show (2 : Nat) ≠ 5 by omega), Ab3 hl (A7 0 _) C0, I6, L3, S1, EObj.frz, G4 _ (hgc 0), G4 _ (hrc 0), Ab4, Nat.reduceEqDiff, if_false, if_true, ↓reduceIte, P4]
   refine Am1 3 (cs := g.ev) (T := 47) (fr := (0, 0)) rfl (hgc 0) (by simp) (fun b B5 hB5 hbD hbH => ?_)
   change BExt B4 B5 at hB5
   have hev : C5 (fun _ => 0) g.ev = g.cells := by simp [T7, LogV.cells, C4, bE, bV, real, Function.comp_def]
   have hgC : CellsAt B5 (some ⟨b, 0, none⟩) g.cells := M2 hbD (by rw [← hev]; exact hbH)
   have hA : BytesAt B5 (some ⟨b, 0, none⟩) g.ad := by
    have := hgC.sub 0 20
    simp only [List.drop_zero, LogV.cells, List.take_append_of_le_length (show 20 ≤ (g.ad.map bV).length by simp [h1.ha]), List.take_of_length_le (show (g.ad.map bV).length ≤ 20 by simp [h1.ha])] at this
    exact this
   have h5 := h1.ext (hB4.trans hB5)
   simp only [frzσ, frz, Ab5 (show (2 : Nat) ≠ 3 by omega), Ab3 hl (A7 0 _) C0, I6, L3, S1, EObj.frz, G4 _ (hgc 0), G4 _ (hrc 0), Ab4, Nat.reduceEqDiff, if_false, if_true, ↓reduceIte, P4]
   obtain ⟨r1, r2, r3⟩ := hgC.raw (j := 21) (v := .slice g.dA g.dn g.dc) (by simp [LogV.cells, List.getElem?_append, h1.ha])
   have e21 : G9 (some (⟨b, 0, none⟩ : Addr)) 21 = ⟨b, 21, none⟩ := by simp [E9, Addr.add]
   rw [e21] at r1 r3
   simp only [D6] at r1
   have hdb := h1.db
   refine A3 1000 ?_
   rcases l with _ | ⟨cp0, rest0⟩
   ·have hi0 : i = 0 := hl
    simp only [eN, oN]
    repeat' (first | with_reducible refine And.intro (by first | omega | (constructor <;> assumption) | (simp; done)) ?_ | simp (maxSteps := 4000000) (disch := omega) only [go_sem, ↓reduceIte, cB, r1, f1, f2, f3, f4, f8, I4 h1.ha] | with_reducible refine C9 (id := 13) [0, 1, 2, 3, 5, 6, 7, 4, 8, 9, 10, 11, 12, 13, 14] mixed (by kernel_rfl) (by simp) (fun hin => C8 1000 hin ?_) | with_reducible refine A3 1000 ?_)
    refine H7 (N1 g.ad 20 B5 _ _ hA h1.ha (by omega)) (fun _ => by simp [closed, A0]) (by kernel_rfl) (F1 (by kernel_rfl) (C1 (by kernel_rfl))) (fun hin2 s5 B6 hB6 hR6 => C8 1000 hin2 ?_)
    change BExt B5 B6 at hB6
    repeat' (simp (maxSteps := 4000000) (disch := omega) only [go_sem, ↓reduceIte, r1, f1, f2, f3, f4, f8, I4 h1.ha])
    refine H7 (N1 g.dt g.dn B6 _ _ (h5.dB.ext hB6) h1.hd (by omega)) (fun _ => by simp [closed, A0]) (by kernel_rfl) (F1 (by kernel_rfl) (C1 (by kernel_rfl))) (fun hin2 s7 B7 hB7 hR7 => C8 1000 hin2 ?_)
    change BExt B6 B7 at hB7
    have hR5 : ItAt B5 (Itm.mk 1 [] (qs2.map Prod.fst)) ⟨none, 0, kA, kc⟩ := .mk 1 [] qs2 _ (E2 _) (by simp) (hC.ext hB5) (by omega) (fun q hq => (hok2 q hq).ext (hB4.trans hB5))
    repeat' (first | with_reducible refine And.intro (by first | omega | (simp; done)) ?_ | simp (maxSteps := 4000000) (disch := omega) only [go_sem, ↓reduceIte, f1, f2, f3, f4, f8, I4 h1.ha])
    refine M9 100048 0 3 3 [] ([(txt g.ad, s5), (Itm.mk 1 [] (qs2.map Prod.fst), ⟨none, 0, kA, kc⟩), (txt g.dt, s7)].flatMap itC) Dn4 rfl rfl (by simp [itC, D6, Itm.kids, Itm.bytes, Itm.list, hLl2]) (fun s => by simp [closed, A0]) (fun B ad cap hB hc3 => Ar6 [(txt g.ad, s5), (Itm.mk 1 [] (qs2.map Prod.fst), ⟨none, 0, kA, kc⟩), (txt g.dt, s7)] 3 B ad cap hc3 (by simp) (fun q hq => by
     simp only [List.mem_cons, List.not_mem_nil, or_false] at hq
     rcases hq with rfl | rfl | rfl
     ·exact hR6.ext (hB7.trans hB)
     ·exact hR5.ext (hB6.trans (hB7.trans hB))
     ·exact hR7.ext hB) rfl) (by kernel_rfl) (F1 (by kernel_rfl) (C1 (by kernel_rfl))) (fun hin2 s8 B8 hB8 hR8 => C8 1000 hin2 ?_)
    change BExt B7 B8 at hB8
    have hfin : Itm.mk 1 [] (List.map Prod.fst [(txt g.ad, s5), (Itm.mk 1 [] (qs2.map Prod.fst), (⟨none, 0, kA, kc⟩ : Plc)), (txt g.dt, s7)]) = T4 g := by
     simp only [List.map_cons, List.map_nil, hbt]; rfl
    rw [hfin] at hR8
    simp only [hfin]
    repeat' (first | with_reducible refine And.intro (by first | omega | (simp; done)) ?_ | simp (maxSteps := 4000000) (disch := omega) only [go_sem, ↓reduceIte, f1, f2, f3, f4, f8, I4 h1.ha])
    refine Av1 (c := True) (zs := z3) (xs := qs.flatMap itQ) (m := 1) (news := itE (T4 g) s8) (T := 55) (l := none) 51 2 i [100050] rfl rfl Tryz.underlying53 (.inl ⟨_, Tryz.underlying53⟩) Av7 Aw7 (by simp [z3]) C0 rfl rfl rfl hl (by rw [G6, hLl]; rfl) (A7 0 _) (fun B hs hB hfb => ⟨_, F3 (by rw [hfb 100050 (by simp)]; rfl) rfl, by simp [z3]⟩) rfl (by simp [A0, closed]) (by simp only [maxLen]; omega) (by rw [show Tryz.prog.bytesOf 55 = 56 from Ax2]; omega) (by simp) (by kernel_rfl) (F1 (by kernel_rfl) (C1 (by kernel_rfl))) (fun l6 hl6 => C8 1000 (by assumption) ?_)
    have hl6' := hl6
    have hcl6 : A0 0 (itE (T4 g) s8) := by simp [A0, closed]
    have hE51 := M0 (T := 55) hl6 (closeds_append.2 ⟨A7 0 qs, hcl6⟩) C0
    obtain ⟨cp, rest, rfl, -⟩ := D8 hl6 (by omega)
    simp only [A6]
    repeat' (first | with_reducible refine And.intro (by omega) ?_ | simp (maxSteps := 4000000) (disch := omega) only [go_sem, ↓reduceIte])
    refine D7 (by kernel_rfl) ((J9 [100051] (by kernel_rfl) (by with_unfolding_all (repeat' (first | exact True.intro | exact I0 | exact hE51 | refine And.intro ?_ ?_))))) ?_
    refine K7 [100051] 2 (by simp) (by simp) (by simp) (by simp) (A3 1000 ?_)
    have hev : qs.flatMap itQ ++ itE (T4 g) s8 = (qs ++ [(T4 g, s8)]).flatMap itQ := by
     rw [List.flatMap_append, List.flatMap_singleton]; rfl
    repeat' (simp (maxSteps := 4000000) (disch := omega) only [go_sem, ↓reduceIte, hev, okC, okE, O8, E6, F4 (ks := [100051]) (k := 2) hl6' (A7 0 (qs ++ [(T4 g, s8)])) C0, E1, G2 (Nat.zero_le _) _ (hrc 0), H4 _ _ (hrc 0), G2 (Nat.zero_le _) _ (hgc 0), H4 _ _ (hgc 0)])
    have hB38 := hB3.trans (hB4.trans (hB5.trans (hB6.trans (hB7.trans hB8))))
    have hok' : ∀ a ∈ qs ++ [(T4 g, s8)], ItAt B8 a.1 a.2 := fun a ha => by
     rcases List.mem_append.1 ha with h3 | h3
     ·exact (hok a h3).ext hB38
     ·obtain rfl := List.mem_singleton.1 h3
      exact hR8
    have hbd' : (qs ++ [(T4 g, s8)]).map Prod.fst = (r.L.take (i + 1)).map T4 := by
     rw [htk, List.map_append, List.map_append, hbd]
     rfl
    have cl2 : ∀ n, clO n (lO 55 ((qs ++ [(T4 g, s8)]).flatMap itQ) (some (cp, rest))) = True := fun n => G0 hl6' (A7 0 _) C0
    have cl3 : ∀ n, clO n (lO 55 (qs.flatMap itQ ++ itQ (T4 g, s8)) (some (cp, rest))) = True := fun n => by have := cl2 n; rwa [List.flatMap_append, List.flatMap_singleton] at this
    exact ⟨(i + 1, some (cp, rest), qs ++ [(T4 g, s8)], B8), ⟨hi2, hl6', hB2.trans hB38, hok', hbd'⟩, Weak.sub (A5 (by simp [wσ, go_sem, closed, A0, A4, cl3, A6, hrc] <;> omega) (by simp [whs, Go.Ew.hget, go_sem, EObj.closed, closed, A0, A4, cl3, A6, hrc]) (by first | (simp [*]; done) | (simp only [cxG]; omega)) rfl rfl (by simp)), by simp only; omega⟩
   ·simp only [A6]
    repeat' (first | with_reducible refine And.intro (by first | omega | (constructor <;> assumption) | (simp; done)) ?_ | simp (maxSteps := 4000000) (disch := omega) only [go_sem, ↓reduceIte, cB, r1, f1, f2, f3, f4, f8, I4 h1.ha] | with_reducible refine C9 (id := 13) [0, 1, 2, 3, 5, 6, 7, 4, 8, 9, 10, 11, 12, 13, 14] mixed (by kernel_rfl) (by simp) (fun hin => C8 1000 hin ?_) | with_reducible refine A3 1000 ?_)
    refine H7 (N1 g.ad 20 B5 _ _ hA h1.ha (by omega)) (fun _ => by simp [closed, A0]) (by kernel_rfl) (F1 (by kernel_rfl) (C1 (by kernel_rfl))) (fun hin2 s5 B6 hB6 hR6 => C8 1000 hin2 ?_)
    change BExt B5 B6 at hB6
    repeat' (simp (maxSteps := 4000000) (disch := omega) only [go_sem, ↓reduceIte, r1, f1, f2, f3, f4, f8, I4 h1.ha])
    refine H7 (N1 g.dt g.dn B6 _ _ (h5.dB.ext hB6) h1.hd (by omega)) (fun _ => by simp [closed, A0]) (by kernel_rfl) (F1 (by kernel_rfl) (C1 (by kernel_rfl))) (fun hin2 s7 B7 hB7 hR7 => C8 1000 hin2 ?_)
    change BExt B6 B7 at hB7
    have hR5 : ItAt B5 (Itm.mk 1 [] (qs2.map Prod.fst)) ⟨none, 0, kA, kc⟩ := .mk 1 [] qs2 _ (E2 _) (by simp) (hC.ext hB5) (by omega) (fun q hq => (hok2 q hq).ext (hB4.trans hB5))
    repeat' (first | with_reducible refine And.intro (by first | omega | (simp; done)) ?_ | simp (maxSteps := 4000000) (disch := omega) only [go_sem, ↓reduceIte, f1, f2, f3, f4, f8, I4 h1.ha])
    refine M9 100048 0 3 3 [] ([(txt g.ad, s5), (Itm.mk 1 [] (qs2.map Prod.fst), ⟨none, 0, kA, kc⟩), (txt g.dt, s7)].flatMap itC) Dn4 rfl rfl (by simp [itC, D6, Itm.kids, Itm.bytes, Itm.list, hLl2]) (fun s => by simp [closed, A0]) (fun B ad cap hB hc3 => Ar6 [(txt g.ad, s5), (Itm.mk 1 [] (qs2.map Prod.fst), ⟨none, 0, kA, kc⟩), (txt g.dt, s7)] 3 B ad cap hc3 (by simp) (fun q hq => by
     simp only [List.mem_cons, List.not_mem_nil, or_false] at hq
     rcases hq with rfl | rfl | rfl
     ·exact hR6.ext (hB7.trans hB)
     ·exact hR5.ext (hB6.trans (hB7.trans hB))
     ·exact hR7.ext hB) rfl) (by kernel_rfl) (F1 (by kernel_rfl) (C1 (by kernel_rfl))) (fun hin2 s8 B8 hB8 hR8 => C8 1000 hin2 ?_)
    change BExt B7 B8 at hB8
    have hfin : Itm.mk 1 [] (List.map Prod.fst [(txt g.ad, s5), (Itm.mk 1 [] (qs2.map Prod.fst), (⟨none, 0, kA, kc⟩ : Plc)), (txt g.dt, s7)]) = T4 g := by
     simp only [List.map_cons, List.map_nil, hbt]; rfl
    rw [hfin] at hR8
    simp only [hfin]
    repeat' (first | with_reducible refine And.intro (by first | omega | (simp; done)) ?_ | simp (maxSteps := 4000000) (disch := omega) only [go_sem, ↓reduceIte, f1, f2, f3, f4, f8, I4 h1.ha])
    refine Av1 (c := True) (zs := z3) (xs := qs.flatMap itQ) (m := 1) (news := itE (T4 g) s8) (T := 55) (l := (some (cp0, rest0))) 51 2 i [100050] rfl rfl Tryz.underlying53 (.inl ⟨_, Tryz.underlying53⟩) Av7 Aw7 (by simp [z3]) C0 rfl rfl rfl hl (by rw [G6, hLl]; rfl) (A7 0 _) (fun B hs hB hfb => ⟨_, F3 (by rw [hfb 100050 (by simp)]; rfl) rfl, by simp [z3]⟩) rfl (by simp [A0, closed]) (by simp only [maxLen]; omega) (by rw [show Tryz.prog.bytesOf 55 = 56 from Ax2]; omega) (by simp) (by kernel_rfl) (F1 (by kernel_rfl) (C1 (by kernel_rfl))) (fun l6 hl6 => C8 1000 (by assumption) ?_)
    have hl6' := hl6
    have hcl6 : A0 0 (itE (T4 g) s8) := by simp [A0, closed]
    have hE51 := M0 (T := 55) hl6 (closeds_append.2 ⟨A7 0 qs, hcl6⟩) C0
    obtain ⟨cp, rest, rfl, -⟩ := D8 hl6 (by omega)
    simp only [A6]
    repeat' (first | with_reducible refine And.intro (by omega) ?_ | simp (maxSteps := 4000000) (disch := omega) only [go_sem, ↓reduceIte])
    refine D7 (by kernel_rfl) ((J9 [100051] (by kernel_rfl) (by with_unfolding_all (repeat' (first | exact True.intro | exact I0 | exact hE51 | refine And.intro ?_ ?_))))) ?_
    refine K7 [100051] 2 (by simp) (by simp) (by simp) (by simp) (A3 1000 ?_)
    have hev : qs.flatMap itQ ++ itE (T4 g) s8 = (qs ++ [(T4 g, s8)]).flatMap itQ := by
     rw [List.flatMap_append, List.flatMap_singleton]; rfl
    repeat' (simp (maxSteps := 4000000) (disch := omega) only [go_sem, ↓reduceIte, hev, okC, okE, O8, E6, F4 (ks := [100051]) (k := 2) hl6' (A7 0 (qs ++ [(T4 g, s8)])) C0, E1, G2 (Nat.zero_le _) _ (hrc 0), H4 _ _ (hrc 0), G2 (Nat.zero_le _) _ (hgc 0), H4 _ _ (hgc 0)])
    have hB38 := hB3.trans (hB4.trans (hB5.trans (hB6.trans (hB7.trans hB8))))
    have hok' : ∀ a ∈ qs ++ [(T4 g, s8)], ItAt B8 a.1 a.2 := fun a ha => by
     rcases List.mem_append.1 ha with h3 | h3
     ·exact (hok a h3).ext hB38
     ·obtain rfl := List.mem_singleton.1 h3
      exact hR8
    have hbd' : (qs ++ [(T4 g, s8)]).map Prod.fst = (r.L.take (i + 1)).map T4 := by
     rw [htk, List.map_append, List.map_append, hbd]
     rfl
    have cl2 : ∀ n, clO n (lO 55 ((qs ++ [(T4 g, s8)]).flatMap itQ) (some (cp, rest))) = True := fun n => G0 hl6' (A7 0 _) C0
    have cl3 : ∀ n, clO n (lO 55 (qs.flatMap itQ ++ itQ (T4 g, s8)) (some (cp, rest))) = True := fun n => by have := cl2 n; rwa [List.flatMap_append, List.flatMap_singleton] at this
    exact ⟨(i + 1, some (cp, rest), qs ++ [(T4 g, s8)], B8), ⟨hi2, hl6', hB2.trans hB38, hok', hbd'⟩, Weak.sub (A5 (by simp [wσ, go_sem, closed, A0, A4, cl3, A6, hrc] <;> omega) (by simp [whs, Go.Ew.hget, go_sem, EObj.closed, closed, A0, A4, cl3, A6, hrc]) (by first | (simp [*]; done) | (simp only [cxG]; omega)) rfl rfl (by simp)), by simp only; omega⟩
 ·obtain rfl : i = r.L.length := by omega
  have cA : decide ((r.L.length : Int) < (r.L.length : Int)) = false := decide_eq_false (by omega)
  refine R5 (xs := qs.flatMap itQ) (T := 55) 2 r.L.length rfl hl (by rw [G6, hLl]; rfl) (A7 0 _) C0 (by simp) (fun b2 kA kc B3 hB3 hf2 hD hso hcell => ?_)
  change BExt B2 B3 at hB3
  have hC : CellsAt B3 kA (qs.flatMap itC) := J1 hD hso (fun h0 => by
   rw [h0] at hLl; rw [List.length_eq_zero_iff.1 hLl]; rfl) hcell (S6 _ _)
  have hbt : qs.map Prod.fst = r.L.map T4 := by rw [hbd, List.take_length]
  simp only [frzσ, frz, hf2, I6, L3, S1, EObj.frz, G4 _ (hrc 0), Ab4, Nat.reduceEqDiff, if_false, if_true, ↓reduceIte, P4]
  refine Am1 0 (cs := rcE r) (T := 29) (fr := (0, 0)) rfl (hrc 0) (by simp) (fun b B4 hB4 hbD hbH => A3 1000 ?_)
  change BExt B3 B4 at hB4
  have hgC : CellsAt B4 (some ⟨b, 0, none⟩) (rcC r) := M2 hbD (by rw [← Bu8]; exact hbH)
  have hA : BytesAt B4 (some ⟨b, 3, none⟩) (blB r.F) := by
   have := hgC.sub 3 256
   simp only [rcC, List.drop_succ_cons, List.drop_zero, List.take_append_of_le_length (show 256 ≤ ((blB r.F).map bV).length by simp [Aa7]), List.take_of_length_le (show ((blB r.F).map bV).length ≤ 256 by simp [Aa7])] at this
   have e : (⟨b, 0, none⟩ : Addr).add 3 = ⟨b, 3, none⟩ := by simp [Addr.add]
   rw [e] at this
   exact this
  obtain ⟨r0, r0d, r0s⟩ := hgC.raw (j := 0) (v := .int .u8 (r.ty.toNat : Int)) rfl
  obtain ⟨r1, r1d, r1s⟩ := hgC.raw (j := 1) (v := .int .i64 r.ok) rfl
  obtain ⟨r2, r2d, r2s⟩ := hgC.raw (j := 2) (v := .int .u64 (r.gas : Int)) rfl
  simp only [E9, Addr.add, ↓reduceIte, Nat.reduceAdd, Nat.reduceEqDiff, D6, if_false, Nat.zero_add, Nat.one_ne_zero] at r0 r0s r1 r1s r2 r2s
  have hok01 : r.ok = 0 ∨ r.ok = 1 := (Cy2 hm)
  repeat' (first | with_reducible refine And.intro (by first | omega | (constructor <;> assumption) | (simp; done)) ?_ | simp (maxSteps := 4000000) (disch := omega) only [go_sem, ↓reduceIte, cA, r0, r1, r2] | with_reducible refine C9 (id := 15) [0, 1, 2, 4, 5, 7, 8, 10, 3, 6, 9, 11, 12, 13, 14, 15, 16, 17, 18] mixed (by kernel_rfl) (by simp) (fun hin => C8 1000 hin ?_) | with_reducible refine A3 1000 ?_)
  have ho : ((r.ok.toNat : Nat) : Int) = r.ok := by omega
  have hN1 := Bo3 r.ok.toNat (by omega) B4
  rw [ho] at hN1
  refine H7 hN1 (fun _ => by simp [closed, A0]) (by kernel_rfl) (F1 (by kernel_rfl) (C1 (by kernel_rfl))) (fun hin2 s5 B5 hB5 hR5 => C8 1000 hin2 ?_)
  change BExt B4 B5 at hB5
  repeat' (simp (maxSteps := 4000000) (disch := omega) only [go_sem, ↓reduceIte])
  refine H7 (Bo3 r.gas hgas B5) (fun _ => by simp [closed, A0]) (by kernel_rfl) (F1 (by kernel_rfl) (C1 (by kernel_rfl))) (fun hin2 s6 B6 hB6 hR6 => C8 1000 hin2 ?_)
  change BExt B5 B6 at hB6
  repeat' (simp (maxSteps := 4000000) (disch := omega) only [go_sem, ↓reduceIte])
  refine H7 (N1 (blB r.F) 256 B6 _ _ (hA.ext (hB5.trans hB6)) (Aa7 _) (by omega)) (fun _ => by simp [closed, A0]) (by kernel_rfl) (F1 (by kernel_rfl) (C1 (by kernel_rfl))) (fun hin2 s7 B7 hB7 hR7 => C8 1000 hin2 ?_)
  change BExt B6 B7 at hB7
  have hB47 := hB5.trans (hB6.trans hB7)
  have hR8 : ItAt B7 (Itm.mk 1 [] (qs.map Prod.fst)) ⟨none, 0, kA, kc⟩ := .mk 1 [] qs _ (E2 _) (by simp) (hC.ext (hB4.trans hB47)) (by omega) (fun q hq => (hok q hq).ext (hB3.trans (hB4.trans hB47)))
  repeat' (first | with_reducible refine And.intro (by first | omega | (simp; done)) ?_ | simp (maxSteps := 4000000) (disch := omega) only [go_sem, ↓reduceIte])
  refine M9 100066 0 4 4 [] ([(txt (leB r.ok.toNat), s5), (txt (leB r.gas), s6), (txt (blB r.F), s7), (Itm.mk 1 [] (qs.map Prod.fst), ⟨none, 0, kA, kc⟩)].flatMap itC) Dn4 rfl rfl (by simp [itC, D6, Itm.kids, Itm.bytes, Itm.list, hLl]) (fun s => by simp [closed, A0]) (fun B ad cap hB hc3 => Ar6 [(txt (leB r.ok.toNat), s5), (txt (leB r.gas), s6), (txt (blB r.F), s7), (Itm.mk 1 [] (qs.map Prod.fst), ⟨none, 0, kA, kc⟩)] 4 B ad cap hc3 (by simp) (fun q hq => by
   simp only [List.mem_cons, List.not_mem_nil, or_false] at hq
   rcases hq with rfl | rfl | rfl | rfl
   ·exact hR5.ext (hB6.trans (hB7.trans hB))
   ·exact hR6.ext (hB7.trans hB)
   ·exact hR7.ext hB
   ·exact hR8.ext hB) rfl) (by kernel_rfl) (F1 (by kernel_rfl) (C1 (by kernel_rfl))) (fun hin2 s9 B9 hB9 hR9 => C8 1000 hin2 ?_)
  change BExt B7 B9 at hB9
  have hfin : Itm.mk 1 [] (List.map Prod.fst [(txt (leB r.ok.toNat), s5), (txt (leB r.gas), s6), (txt (blB r.F), s7), (Itm.mk 1 [] (qs.map Prod.fst), (⟨none, 0, kA, kc⟩ : Plc))]) = Aw3 r := by
   simp only [List.map_cons, List.map_nil, hbt]; rfl
  rw [hfin] at hR9
  simp only [hfin]
  repeat' (simp (maxSteps := 4000000) (disch := omega) only [go_sem, ↓reduceIte])
  refine H7 (Bb9 hR9 (Co2 r) hf) (fun _ => by simp [closed, A0]) (by kernel_rfl) (F1 (by kernel_rfl) (C1 (by kernel_rfl))) (fun hin2 s10 B10 hB10 hR10 => C8 1000 hin2 ?_)
  change BExt B9 B10 at hB10
  have hB4X := hB47.trans (hB9.trans hB10)
  have hBX := hB2.trans (hB3.trans (hB4.trans hB4X))
  obtain ⟨x0, x0d, x0s⟩ := (hgC.ext hB4X).raw (j := 0) (v := .int .u8 (r.ty.toNat : Int)) rfl
  simp only [E9, Addr.add, ↓reduceIte, D6] at x0 x0s
  have hty := r.ty.toNat_lt
  have xD : B10.D b := x0d
  by_cases ht0 : r.ty = 0
  ·have he : Ab6 r = H5 (Aw3 r) := by rw [Ab6, if_pos ht0, List.nil_append]
   have cT : decide ((0 : Int) < (r.ty.toNat : Int)) = false := decide_eq_false (by rw [ht0]; decide)
   rw [he]
   repeat' (first | with_reducible refine And.intro (by first | omega | (constructor <;> assumption)) ?_ | simp (maxSteps := 4000000) (disch := omega) only [go_sem, ↓reduceIte, x0, cT] | with_reducible refine D7 (by kernel_rfl) (C1 (by kernel_rfl)) (A3 1000 ?_))
   first | exact ⟨hBX, s10, rfl, by simp [closed, A0], hR10⟩ | exact ⟨s10, rfl, by simp [closed, A0], hR10⟩ | exact ⟨hBX, s10, by simp [closed, A0], hR10⟩ | exact ⟨s10, by simp [closed, A0], hR10⟩ | exact ⟨hBX, s10, by simp [closed, A0, E2]⟩ | exact ⟨s10, by simp [closed, A0, E2]⟩
  ·have he : Ab6 r = r.ty :: H5 (Aw3 r) := by rw [Ab6, if_neg ht0]; rfl
   have htn : r.ty.toNat ≠ 0 := fun h0 => ht0 (UInt8.toNat_inj.1 (by rw [h0]; rfl))
   have cT : decide ((0 : Int) < (r.ty.toNat : Int)) = true := decide_eq_true (by omega)
   rw [he]
   repeat' (first | with_reducible refine And.intro (by first | omega | (constructor <;> assumption) | (simp; done)) ?_ | simp (maxSteps := 4000000) (disch := omega) only [go_sem, ↓reduceIte, x0, cT] | with_reducible refine D7 (by kernel_rfl) (C1 (by kernel_rfl)) (A3 1000 ?_))
   refine appB (T := 5) (l := some (1, [])) (xs := [r.ty]) 200000 1 (H5 (Aw3 r)) rfl Tryz.underlying39 (.inl ⟨_, Tryz.underlying39⟩) zr5 cz5 by5 rfl rfl rfl (by simp [lOk, maxLen]) (hR10.1.src _) (by omega) (fun l7 hl7 => ?_)
   refine J0 (xs := [r.ty] ++ H5 (Aw3 r)) (T := 5) 200001 (1 + (H5 (Aw3 r)).length) rfl (by rw [List.length_append]; rfl) hl7 (by simp) (fun b3 ad3 cap3 B11 hB11 hfz hbY hcap3 => A3 1000 ?_)
   change BExt B10 B11 at hB11
   repeat' (simp (maxSteps := 4000000) (disch := omega) only [go_sem, ↓reduceIte, hfz])
   rw [show 1 + (H5 (Aw3 r)).length = (H5 (Aw3 r)).length + 1 from Nat.add_comm _ _]
   exact ⟨hBX.trans hB11, (ad3, cap3), rfl, ⟨trivial, trivial, trivial⟩, hbY, by simp only; omega⟩
end Go.Proofs.YtepabkjfnpaijaaGreat
