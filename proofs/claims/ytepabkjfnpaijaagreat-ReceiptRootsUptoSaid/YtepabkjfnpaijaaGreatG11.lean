/- Part of a proof over the seat YtepabkjfnpaijaaGreat. -/
import Derived.Test.YtepabkjfnpaijaaGreatG10
import Derived.Test.YtepabkjfnpaijaaGreatEng2
set_option linter.unusedSimpArgs false
set_option linter.unusedVariables false
set_option maxRecDepth 100000
namespace Go.Proofs.YtepabkjfnpaijaaGreat
open Go RowKit Go.Ew
set_option maxHeartbeats 4000000
theorem Em1 : D5 Tryz.f14.ntmps (Tryz.f14.body.getD .skip) = true := by kernel_rfl
def lst (ks : List Itm) : Itm := .mk 1 [] ks
/-- The item of a log. -/
def T4 (g : LogV) : Itm := lst [txt g.ad, lst (g.tops.map txt), txt g.dt]
theorem Cb9 {B : Base} {g : LogV} (h : g.Ok B) : Does Tryz.prog 14 [.agg g.ev] B (fun s : Plc => .agg (itE (T4 g) s)) (fun s B' => ItAt B' (T4 g) s) := by
 refine I7 Es4 (fun s B B' hB hR => hR.ext hB) Tryz.func14 rfl Em1 (by simp [Tryz.f14]) ⟨Aa1 (by simp [closed]) (by simp [closed]), trivial⟩ (fun B0 hB0 => A3 1000 ?_)
 replace h := h.ext hB0
 have f1 : ∀ u v, F7 (T7 g.ad (.raw u) (.raw v)) = (u.oneCell' && v.oneCell') := fun u v => by rw [Bp2]; rfl
 have f2 : ∀ u v, (T7 g.ad u v).length = 22 := fun u v => Q4 h.ha
 have f3 : ∀ u v d, (T7 g.ad u v).getD 20 d = u := fun u v d => Af7 h.ha
 have f4 : ∀ u v d, (T7 g.ad u v).getD 21 d = v := fun u v d => As6 h.ha
 have ht := h.tb
 have hgc : ∀ n, A0 n g.ev := fun n => Aa1 (by simp [closed]) (by simp [closed])
 repeat' (first | with_reducible refine And.intro (by omega) ?_ | simp (maxSteps := 4000000) (disch := omega) only [go_sem, ↓reduceIte, Tryz.f14, f1, f2, f3, f4])
 refine G8 (S := Nat × Lst × List (Itm × Plc) × Base) (fun s => s.1 ≤ g.tn ∧ lOk z3 s.1 s.2.1 ∧ BExt B0 s.2.2.2 ∧ (∀ q ∈ s.2.2.1, ItAt s.2.2.2 q.1 q.2) ∧ s.2.2.1.map Prod.fst = (g.tops.take s.1).map txt)
  (fun u => ⟨[(9, .int .i64 (u.1 : Nat)), (8, .int .i64 (g.tn : Nat)), (7, .raw (.slice g.tA g.tn g.tc)), (3, lE 2 u.1 u.2.1), (2, .ptr 1 0), (1, .ptr 0 0)], 3, [(2, lO 55 (u.2.2.1.flatMap itQ) u.2.1), (1, some (.cells [.int .i64 0, .raw (.slice none 0 0), .raw (.slice none 0 0)] 55 (0, 0))), (0, some (.cells g.ev 47 (0, 0)))], u.2.2.2, []⟩)
  (fun u => g.tn - u.1) (0, none, [], B0) ⟨Nat.zero_le _, rfl, BExt.refl _, by simp, rfl⟩ (Weak.sub (A5 (by simp [wσ, go_sem, closed, A0, A4, lE, lO, clO, hgc] <;> omega) (by simp [whs, Go.Ew.hget, go_sem, EObj.closed, closed, A0, A4, lE, lO, clO, hgc]) (by simp [*]) rfl rfl (by simp))) ?_
 rintro ⟨i, l', qs', B2⟩ ⟨hi, hl, hB2, hok, hbd⟩
 simp only at hi hl hB2 hok hbd ⊢
 replace h := h.ext hB2
 have hLl : qs'.length = i := by have := congrArg List.length hbd; simp [L1] at this; omega
 rcases Nat.lt_or_ge i g.tn with hi2 | hi2
 ·refine A3 1000 ?_
  simp (maxSteps := 4000000) (disch := omega) only [go_sem, ↓reduceIte]
  repeat (with_reducible refine And.intro (by omega) ?_)
  refine A8 (fun h2 => ?_) (fun h2 => by simp at h2; omega)
  obtain ⟨m1, m2, m3, m4⟩ := h.ldT hi2
  have hq := Ar0 h hi2
  have hqi : g.tops[i]'(by rw [L1]; exact hi2) = g.top i := Ap4 hi2
  obtain ⟨q, hq0⟩ : ∃ q, q = g.top i := ⟨_, rfl⟩
  rw [← hq0] at m1 hq hqi
  have q1 := Ao5 q
  repeat' (first | with_reducible refine And.intro (by first | omega | (constructor <;> assumption) | (simp; done) | (simp [*]; done)) ?_ | simp (maxSteps := 4000000) (disch := omega) only [go_sem, ↓reduceIte, Int.toNat_natCast, m1, q1, List.length_map, hq, J6 hq])
  refine Y5 3 0 32 32 [] q Dy7 (by simp [A0]) rfl rfl (Cr4 hq) (fun s => by simp [closed, A0]) (fun B ad cap hB hb => W4 q 32 B ad cap hb hq (by omega)) (fun s2 B3 hB3 hR3 => A3 1000 ?_)
  change BExt B2 B3 at hB3
  repeat' (first | with_reducible refine And.intro (by first | omega | (simp; done)) ?_ | simp (maxSteps := 4000000) (disch := omega) only [go_sem, ↓reduceIte])
  refine Aa8 (l := l') (xs := qs'.flatMap itQ) (zs := z3) (news := itE (txt q) s2) (T := 55) 2 i rfl Tryz.underlying53 (.inl ⟨_, Tryz.underlying53⟩) Av7 Aw7 (by simp [z3]) C0 rfl rfl rfl hl (by rw [G6, hLl]; rfl) (A7 0 _) (F3 (m := 1) rfl rfl) (by simp [z3]) rfl (by simp only [maxLen]; omega) (by rw [show Tryz.prog.bytesOf 55 = 56 from Ax2]; omega) (fun l2 hl2 => ?_)
  refine K7 [5] 2 (by simp) (by simp) (by simp) (by simp) (A3 1000 ?_)
  have hev : qs'.flatMap itQ ++ itE (txt q) s2 = (qs' ++ [(txt q, s2)]).flatMap itQ := by
   rw [List.flatMap_append, List.flatMap_singleton]; rfl
  repeat' (simp (maxSteps := 4000000) (disch := omega) only [go_sem, ↓reduceIte, hev, R3 (ks := [5]) (k := 2) (r := 5) rfl, okC, okE, O8, E6, F4 (ks := [5]) (k := 2) hl2 (A7 0 (qs' ++ [(txt q, s2)])) C0, E1, G2 (Nat.zero_le _) _ (hgc 0), H4 _ _ (hgc 0)])
  have hok' : ∀ a ∈ qs' ++ [(txt q, s2)], ItAt B3 a.1 a.2 := fun a ha => by
   rcases List.mem_append.1 ha with h3 | h3
   ·exact (hok a h3).ext hB3
   ·obtain rfl := List.mem_singleton.1 h3
    exact hR3
  have hbd' : (qs' ++ [(txt q, s2)]).map Prod.fst = (g.tops.take (i + 1)).map txt := by
   rw [List.take_succ_eq_append_getElem (by rw [L1]; exact hi2), List.map_append, List.map_append, hbd, hqi]
   rfl
  have cl2 : ∀ n, clO n (lO 55 ((qs' ++ [(txt q, s2)]).flatMap itQ) l2) = True := fun n => G0 hl2 (A7 0 _) C0
  have cl3 : ∀ n, clO n (lO 55 (qs'.flatMap itQ ++ itQ (txt q, s2)) l2) = True := fun n => by have := cl2 n; rwa [List.flatMap_append, List.flatMap_singleton] at this
  exact ⟨(i + 1, l2, qs' ++ [(txt q, s2)], B3), ⟨hi2, hl2, hB2.trans hB3, hok', hbd'⟩, Weak.sub (A5 (by simp [wσ, go_sem, closed, A0, A4, cl3, hgc] <;> omega) (by simp [whs, Go.Ew.hget, go_sem, EObj.closed, closed, A0, A4, cl3, hgc]) (by simp [*]) rfl rfl (by simp)), by simp only; omega⟩
 ·obtain rfl : i = g.tn := by omega
  refine R5 (xs := qs'.flatMap itQ) (T := 55) 2 g.tn rfl hl (by rw [G6, hLl]; rfl) (A7 0 _) C0 (by simp) (fun b2 ad2 cap2 B3 hB3 hf hD hso hcell => ?_)
  change BExt B2 B3 at hB3
  have hC : CellsAt B3 ad2 (qs'.flatMap itC) := J1 hD hso (fun h0 => by
   rw [h0] at hLl; rw [List.length_eq_zero_iff.1 hLl]; rfl) hcell (S6 _ _)
  have hbt : qs'.map Prod.fst = g.tops.map txt := by rw [hbd, List.take_of_length_le (by rw [L1]; omega)]
  simp only [frzσ, frz, hf, I6, L3, S1, EObj.frz, G4 _ (hgc 0), Ab4, Nat.reduceEqDiff, if_false, if_true, ↓reduceIte, P4]
  refine Am1 0 (cs := g.ev) (T := 47) (fr := (0, 0)) rfl (hgc 0) (by simp) (fun b B4 hB4 hbD hbH => A3 1000 ?_)
  change BExt B3 B4 at hB4
  have hev : C5 (fun _ => 0) g.ev = g.cells := by simp [T7, LogV.cells, C4, bE, bV, real, Function.comp_def]
  have hgC : CellsAt B4 (some ⟨b, 0, none⟩) g.cells := M2 hbD (by rw [← hev]; exact hbH)
  have hA : BytesAt B4 (some ⟨b, 0, none⟩) g.ad := by
   have := hgC.sub 0 20
   simp only [List.drop_zero, LogV.cells, List.take_append_of_le_length (show 20 ≤ (g.ad.map bV).length by simp [h.ha]), List.take_of_length_le (show (g.ad.map bV).length ≤ 20 by simp [h.ha])] at this
   exact this
  have h4 := h.ext (hB3.trans hB4)
  simp (maxSteps := 4000000) (disch := omega) only [go_sem, ↓reduceIte]
  repeat (with_reducible refine And.intro (by omega) ?_)
  refine A8 (fun h2 => by simp at h2) (fun h2 => ?_)
  obtain ⟨r1, r2, r3⟩ := hgC.raw (j := 21) (v := .slice g.dA g.dn g.dc) (by simp [LogV.cells, List.getElem?_append, h.ha])
  have e21 : G9 (some (⟨b, 0, none⟩ : Addr)) 21 = ⟨b, 21, none⟩ := by simp [E9, Addr.add]
  rw [e21] at r1 r3
  simp only [D6] at r1
  have hdb := h.db
  repeat' (first | with_reducible refine And.intro (by first | omega | (constructor <;> assumption) | (simp; done)) ?_ | simp (maxSteps := 4000000) (disch := omega) only [go_sem, ↓reduceIte, r1] | with_reducible refine C9 (id := 7) [0, 1, 3, 5, 6, 2, 4, 7, 8, 9, 10] mixed (by kernel_rfl) (by simp) (fun hin => C8 1000 hin ?_) | with_reducible refine A3 1000 ?_)
  refine H7 (W4 g.ad 20 _ _ _ hA h.ha (by omega)) (fun _ => by simp [closed, A0]) (by kernel_rfl) (F1 (by kernel_rfl) (C1 (by kernel_rfl))) (fun hin2 s5 B5 hB5 hR5 => C8 1000 hin2 ?_)
  change BExt B4 B5 at hB5
  have hok5 : ∀ q ∈ qs', ItAt B5 q.1 q.2 := fun q hq => (hok q hq).ext (hB3.trans (hB4.trans hB5))
  repeat' (simp (maxSteps := 4000000) (disch := omega) only [go_sem, ↓reduceIte])
  refine H7 (Af9 qs' g.tn _ _ _ (hC.ext (hB4.trans hB5)) (by omega) hok5 hLl) (fun _ => by simp [closed, A0]) (by kernel_rfl) (F1 (by kernel_rfl) (C1 (by kernel_rfl))) (fun hin2 s6 B6 hB6 hR6 => C8 1000 hin2 ?_)
  change BExt B5 B6 at hB6
  repeat' (simp (maxSteps := 4000000) (disch := omega) only [go_sem, ↓reduceIte])
  refine H7 (W4 g.dt g.dn _ _ _ (h4.dB.ext (hB5.trans hB6)) h.hd (by omega)) (fun _ => by simp [closed, A0]) (by kernel_rfl) (F1 (by kernel_rfl) (C1 (by kernel_rfl))) (fun hin2 s7 B7 hB7 hR7 => C8 1000 hin2 ?_)
  change BExt B6 B7 at hB7
  repeat' (first | with_reducible refine And.intro (by first | omega | (simp; done)) ?_ | simp (maxSteps := 4000000) (disch := omega) only [go_sem, ↓reduceIte])
  refine M9 100027 0 3 3 [] ([(txt g.ad, s5), (Itm.mk 1 [] (qs'.map Prod.fst), s6), (txt g.dt, s7)].flatMap itC) Dn5 rfl rfl rfl (fun s => by simp [closed, A0]) (fun B ad cap hB hc3 => Af9 [(txt g.ad, s5), (Itm.mk 1 [] (qs'.map Prod.fst), s6), (txt g.dt, s7)] 3 B ad cap hc3 (by simp) (fun q hq => by
   simp only [List.mem_cons, List.not_mem_nil, or_false] at hq
   rcases hq with rfl | rfl | rfl
   ·exact hR5.ext (hB6.trans (hB7.trans hB))
   ·exact hR6.ext (hB7.trans hB)
   ·exact hR7.ext hB) rfl) (by kernel_rfl) (F1 (by kernel_rfl) (C1 (by kernel_rfl))) (fun hin2 s8 B8 hB8 hR8 => C8 1000 hin2 ?_)
  change BExt B7 B8 at hB8
  have hfin : Itm.mk 1 [] (List.map Prod.fst [(txt g.ad, s5), (Itm.mk 1 [] (qs'.map Prod.fst), s6), (txt g.dt, s7)]) = T4 g := by
   simp only [List.map_cons, List.map_nil, hbt]; rfl
  rw [hfin] at hR8
  simp only [hfin]
  repeat' (first | simp (maxSteps := 4000000) (disch := omega) only [go_sem, ↓reduceIte] | with_reducible refine D7 (by kernel_rfl) (C1 (by kernel_rfl)) (A3 1000 ?_))
  exact ⟨hB2.trans (hB3.trans (hB4.trans (hB5.trans (hB6.trans (hB7.trans hB8))))), s8, rfl, by simp [closed, A0], hR8⟩
end Go.Proofs.YtepabkjfnpaijaaGreat
namespace Go.Proofs.YtepabkjfnpaijaaGreat
open Go RowKit Go.Ew
set_option maxHeartbeats 4000000
theorem Em2 : D5 Tryz.f13.ntmps (Tryz.f13.body.getD .skip) = true := by kernel_rfl
theorem in8 : D5 Tryz.f8.ntmps (Tryz.f8.body.getD .skip) = true := by kernel_rfl
/-- A receipt, and where its logs lie. -/
structure RcV where
 ty : UInt8
 ok : Int
 gas : Nat
 F : Blm
 lA : Option Addr
 lc : Nat
 L : List LogV
def rcE (r : RcV) : List EV := .int .u8 (r.ty.toNat : Int) :: .int .i64 r.ok :: .int .u64 (r.gas : Int) :: (D4 .u8 (fB r.F) 256 ++ [.raw (.slice r.lA r.L.length r.lc)])
theorem R0 (r : RcV) : (rcE r).length = 260 := by simp [rcE, P0]
theorem Dm7 (r : RcV) (d : EV) : (rcE r).getD 0 d = .int .u8 (r.ty.toNat : Int) := rfl
theorem Dm6 (r : RcV) (d : EV) : (rcE r).getD 1 d = .int .i64 r.ok := rfl
theorem Dm5 (r : RcV) (d : EV) : (rcE r).getD 2 d = .int .u64 (r.gas : Int) := rfl
theorem Ah9 (r : RcV) (d : EV) : (rcE r).getD 259 d = .raw (.slice r.lA r.L.length r.lc) := by
 have : (rcE r)[259]? = some (.raw (.slice r.lA r.L.length r.lc)) := by
  show (D4 .u8 (fB r.F) 256 ++ [.raw (.slice r.lA r.L.length r.lc)])[256]? = _
  rw [List.getElem?_append_right (by rw [P0]; omega), P0]; rfl
 rw [List.getD_eq_getElem?_getD, this]; rfl
theorem Cx2 (r : RcV) : ((rcE r).drop 3).take 256 = D4 .u8 (fB r.F) 256 := by
 simp only [rcE, List.drop_succ_cons, List.drop_zero]
 rw [List.take_append_of_le_length (by rw [P0]; omega), List.take_of_length_le (by rw [P0]; omega)]
theorem Bu9 (r : RcV) : (rcE r).take 260 = rcE r := List.take_of_length_le (by rw [R0]; omega)
theorem J2 (a b : List EV) : F7 (a ++ b) = (F7 a && F7 b) := by
 induction a with
 | nil => rfl
 | cons v a ih => simp only [List.cons_append, F7, ih, Bool.and_assoc]
theorem Af5 (k : IntKind) (z : Nat → Int) (n : Nat) : F7 (D4 k z n) = true := by
 unfold D4
 generalize List.range n = l
 induction l with
 | nil => rfl
 | cons i l ih => rw [List.map_cons, F7, ih]; rfl
theorem U5 (r : RcV) : F7 (rcE r) = true := by
 simp only [rcE, F7, J2, Af5]; rfl
theorem O9 (n : Nat) (r : RcV) : A0 n (rcE r) := by
 simp only [rcE, A0]
 exact ⟨by simp [closed], by simp [closed], by simp [closed], closeds_append.2 ⟨A2 _ _ _ _, by simp [A0, closed]⟩⟩
/-- Whether a receipt may be. -/
def An7 (r : RcV) : Bool := (r.L.all fun g => decide (g.tn ≤ 4)) && (decide ((r.ty.toNat : Int) ≤ 3) && (r.ok == 0 || r.ok == 1) && eqB r.F (Ak2 zB (G7 r.L)))
theorem Cj7 {B : Base} {r : RcV} (h : LogsAt B r.lA r.L) : Does Tryz.prog 13 [.agg (rcE r)] B (fun _ : Unit => .bool (An7 r)) (fun _ _ => True) := by
 refine I7 Es5 (fun s B B' hB hR => hR) Tryz.func13 rfl Em2 (by simp [Tryz.f13]) ⟨O9 0 r, trivial⟩ (fun B0 hB0 => A3 1000 ?_)
 replace h := h.ext hB0
 have hrc : ∀ n, A0 n (rcE r) := fun n => O9 n r
 repeat' (first | with_reducible refine And.intro (by omega) ?_ | simp (maxSteps := 4000000) (disch := omega) only [go_sem, ↓reduceIte, Tryz.f13, R0, Dm7, Dm6, Dm5, Ah9, Cx2, U5])
 refine G8 (S := Nat) (fun i => i ≤ r.L.length ∧ (r.L.take i).all (fun g => decide (g.tn ≤ 4)) = true)
  (fun i => ⟨[(8, .int .i64 (i : Nat)), (7, .int .i64 (r.L.length : Nat)), (6, .raw (.slice r.lA r.L.length r.lc)), (1, .ptr 0 0)], 1, [(0, some (.cells (rcE r) 29 (0, 0)))], B0, []⟩)
  (fun i => r.L.length - i) 0 ⟨Nat.zero_le _, rfl⟩ (Weak.sub (A5 (by simp [wσ, go_sem, closed, A0, A4, hrc] <;> omega) (by simp [whs, Go.Ew.hget, go_sem, EObj.closed, closed, A0, A4, hrc]) (by simp [*]) rfl rfl (by simp))) ?_
 rintro i ⟨hi, hall⟩
 have hlen := h.len
 refine A3 1000 ?_
 simp (maxSteps := 4000000) (disch := omega) only [go_sem, ↓reduceIte]
 repeat (with_reducible refine And.intro (by omega) ?_)
 refine A8 (fun h2 => ?_) (fun h2 => ?_)
 all_goals (try simp only [bne_iff_ne, ne_eq, beq_iff_eq, decide_eq_true_eq, decide_eq_false_iff_not, Bool.not_eq_true, Bool.not_eq_false, Bool.not_true, Bool.not_false, bne_eq_false_iff_eq, beq_eq_false_iff_ne, Bool.and_eq_true, Bool.or_eq_true, Bool.and_eq_false_imp, Bool.or_eq_false_iff, Bool.not_eq_true', Bool.not_eq_false', Int.not_lt, Int.not_le] at h2)
 ·have hi2 : i < r.L.length := by omega
  obtain ⟨l1, l2, l3, l4⟩ := h.ld hi2
  have h1 := h.ok _ (List.getElem_mem hi2)
  have hm := List.getElem_mem hi2
  have htk : (r.L.take (i + 1)) = r.L.take i ++ [r.L[i]] := List.take_succ_eq_append_getElem hi2
  obtain ⟨g, hg⟩ : ∃ g, g = r.L[i] := ⟨_, rfl⟩
  rw [← hg] at l1 h1 htk hm
  have ht := h1.tb
  have f1 : F7 g.ev = true := Aa0 rfl rfl
  have f2 : ∀ u v, (T7 g.ad u v).length = 22 := fun u v => Q4 h1.ha
  have f3 : ∀ u v d, (T7 g.ad u v).getD 20 d = u := fun u v d => Af7 h1.ha
  repeat' (first | with_reducible refine And.intro (by first | omega | (constructor <;> assumption) | (simp [*]; done)) ?_ | simp (maxSteps := 4000000) (disch := omega) only [go_sem, ↓reduceIte, Int.toNat_natCast, l1, f1, f2, f3, I4 h1.ha] | ((first | refine A8 (fun h => ?_) (fun h => ?_) | refine E8 (fun h => ?_) (fun h => ?_) | refine F6 (fun h => ?_) (fun h => ?_)) <;> (try simp only [bne_iff_ne, ne_eq, beq_iff_eq, decide_eq_true_eq, decide_eq_false_iff_not, Bool.not_eq_true, Bool.not_eq_false, Bool.not_true, Bool.not_false, bne_eq_false_iff_eq, beq_eq_false_iff_ne, Bool.and_eq_true, Bool.or_eq_true, Bool.and_eq_false_imp, Bool.or_eq_false_iff, Bool.not_eq_true', Bool.not_eq_false', Int.not_lt, Int.not_le] at h) <;> (try (exfalso; omega))))
  ·have hx : An7 r = false := by
    have : (r.L.all fun g => decide (g.tn ≤ 4)) = false := by
     rw [List.all_eq_false]; exact ⟨g, hm, by simp; omega⟩
    rw [An7, this]; rfl
   exact ⟨BExt.refl _, (), by rw [hx], by simp [closed]⟩
  ·exact ⟨i + 1, ⟨hi2, by rw [htk, List.all_append, hall]; simp; omega⟩, Weak.sub (A5 (by simp [wσ, go_sem, closed, A0, A4, hrc] <;> omega) (by simp [whs, Go.Ew.hget, go_sem, EObj.closed, closed, A0, A4, hrc]) (by simp [*]) rfl rfl (by simp)), by omega⟩
 ·obtain rfl : i = r.L.length := by omega
  rw [List.take_length] at hall
  have hmr : An7 r = (decide ((r.ty.toNat : Int) ≤ 3) && (r.ok == 0 || r.ok == 1) && eqB r.F (Ak2 zB (G7 r.L))) := by rw [An7, hall]; rfl
  rw [hmr]
  have hof := Dr0 r.L r.L.length _ r.lA r.lc h rfl
  clear h
  repeat' (first | with_reducible refine And.intro (by omega) ?_ | simp (maxSteps := 4000000) (disch := omega) only [go_sem, ↓reduceIte, R0, Dm7, Dm6, Dm5, Ah9, Cx2, U5, X7, eq8] | with_reducible refine C9 (id := 7) [0, 1, 2, 3, 4, 5, 6, 7, 8, 9, 10, 11, 12, 13, 14, 15, 16, 17, 18, 19, 20, 21] mixed (by kernel_rfl) (by simp) (fun hin => C8 1000 hin ?_) | with_reducible refine D7 (by kernel_rfl) (C1 (by kernel_rfl)) (A3 1000 ?_) | refine Aj9 (hof) (by simp [closed, A0, A2, C6]) (by kernel_rfl) (F1 (by kernel_rfl) (C1 (by kernel_rfl))) (fun hin => C8 1000 hin ?_) | with_reducible refine A3 1000 ?_ | ((first | refine A8 (fun h => ?_) (fun h => ?_) | refine E8 (fun h => ?_) (fun h => ?_) | refine F6 (fun h => ?_) (fun h => ?_)) <;> (try simp only [bne_iff_ne, ne_eq, beq_iff_eq, decide_eq_true_eq, decide_eq_false_iff_not, Bool.not_eq_true, Bool.not_eq_false, Bool.not_true, Bool.not_false, bne_eq_false_iff_eq, beq_eq_false_iff_ne, Bool.and_eq_true, Bool.or_eq_true, Bool.and_eq_false_imp, Bool.or_eq_false_iff, Bool.not_eq_true', Bool.not_eq_false', Int.not_lt, Int.not_le] at h) <;> (try (exfalso; omega))))
  all_goals exact ⟨BExt.refl _, (), by simp_all <;> (intros; omega), by simp [closed]⟩
end Go.Proofs.YtepabkjfnpaijaaGreat
namespace Go.Proofs.YtepabkjfnpaijaaGreat
open Go RowKit Go.Ew
set_option maxHeartbeats 4000000
/-- A filter's bytes. -/
def blB (F : Blm) : List UInt8 := (List.range 256).map fun i => UInt8.ofNat (F i).toNat
theorem Aa7 (F : Blm) : (blB F).length = 256 := by simp [blB]
theorem Df5 (F : Blm) : (blB F).map bE = D4 .u8 (fB F) 256 := by
 simp only [blB, D4, List.map_map]
 apply List.map_congr_left
 intro i _
 simp only [Function.comp_def, bE, fB, n8]
 rw [UInt8.toNat_ofNat_of_lt' (by have := (F i).isLt; simpa using this)]
/-- A receipt as an item, and its bytes. -/
def Aw3 (r : RcV) : Itm := lst [txt (leB r.ok.toNat), txt (leB r.gas), txt (blB r.F), lst (r.L.map T4)]
def Ab6 (r : RcV) : List UInt8 := (if r.ty = 0 then [] else [r.ty]) ++ H5 (Aw3 r)
theorem Am4 (p : List UInt8) (d : Nat) : chk (txt p) d = 0 := by simp [txt, chk, Bf9]
theorem Be6 (ks : List Itm) (d : Nat) (hd : d < 64) (h : ∀ k ∈ ks, chk k (d + 1) = 0) : chk (lst ks) d = 0 := by
 rw [lst, chk, if_neg (by omega), if_neg (by simp), Aj7 h]
theorem Dl0 (g : LogV) (d : Nat) (hd : d < 60) : chk (T4 g) d = 0 := by
 refine Be6 _ _ (by omega) fun k hk => ?_
 simp only [List.mem_cons, List.not_mem_nil, or_false] at hk
 rcases hk with rfl | rfl | rfl
 ·exact Am4 _ _
 ·refine Be6 _ _ (by omega) fun k hk => ?_
  obtain ⟨p, _, rfl⟩ := List.mem_map.1 hk
  exact Am4 _ _
 ·exact Am4 _ _
theorem Co2 (r : RcV) : chk (Aw3 r) 0 = 0 := by
 refine Be6 _ _ (by omega) fun k hk => ?_
 simp only [List.mem_cons, List.not_mem_nil, or_false] at hk
 rcases hk with rfl | rfl | rfl | rfl
 ·exact Am4 _ _
 ·exact Am4 _ _
 ·exact Am4 _ _
 ·refine Be6 _ _ (by omega) fun k hk => ?_
  obtain ⟨g, _, rfl⟩ := List.mem_map.1 hk
  exact Dl0 g _ (by omega)
theorem Da0 {B : Base} {r : RcV} (h : LogsAt B r.lA r.L) (hm : An7 r = false) : Does Tryz.prog 8 [.agg (rcE r)] B (fun _ : Unit => .tup [.raw (.slice none 0 0), .int .i64 190]) (fun _ _ => True) := by
 refine I7 en8 (fun s B B' hB hR => hR) Tryz.func8 rfl in8 (by simp [Tryz.f8]) ⟨O9 0 r, trivial⟩ (fun B0 hB0 => A3 1000 ?_)
 have hmy := Cj7 (h.ext hB0)
 rw [hm] at hmy
 repeat' (first | simp (maxSteps := 4000000) (disch := omega) only [go_sem, ↓reduceIte, Tryz.f8, R0, Bu9, U5] | refine F5 (hmy) (by simp [closed, A0, A2, C6]) (A3 1000 ?_))
 exact ⟨BExt.refl _, (), by simp [closed, A0]⟩
def rcC (r : RcV) : List Value := .int .u8 (r.ty.toNat : Int) :: .int .i64 r.ok :: .int .u64 (r.gas : Int) :: ((blB r.F).map bV ++ [.slice r.lA r.L.length r.lc])
theorem Bu8 (r : RcV) : C5 (fun _ => 0) (rcE r) = rcC r := by
 simp only [rcE, rcC, ← Df5, C5]
 simp [real, C4, bE, bV, Function.comp_def]
theorem Cn2 {B : Base} {r : RcV} (h : LogsAt B r.lA r.L) (hm : An7 r = true) (hgas : r.gas < 18446744073709551616) (hf : (H5 (Aw3 r)).length < 35184372088832) :
  Does Tryz.prog 8 [.agg (rcE r)] B (fun s : Option Addr × Nat => .tup [.raw (.slice s.1 (Ab6 r).length s.2), .int .i64 0]) (fun s B' => BytesAt B' s.1 (Ab6 r) ∧ (Ab6 r).length ≤ s.2) := by
 refine I7 en8 (fun s B B' hB hR => ⟨hR.1.ext hB, hR.2⟩) Tryz.func8 rfl in8 (by simp [Tryz.f8]) ⟨O9 0 r, trivial⟩ (fun B0 hB0 => A3 1000 ?_)
 replace h := h.ext hB0
 have hmy := Cj7 h
 rw [hm] at hmy
 have hrc : ∀ n, A0 n (rcE r) := fun n => O9 n r
 repeat' (first | with_reducible refine And.intro (by omega) ?_ | simp (maxSteps := 4000000) (disch := omega) only [go_sem, ↓reduceIte, Tryz.f8, R0, Dm7, Dm6, Dm5, Ah9, Bu9, U5] | refine F5 (hmy) (by simp [closed, A0, A2, C6]) (A3 1000 ?_))
 refine G8 (S := Nat × Lst × List (Itm × Plc) × Base) (fun s => s.1 ≤ r.L.length ∧ lOk z3 s.1 s.2.1 ∧ BExt B0 s.2.2.2 ∧ (∀ q ∈ s.2.2.1, ItAt s.2.2.2 q.1 q.2) ∧ s.2.2.1.map Prod.fst = (r.L.take s.1).map T4)
  (fun u => ⟨[(15, .int .i64 (u.1 : Nat)), (14, .int .i64 (r.L.length : Nat)), (13, .raw (.slice r.lA r.L.length r.lc)), (4, lE 1 u.1 u.2.1), (1, .ptr 0 0)], 2, [(1, lO 55 (u.2.2.1.flatMap itQ) u.2.1), (0, some (.cells (rcE r) 29 (0, 0)))], u.2.2.2, []⟩)
  (fun u => r.L.length - u.1) (0, none, [], B0) ⟨Nat.zero_le _, rfl, BExt.refl _, by simp, rfl⟩ (Weak.sub (A5 (by simp [wσ, go_sem, closed, A0, A4, lE, lO, clO, hrc] <;> omega) (by simp [whs, Go.Ew.hget, go_sem, EObj.closed, closed, A0, A4, lE, lO, clO, hrc]) (by simp [*]) rfl rfl (by simp))) ?_
 rintro ⟨i, l', qs', B2⟩ ⟨hi, hl, hB2, hok, hbd⟩
 simp only at hi hl hB2 hok hbd ⊢
 replace h := h.ext hB2
 have hlen := h.len
 have hLl : qs'.length = i := by have := congrArg List.length hbd; simp at this; omega
 rcases Nat.lt_or_ge i r.L.length with hi2 | hi2
 ·refine A3 1000 ?_
  simp (maxSteps := 4000000) (disch := omega) only [go_sem, ↓reduceIte]
  repeat (with_reducible refine And.intro (by omega) ?_)
  refine A8 (fun h2 => ?_) (fun h2 => by simp at h2; omega)
  obtain ⟨l1, l2, l3, l4⟩ := h.ld hi2
  have h1 := h.ok _ (List.getElem_mem hi2)
  have htk : r.L.take (i + 1) = r.L.take i ++ [r.L[i]] := List.take_succ_eq_append_getElem hi2
  obtain ⟨g, hg⟩ : ∃ g, g = r.L[i] := ⟨_, rfl⟩
  rw [← hg] at l1 h1 htk
  have ht := h1.tb
  have f1 : F7 g.ev = true := Aa0 rfl rfl
  have f2 : ∀ u v, (T7 g.ad u v).length = 22 := fun u v => Q4 h1.ha
  have f8 : ∀ u v, List.take 22 (T7 g.ad u v) = T7 g.ad u v := fun u v => Bj6 h1.ha
  have hgc : ∀ n, A0 n g.ev := fun n => Aa1 (by simp [closed]) (by simp [closed])
  repeat' (first | with_reducible refine And.intro (by first | omega | (constructor <;> assumption) | (simp [*]; done)) ?_ | simp (maxSteps := 4000000) (disch := omega) only [go_sem, ↓reduceIte, Int.toNat_natCast, l1, f1, f2, f8, I4 h1.ha])
  refine F9 (Cb9 h1) (fun _ => by simp [closed, A0]) (fun s2 B3 hB3 hR3 => A3 1000 ?_)
  change BExt B2 B3 at hB3
  repeat' (first | with_reducible refine And.intro (by first | omega | (simp; done)) ?_ | simp (maxSteps := 4000000) (disch := omega) only [go_sem, ↓reduceIte])
  refine Aa8 (l := l') (xs := qs'.flatMap itQ) (zs := z3) (news := itE (T4 g) s2) (T := 55) 1 i rfl Tryz.underlying53 (.inl ⟨_, Tryz.underlying53⟩) Av7 Aw7 (by simp [z3]) C0 rfl rfl rfl hl (by rw [G6, hLl]; rfl) (A7 0 _) (F3 (m := 1) rfl rfl) (by simp [z3]) rfl (by simp only [maxLen]; omega) (by rw [show Tryz.prog.bytesOf 55 = 56 from Ax2]; omega) (fun l2 hl2 => ?_)
  refine K7 [4] 1 (by simp) (by simp) (by simp) (by simp) (A3 1000 ?_)
  have hev : qs'.flatMap itQ ++ itE (T4 g) s2 = (qs' ++ [(T4 g, s2)]).flatMap itQ := by
   rw [List.flatMap_append, List.flatMap_singleton]; rfl
  repeat' (simp (maxSteps := 4000000) (disch := omega) only [go_sem, ↓reduceIte, hev, R3 (ks := [4]) (k := 1) (r := 4) rfl, okC, okE, O8, E6, F4 (ks := [4]) (k := 1) hl2 (A7 0 (qs' ++ [(T4 g, s2)])) C0, E1, G2 (Nat.zero_le _) _ (hrc 0), H4 _ _ (hrc 0), G2 (Nat.zero_le _) _ (hgc 0)])
  have hok' : ∀ a ∈ qs' ++ [(T4 g, s2)], ItAt B3 a.1 a.2 := fun a ha => by
   rcases List.mem_append.1 ha with h3 | h3
   ·exact (hok a h3).ext hB3
   ·obtain rfl := List.mem_singleton.1 h3
    exact hR3
  have hbd' : (qs' ++ [(T4 g, s2)]).map Prod.fst = (r.L.take (i + 1)).map T4 := by
   rw [htk, List.map_append, List.map_append, hbd]
   rfl
  have cl2 : ∀ n, clO n (lO 55 ((qs' ++ [(T4 g, s2)]).flatMap itQ) l2) = True := fun n => G0 hl2 (A7 0 _) C0
  have cl3 : ∀ n, clO n (lO 55 (qs'.flatMap itQ ++ itQ (T4 g, s2)) l2) = True := fun n => by have := cl2 n; rwa [List.flatMap_append, List.flatMap_singleton] at this
  exact ⟨(i + 1, l2, qs' ++ [(T4 g, s2)], B3), ⟨hi2, hl2, hB2.trans hB3, hok', hbd'⟩, Weak.sub (A5 (by simp [wσ, go_sem, closed, A0, A4, cl3, hrc] <;> omega) (by simp [whs, Go.Ew.hget, go_sem, EObj.closed, closed, A0, A4, cl3, hrc]) (by simp [*]) rfl rfl (by simp)), by simp only; omega⟩
 ·obtain rfl : i = r.L.length := by omega
  refine R5 (xs := qs'.flatMap itQ) (T := 55) 1 r.L.length rfl hl (by rw [G6, hLl]; rfl) (A7 0 _) C0 (by simp) (fun b2 ad2 cap2 B3 hB3 hf2 hD hso hcell => ?_)
  change BExt B2 B3 at hB3
  have hC : CellsAt B3 ad2 (qs'.flatMap itC) := J1 hD hso (fun h0 => by
   rw [h0] at hLl; rw [List.length_eq_zero_iff.1 hLl]; rfl) hcell (S6 _ _)
  have hbt : qs'.map Prod.fst = r.L.map T4 := by rw [hbd, List.take_length]
  simp only [frzσ, frz, hf2, I6, L3, S1, EObj.frz, G4 _ (hrc 0), Ab4, Nat.reduceEqDiff, if_false, if_true, ↓reduceIte, P4]
  refine Am1 0 (cs := rcE r) (T := 29) (fr := (0, 0)) rfl (hrc 0) (by simp) (fun b B4 hB4 hbD hbH => A3 1000 ?_)
  change BExt B3 B4 at hB4
  have hgC : CellsAt B4 (some ⟨b, 0, none⟩) (rcC r) := M2 hbD (by rw [← Bu8]; exact hbH)
  have hA : BytesAt B4 (some ⟨b, 3, none⟩) (blB r.F) := by
   have := hgC.sub 3 256
   simp only [rcC, List.drop_succ_cons, List.drop_zero, List.take_append_of_le_length (show 256 ≤ ((blB r.F).map bV).length by simp [Aa7]), List.take_of_length_le (show ((blB r.F).map bV).length ≤ 256 by simp [Aa7])] at this
   have e : (⟨b, 0, none⟩ : Addr).add 3 = ⟨b, 3, none⟩ := by simp [Addr.add]
   rw [e] at this
   exact this
  obtain ⟨r0, r0d, r0s⟩ := hgC.raw (j := 0) (v := .int .u8 (r.ty.toNat : Int)) rfl
  obtain ⟨r1, r1d, r1s⟩ := hgC.raw (j := 1) (v := .int .i64 r.ok) rfl
  obtain ⟨r2, r2d, r2s⟩ := hgC.raw (j := 2) (v := .int .u64 (r.gas : Int)) rfl
  simp only [E9, Addr.add, ↓reduceIte, Nat.reduceAdd, Nat.reduceEqDiff, D6, if_false, Nat.zero_add, Nat.one_ne_zero] at r0 r0s r1 r1s r2 r2s
  simp (maxSteps := 4000000) (disch := omega) only [go_sem, ↓reduceIte]
  repeat (with_reducible refine And.intro (by omega) ?_)
  refine A8 (fun h2 => by simp at h2) (fun h2 => ?_)
  have hok01 : r.ok = 0 ∨ r.ok = 1 := by
   simp only [An7, Bool.and_eq_true, Bool.or_eq_true, beq_iff_eq] at hm
   exact hm.2.1.2
  repeat' (first | with_reducible refine And.intro (by first | omega | (constructor <;> assumption) | (simp; done)) ?_ | simp (maxSteps := 4000000) (disch := omega) only [go_sem, ↓reduceIte, r0, r1, r2] | with_reducible refine C9 (id := 9) [0, 1, 2, 4, 5, 7, 8, 10, 3, 6, 9, 11, 12, 13, 14, 15, 16, 17, 18, 19] mixed (by kernel_rfl) (by simp) (fun hin => C8 1000 hin ?_) | with_reducible refine A3 1000 ?_)
  have ho : ((r.ok.toNat : Nat) : Int) = r.ok := by omega
  have hN1 := Al3 r.ok.toNat (by omega) B4
  rw [ho] at hN1
  refine H7 hN1 (fun _ => by simp [closed, A0]) (by kernel_rfl) (F1 (by kernel_rfl) (C1 (by kernel_rfl))) (fun hin2 s5 B5 hB5 hR5 => C8 1000 hin2 ?_)
  change BExt B4 B5 at hB5
  repeat' (simp (maxSteps := 4000000) (disch := omega) only [go_sem, ↓reduceIte])
  refine H7 (Al3 r.gas hgas B5) (fun _ => by simp [closed, A0]) (by kernel_rfl) (F1 (by kernel_rfl) (C1 (by kernel_rfl))) (fun hin2 s6 B6 hB6 hR6 => C8 1000 hin2 ?_)
  change BExt B5 B6 at hB6
  repeat' (simp (maxSteps := 4000000) (disch := omega) only [go_sem, ↓reduceIte])
  refine H7 (W4 (blB r.F) 256 B6 _ _ (hA.ext (hB5.trans hB6)) (Aa7 _) (by omega)) (fun _ => by simp [closed, A0]) (by kernel_rfl) (F1 (by kernel_rfl) (C1 (by kernel_rfl))) (fun hin2 s7 B7 hB7 hR7 => C8 1000 hin2 ?_)
  change BExt B6 B7 at hB7
  have hB47 := hB5.trans (hB6.trans hB7)
  have hok7 : ∀ q ∈ qs', ItAt B7 q.1 q.2 := fun q hq => (hok q hq).ext (hB3.trans (hB4.trans hB47))
  repeat' (simp (maxSteps := 4000000) (disch := omega) only [go_sem, ↓reduceIte])
  refine H7 (Af9 qs' r.L.length B7 _ _ (hC.ext (hB4.trans hB47)) (by omega) hok7 hLl) (fun _ => by simp [closed, A0]) (by kernel_rfl) (F1 (by kernel_rfl) (C1 (by kernel_rfl))) (fun hin2 s8 B8 hB8 hR8 => C8 1000 hin2 ?_)
  change BExt B7 B8 at hB8
  repeat' (first | with_reducible refine And.intro (by first | omega | (simp; done)) ?_ | simp (maxSteps := 4000000) (disch := omega) only [go_sem, ↓reduceIte])
  refine M9 100038 0 4 4 [] ([(txt (leB r.ok.toNat), s5), (txt (leB r.gas), s6), (txt (blB r.F), s7), (Itm.mk 1 [] (qs'.map Prod.fst), s8)].flatMap itC) Dn5 rfl rfl rfl (fun s => by simp [closed, A0]) (fun B ad cap hB hc3 => Af9 [(txt (leB r.ok.toNat), s5), (txt (leB r.gas), s6), (txt (blB r.F), s7), (Itm.mk 1 [] (qs'.map Prod.fst), s8)] 4 B ad cap hc3 (by simp) (fun q hq => by
   simp only [List.mem_cons, List.not_mem_nil, or_false] at hq
   rcases hq with rfl | rfl | rfl | rfl
   ·exact hR5.ext (hB6.trans (hB7.trans (hB8.trans hB)))
   ·exact hR6.ext (hB7.trans (hB8.trans hB))
   ·exact hR7.ext (hB8.trans hB)
   ·exact hR8.ext hB) rfl) (by kernel_rfl) (F1 (by kernel_rfl) (C1 (by kernel_rfl))) (fun hin2 s9 B9 hB9 hR9 => C8 1000 hin2 ?_)
  change BExt B8 B9 at hB9
  have hfin : Itm.mk 1 [] (List.map Prod.fst [(txt (leB r.ok.toNat), s5), (txt (leB r.gas), s6), (txt (blB r.F), s7), (Itm.mk 1 [] (qs'.map Prod.fst), s8)]) = Aw3 r := by
   simp only [List.map_cons, List.map_nil, hbt]; rfl
  rw [hfin] at hR9
  simp only [hfin]
  repeat' (simp (maxSteps := 4000000) (disch := omega) only [go_sem, ↓reduceIte])
  refine H7 (Cn3 hR9 (Co2 r) hf) (fun _ => by simp [closed, A0]) (by kernel_rfl) (F1 (by kernel_rfl) (C1 (by kernel_rfl))) (fun hin2 s10 B10 hB10 hR10 => C8 1000 hin2 ?_)
  change BExt B9 B10 at hB10
  have hB4X := hB47.trans (hB8.trans (hB9.trans hB10))
  have hBX := hB2.trans (hB3.trans (hB4.trans hB4X))
  obtain ⟨x0, x0d, x0s⟩ := (hgC.ext hB4X).raw (j := 0) (v := .int .u8 (r.ty.toNat : Int)) rfl
  simp only [E9, Addr.add, ↓reduceIte, D6] at x0 x0s
  have hty := r.ty.toNat_lt
  have xD : B10.D b := x0d
  have hmy3 : (r.ty.toNat : Int) ≤ 3 := by
   simp only [An7, Bool.and_eq_true, decide_eq_true_eq] at hm
   exact hm.2.1.1
  repeat' (first | with_reducible refine And.intro (by first | omega | (constructor <;> assumption)) ?_ | simp (maxSteps := 4000000) (disch := omega) only [go_sem, ↓reduceIte, x0] | with_reducible refine D7 (by kernel_rfl) (C1 (by kernel_rfl)) (A3 1000 ?_) | ((first | refine A8 (fun h => ?_) (fun h => ?_) | refine E8 (fun h => ?_) (fun h => ?_) | refine F6 (fun h => ?_) (fun h => ?_)) <;> (try simp only [bne_iff_ne, ne_eq, beq_iff_eq, decide_eq_true_eq, decide_eq_false_iff_not, Bool.not_eq_true, Bool.not_eq_false, Bool.not_true, Bool.not_false, bne_eq_false_iff_eq, beq_eq_false_iff_ne, Bool.and_eq_true, Bool.or_eq_true, Bool.and_eq_false_imp, Bool.or_eq_false_iff, Bool.not_eq_true', Bool.not_eq_false', Int.not_lt, Int.not_le] at h) <;> (try (exfalso; omega))))
  ·have ht0 : r.ty = 0 := UInt8.toNat_inj.1 (by rw [UInt8.toNat_zero]; omega)
   have he : Ab6 r = H5 (Aw3 r) := by rw [Ab6, if_pos ht0, List.nil_append]
   rw [he]
   exact ⟨s10, rfl, by simp [closed, A0], hR10⟩
  ·have ht0 : r.ty ≠ 0 := fun h0 => by
    have : r.ty.toNat = 0 := by rw [h0]; rfl
    omega
   have he : Ab6 r = r.ty :: H5 (Aw3 r) := by rw [Ab6, if_neg ht0]; rfl
   rw [he]
   refine F9 (Br9 r.ty (by omega) (H5 (Aw3 r)) _ B10 _ _ hR10.1 rfl (by omega)) (fun _ => by simp [closed, A0]) (fun s11 B11 hB11 hR11 => A3 1000 ?_)
   change BExt B10 B11 at hB11
   repeat' (simp (maxSteps := 4000000) (disch := omega) only [go_sem, ↓reduceIte])
   exact ⟨hBX.trans hB11, s11, rfl, by simp [closed, A0], hR11⟩
end Go.Proofs.YtepabkjfnpaijaaGreat
namespace Go.Proofs.YtepabkjfnpaijaaGreat
open Go RowKit Go.Ew
set_option maxHeartbeats 4000000
theorem in4 : D5 Tryz.f4.ntmps (Tryz.f4.body.getD .skip) = true := by kernel_rfl
def r0 : RcV := ⟨0, 1, 21000, zB, none, 0, []⟩
theorem Dp9 : An7 r0 = true := by kernel_rfl
theorem Ai0 : (Ab6 r0).length = 267 := by kernel_rfl
theorem Ee6 : (H5 (Aw3 r0)).length = 267 := by kernel_rfl
theorem Ee8 : (Ab6 r0).getD 0 0 = 249 := by kernel_rfl
theorem Ee7 : (Ab6 r0).getD 3 0 = 1 := by kernel_rfl
theorem Dq0 : (Ab6 r0).getD 266 0 = 192 := by kernel_rfl
theorem Cd3 {C : Cx} {Q : Exit → X → Prop} {f : FuncId} {args args' : List EV} {dst : Option Tmp} {st : List It} {x : X} (h : args = args') (k : Y7 C Q f args' dst st x) : Y7 C Q f args dst st x := by rw [h]; exact k
theorem Dc3 (B : Base) : Does Tryz.prog 4 [] B (fun _ : Unit => .bool true) (fun _ _ => True) := by
 refine I7 en4 (fun s B B' hB hR => hR) Tryz.func4 rfl in4 (by simp [Tryz.f4]) (by simp [A0]) (fun B0 hB0 => A3 1000 ?_)
 repeat' (simp (maxSteps := 4000000) (disch := omega) only [go_sem, ↓reduceIte, Tryz.f4])
 refine Cd3 (args' := [.agg (rcE r0)]) (by kernel_rfl) ?_
 have hL : LogsAt B0 r0.lA r0.L := ⟨CellsAt.nil _, by simp [r0], by simp [r0]⟩
 refine F9 (Cn2 hL Dp9 (by decide) (by rw [Ee6]; decide)) (fun _ => by simp [closed, A0]) (fun s B2 hB2 hR => A3 1000 ?_)
 change BExt B0 B2 at hB2
 obtain ⟨hb, hcap⟩ := hR
 have a0 := hb.ld 0 (by rw [Ai0]; decide)
 have a3 := hb.ld 3 (by rw [Ai0]; decide)
 have a266 := hb.ld 266 (by rw [Ai0]; decide)
 have b0 := hb.lS 0 (by rw [Ai0]; decide)
 have b3 := hb.lS 3 (by rw [Ai0]; decide)
 have b266 := hb.lS 266 (by rw [Ai0]; decide)
 have hd0 := hb.lD (by rw [Ai0]; decide)
 have hso := hb.ok.so (by rw [Ai0]; decide)
 rw [Ee8] at a0
 rw [Ee7] at a3
 rw [Dq0] at a266
 simp only [Ai0, bE, UInt8.reduceToNat] at *
 have hof : Does Tryz.prog 9 [.raw (.slice none 0 0)] B2 (fun _ : Unit => .agg (D4 .u8 (fun _ => 0) 256)) (fun _ _ => True) := Dr0 [] 0 B2 none 0 ⟨CellsAt.nil _, by simp, by simp⟩ rfl
 have c0 : ((249 : Nat) : Int) = 249 := rfl
 have c1 : ((1 : Nat) : Int) = 1 := rfl
 have c2 : ((192 : Nat) : Int) = 192 := rfl
 rw [c0] at a0
 rw [c1] at a3
 rw [c2] at a266
 repeat' (first | with_reducible refine And.intro (by first | omega | (constructor <;> assumption)) ?_ | simp (maxSteps := 4000000) (disch := omega) only [go_sem, ↓reduceIte, a0, a3, a266, X7, beq_self_eq_true] | refine F5 (hof) (by simp [closed, A0, A2, C6]) (A3 1000 ?_))
 exact ⟨(), trivial⟩
end Go.Proofs.YtepabkjfnpaijaaGreat
