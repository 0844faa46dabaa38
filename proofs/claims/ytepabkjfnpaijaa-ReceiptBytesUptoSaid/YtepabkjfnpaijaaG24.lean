/- Part of a proof over the seat Ytepabkjfnpaijaa. -/
import Derived.Test.YtepabkjfnpaijaaG23
import Derived.Test.YtepabkjfnpaijaaG15
set_option linter.unusedSimpArgs false
set_option linter.unusedVariables false
set_option maxRecDepth 100000
namespace Go.Proofs.Ytepabkjfnpaijaa
open Go RowKit Go.Ew
set_option maxHeartbeats 4000000
theorem in16 : codeIn Try.f16.ntmps (Try.f16.body.getD .skip) = true := by kernel_rfl
theorem bytes_take {B : Base} {ad : Option Addr} {cs : List Value} (h : CellsAt B ad cs) (o n : Nat) (l : List UInt8) (hl : (cs.drop o).take n = l.map bV) (hn : l.length = n) (h0 : 0 < n) :
  rawCells B (adrAt ad o) n = l.map bE ∧ B.D (adr ad).block ∧ LiveAt B (adrAt ad o) n ∧ ad.isSome = true := by
 have e : ∀ j, (adrAt ad o).add j = adrAt ad (o + j) := fun j => by unfold adrAt; rw [add_add]
 have hcl : o + n ≤ cs.length := by
  have := congrArg List.length hl
  simp at this; omega
 have hg : ∀ j (hj : j < n), rawCell B (adrAt ad (o + j)) = bE (l[j]'(by omega)) ∧ B.D (adr ad).block ∧ (B.w.cell? (adrAt ad (o + j))).isSome = true := fun j hj =>
  h.raw (by
   have : ((cs.drop o).take n)[j]? = (l.map bV)[j]? := by rw [hl]
   rw [List.getElem?_take_of_lt hj, List.getElem?_drop, List.getElem?_map, List.getElem?_eq_getElem (show j < l.length by omega)] at this
   exact this)
 refine ⟨?_, (hg 0 h0).2.1, fun j hj => by rw [e]; exact (hg j hj).2.2, h.so (by omega)⟩
 unfold rawCells
 apply List.ext_getElem (by simp [hn])
 intro j h1 h2
 simp only [List.length_map, List.length_range] at h1
 simp only [List.getElem_map, List.getElem_range, e]
 exact (hg j h1).1
theorem LogsAt.fld {B : Base} {ad : Option Addr} {L : List LogV} (h : LogsAt B ad L) {i : Nat} (hi : i < L.length) :
  (rawCells B (adrAt ad (i * 22)) 20 = L[i].ad.map bE ∧ B.D (adr ad).block ∧ LiveAt B (adrAt ad (i * 22)) 20 ∧ ad.isSome = true) ∧
  (rawCell B (adrAt ad (i * 22 + 20)) = .raw (.slice L[i].tA L[i].tn L[i].tc) ∧ (B.w.cell? (adrAt ad (i * 22 + 20))).isSome = true) ∧ (rawCell B (adrAt ad (i * 22 + 21)) = .raw (.slice L[i].dA L[i].dn L[i].dc) ∧ (B.w.cell? (adrAt ad (i * 22 + 21))).isSome = true) := by
 have ha := (h.ok L[i] (List.getElem_mem hi)).ha
 have hlen : ∀ a ∈ L, (LogV.cells a).length = 22 := fun a ha => LogV.cells_len (h.ok a ha).ha
 have hc : ∀ j, j < 22 → (L.flatMap LogV.cells)[i * 22 + j]? = (L[i].cells)[j]? := fun j hj => h.get hi hj
 have c20 : (L[i].cells)[20]? = some (.slice L[i].tA L[i].tn L[i].tc) := by
  rw [LogV.cells, List.getElem?_append_right (by simp [ha])]; simp [ha]
 have c21 : (L[i].cells)[21]? = some (.slice L[i].dA L[i].dn L[i].dc) := by
  rw [LogV.cells, List.getElem?_append_right (by simp [ha])]; simp [ha]
 have r20 := h.c.raw (j := i * 22 + 20) (by rw [hc 20 (by omega)]; exact c20)
 have r21 := h.c.raw (j := i * 22 + 21) (by rw [hc 21 (by omega)]; exact c21)
 refine ⟨bytes_take h.c (i * 22) 20 L[i].ad ?_ ha (by omega), ⟨r20.1, r20.2.2⟩, ⟨r21.1, r21.2.2⟩⟩
 apply List.ext_getElem?
 intro j
 by_cases hj : j < 20
 ·rw [List.getElem?_take_of_lt hj, List.getElem?_drop, hc j (by omega), LogV.cells, List.getElem?_append_left (by simp [ha]; omega)]
 ·rw [List.getElem?_eq_none (by simp; omega), List.getElem?_eq_none (by simp [ha]; omega)]
theorem samelogs_fn {B : Base} (L M : List LogV) (n m : Nat) (aA bA : Option Addr) (ac bc : Nat) (hL : LogsAt B aA L) (hM : LogsAt B bA M) (hb : L.map LogV.body = M.map LogV.body) (hn : L.length = n) (hm : M.length = m) :
  Does Try.prog 16 [.raw (.slice aA n ac), .raw (.slice bA m bc)] B (fun _ : Unit => .bool true) (fun _ _ => True) := by
 refine fn_of en16 (fun s B B' hB hR => hR) Try.func16 rfl in16 (by simp [Try.f16]) (by simp [closed, closeds]) (fun B0 hB0 => next_of 1000 ?_)
 replace hL := hL.ext hB0
 replace hM := hM.ext hB0
 have hml : M.length = L.length := by have := congrArg List.length hb; simpa using this.symm
 obtain rfl : m = n := by omega
 subst hn
 have hlA := hL.len
 repeat' (simp (maxSteps := 4000000) (disch := omega) only [go_sem, ↓reduceIte, Try.f16, bne, beq_self_eq_true, Bool.not_true])
 refine loopU (S := Nat) (fun i => i ≤ L.length)
  (fun i => ⟨[(14, .int .i64 (i : Nat)), (13, .int .i64 (L.length : Nat)), (1, .raw (.slice bA L.length bc)), (0, .raw (.slice aA L.length ac))], 0, [], B0, []⟩)
  (fun i => L.length - i) 0 (Nat.zero_le _) (Weak.sub (weak_of (by simp [wσ, go_sem, closed, closeds, lE_closed, hml] <;> omega) (by simp [whs, Go.Ew.hget, go_sem, EObj.closed, closed, closeds, lE_closed, hml]) (by simp [*]) rfl rfl (by simp))) ?_
 intro i hi
 rcases Nat.lt_or_ge i L.length with hi2 | hi2
 ·refine next_of 1000 ?_
  simp (maxSteps := 4000000) (disch := omega) only [go_sem, ↓reduceIte]
  repeat (with_reducible refine And.intro (by omega) ?_)
  refine condS_split (fun h2 => ?_) (fun h2 => by simp at h2; omega)
  obtain ⟨⟨l1, l2, l3, l4⟩, ⟨l5, l6⟩, ⟨l7, l8⟩⟩ := hL.fld hi2
  obtain ⟨⟨m1, m2, m3, m4⟩, ⟨m5, m6⟩, ⟨m7, m8⟩⟩ := hM.fld (i := i) (by omega)
  have hg := hL.ok _ (List.getElem_mem hi2)
  have hg' := hM.ok _ (List.getElem_mem (show i < M.length by omega))
  have hbi : LogV.body L[i] = LogV.body M[i] := by
   have := congrArg (fun l => l[i]?) hb
   simp only [List.getElem?_map, List.getElem?_eq_getElem hi2, List.getElem?_eq_getElem (show i < M.length by omega), Option.map_some, Option.some.injEq] at this
   exact this
  obtain ⟨g, hg0⟩ : ∃ g, g = L[i] := ⟨_, rfl⟩
  obtain ⟨g', hg1⟩ : ∃ g', g' = M[i] := ⟨_, rfl⟩
  rw [← hg0] at l1 l5 l7 hg hbi
  rw [← hg1] at m1 m5 m7 hg' hbi
  obtain ⟨ba, bt, bp, bd⟩ : g.ad = g'.ad ∧ g.tn = g'.tn ∧ g.tp = g'.tp ∧ g.dt = g'.dt := by simpa [LogV.body] using hbi
  rw [← ba] at m1
  rw [← bt] at m5
  have hn1 : g'.dn = g.dn := by rw [← hg.hd, ← hg'.hd, bd]
  rw [hn1] at m7
  have hD := hg.dB
  have hD' := hg'.dB
  rw [← bd] at hD'
  have hdd := hg.hd
  have ht := hg.tb
  have hga := hg.ha
  have i2 := bE_isInt g.ad
  have e1 := numEq g.ad g.ad
  repeat' (first | with_reducible refine And.intro (by first | omega | (constructor <;> assumption) | (simp [*]; done)) ?_ | simp (maxSteps := 4000000) (disch := omega) only [go_sem, ↓reduceIte, Int.toNat_natCast, l1, l5, l7, m1, m5, m7, List.length_map, hga, e1, i2, bne, beq_self_eq_true, Bool.not_true, decide_true] | with_reducible refine drawT_of (id := 6) [0, 1, 2, 3, 4, 5, 6, 7, 8, 9, 10, 11, 12, 13, 14, 15, 16, 17, 18, 19, 20, 21, 22, 23, 24, 25, 26, 27, 28, 29, 30, 31, 32, 33, 34, 35, 36, 37, 38, 39, 40] mixed (by kernel_rfl) (by simp) (fun hin => dt_of 1000 hin ?_))
  refine strBT g.dt rfl Try.underlying23 Try.underlying5 Try.underlying9 rfl hdd hD (fun hin2 => dt_of 1000 hin2 ?_)
  repeat' (first | with_reducible refine And.intro (by first | omega | (constructor <;> assumption) | (simp [*]; done)) ?_ | simp (maxSteps := 4000000) (disch := omega) only [go_sem, ↓reduceIte, Int.toNat_natCast, l1, l5, l7, m1, m5, m7, List.length_map, hga, e1, i2, bne, beq_self_eq_true, Bool.not_true, decide_true])
  refine strBT g.dt rfl Try.underlying23 Try.underlying5 Try.underlying9 rfl hdd hD' (fun hin2 => dt_of 1000 hin2 ?_)
  repeat' (first | with_reducible refine And.intro (by first | omega | (constructor <;> assumption) | (simp [*]; done)) ?_ | simp (maxSteps := 4000000) (disch := omega) only [go_sem, ↓reduceIte, Int.toNat_natCast, l1, l5, l7, m1, m5, m7, List.length_map, hga, e1, i2, bne, beq_self_eq_true, Bool.not_true, decide_true] | with_reducible refine endT_of (by kernel_rfl) (nmT_of (by kernel_rfl)) (next_of 1000 ?_))
  refine loopU (S := Nat) (fun k => k ≤ g.tn)
   (fun k => ⟨[(64, .int .i64 (k : Nat)), (63, .int .i64 (g.tn : Nat)), (5, .int .i64 (i : Nat)), (14, .int .i64 (i : Nat)), (13, .int .i64 (L.length : Nat)), (1, .raw (.slice bA L.length bc)), (0, .raw (.slice aA L.length ac))], 0, [], B0, []⟩)
   (fun k => g.tn - k) 0 (Nat.zero_le _) (Weak.sub (weak_of (by simp [wσ, go_sem, closed, closeds, lE_closed, ] <;> omega) (by simp [whs, Go.Ew.hget, go_sem, EObj.closed, closed, closeds, lE_closed, ]) (by simp [*]) rfl rfl (by simp))) ?_
  intro k hk
  rcases Nat.lt_or_ge k g.tn with hk2 | hk2
  ·refine next_of 1000 ?_
   simp (maxSteps := 4000000) (disch := omega) only [go_sem, ↓reduceIte]
   repeat (with_reducible refine And.intro (by omega) ?_)
   refine condS_split (fun h2 => ?_) (fun h2 => by simp at h2; omega)
   obtain ⟨n1, n2, n3, n4⟩ := hg.ldT hk2
   obtain ⟨p1, p2, p3, p4⟩ := hg'.ldT (k := k) (by omega)
   have hq := top_len hg hk2
   have htt : g'.top k = g.top k := by simp only [LogV.top, bp]
   rw [htt] at p1
   obtain ⟨q, hq0⟩ : ∃ q, q = g.top k := ⟨_, rfl⟩
   rw [← hq0] at n1 p1 hq
   have j2 := bE_isInt q
   have j1 := numEq q q
   repeat' (first | with_reducible refine And.intro (by first | omega | (constructor <;> assumption) | (simp [*]; done) | ((repeat' refine And.intro ?_ ?_) <;> first | omega | assumption | (refine SlOk.so (n := ?_) ?_ ?_; rotate_left; assumption; omega) | (simp; done) | fail)) ?_ | simp (maxSteps := 4000000) (disch := omega) only [go_sem, ↓reduceIte, Int.toNat_natCast, l5, m5, n1, p1, List.length_map, hq, j1, j2, bne, beq_self_eq_true, Bool.not_true, decide_true] | with_reducible refine drawT_of (id := 11) [0, 1, 2, 3, 4, 5, 6, 7, 8, 9, 10, 11, 12, 13, 14, 15, 16] mixed (by kernel_rfl) (by simp) (fun hin => dt_of 1000 hin ?_) | with_reducible refine endT_of (by kernel_rfl) (nmT_of (by kernel_rfl)) (next_of 1000 ?_))
   exact ⟨k + 1, hk2, Weak.sub (weak_of (by simp [wσ, go_sem, closed, closeds, lE_closed, ] <;> omega) (by simp [whs, Go.Ew.hget, go_sem, EObj.closed, closed, closeds, lE_closed, ]) (by simp [*]) rfl rfl (by simp)), by omega⟩
  ·obtain rfl : k = g.tn := by omega
   refine next_of 1000 ?_
   simp (maxSteps := 4000000) (disch := omega) only [go_sem, ↓reduceIte]
   repeat (with_reducible refine And.intro (by omega) ?_)
   refine condS_split (fun h2 => by simp at h2) (fun h2 => ?_)
   repeat' (first | simp (maxSteps := 4000000) (disch := omega) only [go_sem, ↓reduceIte] | with_reducible refine next_of 1000 ?_)
   exact ⟨i + 1, hi2, Weak.sub (weak_of (by simp [wσ, go_sem, closed, closeds, lE_closed, ] <;> omega) (by simp [whs, Go.Ew.hget, go_sem, EObj.closed, closed, closeds, lE_closed, ]) (by simp [*]) rfl rfl (by simp)), by omega⟩
 ·obtain rfl : i = L.length := by omega
  refine next_of 1000 ?_
  simp (maxSteps := 4000000) (disch := omega) only [go_sem, ↓reduceIte]
  repeat (with_reducible refine And.intro (by omega) ?_)
  refine condS_split (fun h2 => by simp at h2) (fun h2 => ?_)
  repeat' (first | simp (maxSteps := 4000000) (disch := omega) only [go_sem, ↓reduceIte] | with_reducible refine next_of 1000 ?_)
  exact ⟨BExt.refl _, (), trivial⟩
end Go.Proofs.Ytepabkjfnpaijaa
namespace Go.Proofs.Ytepabkjfnpaijaa
open Go RowKit Go.Ew
set_option maxHeartbeats 4000000
theorem in23 : codeIn Try.f23.ntmps (Try.f23.body.getD .skip) = true := by kernel_rfl
theorem same_fn {B : Base} (a b : RcV) (ha : LogsAt B a.lA a.L) (hb : LogsAt B b.lA b.L) (h : a.body = b.body) :
  Does Try.prog 23 [.agg (rcE a), .agg (rcE b)] B (fun _ : Unit => .bool true) (fun _ _ => True) := by
 refine fn_of en23 (fun s B B' hB hR => hR) Try.func23 rfl in23 (by simp [Try.f23]) ⟨rc_closed 0 a, rc_closed 0 b, trivial⟩ (fun B0 hB0 => next_of 1000 ?_)
 replace ha := ha.ext hB0
 replace hb := hb.ext hB0
 simp only [RcV.body, RcB.mk.injEq] at h
 obtain ⟨h1, h2, h3, h4, h5⟩ := h
 have hsm := samelogs_fn a.L b.L _ _ a.lA b.lA a.lc b.lc ha hb h5 rfl rfl
 have hF : ints .u8 (fB b.F) 256 = ints .u8 (fB a.F) 256 := by rw [← blB_bE, ← blB_bE, h4]
 have hcl : ∀ n r, closeds n (rcE r) := fun n r => rc_closed n r
 repeat' (first | with_reducible refine And.intro (by omega) ?_ | simp (maxSteps := 4000000) (disch := omega) only [go_sem, ↓reduceIte, Try.f23, rc_len, rc_0, rc_1, rc_2, rc_259, rc_all, rc_one, rc_bl, hF, h1, h2, h3, hcl, ints_isInt, beq_self_eq_true] | refine callS_fp (hsm) (by simp [closed, closeds, closeds_ints, closed_wE]) (next_of 1000 ?_))
 exact ⟨BExt.refl _, (), trivial⟩
end Go.Proofs.Ytepabkjfnpaijaa
