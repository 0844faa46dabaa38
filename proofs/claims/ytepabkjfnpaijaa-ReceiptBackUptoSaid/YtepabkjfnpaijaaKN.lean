/- Part of a proof over the seat Ytepabkjfnpaijaa. -/
import Derived.Test.YtepabkjfnpaijaaKM
import Derived.Test.YtepabkjfnpaijaaEng2
namespace Go.Proofs.Ytepabkjfnpaijaa
open Go RowKit Go.Ew
set_option maxRecDepth 100000
set_option linter.unusedSimpArgs false
set_option linter.unusedVariables false
set_option maxHeartbeats 4000000
theorem in8 : codeIn Try.f8.ntmps (Try.f8.body.getD .skip) = true := by kernel_rfl
/-- A log, and where its parts lie. -/
structure LogV where
  ad : List UInt8
  tA : Option Addr
  tn : Nat
  tc : Nat
  tp : List UInt8
  dA : Option Addr
  dn : Nat
  dc : Nat
  dt : List UInt8
def LogV.cells (g : LogV) : List Value := g.ad.map bV ++ [.slice g.tA g.tn g.tc, .slice g.dA g.dn g.dc]
/-- A log's cells: an address, two slices. -/
def logE (ad : List UInt8) (u v : EV) : List EV := ad.map bE ++ [u, v]
abbrev LogV.ev (g : LogV) : List EV := logE g.ad (.raw (.slice g.tA g.tn g.tc)) (.raw (.slice g.dA g.dn g.dc))
theorem logE_len {ad : List UInt8} {u v : EV} (h : ad.length = 20) : (logE ad u v).length = 22 := by simp [logE, h]
theorem logE_one {ad : List UInt8} {u v : EV} (hu : u.one = true) (hv : v.one = true) : oneAll (logE ad u v) = true := by
  induction ad with
  | nil => simp [logE, oneAll, hu, hv]
  | cons a l ih => simp only [logE, List.map_cons, List.cons_append, oneAll, Bool.and_eq_true]; exact ⟨rfl, ih⟩
theorem logE_20 {ad : List UInt8} {u v d : EV} (h : ad.length = 20) : (logE ad u v).getD 20 d = u := by
  simp [logE, List.getD_eq_getElem?_getD, List.getElem?_append, h]
theorem logE_21 {ad : List UInt8} {u v d : EV} (h : ad.length = 20) : (logE ad u v).getD 21 d = v := by
  simp [logE, List.getD_eq_getElem?_getD, List.getElem?_append, h]
theorem logE_s20 {ad : List UInt8} {u v x : EV} (h : ad.length = 20) : (logE ad u v).set 20 x = logE ad x v := by
  simp [logE, List.set_append, h]
theorem logE_s21 {ad : List UInt8} {u v x : EV} (h : ad.length = 20) : (logE ad u v).set 21 x = logE ad u x := by
  simp [logE, List.set_append, h]
theorem logE_closed {n : Nat} {ad : List UInt8} {u v : EV} (hu : closed n u) (hv : closed n v) : closeds n (logE ad u v) := closeds_append.2 ⟨closeds_bE _ _, hu, hv, trivial⟩
theorem logE_take {ad : List UInt8} {u v : EV} (h : ad.length = 20) : ((logE ad u v).drop 0).take 22 = logE ad u v := by
  rw [List.drop_zero, List.take_of_length_le (by rw [logE_len h]; omega)]
theorem splice_all {xs ys : List EV} (h : ys.length = xs.length) (h2 : 1 < ys.length) : splice xs 0 ys = ys := by
  rw [splice_eq _ _ _ (by omega)]
  simp [h]
theorem logE_splice {ad : List UInt8} {u v : EV} (h : ad.length = 20) (z0 z1 z2 z3 z4 z5 z6 z7 z8 z9 z10 z11 z12 z13 z14 z15 z16 z17 z18 z19 z20 z21 : EV) : splice [z0, z1, z2, z3, z4, z5, z6, z7, z8, z9, z10, z11, z12, z13, z14, z15, z16, z17, z18, z19, z20, z21] 0 (logE ad u v) = logE ad u v :=
  splice_all (by rw [logE_len h]; rfl) (by rw [logE_len h]; omega)
structure LogV.Ok (B : Base) (g : LogV) : Prop where
  ha : g.ad.length = 20
  ht : g.tp.length = 32 * g.tn
  hd : g.dt.length = g.dn
  tB : BytesAt B g.tA g.tp
  dB : BytesAt B g.dA g.dt
  tb : g.tn ≤ 1048576
  db : g.dn ≤ 1048576
theorem LogV.Ok.ext {B B' : Base} {g : LogV} (h : g.Ok B) (e : BExt B B') : g.Ok B' := ⟨h.ha, h.ht, h.hd, h.tB.ext e, h.dB.ext e, h.tb, h.db⟩
structure LogsAt (B : Base) (ad : Option Addr) (L : List LogV) : Prop where
  c : CellsAt B ad (L.flatMap LogV.cells)
  ok : ∀ g ∈ L, g.Ok B
  len : L.length ≤ 1048576
theorem LogsAt.ext {B B' : Base} {ad : Option Addr} {L : List LogV} (h : LogsAt B ad L) (e : BExt B B') : LogsAt B' ad L := ⟨h.c.ext e, fun g hg => (h.ok g hg).ext e, h.len⟩
theorem LogV.cells_len {g : LogV} (h : g.ad.length = 20) : g.cells.length = 22 := by simp [LogV.cells, h]
theorem ev_of_cells (g : LogV) : g.cells.map ofScalar = g.ev := by
  simp [LogV.cells, LogV.ev, logE, ofScalar, bV, bE, Function.comp_def]
theorem flat_len {α β : Type} {f : α → List β} {k : Nat} : ∀ {l : List α}, (∀ a ∈ l, (f a).length = k) → (l.flatMap f).length = k * l.length
  | [], _ => by simp
  | a :: l, h => by
    rw [List.flatMap_cons, List.length_append, h a (by simp), flat_len (fun b hb => h b (by simp [hb])), List.length_cons, Nat.mul_succ]; omega
theorem flat_get {α β : Type} {f : α → List β} {k : Nat} : ∀ {l : List α} {i j : Nat}, (∀ a ∈ l, (f a).length = k) → (hi : i < l.length) → j < k → (l.flatMap f)[i * k + j]? = (f l[i])[j]?
  | a :: l, 0, j, h, hi, hj => by
    rw [List.flatMap_cons, Nat.zero_mul, Nat.zero_add, List.getElem?_append_left (by rw [h a (by simp)]; exact hj)]; rfl
  | a :: l, i + 1, j, h, hi, hj => by
    have e := h a (by simp)
    rw [List.flatMap_cons, List.getElem?_append_right (by rw [e, Nat.succ_mul]; omega), e, show (i + 1) * k + j - k = i * k + j by rw [Nat.succ_mul]; omega,
      flat_get (fun b hb => h b (by simp [hb])) (by simpa using hi) hj]
    simp
theorem LogsAt.get {B : Base} {ad : Option Addr} {L : List LogV} (h : LogsAt B ad L) {i : Nat} (hi : i < L.length) {j : Nat} (hj : j < 22) : (L.flatMap LogV.cells)[i * 22 + j]? = (L[i].cells)[j]? :=
  flat_get (fun a ha => LogV.cells_len (h.ok a ha).ha) hi hj
theorem LogsAt.ld {B : Base} {ad : Option Addr} {L : List LogV} (h : LogsAt B ad L) {i : Nat} (hi : i < L.length) :
    rawCells B (adrAt ad (i * 22)) 22 = L[i].ev ∧ B.D (adr ad).block ∧ LiveAt B (adrAt ad (i * 22)) 22 ∧ ad.isSome = true := by
  have e : ∀ j, (adrAt ad (i * 22)).add j = adrAt ad (i * 22 + j) := fun j => by unfold adrAt; rw [add_add]
  have hl := LogV.cells_len (h.ok L[i] (List.getElem_mem hi)).ha
  have hg : ∀ j (hj : j < 22), rawCell B (adrAt ad (i * 22 + j)) = ofScalar (L[i].cells[j]'(by omega)) ∧ B.D (adr ad).block ∧ (B.w.cell? (adrAt ad (i * 22 + j))).isSome = true := fun j hj =>
    h.c.raw (by rw [h.get hi hj, List.getElem?_eq_getElem (by omega)])
  refine ⟨?_, (hg 0 (by omega)).2.1, fun j hj => by rw [e]; exact (hg j hj).2.2, h.c.so (by rw [flat_len (k := 22) (fun a ha => LogV.cells_len (h.ok a ha).ha)]; omega)⟩
  rw [← ev_of_cells]
  unfold rawCells
  apply List.ext_getElem (by simp [hl])
  intro j h1 h2
  simp only [List.length_map, List.length_range] at h1
  simp only [List.getElem_map, List.getElem_range, e]
  exact (hg j h1).1
/-- What few reckons. -/
def fewS : List LogV → Nat
  | [] => 0
  | g :: L => (g.tn + g.dn / 100) + fewS L
theorem fewS_append (L M : List LogV) : fewS (L ++ M) = fewS L + fewS M := by
  induction L with
  | nil => simp [fewS]
  | cons g L ih => simp only [List.cons_append, fewS, ih]; omega
theorem fewS_take {L : List LogV} {i : Nat} (hi : i < L.length) : fewS (L.take (i + 1)) = fewS (L.take i) + (L[i].tn + L[i].dn / 100) := by
  rw [List.take_succ_eq_append_getElem hi, fewS_append]; simp [fewS]
theorem fewS_le {L : List LogV} (h : ∀ g ∈ L, g.tn ≤ 1048576 ∧ g.dn ≤ 1048576) : fewS L ≤ L.length * 2097152 := by
  induction L with
  | nil => simp [fewS]
  | cons g L ih =>
    have h1 := h g (by simp)
    have h2 := ih (fun a ha => h a (by simp [ha]))
    simp only [fewS, List.length_cons]; omega
theorem few_fn (L : List LogV) (n : Nat) (B : Base) (ad : Option Addr) (cap : Nat) (h : LogsAt B ad L) (hn : L.length = n) :
    Does Try.prog 8 [.raw (.slice ad n cap)] B (fun _ : Unit => .bool (decide (L.length + fewS L ≤ 500))) (fun _ _ => True) := by
  refine fn_of en8 (fun s B B' hB hR => hR) Try.func8 rfl in8 (by simp [Try.f8]) (by simp [closeds, closed, closeds_ints]) (fun B0 hB0 => next_of 1000 ?_)
  replace h := h.ext hB0
  subst hn
  repeat' (simp (maxSteps := 4000000) (disch := omega) only [go_sem, Nat.reduceBEq, Nat.reduceAdd, Nat.reduceMul, Nat.reduceSub, Nat.reduceLT, Nat.reduceLeDiff, Int.reduceToNat, Int.reduceLT, Int.reduceLE, Int.reduceAdd, Int.reduceMul, Int.reduceSub, Int.reduceNeg, Int.reduceDiv, Int.reduceMod, Nat.reduceBNe, Nat.reduceGT, Int.reduceBEq, Int.reduceBNe, Int.reduceGT, Nat.reduceDiv, Nat.reduceMod, Nat.reducePow, Int.reducePow, gt_iff_lt, ge_iff_le, List.reduceReplicate, ↓reduceIte, Try.f8])
  refine loopU (S := Nat) (fun i => i ≤ L.length)
    (fun i => ⟨[(10, .int .i64 (i : Nat)), (9, .int .i64 (L.length : Nat)), (8, .raw (.slice ad L.length cap)), (3, .int .i64 ((L.length + fewS (L.take i) : Nat) : Int))], 0, [], B0, []⟩)
    (fun i => L.length - i) 0 (by simp) (Weak.sub (weak_of (by simp [wσ, go_sem, closed, closeds, lE_closed, fewS] <;> omega) (by simp [whs, Go.Ew.hget, go_sem, EObj.closed, closed, closeds, lE_closed, fewS]) (by simp [*]) rfl rfl (by simp))) ?_
  intro i hi
  have hlen := h.len
  have hle : fewS (L.take i) ≤ 2199023255552 := by
    have h1 := fewS_le (L := L.take i) (fun g hg => ⟨(h.ok g (List.mem_of_mem_take hg)).tb, (h.ok g (List.mem_of_mem_take hg)).db⟩)
    have h2 : (L.take i).length ≤ 1048576 := by simp; omega
    exact Nat.le_trans h1 (Nat.mul_le_mul_right 2097152 h2)
  refine next_of 1000 ?_
  simp (maxSteps := 4000000) (disch := omega) only [go_sem, Nat.reduceBEq, Nat.reduceAdd, Nat.reduceMul, Nat.reduceSub, Nat.reduceLT, Nat.reduceLeDiff, Int.reduceToNat, Int.reduceLT, Int.reduceLE, Int.reduceAdd, Int.reduceMul, Int.reduceSub, Int.reduceNeg, Int.reduceDiv, Int.reduceMod, Nat.reduceBNe, Nat.reduceGT, Int.reduceBEq, Int.reduceBNe, Int.reduceGT, Nat.reduceDiv, Nat.reduceMod, Nat.reducePow, Int.reducePow, gt_iff_lt, ge_iff_le, List.reduceReplicate, ↓reduceIte]
  repeat (with_reducible refine And.intro (by first | omega | assumption | (constructor <;> assumption) | (simp; done) | (simp; omega) | (simp [*]; done) | ((repeat' refine And.intro ?_ ?_) <;> first | omega | assumption | (refine SlOk.so (n := ?_) ?_ ?_; rotate_left; assumption; omega) | (simp; done) | fail) | fail) ?_)
  refine condS_split (fun h2 => ?_) (fun h2 => ?_)
  all_goals (try simp only [bne_iff_ne, ne_eq, beq_iff_eq, decide_eq_true_eq, decide_eq_false_iff_not, Bool.not_eq_true, Bool.not_eq_false, Bool.not_true, Bool.not_false, bne_eq_false_iff_eq, beq_eq_false_iff_ne, Bool.and_eq_true, Bool.or_eq_true, Bool.and_eq_false_imp, Bool.or_eq_false_iff, Bool.not_eq_true', Bool.not_eq_false', Int.not_lt, Int.not_le] at h2)
  · have hi2 : i < L.length := by omega
    obtain ⟨l1, l2, l3, l4⟩ := h.ld hi2
    have h1 := h.ok _ (List.getElem_mem hi2)
    have e1 := fewS_take hi2
    obtain ⟨g, hg⟩ : ∃ g, g = L[i] := ⟨_, rfl⟩
    rw [← hg] at l1 h1 e1
    have h2 := h1.tb
    have h3 := h1.db
    have f1 : oneAll g.ev = true := logE_one rfl rfl
    have f2 : ∀ u v, (logE g.ad u v).length = 22 := fun u v => logE_len h1.ha
    have f3 : ∀ u v d, (logE g.ad u v).getD 20 d = u := fun u v d => logE_20 h1.ha
    have f4 : ∀ u v d, (logE g.ad u v).getD 21 d = v := fun u v d => logE_21 h1.ha
    repeat' (first | with_reducible refine And.intro (by first | omega | assumption | (constructor <;> assumption) | (simp; done) | (simp; omega) | (simp [*]; done) | ((repeat' refine And.intro ?_ ?_) <;> first | omega | assumption | (refine SlOk.so (n := ?_) ?_ ?_; rotate_left; assumption; omega) | (simp; done) | fail) | fail) ?_ | simp (maxSteps := 4000000) (disch := omega) only [go_sem, Nat.reduceBEq, Nat.reduceAdd, Nat.reduceMul, Nat.reduceSub, Nat.reduceLT, Nat.reduceLeDiff, Int.reduceToNat, Int.reduceLT, Int.reduceLE, Int.reduceAdd, Int.reduceMul, Int.reduceSub, Int.reduceNeg, Int.reduceDiv, Int.reduceMod, Nat.reduceBNe, Nat.reduceGT, Int.reduceBEq, Int.reduceBNe, Int.reduceGT, Nat.reduceDiv, Nat.reduceMod, Nat.reducePow, Int.reducePow, gt_iff_lt, ge_iff_le, List.reduceReplicate, ↓reduceIte, Int.toNat_natCast, l1, f1, f2, f3, f4, logE_splice h1.ha])
    exact ⟨i + 1, hi2, Weak.sub (weak_of (by simp [wσ, go_sem, closed, closeds, lE_closed, e1, Nat.add_assoc] <;> omega) (by simp [whs, Go.Ew.hget, go_sem, EObj.closed, closed, closeds, lE_closed, e1, Nat.add_assoc]) (by simp [*]) rfl rfl (by simp)), by omega⟩
  · obtain rfl : i = L.length := by omega
    repeat' (first | simp (maxSteps := 4000000) (disch := omega) only [go_sem, Nat.reduceBEq, Nat.reduceAdd, Nat.reduceMul, Nat.reduceSub, Nat.reduceLT, Nat.reduceLeDiff, Int.reduceToNat, Int.reduceLT, Int.reduceLE, Int.reduceAdd, Int.reduceMul, Int.reduceSub, Int.reduceNeg, Int.reduceDiv, Int.reduceMod, Nat.reduceBNe, Nat.reduceGT, Int.reduceBEq, Int.reduceBNe, Int.reduceGT, Nat.reduceDiv, Nat.reduceMod, Nat.reducePow, Int.reducePow, gt_iff_lt, ge_iff_le, List.reduceReplicate, ↓reduceIte, List.take_length] | with_reducible refine next_of 1000 ?_)
    refine ⟨BExt.refl _, (), ?_, by simp [closed]⟩
    congr 2
    apply propext
    omega
end Go.Proofs.Ytepabkjfnpaijaa

