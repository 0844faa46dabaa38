/- Part of a proof over the seat Ytepabkjfnpaijaa. -/
import Derived.Test.YtepabkjfnpaijaaKR
namespace Go.Proofs.Ytepabkjfnpaijaa
open Go RowKit Go.Ew
set_option maxRecDepth 100000
set_option linter.unusedSimpArgs false
set_option linter.unusedVariables false
set_option maxHeartbeats 4000000
theorem in63 : codeIn Try.f63.ntmps (Try.f63.body.getD .skip) = true := by kernel_rfl
theorem in37 : codeIn Try.f37.ntmps (Try.f37.body.getD .skip) = true := by kernel_rfl
theorem in36 : codeIn Try.f36.ntmps (Try.f36.body.getD .skip) = true := by kernel_rfl
inductive Itm where
  | mk (list : Int) (bytes : List UInt8) (kids : List Itm)
def Itm.list : Itm → Int | .mk l _ _ => l
def Itm.bytes : Itm → List UInt8 | .mk _ b _ => b
def Itm.kids : Itm → List Itm | .mk _ _ k => k
/-- Where an item's parts lie. -/
structure Plc where
  bA : Option Addr
  bc : Nat
  kA : Option Addr
  kc : Nat
abbrev itE (t : Itm) (s : Plc) : List EV := [.int .i64 t.list, .raw (.slice s.bA t.bytes.length s.bc), .raw (.slice s.kA t.kids.length s.kc)]
def itC (q : Itm × Plc) : List Value := [.int .i64 q.1.list, .slice q.2.bA q.1.bytes.length q.2.bc, .slice q.2.kA q.1.kids.length q.2.kc]
def itQ (q : Itm × Plc) : List EV := itE q.1 q.2
inductive ItAt (B : Base) : Itm → Plc → Prop where
  | mk (l : Int) (b : List UInt8) (qs : List (Itm × Plc)) (s : Plc) (hb : BytesAt B s.bA b) (hbl : b.length ≤ 1099511627776) (hc : CellsAt B s.kA (qs.flatMap itC)) (hql : qs.length ≤ 1099511627776) (hk : ∀ q ∈ qs, ItAt B q.1 q.2) : ItAt B (.mk l b (qs.map Prod.fst)) s
theorem ItAt.ext {B B' : Base} {t : Itm} {s : Plc} (h : ItAt B t s) (e : BExt B B') : ItAt B' t s := by
  induction h with
  | mk l b qs s hb hbl hc hql _ ih => exact .mk l b qs s (hb.ext e) hbl (hc.ext e) hql ih
theorem itC_of (q : Itm × Plc) : (itC q).map ofScalar = itQ q := rfl
theorem reals_itQ (bs : Nat → Nat) (qs : List (Itm × Plc)) : reals bs (qs.flatMap itQ) = qs.flatMap itC := reals_flat _ _ _ (fun q => rfl) qs
theorem itsE_len (qs : List (Itm × Plc)) : (qs.flatMap itQ).length = qs.length * 3 := by rw [flat_len (k := 3) (fun q _ => rfl)]; omega
theorem itsE_closed (n : Nat) (qs : List (Itm × Plc)) : closeds n (qs.flatMap itQ) := by
  induction qs with
  | nil => trivial
  | cons q qs ih => exact closeds_append.2 ⟨by simp [itQ, closeds, closed], ih⟩
/-- Some cells, read. -/
theorem cells_lds {B : Base} {ad : Option Addr} {cs : List Value} (h : CellsAt B ad cs) {o n : Nat} (hn : o + n ≤ cs.length) (h0 : 0 < n) :
    rawCells B (adrAt ad o) n = ((cs.drop o).take n).map ofScalar ∧ B.D (adr ad).block ∧ LiveAt B (adrAt ad o) n ∧ ad.isSome = true := by
  have e : ∀ j, (adrAt ad o).add j = adrAt ad (o + j) := fun j => by unfold adrAt; rw [add_add]
  have hr := fun j (hj : j < n) => h.raw (j := o + j) (v := cs[o + j]'(by omega)) (List.getElem?_eq_getElem (by omega))
  refine ⟨?_, (hr 0 h0).2.1, fun j hj => by rw [e]; exact (hr j hj).2.2, h.so (by omega)⟩
  unfold rawCells
  apply List.ext_getElem
  · simp; omega
  · intro j h1 h2
    simp only [List.length_map, List.length_range] at h1
    simp only [List.getElem_map, List.getElem_range, e, List.getElem_take, List.getElem_drop]
    exact (hr j h1).1
theorem flat_sub {α β : Type} {f : α → List β} {k : Nat} {l : List α} {i : Nat} (h : ∀ a ∈ l, (f a).length = k) (hi : i < l.length) : ((l.flatMap f).drop (i * k)).take k = f l[i] := by
  have hl := h l[i] (List.getElem_mem hi)
  apply List.ext_getElem?
  intro j
  rcases Nat.lt_or_ge j k with hj | hj
  · rw [List.getElem?_take_of_lt hj, List.getElem?_drop, flat_get h hi hj]
  · rw [List.getElem?_take_eq_none (by omega), List.getElem?_eq_none (by omega)]
/-- A kid, read. -/
theorem kid_ld {B : Base} {ad : Option Addr} {qs : List (Itm × Plc)} (h : CellsAt B ad (qs.flatMap itC)) {i : Nat} (hi : i < qs.length) :
    rawCells B (adrAt ad (i * 3)) 3 = itE qs[i].1 qs[i].2 ∧ B.D (adr ad).block ∧ LiveAt B (adrAt ad (i * 3)) 3 ∧ ad.isSome = true := by
  have := cells_lds h (o := i * 3) (n := 3) (by rw [flat_len (k := 3) (fun q _ => rfl)]; omega) (by omega)
  rwa [flat_sub (k := 3) (f := itC) (l := qs) (fun q _ => rfl) hi, itC_of] at this
theorem clone_fn (p : List UInt8) (n : Nat) (B : Base) (ad : Option Addr) (cap : Nat) (h : BytesAt B ad p) (hn : p.length = n) (hp : n ≤ 1099511627776) :
    Does Try.prog 63 [.raw (.slice ad n cap)] B (fun s : Option Addr × Nat => .raw (.slice s.1 n s.2)) (fun s B' => BytesAt B' s.1 p ∧ n ≤ s.2) := by
  subst hn
  refine fn_of en63 (fun s B B' hB hR => ⟨hR.1.ext hB, hR.2⟩) Try.func63 rfl in63 (by simp [Try.f63]) (by simp [closeds, closed]) (fun B0 hB0 => next_of 1000 ?_)
  replace h := h.ext hB0
  cases ad with
  | none =>
    have h0 : p.length = 0 := by
      rcases Nat.eq_zero_or_pos p.length with h1 | h1
      · exact h1
      · have := h.ok h1; cases this
    obtain rfl := List.length_eq_zero_iff.1 h0
    repeat' (first | with_reducible refine And.intro (by first | omega | assumption | (constructor <;> assumption) | (simp; done) | (simp; omega) | (simp [*]; done) | ((repeat' refine And.intro ?_ ?_) <;> first | omega | assumption | (refine SlOk.so (n := ?_) ?_ ?_; rotate_left; assumption; omega) | (simp; done) | fail) | fail) ?_ | simp (maxSteps := 4000000) (disch := omega) only [go_sem, Nat.reduceBEq, Nat.reduceAdd, Nat.reduceMul, Nat.reduceSub, Nat.reduceLT, Nat.reduceLeDiff, Int.reduceToNat, Int.reduceLT, Int.reduceLE, Int.reduceAdd, Int.reduceMul, Int.reduceSub, Int.reduceNeg, Int.reduceDiv, Int.reduceMod, Nat.reduceBNe, Nat.reduceGT, Int.reduceBEq, Int.reduceBNe, Int.reduceGT, Nat.reduceDiv, Nat.reduceMod, Nat.reducePow, Int.reducePow, gt_iff_lt, ge_iff_le, List.reduceReplicate, ↓reduceIte, Try.f63, Option.isNone_none])
    refine ⟨BExt.refl _, (none, 0), ?_⟩
    simp [closed, h]
  | some a =>
    repeat' (first | with_reducible refine And.intro (by first | omega | assumption | (constructor <;> assumption) | (simp; done) | (simp; omega) | (simp [*]; done) | ((repeat' refine And.intro ?_ ?_) <;> first | omega | assumption | (refine SlOk.so (n := ?_) ?_ ?_; rotate_left; assumption; omega) | (simp; done) | fail) | fail) ?_ | simp (maxSteps := 4000000) (disch := omega) only [go_sem, Nat.reduceBEq, Nat.reduceAdd, Nat.reduceMul, Nat.reduceSub, Nat.reduceLT, Nat.reduceLeDiff, Int.reduceToNat, Int.reduceLT, Int.reduceLE, Int.reduceAdd, Int.reduceMul, Int.reduceSub, Int.reduceNeg, Int.reduceDiv, Int.reduceMod, Nat.reduceBNe, Nat.reduceGT, Int.reduceBEq, Int.reduceBNe, Int.reduceGT, Nat.reduceDiv, Nat.reduceMod, Nat.reducePow, Int.reducePow, gt_iff_lt, ge_iff_le, List.reduceReplicate, ↓reduceIte, Try.f63, Option.isNone_some])
    refine appB (T := 5) (l := some (0, [])) (xs := []) 0 0 p rfl Try.underlying23 (.inl ⟨_, Try.underlying23⟩) zr5 cz5 by5 rfl rfl rfl ⟨Nat.le_refl _, Nat.zero_le _, rfl, by simp⟩ (h.src _) (by omega) (fun l1 hl1 => ?_)
    simp only [Nat.zero_add, List.nil_append] at hl1 ⊢
    refine freezeB (xs := p) (T := 5) 1 p.length rfl rfl hl1 (by simp) (fun b2 ad2 cap2 B2 hB2 hfz hbY hcap2 => next_of 1000 ?_)
    change BExt B0 B2 at hB2
    repeat' (first | with_reducible refine And.intro (by first | omega | assumption | (constructor <;> assumption) | (simp; done) | (simp; omega) | (simp [*]; done) | ((repeat' refine And.intro ?_ ?_) <;> first | omega | assumption | (refine SlOk.so (n := ?_) ?_ ?_; rotate_left; assumption; omega) | (simp; done) | fail) | fail) ?_ | simp (maxSteps := 4000000) (disch := omega) only [go_sem, Nat.reduceBEq, Nat.reduceAdd, Nat.reduceMul, Nat.reduceSub, Nat.reduceLT, Nat.reduceLeDiff, Int.reduceToNat, Int.reduceLT, Int.reduceLE, Int.reduceAdd, Int.reduceMul, Int.reduceSub, Int.reduceNeg, Int.reduceDiv, Int.reduceMod, Nat.reduceBNe, Nat.reduceGT, Int.reduceBEq, Int.reduceBNe, Int.reduceGT, Nat.reduceDiv, Nat.reduceMod, Nat.reducePow, Int.reducePow, gt_iff_lt, ge_iff_le, List.reduceReplicate, ↓reduceIte, hfz])
    exact ⟨⟨ad2, cap2⟩, rfl, by simp [closed], hbY, hcap2⟩
/-- The item of a text. -/
def txt (p : List UInt8) : Itm := .mk 0 p []
theorem txt_at {B : Base} {p : List UInt8} {ad : Option Addr} {c : Nat} (h : BytesAt B ad p) (hp : p.length ≤ 1099511627776) : ItAt B (txt p) ⟨ad, c, none, 0⟩ :=
  .mk 0 p [] _ h hp (CellsAt.nil _) (by simp) (by simp)
theorem text_fn (p : List UInt8) (n : Nat) (B : Base) (ad : Option Addr) (cap : Nat) (h : BytesAt B ad p) (hn : p.length = n) (hp : n ≤ 1099511627776) :
    Does Try.prog 37 [.raw (.slice ad n cap)] B (fun s : Plc => .agg (itE (txt p) s)) (fun s B' => ItAt B' (txt p) s) := by
  refine fn_of en37 (fun s B B' hB hR => hR.ext hB) Try.func37 rfl in37 (by simp [Try.f37]) (by simp [closeds, closed]) (fun B0 hB0 => next_of 1000 ?_)
  replace h := h.ext hB0
  repeat' (simp (maxSteps := 4000000) (disch := omega) only [go_sem, Nat.reduceBEq, Nat.reduceAdd, Nat.reduceMul, Nat.reduceSub, Nat.reduceLT, Nat.reduceLeDiff, Int.reduceToNat, Int.reduceLT, Int.reduceLE, Int.reduceAdd, Int.reduceMul, Int.reduceSub, Int.reduceNeg, Int.reduceDiv, Int.reduceMod, Nat.reduceBNe, Nat.reduceGT, Int.reduceBEq, Int.reduceBNe, Int.reduceGT, Nat.reduceDiv, Nat.reduceMod, Nat.reducePow, Int.reducePow, gt_iff_lt, ge_iff_le, List.reduceReplicate, ↓reduceIte, Try.f37])
  refine callS_f (clone_fn p n _ ad cap h hn hp) (fun _ => by simp [closed]) (fun s B2 hB2 hR => next_of 1000 ?_)
  subst hn
  repeat' (first | with_reducible refine And.intro (by first | omega | assumption | (constructor <;> assumption) | (simp; done) | (simp; omega) | (simp [*]; done) | ((repeat' refine And.intro ?_ ?_) <;> first | omega | assumption | (refine SlOk.so (n := ?_) ?_ ?_; rotate_left; assumption; omega) | (simp; done) | fail) | fail) ?_ | simp (maxSteps := 4000000) (disch := omega) only [go_sem, Nat.reduceBEq, Nat.reduceAdd, Nat.reduceMul, Nat.reduceSub, Nat.reduceLT, Nat.reduceLeDiff, Int.reduceToNat, Int.reduceLT, Int.reduceLE, Int.reduceAdd, Int.reduceMul, Int.reduceSub, Int.reduceNeg, Int.reduceDiv, Int.reduceMod, Nat.reduceBNe, Nat.reduceGT, Int.reduceBEq, Int.reduceBNe, Int.reduceGT, Nat.reduceDiv, Nat.reduceMod, Nat.reducePow, Int.reducePow, gt_iff_lt, ge_iff_le, List.reduceReplicate, ↓reduceIte])
  exact ⟨⟨s.1, s.2, none, 0⟩, rfl, by simp [closed, closeds], txt_at hR.1 hp⟩
theorem numberI_fn (n : Nat) (h : n < 18446744073709551616) (B : Base) :
    Does Try.prog 36 [.int .u64 (n : Int)] B (fun s : Plc => .agg (itE (txt (leB n)) s)) (fun s B' => ItAt B' (txt (leB n)) s) := by
  refine fn_of en36 (fun s B B' hB hR => hR.ext hB) Try.func36 rfl in36 (by simp [Try.f36]) (by simp [closeds, closed]) (fun B0 hB0 => next_of 1000 ?_)
  repeat' (simp (maxSteps := 4000000) (disch := omega) only [go_sem, Nat.reduceBEq, Nat.reduceAdd, Nat.reduceMul, Nat.reduceSub, Nat.reduceLT, Nat.reduceLeDiff, Int.reduceToNat, Int.reduceLT, Int.reduceLE, Int.reduceAdd, Int.reduceMul, Int.reduceSub, Int.reduceNeg, Int.reduceDiv, Int.reduceMod, Nat.reduceBNe, Nat.reduceGT, Int.reduceBEq, Int.reduceBNe, Int.reduceGT, Nat.reduceDiv, Nat.reduceMod, Nat.reducePow, Int.reducePow, gt_iff_lt, ge_iff_le, List.reduceReplicate, ↓reduceIte, Try.f36])
  refine callS_f (number_fn n h _) (fun _ => by simp [closed]) (fun s B2 hB2 hR => next_of 1000 ?_)
  repeat' (first | with_reducible refine And.intro (by first | omega | assumption | (constructor <;> assumption) | (simp; done) | (simp; omega) | (simp [*]; done) | ((repeat' refine And.intro ?_ ?_) <;> first | omega | assumption | (refine SlOk.so (n := ?_) ?_ ?_; rotate_left; assumption; omega) | (simp; done) | fail) | fail) ?_ | simp (maxSteps := 4000000) (disch := omega) only [go_sem, Nat.reduceBEq, Nat.reduceAdd, Nat.reduceMul, Nat.reduceSub, Nat.reduceLT, Nat.reduceLeDiff, Int.reduceToNat, Int.reduceLT, Int.reduceLE, Int.reduceAdd, Int.reduceMul, Int.reduceSub, Int.reduceNeg, Int.reduceDiv, Int.reduceMod, Nat.reduceBNe, Nat.reduceGT, Int.reduceBEq, Int.reduceBNe, Int.reduceGT, Nat.reduceDiv, Nat.reduceMod, Nat.reducePow, Int.reducePow, gt_iff_lt, ge_iff_le, List.reduceReplicate, ↓reduceIte])
  have hl := nby_le (x := n) (by omega)
  rw [← leB_len n]
  exact ⟨⟨s.1, s.2, none, 0⟩, rfl, by simp [closed, closeds], txt_at hR.1 (by rw [leB_len]; omega)⟩
end Go.Proofs.Ytepabkjfnpaijaa

