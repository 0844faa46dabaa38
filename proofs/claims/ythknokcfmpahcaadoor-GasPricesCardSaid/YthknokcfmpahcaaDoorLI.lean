/- Part of a proof over the seat YthknokcfmpahcaaDoor. -/
import Derived.Test.YthknokcfmpahcaaDoorLH
set_option linter.unusedSimpArgs false
set_option linter.unusedVariables false
namespace Go.Ew
open Go RowKit
/-! ### functions over data whose answer does not lean on the memory -/
theorem callB_fp {C : Cx} {K : X → Prop} {f : FuncId} {args : List EV} {dst : Option Tmp} {x : X} {B : Base} {v : EV} (h : Does C.P f args B (fun _ : Unit => v) (fun _ _ => True)) (hB : BExt B x.B) (hv : closed 0 v)
    (hk : K { σ := put x.σ dst v, n := x.n, hs := x.hs, B := x.B, ms := x.ms }) : CallB C f args dst x K := by
  refine ⟨h.en, fun bs w hh _ => ?_⟩
  rw [reals_closed0 bs (fun _ => 0) h.cl]
  refine (h.run ⟨w, x.B.D⟩ (hB.trans hh.ext) (fun b hb => (hh.frame b hb).1)).mono ?_
  rintro e w' ⟨_, bs', rfl, _, hst, _, _, _, _⟩
  refine ⟨v, x.n, x.hs, x.B, bs, by rw [real_closed0 bs' bs hv], fun _ _ => rfl, Nat.le_refl _, closed_mono (Nat.zero_le _) _ hv, hh.later ⟨hst.os, hst.tape, hst.output, hst.size, fun k hk => hst.same k ⟨hk, by simp⟩⟩, hk⟩
theorem callS_fp {C : Cx} {Q : Exit → X → Prop} {f : FuncId} {args : List EV} {dst : Option Tmp} {st : List It} {x : X} {v : EV} (h : Does C.P f args x.B (fun _ : Unit => v) (fun _ _ => True)) (hv : closed 0 v)
    (hk : Next C Q st { σ := put x.σ dst v, n := x.n, hs := x.hs, B := x.B, ms := x.ms }) : callS C Q f args dst st x := fun _ => .inr (callB_fp h (BExt.refl _) hv hk)
theorem callT_fp {C : Cx} {Q : Exit → X → Prop} {ops : List Oper} {st : List It} {f : FuncId} {args : List EV} {acc : List Nd} {i : Nat} {o : Oper} {ord : List Nat} {x : X} {v : EV} (h : Does C.P f args x.B (fun _ : Unit => v) (fun _ _ => True)) (hv : closed 0 v) (hdep : depL ops [i] ord = true)
    (hck : Ck ((i, o, { dst := o.dst, v := v, ups := [], a := 0, looks := opLooks o.op ++ gLook ops o.guard, foot := [] }, true) :: acc).reverse)
    (hk : allIn C.N ops = true → DT C Q ops st ((i, o, { dst := o.dst, v := v, ups := [], a := 0, looks := opLooks o.op ++ gLook ops o.guard, foot := [] }, true) :: acc) ord { σ := put x.σ o.dst v, n := x.n, hs := x.hs, B := x.B, ms := x.ms }) : callT C Q ops st f args acc i o ord x := by
  refine ⟨true, { dst := o.dst, v := v, ups := [], a := 0, looks := opLooks o.op ++ gLook ops o.guard, foot := [] }, Unit, fun _ => { dst := o.dst, v := v, ups := [], a := 0, looks := opLooks o.op ++ gLook ops o.guard, foot := [] }, fun _ _ => True, fun t h => h, fun y hy => .inl (callB_fp h hy.B hv ⟨(), y.B, rfl, trivial, Alike.rfl' _⟩), hdep, hck, fun _ => ⟨rfl, rfl, rfl, rfl, rfl, rfl⟩, fun hin s B' hB _ => ?_⟩
  have hB : B' = x.B := hB
  subst hB
  exact hk hin
/-! ### a function that turns one block -/
theorem callB_w1 {C : Cx} {K : X → Prop} {f : FuncId} {args : List EV} {dst : Option Tmp} {x : X} {v : EV} {j : Nat} {o0 o1 : EObj} (hE : Enters C.P f) (hg : hget x.hs j = some o0) (hv : closed 0 v) (ho : o1.closed 0)
    (h : ∀ bs w, w.heap[bs j]? = some (o0.real bs) → Calls C.P f (reals bs args).toArray w (fun e w' => ∃ s : Unit, True ∧ RetW [bs j] v 1 [some o1] w e w'))
    (hk : K { σ := put x.σ dst v, n := x.n, hs := (j, some o1) :: x.hs, B := x.B, ms := x.ms }) : CallB C f args dst x K := by
  refine ⟨hE, fun bs w hh _ => (h bs w (hh.live j _ hg).2).mono ?_⟩
  rintro e w' ⟨_, _, bs', rfl, _, hst, hold, hnew, _⟩
  have hb : bs' 0 = bs j := hold 0 (bs j) rfl
  have hn := (hnew 0 o1 rfl).2.1
  rw [hb] at hn
  have hreal : o1.real bs' = o1.real bs := by
    cases o1 with
    | cells cs T fr => simp only [EObj.real]; rw [reals_closed0 bs' bs ho]
    | obj o => rfl
  rw [hreal] at hn
  have hlive := hh.live j _ hg
  have hother : ∀ i o, hget x.hs i = some o → i ≠ j → bs i ≠ bs j := fun i o hi hne he => hne (hh.inj i j o o0 hi hg he)
  have hent : ∀ i o, hget ((j, some o1) :: x.hs) i = some o → (i = j ∧ o = o1) ∨ (i ≠ j ∧ hget x.hs i = some o) := by
    intro i o hi
    rw [hget_cons] at hi
    by_cases e : j = i
    · rw [if_pos e] at hi; exact .inl ⟨e.symm, (Option.some.inj hi).symm⟩
    · rw [if_neg e] at hi; exact .inr ⟨Ne.symm e, hi⟩
  refine ⟨v, x.n, (j, some o1) :: x.hs, x.B, bs, by rw [real_closed0 bs' bs hv], fun _ _ => rfl, Nat.le_refl _, closed_mono (Nat.zero_le _) _ hv, ?_, hk⟩
  have hsame : ∀ k, k < w.heap.size → k ≠ bs j → w'.heap[k]? = w.heap[k]? := fun k hk hne => hst.same k ⟨hk, by simpa using hne⟩
  refine ⟨fun i o hi => ?_, fun i o hi => ?_, fun i k oi ok hi hk' hb' => ?_, hh.old, fun i o hi => ?_, fun k hk' => ?_, hst.os.trans hh.os, hst.tape.trans hh.tape, hst.output.trans hh.output, Nat.le_trans hh.hsize hst.size, fun i o hi => ?_, fun k hk' => ?_, hh.apart, Nat.le_trans hh.eo.1 hst.size, hst.os.trans hh.eo.2.1, hst.tape.trans hh.eo.2.2.1, hst.output.trans hh.eo.2.2.2⟩
  · rcases hent i o hi with ⟨rfl, rfl⟩ | ⟨h1, h2⟩
    · exact ⟨hlive.1, hn⟩
    · obtain ⟨l1, l2⟩ := hh.live i o h2
      exact ⟨l1, by rw [hsame _ (heap_lt l2) (hother i o h2 h1)]; exact l2⟩
  · rcases hent i o hi with ⟨rfl, rfl⟩ | ⟨h1, h2⟩
    · exact EObj.closed_mono (Nat.zero_le _) _ ho
    · exact hh.cl i o h2
  · rcases hent i oi hi with ⟨rfl, rfl⟩ | ⟨h1, h2⟩ <;> rcases hent k ok hk' with ⟨rfl, rfl⟩ | ⟨k1, k2⟩
    · rfl
    · exact absurd hb'.symm (hother k ok k2 k1)
    · exact absurd hb' (hother i oi h2 h1)
    · exact hh.inj i k oi ok h2 k2 hb'
  · rcases hent i o hi with ⟨rfl, rfl⟩ | ⟨h1, h2⟩
    · exact hh.new _ _ hg
    · exact hh.new i o h2
  · have hne : k ≠ bs j := fun e => hh.new j _ hg (e ▸ hk')
    exact ⟨Nat.lt_of_lt_of_le (hh.frame k hk').1 hst.size, by rw [hsame k (hh.frame k hk').1 hne]; exact (hh.frame k hk').2⟩
  · rcases hent i o hi with ⟨rfl, rfl⟩ | ⟨h1, h2⟩
    · exact hh.newE _ _ hg
    · exact hh.newE i o h2
  · have hne : k ≠ bs j := fun e => hh.newE j _ hg (e ▸ hk')
    exact ⟨Nat.lt_of_lt_of_le (hh.frameE k hk').1 hst.size, by rw [hsame k (hh.frameE k hk').1 hne]; exact (hh.frameE k hk').2⟩
theorem callS_w1 {C : Cx} {Q : Exit → X → Prop} {f : FuncId} {args : List EV} {dst : Option Tmp} {st : List It} {x : X} {v : EV} {o0 o1 : EObj} (j : Nat) (hE : Enters C.P f) (hg : hget x.hs j = some o0) (hv : closed 0 v) (ho : o1.closed 0)
    (h : ∀ bs w, w.heap[bs j]? = some (o0.real bs) → Calls C.P f (reals bs args).toArray w (fun e w' => ∃ s : Unit, True ∧ RetW [bs j] v 1 [some o1] w e w'))
    (hk : Next C Q st { σ := put x.σ dst v, n := x.n, hs := (j, some o1) :: x.hs, B := x.B, ms := x.ms }) : callS C Q f args dst st x := fun _ => .inr (callB_w1 hE hg hv ho h hk)
theorem callT_w1 {C : Cx} {Q : Exit → X → Prop} {ops : List Oper} {st : List It} {f : FuncId} {args : List EV} {acc : List Nd} {i : Nat} {o : Oper} {ord : List Nat} {x : X} {v : EV} {o0 o1 : EObj} (j : Nat) (hE : Enters C.P f) (hg : hget x.hs j = some o0) (hv : closed 0 v) (ho : o1.closed 0)
    (h : ∀ bs w, w.heap[bs j]? = some (o0.real bs) → Calls C.P f (reals bs args).toArray w (fun e w' => ∃ s : Unit, True ∧ RetW [bs j] v 1 [some o1] w e w')) (hdep : depL ops [i] ord = true)
    (hck : Ck ((i, o, { dst := o.dst, v := v, ups := [(j, some o1)], a := 0, looks := opLooks o.op ++ gLook ops o.guard, foot := [j] }, true) :: acc).reverse)
    (hk : allIn C.N ops = true → DT C Q ops st ((i, o, { dst := o.dst, v := v, ups := [(j, some o1)], a := 0, looks := opLooks o.op ++ gLook ops o.guard, foot := [j] }, true) :: acc) ord { σ := put x.σ o.dst v, n := x.n, hs := (j, some o1) :: x.hs, B := x.B, ms := x.ms }) : callT C Q ops st f args acc i o ord x := by
  refine ⟨true, { dst := o.dst, v := v, ups := [(j, some o1)], a := 0, looks := opLooks o.op ++ gLook ops o.guard, foot := [j] }, Unit, fun _ => { dst := o.dst, v := v, ups := [(j, some o1)], a := 0, looks := opLooks o.op ++ gLook ops o.guard, foot := [j] }, fun _ _ => True, fun t h => h,
    fun y hy => .inl (callB_w1 hE (by rw [hy.hs j (by simp)]; exact hg) hv ho h ⟨(), y.B, rfl, trivial, Alike.rfl' _⟩), hdep, hck, fun _ => ⟨rfl, rfl, rfl, rfl, rfl, rfl⟩, fun hin s B' hB _ => ?_⟩
  have hB : B' = x.B := hB
  subst hB
  exact hk hin
theorem endT_of {C : Cx} {Q : Exit → X → Prop} {st : List It} {acc : List Nd} {x : X} (h : pwT acc.reverse = true) (h2 : nmT acc.reverse) (hk : Next C Q st x) : endT C Q st acc x := ⟨⟨h, h2⟩, hk⟩
theorem ck_of {l : List Nd} (h : pwT l = true) (h2 : nmT l) : Ck l := ⟨h, h2⟩
/-- No name is kept. -/
def noNmT : List Nd → Bool
  | [] => true
  | p :: r => p.2.2.1.nm.isEmpty && noNmT r
theorem nmT_none : ∀ {l : List Nd}, noNmT l = true → nmT l
  | [], _ => trivial
  | p :: r, h => by
    simp only [noNmT, Bool.and_eq_true, List.isEmpty_iff] at h
    have hr := nmT_none h.2
    refine ⟨fun q hq => (by rw [h.1] at hq; cases hq), ?_, hr⟩
    have : ∀ {l : List Nd}, noNmT l = true → nmW p l := by
      intro l
      induction l with
      | nil => intro _; trivial
      | cons q l ih =>
        intro hl
        simp only [noNmT, Bool.and_eq_true, List.isEmpty_iff] at hl
        exact ⟨⟨.inr (fun r' hr' => (by rw [h.1] at hr'; cases hr')), fun r' hr' => (by rw [hl.1] at hr'; cases hr')⟩, ih hl.2⟩
    exact this h.2
end Go.Ew
