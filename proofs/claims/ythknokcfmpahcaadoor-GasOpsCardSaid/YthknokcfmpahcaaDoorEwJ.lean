/- Loops; states that tell less. -/
import Derived.Test.YthknokcfmpahcaaDoorEwI
set_option linter.unusedSimpArgs false
set_option linter.unusedVariables false
namespace Go.Ew
open Go RowKit

/-- What y tells is told by x. -/
structure Weak (C : Cx) (x y : X) : Prop where
  σ : ∀ t, tget y.σ t = .any ∨ tget y.σ t = tget x.σ t
  hs : ∀ i o, hget y.hs i = some o → hget x.hs i = some o
  cl : ∀ t, closed y.n (tget y.σ t)
  hcl : ∀ i o, hget y.hs i = some o → i < y.n ∧ o.closed y.n
  olds : C.olds.length ≤ y.n
  B : y.B = x.B
  ms : y.ms = x.ms
  msin : ∀ i ∈ y.ms, i < y.n
theorem HRel.weakH {C : Cx} {x y : X} {bs : Nat → Nat} {w : World} (h : HRel C x.B x.n x.hs bs w) (hw : Weak C x y) : HRel C y.B y.n y.hs bs w := by
  rw [hw.B]
  refine ⟨?_, ?_, ?_, ?_, ?_, h.frame, h.os, h.tape, h.output, h.hsize, fun i o hi => h.newE i o (hw.hs i o hi), h.frameE, h.apart, h.eo⟩
  · intro i o hi
    exact ⟨(hw.hcl i o hi).1, (h.live i o (hw.hs i o hi)).2⟩
  · exact fun i o hi => (hw.hcl i o hi).2
  · exact fun i j oi oj hi hj hb => h.inj i j oi oj (hw.hs i oi hi) (hw.hs j oj hj) hb
  · intro i b hi
    refine ⟨(h.old i b hi).1, ?_⟩
    have : i < C.olds.length := by
      rcases Nat.lt_or_ge i C.olds.length with hl | hl
      · exact hl
      · rw [List.getElem?_eq_none hl] at hi; simp at hi
    have := hw.olds; omega
  · exact fun i o hi => h.new i o (hw.hs i o hi)
theorem Rel.weak {C : Cx} {x y : X} {bs : Nat → Nat} {a : Act} {w : World} (h : Rel C x bs a w) (hw : Weak C x y) : Rel C y bs a w := by
  refine ⟨⟨h.t.size, by rw [hw.ms]; exact h.t.defers, hw.msin, ?_, hw.cl⟩, h.h.weakH hw⟩
  intro t ht
  rcases hw.σ t with e | e
  · exact absurd e ht
  · rw [e] at ht ⊢; exact h.t.tmps t ht
/-- Entry by entry. -/
def wσ (n : Nat) (σ : List (Nat × EV)) : List (Nat × EV) → Prop
  | [] => True
  | (t, v) :: r => (tget σ t = v ∧ closed n v) ∧ wσ n σ r
def whs (n : Nat) (hs : List (Nat × Option EObj)) : List (Nat × Option EObj) → Prop
  | [] => True
  | (i, o) :: r => (hget hs i = o ∧ i < n ∧ match o with
    | some o => o.closed n
    | none => True) ∧ whs n hs r
theorem wσ_spec {n : Nat} {σ : List (Nat × EV)} : ∀ {l : List (Nat × EV)}, wσ n σ l → ∀ t, (tget l t = .any ∨ tget l t = tget σ t) ∧ closed n (tget l t)
  | [], _, t => by simp [tget, closed]
  | (t', v) :: r, h, t => by
    rw [tget_cons]
    by_cases e : t' = t
    · rw [if_pos e]; subst e; exact ⟨.inr h.1.1.symm, h.1.2⟩
    · rw [if_neg e]; exact wσ_spec h.2 t
theorem whs_spec {n : Nat} {hs : List (Nat × Option EObj)} : ∀ {l : List (Nat × Option EObj)}, whs n hs l → ∀ i o, hget l i = some o → hget hs i = some o ∧ i < n ∧ o.closed n
  | [], _, i, o, hi => by simp [hget] at hi
  | (i', o') :: r, h, i, o, hi => by
    rw [hget_cons] at hi
    by_cases e : i' = i
    · rw [if_pos e] at hi; subst e; subst hi
      exact ⟨h.1.1, h.1.2.1, h.1.2.2⟩
    · rw [if_neg e] at hi; exact whs_spec h.2 i o hi
theorem weak_of {C : Cx} {x y : X} (h1 : wσ y.n x.σ y.σ) (h2 : whs y.n x.hs y.hs) (h3 : C.olds.length ≤ y.n) (h4 : y.B = x.B) (h5 : y.ms = x.ms) (h6 : ∀ i ∈ y.ms, i < y.n) : Weak C x y :=
  ⟨fun t => (wσ_spec h1 t).1, fun i o hi => (whs_spec h2 i o hi).1, fun t => (wσ_spec h1 t).2, fun i o hi => (whs_spec h2 i o hi).2, h3, h4, h5, h6⟩
/-- What is left behind an exit out of a piece. -/
def exitS (C : Cx) (Q : Exit → X → Prop) (st : List It) (P : X → Prop) : Exit → X → Prop
  | .normal, x => P x
  | .exit id, x => match unw id st with
    | some st' => Next C Q st' x
    | none => Q (.exit id) x
  | .ret, x => Q .ret x
  | _, _ => False
theorem contS_exits {C : Cx} {Q : Exit → X → Prop} {st : List It} (hst : stIn C.N st) {P : X → Prop} {e : Exit} {x : X} {bs : Nat → Nat} {a : Act} {w : World} (hr : Rel C x bs a w) (h : exitS C Q st P e x) (he : e ≠ .normal) :
    contS C (Meets C Q) st e a w := by
  cases e with
  | normal => exact absurd rfl he
  | exit id =>
    simp only [exitS] at h
    refine unw_sound st ?_
    split at h
    · rename_i st' hu
      simp only [hu]; exact h (unw_in st st' hu hst) bs a w hr
    · rename_i hu
      simp only [hu]; exact ⟨x, bs, hr, h⟩
  | ret =>
    have : ∀ (st : List It), contS C (Meets C Q) st .ret a w := by
      intro st
      induction st with
      | nil => exact ⟨x, bs, hr, h⟩
      | cons it st ih => cases it <;> simpa [contS] using ih
    exact this st
  | goto l => exact h.elim
  | panic ch => exact h.elim
  | outgrown => exact h.elim
/-- A loop: S tells the states at the head. -/
theorem loopS {C : Cx} {Q : Exit → X → Prop} {c : Code} {st : List It} {x : X} {S : Type} (I : S → Prop) (Xs : S → X) (μ : S → Nat) (s0 : S) (hI : I s0) (h0 : Weak C x (Xs s0))
    (round : ∀ s, I s → Next C (exitS C Q st (fun x' => ∃ s', I s' ∧ Weak C x' (Xs s') ∧ μ s' < μ s)) [.c c] (Xs s)) : codeS C Q (.loop c) st x := by
  intro hst bs a w hr
  simp only [contS]
  obtain ⟨hin, hst⟩ := hst
  simp only [codeIn] at hin
  intro b k cs hro hb hrm
  have key : ∀ n s a w, μ s = n → I s → (∃ bs, Rel C (Xs s) bs a w) →
      ∃ e a' w', contS C (Meets C Q) st e a' w' ∧ ArrivesIn (Machine.fenced C.P (fe C)) C.P (lone (b.atR a (.code c :: .inLoop c :: k)) cs w) b k cs e a' w' := by
    intro n
    induction n using Nat.strongRecOn with
    | _ n ih =>
      intro s a w hn hs hr
      obtain ⟨bs, hr⟩ := hr
      have hround := round s hs ⟨hin, trivial⟩ bs a w hr
      simp only [contS] at hround
      obtain ⟨e, a₁, w₁, hq, harr⟩ := hround b (.inLoop c :: k) cs hro hb hrm
      obtain ⟨x₁, bs₁, hr₁, hq⟩ := hq
      cases e with
      | normal =>
        simp only [exitS] at hq
        obtain ⟨s', hI', hw', hlt⟩ := hq
        obtain ⟨e₂, a₂, w₂, hq₂, harr₂⟩ := ih (μ s') (hn ▸ hlt) s' a₁ w₁ rfl hI' ⟨bs₁, hr₁.weak hw'⟩
        exact ⟨e₂, a₂, w₂, hq₂, .of_steps (StepsIn.trans harr (.one (fenced_calm hb hrm rfl) stepR_inLoop)) harr₂⟩
      | exit id => exact ⟨_, a₁, w₁, contS_exits hst hr₁ hq (by simp), .pass (x := .inLoop c) rfl (fun _ _ => .inl (by simp)) harr⟩
      | goto l => exact hq.elim
      | ret => exact ⟨_, a₁, w₁, contS_exits hst hr₁ hq (by simp), .pass (x := .inLoop c) rfl (fun _ _ => .inl (by simp)) harr⟩
      | panic ch => exact hq.elim
      | outgrown => exact hq.elim
  obtain ⟨e, a', w', hq, harr⟩ := key _ s0 a w rfl hI ⟨bs, hr.weak h0⟩
  exact ⟨e, a', w', hq, .of_steps (.one (fenced_calm hb hrm rfl) stepR_loop) harr⟩
/-- A piece whose ways meet again. -/
theorem cutS {C : Cx} {Q : Exit → X → Prop} {c : Code} {st : List It} {x : X} {S : Type} (I : S → Prop) (Xs : S → X)
    (h : Next C (exitS C Q st (fun x' => ∃ s', I s' ∧ Weak C x' (Xs s'))) [.c c] x) (hk : ∀ s, I s → Next C Q st (Xs s)) : Next C Q (.c c :: st) x := by
  intro hst bs a w hr
  obtain ⟨hin, hst⟩ := hst
  have h1 := h ⟨hin, trivial⟩ bs a w hr
  simp only [contS] at h1 ⊢
  refine wpIn_mono h1 ?_
  rintro e a' w' ⟨x', bs', hr', hq⟩
  cases e with
  | normal =>
    simp only [exitS] at hq
    obtain ⟨s', hI', hw'⟩ := hq
    exact hk s' hI' hst bs' a' w' (hr'.weak hw')
  | exit id => exact contS_exits hst hr' hq (by simp)
  | goto l => exact hq.elim
  | ret => exact contS_exits hst hr' hq (by simp)
  | panic ch => exact hq.elim
  | outgrown => exact hq.elim
/-- Round by round. -/
def RoundsE (C : Cx) (Q : Exit → X → Prop) (st : List It) (c : Code) : Nat → X → Prop
  | 0, _ => False
  | n + 1, x => Next C (exitS C Q st (RoundsE C Q st c n)) [.c c] x
theorem roundS {C : Cx} {Q : Exit → X → Prop} {st : List It} {c : Code} {n : Nat} {x : X} (h : Next C (exitS C Q st (RoundsE C Q st c n)) [.c c] x) : RoundsE C Q st c (n + 1) x := h
theorem loopS_rounds {C : Cx} {Q : Exit → X → Prop} {c : Code} {st : List It} {x : X} (n : Nat) (h : RoundsE C Q st c n x) : codeS C Q (.loop c) st x := by
  intro hst bs a w hr
  obtain ⟨hin, hst⟩ := hst
  simp only [codeIn] at hin
  simp only [contS]
  refine wpIn_loop_rounds n ?_
  induction n generalizing x bs a w with
  | zero => exact h.elim
  | succ n ih =>
    have h1 := h ⟨hin, trivial⟩ bs a w hr
    simp only [contS] at h1
    show c.wpIn (fe C) 0 C.P (Exit.then (Code.roundsIn (fe C) 0 C.P c (contS C (Meets C Q) st) n) (contS C (Meets C Q) st)) a w
    refine wpIn_mono h1 ?_
    rintro e a' w' ⟨x', bs', hr', hq⟩
    cases e with
    | normal => exact ih hq bs' a' w' hr'
    | exit id => exact contS_exits hst hr' hq (by simp)
    | goto l => exact hq.elim
    | ret => exact contS_exits hst hr' hq (by simp)
    | panic ch => exact hq.elim
    | outgrown => exact hq.elim
end Go.Ew
