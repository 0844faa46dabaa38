/- Part of a proof over the seat YtbilnedgpgpanaaDoor. -/
import Derived.Test.YtbilnedgpgpanaaDoorEng3
import Derived.TacticsIn
import Derived.OrdersIn
set_option linter.unusedSimpArgs false
set_option linter.unusedVariables false
namespace Go.Ew
open Go RowKit
/-! ### a region that draws its order, order by order -/
theorem wpIn_mono2 {F : Fence} {n : Nat} {P : Program} {o : Oper} {a : Act} {w : World} {K K' : Act → World → Prop} {Q Q' : Exit → Act → World → Prop} (h : ∀ a w, K a w → K' a w)
    (hq : ∀ e a w, e ≠ .normal → Q e a w → Q' e a w) (hh : o.wpIn F n P a w K Q) : o.wpIn F n P a w K' Q' := by
  have hl : LetsOut Q → LetsOut Q' := fun ⟨a, w, h⟩ => ⟨a, w, hq _ _ _ (by simp) h⟩
  unfold Oper.wpIn at *
  refine ⟨hh.1, ?_⟩
  have hh := hh.2
  generalize (o.semAt F.round a.eval).run P w = r at *
  cases r with
  | ok x w' =>
    cases x <;> simp only [Oper.uponIn] at hh ⊢ <;>
      first
        | exact h _ _ hh
        | exact ⟨hh.1, CallsIn.mono hh.2 (fun e w'' he => by cases e <;> first | exact h _ _ he | exact hq _ _ _ (by simp) he | exact hl he)⟩
        | exact ⟨hh.1, RowsIn.mono hh.2 (fun _ _ he => h _ _ he)⟩
        | exact ⟨hh.1, RoundIn.mono hh.2 (fun e w'' he => by cases e <;> first | exact h _ _ he | exact hq _ _ _ (by simp) he | exact hl he)⟩
  | halt x w' => cases x <;> simp only [Oper.uponIn] at hh ⊢ <;> first | exact hq _ _ _ (by simp) hh | exact hh
theorem wpOpIn_mono2 {F : Fence} {n : Nat} {P : Program} {ops : Array Oper} {i : Nat} {a : Act} {w : World} {K K' : Act → World → Prop} {Q Q' : Exit → Act → World → Prop} (h : ∀ a w, K a w → K' a w)
    (hq : ∀ e a w, e ≠ .normal → Q e a w → Q' e a w) (hh : wpOpIn F n P ops Q i K a w) : wpOpIn F n P ops Q' i K' a w := by
  unfold wpOpIn at *
  split
  · exact h _ _ (by simpa [*] using hh)
  · rename_i o ho
    simp only [ho] at hh
    split
    · rename_i hw; simp only [hw, if_true] at hh; exact wpIn_mono2 h hq hh
    · rename_i hw; simp only [hw] at hh; exact ⟨hh.1, h _ _ hh.2⟩
/-- From state x, what is listed having been carried out: whatever order the rest takes. -/
def anyS (C : Cx) (Q' : Exit → Act → World → Prop) (ops : List Oper) (fuel : Nat) (listed : Array Bool) (x : X) : Prop :=
  ∀ bs a w, Rel C x bs a w → wpAnyIn (fe C) 0 C.P .any ops.toArray Q' fuel listed a w
def QA (C : Cx) (Q' : Exit → Act → World → Prop) (J : X → Prop) : Exit → X → Prop
  | .normal, x => J x
  | e, x => ∀ bs a w, Rel C x bs a w → Q' e a w
theorem QA_normal {C : Cx} {Q' : Exit → Act → World → Prop} {J : X → Prop} {x : X} : QA C Q' J .normal x = J x := rfl
def AllL : List Nat → (Nat → Prop) → Prop
  | [], _ => True
  | i :: r, p => p i ∧ AllL r p
theorem AllL_mem {p : Nat → Prop} : ∀ {l : List Nat}, AllL l p → ∀ i ∈ l, p i
  | j :: r, h, i, hi => by
    rcases List.mem_cons.1 hi with rfl | hi
    · exact h.1
    · exact AllL_mem h.2 i hi
theorem allIn_get {N : Nat} : ∀ {l : List Oper}, allIn N l = true → ∀ {i : Nat} {o : Oper}, l[i]? = some o → dstIn N o.dst = true
  | [], _, i, o, h => by simp at h
  | p :: r, h, i, o, ho => by
    simp only [allIn, Bool.and_eq_true] at h
    cases i with
    | zero => simp only [List.getElem?_cons_zero, Option.some.injEq] at ho; subst ho; exact h.1
    | succ i => exact allIn_get h.2 (by simpa using ho)
/-- Each operation's guard is an earlier one, or itself. -/
def gOK : Nat → List Oper → Bool
  | _, [] => true
  | i, o :: r => (match o.guard with | some (j, _) => Nat.ble j i | none => true) && gOK (i + 1) r
theorem gOK_spec : ∀ {l : List Oper} {k : Nat}, gOK k l = true → ∀ {i : Nat} {o : Oper}, l[i]? = some o → ∀ j b, o.guard = some (j, b) → j ≤ k + i
  | [], _, _, i, o, h => by simp at h
  | p :: r, k, h, i, o, ho => by
    simp only [gOK, Bool.and_eq_true] at h
    intro j b hg
    cases i with
    | zero =>
      simp only [List.getElem?_cons_zero, Option.some.injEq] at ho; subst ho
      rw [hg] at h
      exact Nat.le_of_ble_eq_true h.1
    | succ i =>
      have := gOK_spec h.2 (i := i) (o := o) (by simpa using ho) j b hg
      omega
theorem wanted_take {ops : List Oper} {i : Nat} {o : Oper} {t : Array Value} (h : ∀ j b, o.guard = some (j, b) → j ≤ i) : Region.wanted o (yielded (ops.take (i + 1)).toArray t) = Region.wanted o (yielded ops.toArray t) := by
  unfold Region.wanted
  cases hg : o.guard with
  | none => rfl
  | some jb =>
    obtain ⟨j, b⟩ := jb
    have hj := h j b hg
    have : yielded (ops.take (i + 1)).toArray t j = yielded ops.toArray t j := by
      unfold yielded
      rw [List.getElem?_toArray, List.getElem?_toArray, List.getElem?_take_of_lt (by omega)]
    simp only [this]
theorem any_step {C : Cx} {Q' : Exit → Act → World → Prop} {ops : List Oper} {fuel : Nat} {listed : Array Bool} {x : X} (rs : List Nat) (hr : Region.ready .any ops.toArray listed = rs) (hne : rs ≠ []) (hin : allIn C.N ops = true) (hgk : gOK 0 ops = true)
    (h : AllL rs fun i => ∃ o, ops[i]? = some o ∧ Next C (QA C Q' (anyS C Q' ops fuel (listed.setIfInBounds i true))) [.ops (ops.take (i + 1)) i [o]] x) : anyS C Q' ops (fuel + 1) listed x := by
  intro bs a w hx
  refine ⟨fun he => absurd (hr.symm.trans he) hne, ?_⟩
  rw [hr]
  intro i hi
  obtain ⟨o, ho, hn⟩ := AllL_mem h i hi
  have hd := allIn_get hin ho
  have hlt : i < ops.length := by
    rcases Nat.lt_or_ge i ops.length with h | h
    · exact h
    · rw [List.getElem?_eq_none h] at ho; cases ho
  have ht : (ops.take (i + 1))[i]? = some o := by rw [List.getElem?_take_of_lt (by omega)]; exact ho
  have h1 := hn ⟨⟨by simp [allIn, hd], fun j => by
    cases j with
    | zero => show some o = (ops.take (i + 1))[i]?; exact ht.symm
    | succ j => rw [List.getElem?_eq_none (l := ops.take (i + 1)) (by rw [List.length_take]; omega)]; rfl⟩, trivial⟩ bs a w hx
  simp only [contS] at h1
  rw [show List.range' i [o].length = [i] from rfl, wpOpsIn_cons] at h1
  have hw := wanted_take (ops := ops) (i := i) (t := a.tmps) (fun j b hg => by have := gOK_spec hgk ho j b hg; omega)
  have h1 : wpOpIn (fe C) 0 C.P ops.toArray (contS C (Meets C (QA C Q' (anyS C Q' ops fuel (listed.setIfInBounds i true)))) []) i (wpOpsIn (fe C) 0 C.P (ops.take (i + 1)).toArray (contS C (Meets C (QA C Q' (anyS C Q' ops fuel (listed.setIfInBounds i true)))) []) []) a w := by
    unfold wpOpIn at h1 ⊢
    rw [List.getElem?_toArray, ht] at h1
    rw [List.getElem?_toArray, ho]
    simp only at h1 ⊢
    rw [hw] at h1
    exact h1
  refine wpOpIn_mono2 ?_ ?_ h1
  · intro a' w' hK
    simp only [wpOpsIn] at hK
    obtain ⟨x', bs', hr', hJ⟩ := hK
    exact hJ bs' a' w' hr'
  · intro e a' w' he hK
    obtain ⟨x', bs', hr', hJ⟩ := hK
    cases e with
    | normal => exact absurd rfl he
    | _ => exact hJ bs' a' w' hr'
theorem any_done {C : Cx} {Q : Exit → X → Prop} {st : List It} {ops : List Oper} {listed : Array Bool} {x : X} (hr : Region.ready .any ops.toArray listed = []) (hst : stIn C.N st) (h : Next C Q st x) :
    anyS C (contS C (Meets C Q) st) ops 0 listed x := fun bs a w hx => ⟨hr, h hst bs a w hx⟩
theorem drawA_of {C : Cx} {Q : Exit → X → Prop} {ops : List Oper} {st : List It} {id : Nat} {x : X} (hm : C.P.follows .mixedOrders = true)
    (h : stIn C.N st → allIn C.N ops = true → anyS C (contS C (Meets C Q) st) ops ops.length (Array.replicate ops.length false) x) : drawS C Q id ops st x := by
  intro hst bs a w hr
  obtain ⟨hin, hst⟩ := hst
  have hin' : allIn C.N ops = true := by simpa [codeIn] using hin
  simp only [contS]
  refine wpIn_region_any hm ?_
  have := h hst hin' bs a { w with drawn := w.drawn + 1 } ⟨hr.t, ⟨hr.h.live, hr.h.cl, hr.h.inj, hr.h.old, hr.h.new, hr.h.frame, hr.h.os, hr.h.tape, hr.h.output, hr.h.hsize, hr.h.newE, hr.h.frameE, hr.h.apart, hr.h.eo⟩⟩
  simpa using this
theorem any_via {C : Cx} {Q' : Exit → Act → World → Prop} {ops : List Oper} {fuel : Nat} {listed : Array Bool} {x : X} (fuel' : Nat) (listed' : Array Bool) (y : X) (h : anyS C Q' ops fuel' listed' y)
    (hs : anyS C Q' ops fuel' listed' y → anyS C Q' ops fuel listed x) : anyS C Q' ops fuel listed x := hs h
theorem any_weak {C : Cx} {Q' : Exit → Act → World → Prop} {ops : List Oper} {fuel : Nat} {listed listed' : Array Bool} {x y : X} (hl : listed = listed') (h : anyS C Q' ops fuel listed' y) (hw : Weak C x y) : anyS C Q' ops fuel listed x := by
  subst hl
  exact fun bs a w hr => h bs a w (hr.weak hw)
end Go.Ew
