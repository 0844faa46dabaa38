/- Stores; one operation of whatever make; a list of operations; code. -/
import Derived.Test.YthknokcfmpahcaaDoorEwF
set_option linter.unusedSimpArgs false
set_option linter.unusedVariables false
namespace Go.Ew
open Go RowKit

/-! ### stores -/
def setBlk (w : World) (b : Nat) (o : Obj) : World := { w with heap := w.heap.setIfInBounds b o }
theorem setCell_blk {w : World} {b : Nat} {cs : Array Value} {T : TypeId} {fr : Nat × Nat} (h : w.heap[b]? = some (.cells cs T fr)) (off : Nat) (v : Value) :
    w.setCell ⟨b, off, none⟩ v = setBlk w b (.cells (cs.setIfInBounds off v) T fr) := by
  have hb := heap_lt h
  simp only [World.setCell, setBlk]
  congr 1
  apply Array.ext_getElem?
  intro k
  rw [Array.getElem?_modify, Array.getElem?_setIfInBounds]
  by_cases hk : b = k
  · subst hk
    simp only [if_true, h, hb]; rfl
  · rw [if_neg hk, if_neg hk]
theorem setBlk_get {w : World} {b : Nat} {o : Obj} (h : b < w.heap.size) : (setBlk w b o).heap[b]? = some o := by
  simp [setBlk, Array.getElem?_setIfInBounds, h]
theorem setBlk_setBlk (w : World) (b : Nat) (o o' : Obj) : setBlk (setBlk w b o) b o' = setBlk w b o' := by
  simp [setBlk]
theorem storeCells_run {P : Program} {b : Nat} {T : TypeId} {fr : Nat × Nat} : ∀ (vs : List Value) (w : World) (cs : Array Value) (off i : Nat), w.heap[b]? = some (.cells cs T fr) →
    off + i + vs.length ≤ cs.size → (fr.2 ≤ off + i ∨ off + i + vs.length ≤ fr.1) → (∀ v ∈ vs, v.oneCell' = true) →
    ∃ cs', (storeCells ⟨b, off, none⟩ vs i).run P w = .ok () (setBlk w b (.cells cs' T fr)) ∧ cs'.toList = cs.toList.take (off + i) ++ vs ++ cs.toList.drop (off + i + vs.length)
  | [], w, cs, off, i, h, hl, hf, ho => by
    refine ⟨cs, ?_, by simp⟩
    simp only [storeCells, Sem.run_pure]
    congr 1
    simp only [setBlk]
    have hb := heap_lt h
    have : w.heap.setIfInBounds b (.cells cs T fr) = w.heap := by
      apply Array.ext_getElem?
      intro k
      rw [Array.getElem?_setIfInBounds]
      by_cases hk : b = k
      · subst hk; rw [if_pos rfl, if_pos hb, h]
      · rw [if_neg hk]
    rw [this]
  | v :: vs, w, cs, off, i, h, hl, hf, ho => by
    simp only [List.length_cons] at hl hf
    have hcell : w.cell? ⟨b, off + i, none⟩ = some cs[off + i] := by
      rw [cell_of_heap h]; exact Array.getElem?_eq_getElem (by omega)
    have hfr : w.frozen? ⟨b, off + i, none⟩ = false := by
      simp only [World.frozen?, h]; simp; omega
    have hb := heap_lt h
    obtain ⟨cs', r1, r2⟩ := storeCells_run (P := P) (b := b) (T := T) (fr := fr) vs (setBlk w b (.cells (cs.setIfInBounds (off + i) v) T fr)) (cs.setIfInBounds (off + i) v) off (i + 1)
      (setBlk_get hb) (by simp; omega) (by omega) (fun u hu => ho u (by simp [hu]))
    refine ⟨cs', ?_, ?_⟩
    · rw [storeCells]
      rw [Sem.run_bind, add_spot, run_store P w _ v _ (ho v (by simp)), hcell]
      simp only [hfr, Bool.false_eq_true, if_false, Result.andThen_ok, setCell_blk h, r1, setBlk_setBlk]
    · rw [r2]
      simp only [Array.toList_setIfInBounds, List.length_cons]
      apply List.ext_getElem?
      intro q
      simp only [List.getElem?_append, List.getElem?_take, List.getElem?_drop, List.length_append, List.length_take, List.length_set, List.getElem?_set, List.length_cons, Array.length_toList]
      by_cases hq : q < off + i
      · have : off + i ≠ q := by omega
        simp [hq, this, show q < off + (i + 1) by omega, show q < min (off + (i+1)) cs.size by omega, show q < min (off+i) cs.size by omega,
          show q < min (off + (i + 1)) cs.size + vs.length by omega, show q < min (off + i) cs.size + (vs.length + 1) by omega]
      · by_cases hq1 : q = off + i
        · subst hq1
          simp [show off + i < off + (i + 1) by omega, show off + i < min (off + (i + 1)) cs.size by omega, show ¬ off + i < min (off + i) cs.size by omega,
            show off + i < min (off + (i + 1)) cs.size + vs.length by omega, show off + i < min (off + i) cs.size + (vs.length + 1) by omega, show off + i < cs.size by omega,
            show off + i - min (off + i) cs.size = 0 by omega]
        · have e1 : ¬ q < min (off + (i + 1)) cs.size := by omega
          have e2 : ¬ q < min (off + i) cs.size := by omega
          by_cases hq2 : q < off + i + (vs.length + 1)
          · simp [e1, e2, show q < min (off + (i + 1)) cs.size + vs.length by omega, show q < min (off + i) cs.size + (vs.length + 1) by omega]
            rw [show q - min (off + i) cs.size = (q - min (off + (i + 1)) cs.size) + 1 by omega]
            simp
          · simp [e1, e2, show ¬ q < min (off + (i + 1)) cs.size + vs.length by omega, show ¬ q < min (off + i) cs.size + (vs.length + 1) by omega]
            have e3 : off + (i + 1) + vs.length + (q - (min (off + (i + 1)) cs.size + vs.length)) = off + i + (vs.length + 1) + (q - (min (off + i) cs.size + (vs.length + 1))) := by omega
            rw [e3]
            have : off + i ≠ off + i + (vs.length + 1) + (q - (min (off + i) cs.size + (vs.length + 1))) := by omega
            simp [this]

theorem HRel.store {C : Cx} {n : Nat} {B : Base} {hs : List (Nat × Option EObj)} {bs : Nat → Nat} {w : World} (h : HRel C B n hs bs w) {i : Nat} {o : EObj} (hi : hget hs i = some o) (o' : EObj) (ho : o'.closed n) :
    HRel C B n ((i, some o') :: hs) bs (setBlk w (bs i) (o'.real bs)) := by
  obtain ⟨hin, hib⟩ := h.live i o hi
  have hlt := heap_lt hib
  refine ⟨?_, ?_, ?_, h.old, ?_, ?_, h.os, h.tape, h.output, ?_, ?_, ?_, h.apart, by simpa [setBlk] using h.eo.1, h.eo.2⟩
  · intro j oj hj
    rw [hget_cons] at hj
    by_cases e : i = j
    · subst e
      simp only [if_true, Option.some.injEq] at hj; subst hj
      exact ⟨hin, setBlk_get hlt⟩
    · rw [if_neg e] at hj
      obtain ⟨l1, l2⟩ := h.live j oj hj
      refine ⟨l1, ?_⟩
      have : bs i ≠ bs j := fun hb => e (h.inj i j o oj hi hj hb)
      simp only [setBlk]
      rw [Array.getElem?_setIfInBounds_ne this]; exact l2
  · intro j oj hj
    rw [hget_cons] at hj
    by_cases e : i = j
    · rw [if_pos e, Option.some.injEq] at hj; subst hj; exact ho
    · rw [if_neg e] at hj; exact h.cl j oj hj
  · intro j k oj ok hj hk hb
    have lift : ∀ j oj, hget ((i, some o') :: hs) j = some oj → ∃ o, hget hs j = some o := by
      intro j oj hj
      rw [hget_cons] at hj
      by_cases e : i = j
      · exact ⟨o, e ▸ hi⟩
      · rw [if_neg e] at hj; exact ⟨oj, hj⟩
    obtain ⟨oj', hj'⟩ := lift j oj hj
    obtain ⟨ok', hk'⟩ := lift k ok hk
    exact h.inj j k oj' ok' hj' hk' hb
  · intro j oj hj
    rw [hget_cons] at hj
    by_cases e : i = j
    · subst e; exact h.new i o hi
    · rw [if_neg e] at hj; exact h.new j oj hj
  · intro k hk
    obtain ⟨h1, h2⟩ := h.frame k hk
    simp only [setBlk]
    refine ⟨by simpa using h1, ?_⟩
    rw [Array.getElem?_setIfInBounds_ne]
    · exact h2
    · intro e
      exact h.new i o hi (e ▸ hk)
  · show B.w.heap.size ≤ (w.heap.setIfInBounds _ _).size
    simpa using h.hsize
  · intro j oj hj
    rw [hget_cons] at hj
    by_cases e : i = j
    · subst e; exact h.newE i o hi
    · rw [if_neg e] at hj; exact h.newE j oj hj
  · intro k hk
    obtain ⟨h1, h2⟩ := h.frameE k hk
    simp only [setBlk]
    refine ⟨by simpa using h1, ?_⟩
    rw [Array.getElem?_setIfInBounds_ne]
    · exact h2
    · intro e
      exact h.newE i o hi (e ▸ hk)

def oneAll : List EV → Bool
  | [] => true
  | v :: vs => v.one && oneAll vs
theorem oneAll_spec : ∀ {l : List EV}, oneAll l = true → ∀ v ∈ l, v.one = true
  | [], _, v, hv => by simp at hv
  | u :: l, h, v, hv => by
    simp only [oneAll, Bool.and_eq_true] at h
    rcases List.mem_cons.1 hv with rfl | hv
    · exact h.1
    · exact oneAll_spec h.2 v hv
/-- What a store makes of a block. -/
def storeOf (C : Cx) (x : X) (op : Op) : Option (Nat × EObj × Prop) :=
  match op with
  | .store T p v =>
    match ev x.σ p with
    | .ptr i off =>
      match hget x.hs i with
      | some (.cells cs T' fr) =>
        some (i, .cells (splice cs off (ev x.σ v).cells) T' fr,
          ((ev x.σ v).cells.length = C.P.cellsOf T ∧ off + (ev x.σ v).cells.length ≤ cs.length) ∧ (fr.2 ≤ off ∨ off + (ev x.σ v).cells.length ≤ fr.1) ∧ oneAll (ev x.σ v).cells = true ∧ ∃ d, C.P.underlying T = some d)
      | _ => none
    | _ => none
  | _ => none
theorem storeOf_sound {C : Cx} {x : X} {bs : Nat → Nat} {a : Act} {w : World} (hr : Rel C x bs a w) {o : Oper} {i : Nat} {ob : EObj} {c : Prop} (h : storeOf C x o.op = some (i, ob, c)) (hc : c) :
    (execOp a.eval o).run C.P w = .ok .skip (setBlk w (bs i) (ob.real bs)) ∧ ob.closed x.n ∧ ∃ o, hget x.hs i = some o := by
  have ht := hr.t
  obtain ⟨dst, op, type, pos, after, guard⟩ := o
  simp only at h
  unfold storeOf at h
  split at h
  · rename_i T p v
    split at h
    · rename_i i off hp
      split at h
      · rename_i cs T' fr hg
        simp only [Option.some.injEq, Prod.mk.injEq] at h; obtain ⟨rfl, rfl, rfl⟩ := h
        obtain ⟨⟨h1, h2⟩, h3, h4, d, hd⟩ := hc
        have hp' := eval_ev ht p (by rw [hp]; simp)
        rw [hp] at hp'
        have hvne : ev x.σ v ≠ .any := by intro e; rw [e] at h4; simp [EV.cells, oneAll, EV.one] at h4
        have hv' := eval_ev ht v hvne
        obtain ⟨l1, l2⟩ := hr.h.live i _ hg
        have hccl : closeds x.n cs := hr.h.cl i _ hg
        have hvcl : closeds x.n (ev x.σ v).cells := closeds_cells (closed_ev ht v)
        simp only [EObj.real] at l2
        have hrc : (real bs (ev x.σ v)).cells = (reals bs (ev x.σ v).cells).toArray := by
          generalize ev x.σ v = u at h4 hvne
          cases u with
          | raw u =>
            have : u.oneCell' = true := by simpa [EV.cells, oneAll, EV.one] using h4
            cases u <;> simp_all [real, EV.cells, Value.cells, reals, Value.oneCell']
          | _ => exact real_cells bs _ (by intro u; simp)
        obtain ⟨cs', r1, r2⟩ := storeCells_run (P := C.P) (T := T') (fr := fr) (reals bs (ev x.σ v).cells) w _ off 0 l2
          (by simp [reals_eq]; omega) (by simp [reals_eq]; omega) (by
            intro u hu
            rw [reals_eq] at hu
            obtain ⟨q, hq, rfl⟩ := List.mem_map.1 hu
            exact real_one (oneAll_spec h4 q hq))
        refine ⟨?_, splice_closeds hccl hvcl, _, hg⟩
        have hcs' : cs' = (reals bs (splice cs off (ev x.σ v).cells)).toArray := by
          apply Array.ext'
          rw [r2, splice_eq _ _ _ h2]
          simp [reals_eq, List.map_append, List.map_take, List.map_drop]
        have hsz : (real bs (ev x.σ v)).cells.size = C.P.cellsOf T := by rw [hrc]; simp [reals_eq, h1]
        simp only [execOp, Instr.storeAt, hp', hv', real, Instr.sureAddr, Sem.run_bind, Sem.run_pure, Result.andThen_ok, storeVar, run_sizeOf' _ _ _ _ hd]
        rw [if_neg (by rw [hsz]; simp)]
        simp only [hrc]
        rw [r1, hcs']; rfl
      · simp at h
    · simp at h
  · simp at h
end Go.Ew
