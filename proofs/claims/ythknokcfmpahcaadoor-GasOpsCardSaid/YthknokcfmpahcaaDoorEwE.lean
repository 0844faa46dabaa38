/- One operation; a list of operations. -/
import Derived.Test.YthknokcfmpahcaaDoorEwD
set_option linter.unusedSimpArgs false
set_option linter.unusedVariables false
namespace Go.Ew
open Go RowKit

def put (σ : List (Nat × EV)) (dst : Option Tmp) (v : EV) : List (Nat × EV) :=
  match dst with
  | some d => (d, v) :: σ
  | none => σ
def noAny : List EV → Bool
  | [] => true
  | v :: vs => !v.isAny && noAny vs
theorem noAny_spec : ∀ {l : List EV}, noAny l = true → ∀ v ∈ l, v ≠ .any
  | [], _, v, hv => by simp at hv
  | u :: l, h, v, hv => by
    simp only [noAny, Bool.and_eq_true, Bool.not_eq_true'] at h
    rcases List.mem_cons.1 hv with rfl | hv
    · intro e; subst e; simp [EV.isAny] at h
    · exact noAny_spec h.2 v hv
theorem evals_eq {C : Cx} {ms : List Nat} {n : Nat} {σ : List (Nat × EV)} {bs : Nat → Nat} {a : Act} (h : TRel C ms n σ bs a) (l : List Operand) (ho : noAny (l.map (ev σ)) = true) : l.map a.eval = reals bs (l.map (ev σ)) := by
  rw [reals_eq, List.map_map]
  apply List.map_congr_left
  intro o hm
  exact eval_ev h o (noAny_spec ho _ (List.mem_map.2 ⟨o, hm, rfl⟩))
theorem closeds_evs {C : Cx} {ms : List Nat} {n : Nat} {σ : List (Nat × EV)} {bs : Nat → Nat} {a : Act} (h : TRel C ms n σ bs a) (l : List Operand) : closeds n (l.map (ev σ)) := by
  rw [closeds_iff]; intro v hv
  obtain ⟨o, _, rfl⟩ := List.mem_map.1 hv
  exact closed_ev h o
def evo (σ : List (Nat × EV)) : Option Operand → Option EV
  | none => none
  | some o => some (ev σ o)
def okO : Option EV → Bool
  | some .any => false
  | _ => true
theorem evo_eq {C : Cx} {ms : List Nat} {n : Nat} {σ : List (Nat × EV)} {bs : Nat → Nat} {a : Act} (h : TRel C ms n σ bs a) (o : Option Operand) (ho : okO (evo σ o) = true) : o.map a.eval = (evo σ o).map (real bs) := by
  cases o with
  | none => rfl
  | some o =>
    simp only [evo, Option.map_some]
    rw [eval_ev h o (by intro e; simp [evo, e, okO] at ho)]

def guardC (P : Program) (T : TypeId) (x : EV) : Prop :=
  match x with
  | .agg _ => P.eqGuardType P.depth T = false
  | _ => True
/-- What an operation that writes no memory yields, and under which condition. -/
def builtinOf (P : Program) (b : Builtin) (Ts : List TypeId) (xs : List EV) : Option EV :=
  match b with
  | .len => match Ts, xs with
    | [T], [x] => bif x.isAny then none else lenOf P T x
    | _, _ => none
  | .min => minOf xs
  | .max => maxOf xs
  | _ => none
def pureOf (C : Cx) (x : X) (op : Op) : Option (EV × Prop) :=
  match op with
  | .move a => some (ev x.σ a, True)
  | .assign a => some (ev x.σ a, True)
  | .pick c a b => match ev x.σ c with
    | .bool t => some (match t with
      | true => ev x.σ a
      | false => ev x.σ b, True)
    | _ => none
  | .load T p => loadOf C x.B x.hs T (ev x.σ p)
  | .binOp op T a b _ => match binOf C.P op T (ev x.σ a) (ev x.σ b) with
    | some (v, c) => some (v, c ∧ guardC C.P T (ev x.σ a))
    | none => none
  | .unOp op _ a => match unOf op (ev x.σ a) with
    | some v => some (v, True)
    | none => none
  | .convert s d a => match convOf C.P s d (ev x.σ a) with
    | some v => some (v, True)
    | none => none
  | .index T a i => indexOf C.P T (ev x.σ a) (ev x.σ i)
  | .indexAddr T a i => indexAddrOf C.P T (ev x.σ a) (ev x.σ i)
  | .fieldAddr T a f => fieldAddrOf C.P T (ev x.σ a) f
  | .field T a f => fieldOf C.P T (ev x.σ a) f
  | .slice T a lo hi mx => bif okO (evo x.σ lo) && okO (evo x.σ hi) && okO (evo x.σ mx) then sliceOf C.P T (ev x.σ a) (evo x.σ lo) (evo x.σ hi) (evo x.σ mx) else none
  | .extract a i => extractOf (ev x.σ a) i
  | .build T parts => match buildOf C.P T (evs x.σ parts.toList) with
    | some v => some (v, True)
    | none => none
  | .makeFunc f first cap => bif noAny (first.toList.map (ev x.σ)) && noAny (cap.toList.map (ev x.σ)) then some (.fn f (first.toList.map (ev x.σ)) (cap.toList.map (ev x.σ)), True) else none
  | .nilCheck a => match ev x.σ a with
    | .ptr i off => some (.ptr i off, True)
    | .raw (.pointer (some ad)) => some (.raw (.pointer (some ad)), True)
    | .fn (.func f) a b => some (.fn (.func f) a b, True)
    | _ => none
  | .call { callee := .builtin b, args, argTypes } => match builtinOf C.P b argTypes.toList (args.toList.map (ev x.σ)) with
    | some v => some (v, True)
    | none => none
  | _ => none

theorem loadOf_any {C : Cx} {B : Base} {hs : List (Nat × Option EObj)} {T : TypeId} {p : EV} {r} (h : loadOf C B hs T p = some r) : p ≠ .any := by
  intro e; subst e; simp [loadOf] at h
theorem binOf_any {P : Program} {op : BinOp} {T : TypeId} {x y : EV} {r} (h : binOf P op T x y = some r) : x ≠ .any ∧ y ≠ .any := by
  constructor
  · intro e; subst e; cases y <;> simp [binOf] at h
  · intro e; subst e; cases x <;> simp [binOf] at h
theorem evs_map {C : Cx} {ms : List Nat} {n : Nat} {σ : List (Nat × EV)} {bs : Nat → Nat} {a : Act} (h : TRel C ms n σ bs a) : ∀ (l : List (Nat × Operand)), onesP (evs σ l) = true →
    (l.map fun (i, x) => (i, a.eval x)) = ((evs σ l).map fun p => (p.1, real bs p.2)) ∧ ∀ p ∈ evs σ l, closed n p.2
  | [], _ => by simp [evs]
  | (i, o) :: r, ho => by
    have hsp := onesP_spec ho (i, ev σ o) (by simp [evs])
    simp only [evs, onesP, Bool.and_eq_true] at ho
    obtain ⟨e1, e2⟩ := evs_map h r ho.2
    refine ⟨?_, ?_⟩
    · simp only [evs, List.map_cons, e1, eval_ev h o hsp.1]
    · intro p hp
      simp only [evs, List.mem_cons] at hp
      rcases hp with rfl | hp
      · exact closed_ev h o
      · exact e2 p hp
theorem eqGuard_run {P : Program} {w : World} {op : BinOp} {T : TypeId} {x y : Operand} {u v : EV} {bs : Nat → Nat} {r : EV × Prop} (h : binOf P op T u v = some r) (hg : guardC P T u) :
    (eqGuard op T x y (real bs u) (real bs v)).run P w = .ok () w := by
  unfold binOf at h
  split at h
  · simp only [eqGuard, real]; split <;> rfl
  · simp only [eqGuard, real]; split <;> rfl
  · simp only [eqGuard, real]; split <;> rfl
  · simp only [guardC] at hg
    exact run_eqGuard_agg w op T x y _ _ hg
  · rename_i i o l c' v'
    split at h
    · simp only [eqGuard, real]; split <;> rfl
    · simp only [eqGuard, real]; split <;> rfl
    · simp at h
  · split at h
    · simp only [eqGuard, real]; split <;> rfl
    · simp only [eqGuard, real]; split <;> rfl
    · simp at h
  · simp at h

theorem pureOf_sound {C : Cx} {x : X} {bs : Nat → Nat} {a : Act} {w : World} (hr : Rel C x bs a w) {o : Oper} {v : EV} {c : Prop} (h : pureOf C x o.op = some (v, c)) (hc : c) :
    ∃ V, (execOp a.eval o).run C.P w = .ok (.value V) w ∧ (v = .any ∨ V = real bs v) ∧ closed x.n v := by
  have ht := hr.t
  obtain ⟨dst, op, type, pos, after, guard⟩ := o
  simp only at h
  unfold pureOf at h
  split at h
  · simp only [Option.some.injEq, Prod.mk.injEq] at h; obtain ⟨rfl, rfl⟩ := h
    rename_i y
    refine ⟨a.eval y, rfl, ?_, closed_ev ht y⟩
    by_cases e : ev x.σ y = .any
    · exact .inl e
    · exact .inr (eval_ev ht y e)
  · simp only [Option.some.injEq, Prod.mk.injEq] at h; obtain ⟨rfl, rfl⟩ := h
    rename_i y
    refine ⟨a.eval y, rfl, ?_, closed_ev ht y⟩
    by_cases e : ev x.σ y = .any
    · exact .inl e
    · exact .inr (eval_ev ht y e)
  · rename_i cc y z
    split at h
    · rename_i t hb
      simp only [Option.some.injEq, Prod.mk.injEq] at h; obtain ⟨rfl, rfl⟩ := h
      have hcv := eval_ev ht cc (by rw [hb]; simp)
      rw [hb] at hcv
      refine ⟨if t then a.eval y else a.eval z, ?_, ?_, ?_⟩
      · simp [execOp, hcv, real, asBool]
      · cases t
        · simp only [Bool.false_eq_true, if_false]
          by_cases e : ev x.σ z = .any
          · exact .inl e
          · exact .inr (eval_ev ht z e)
        · simp only [if_true]
          by_cases e : ev x.σ y = .any
          · exact .inl e
          · exact .inr (eval_ev ht y e)
      · cases t
        · exact closed_ev ht z
        · exact closed_ev ht y
    · simp at h
  · rename_i T p
    have hp := eval_ev ht p (loadOf_any h)
    obtain ⟨r1, r2⟩ := loadOf_sound hr.h h hc
    refine ⟨_, ?_, .inr rfl, r2⟩
    simp [execOp, hp, r1]
  · rename_i op T y z _
    split at h
    · rename_i v' c' hb
      simp only [Option.some.injEq, Prod.mk.injEq] at h; obtain ⟨rfl, rfl⟩ := h
      have hy := eval_ev ht y (binOf_any hb).1
      have hz := eval_ev ht z (binOf_any hb).2
      refine ⟨_, ?_, .inr rfl, binOf_closed _ hb⟩
      simp only [execOp, hy, hz, Sem.run_bind, eqGuard_run hb hc.2, Result.andThen_ok, binOf_sound bs hb hc.1, Sem.run_pure]
    · simp at h
  · rename_i op _ y
    split at h
    · rename_i v' hb
      simp only [Option.some.injEq, Prod.mk.injEq] at h; obtain ⟨rfl, rfl⟩ := h
      have hy := eval_ev ht y (by intro e; rw [e] at hb; cases op <;> simp [unOf] at hb)
      obtain ⟨r1, r2⟩ := unOf_sound (P := C.P) (w := w) (bs := bs) (n := x.n) hb
      exact ⟨_, by simp [execOp, hy, r1], .inr rfl, r2⟩
    · simp at h
  · rename_i s d y
    split at h
    · rename_i v' hb
      simp only [Option.some.injEq, Prod.mk.injEq] at h; obtain ⟨rfl, rfl⟩ := h
      have hy := eval_ev ht y (by
        intro e; rw [e] at hb; unfold convOf at hb; split at hb <;> simp_all)
      obtain ⟨r1, r2⟩ := convOf_sound (P := C.P) (w := w) (bs := bs) (n := x.n) hb
      exact ⟨_, by simp [execOp, hy, r1], .inr rfl, r2⟩
    · simp at h
  · rename_i T y i
    have hi := eval_ev ht i (by intro e; rw [e] at h; simp [indexOf] at h)
    have hy := eval_ev ht y (by
      intro e; rw [e] at h; unfold indexOf at h; split at h
      · split at h <;> simp_all
      · simp at h)
    obtain ⟨r1, r2⟩ := indexOf_sound (w := w) (bs := bs) h hc (closed_ev ht y)
    exact ⟨_, by simp [execOp, hy, hi, r1], .inr rfl, r2⟩
  · rename_i T y i
    have hi := eval_ev ht i (by intro e; rw [e] at h; simp [indexAddrOf] at h)
    have hy := eval_ev ht y (by
      intro e; rw [e] at h; unfold indexAddrOf at h; split at h
      · split at h <;> simp_all
      · simp at h)
    obtain ⟨r1, r2⟩ := indexAddrOf_sound (w := w) (bs := bs) h hc (closed_ev ht y)
    exact ⟨_, by simp [execOp, hy, hi, r1], .inr rfl, r2⟩
  · rename_i T y f
    have hy := eval_ev ht y (by
      intro e; rw [e] at h; unfold fieldAddrOf at h; split at h
      · split at h <;> simp_all
      · simp at h)
    obtain ⟨r1, r2⟩ := fieldAddrOf_sound (w := w) (bs := bs) h hc (closed_ev ht y)
    exact ⟨_, by simp [execOp, hy, r1], .inr rfl, r2⟩
  · rename_i T y f
    have hy := eval_ev ht y (by
      intro e; rw [e] at h; unfold fieldOf at h; split at h <;> simp_all)
    obtain ⟨r1, r2⟩ := fieldOf_sound (w := w) (bs := bs) h hc (closed_ev ht y)
    exact ⟨_, by simp [execOp, hy, r1], .inr rfl, r2⟩
  · rename_i T y lo hi mx
    cases hk : (okO (evo x.σ lo) && okO (evo x.σ hi) && okO (evo x.σ mx)) with
    | false => simp [hk] at h
    | true =>
      simp only [hk, cond_true] at h
      simp only [Bool.and_eq_true] at hk
      have hy := eval_ev ht y (by
        intro e; rw [e] at h; unfold sliceOf at h; split at h
        · split at h <;> simp_all
        · split at h <;> simp_all
        · split at h <;> simp_all
        · simp at h)
      obtain ⟨r1, r2⟩ := sliceOf_sound (w := w) (bs := bs) h hc (closed_ev ht y)
      refine ⟨_, ?_, .inr rfl, r2⟩
      simp only [execOp, hy, evo_eq ht lo hk.1.1, evo_eq ht hi hk.1.2, evo_eq ht mx hk.2, Sem.run_bind, r1, Result.andThen_ok, Sem.run_pure]
  · rename_i y i
    have hy := eval_ev ht y (by intro e; rw [e] at h; simp [extractOf] at h)
    obtain ⟨r1, r2⟩ := extractOf_sound (P := C.P) (w := w) (bs := bs) h hc (closed_ev ht y)
    exact ⟨_, by simp [execOp, hy, r1], .inr rfl, r2⟩
  · rename_i T parts
    split at h
    · rename_i v' hb
      simp only [Option.some.injEq, Prod.mk.injEq] at h; obtain ⟨rfl, rfl⟩ := h
      have ho : onesP (evs x.σ parts.toList) = true := by
        unfold buildOf at hb
        split at hb
        · simp at hb
        · cases ho : onesP (evs x.σ parts.toList) with
          | true => rfl
          | false => simp [ho] at hb
      obtain ⟨e1, e2⟩ := evs_map ht parts.toList ho
      obtain ⟨r1, r2⟩ := buildOf_sound (w := w) (bs := bs) hb e2
      refine ⟨_, ?_, .inr rfl, r2⟩
      have e3 : (parts.map fun (i, x) => (i, a.eval x)) = ((evs x.σ parts.toList).map fun p => (p.1, real bs p.2)).toArray := by
        apply Array.ext'; simp [← e1]
      simp only [execOp, e3, Sem.run_bind, r1, Result.andThen_ok, Sem.run_pure]
    · simp at h
  · rename_i f first cap
    cases hk : (noAny (first.toList.map (ev x.σ)) && noAny (cap.toList.map (ev x.σ))) with
    | false => simp [hk] at h
    | true =>
      simp only [hk, cond_true, Option.some.injEq, Prod.mk.injEq] at h; obtain ⟨rfl, rfl⟩ := h
      simp only [Bool.and_eq_true] at hk
      have e1 : first.map a.eval = (reals bs (first.toList.map (ev x.σ))).toArray := by apply Array.ext'; simp [← evals_eq ht _ hk.1]
      have e2 : cap.map a.eval = (reals bs (cap.toList.map (ev x.σ))).toArray := by apply Array.ext'; simp [← evals_eq ht _ hk.2]
      refine ⟨_, ?_, .inr rfl, ?_⟩
      · simp [execOp, Instr.makeFunc, e1, e2, real]
      · simp only [closed]; exact ⟨closeds_evs ht _, closeds_evs ht _⟩
  · rename_i y
    split at h
    · rename_i hy
      simp only [Option.some.injEq, Prod.mk.injEq] at h; obtain ⟨rfl, rfl⟩ := h
      have hcl := closed_ev ht y
      have hy' := eval_ev ht y (by rw [hy]; simp)
      rw [hy] at hy' hcl
      exact ⟨_, by simp [execOp, hy', real], .inr rfl, hcl⟩
    · rename_i hy
      simp only [Option.some.injEq, Prod.mk.injEq] at h; obtain ⟨rfl, rfl⟩ := h
      have hy' := eval_ev ht y (by rw [hy]; simp)
      rw [hy] at hy'
      exact ⟨_, by simp [execOp, hy', real], .inr rfl, trivial⟩
    · rename_i hy
      simp only [Option.some.injEq, Prod.mk.injEq] at h; obtain ⟨rfl, rfl⟩ := h
      have hcl := closed_ev ht y
      have hy' := eval_ev ht y (by rw [hy]; simp)
      rw [hy] at hy' hcl
      exact ⟨_, by simp [execOp, hy', real], .inr rfl, hcl⟩
    · simp at h
  · rename_i b args argTypes
    split at h
    · rename_i v' hb
      simp only [Option.some.injEq, Prod.mk.injEq] at h; obtain ⟨rfl, rfl⟩ := h
      unfold builtinOf at hb
      split at hb
      · split at hb
        · rename_i T y hT hx
          cases hk : y.isAny with
          | true => simp [hk] at hb
          | false =>
            simp only [hk, cond_false] at hb
            have hl : noAny (args.toList.map (ev x.σ)) = true := by rw [hx]; simp [noAny, hk]
            have e1 := evals_eq ht args.toList hl
            rw [hx] at e1
            have e2 : args.map a.eval = #[real bs y] := by apply Array.ext'; simpa [reals] using e1
            have e3 : argTypes = #[T] := by apply Array.ext'; simpa using hT
            obtain ⟨r1, r2⟩ := lenOf_sound (w := w) (bs := bs) (n := x.n) (ty := type) hb
            refine ⟨_, ?_, .inr rfl, r2⟩
            simp only [execOp, resolve, Sem.run_bind, Sem.run_pure, Result.andThen_ok, invoke, builtin, e2, e3, r1]
        · simp at hb
      · have hl : noAny (args.toList.map (ev x.σ)) = true := by
          unfold minOf at hb; split at hb
          · rename_i hx; rw [hx]; rfl
          · simp at hb
        have e1 := evals_eq ht args.toList hl
        have e2 : args.map a.eval = (reals bs (args.toList.map (ev x.σ))).toArray := by apply Array.ext'; simpa using e1
        obtain ⟨r1, r2⟩ := minOf_sound (P := C.P) (w := w) (bs := bs) (n := x.n) (ty := type) (Ts := argTypes) hb
        refine ⟨_, ?_, .inr rfl, r2⟩
        simp only [execOp, resolve, Sem.run_bind, Sem.run_pure, Result.andThen_ok, invoke, builtin, e2, r1]
      · have hl : noAny (args.toList.map (ev x.σ)) = true := by
          unfold maxOf at hb; split at hb
          · rename_i hx; rw [hx]; rfl
          · simp at hb
        have e1 := evals_eq ht args.toList hl
        have e2 : args.map a.eval = (reals bs (args.toList.map (ev x.σ))).toArray := by apply Array.ext'; simpa using e1
        obtain ⟨r1, r2⟩ := maxOf_sound (P := C.P) (w := w) (bs := bs) (n := x.n) (ty := type) (Ts := argTypes) hb
        refine ⟨_, ?_, .inr rfl, r2⟩
        simp only [execOp, resolve, Sem.run_bind, Sem.run_pure, Result.andThen_ok, invoke, builtin, e2, r1]
      · simp at hb
    · simp at h
  · simp at h
end Go.Ew
