/- A region that draws its order, walked. -/
import Derived.Test.YthknokcfmpahcaaDoorEwK
set_option linter.unusedSimpArgs false
set_option linter.unusedVariables false
namespace Go.Ew
open Go RowKit

def oLook : Operand → List Nat
  | .tmp t => [t]
  | _ => []
def oLooks : List Operand → List Nat
  | [] => []
  | o :: r => oLook o ++ oLooks r
def pLooks : List (Nat × Operand) → List Nat
  | [] => []
  | (_, o) :: r => oLook o ++ pLooks r
def mLook : Option Operand → List Nat
  | none => []
  | some o => oLook o
def opLooks : Op → List Nat
  | .move a => oLook a
  | .assign a => oLook a
  | .pick c a b => oLook c ++ (oLook a ++ oLook b)
  | .load _ p => oLook p
  | .binOp _ _ a b _ => oLook a ++ oLook b
  | .unOp _ _ a => oLook a
  | .convert _ _ a => oLook a
  | .index _ a i => oLook a ++ oLook i
  | .indexAddr _ a i => oLook a ++ oLook i
  | .fieldAddr _ a _ => oLook a
  | .field _ a _ => oLook a
  | .slice _ a lo hi mx => oLook a ++ (mLook lo ++ (mLook hi ++ mLook mx))
  | .extract a _ => oLook a
  | .build _ parts => pLooks parts.toList
  | .makeFunc _ f c => oLooks f.toList ++ oLooks c.toList
  | .nilCheck a => oLook a
  | .call { callee := .value f, args, .. } => oLook f ++ oLooks args.toList
  | .call { args, .. } => oLooks args.toList
  | .box _ a => oLook a
  | .buildSlice _ _ parts => pLooks parts.toList
  | .makeSlice _ l c => oLook l ++ oLook c
  | .store _ p v => oLook p ++ oLook v
  | _ => []
def footOf (σ : List (Nat × EV)) : Op → List Nat
  | .load _ p => match ev σ p with
    | .ptr i _ => [i]
    | _ => []
  | _ => []
theorem ev_agree {σ σ' : List (Nat × EV)} {o : Operand} (h : ∀ t ∈ oLook o, tget σ' t = tget σ t) : ev σ' o = ev σ o := by
  cases o with
  | tmp t => exact h t (by simp [oLook])
  | _ => rfl
theorem evl_agree {σ σ' : List (Nat × EV)} : ∀ {l : List Operand}, (∀ t ∈ oLooks l, tget σ' t = tget σ t) → l.map (ev σ') = l.map (ev σ)
  | [], _ => rfl
  | o :: r, h => by
    rw [List.map_cons, List.map_cons, ev_agree (fun t ht => h t (by simp [oLooks, ht])), evl_agree (fun t ht => h t (by simp [oLooks, ht]))]
theorem evs_agree {σ σ' : List (Nat × EV)} : ∀ {l : List (Nat × Operand)}, (∀ t ∈ pLooks l, tget σ' t = tget σ t) → evs σ' l = evs σ l
  | [], _ => rfl
  | (i, o) :: r, h => by
    simp only [evs, ev_agree (σ := σ) (σ' := σ') (o := o) (fun t ht => h t (by simp [pLooks, ht])), evs_agree (l := r) (fun t ht => h t (by simp [pLooks, ht]))]
theorem evo_agree {σ σ' : List (Nat × EV)} {o : Option Operand} (h : ∀ t ∈ mLook o, tget σ' t = tget σ t) : evo σ' o = evo σ o := by
  cases o with
  | none => rfl
  | some o => simp only [evo, ev_agree (σ := σ) (σ' := σ') (o := o) h]
theorem pureOf_agree {C : Cx} {x y : X} {op : Op} (hB : y.B = x.B) (h : ∀ t ∈ opLooks op, tget y.σ t = tget x.σ t) (hf : ∀ i ∈ footOf x.σ op, hget y.hs i = hget x.hs i) : pureOf C y op = pureOf C x op := by
  cases op with
  | move a => simp only [pureOf, ev_agree (σ := x.σ) (σ' := y.σ) (o := a) (fun t ht => h t (by simp [opLooks, ht]))]
  | assign a => simp only [pureOf, ev_agree (σ := x.σ) (σ' := y.σ) (o := a) (fun t ht => h t (by simp [opLooks, ht]))]
  | pick c a b => simp only [pureOf, ev_agree (σ := x.σ) (σ' := y.σ) (o := a) (fun t ht => h t (by simp [opLooks, ht])), ev_agree (σ := x.σ) (σ' := y.σ) (o := b) (fun t ht => h t (by simp [opLooks, ht])), ev_agree (σ := x.σ) (σ' := y.σ) (o := c) (fun t ht => h t (by simp [opLooks, ht]))]
  | load T p =>
    have e := ev_agree (σ := x.σ) (σ' := y.σ) (o := p) (fun t ht => h t (by simp [opLooks, ht]))
    simp only [pureOf, e, hB]
    simp only [footOf] at hf
    unfold loadOf
    split
    · rename_i i off hp
      rw [hp] at hf
      rw [hf i (by simp)]
    · rfl
    · rfl
  | binOp op T a b T' => simp only [pureOf, ev_agree (σ := x.σ) (σ' := y.σ) (o := a) (fun t ht => h t (by simp [opLooks, ht])), ev_agree (σ := x.σ) (σ' := y.σ) (o := b) (fun t ht => h t (by simp [opLooks, ht]))]
  | unOp op T a => simp only [pureOf, ev_agree (σ := x.σ) (σ' := y.σ) (o := a) (fun t ht => h t (by simp [opLooks, ht]))]
  | convert s d a => simp only [pureOf, ev_agree (σ := x.σ) (σ' := y.σ) (o := a) (fun t ht => h t (by simp [opLooks, ht]))]
  | index T a b => simp only [pureOf, ev_agree (σ := x.σ) (σ' := y.σ) (o := a) (fun t ht => h t (by simp [opLooks, ht])), ev_agree (σ := x.σ) (σ' := y.σ) (o := b) (fun t ht => h t (by simp [opLooks, ht]))]
  | indexAddr T a b => simp only [pureOf, ev_agree (σ := x.σ) (σ' := y.σ) (o := a) (fun t ht => h t (by simp [opLooks, ht])), ev_agree (σ := x.σ) (σ' := y.σ) (o := b) (fun t ht => h t (by simp [opLooks, ht]))]
  | fieldAddr T a f => simp only [pureOf, ev_agree (σ := x.σ) (σ' := y.σ) (o := a) (fun t ht => h t (by simp [opLooks, ht]))]
  | field T a f => simp only [pureOf, ev_agree (σ := x.σ) (σ' := y.σ) (o := a) (fun t ht => h t (by simp [opLooks, ht]))]
  | slice T a lo hi mx => simp only [pureOf, ev_agree (σ := x.σ) (σ' := y.σ) (o := a) (fun t ht => h t (by simp [opLooks, ht])), evo_agree (σ := x.σ) (σ' := y.σ) (o := lo) (fun t ht => h t (by simp [opLooks, ht])), evo_agree (σ := x.σ) (σ' := y.σ) (o := hi) (fun t ht => h t (by simp [opLooks, ht])), evo_agree (σ := x.σ) (σ' := y.σ) (o := mx) (fun t ht => h t (by simp [opLooks, ht]))]
  | extract a i => simp only [pureOf, ev_agree (σ := x.σ) (σ' := y.σ) (o := a) (fun t ht => h t (by simp [opLooks, ht]))]
  | build T parts => simp only [pureOf, evs_agree (σ := x.σ) (σ' := y.σ) (l := parts.toList) (fun t ht => h t (by simp [opLooks, ht]))]
  | makeFunc f first cap => simp only [pureOf, evl_agree (σ := x.σ) (σ' := y.σ) (l := first.toList) (fun t ht => h t (by simp [opLooks, ht])), evl_agree (σ := x.σ) (σ' := y.σ) (l := cap.toList) (fun t ht => h t (by simp [opLooks, ht]))]
  | nilCheck a => simp only [pureOf, ev_agree (σ := x.σ) (σ' := y.σ) (o := a) (fun t ht => h t (by simp [opLooks, ht]))]
  | call c =>
    obtain ⟨callee, args, Ts⟩ := c
    cases callee with
    | builtin b => simp only [pureOf, evl_agree (σ := x.σ) (σ' := y.σ) (l := args.toList) (fun t ht => h t (by simp [opLooks, ht]))]
    | _ => rfl
  | _ => rfl
theorem allocOf_agree {C : Cx} {x y : X} {op : Op} (h : ∀ t ∈ opLooks op, tget y.σ t = tget x.σ t) (hn : y.n = x.n) : allocOf C y op = allocOf C x op := by
  cases op with
  | alloc T => simp only [allocOf, hn]
  | box T a => simp only [allocOf, hn, ev_agree (σ := x.σ) (σ' := y.σ) (o := a) (fun t ht => h t (by simp [opLooks, ht]))]
  | buildSlice T len parts => simp only [allocOf, hn, evs_agree (σ := x.σ) (σ' := y.σ) (l := parts.toList) (fun t ht => h t (by simp [opLooks, ht]))]
  | makeSlice T l c => simp only [allocOf, hn, ev_agree (σ := x.σ) (σ' := y.σ) (o := l) (fun t ht => h t (by simp [opLooks, ht])), ev_agree (σ := x.σ) (σ' := y.σ) (o := c) (fun t ht => h t (by simp [opLooks, ht]))]
  | _ => rfl
theorem allocOf_none {C : Cx} {x y : X} {op : Op} (h : ∀ t ∈ opLooks op, tget y.σ t = tget x.σ t) (hx : allocOf C x op = none) : allocOf C y op = none := by
  cases op with
  | alloc T =>
    simp only [allocOf] at hx ⊢
    split at hx
    · simp at hx
    · rfl
  | box T a =>
    simp only [allocOf, ev_agree (σ := x.σ) (σ' := y.σ) (o := a) (fun t ht => h t (by simp [opLooks, ht]))] at hx ⊢
    split at hx
    · rfl
    · simp at hx
    · simp at hx
  | buildSlice T len parts =>
    simp only [allocOf, evs_agree (σ := x.σ) (σ' := y.σ) (l := parts.toList) (fun t ht => h t (by simp [opLooks, ht]))] at hx ⊢
    split at hx
    · split at hx
      · cases ho : onesP (evs x.σ parts.toList) with
        | true =>
          simp only [ho, cond_true] at hx ⊢
          split at hx
          · simp at hx
          · rfl
        | false => simp
      · rfl
    · rfl
  | makeSlice T l c =>
    simp only [allocOf, ev_agree (σ := x.σ) (σ' := y.σ) (o := l) (fun t ht => h t (by simp [opLooks, ht])), ev_agree (σ := x.σ) (σ' := y.σ) (o := c) (fun t ht => h t (by simp [opLooks, ht]))] at hx ⊢
    split at hx
    · split at hx
      · simp at hx
      · rfl
    · rfl
  | _ => rfl
def sfoot (σ : List (Nat × EV)) : Op → List Nat
  | .store _ p _ => match ev σ p with
    | .ptr i _ => [i]
    | _ => []
  | _ => []
theorem storeOf_agree {C : Cx} {x y : X} {op : Op} (h : ∀ t ∈ opLooks op, tget y.σ t = tget x.σ t) (hf : ∀ i ∈ sfoot x.σ op, hget y.hs i = hget x.hs i) : storeOf C y op = storeOf C x op := by
  cases op with
  | store T p v =>
    have e1 := ev_agree (σ := x.σ) (σ' := y.σ) (o := p) (fun t ht => h t (by simp [opLooks, ht]))
    have e2 := ev_agree (σ := x.σ) (σ' := y.σ) (o := v) (fun t ht => h t (by simp [opLooks, ht]))
    simp only [storeOf, e1, e2]
    simp only [sfoot] at hf
    split
    · rename_i i off hp
      rw [hp] at hf
      rw [hf i (by simp)]
    · rfl
  | _ => rfl
/-- What an operation that is no call makes of a state. -/
def gLook (ops : List Oper) (g : Option (Nat × Bool)) : List Nat :=
  match g with
  | none => []
  | some (j, _) => match ops[j]? with
    | some oj => match oj.dst with
      | some d => [d]
      | none => []
    | none => []
def stepF (C : Cx) (ops : List Oper) (o : Oper) (x : X) : Option (Ef × Prop) :=
  match pureOf C x o.op with
  | some (v, c) => some ({ dst := o.dst, v := v, ups := [], a := 0, looks := opLooks o.op ++ gLook ops o.guard, foot := footOf x.σ o.op }, c)
  | none => match allocOf C x o.op with
    | some (v, ob, c) => some ({ dst := o.dst, v := v, ups := [(x.n, some ob)], a := 1, looks := opLooks o.op ++ gLook ops o.guard, foot := footOf x.σ o.op }, c)
    | none => match storeOf C x o.op with
      | some (i, ob, c) => some ({ dst := o.dst, v := .tup [], ups := [(i, some ob)], a := 0, looks := opLooks o.op ++ gLook ops o.guard, foot := sfoot x.σ o.op ++ footOf x.σ o.op }, c)
      | none => none
theorem stepF_goes {C : Cx} {ops : List Oper} {o : Oper} {x y : X} {E : Ef} {c : Prop} (hd : dstIn C.N o.dst = true) (h : stepF C ops o x = some (E, c)) (hc : c) (hy : Agree E y x) : Goes C o y (fun z => Alike z (E.app y)) := by
  unfold stepF at h
  split at h
  · rename_i v c' hp
    simp only [Option.some.injEq, Prod.mk.injEq] at h; obtain ⟨rfl, rfl⟩ := h
    have e := pureOf_agree (C := C) (x := x) (y := y) (op := o.op) hy.B (fun t ht => hy.σ t (by simp [ht])) (fun i hi => hy.hs i hi)
    exact stepO_sound hd (x' := { σ := put y.σ o.dst v, n := y.n, hs := y.hs, B := y.B, ms := y.ms }) (c := c') (by simp only [stepO, e, hp]) hc (Alike.rfl' _)
  · rename_i hp
    split at h
    · rename_i v ob c' ha
      simp only [Option.some.injEq, Prod.mk.injEq] at h; obtain ⟨rfl, rfl⟩ := h
      have e := pureOf_agree (C := C) (x := x) (y := y) (op := o.op) hy.B (fun t ht => hy.σ t (by simp [ht])) (fun i hi => hy.hs i (by simp [hi]))
      have hn : y.n = x.n := hy.n (by simp)
      have e2 := allocOf_agree (C := C) (x := x) (y := y) (op := o.op) (fun t ht => hy.σ t (by simp [ht])) hn
      refine stepO_sound hd (x' := { σ := put y.σ o.dst v, n := y.n + 1, hs := (y.n, some ob) :: y.hs, B := y.B, ms := y.ms }) (c := c') (by simp only [stepO, e, hp, e2, ha]) hc ?_
      exact ⟨fun t => rfl, rfl, fun i => by simp [Ef.app, hn], rfl, rfl⟩
    · rename_i ha
      split at h
      · rename_i i ob c' hs
        simp only [Option.some.injEq, Prod.mk.injEq] at h; obtain ⟨rfl, rfl⟩ := h
        have e := pureOf_agree (C := C) (x := x) (y := y) (op := o.op) hy.B (fun t ht => hy.σ t (by simp [ht])) (fun i hi => hy.hs i (by simp [hi]))
        have e2 := allocOf_none (C := C) (x := x) (y := y) (op := o.op) (fun t ht => hy.σ t (by simp [ht])) ha
        have e3 := storeOf_agree (C := C) (x := x) (y := y) (op := o.op) (fun t ht => hy.σ t (by simp [ht])) (fun i hi => hy.hs i (by simp [hi]))
        exact stepO_sound hd (x' := { σ := put y.σ o.dst (.tup []), n := y.n, hs := (i, some ob) :: y.hs, B := y.B, ms := y.ms }) (c := c') (by simp only [stepO, e, hp, e2, e3, hs]) hc (Alike.rfl' _)
      · simp at h
theorem guardOf_agree {ops : List Oper} {σ σ' : List (Nat × EV)} {g : Option (Nat × Bool)} (h : ∀ t ∈ gLook ops g, tget σ' t = tget σ t) : guardOf ops σ' g = guardOf ops σ g := by
  unfold guardOf
  cases g with
  | none => rfl
  | some jw =>
    obtain ⟨j, w⟩ := jw
    simp only [gLook] at h ⊢
    cases hj : ops[j]? with
    | none => rfl
    | some oj =>
      simp only [hj] at h ⊢
      cases hd : oj.dst with
      | none => rfl
      | some d => simp only [hd] at h ⊢; rw [h d (by simp)]
theorem loc_of_goes {C : Cx} {ops : List Oper} {o : Oper} {x : X} {E : Ef} (hl : ∀ t ∈ gLook ops o.guard, t ∈ E.looks)
    (hg : guardOf ops x.σ o.guard = .run ∨ ∃ b want d, guardOf ops x.σ o.guard = .test b want d ∧ b = want) (h : ∀ y, Agree E y x → Goes C o y (fun z => Alike z (E.app y))) : Loc C ops o E x := by
  intro y hy
  have e := guardOf_agree (ops := ops) (g := o.guard) (fun t ht => hy.σ t (hl t ht))
  unfold eOp
  rw [e]
  rcases hg with hg | ⟨b, want, d, hg, hb⟩
  · simp only [hg]; exact h y hy
  · simp only [hg]
    subst hb
    exact ⟨fun _ => h y hy, fun hx => by cases b <;> simp at hx⟩
theorem loc_skip {C : Cx} {ops : List Oper} {o : Oper} {x : X} {b want : Bool} {d : Tmp} (hg : guardOf ops x.σ o.guard = .test b want d) (hb : b = !want) :
    Loc C ops o { dst := o.dst, v := .tup [], ups := [], a := 0, looks := gLook ops o.guard, foot := [] } x := by
  intro y hy
  have e := guardOf_agree (ops := ops) (g := o.guard) (fun t ht => hy.σ t ht)
  unfold eOp
  rw [e]
  simp only [hg]
  exact ⟨fun hx => by subst hb; cases want <;> simp at hx, fun _ => ⟨fun _ => rfl, rfl, fun _ => rfl, rfl, rfl⟩⟩

/-! ### the walk -/
def pwB : List (Nat × Oper × Ef) → Bool
  | [] => true
  | p :: r => r.all (fun q => hasEdge q.2.1 p.1 || p.2.2.apart q.2.2) && pwB r
theorem pwB_spec : ∀ {l : List (Nat × Oper × Ef)}, pwB l = true → PW l
  | [], _ => List.Pairwise.nil
  | p :: r, h => by
    simp only [pwB, Bool.and_eq_true, List.all_eq_true, Bool.or_eq_true] at h
    exact List.pairwise_cons.2 ⟨fun q hq => h.1 q hq, pwB_spec h.2⟩
def backB : Nat → List Oper → Bool
  | _, [] => true
  | i, o :: r => o.after.all (fun e => !Region.binds .any e || decide (e.on < i)) && backB (i + 1) r
theorem backB_spec : ∀ {l : List Oper} {k : Nat}, backB k l = true → ∀ i o, l[i]? = some o → ∀ e ∈ o.after, Region.binds .any e = true → e.on < k + i
  | [], k, _, i, o, ho => by simp at ho
  | p :: r, k, h, i, o, ho => by
    simp only [backB, Bool.and_eq_true, Array.all_eq_true_iff_forall_mem, Bool.or_eq_true, Bool.not_eq_true', decide_eq_true_eq] at h
    cases i with
    | zero =>
      simp only [List.getElem?_cons_zero, Option.some.injEq] at ho; subst ho
      intro e he hb
      rcases h.1 e he with h' | h'
      · rw [hb] at h'; simp at h'
      · omega
    | succ i =>
      intro e he hb
      have := backB_spec h.2 i o (by simpa using ho) e he hb
      omega
/-- The rest of a region that draws; acc: what stands behind, the last first. -/
def DG (C : Cx) (Q : Exit → X → Prop) (ops : List Oper) (st : List It) (acc : List (Nat × Oper × Ef)) (k : Nat) (rest : List Oper) (x : X) : Prop :=
  ∃ l, l.map (fun p => (p.1, p.2.1)) = (rest.zipIdx k).map (fun p => (p.2, p.1)) ∧ Chain C ops (Next C Q st) l x ∧ pwB (acc.reverse ++ l) = true
theorem Next.alike {C : Cx} {Q : Exit → X → Prop} {st : List It} {x y : X} (h : Next C Q st x) (e : Alike y x) : Next C Q st y :=
  fun hst bs a w hr => h hst bs a w (hr.alike e)
theorem dg_nil {C : Cx} {Q : Exit → X → Prop} {ops : List Oper} {st : List It} {acc : List (Nat × Oper × Ef)} {k : Nat} {x : X} (h : pwB acc.reverse = true) (hk : Next C Q st x) : DG C Q ops st acc k [] x :=
  ⟨[], rfl, fun y e => hk.alike e, by simpa using h⟩
theorem dg_cons {C : Cx} {Q : Exit → X → Prop} {ops : List Oper} {st : List It} {acc : List (Nat × Oper × Ef)} {k : Nat} {o : Oper} {rest : List Oper} {x : X} {E : Ef} (h : Loc C ops o E x)
    (hk : DG C Q ops st ((k, o, E) :: acc) (k + 1) rest (E.app x)) : DG C Q ops st acc k (o :: rest) x := by
  obtain ⟨l, h1, h2, h3⟩ := hk
  refine ⟨(k, o, E) :: l, ?_, ⟨h, h2⟩, ?_⟩
  · simp only [List.map_cons, List.zipIdx_cons, h1]
  · simpa using h3
theorem DG.alike {C : Cx} {Q : Exit → X → Prop} {ops : List Oper} {st : List It} {acc : List (Nat × Oper × Ef)} {k : Nat} {rest : List Oper} {x y : X} (h : DG C Q ops st acc k rest x) (e : Alike x y) : DG C Q ops st acc k rest y := by
  obtain ⟨l, h1, h2, h3⟩ := h
  exact ⟨l, h1, chain_alike l h2 e, h3⟩
theorem drawS_of {C : Cx} {Q : Exit → X → Prop} {ops : List Oper} {st : List It} {id : Nat} {x : X} (hm : C.P.follows .mixedOrders = true) (hb : backB 0 ops = true) (h : allIn C.N ops = true → DG C Q ops st [] 0 ops x) : drawS C Q id ops st x := by
  intro hst bs a w hr
  obtain ⟨hin, hst⟩ := hst
  simp only [codeIn] at hin
  obtain ⟨l, h1, h2, h3⟩ := h (by simpa using hin)
  simp only [contS]
  have hlen : l.length = ops.length := by
    have := congrArg List.length h1; simpa using this
  have hget : ∀ i : Nat, (l[i]?).map (fun (p : Nat × Oper × Ef) => (p.1, p.2.1)) = (ops[i]?).map (fun o => (i, o)) := by
    intro i
    have := congrArg (fun l => l[i]?) h1
    simp only [List.getElem?_map, List.getElem?_zipIdx] at this
    rw [this]
    cases ops[i]? <;> simp
  have hallIn : ∀ {l : List Oper}, allIn C.N l = true → ∀ o ∈ l, dstIn C.N o.dst = true := by
    intro l
    induction l with
    | nil => intro _ o ho; simp at ho
    | cons p r ih =>
      intro h o ho
      simp only [allIn, Bool.and_eq_true] at h
      rcases List.mem_cons.1 ho with rfl | ho
      · exact h.1
      · exact ih h.2 o ho
  refine wpIn_region_any hm ?_
  refine draw_main (C := C) (ops := ops) (K := Next C Q st) (fun x bs a w hr hk => hk hst bs a w hr) (fun i o ho e he hb' => by have := backB_spec hb i o ho e he hb'; omega)
    _ l _ x bs a _ (by simpa using hlen) (by simp) ?_ ?_ ?_ (pwB_spec (by simpa using h3)) h2 ⟨hr.t, ⟨hr.h.live, hr.h.cl, hr.h.inj, hr.h.old, hr.h.new, hr.h.frame, hr.h.os, hr.h.tape, hr.h.output, hr.h.hsize, hr.h.newE, hr.h.frameE, hr.h.apart, hr.h.eo⟩⟩
  · intro p hp
    obtain ⟨i, hi, rfl⟩ := List.mem_iff_getElem.1 hp
    have hg := hget i
    rw [List.getElem?_eq_getElem hi, List.getElem?_eq_getElem (by omega : i < ops.length)] at hg
    simp only [Option.map_some, Option.some.injEq, Prod.mk.injEq] at hg
    rw [hg.1, hg.2]
    refine ⟨List.getElem?_eq_getElem (by omega), hallIn (by simpa using hin) _ (List.getElem_mem _), ?_⟩
    simp [Array.getD_eq_getD_getElem?, show i < ops.length by omega]
  · intro i hi _
    refine ⟨l[i]'(by omega), List.getElem_mem _, ?_⟩
    have hg := hget i
    rw [List.getElem?_eq_getElem (by omega : i < l.length), List.getElem?_eq_getElem hi] at hg
    simp only [Option.map_some, Option.some.injEq, Prod.mk.injEq] at hg
    exact hg.1
  · rw [List.pairwise_iff_getElem]
    intro i j hi hj hij
    have hg := hget i
    have hg' := hget j
    rw [List.getElem?_eq_getElem hi, List.getElem?_eq_getElem (by omega : i < ops.length)] at hg
    rw [List.getElem?_eq_getElem hj, List.getElem?_eq_getElem (by omega : j < ops.length)] at hg'
    simp only [Option.map_some, Option.some.injEq, Prod.mk.injEq] at hg hg'
    rw [hg.1, hg'.1]; exact hij
/-- A call of which the contract says 'Ret'. -/
def callD (C : Cx) (Q : Exit → X → Prop) (ops : List Oper) (st : List It) (f : FuncId) (args : List EV) (acc : List (Nat × Oper × Ef)) (k : Nat) (o : Oper) (rest : List Oper) (x : X) : Prop :=
  ∃ v foot, closed 0 v ∧ ((Enters C.P f ∧ ∀ (y : X) bs w, y.B = x.B → (∀ i ∈ foot, hget y.hs i = hget x.hs i) → HRel C y.B y.n y.hs bs w → Calls C.P f (reals bs args).toArray w (Ret (real bs v) w)) ∨ (∀ bs w, (callFunc f (reals bs args).toArray).run C.P w = .ok (.value (real bs v)) w)) ∧
    (allIn C.N rest = true → DG C Q ops st ((k, o, { dst := o.dst, v := v, ups := [], a := 0, looks := opLooks o.op ++ gLook ops o.guard, foot := foot }) :: acc) (k + 1) rest
      { σ := put x.σ o.dst v, n := x.n, hs := x.hs, B := x.B, ms := x.ms })
theorem callD_pure {C : Cx} {Q : Exit → X → Prop} {ops : List Oper} {st : List It} {f : FuncId} {args : List EV} {acc : List (Nat × Oper × Ef)} {k : Nat} {o : Oper} {rest : List Oper} {x : X} (v : EV) (foot : List Nat) (hE : Enters C.P f) (hcl : closed 0 v)
    (h : ∀ (y : X) bs w, y.B = x.B → (∀ i ∈ foot, hget y.hs i = hget x.hs i) → HRel C y.B y.n y.hs bs w → Calls C.P f (reals bs args).toArray w (Ret (real bs v) w))
    (hk : allIn C.N rest = true → DG C Q ops st ((k, o, { dst := o.dst, v := v, ups := [], a := 0, looks := opLooks o.op ++ gLook ops o.guard, foot := foot }) :: acc) (k + 1) rest { σ := put x.σ o.dst v, n := x.n, hs := x.hs, B := x.B, ms := x.ms }) :
    callD C Q ops st f args acc k o rest x := ⟨v, foot, hcl, .inl ⟨hE, h⟩, hk⟩
theorem callD_ext {C : Cx} {Q : Exit → X → Prop} {ops : List Oper} {st : List It} {f : FuncId} {args : List EV} {acc : List (Nat × Oper × Ef)} {k : Nat} {o : Oper} {rest : List Oper} {x : X} (v : EV) (hcl : closed 0 v)
    (h : ∀ bs w, (callFunc f (reals bs args).toArray).run C.P w = .ok (.value (real bs v)) w)
    (hk : allIn C.N rest = true → DG C Q ops st ((k, o, { dst := o.dst, v := v, ups := [], a := 0, looks := opLooks o.op ++ gLook ops o.guard, foot := [] }) :: acc) (k + 1) rest { σ := put x.σ o.dst v, n := x.n, hs := x.hs, B := x.B, ms := x.ms }) :
    callD C Q ops st f args acc k o rest x := ⟨v, [], hcl, .inr h, hk⟩
def endD (C : Cx) (Q : Exit → X → Prop) (st : List It) (acc : List (Nat × Oper × Ef)) (x : X) : Prop := pwB acc.reverse = true ∧ Next C Q st x
def specD (C : Cx) (Q : Exit → X → Prop) (ops : List Oper) (st : List It) (acc : List (Nat × Oper × Ef)) (k : Nat) (o : Oper) (rest : List Oper) (x : X) : Prop :=
  (guardOf ops x.σ o.guard = .run ∨ ∃ b want d, guardOf ops x.σ o.guard = .test b want d ∧ b = want) → dstIn C.N o.dst = true → DG C Q ops st acc k (o :: rest) x
mutual
def drawG (C : Cx) (Q : Exit → X → Prop) (ops : List Oper) (st : List It) : Nat → List (Nat × Oper × Ef) → Nat → List Oper → X → Prop
  | 0, _, _, _, _ => False
  | _ + 1, acc, _, [], x => endD C Q st acc x
  | n + 1, acc, k, o :: rest, x =>
    match guardOf ops x.σ o.guard with
    | .run => opD C Q ops st n acc k o rest x
    | .test b want d => testD C Q ops st n b want d acc k o rest x
    | .bad => False
def opD (C : Cx) (Q : Exit → X → Prop) (ops : List Oper) (st : List It) : Nat → List (Nat × Oper × Ef) → Nat → Oper → List Oper → X → Prop
  | 0, _, _, _, _, _ => False
  | n + 1, acc, k, o, rest, x =>
    match stepF C ops o x with
    | some (E, c) => c ∧ drawG C Q ops st n ((k, o, E) :: acc) (k + 1) rest { σ := put x.σ E.dst E.v, n := x.n + E.a, hs := E.ups ++ x.hs, B := x.B, ms := x.ms }
    | none =>
      match o.op with
      | .call { callee := .value (.func f), args, .. } => noAny (args.toList.map (ev x.σ)) = true ∧ callD C Q ops st f (args.toList.map (ev x.σ)) acc k o rest x
      | _ => specD C Q ops st acc k o rest x
def testD (C : Cx) (Q : Exit → X → Prop) (ops : List Oper) (st : List It) : Nat → Bool → Bool → Tmp → List (Nat × Oper × Ef) → Nat → Oper → List Oper → X → Prop
  | 0, _, _, _, _, _, _, _, _ => False
  | n + 1, b, want, d, acc, k, o, rest, x =>
    (b = want → opD C Q ops st n acc k o rest { σ := (d, .bool want) :: x.σ, n := x.n, hs := x.hs, B := x.B, ms := x.ms }) ∧
    (b = !want → drawG C Q ops st n ((k, o, { dst := o.dst, v := .tup [], ups := [], a := 0, looks := gLook ops o.guard, foot := [] }) :: acc) (k + 1) rest { σ := put ((d, .bool (!want)) :: x.σ) o.dst (.tup []), n := x.n, hs := x.hs, B := x.B, ms := x.ms })
end
theorem testD_tt {C : Cx} {Q : Exit → X → Prop} {ops : List Oper} {st : List It} {n : Nat} {d : Tmp} {acc : List (Nat × Oper × Ef)} {k : Nat} {o : Oper} {rest : List Oper} {x : X} :
    testD C Q ops st (n + 1) true true d acc k o rest x = opD C Q ops st n acc k o rest { σ := (d, .bool true) :: x.σ, n := x.n, hs := x.hs, B := x.B, ms := x.ms } := by simp [testD]
theorem testD_ff {C : Cx} {Q : Exit → X → Prop} {ops : List Oper} {st : List It} {n : Nat} {d : Tmp} {acc : List (Nat × Oper × Ef)} {k : Nat} {o : Oper} {rest : List Oper} {x : X} :
    testD C Q ops st (n + 1) false false d acc k o rest x = opD C Q ops st n acc k o rest { σ := (d, .bool false) :: x.σ, n := x.n, hs := x.hs, B := x.B, ms := x.ms } := by simp [testD]
theorem testD_tf {C : Cx} {Q : Exit → X → Prop} {ops : List Oper} {st : List It} {n : Nat} {d : Tmp} {acc : List (Nat × Oper × Ef)} {k : Nat} {o : Oper} {rest : List Oper} {x : X} :
    testD C Q ops st (n + 1) true false d acc k o rest x = drawG C Q ops st n ((k, o, { dst := o.dst, v := .tup [], ups := [], a := 0, looks := gLook ops o.guard, foot := [] }) :: acc) (k + 1) rest { σ := put ((d, .bool true) :: x.σ) o.dst (.tup []), n := x.n, hs := x.hs, B := x.B, ms := x.ms } := by simp [testD]
theorem testD_ft {C : Cx} {Q : Exit → X → Prop} {ops : List Oper} {st : List It} {n : Nat} {d : Tmp} {acc : List (Nat × Oper × Ef)} {k : Nat} {o : Oper} {rest : List Oper} {x : X} :
    testD C Q ops st (n + 1) false true d acc k o rest x = drawG C Q ops st n ((k, o, { dst := o.dst, v := .tup [], ups := [], a := 0, looks := gLook ops o.guard, foot := [] }) :: acc) (k + 1) rest { σ := put ((d, .bool false) :: x.σ) o.dst (.tup []), n := x.n, hs := x.hs, B := x.B, ms := x.ms } := by simp [testD]
theorem testD_split {C : Cx} {Q : Exit → X → Prop} {ops : List Oper} {st : List It} {n : Nat} {b want : Bool} {d : Tmp} {acc : List (Nat × Oper × Ef)} {k : Nat} {o : Oper} {rest : List Oper} {x : X}
    (h1 : b = want → opD C Q ops st n acc k o rest { σ := (d, .bool want) :: x.σ, n := x.n, hs := x.hs, B := x.B, ms := x.ms })
    (h2 : b = !want → drawG C Q ops st n ((k, o, { dst := o.dst, v := .tup [], ups := [], a := 0, looks := gLook ops o.guard, foot := [] }) :: acc) (k + 1) rest { σ := put ((d, .bool (!want)) :: x.σ) o.dst (.tup []), n := x.n, hs := x.hs, B := x.B, ms := x.ms }) :
    testD C Q ops st (n + 1) b want d acc k o rest x := by simp only [testD]; exact ⟨h1, h2⟩
def RunsIt (ops : List Oper) (o : Oper) (x : X) : Prop := guardOf ops x.σ o.guard = .run ∨ ∃ b want d, guardOf ops x.σ o.guard = .test b want d ∧ b = want
theorem guardOf_test {ops : List Oper} {σ : List (Nat × EV)} {g : Option (Nat × Bool)} {b want : Bool} {d : Tmp} (h : guardOf ops σ g = .test b want d) : tget σ d = .bool b ∧ ∀ b', guardOf ops ((d, .bool b') :: σ) g = .test b' want d := by
  unfold guardOf at h
  split at h
  · simp at h
  · rename_i j w
    split at h
    · rename_i oj hj
      split at h
      · rename_i d' hd
        split at h
        · rename_i b'' hb
          simp only [Gd.test.injEq] at h
          obtain ⟨rfl, rfl, rfl⟩ := h
          exact ⟨hb, fun b' => by simp [guardOf, hj, hd, tget_cons]⟩
        · simp at h
      · simp at h
    · simp at h
theorem alike_known {σ : List (Nat × EV)} {d : Nat} {v : EV} {n : Nat} {hs : List (Nat × Option EObj)} {B : Base} {ms : List Nat} (h : tget σ d = v) : Alike ⟨(d, v) :: σ, n, hs, B, ms⟩ ⟨σ, n, hs, B, ms⟩ :=
  ⟨fun t => by
    show tget ((d, v) :: σ) t = tget σ t
    rw [tget_cons]
    by_cases e : d = t
    · subst e; rw [if_pos rfl, h]
    · rw [if_neg e], rfl, fun _ => rfl, rfl, rfl⟩
theorem drawG_sound_all {C : Cx} {Q : Exit → X → Prop} {ops : List Oper} {st : List It} (n : Nat) :
    (∀ acc k rest x, drawG C Q ops st n acc k rest x → allIn C.N rest = true → DG C Q ops st acc k rest x) ∧
    (∀ acc k o rest x, opD C Q ops st n acc k o rest x → RunsIt ops o x → dstIn C.N o.dst = true → allIn C.N rest = true → DG C Q ops st acc k (o :: rest) x) ∧
    (∀ b want d acc k o rest x, testD C Q ops st n b want d acc k o rest x → guardOf ops x.σ o.guard = .test b want d → dstIn C.N o.dst = true → allIn C.N rest = true → DG C Q ops st acc k (o :: rest) x) := by
  induction n with
  | zero => exact ⟨fun acc k rest x h => by simp [drawG] at h, fun acc k o rest x h => by simp [opD] at h, fun b want d acc k o rest x h => by simp [testD] at h⟩
  | succ n ih =>
    obtain ⟨ih1, ih2, ih3⟩ := ih
    refine ⟨?_, ?_, ?_⟩
    · intro acc k rest x h hin
      cases rest with
      | nil => simp only [drawG, endD] at h; exact dg_nil h.1 h.2
      | cons o rest =>
        simp only [allIn, Bool.and_eq_true] at hin
        simp only [drawG] at h
        cases hg : guardOf ops x.σ o.guard with
        | run => simp only [hg] at h; exact ih2 acc k o rest x h (.inl hg) hin.1 hin.2
        | test b want d => simp only [hg] at h; exact ih3 b want d acc k o rest x h hg hin.1 hin.2
        | bad => simp only [hg] at h
    · intro acc k o rest x h hrun hd hin
      simp only [opD] at h
      split at h
      · rename_i E c hs
        have hl : ∀ t ∈ gLook ops o.guard, t ∈ E.looks := by
          intro t ht
          unfold stepF at hs
          split at hs
          · simp only [Option.some.injEq, Prod.mk.injEq] at hs; obtain ⟨rfl, _⟩ := hs; simp [ht]
          · split at hs
            · simp only [Option.some.injEq, Prod.mk.injEq] at hs; obtain ⟨rfl, _⟩ := hs; simp [ht]
            · split at hs
              · simp only [Option.some.injEq, Prod.mk.injEq] at hs; obtain ⟨rfl, _⟩ := hs; simp [ht]
              · simp at hs
        exact dg_cons (loc_of_goes hl hrun (fun y hy => stepF_goes hd hs h.1 hy)) (ih1 _ _ _ _ h.2 hin)
      · obtain ⟨dst, op, type, pos, after, guard⟩ := o
        simp only at h hd
        split at h
        · rename_i f args _ _
          obtain ⟨h1, v, foot, hcl, hcon, hk⟩ := h
          refine dg_cons (loc_of_goes (fun t ht => by simp [ht]) hrun (fun y hy => ?_)) (hk hin)
          have el := evl_agree (σ := x.σ) (σ' := y.σ) (l := args.toList) (fun t ht => hy.σ t (by simp [opLooks, ht]))
          refine goes_mono (goes_call (f := f) (K := fun z => z = { σ := put y.σ dst v, n := y.n, hs := y.hs, B := y.B, ms := y.ms }) (args := args.toList.map (ev x.σ)) (by intro c; simp) (fun bs a w hr => ?_) hd ?_) ?_
          · have e := evals_eq hr.t args.toList (by rw [el]; exact h1)
            have e2 : args.map a.eval = (reals bs (args.toList.map (ev y.σ))).toArray := by apply Array.ext'; simpa using e
            refine ⟨by rw [← el]; simp [execOp, resolve, Act.eval, Deferred.ofValue, invoke, e2], ?_⟩
            rw [← el]; exact closeds_evs hr.t _
          · rcases hcon with ⟨hE, hcon⟩ | hcon
            · exact .inl ⟨hE, ecalls_pure v (closed_mono (Nat.zero_le _) _ hcl) (fun bs w hh => hcon y bs w hy.B (fun i hi => hy.hs i hi) hh) rfl⟩
            · exact .inr ⟨v, closed_mono (Nat.zero_le _) _ hcl, hcon, rfl⟩
          · rintro z rfl; exact ⟨fun _ => rfl, rfl, fun _ => rfl, rfl, rfl⟩
        · exact h hrun hd
    · intro b want d acc k o rest x h hg hd hin
      simp only [testD] at h
      obtain ⟨hx, hgt⟩ := guardOf_test hg
      by_cases e : b = want
      · subst e
        refine DG.alike (ih2 acc k o rest _ (h.1 rfl) (.inr ⟨b, b, d, hgt b, rfl⟩) hd hin) (alike_known hx)
      · have e' : b = !want := by cases b <;> cases want <;> simp_all
        have hk := ih1 _ _ _ _ (h.2 e') hin
        refine dg_cons (loc_skip hg e') (hk.alike ?_)
        rw [e'] at hx
        refine ⟨fun t => ?_, rfl, fun _ => rfl, rfl, rfl⟩
        simp only [Ef.app, tget_put]
        rw [tget_cons]
        by_cases e1 : d = t
        · subst e1; simp [hx]
        · simp [e1]
theorem dg_of {C : Cx} {Q : Exit → X → Prop} {ops : List Oper} {st : List It} {acc : List (Nat × Oper × Ef)} {k : Nat} {rest : List Oper} {x : X} (n : Nat) (h : drawG C Q ops st n acc k rest x) : allIn C.N rest = true → DG C Q ops st acc k rest x :=
  (drawG_sound_all n).1 acc k rest x h
end Go.Ew
