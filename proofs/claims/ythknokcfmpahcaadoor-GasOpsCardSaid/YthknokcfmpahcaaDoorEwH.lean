/- One operation of whatever make; a list of operations; code; a function. -/
import Derived.Test.YthknokcfmpahcaaDoorEwG
import Derived.RangeFuncRecord
import Derived.OrdersIn
import Derived.LoopNIn
set_option linter.unusedSimpArgs false
set_option linter.unusedVariables false
namespace Go.Ew
open Go RowKit

theorem tget_cons (d t : Nat) (v : EV) (σ : List (Nat × EV)) : tget ((d, v) :: σ) t = if d = t then v else tget σ t := by
  by_cases h : d = t
  · subst h; simp [tget]
  · rw [if_neg h]; simp only [tget]; rw [beq_false_of_ne h]; rfl
def dstIn (N : Nat) (dst : Option Tmp) : Bool :=
  match dst with
  | some d => decide (d < N)
  | none => true
theorem TRel.next {C : Cx} {ms : List Nat} {n n' : Nat} {σ : List (Nat × EV)} {bs bs' : Nat → Nat} {a : Act} (h : TRel C ms n σ bs a) (hn : n ≤ n') (hb : ∀ i, i < n → bs' i = bs i) {dst : Option Tmp} (hd : dstIn C.N dst = true)
    {v : EV} {V : Value} (hv : v = .any ∨ V = real bs' v) (hc : closed n' v) : TRel C ms n' (put σ dst v) bs' (a.put dst V) := by
  have lift : ∀ t, tget σ t ≠ .any → a.tmps[t]? = some (real bs' (tget σ t)) := fun t ht => by rw [real_congr hb _ (h.cl t)]; exact h.tmps t ht
  cases dst with
  | none => exact ⟨h.size, h.defers.trans (marks_congr hb h.msin).symm, fun i hi => Nat.lt_of_lt_of_le (h.msin i hi) hn, lift, fun t => closed_mono hn _ (h.cl t)⟩
  | some d =>
    simp only [dstIn, decide_eq_true_eq] at hd
    refine ⟨by simp [Act.put, h.size], h.defers.trans (marks_congr hb h.msin).symm, fun i hi => Nat.lt_of_lt_of_le (h.msin i hi) hn, ?_, ?_⟩
    · intro t ht
      simp only [put] at ht ⊢
      rw [tget_cons] at ht ⊢
      simp only [Act.put, Array.getElem?_setIfInBounds]
      by_cases e : d = t
      · subst e
        simp only [if_true] at ht ⊢
        rcases hv with rfl | rfl
        · exact absurd rfl ht
        · rw [if_pos (by rw [h.size]; exact hd)]
      · simp only [if_neg e] at ht ⊢
        exact lift t ht
    · intro t
      simp only [put]; rw [tget_cons]
      split
      · exact hc
      · exact closed_mono hn _ (h.cl t)
/-- The fence that lets everything in; within round C.rd. -/
def fe (C : Cx) : Fence := { Fence.wide with round := C.rd }
theorem calls_fe {C : Cx} {n : Nat} {f : FuncId} {args : Array Value} {w : World} {R : Ending → World → Prop} : CallsIn (fe C) n C.P f args w R ↔ Calls C.P f args w R := by
  rw [← callsIn_wide (n := n)]; rfl
/-- From state x operation o leads into a state of which K holds, whatever the memory is. -/
def Goes (C : Cx) (o : Oper) (x : X) (K : X → Prop) : Prop :=
  ∀ bs a w, Rel C x bs a w → ∀ Q, o.wpIn (fe C) 0 C.P a w (fun a' w' => ∃ x' bs', Rel C x' bs' a' w' ∧ K x') Q
/-- A function of the program, called. -/
def ECalls (C : Cx) (f : FuncId) (args : List EV) (x : X) (K : EV → Nat → List (Nat × Option EObj) → Prop) : Prop :=
  ∀ bs w, HRel C x.B x.n x.hs bs w → closeds x.n args → Calls C.P f (reals bs args).toArray w (fun e w' => ∃ v n' hs' bs', e = .returned (real bs' v) ∧ (∀ i, i < x.n → bs' i = bs i) ∧ x.n ≤ n' ∧ closed n' v ∧ HRel C x.B n' hs' bs' w' ∧ K v n' hs')
def Enters (P : Program) (f : FuncId) : Prop := ∀ args w, (callFunc f args).run P w = .ok (.enter f args) w
/-- A function of the program, or one that the model has a row for. -/
def CallV (C : Cx) (f : FuncId) (args : List EV) (x : X) (K : EV → Nat → List (Nat × Option EObj) → Prop) : Prop :=
  (Enters C.P f ∧ ECalls C f args x K) ∨ (∃ v, closed x.n v ∧ (∀ bs w, (callFunc f (reals bs args).toArray).run C.P w = .ok (.value (real bs v)) w) ∧ K v x.n x.hs)
/-- An operation that is no call: the state behind it, and what it asks. -/
def stepO (C : Cx) (o : Oper) (x : X) : Option (X × Prop) :=
  match pureOf C x o.op with
  | some (v, c) => some ({ σ := put x.σ o.dst v, n := x.n, hs := x.hs, B := x.B, ms := x.ms }, c)
  | none => match allocOf C x o.op with
    | some (v, ob, c) => some ({ σ := put x.σ o.dst v, n := x.n + 1, hs := (x.n, some ob) :: x.hs, B := x.B, ms := x.ms }, c)
    | none => match storeOf C x o.op with
      | some (i, ob, c) => some ({ σ := put x.σ o.dst (.tup []), n := x.n, hs := (i, some ob) :: x.hs, B := x.B, ms := x.ms }, c)
      | none => none
theorem pure_nd {C : Cx} {x : X} {op : Op} {r} (h : pureOf C x op = some r) : ∀ c, op ≠ .defer c := by
  rintro c rfl; simp [pureOf] at h
theorem alloc_nd {C : Cx} {x : X} {op : Op} {r} (h : allocOf C x op = some r) : ∀ c, op ≠ .defer c := by
  rintro c rfl; simp [allocOf] at h
theorem store_nd {C : Cx} {x : X} {op : Op} {r} (h : storeOf C x op = some r) : ∀ c, op ≠ .defer c := by
  rintro c rfl; simp [storeOf] at h
theorem stepO_sound {C : Cx} {o : Oper} {x x' : X} {c : Prop} {K : X → Prop} (hd : dstIn C.N o.dst = true) (h : stepO C o x = some (x', c)) (hc : c) (hk : K x') : Goes C o x K := by
  unfold stepO at h
  split at h
  · rename_i v c' hp
    simp only [Option.some.injEq, Prod.mk.injEq] at h; obtain ⟨rfl, rfl⟩ := h
    intro bs a w hr Q
    obtain ⟨V, h1, h2, h3⟩ := pureOf_sound hr hp hc
    refine ⟨fun _ _ => trivial, ?_⟩
    rw [Oper.semAt_eq _ _ _ (pure_nd hp), h1]
    exact ⟨⟨put x.σ o.dst v, x.n, x.hs, x.B, x.ms⟩, bs, ⟨hr.t.next (Nat.le_refl _) (fun _ _ => rfl) hd h2 h3, hr.h⟩, hk⟩
  · split at h
    · rename_i v ob c' hp
      simp only [Option.some.injEq, Prod.mk.injEq] at h; obtain ⟨rfl, rfl⟩ := h
      intro bs a w hr Q
      obtain ⟨h1, h2, h3⟩ := allocOf_sound hr hp hc
      refine ⟨fun _ _ => trivial, ?_⟩
      rw [Oper.semAt_eq _ _ _ (alloc_nd hp), h1]
      exact ⟨_, upd bs x.n w.heap.size, ⟨hr.t.next (Nat.le_succ _) upd_lt hd (.inr rfl) h2, hr.h.alloc ob h3⟩, hk⟩
    · split at h
      · rename_i i ob c' hp
        simp only [Option.some.injEq, Prod.mk.injEq] at h; obtain ⟨rfl, rfl⟩ := h
        intro bs a w hr Q
        obtain ⟨h1, h2, o', h3⟩ := storeOf_sound hr hp hc
        refine ⟨fun _ _ => trivial, ?_⟩
        rw [Oper.semAt_eq _ _ _ (store_nd hp), h1]
        exact ⟨_, bs, ⟨hr.t.next (Nat.le_refl _) (fun _ _ => rfl) hd (v := .tup []) (.inr (by simp [real, reals, undef])) (by simp [closed, closeds]), hr.h.store h3 ob h2⟩, hk⟩
      · simp at h

/-! ### guards -/
inductive Gd where
  | run
  | test (b want : Bool) (d : Tmp)
  | bad
def guardOf (ops : List Oper) (σ : List (Nat × EV)) (g : Option (Nat × Bool)) : Gd :=
  match g with
  | none => .run
  | some (j, want) =>
    match ops[j]? with
    | some oj => match oj.dst with
      | some d => match tget σ d with
        | .bool b => .test b want d
        | _ => .bad
      | none => .bad
    | none => .bad
theorem TRel.same {C : Cx} {ms : List Nat} {n : Nat} {σ : List (Nat × EV)} {bs : Nat → Nat} {a : Act} (h : TRel C ms n σ bs a) {d : Nat} {v : EV} (hg : tget σ d = v) : TRel C ms n ((d, v) :: σ) bs a := by
  refine ⟨h.size, h.defers, h.msin, ?_, ?_⟩
  · intro t ht
    rw [tget_cons] at ht ⊢
    by_cases e : d = t
    · subst e; rw [if_pos rfl] at ht ⊢; rw [← hg] at ht ⊢; exact h.tmps d ht
    · rw [if_neg e] at ht ⊢; exact h.tmps t ht
  · intro t
    rw [tget_cons]
    split
    · rw [← hg]; exact h.cl d
    · exact h.cl t
theorem guardOf_sound {C : Cx} {ms : List Nat} {n : Nat} {σ : List (Nat × EV)} {bs : Nat → Nat} {a : Act} (h : TRel C ms n σ bs a) {ops : List Oper} {o : Oper} :
    (guardOf ops σ o.guard = .run → Region.wanted o (yielded ops.toArray a.tmps) = true) ∧
    (∀ b want d, guardOf ops σ o.guard = .test b want d → Region.wanted o (yielded ops.toArray a.tmps) = (b == want) ∧ tget σ d = .bool b) := by
  unfold guardOf
  cases hg : o.guard with
  | none => simp [Region.wanted, hg]
  | some jw =>
    obtain ⟨j, want⟩ := jw
    refine ⟨?_, ?_⟩
    · intro hh
      simp only at hh
      split at hh <;> (try split at hh) <;> (try split at hh) <;> simp at hh
    · intro b want' d hh
      simp only at hh
      split at hh
      · rename_i oj hj
        split at hh
        · rename_i d' hd
          split at hh
          · rename_i b' hb
            simp only [Gd.test.injEq] at hh
            obtain ⟨rfl, rfl, rfl⟩ := hh
            have ht := h.tmps d' (by rw [hb]; simp)
            rw [hb] at ht
            refine ⟨?_, hb⟩
            simp [Region.wanted, hg, yielded, hj, hd, ht, real]
          · simp at hh
        · simp at hh
      · simp at hh

/-! ### code: what is left, as a list -/
inductive It where
  | c (c : Code)
  | ops (all : List Oper) (k : Nat) (rest : List Oper)
  | blk (id : Nat)
/-- What holds of real states, when the items are still to be done. -/
def contS (C : Cx) (Q : Exit → Act → World → Prop) : List It → Exit → Act → World → Prop
  | [], e, a, w => Q e a w
  | .blk id :: st, .exit id', a, w => if id' = id then contS C Q st .normal a w else contS C Q st (.exit id') a w
  | .blk _ :: st, e, a, w => contS C Q st e a w
  | .c c :: st, .normal, a, w => c.wpIn (fe C) 0 C.P (contS C Q st) a w
  | .c _ :: st, e, a, w => contS C Q st e a w
  | .ops all k rest :: st, .normal, a, w => wpOpsIn (fe C) 0 C.P all.toArray (contS C Q st) (List.range' k rest.length) a w
  | .ops _ _ _ :: st, e, a, w => contS C Q st e a w
/-- The real states that x tells of. -/
def Meets (C : Cx) (Q : Exit → X → Prop) (e : Exit) (a : Act) (w : World) : Prop := ∃ x bs, Rel C x bs a w ∧ Q e x
/-- From whatever real state that x tells of. -/
def GoS (C : Cx) (Q : Exit → X → Prop) (st : List It) (e : Exit) (x : X) : Prop := ∀ bs a w, Rel C x bs a w → contS C (Meets C Q) st e a w
def unw (id : Nat) : List It → Option (List It)
  | [] => none
  | .blk id' :: st => bif Nat.beq id id' then some st else unw id st
  | .c _ :: st => unw id st
  | .ops _ _ _ :: st => unw id st
/-- Each temp that is written is one of the frame's; and the list is the rest of the region's. -/
def allIn (N : Nat) : List Oper → Bool
  | [] => true
  | o :: r => dstIn N o.dst && allIn N r
def codeIn (N : Nat) : Code → Bool
  | .region _ ops _ => allIn N ops.toList
  | .seq a b => codeIn N a && codeIn N b
  | .cond _ a b => codeIn N a && codeIn N b
  | .block _ c => codeIn N c
  | .loop c => codeIn N c
  | _ => true
def stIn (N : Nat) : List It → Prop
  | [] => True
  | .c c :: st => codeIn N c = true ∧ stIn N st
  | .ops all k rest :: st => (allIn N rest = true ∧ ∀ j, rest[j]? = all[k + j]?) ∧ stIn N st
  | .blk _ :: st => stIn N st
/-- What is left, from state x. -/
def Next (C : Cx) (Q : Exit → X → Prop) (st : List It) (x : X) : Prop := stIn C.N st → GoS C Q st .normal x
def callS (C : Cx) (Q : Exit → X → Prop) (f : FuncId) (args : List EV) (dst : Option Tmp) (st : List It) (x : X) : Prop :=
  dstIn C.N dst = true → CallV C f args x (fun v n' hs' => Next C Q st { σ := put x.σ dst v, n := n', hs := hs', B := x.B, ms := x.ms })
def opS (C : Cx) (Q : Exit → X → Prop) (o : Oper) (st : List It) (x : X) : Prop :=
  dstIn C.N o.dst = true → Goes C o x (Next C Q st)
def codeS (C : Cx) (Q : Exit → X → Prop) (c : Code) (st : List It) (x : X) : Prop := Next C Q (.c c :: st) x
def drawS (C : Cx) (Q : Exit → X → Prop) (id : Nat) (ops : List Oper) (st : List It) (x : X) : Prop := Next C Q (.c (.region id ops.toArray true) :: st) x
mutual
def goS (C : Cx) (Q : Exit → X → Prop) : Nat → List It → X → Prop
  | 0, _, _ => False
  | _ + 1, [], x => Q .normal x
  | n + 1, .blk _ :: st, x => goS C Q n st x
  | n + 1, .ops _ _ [] :: st, x => goS C Q n st x
  | n + 1, .ops all k (o :: rest) :: st, x =>
    match guardOf all x.σ o.guard with
    | .run => opG C Q n o (.ops all (k + 1) rest :: st) x
    | .test b want d => testS C Q n b want d o (.ops all (k + 1) rest :: st) x
    | .bad => False
  | n + 1, .c c :: st, x =>
    match c with
    | .skip => goS C Q n st x
    | .region _ ops false => goS C Q n (.ops ops.toList 0 ops.toList :: st) x
    | .region id ops true => drawS C Q id ops.toList st x
    | .seq a b => goS C Q n (.c a :: .c b :: st) x
    | .cond c a b => match ev x.σ c with
      | .bool t => condS C Q n t a b st x
      | _ => False
    | .block id c => goS C Q n (.c c :: .blk id :: st) x
    | .exit id => match unw id st with
      | some st' => goS C Q n st' x
      | none => Q (.exit id) x
    | .ret => Q .ret x
    | c => codeS C Q c st x
def condS (C : Cx) (Q : Exit → X → Prop) : Nat → Bool → Code → Code → List It → X → Prop
  | 0, _, _, _, _, _ => False
  | n + 1, t, a, b, st, x => (t = true → goS C Q n (.c a :: st) x) ∧ (t = false → goS C Q n (.c b :: st) x)
def opG (C : Cx) (Q : Exit → X → Prop) : Nat → Oper → List It → X → Prop
  | 0, _, _, _ => False
  | n + 1, o, st, x =>
    match stepO C o x with
    | some (x', c) => c ∧ goS C Q n st x'
    | none =>
      match o.op with
      | .call { callee := .value (.func f), args, .. } => noAny (args.toList.map (ev x.σ)) = true ∧ callS C Q f (args.toList.map (ev x.σ)) o.dst st x
      | .call { callee := .value (.tmp t), args, .. } =>
        match tget x.σ t with
        | .fn (.func f) first cap => noAny (args.toList.map (ev x.σ)) = true ∧ callS C Q f (first ++ args.toList.map (ev x.σ) ++ cap) o.dst st x
        | _ => opS C Q o st x
      | _ => opS C Q o st x
def testS (C : Cx) (Q : Exit → X → Prop) : Nat → Bool → Bool → Tmp → Oper → List It → X → Prop
  | 0, _, _, _, _, _, _ => False
  | n + 1, b, want, d, o, st, x =>
    (b = want → opG C Q n o st { σ := (d, .bool want) :: x.σ, n := x.n, hs := x.hs, B := x.B, ms := x.ms }) ∧ (b = !want → goS C Q n st { σ := put ((d, .bool (!want)) :: x.σ) o.dst (.tup []), n := x.n, hs := x.hs, B := x.B, ms := x.ms })
end
theorem goes_call {C : Cx} {o : Oper} {x : X} {K : X → Prop} {f : FuncId} {args : List EV}
    (hnd : ∀ c, o.op ≠ .defer c) (hrun : ∀ bs a w, Rel C x bs a w → (execOp a.eval o).run C.P w = (callFunc f (reals bs args).toArray).run C.P w ∧ closeds x.n args)
    (hd : dstIn C.N o.dst = true) (h : CallV C f args x (fun v n' hs' => K { σ := put x.σ o.dst v, n := n', hs := hs', B := x.B, ms := x.ms })) : Goes C o x K := by
  intro bs a w hr Q
  obtain ⟨h1, h2⟩ := hrun bs a w hr
  refine ⟨fun _ _ => trivial, ?_⟩
  rw [Oper.semAt_eq _ _ _ hnd, h1]
  rcases h with ⟨hE, h⟩ | ⟨v, hcl, hv, hk⟩
  · rw [hE]
    simp only [Oper.uponIn]
    refine ⟨by simp [fe, Fence.wide], calls_fe.2 ((h bs w hr.h h2).mono ?_)⟩
    rintro e w' ⟨v, n', hs', bs', rfl, hb, hn, hcl, hh, hk⟩
    exact ⟨_, bs', ⟨hr.t.next hn hb hd (.inr rfl) hcl, hh⟩, hk⟩
  · rw [hv bs w]
    exact ⟨⟨put x.σ o.dst v, x.n, x.hs, x.B, x.ms⟩, bs, ⟨hr.t.next (Nat.le_refl _) (fun _ _ => rfl) hd (.inr rfl) hcl, hr.h⟩, hk⟩
theorem goes_mono {C : Cx} {o : Oper} {x : X} {K K' : X → Prop} (h : Goes C o x K) (hk : ∀ x, K x → K' x) : Goes C o x K' :=
  fun bs a w hr Q => Oper.wpIn_mono (fun a' w' ⟨x', bs', hr', h⟩ => ⟨x', bs', hr', hk x' h⟩) (h bs a w hr Q)
theorem unw_sound {C : Cx} {Q : Exit → Act → World → Prop} {id : Nat} {a : Act} {w : World} : ∀ (st : List It), (match unw id st with
    | some st' => contS C Q st' .normal a w
    | none => Q (.exit id) a w) → contS C Q st (.exit id) a w
  | [], h => h
  | .blk id' :: st, h => by
    simp only [unw] at h
    by_cases e : id = id'
    · subst e
      simp only [Nat.beq_refl, cond_true] at h
      simpa [contS] using h
    · have hb : Nat.beq id id' = false := by
        cases hb : Nat.beq id id' with
        | false => rfl
        | true => exact absurd (Nat.eq_of_beq_eq_true hb) e
      simp only [hb, cond_false] at h
      simp only [contS, if_neg e]
      exact unw_sound st h
  | .c _ :: st, h => by simp only [contS]; exact unw_sound st h
  | .ops _ _ _ :: st, h => by simp only [contS]; exact unw_sound st h
theorem unw_in {N : Nat} {id : Nat} : ∀ (st st' : List It), unw id st = some st' → stIn N st → stIn N st'
  | [], st', h, _ => by simp [unw] at h
  | .blk id' :: st, st', h, hi => by
    simp only [unw] at h
    cases hb : Nat.beq id id' with
    | true => simp only [hb, cond_true, Option.some.injEq] at h; subst h; exact hi
    | false => simp only [hb, cond_false] at h; exact unw_in st st' h hi
  | .c _ :: st, st', h, hi => unw_in st st' (by simpa [unw] using h) hi.2
  | .ops _ _ _ :: st, st', h, hi => unw_in st st' (by simpa [unw] using h) hi.2
theorem contS_seq (C : Cx) (Q : Exit → Act → World → Prop) (b : Code) (st : List It) : contS C Q (.c b :: st) = Exit.then (b.wpIn (fe C) 0 C.P (contS C Q st)) (contS C Q st) := by
  funext e a w; cases e <;> rfl
theorem contS_blk (C : Cx) (Q : Exit → Act → World → Prop) (id : Nat) (st : List It) : contS C Q (.blk id :: st) = Exit.inBlock id (contS C Q st) := by
  funext e a w; cases e <;> rfl
/-- Operation o, from there on. -/
def GoO (C : Cx) (Q : Exit → X → Prop) (o : Oper) (st : List It) (x : X) : Prop := dstIn C.N o.dst = true → stIn C.N st → Goes C o x (GoS C Q st .normal)
theorem goS_sound_all {C : Cx} {Q : Exit → X → Prop} (n : Nat) :
    (∀ (st : List It) (x : X), goS C Q n st x → stIn C.N st → GoS C Q st .normal x) ∧
    (∀ (t : Bool) (a b : Code) (st : List It) (x : X), condS C Q n t a b st x → codeIn C.N a = true → codeIn C.N b = true → stIn C.N st → (t = true → GoS C Q (.c a :: st) .normal x) ∧ (t = false → GoS C Q (.c b :: st) .normal x)) ∧
    (∀ (o : Oper) (st : List It) (x : X), opG C Q n o st x → GoO C Q o st x) ∧
    (∀ (b want : Bool) (d : Tmp) (o : Oper) (st : List It) (x : X), testS C Q n b want d o st x →
      (b = want → GoO C Q o st { σ := (d, .bool want) :: x.σ, n := x.n, hs := x.hs, B := x.B, ms := x.ms }) ∧ (b = !want → stIn C.N st → GoS C Q st .normal { σ := put ((d, .bool (!want)) :: x.σ) o.dst (.tup []), n := x.n, hs := x.hs, B := x.B, ms := x.ms })) := by
  induction n with
  | zero => exact ⟨fun st x h => by cases st <;> simp [goS] at h, fun t a b st x h => by simp [condS] at h, fun o st x h => by simp [opG] at h, fun b want d o st x h => by simp [testS] at h⟩
  | succ n ih =>
    obtain ⟨ih1, ih2, ih3, ih4⟩ := ih
    refine ⟨?_, ?_, ?_, ?_⟩
    · intro st x h hi
      match st, h, hi with
      | [], h, hi => exact fun bs a w hr => ⟨x, bs, hr, by simpa [goS] using h⟩
      | .blk id :: st, h, hi => exact fun bs a w hr => ih1 st x (by simpa [goS] using h) hi bs a w hr
      | .ops all k [] :: st, h, hi =>
        intro bs a w hr
        simp only [contS, List.length_nil, List.range'_zero, wpOpsIn]
        exact ih1 st x (by simpa [goS] using h) hi.2 bs a w hr
      | .ops all k (o :: rest) :: st, h, hi =>
        intro bs a w hr
        obtain ⟨⟨hin, hl⟩, hst⟩ := hi
        have h0 : all.toArray[k]? = some o := by
          have := hl 0; simp at this; simp [← this]
        simp only [allIn, Bool.and_eq_true] at hin
        have hin' : stIn C.N (.ops all (k + 1) rest :: st) := ⟨⟨hin.2, fun j => by have := hl (j + 1); simp at this; rw [this]; congr 1; omega⟩, hst⟩
        simp only [contS, List.length_cons, List.range'_succ, wpOpsIn, h0]
        obtain ⟨g1, g2⟩ := guardOf_sound hr.t (ops := all) (o := o)
        simp only [goS] at h
        cases hg : guardOf all x.σ o.guard with
        | run =>
          simp only [hg] at h
          rw [if_pos (g1 hg)]
          exact Oper.wpIn_mono (fun a' w' ⟨x', bs', hr', hk⟩ => hk bs' a' w' hr') (ih3 o _ x h hin.1 hin' bs a w hr _)
        | test b want d =>
          simp only [hg] at h
          obtain ⟨g3, g4⟩ := g2 b want d hg
          obtain ⟨t1, t2⟩ := ih4 b want d o _ x h
          rw [g3]
          by_cases e : b = want
          · subst e
            rw [if_pos (by simp)]
            exact Oper.wpIn_mono (fun a' w' ⟨x', bs', hr', hk⟩ => hk bs' a' w' hr') (t1 rfl hin.1 hin' bs a w ⟨hr.t.same g4, hr.h⟩ _)
          · rw [if_neg (by simpa using e)]
            have e' : b = !want := by cases b <;> cases want <;> simp_all
            have ht := (hr.t.same g4)
            rw [e'] at ht
            exact ⟨fun _ _ => trivial, t2 e' hin' bs _ w ⟨ht.next (Nat.le_refl _) (fun _ _ => rfl) hin.1 (v := .tup []) (.inr (by simp [real, reals, undef])) (by simp [closed, closeds]), hr.h⟩⟩
        | bad => simp only [hg] at h
      | .c c :: st, h, hi =>
        obtain ⟨hin, hst⟩ := hi
        intro bs a w hr
        cases c with
        | skip => exact wpIn_skip (ih1 st x (by simpa [goS] using h) hst bs a w hr)
        | region id ops draw =>
          cases draw with
          | false =>
            simp only [goS] at h
            have := ih1 (.ops ops.toList 0 ops.toList :: st) x h ⟨⟨hin, by simp⟩, hst⟩ bs a w hr
            simp only [contS] at this ⊢
            exact wpIn_region (by simpa [List.range_eq_range'] using this)
          | true =>
            simp only [goS] at h
            have := h ⟨by simpa [codeIn] using hin, hst⟩ bs a w hr
            simpa using this
        | seq c1 c2 =>
          simp only [codeIn, Bool.and_eq_true] at hin
          have := ih1 (.c c1 :: .c c2 :: st) x (by simpa [goS] using h) ⟨hin.1, hin.2, hst⟩ bs a w hr
          simp only [contS] at this ⊢
          exact wpIn_seq (by rw [← contS_seq]; exact this)
        | cond c c1 c2 =>
          simp only [codeIn, Bool.and_eq_true] at hin
          simp only [goS] at h
          split at h
          · rename_i t ht
            have hc := eval_ev hr.t c (by rw [ht]; simp)
            rw [ht] at hc
            obtain ⟨t1, t2⟩ := ih2 t c1 c2 st x h hin.1 hin.2 hst
            exact wpIn_cond_split hc (fun e => t1 e bs a w hr) (fun e => t2 e bs a w hr)
          · exact h.elim
        | block id c =>
          have := ih1 (.c c :: .blk id :: st) x (by simpa [goS] using h) ⟨hin, hst⟩ bs a w hr
          simp only [contS] at this ⊢
          exact wpIn_block (by rw [← contS_blk]; exact this)
        | exit id =>
          simp only [goS] at h
          simp only [contS]
          refine wpIn_exit (unw_sound st ?_)
          split at h
          · rename_i st' hu
            exact ih1 st' x h (unw_in st st' hu hst) bs a w hr
          · rename_i hu
            exact ⟨x, bs, hr, h⟩
        | ret =>
          simp only [goS] at h
          simp only [contS]
          refine wpIn_ret ?_
          have : ∀ (st : List It), contS C (Meets C Q) st .ret a w := by
            intro st
            induction st with
            | nil => exact ⟨x, bs, hr, h⟩
            | cons it st ih => cases it <;> simpa [contS] using ih
          exact this st
        | loop c => exact h ⟨hin, hst⟩ bs a w hr
        | rangeFunc f p as b => exact h ⟨hin, hst⟩ bs a w hr
        | scope c => exact h ⟨hin, hst⟩ bs a w hr
        | label l => exact h ⟨hin, hst⟩ bs a w hr
        | goto l => exact h ⟨hin, hst⟩ bs a w hr
        | refuse y => exact h ⟨hin, hst⟩ bs a w hr
    · intro t a b st x h ha hb hst
      simp only [condS] at h
      exact ⟨fun e => ih1 _ x (h.1 e) ⟨ha, hst⟩, fun e => ih1 _ x (h.2 e) ⟨hb, hst⟩⟩
    · intro o st x h hd hst
      simp only [opG] at h
      split at h
      · rename_i x' c hs
        exact stepO_sound hd hs h.1 (ih1 st x' h.2 hst)
      · obtain ⟨dst, op, type, pos, after, guard⟩ := o
        simp only at h hd
        split at h
        · rename_i f args _ _
          obtain ⟨h1, h3⟩ := h
          refine goes_mono (goes_call (by intro c; simp) (fun bs a w hr => ?_) hd (h3 hd)) (fun x hx => hx hst)
          have e := evals_eq hr.t args.toList h1
          have e2 : args.map a.eval = (reals bs (args.toList.map (ev x.σ))).toArray := by apply Array.ext'; simpa using e
          exact ⟨by simp [execOp, resolve, Act.eval, Deferred.ofValue, invoke, e2], closeds_evs hr.t _⟩
        · rename_i t args _ _
          split at h
          · rename_i f first cap hg
            obtain ⟨h1, h3⟩ := h
            refine goes_mono (goes_call (by intro c; simp) (fun bs a w hr => ?_) hd (h3 hd)) (fun x hx => hx hst)
            have e := evals_eq hr.t args.toList h1
            have e2 : args.map a.eval = (reals bs (args.toList.map (ev x.σ))).toArray := by apply Array.ext'; simpa using e
            have ef := eval_ev hr.t (.tmp t) (by simp [ev, hg])
            simp only [ev, hg] at ef
            have hcl := hr.t.cl t
            rw [hg] at hcl
            simp only [closed] at hcl
            refine ⟨?_, ?_⟩
            · simp [execOp, resolve, ef, real, Deferred.ofValue, invoke, e2, reals_eq]
            · rw [closeds_iff]
              intro v hv
              simp only [List.mem_append] at hv
              rcases hv with (hv | hv) | hv
              · exact closeds_mem hcl.1 hv
              · exact closeds_mem (closeds_evs hr.t _) hv
              · exact closeds_mem hcl.2 hv
          · exact goes_mono (h hd) (fun x hx => hx hst)
        · exact goes_mono (h hd) (fun x hx => hx hst)
    · intro b want d o st x h
      simp only [testS] at h
      exact ⟨fun e => ih3 o st _ (h.1 e), fun e hst => ih1 st _ (h.2 e) hst⟩
theorem goS_sound {C : Cx} {Q : Exit → X → Prop} {n : Nat} {st : List It} {x : X} (h : goS C Q n st x) (hi : stIn C.N st) : GoS C Q st .normal x := (goS_sound_all n).1 st x h hi
theorem next_of {C : Cx} {Q : Exit → X → Prop} {st : List It} {x : X} (n : Nat) (h : goS C Q n st x) : Next C Q st x := goS_sound h
end Go.Ew
