/- Iterators: what is promised between an iterator and the loop over it. -/
import Derived.Test.YthknokcfmpahcaaDoorEwL
set_option linter.unusedSimpArgs false
set_option linter.unusedVariables false
namespace Go.Ew
open Go RowKit

/-- From w to w' no block of D has turned. -/
structure Stay (D : Nat → Prop) (w w' : World) : Prop where
  size : w.heap.size ≤ w'.heap.size
  same : ∀ k, D k → w'.heap[k]? = w.heap[k]?
  os : w'.os = w.os
  tape : w'.tape = w.tape
  output : w'.output = w.output
def Stable (J : Nat → (Nat → Prop) → World → Prop) : Prop := ∀ k D w w', J k D w → (∀ b, D b → b < w.heap.size) → Stay D w w' → J k D w'
/-- The blocks made between w and w'. -/
def newer (D : Nat → Prop) (w w' : World) : Nat → Prop := fun b => D b ∨ (w.heap.size ≤ b ∧ b < w'.heap.size)
/-- A round's promise: it turns blocks of D alone, and none of Rd. -/
def YRound (P : Program) (l : Nat) (args : Array Value) (D Rd : Nat → Prop) (w : World) (Kt Kf : (Nat → Prop) → World → Prop) : Prop :=
  ∃ fn tmps assign body, (Instr.yield l args).run P w = .ok (.round l fn tmps assign body) w ∧
    RoundIn Fence.wide 0 P l fn tmps assign body w (fun e w' => ∃ b, e = .returned (.bool b) ∧ Stay (fun k => k < w.heap.size ∧ (¬ D k ∨ Rd k)) w w' ∧
      (b = true → Kt (newer D w w') w') ∧ (b = false → Kf (newer D w w') w'))
/-- What an iterator may know between its rounds. -/
structure ItB (W : World) (Rd : Nat → Prop) (B : Base) : Prop where
  lt : ∀ b, B.D b → b < B.w.heap.size
  D : ∀ b, b < W.heap.size → B.D b
  rd : ∀ b, Rd b → B.w.heap[b]? = W.heap[b]?
  size : W.heap.size ≤ B.w.heap.size
  os : B.w.os = W.os
  tape : B.w.tape = W.tape
  output : B.w.output = W.output
/-- An iterator over len elements, called at W. -/
def IterOk (P : Program) (f : FuncId) (argsOf : Value → Array Value) (W : World) (Rd : Nat → Prop) {A : Type} (len : Nat) (enc : A → Array Value) (El : Nat → A → World → Prop) : Prop :=
  ∀ (l : Nat) (J Jx : Nat → (Nat → Prop) → World → Prop), Stable J → Stable Jx →
    (∀ k a D w, k < len → El k a w → J k D w → ItB W Rd ⟨w, D⟩ → YRound P l (enc a) D Rd w (J (k + 1)) (Jx k)) →
    J 0 (fun b => b < W.heap.size) W →
    Calls P f (argsOf (.func (.yield l) #[] #[])) W (fun e W' => (∃ v, e = .returned v) ∧ ∃ D, J len D W' ∨ ∃ k, Jx k D W')
theorem ItB.start (W : World) (Rd : Nat → Prop) : ItB W Rd (base W) := ⟨fun _ h => h, fun _ h => h, fun _ _ => rfl, Nat.le_refl _, rfl, rfl, rfl⟩
theorem HRel.stay {C : Cx} {B : Base} {n : Nat} {hs : List (Nat × Option EObj)} {bs : Nat → Nat} {w : World} (h : HRel C B n hs bs w) : Stay B.D B.w w :=
  ⟨h.hsize, fun k hk => (h.frame k hk).2, h.os, h.tape, h.output⟩
/-- Where an iterator's walk must end. -/
def itK (W : World) (Rd : Nat → Prop) (len : Nat) (J Jx : Nat → (Nat → Prop) → World → Prop) (v : EV) (x : X) : Prop :=
  ItB W Rd x.B ∧ (J len x.B.D x.B.w ∨ ∃ k, Jx k x.B.D x.B.w)
/-- The rounds of a loop over an iterator that was called at W. -/
def Rounds (P : Program) (l : Nat) (W : World) (Rd : Nat → Prop) {A : Type} (len : Nat) (enc : A → Array Value) (El : Nat → A → World → Prop) (J Jx : Nat → (Nat → Prop) → World → Prop) : Prop :=
  ∀ k a D w, k < len → El k a w → J k D w → ItB W Rd ⟨w, D⟩ → YRound P l (enc a) D Rd w (J (k + 1)) (Jx k)
/-- The iterator's own side: its walk. -/
theorem iter_of {P : Program} {f : FuncId} {fn : Func} {c : Code} {W : World} {Rd : Nat → Prop} {A : Type} {len : Nat} {enc : A → Array Value} {El : Nat → A → World → Prop} (args : Value → List EV)
    (hf : P.funcs[f]? = some fn) (hb : fn.body = some c) (hin : codeIn fn.ntmps c = true) (hl : ∀ y, (args y).length ≤ fn.ntmps) (hcl : ∀ y, closeds 0 (args y))
    (h : ∀ (l : Nat) (J Jx : Nat → (Nat → Prop) → World → Prop), Stable J → Stable Jx → Rounds P l W Rd len enc El J Jx → J 0 (base W).D (base W).w → ItB W Rd (base W) →
      Next (cx0 P fn.ntmps W) (retE (cx0 P fn.ntmps W) fn.results.toList (itK W Rd len J Jx)) [.c c] ⟨argσ 0 (args (.func (.yield l) #[] #[])), 0, [], base W, []⟩) :
    IterOk P f (fun y => (reals (fun _ => 0) (args y)).toArray) W Rd len enc El := by
  intro l J Jx hJ hJx hr h0
  have := calls_of (C := cx0 P fn.ntmps W) (K := itK W Rd len J Jx) rfl hf hb rfl hin (hl _) (HRel.start (fun _ => 0)) (hcl _) (h l J Jx hJ hJx hr h0 (ItB.start W Rd))
  refine this.mono ?_
  rintro e w' ⟨v, x', bs', rfl, _, hh, hB, hk⟩
  refine ⟨⟨_, rfl⟩, x'.B.D, ?_⟩
  rcases hk with hk | ⟨k, hk⟩
  · exact .inl (hJ _ _ _ _ hk hB.lt hh.stay)
  · exact .inr ⟨k, hJx _ _ _ _ hk hB.lt hh.stay⟩
/-- A call of yield. -/
theorem yieldS {C : Cx} {Q : Exit → X → Prop} {o : Oper} {st : List It} {x : X} {W : World} {Rd : Nat → Prop} {A : Type} {len : Nat} {enc : A → Array Value} {El : Nat → A → World → Prop} {J Jx : Nat → (Nat → Prop) → World → Prop}
    {l k t : Nat} {args : Array Operand} {Ts : Array TypeId} {vs : List EV} (a : A) (hop : o.op = .call { callee := .value (.tmp t), args := args, argTypes := Ts }) (ht : tget x.σ t = .raw (.func (.yield l) #[] #[]))
    (hR : Rounds C.P l W Rd len enc El J Jx) (hJs : Stable J) (hev : args.toList.map (ev x.σ) = vs) (hany : noAny vs = true) (henc : ∀ bs, (reals bs vs).toArray = enc a) (hk : k < len) (hEl : ∀ w, Stay x.B.D x.B.w w → El k a w)
    (hJ : J k x.B.D x.B.w) (hB : ItB W Rd x.B) (hRd : ∀ b, Rd b → b < W.heap.size)
    (hkt : ∀ B', J (k + 1) B'.D B'.w → ItB W Rd B' → Next C Q st { σ := put x.σ o.dst (.bool true), n := x.n, hs := x.hs, B := B', ms := x.ms })
    (hkf : ∀ B', Jx k B'.D B'.w → ItB W Rd B' → Next C Q st { σ := put x.σ o.dst (.bool false), n := x.n, hs := x.hs, B := B', ms := x.ms }) : opS C Q o st x := by
  intro hd bs a' w hr Q'
  obtain ⟨dst, op, type, pos, after, guard⟩ := o
  simp only at hop hd hkt hkf; subst hop
  have hs := hr.h.stay
  have hI : ItB W Rd ⟨w, x.B.D⟩ := ⟨fun b h => (hr.h.frame b h).1, hB.D, fun b h => by rw [← hB.rd b h]; exact hs.same b (hB.D b (hRd b h)), Nat.le_trans hB.size hs.size,
    hs.os.trans hB.os, hs.tape.trans hB.tape, hs.output.trans hB.output⟩
  obtain ⟨fn, tmps, assign, body, hy, hround⟩ := hR k a x.B.D w hk (hEl w hs) (hJs _ _ _ _ hJ hB.lt hs) hI
  have e := evals_eq hr.t args.toList (by rw [hev]; exact hany)
  have e2 : args.map a'.eval = enc a := by rw [← henc bs, ← hev]; apply Array.ext'; simpa using e
  have ef := eval_ev hr.t (.tmp t) (by simp [ev, ht])
  simp only [ev, ht, real] at ef
  refine ⟨fun _ _ => trivial, ?_⟩
  rw [Oper.semAt_eq _ _ _ (by intro c; simp)]
  have hrun : (execOp a'.eval { dst := dst, op := .call { callee := .value (.tmp t), args := args, argTypes := Ts }, type := type, pos := pos, after := after, guard := guard }).run C.P w = .ok (.round l fn tmps assign body) w := by
    simp only [execOp, resolve, ef, Deferred.ofValue, invoke, e2]
    simpa [invoke] using hy
  rw [hrun]
  refine ⟨by simp [fe, Fence.wide], ?_⟩
  refine RoundIn.mono (F := fe C) (show RoundIn (fe C) 0 C.P l fn tmps assign body w _ from hround) ?_
  rintro e' w' ⟨b, rfl, hst, h1, h2⟩
  have key : ∀ b', Rel C { σ := put x.σ dst (.bool b'), n := x.n, hs := x.hs, B := ⟨w', newer x.B.D w w'⟩, ms := x.ms } bs (a'.put dst (.bool b')) w' := by
    intro b'
    refine ⟨hr.t.next (Nat.le_refl _) (fun _ _ => rfl) hd (.inr rfl) (by simp [closed]), ?_⟩
    have hh := hr.h
    refine ⟨fun i o hi => ⟨(hh.live i o hi).1, ?_⟩, hh.cl, hh.inj, hh.old, ?_, ?_, rfl, rfl, rfl, Nat.le_refl _, hh.newE, ?_, ?_, Nat.le_trans hh.eo.1 hst.size, hst.os.trans hh.eo.2.1, hst.tape.trans hh.eo.2.2.1, hst.output.trans hh.eo.2.2.2⟩
    · rw [hst.same _ ⟨heap_lt (hh.live i o hi).2, .inl (hh.new i o hi)⟩]; exact (hh.live i o hi).2
    · rintro i o hi (hD | ⟨hD, _⟩)
      · exact hh.new i o hi hD
      · have := heap_lt (hh.live i o hi).2; omega
    · rintro k (hD | ⟨_, hD⟩)
      · exact ⟨Nat.lt_of_lt_of_le (hh.frame k hD).1 hst.size, rfl⟩
      · exact ⟨hD, rfl⟩
    · intro k hE
      obtain ⟨f1, f2⟩ := hh.frameE k hE
      exact ⟨Nat.lt_of_lt_of_le f1 hst.size, by rw [hst.same k ⟨f1, .inl (hh.apart k hE)⟩]; exact f2⟩
    · rintro k hE (hD | ⟨hD, _⟩)
      · exact hh.apart k hE hD
      · have := (hh.frameE k hE).1; omega
  have hI' : ItB W Rd ⟨w', newer x.B.D w w'⟩ := by
    refine ⟨?_, fun b h => .inl (hB.D b h), fun b h => ?_, Nat.le_trans hI.size hst.size, hst.os.trans hI.os, hst.tape.trans hI.tape, hst.output.trans hI.output⟩
    · rintro b (hD | ⟨_, hD⟩)
      · exact Nat.lt_of_lt_of_le (hI.lt b hD) hst.size
      · exact hD
    · rw [← hI.rd b h]; exact hst.same b ⟨Nat.lt_of_lt_of_le (hRd b h) hI.size, .inr h⟩
  cases b with
  | true => exact ⟨_, bs, key true, hkt _ (h1 rfl) hI'⟩
  | false => exact ⟨_, bs, key false, hkf _ (h2 rfl) hI'⟩
end Go.Ew
