/- An engine for walks: abstract states (temps, own blocks by name), and what one operation makes of them. -/
import Derived.WalkKit
set_option linter.unusedSimpArgs false
set_option linter.unusedVariables false
namespace Go.Ew
open Go

/-- Values with the call's own blocks by name. -/
inductive EV where
  | any
  | int (k : IntKind) (n : Int)
  | bool (b : Bool)
  | str (s : ByteArray)
  | ptr (i off : Nat)
  | sl (i off len cap : Nat)
  | mp (i : Nat)
  | fn (f : Fn) (first captured : List EV)
  | agg (cs : List EV)
  | tup (vs : List EV)
  | ifc (t : TypeId) (v : EV)
  | raw (v : Value)
  deriving Inhabited

mutual
def real (bs : Nat → Nat) : EV → Value
  | .any => undef
  | .int k n => .int k n
  | .bool b => .bool b
  | .str s => .string s
  | .ptr i off => .pointer (some ⟨bs i, off, none⟩)
  | .sl i off len cap => .slice (some ⟨bs i, off, none⟩) len cap
  | .mp i => .map (some (bs i))
  | .fn f a b => .func f (reals bs a).toArray (reals bs b).toArray
  | .agg cs => .agg (reals bs cs).toArray
  | .tup vs => .tuple (reals bs vs).toArray
  | .ifc t v => .iface t (real bs v)
  | .raw v => v
def reals (bs : Nat → Nat) : List EV → List Value
  | [] => []
  | v :: vs => real bs v :: reals bs vs
end

mutual
def closed (n : Nat) : EV → Prop
  | .ptr i _ => i < n
  | .sl i _ _ _ => i < n
  | .mp i => i < n
  | .fn _ a b => closeds n a ∧ closeds n b
  | .agg cs => closeds n cs
  | .tup vs => closeds n vs
  | .ifc _ v => closed n v
  | _ => True
def closeds (n : Nat) : List EV → Prop
  | [] => True
  | v :: vs => closed n v ∧ closeds n vs
end

theorem reals_eq (bs : Nat → Nat) (l : List EV) : reals bs l = l.map (real bs) := by
  induction l with
  | nil => simp [reals]
  | cons v vs ih => simp [reals, ih]

theorem closeds_iff (n : Nat) (l : List EV) : closeds n l ↔ ∀ v ∈ l, closed n v := by
  induction l with
  | nil => simp [closeds]
  | cons v vs ih => simp [closeds, ih]

mutual
theorem real_congr {n : Nat} {bs bs' : Nat → Nat} (h : ∀ i, i < n → bs' i = bs i) : ∀ v, closed n v → real bs' v = real bs v
  | .any, _ => by simp [real]
  | .int _ _, _ => by simp [real]
  | .bool _, _ => by simp [real]
  | .str _, _ => by simp [real]
  | .ptr i _, hc => by simp only [closed] at hc; simp [real, h i hc]
  | .sl i _ _ _, hc => by simp only [closed] at hc; simp [real, h i hc]
  | .mp i, hc => by simp only [closed] at hc; simp [real, h i hc]
  | .fn _ a b, hc => by simp only [closed] at hc; simp [real, reals_congr h a hc.1, reals_congr h b hc.2]
  | .agg cs, hc => by simp only [closed] at hc; simp [real, reals_congr h cs hc]
  | .tup vs, hc => by simp only [closed] at hc; simp [real, reals_congr h vs hc]
  | .ifc _ v, hc => by simp only [closed] at hc; simp [real, real_congr h v hc]
  | .raw _, _ => by simp [real]
theorem reals_congr {n : Nat} {bs bs' : Nat → Nat} (h : ∀ i, i < n → bs' i = bs i) : ∀ l, closeds n l → reals bs' l = reals bs l
  | [], _ => by simp [reals]
  | v :: vs, hc => by simp only [closeds] at hc; simp [reals, real_congr h v hc.1, reals_congr h vs hc.2]
end

mutual
theorem closed_mono {n m : Nat} (h : n ≤ m) : ∀ v, closed n v → closed m v
  | .any, _ => by simp [closed]
  | .int _ _, _ => by simp [closed]
  | .bool _, _ => by simp [closed]
  | .str _, _ => by simp [closed]
  | .ptr i _, hc => by simp only [closed] at hc ⊢; omega
  | .sl i _ _ _, hc => by simp only [closed] at hc ⊢; omega
  | .mp i, hc => by simp only [closed] at hc ⊢; omega
  | .fn _ a b, hc => by simp only [closed] at hc ⊢; exact ⟨closeds_mono h a hc.1, closeds_mono h b hc.2⟩
  | .agg cs, hc => by simp only [closed] at hc ⊢; exact closeds_mono h cs hc
  | .tup vs, hc => by simp only [closed] at hc ⊢; exact closeds_mono h vs hc
  | .ifc _ v, hc => by simp only [closed] at hc ⊢; exact closed_mono h v hc
  | .raw _, _ => by simp [closed]
theorem closeds_mono {n m : Nat} (h : n ≤ m) : ∀ l, closeds n l → closeds m l
  | [], _ => by simp [closeds]
  | v :: vs, hc => by simp only [closeds] at hc ⊢; exact ⟨closed_mono h v hc.1, closeds_mono h vs hc.2⟩
end

/-- A constant. -/
def ofScalar : Value → EV
  | .int k n => .int k n
  | .bool b => .bool b
  | .string s => .str s
  | v => .raw v
def ofValue : Value → EV
  | .agg cs => .agg (cs.toList.map ofScalar)
  | .tuple vs => .tup (vs.toList.map ofScalar)
  | v => ofScalar v

theorem real_ofScalar (bs : Nat → Nat) (v : Value) : real bs (ofScalar v) = v := by cases v <;> simp [ofScalar, real]
theorem closed_ofScalar (n : Nat) (v : Value) : closed n (ofScalar v) := by cases v <;> simp [ofScalar, closed]
theorem reals_ofScalars (bs : Nat → Nat) (l : List Value) : reals bs (l.map ofScalar) = l := by
  rw [reals_eq, List.map_map]; conv => rhs; rw [← List.map_id l]
  exact List.map_congr_left fun v _ => real_ofScalar bs v
theorem closeds_ofScalars (n : Nat) (l : List Value) : closeds n (l.map ofScalar) := by
  rw [closeds_iff]; intro v hv; obtain ⟨u, _, rfl⟩ := List.mem_map.1 hv; exact closed_ofScalar n u
theorem real_ofValue (bs : Nat → Nat) (v : Value) : real bs (ofValue v) = v := by
  cases v <;> simp [ofValue, real_ofScalar, real, reals_ofScalars]
theorem closed_ofValue (n : Nat) (v : Value) : closed n (ofValue v) := by
  cases v <;> simp only [ofValue, closed] <;> first | exact closed_ofScalar n _ | exact closeds_ofScalars n _

/-- The cells of a value. -/
def EV.cells : EV → List EV
  | .agg cs => cs
  | v => [v]
/-- A value that fits one cell. -/
def EV.one : EV → Bool
  | .agg _ | .tup _ | .any => false
  | .raw v => v.oneCell'
  | _ => true

theorem real_cells (bs : Nat → Nat) (v : EV) (h : ∀ u, v ≠ .raw u) : (real bs v).cells = (reals bs v.cells).toArray := by
  cases v <;> first | exact absurd rfl (h _) | simp [real, EV.cells, Value.cells, reals, undef]
theorem closeds_cells {n : Nat} {v : EV} (h : closed n v) : closeds n v.cells := by
  cases v <;> simp_all [EV.cells, closed, closeds]
theorem real_one {bs : Nat → Nat} {v : EV} (h : v.one = true) : (real bs v).oneCell' = true := by
  cases v <;> simp_all [EV.one, real, Value.oneCell']

/-- A block. -/
inductive EObj where
  | cells (cs : List EV) (T : TypeId) (fr : Nat × Nat)
  | obj (o : Obj)
def EObj.real (bs : Nat → Nat) : EObj → Obj
  | .cells cs T fr => .cells (reals bs cs).toArray T fr
  | .obj o => o
def EObj.closed (n : Nat) : EObj → Prop
  | .cells cs _ _ => closeds n cs
  | .obj _ => True

def tget : List (Nat × EV) → Nat → EV
  | [], _ => .any
  | (t', v) :: r, t => bif t' == t then v else tget r t
def hget : List (Nat × Option EObj) → Nat → Option EObj
  | [], _ => none
  | (i', o) :: r, i => bif i' == i then o else hget r i

/-- The world that was there, and the blocks of it that stay. -/
structure Base where
  w : World
  D : Nat → Prop
/-- An abstract state: temps, own blocks, the base; the marks of the range loops that were entered. -/
structure X where
  σ : List (Nat × EV)
  n : Nat
  hs : List (Nat × Option EObj)
  B : Base
  ms : List Nat

/-- What stays through a walk: the program, the number of temps, the round it is in, the blocks that have a name from the start. -/
structure Cx where
  P : Program
  N : Nat
  rd : Option Nat
  olds : List Nat
  e : World
  E : Nat → Prop
def marks (bs : Nat → Nat) (ms : List Nat) : List Deferred := ms.map fun i => { target := .collected (bs i), args := #[] }

structure TRel (C : Cx) (ms : List Nat) (n : Nat) (σ : List (Nat × EV)) (bs : Nat → Nat) (a : Act) : Prop where
  size : a.tmps.size = C.N
  defers : a.defers = marks bs ms
  msin : ∀ i ∈ ms, i < n
  tmps : ∀ t, tget σ t ≠ .any → a.tmps[t]? = some (real bs (tget σ t))
  cl : ∀ t, closed n (tget σ t)

structure HRel (C : Cx) (B : Base) (n : Nat) (hs : List (Nat × Option EObj)) (bs : Nat → Nat) (w : World) : Prop where
  live : ∀ i o, hget hs i = some o → i < n ∧ w.heap[bs i]? = some (o.real bs)
  cl : ∀ i o, hget hs i = some o → o.closed n
  inj : ∀ i j oi oj, hget hs i = some oi → hget hs j = some oj → bs i = bs j → i = j
  old : ∀ i b, C.olds[i]? = some b → bs i = b ∧ i < n
  new : ∀ i o, hget hs i = some o → ¬ B.D (bs i)
  frame : ∀ k, B.D k → k < w.heap.size ∧ w.heap[k]? = B.w.heap[k]?
  os : w.os = B.w.os
  tape : w.tape = B.w.tape
  output : w.output = B.w.output
  hsize : B.w.heap.size ≤ w.heap.size
  newE : ∀ i o, hget hs i = some o → ¬ C.E (bs i)
  frameE : ∀ k, C.E k → k < w.heap.size ∧ w.heap[k]? = C.e.heap[k]?
  apart : ∀ k, C.E k → ¬ B.D k
  eo : C.e.heap.size ≤ w.heap.size ∧ w.os = C.e.os ∧ w.tape = C.e.tape ∧ w.output = C.e.output

structure Rel (C : Cx) (x : X) (bs : Nat → Nat) (a : Act) (w : World) : Prop where
  t : TRel C x.ms x.n x.σ bs a
  h : HRel C x.B x.n x.hs bs w
theorem marks_congr {n : Nat} {bs bs' : Nat → Nat} {ms : List Nat} (h : ∀ i, i < n → bs' i = bs i) (hm : ∀ i ∈ ms, i < n) : marks bs' ms = marks bs ms :=
  List.map_congr_left fun i hi => by rw [h i (hm i hi)]

def ev (σ : List (Nat × EV)) : Operand → EV
  | .tmp t => tget σ t
  | .const v => ofValue v
  | .global g => .raw (.pointer (some ⟨g, 0, none⟩))
  | .func f => .fn (.func f) [] []

def EV.isAny : EV → Bool
  | .any => true
  | _ => false

theorem eval_ev {C : Cx} {ms : List Nat} {n : Nat} {σ : List (Nat × EV)} {bs : Nat → Nat} {a : Act} (h : TRel C ms n σ bs a) (o : Operand) (ho : ev σ o ≠ .any) : a.eval o = real bs (ev σ o) := by
  cases o with
  | tmp t => simp only [ev] at ho ⊢; simp [Act.eval, h.tmps t ho, Array.getD_eq_getD_getElem?]
  | const v => simp [Act.eval, ev, real_ofValue]
  | global g => simp [Act.eval, ev, real]
  | func f => simp [Act.eval, ev, real, reals]
theorem closed_ev {C : Cx} {ms : List Nat} {n : Nat} {σ : List (Nat × EV)} {bs : Nat → Nat} {a : Act} (h : TRel C ms n σ bs a) (o : Operand) : closed n (ev σ o) := by
  cases o with
  | tmp t => exact h.cl t
  | const v => exact closed_ofValue n v
  | global g => simp [ev, closed]
  | func f => simp [ev, closed, closeds]

end Go.Ew
