/- An engine for walks, part 1 of a proof over the seat YthknokcfmpahcaaDoor. -/
import Derived.WalkKit
import Derived.ChangeKeysEq
import Derived.Laws.StructEq
import Derived.RangeFuncRecord
import Derived.OrdersIn
import Derived.LoopNIn
/- An engine for walks: abstract states (temps, own blocks by name), and what one operation makes of them. -/
set_option linter.unusedSimpArgs false
set_option linter.unusedVariables false
namespace Go.Ew
open Go

/-- Values with the call's own blocks by name. -/
inductive EV where
  | any
  | int (k : IntKind) (n : Int)
  | bool (b : Bool)
  | str (s : ByteArray)
  | ptr (i off : Nat)
  | sl (i off len cap : Nat)
  | mp (i : Nat)
  | fn (f : Fn) (first captured : List EV)
  | agg (cs : List EV)
  | tup (vs : List EV)
  | ifc (t : TypeId) (v : EV)
  | raw (v : Value)
  deriving Inhabited

mutual
def real (bs : Nat → Nat) : EV → Value
  | .any => undef
  | .int k n => .int k n
  | .bool b => .bool b
  | .str s => .string s
  | .ptr i off => .pointer (some ⟨bs i, off, none⟩)
  | .sl i off len cap => .slice (some ⟨bs i, off, none⟩) len cap
  | .mp i => .map (some (bs i))
  | .fn f a b => .func f (reals bs a).toArray (reals bs b).toArray
  | .agg cs => .agg (reals bs cs).toArray
  | .tup vs => .tuple (reals bs vs).toArray
  | .ifc t v => .iface t (real bs v)
  | .raw v => v
def reals (bs : Nat → Nat) : List EV → List Value
  | [] => []
  | v :: vs => real bs v :: reals bs vs
end

mutual
def closed (n : Nat) : EV → Prop
  | .ptr i _ => i < n
  | .sl i _ _ _ => i < n
  | .mp i => i < n
  | .fn _ a b => closeds n a ∧ closeds n b
  | .agg cs => closeds n cs
  | .tup vs => closeds n vs
  | .ifc _ v => closed n v
  | _ => True
def closeds (n : Nat) : List EV → Prop
  | [] => True
  | v :: vs => closed n v ∧ closeds n vs
end

theorem reals_eq (bs : Nat → Nat) (l : List EV) : reals bs l = l.map (real bs) := by
  induction l with
  | nil => simp [reals]
  | cons v vs ih => simp [reals, ih]

theorem closeds_iff (n : Nat) (l : List EV) : closeds n l ↔ ∀ v ∈ l, closed n v := by
  induction l with
  | nil => simp [closeds]
  | cons v vs ih => simp [closeds, ih]

mutual
theorem real_congr {n : Nat} {bs bs' : Nat → Nat} (h : ∀ i, i < n → bs' i = bs i) : ∀ v, closed n v → real bs' v = real bs v
  | .any, _ => by simp [real]
  | .int _ _, _ => by simp [real]
  | .bool _, _ => by simp [real]
  | .str _, _ => by simp [real]
  | .ptr i _, hc => by simp only [closed] at hc; simp [real, h i hc]
  | .sl i _ _ _, hc => by simp only [closed] at hc; simp [real, h i hc]
  | .mp i, hc => by simp only [closed] at hc; simp [real, h i hc]
  | .fn _ a b, hc => by simp only [closed] at hc; simp [real, reals_congr h a hc.1, reals_congr h b hc.2]
  | .agg cs, hc => by simp only [closed] at hc; simp [real, reals_congr h cs hc]
  | .tup vs, hc => by simp only [closed] at hc; simp [real, reals_congr h vs hc]
  | .ifc _ v, hc => by simp only [closed] at hc; simp [real, real_congr h v hc]
  | .raw _, _ => by simp [real]
theorem reals_congr {n : Nat} {bs bs' : Nat → Nat} (h : ∀ i, i < n → bs' i = bs i) : ∀ l, closeds n l → reals bs' l = reals bs l
  | [], _ => by simp [reals]
  | v :: vs, hc => by simp only [closeds] at hc; simp [reals, real_congr h v hc.1, reals_congr h vs hc.2]
end

mutual
theorem closed_mono {n m : Nat} (h : n ≤ m) : ∀ v, closed n v → closed m v
  | .any, _ => by simp [closed]
  | .int _ _, _ => by simp [closed]
  | .bool _, _ => by simp [closed]
  | .str _, _ => by simp [closed]
  | .ptr i _, hc => by simp only [closed] at hc ⊢; omega
  | .sl i _ _ _, hc => by simp only [closed] at hc ⊢; omega
  | .mp i, hc => by simp only [closed] at hc ⊢; omega
  | .fn _ a b, hc => by simp only [closed] at hc ⊢; exact ⟨closeds_mono h a hc.1, closeds_mono h b hc.2⟩
  | .agg cs, hc => by simp only [closed] at hc ⊢; exact closeds_mono h cs hc
  | .tup vs, hc => by simp only [closed] at hc ⊢; exact closeds_mono h vs hc
  | .ifc _ v, hc => by simp only [closed] at hc ⊢; exact closed_mono h v hc
  | .raw _, _ => by simp [closed]
theorem closeds_mono {n m : Nat} (h : n ≤ m) : ∀ l, closeds n l → closeds m l
  | [], _ => by simp [closeds]
  | v :: vs, hc => by simp only [closeds] at hc ⊢; exact ⟨closed_mono h v hc.1, closeds_mono h vs hc.2⟩
end

/-- A constant. -/
def ofScalar : Value → EV
  | .int k n => .int k n
  | .bool b => .bool b
  | .string s => .str s
  | v => .raw v
def ofValue : Value → EV
  | .agg cs => .agg (cs.toList.map ofScalar)
  | .tuple vs => .tup (vs.toList.map ofScalar)
  | v => ofScalar v

theorem real_ofScalar (bs : Nat → Nat) (v : Value) : real bs (ofScalar v) = v := by cases v <;> simp [ofScalar, real]
theorem closed_ofScalar (n : Nat) (v : Value) : closed n (ofScalar v) := by cases v <;> simp [ofScalar, closed]
theorem reals_ofScalars (bs : Nat → Nat) (l : List Value) : reals bs (l.map ofScalar) = l := by
  rw [reals_eq, List.map_map]; conv => rhs; rw [← List.map_id l]
  exact List.map_congr_left fun v _ => real_ofScalar bs v
theorem closeds_ofScalars (n : Nat) (l : List Value) : closeds n (l.map ofScalar) := by
  rw [closeds_iff]; intro v hv; obtain ⟨u, _, rfl⟩ := List.mem_map.1 hv; exact closed_ofScalar n u
theorem real_ofValue (bs : Nat → Nat) (v : Value) : real bs (ofValue v) = v := by
  cases v <;> simp [ofValue, real_ofScalar, real, reals_ofScalars]
theorem closed_ofValue (n : Nat) (v : Value) : closed n (ofValue v) := by
  cases v <;> simp only [ofValue, closed] <;> first | exact closed_ofScalar n _ | exact closeds_ofScalars n _

/-- The cells of a value. -/
def EV.cells : EV → List EV
  | .agg cs => cs
  | v => [v]
/-- A value that fits one cell. -/
def EV.one : EV → Bool
  | .agg _ | .tup _ | .any => false
  | .raw v => v.oneCell'
  | _ => true

theorem real_cells (bs : Nat → Nat) (v : EV) (h : ∀ u, v ≠ .raw u) : (real bs v).cells = (reals bs v.cells).toArray := by
  cases v <;> first | exact absurd rfl (h _) | simp [real, EV.cells, Value.cells, reals, undef]
theorem closeds_cells {n : Nat} {v : EV} (h : closed n v) : closeds n v.cells := by
  cases v <;> simp_all [EV.cells, closed, closeds]
theorem real_one {bs : Nat → Nat} {v : EV} (h : v.one = true) : (real bs v).oneCell' = true := by
  cases v <;> simp_all [EV.one, real, Value.oneCell']

/-- A block. -/
inductive EObj where
  | cells (cs : List EV) (T : TypeId) (fr : Nat × Nat)
  | obj (o : Obj)
def EObj.real (bs : Nat → Nat) : EObj → Obj
  | .cells cs T fr => .cells (reals bs cs).toArray T fr
  | .obj o => o
def EObj.closed (n : Nat) : EObj → Prop
  | .cells cs _ _ => closeds n cs
  | .obj _ => True

def tget : List (Nat × EV) → Nat → EV
  | [], _ => .any
  | (t', v) :: r, t => bif t' == t then v else tget r t
def hget : List (Nat × Option EObj) → Nat → Option EObj
  | [], _ => none
  | (i', o) :: r, i => bif i' == i then o else hget r i

/-- The world that was there, and the blocks of it that stay. -/
structure Base where
  w : World
  D : Nat → Prop
/-- An abstract state: temps, own blocks, the base; the marks of the range loops that were entered. -/
structure X where
  σ : List (Nat × EV)
  n : Nat
  hs : List (Nat × Option EObj)
  B : Base
  ms : List Nat

/-- What stays through a walk: the program, the number of temps, the round it is in, the blocks that have a name from the start. -/
structure Cx where
  P : Program
  N : Nat
  rd : Option Nat
  olds : List Nat
  e : World
  E : Nat → Prop
def marks (bs : Nat → Nat) (ms : List Nat) : List Deferred := ms.map fun i => { target := .collected (bs i), args := #[] }

structure TRel (C : Cx) (ms : List Nat) (n : Nat) (σ : List (Nat × EV)) (bs : Nat → Nat) (a : Act) : Prop where
  size : a.tmps.size = C.N
  defers : a.defers = marks bs ms
  msin : ∀ i ∈ ms, i < n
  tmps : ∀ t, tget σ t ≠ .any → a.tmps[t]? = some (real bs (tget σ t))
  cl : ∀ t, closed n (tget σ t)

structure HRel (C : Cx) (B : Base) (n : Nat) (hs : List (Nat × Option EObj)) (bs : Nat → Nat) (w : World) : Prop where
  live : ∀ i o, hget hs i = some o → i < n ∧ w.heap[bs i]? = some (o.real bs)
  cl : ∀ i o, hget hs i = some o → o.closed n
  inj : ∀ i j oi oj, hget hs i = some oi → hget hs j = some oj → bs i = bs j → i = j
  old : ∀ i b, C.olds[i]? = some b → bs i = b ∧ i < n
  new : ∀ i o, hget hs i = some o → ¬ B.D (bs i)
  frame : ∀ k, B.D k → k < w.heap.size ∧ w.heap[k]? = B.w.heap[k]?
  os : w.os = B.w.os
  tape : w.tape = B.w.tape
  output : w.output = B.w.output
  hsize : B.w.heap.size ≤ w.heap.size
  newE : ∀ i o, hget hs i = some o → ¬ C.E (bs i)
  frameE : ∀ k, C.E k → k < w.heap.size ∧ w.heap[k]? = C.e.heap[k]?
  apart : ∀ k, C.E k → ¬ B.D k
  eo : C.e.heap.size ≤ w.heap.size ∧ w.os = C.e.os ∧ w.tape = C.e.tape ∧ w.output = C.e.output

structure Rel (C : Cx) (x : X) (bs : Nat → Nat) (a : Act) (w : World) : Prop where
  t : TRel C x.ms x.n x.σ bs a
  h : HRel C x.B x.n x.hs bs w
theorem marks_congr {n : Nat} {bs bs' : Nat → Nat} {ms : List Nat} (h : ∀ i, i < n → bs' i = bs i) (hm : ∀ i ∈ ms, i < n) : marks bs' ms = marks bs ms :=
  List.map_congr_left fun i hi => by rw [h i (hm i hi)]

def ev (σ : List (Nat × EV)) : Operand → EV
  | .tmp t => tget σ t
  | .const v => ofValue v
  | .global g => .raw (.pointer (some ⟨g, 0, none⟩))
  | .func f => .fn (.func f) [] []

def EV.isAny : EV → Bool
  | .any => true
  | _ => false

theorem eval_ev {C : Cx} {ms : List Nat} {n : Nat} {σ : List (Nat × EV)} {bs : Nat → Nat} {a : Act} (h : TRel C ms n σ bs a) (o : Operand) (ho : ev σ o ≠ .any) : a.eval o = real bs (ev σ o) := by
  cases o with
  | tmp t => simp only [ev] at ho ⊢; simp [Act.eval, h.tmps t ho, Array.getD_eq_getD_getElem?]
  | const v => simp [Act.eval, ev, real_ofValue]
  | global g => simp [Act.eval, ev, real]
  | func f => simp [Act.eval, ev, real, reals]
theorem closed_ev {C : Cx} {ms : List Nat} {n : Nat} {σ : List (Nat × EV)} {bs : Nat → Nat} {a : Act} (h : TRel C ms n σ bs a) (o : Operand) : closed n (ev σ o) := by
  cases o with
  | tmp t => exact h.cl t
  | const v => exact closed_ofValue n v
  | global g => simp [ev, closed]
  | func f => simp [ev, closed, closeds]

end Go.Ew
/- What one operation that writes no memory makes of an abstract state. -/
set_option linter.unusedSimpArgs false
set_option linter.unusedVariables false
namespace Go.Ew
open Go

theorem run_underlying (P : Program) (w : World) (t : TypeId) (d : TypeDesc) (h : P.underlying t = some d) : (underlying t).run P w = .ok d w := by
  simp [underlying, h]
theorem info_of_underlying {P : Program} {t : TypeId} {d : TypeDesc} (h : P.underlying t = some d) : ∃ i, P.info? t = some i := by
  unfold Program.underlying at h
  cases hi : P.info? t with
  | none => simp [hi] at h
  | some i => exact ⟨i, rfl⟩
theorem run_sizeOf' (P : Program) (w : World) (t : TypeId) (d : TypeDesc) (h : P.underlying t = some d) : (sizeOf t).run P w = .ok (P.cellsOf t) w := by
  obtain ⟨i, hi⟩ := info_of_underlying h
  simp [sizeOf, typeInfo, hi, Program.cellsOf]
/-- A type whose values take cells of their own. -/
def aggT (P : Program) (T : TypeId) : Option Bool :=
  match P.underlying T with
  | some (.struct _) => some true
  | some (.array _ _) => some true
  | some _ => some false
  | none => none
theorem run_isAgg (P : Program) (w : World) (t : TypeId) (b : Bool) (h : aggT P t = some b) : (isAgg t).run P w = .ok b w := by
  unfold aggT at h
  cases hu : P.underlying t with
  | none => simp [hu] at h
  | some d => cases d <;> simp [hu] at h <;> subst h <;> simp [isAgg, run_underlying _ _ _ _ hu]
theorem und_of_aggT {P : Program} {t : TypeId} {b : Bool} (h : aggT P t = some b) : ∃ d, P.underlying t = some d := by
  unfold aggT at h
  cases hu : P.underlying t with
  | none => simp [hu] at h
  | some d => exact ⟨d, rfl⟩

/-- Bits, shifts. -/
def bAnd (k : IntKind) (a b : Int) : Int := k.wrap (BitVec.ofInt k.bits a &&& BitVec.ofInt k.bits b).toNat
def bOr (k : IntKind) (a b : Int) : Int := k.wrap (BitVec.ofInt k.bits a ||| BitVec.ofInt k.bits b).toNat
def bXor (k : IntKind) (a b : Int) : Int := k.wrap (BitVec.ofInt k.bits a ^^^ BitVec.ofInt k.bits b).toNat
def bAndNot (k : IntKind) (a b : Int) : Int := k.wrap (BitVec.ofInt k.bits a &&& ~~~ BitVec.ofInt k.bits b).toNat
def bShl (k : IntKind) (a b : Int) : Int := k.wrap (a * 2 ^ (min b.toNat k.bits))
def bShr (k : IntKind) (a b : Int) : Int := a.fdiv (2 ^ (min b.toNat k.bits))
/-- Two numbers of one kind. -/
def arith (op : BinOp) (k : IntKind) (a b : Int) : Option (EV × Prop) :=
  match op with
  | .add => some (.int k (k.wrap (a + b)), True)
  | .sub => some (.int k (k.wrap (a - b)), True)
  | .mul => some (.int k (k.wrap (a * b)), True)
  | .quo => some (.int k (k.wrap (a.tdiv b)), b ≠ 0)
  | .rem => some (.int k (a.tmod b), b ≠ 0)
  | .and => some (.int k (bAnd k a b), True)
  | .or => some (.int k (bOr k a b), True)
  | .xor => some (.int k (bXor k a b), True)
  | .andNot => some (.int k (bAndNot k a b), True)
  | .eql => some (.bool (a == b), True)
  | .neq => some (.bool (a != b), True)
  | .lss => some (.bool (decide (a < b)), True)
  | .leq => some (.bool (decide (a ≤ b)), True)
  | .gtr => some (.bool (decide (a > b)), True)
  | .geq => some (.bool (decide (a ≥ b)), True)
  | _ => none
def shiftOf (op : BinOp) (k : IntKind) (a b : Int) : Option (EV × Prop) :=
  match op with
  | .shl => some (.int k (bShl k a b), 0 ≤ b)
  | .shr => some (.int k (bShr k a b), 0 ≤ b)
  | _ => none
def strOf (op : BinOp) (a b : ByteArray) : Option (EV × Prop) :=
  match op with
  | .add => some (.str (a ++ b), ((a.size + b.size : Nat) : Int) ≤ IntKind.i64.max)
  | .eql => some (.bool (a.toList == b.toList), True)
  | .neq => some (.bool (!(a.toList == b.toList)), True)
  | _ => none
/-- The numbers of an array of numbers. -/
def EV.isInt (k : IntKind) : EV → Bool
  | .int k' _ => k' == k
  | _ => false
def EV.num : EV → Int
  | .int _ n => n
  | _ => 0
/-- Arrays of numbers, compared. -/
def aggEq (P : Program) (T : TypeId) (xs ys : List EV) : Option (Bool × Prop) :=
  match P.underlying T with
  | some (.array len e) =>
    match P.underlying e with
    | some (.int k) => some (xs.map EV.num == ys.map EV.num, xs.length = len ∧ ys.length = len ∧ P.cellsOf e = 1 ∧ (xs.all (EV.isInt k) && ys.all (EV.isInt k)) = true)
    | _ => none
  | _ => none
def isNilSlice : Value → Bool
  | .slice none _ _ => true
  | _ => false
def binOf (P : Program) (op : BinOp) (T : TypeId) (x y : EV) : Option (EV × Prop) :=
  match x, y with
  | .int k a, .int k' b =>
    match op with
    | .shl => shiftOf .shl k a b
    | .shr => shiftOf .shr k a b
    | op => match arith op k a b with
      | some (v, c) => some (v, (k == k') = true ∧ c)
      | none => none
  | .bool a, .bool b =>
    match op with
    | .eql => some (.bool (a == b), P.underlying T = some .bool)
    | .neq => some (.bool (!(a == b)), P.underlying T = some .bool)
    | _ => none
  | .str a, .str b => strOf op a b
  | .agg xs, .agg ys =>
    match op with
    | .eql => match aggEq P T xs ys with
      | some (b, c) => some (.bool b, c)
      | none => none
    | .neq => match aggEq P T xs ys with
      | some (b, c) => some (.bool (!b), c)
      | none => none
    | _ => none
  | .sl _ _ _ _, .raw v =>
    match op, v with
    | .eql, .slice none _ _ => some (.bool false, ∃ e, P.underlying T = some (.slice e))
    | .neq, .slice none _ _ => some (.bool true, ∃ e, P.underlying T = some (.slice e))
    | _, _ => none
  | .raw (.slice a _ _), .raw v =>
    match op, v with
    | .eql, .slice none _ _ => some (.bool a.isNone, ∃ e, P.underlying T = some (.slice e))
    | .neq, .slice none _ _ => some (.bool (!a.isNone), ∃ e, P.underlying T = some (.slice e))
    | _, _ => none
  | _, _ => none

theorem arith_sound {P : Program} {w : World} {op : BinOp} {k : IntKind} {a b : Int} {v : EV} {c : Prop} {T : TypeId} (bs : Nat → Nat)
    (h : arith op k a b = some (v, c)) (hc : c) : (binOp op T (.int k a) (.int k b)).run P w = .ok (real bs v) w := by
  cases op <;> simp only [arith, Option.some.injEq, Prod.mk.injEq, reduceCtorEq] at h <;> obtain ⟨rfl, rfl⟩ := h <;>
    simp_all [binOp, real, Op.intArith, Op.intDiv, Op.intBits, Op.intCmp, bAnd, bOr, bXor, bAndNot]
theorem shift_sound {P : Program} {w : World} {op : BinOp} {k k' : IntKind} {a b : Int} {v : EV} {c : Prop} {T : TypeId} (bs : Nat → Nat)
    (h : shiftOf op k a b = some (v, c)) (hc : c) : (binOp op T (.int k a) (.int k' b)).run P w = .ok (real bs v) w := by
  cases op <;> simp only [shiftOf, Option.some.injEq, Prod.mk.injEq, reduceCtorEq] at h <;> obtain ⟨rfl, rfl⟩ := h <;>
    simp [binOp, real, Op.shift, bShl, bShr, show ¬ b < 0 by omega]
theorem str_sound {P : Program} {w : World} {op : BinOp} {a b : ByteArray} {v : EV} {c : Prop} {T : TypeId} (bs : Nat → Nat)
    (h : strOf op a b = some (v, c)) (hc : c) : (binOp op T (.string a) (.string b)).run P w = .ok (real bs v) w := by
  cases op <;> simp only [strOf, Option.some.injEq, Prod.mk.injEq, reduceCtorEq] at h <;> obtain ⟨rfl, rfl⟩ := h
  · have : ¬ (((a.size + b.size : Nat) : Int) > IntKind.i64.max) := by omega
    simp only [binOp, Op.stringOp, this, if_false]; simp [real]
  · simp [binOp, Op.stringOp, real]
  · simp [binOp, Op.stringOp, real]

theorem isInt_real {k : IntKind} {v : EV} (bs : Nat → Nat) (h : v.isInt k = true) : real bs v = .int k v.num := by
  cases v <;> simp_all [EV.isInt, real, EV.num]
theorem eqItems_ints (P : Program) (w : World) (d : Nat) (e : TypeId) (k : IntKind) (he : P.underlying e = some (.int k)) (bs : Nat → Nat) (xs ys : List EV)
    (hx : xs.all (EV.isInt k) = true) (hy : ys.all (EV.isInt k) = true) :
    ∀ (m j : Nat), j + m = xs.length → j + m = ys.length →
      (Op.eqItems (d + 1) e 1 (reals bs xs).toArray (reals bs ys).toArray (List.range' j m)).run P w = .ok ((xs.drop j).map EV.num == (ys.drop j).map EV.num) w
  | 0, j, h1, h2 => by
    rw [List.drop_eq_nil_of_le (by omega), List.drop_eq_nil_of_le (by omega)]
    simp [Op.eqItems]
  | m + 1, j, h1, h2 => by
    have l1 : j < xs.length := by omega
    have l2 : j < ys.length := by omega
    have ix := isInt_real bs (List.all_eq_true.1 hx _ (List.getElem_mem l1))
    have iy := isInt_real bs (List.all_eq_true.1 hy _ (List.getElem_mem l2))
    have ha : aggT P e = some false := by simp [aggT, he]
    have px : (part e (reals bs xs).toArray (j * 1)).run P w = .ok (.int k (xs[j]).num) w := by
      simp [part, run_isAgg P w e false ha, reals_eq, List.getElem?_eq_getElem l1, ix]
    have py : (part e (reals bs ys).toArray (j * 1)).run P w = .ok (.int k (ys[j]).num) w := by
      simp [part, run_isAgg P w e false ha, reals_eq, List.getElem?_eq_getElem l2, iy]
    have ih := eqItems_ints P w d e k he bs xs ys hx hy m (j + 1) (by omega) (by omega)
    rw [List.range'_succ, Op.eqItems]
    simp only [Sem.run_bind, px, py, Result.andThen_ok, run_equalIn_int w d e k k _ _ he]
    rw [List.drop_eq_getElem_cons l1, List.drop_eq_getElem_cons l2, List.map_cons, List.map_cons, List.cons_beq_cons]
    cases hb : (xs[j].num == ys[j].num)
    · simp
    · simp only [Bool.not_true, Bool.false_eq_true, if_false, Bool.true_and]
      exact ih
theorem aggEq_sound {P : Program} {w : World} {T : TypeId} {xs ys : List EV} {b : Bool} {c : Prop} (bs : Nat → Nat) (h : aggEq P T xs ys = some (b, c)) (hc : c) :
    (Op.equalIn 10000 T (.agg (reals bs xs).toArray) (.agg (reals bs ys).toArray)).run P w = .ok b w := by
  unfold aggEq at h
  cases hu : P.underlying T with
  | none => simp [hu] at h
  | some d =>
    cases d <;> simp only [hu, reduceCtorEq] at h
    rename_i len e
    cases he : P.underlying e with
    | none => simp [he] at h
    | some d' =>
      cases d' <;> simp only [he, reduceCtorEq] at h
      rename_i k
      simp only [Option.some.injEq, Prod.mk.injEq] at h
      obtain ⟨rfl, rfl⟩ := h
      obtain ⟨h1, h2, h3, h4⟩ := hc
      rw [Bool.and_eq_true] at h4
      obtain ⟨i, hi⟩ := info_of_underlying he
      rw [run_equalIn_array w 9999 _ _ hu hi, h3, List.range_eq_range']
      have := eqItems_ints P w 9998 e k he bs xs ys h4.1 h4.2 len 0 (by omega) (by omega)
      simpa using this
theorem equalIn_nil_slice {P : Program} (w : World) (d : Nat) {T e : TypeId} (he : P.underlying T = some (.slice e)) (a : Option Addr) (n c m k : Nat) :
    (Op.equalIn (d + 1) T (.slice a n c) (.slice none m k)).run P w = .ok a.isNone w := by
  cases a <;> simp [Op.equalIn, run_underlying _ _ _ _ he]
theorem eql_nil_slice {P : Program} (w : World) {T e : TypeId} (he : P.underlying T = some (.slice e)) (a : Option Addr) (n c m k : Nat) :
    (binOp .eql T (.slice a n c) (.slice none m k)).run P w = .ok (.bool a.isNone) w := by
  have h := equalIn_nil_slice w 9999 he a n c m k
  show ((do pure (Value.bool (← Op.equal T (.slice a n c) (.slice none m k))) : Sem Value)).run P w = _
  simp only [Sem.run_bind, Op.equal, Op.maxDepth, h, Result.andThen_ok, Sem.run_pure]
theorem neq_nil_slice {P : Program} (w : World) {T e : TypeId} (he : P.underlying T = some (.slice e)) (a : Option Addr) (n c m k : Nat) :
    (binOp .neq T (.slice a n c) (.slice none m k)).run P w = .ok (.bool (!a.isNone)) w := by
  have h := equalIn_nil_slice w 9999 he a n c m k
  show ((do pure (Value.bool (!(← Op.equal T (.slice a n c) (.slice none m k)))) : Sem Value)).run P w = _
  simp only [Sem.run_bind, Op.equal, Op.maxDepth, h, Result.andThen_ok, Sem.run_pure]
theorem binOf_sound {P : Program} {w : World} {op : BinOp} {T : TypeId} {x y : EV} {v : EV} {c : Prop} (bs : Nat → Nat)
    (h : binOf P op T x y = some (v, c)) (hc : c) : (binOp op T (real bs x) (real bs y)).run P w = .ok (real bs v) w := by
  unfold binOf at h
  split at h
  · rename_i k a k' b
    simp only [real]
    split at h
    · exact shift_sound bs h hc
    · exact shift_sound bs h hc
    · rename_i op h1 h2
      split at h
      · rename_i v' c' ha
        simp only [Option.some.injEq, Prod.mk.injEq] at h
        obtain ⟨rfl, rfl⟩ := h
        have hk : k = k' := by simpa using hc.1
        subst hk
        exact arith_sound bs ha hc.2
      · simp at h
  · simp only [real]
    split at h <;> simp only [Option.some.injEq, Prod.mk.injEq, reduceCtorEq] at h
    · obtain ⟨rfl, rfl⟩ := h
      simp [binOp, Op.equal, Op.maxDepth, run_equalIn_bool' w 9999 T _ _ hc, real]
    · obtain ⟨rfl, rfl⟩ := h
      simp [binOp, Op.equal, Op.maxDepth, run_equalIn_bool' w 9999 T _ _ hc, real]
  · simp only [real]
    exact str_sound bs h hc
  · simp only [real]
    split at h
    · split at h
      · rename_i ha
        simp only [Option.some.injEq, Prod.mk.injEq] at h
        obtain ⟨rfl, rfl⟩ := h
        rw [run_eql_struct, aggEq_sound bs ha hc]; rfl
      · simp at h
    · split at h
      · rename_i ha
        simp only [Option.some.injEq, Prod.mk.injEq] at h
        obtain ⟨rfl, rfl⟩ := h
        rw [run_neq_struct, aggEq_sound bs ha hc]; rfl
      · simp at h
    · simp at h
  · simp only [real]
    split at h <;> simp only [Option.some.injEq, Prod.mk.injEq, reduceCtorEq] at h
    · obtain ⟨rfl, rfl⟩ := h; obtain ⟨e, he⟩ := hc
      exact eql_nil_slice w he _ _ _ _ _
    · obtain ⟨rfl, rfl⟩ := h; obtain ⟨e, he⟩ := hc
      exact neq_nil_slice w he _ _ _ _ _
  · simp only [real]
    split at h <;> simp only [Option.some.injEq, Prod.mk.injEq, reduceCtorEq] at h
    · obtain ⟨rfl, rfl⟩ := h; obtain ⟨e, he⟩ := hc
      exact eql_nil_slice w he _ _ _ _ _
    · obtain ⟨rfl, rfl⟩ := h; obtain ⟨e, he⟩ := hc
      exact neq_nil_slice w he _ _ _ _ _
  · simp at h
theorem binOf_closed {P : Program} {op : BinOp} {T : TypeId} {x y : EV} {v : EV} {c : Prop} (n : Nat) (h : binOf P op T x y = some (v, c)) : closed n v := by
  unfold binOf at h
  split at h
  · split at h
    · simp only [shiftOf, Option.some.injEq, Prod.mk.injEq] at h; obtain ⟨rfl, _⟩ := h; trivial
    · simp only [shiftOf, Option.some.injEq, Prod.mk.injEq] at h; obtain ⟨rfl, _⟩ := h; trivial
    · split at h
      · rename_i ha
        simp only [Option.some.injEq, Prod.mk.injEq] at h
        obtain ⟨rfl, _⟩ := h
        unfold arith at ha
        split at ha <;> simp only [Option.some.injEq, Prod.mk.injEq, reduceCtorEq] at ha <;> (obtain ⟨rfl, _⟩ := ha; trivial)
      · simp at h
  · split at h <;> simp only [Option.some.injEq, Prod.mk.injEq, reduceCtorEq] at h <;> (obtain ⟨rfl, _⟩ := h; trivial)
  · unfold strOf at h
    split at h <;> simp only [Option.some.injEq, Prod.mk.injEq, reduceCtorEq] at h <;> (obtain ⟨rfl, _⟩ := h; trivial)
  · split at h
    · split at h <;> simp only [Option.some.injEq, Prod.mk.injEq, reduceCtorEq] at h; obtain ⟨rfl, _⟩ := h; trivial
    · split at h <;> simp only [Option.some.injEq, Prod.mk.injEq, reduceCtorEq] at h; obtain ⟨rfl, _⟩ := h; trivial
    · simp at h
  · split at h <;> simp only [Option.some.injEq, Prod.mk.injEq, reduceCtorEq] at h <;> (obtain ⟨rfl, _⟩ := h; trivial)
  · split at h <;> simp only [Option.some.injEq, Prod.mk.injEq, reduceCtorEq] at h <;> (obtain ⟨rfl, _⟩ := h; trivial)
  · simp at h
end Go.Ew
/- Operations that only compute or read: what they yield. -/
set_option linter.unusedSimpArgs false
set_option linter.unusedVariables false
namespace Go.Ew
open Go

/-! ### memory -/
theorem cell_of_heap {w : World} {b : Nat} {cs : Array Value} {T : TypeId} {fr : Nat × Nat} (h : w.heap[b]? = some (.cells cs T fr)) (off : Nat) : w.cell? ⟨b, off, none⟩ = cs[off]? := by
  simp [World.cell?, h]
theorem cell_frame {C : Cx} {n : Nat} {B : Base} {hs : List (Nat × Option EObj)} {bs : Nat → Nat} {w : World} (h : HRel C B n hs bs w) {a : Addr} (ho : B.D a.block) : w.cell? a = B.w.cell? a :=
  World.cell?_of_block (h.frame _ ho).2
theorem cell_lt {w : World} {a : Addr} (hc : (w.cell? a).isSome = true) : a.block < w.heap.size := by
  unfold World.cell? at hc
  rcases Nat.lt_or_ge a.block w.heap.size with hl | hl
  · exact hl
  · rw [Array.getElem?_eq_none hl] at hc; simp at hc
theorem add_spot (b off n : Nat) : (Addr.add ⟨b, off, none⟩ n) = ⟨b, off + n, none⟩ := by
  unfold Addr.add; split
  · rename_i h; subst h; rfl
  · rfl

/-- A load through an address of whatever make. -/
def rawCell (B : Base) (a : Addr) : EV := ofScalar ((B.w.cell? a).getD undef)
def loadOf (C : Cx) (B : Base) (hs : List (Nat × Option EObj)) (T : TypeId) (p : EV) : Option (EV × Prop) :=
  match p with
  | .ptr i off =>
    match hget hs i with
    | some (.cells cs _ _) =>
      match aggT C.P T with
      | some true => some (.agg ((cs.drop off).take (C.P.cellsOf T)), off + C.P.cellsOf T ≤ cs.length)
      | some false => some (cs.getD off .any, off < cs.length)
      | none => none
    | _ => none
  | .raw (.pointer (some a)) =>
    match aggT C.P T with
    | some true => some (.agg ((List.range (C.P.cellsOf T)).map fun j => rawCell B (a.add j)), B.D a.block ∧ ∀ j, j < C.P.cellsOf T → (B.w.cell? (a.add j)).isSome = true)
    | some false => some (rawCell B a, B.D a.block ∧ (B.w.cell? a).isSome = true)
    | none => none
  | _ => none
theorem closeds_mem {n : Nat} {l : List EV} (h : closeds n l) {v : EV} (hv : v ∈ l) : closed n v := (closeds_iff n l).1 h v hv
theorem loadOf_sound {C : Cx} {n : Nat} {B : Base} {hs : List (Nat × Option EObj)} {bs : Nat → Nat} {w : World} (h : HRel C B n hs bs w) {T : TypeId} {p v : EV} {c : Prop}
    (hl : loadOf C B hs T p = some (v, c)) (hc : c) : (Instr.loadAt T (real bs p)).run C.P w = .ok (real bs v) w ∧ closed n v := by
  unfold loadOf at hl
  split at hl
  · rename_i i off
    split at hl
    · rename_i cs T' fr hg
      obtain ⟨hi, hb⟩ := h.live i _ hg
      have hcl : closeds n cs := h.cl i _ hg
      simp only [EObj.real] at hb
      split at hl
      · rename_i ha
        simp only [Option.some.injEq, Prod.mk.injEq] at hl
        obtain ⟨rfl, rfl⟩ := hl
        obtain ⟨d, hd⟩ := und_of_aggT ha
        have hlen : ((cs.drop off).take (C.P.cellsOf T)).length = C.P.cellsOf T := by simp; omega
        have hrun := run_loadCells_list (P := C.P) w ⟨bs i, off, none⟩ (reals bs ((cs.drop off).take (C.P.cellsOf T))) (by
          intro j v hj
          rw [add_spot, cell_of_heap hb]
          rw [reals_eq] at hj
          simp only [List.getElem?_map, List.getElem?_take, List.getElem?_drop] at hj
          split at hj
          · simpa [reals_eq] using hj
          · simp at hj)
        rw [show (reals bs ((cs.drop off).take (C.P.cellsOf T))).length = C.P.cellsOf T by rw [reals_eq, List.length_map, hlen]] at hrun
        refine ⟨?_, ?_⟩
        · simp [Instr.loadAt, Instr.sureAddr, real, loadVar, run_isAgg _ _ _ _ ha, run_sizeOf' _ _ _ _ hd, hrun]
        · simp only [closed]
          rw [closeds_iff]
          intro v hv
          exact closeds_mem hcl (List.mem_of_mem_drop (List.mem_of_mem_take hv))
      · rename_i ha
        simp only [Option.some.injEq, Prod.mk.injEq] at hl
        obtain ⟨rfl, rfl⟩ := hl
        have e : cs.getD off .any = cs[off] := by simp [List.getD, List.getElem?_eq_getElem hc]
        rw [e]
        refine ⟨?_, closeds_mem hcl (List.getElem_mem hc)⟩
        have hcell : w.cell? ⟨bs i, off, none⟩ = some (real bs cs[off]) := by
          rw [cell_of_heap hb]; simp [reals_eq, List.getElem?_eq_getElem hc]
        simp [Instr.loadAt, Instr.sureAddr, real, loadVar, run_isAgg _ _ _ _ ha, hcell]
      · simp at hl
    · simp at hl
  · rename_i a
    split at hl
    · rename_i ha
      simp only [Option.some.injEq, Prod.mk.injEq] at hl
      obtain ⟨rfl, rfl⟩ := hl
      obtain ⟨d, hd⟩ := und_of_aggT ha
      obtain ⟨ho, hall⟩ := hc
      have hrun := run_loadCells (P := C.P) w a (C.P.cellsOf T) (fun j => (B.w.cell? (a.add j)).getD undef) (fun j hj => by
        have hs := hall j hj
        rw [cell_frame h (by rw [show (a.add j).block = a.block by unfold Addr.add; split <;> rfl]; exact ho)]
        cases hx : B.w.cell? (a.add j) with
        | none => rw [hx] at hs; simp at hs
        | some v => rfl)
      refine ⟨?_, ?_⟩
      · simp only [Instr.loadAt, Instr.sureAddr, real, loadVar, Sem.run_bind, Sem.run_pure, Result.andThen_ok, run_isAgg _ _ _ _ ha, if_true, run_sizeOf' _ _ _ _ hd, hrun]
        simp only [reals_eq, List.map_map]
        congr 3
        apply List.map_congr_left
        intro j _
        simp [rawCell, real_ofScalar]
      · simp only [closed]; rw [closeds_iff]; intro v hv
        obtain ⟨j, _, rfl⟩ := List.mem_map.1 hv
        exact closed_ofScalar _ _
    · rename_i ha
      simp only [Option.some.injEq, Prod.mk.injEq] at hl
      obtain ⟨rfl, rfl⟩ := hl
      obtain ⟨ho, hs⟩ := hc
      refine ⟨?_, closed_ofScalar _ _⟩
      have hcell := cell_frame h ho
      cases hx : B.w.cell? a with
      | none => rw [hx] at hs; simp at hs
      | some v =>
        rw [hx] at hcell
        simp [Instr.loadAt, Instr.sureAddr, real, loadVar, run_isAgg _ _ _ _ ha, hcell, rawCell, hx, real_ofScalar]
    · simp at hl
  · simp at hl

/-! ### parts of values -/
def partOf (P : Program) (T : TypeId) (cs : List EV) (off : Nat) : Option (EV × Prop) :=
  match aggT P T with
  | some true => some (.agg ((cs.drop off).take (P.cellsOf T)), True)
  | some false => some (cs.getD off .any, off < cs.length)
  | none => none
theorem partOf_sound {P : Program} {w : World} {bs : Nat → Nat} {n : Nat} {T : TypeId} {cs : List EV} {off : Nat} {v : EV} {c : Prop} (h : partOf P T cs off = some (v, c)) (hc : c) (hcl : closeds n cs) :
    (part T (reals bs cs).toArray off).run P w = .ok (real bs v) w ∧ closed n v := by
  unfold partOf at h
  split at h
  · rename_i ha
    simp only [Option.some.injEq, Prod.mk.injEq] at h
    obtain ⟨rfl, rfl⟩ := h
    obtain ⟨d, hd⟩ := und_of_aggT ha
    refine ⟨?_, ?_⟩
    · simp only [part, Sem.run_bind, run_isAgg _ _ _ _ ha, Result.andThen_ok, if_true, run_sizeOf' _ _ _ _ hd, Sem.run_pure]
      congr 2
      simp [reals_eq, List.map_drop, List.map_take, List.extract_eq_take_drop, real]
    · simp only [closed]; rw [closeds_iff]; intro v hv
      exact closeds_mem hcl (List.mem_of_mem_drop (List.mem_of_mem_take hv))
  · rename_i ha
    simp only [Option.some.injEq, Prod.mk.injEq] at h
    obtain ⟨rfl, rfl⟩ := h
    have e : cs.getD off .any = cs[off] := by simp [List.getD, List.getElem?_eq_getElem hc]
    rw [e]
    refine ⟨?_, closeds_mem hcl (List.getElem_mem hc)⟩
    simp [part, run_isAgg _ _ _ _ ha, reals_eq, List.getElem?_eq_getElem hc]
  · simp at h
def indexOf (P : Program) (T : TypeId) (x i : EV) : Option (EV × Prop) :=
  match i with
  | .int _ i =>
    match P.underlying T, x with
    | some (.array len e), .agg cs =>
      match partOf P e cs (i.toNat * P.cellsOf e) with
      | some (v, c) => some (v, (0 ≤ i ∧ i < len) ∧ c)
      | none => none
    | some .string, .str s => some (.int .u8 ((s.data.toList.getD i.toNat 0).toNat : Nat), 0 ≤ i ∧ i.toNat < s.size)
    | _, _ => none
  | _ => none
theorem indexOf_sound {P : Program} {w : World} {bs : Nat → Nat} {n : Nat} {T : TypeId} {x i v : EV} {c : Prop} (h : indexOf P T x i = some (v, c)) (hc : c) (hcl : closed n x) :
    (Instr.index T (real bs x) (real bs i)).run P w = .ok (real bs v) w ∧ closed n v := by
  unfold indexOf at h
  split at h
  · rename_i k i
    split at h
    · rename_i len e cs hu
      split at h
      · rename_i v' c' hp
        simp only [Option.some.injEq, Prod.mk.injEq] at h
        obtain ⟨rfl, rfl⟩ := h
        obtain ⟨hb, hc'⟩ := hc
        have hd : ∃ d, P.underlying e = some d := by
          unfold partOf at hp; cases ha : aggT P e with
          | none => simp [ha] at hp
          | some b => exact und_of_aggT ha
        obtain ⟨d, hd⟩ := hd
        obtain ⟨r1, r2⟩ := partOf_sound (w := w) (bs := bs) hp hc' (n := n) (by simpa [closed] using hcl)
        refine ⟨?_, r2⟩
        simp only [Instr.index, real, asIntOf, Sem.run_bind, Sem.run_pure, Result.andThen_ok, run_underlying _ _ _ _ hu]
        rw [if_pos hb]
        simp only [Sem.run_bind, run_sizeOf' _ _ _ _ hd, Result.andThen_ok, r1]
      · simp at h
    · rename_i s hu
      simp only [Option.some.injEq, Prod.mk.injEq] at h
      obtain ⟨rfl, rfl⟩ := h
      refine ⟨?_, trivial⟩
      have h1 : s[i.toNat]? = some (s.data.toList.getD i.toNat 0) := by
        have hh : i.toNat < s.data.size := hc.2
        rw [getElem?_pos s i.toNat hc.2]
        have e : s.data.toList.getD i.toNat 0 = s.data[i.toNat] := by
          rw [List.getD_eq_getElem?_getD, Array.getElem?_toList, Array.getElem?_eq_getElem hh]; rfl
        rw [e]; rfl
      simp only [Instr.index, real, asIntOf, Sem.run_bind, Sem.run_pure, Result.andThen_ok, run_underlying _ _ _ _ hu, if_pos hc.1, h1]
    · simp at h
  · simp at h
def fieldOf (P : Program) (T : TypeId) (x : EV) (f : Nat) : Option (EV × Prop) :=
  match P.underlying T, x with
  | some (.struct fs), .agg cs =>
    match fs[f]? with
    | some fd => partOf P fd.type cs fd.offset
    | none => none
  | _, _ => none
theorem fieldOf_sound {P : Program} {w : World} {bs : Nat → Nat} {n : Nat} {T : TypeId} {x v : EV} {f : Nat} {c : Prop} (h : fieldOf P T x f = some (v, c)) (hc : c) (hcl : closed n x) :
    (Instr.field T (real bs x) f).run P w = .ok (real bs v) w ∧ closed n v := by
  unfold fieldOf at h
  split at h
  · rename_i fs cs hu
    split at h
    · rename_i fd hf
      obtain ⟨r1, r2⟩ := partOf_sound (w := w) (bs := bs) h hc (n := n) (by simpa [closed] using hcl)
      refine ⟨?_, r2⟩
      simp only [Instr.field, real, Sem.run_bind, run_underlying _ _ _ _ hu, Result.andThen_ok, hf, asAgg, Sem.run_pure, r1]
    · simp at h
  · simp at h

/-! ### addresses -/
/-- A slice's address, where it has one. -/
def adr (ad : Option Addr) : Addr := ad.getD ⟨0, 0, none⟩
theorem adr_some (a : Addr) : adr (some a) = a := rfl
/-- j cells on. -/
def adrAt (ad : Option Addr) (j : Nat) : Addr := (adr ad).add j
theorem adrAt_some (a : Addr) (j : Nat) : adrAt (some a) j = a.add j := rfl
theorem adrAt_add (ad : Option Addr) (j k : Nat) : (adrAt ad j).add k = adrAt ad (j + k) := by
  unfold adrAt Addr.add
  by_cases hi : j = 0
  · subst hi; simp
  · by_cases hj : k = 0
    · subst hj; simp [hi]
    · simp [hi, hj, Nat.add_assoc]
theorem adrAt_block (ad : Option Addr) (j : Nat) : (adrAt ad j).block = (adr ad).block := by
  unfold adrAt Addr.add; split <;> rfl
def indexAddrOf (P : Program) (T : TypeId) (x i : EV) : Option (EV × Prop) :=
  match i with
  | .int _ i =>
    match P.underlying T with
    | some (.array len e) =>
      match x with
      | .ptr b off => some (.ptr b (off + i.toNat * P.cellsOf e), (0 ≤ i ∧ i < len) ∧ (∃ d, P.underlying e = some d))
      | .raw (.pointer (some a)) => some (.raw (.pointer (some (a.add (i.toNat * P.cellsOf e)))), (0 ≤ i ∧ i < len) ∧ (∃ d, P.underlying e = some d))
      | _ => none
    | some (.slice e) =>
      match x with
      | .sl b off len _ => some (.ptr b (off + i.toNat * P.cellsOf e), (0 ≤ i ∧ i < len) ∧ (∃ d, P.underlying e = some d))
      | .raw (.slice ad len _) => some (.raw (.pointer (some (adrAt ad (i.toNat * P.cellsOf e)))), (0 ≤ i ∧ i < len) ∧ ad.isSome = true ∧ (∃ d, P.underlying e = some d))
      | _ => none
    | _ => none
  | _ => none
theorem indexAddrOf_sound {P : Program} {w : World} {bs : Nat → Nat} {n : Nat} {T : TypeId} {x i v : EV} {c : Prop} (h : indexAddrOf P T x i = some (v, c)) (hc : c) (hcl : closed n x) :
    (Instr.indexAt T (real bs x) (real bs i)).run P w = .ok (real bs v) w ∧ closed n v := by
  unfold indexAddrOf at h
  split at h
  · rename_i k i
    split at h
    · rename_i len e hu
      split at h
      · rename_i b off
        simp only [Option.some.injEq, Prod.mk.injEq] at h
        obtain ⟨rfl, rfl⟩ := h
        obtain ⟨hb, d, hd⟩ := hc
        refine ⟨?_, by simpa [closed] using hcl⟩
        simp [Instr.indexAt, real, asIntOf, run_underlying _ _ _ _ hu, Instr.sureAddr, hb, run_sizeOf' _ _ _ _ hd, add_spot]
      · rename_i a
        simp only [Option.some.injEq, Prod.mk.injEq] at h
        obtain ⟨rfl, rfl⟩ := h
        obtain ⟨hb, d, hd⟩ := hc
        refine ⟨?_, trivial⟩
        simp [Instr.indexAt, real, asIntOf, run_underlying _ _ _ _ hu, Instr.sureAddr, hb, run_sizeOf' _ _ _ _ hd]
      · simp at h
    · rename_i e hu
      split at h
      · rename_i b off len cap
        simp only [Option.some.injEq, Prod.mk.injEq] at h
        obtain ⟨rfl, rfl⟩ := h
        obtain ⟨hb, d, hd⟩ := hc
        refine ⟨?_, by simpa [closed] using hcl⟩
        simp [Instr.indexAt, real, asIntOf, run_underlying _ _ _ _ hu, Instr.sureAddr, hb, run_sizeOf' _ _ _ _ hd, add_spot]
      · rename_i ad len cap
        simp only [Option.some.injEq, Prod.mk.injEq] at h
        obtain ⟨rfl, rfl⟩ := h
        obtain ⟨hb, hs, d, hd⟩ := hc
        obtain ⟨a, rfl⟩ := Option.isSome_iff_exists.1 hs
        refine ⟨?_, trivial⟩
        simp [Instr.indexAt, real, asIntOf, run_underlying _ _ _ _ hu, Instr.sureAddr, hb, run_sizeOf' _ _ _ _ hd, adrAt_some]
      · simp at h
    · simp at h
  · simp at h
def fieldAddrOf (P : Program) (T : TypeId) (x : EV) (f : Nat) : Option (EV × Prop) :=
  match P.underlying T with
  | some (.struct fs) =>
    match fs[f]? with
    | some fd =>
      match x with
      | .ptr b off => some (.ptr b (off + fd.offset), (∃ d, P.underlying fd.type = some d) ∧ P.cellsOf fd.type ≠ 0)
      | .raw (.pointer (some a)) => some (.raw (.pointer (some (a.add fd.offset))), (∃ d, P.underlying fd.type = some d) ∧ P.cellsOf fd.type ≠ 0)
      | _ => none
    | none => none
  | _ => none
theorem fieldAddrOf_sound {P : Program} {w : World} {bs : Nat → Nat} {n : Nat} {T : TypeId} {x v : EV} {f : Nat} {c : Prop} (h : fieldAddrOf P T x f = some (v, c)) (hc : c) (hcl : closed n x) :
    (Instr.fieldAt T (real bs x) f).run P w = .ok (real bs v) w ∧ closed n v := by
  unfold fieldAddrOf at h
  split at h
  · rename_i fs hu
    split at h
    · rename_i fd hf
      split at h
      · simp only [Option.some.injEq, Prod.mk.injEq] at h
        obtain ⟨rfl, rfl⟩ := h
        obtain ⟨⟨d, hd⟩, h0⟩ := hc
        refine ⟨?_, by simpa [closed] using hcl⟩
        simp [Instr.fieldAt, real, run_underlying _ _ _ _ hu, hf, Instr.sureAddr, fieldPlace, run_sizeOf' _ _ _ _ hd, h0, add_spot]
      · simp only [Option.some.injEq, Prod.mk.injEq] at h
        obtain ⟨rfl, rfl⟩ := h
        obtain ⟨⟨d, hd⟩, h0⟩ := hc
        refine ⟨?_, trivial⟩
        simp [Instr.fieldAt, real, run_underlying _ _ _ _ hu, hf, Instr.sureAddr, fieldPlace, run_sizeOf' _ _ _ _ hd, h0]
      · simp at h
    · simp at h
  · simp at h
end Go.Ew
/- Operations that only compute or read, all together. -/
set_option linter.unusedSimpArgs false
set_option linter.unusedVariables false
namespace Go.Ew
open Go

/-! ### slices of slices, of arrays, of strings -/
def bnd (o : Option EV) (d : Nat) : Option (Nat × Prop) :=
  match o with
  | none => some (d, True)
  | some (.int _ i) => some (i.toNat, 0 ≤ i)
  | _ => none
theorem bnd_run {P : Program} {w : World} {bs : Nat → Nat} {o : Option EV} {d k : Nat} {c : Prop} (h : bnd o d = some (k, c)) (hc : c) (y : Nat) (hy : o.isSome = true → k ≤ y) (code : BoundsCode) :
    (match o.map (real bs) with | some v => Instr.sliceBound v y code | none => pure d : Sem Nat).run P w = .ok k w := by
  unfold bnd at h
  split at h
  · simp only [Option.some.injEq, Prod.mk.injEq] at h; obtain ⟨rfl, _⟩ := h; rfl
  · rename_i k' i
    simp only [Option.some.injEq, Prod.mk.injEq] at h; obtain ⟨rfl, rfl⟩ := h
    have h1 := hy rfl
    have : 0 ≤ i ∧ i ≤ (y : Int) := by omega
    simp [Instr.sliceBound, real, asIntOf, this]
  · simp at h
theorem bounds_run {P : Program} {w : World} {bs : Nat → Nat} {lo hi mx : Option EV} {len cap l h m : Nat} {cl ch cm : Prop} (isS : Bool)
    (h1 : bnd mx cap = some (m, cm)) (h2 : bnd hi len = some (h, ch)) (h3 : bnd lo 0 = some (l, cl)) (c1 : cm) (c2 : ch) (c3 : cl)
    (hm : m ≤ cap) (hh : h ≤ m) (hl : l ≤ h) (hx : mx.isSome = true → hi.isSome = true) :
    (Instr.sliceBounds isS len cap (lo.map (real bs)) (hi.map (real bs)) (mx.map (real bs))).run P w = .ok (l, h, m) w := by
  have r1 := fun code => bnd_run (P := P) (w := w) (bs := bs) h1 c1 cap (fun _ => hm) code
  have r2 := fun code => bnd_run (P := P) (w := w) (bs := bs) h2 c2 m (fun _ => hh) code
  have r3 := fun code => bnd_run (P := P) (w := w) (bs := bs) h3 c3 h (fun _ => hl) code
  cases mx with
  | none =>
    simp only [bnd, Option.some.injEq, Prod.mk.injEq] at h1
    obtain ⟨rfl, _⟩ := h1
    cases hi with
    | none =>
      simp only [bnd, Option.some.injEq, Prod.mk.injEq] at h2
      obtain ⟨rfl, _⟩ := h2
      cases lo with
      | none =>
        simp only [bnd, Option.some.injEq, Prod.mk.injEq] at h3
        obtain ⟨rfl, _⟩ := h3
        simp [Instr.sliceBounds]
      | some lo => simp only [Option.map_some] at r3; simp [Instr.sliceBounds, r3]
    | some hi =>
      simp only [Option.map_some] at r2
      cases lo with
      | none =>
        simp only [bnd, Option.some.injEq, Prod.mk.injEq] at h3
        obtain ⟨rfl, _⟩ := h3
        simp [Instr.sliceBounds, r2]
      | some lo => simp only [Option.map_some] at r3; simp [Instr.sliceBounds, r2, r3]
  | some mx =>
    cases hi with
    | none => simp at hx
    | some hi =>
      simp only [Option.map_some] at r1 r2
      cases lo with
      | none =>
        simp only [bnd, Option.some.injEq, Prod.mk.injEq] at h3
        obtain ⟨rfl, _⟩ := h3
        simp [Instr.sliceBounds, r1, r2]
      | some lo => simp only [Option.map_some] at r3; simp [Instr.sliceBounds, r1, r2, r3]
def sliceOf (P : Program) (T : TypeId) (x : EV) (lo hi mx : Option EV) : Option (EV × Prop) :=
  match P.underlying T with
  | some (.array len e) =>
    match bnd mx len, bnd hi len, bnd lo 0 with
    | some (m, cm), some (h, ch), some (l, cl) =>
      match x with
      | .ptr b off => some (.sl b (if m = l then off else off + l * P.cellsOf e) (h - l) (m - l), (cm ∧ ch ∧ cl) ∧ (m ≤ len ∧ h ≤ m ∧ l ≤ h) ∧ (mx.isSome = true → hi.isSome = true) ∧ ∃ d, P.underlying e = some d)
      | .raw (.pointer (some a)) => some (.raw (.slice (some (if m = l then a else a.add (l * P.cellsOf e))) (h - l) (m - l)), (cm ∧ ch ∧ cl) ∧ (m ≤ len ∧ h ≤ m ∧ l ≤ h) ∧ (mx.isSome = true → hi.isSome = true) ∧ ∃ d, P.underlying e = some d)
      | _ => none
    | _, _, _ => none
  | some (.slice e) =>
    match x with
    | .sl b off len cap =>
      match bnd mx cap, bnd hi len, bnd lo 0 with
      | some (m, cm), some (h, ch), some (l, cl) => some (.sl b (if m = l then off else off + l * P.cellsOf e) (h - l) (m - l), (cm ∧ ch ∧ cl) ∧ (m ≤ cap ∧ h ≤ m ∧ l ≤ h) ∧ (mx.isSome = true → hi.isSome = true) ∧ ∃ d, P.underlying e = some d)
      | _, _, _ => none
    | .raw (.slice a len cap) =>
      match bnd mx cap, bnd hi len, bnd lo 0 with
      | some (m, cm), some (h, ch), some (l, cl) => some (.raw (.slice (if m = l then a else a.map (·.add (l * P.cellsOf e))) (h - l) (m - l)), (cm ∧ ch ∧ cl) ∧ (m ≤ cap ∧ h ≤ m ∧ l ≤ h) ∧ (mx.isSome = true → hi.isSome = true) ∧ ∃ d, P.underlying e = some d)
      | _, _, _ => none
    | _ => none
  | some .string =>
    match x with
    | .str s =>
      match mx, bnd hi s.size, bnd lo 0 with
      | none, some (h, ch), some (l, cl) => some (.str (s.extract l h), (ch ∧ cl) ∧ h ≤ s.size ∧ l ≤ h)
      | _, _, _ => none
    | _ => none
  | _ => none
theorem sliceOf_sound {P : Program} {w : World} {bs : Nat → Nat} {n : Nat} {T : TypeId} {x v : EV} {lo hi mx : Option EV} {c : Prop} (h : sliceOf P T x lo hi mx = some (v, c)) (hc : c) (hcl : closed n x) :
    (Instr.sliceAt T (real bs x) (lo.map (real bs)) (hi.map (real bs)) (mx.map (real bs))).run P w = .ok (real bs v) w ∧ closed n v := by
  unfold sliceOf at h
  split at h
  · rename_i len e hu
    split at h
    · rename_i m cm hh ch l cl h1 h2 h3
      split at h
      · simp only [Option.some.injEq, Prod.mk.injEq] at h
        obtain ⟨rfl, rfl⟩ := h
        obtain ⟨⟨c1, c2, c3⟩, ⟨b1, b2, b3⟩, hx, d, hd⟩ := hc
        have hr := bounds_run (P := P) (w := w) (bs := bs) false h1 h2 h3 c1 c2 c3 b1 b2 b3 hx
        refine ⟨?_, by simpa [closed] using hcl⟩
        simp only [Instr.sliceAt, Sem.run_bind, run_underlying _ _ _ _ hu, Result.andThen_ok, real, Instr.sureAddr, Sem.run_pure, hr, run_sizeOf' _ _ _ _ hd]
        split <;> simp [add_spot]
      · simp only [Option.some.injEq, Prod.mk.injEq] at h
        obtain ⟨rfl, rfl⟩ := h
        obtain ⟨⟨c1, c2, c3⟩, ⟨b1, b2, b3⟩, hx, d, hd⟩ := hc
        have hr := bounds_run (P := P) (w := w) (bs := bs) false h1 h2 h3 c1 c2 c3 b1 b2 b3 hx
        refine ⟨?_, trivial⟩
        simp only [Instr.sliceAt, Sem.run_bind, run_underlying _ _ _ _ hu, Result.andThen_ok, real, Instr.sureAddr, Sem.run_pure, hr, run_sizeOf' _ _ _ _ hd]
      · simp at h
    · simp at h
  · rename_i e hu
    split at h
    · split at h
      · rename_i m cm hh ch l cl h1 h2 h3
        simp only [Option.some.injEq, Prod.mk.injEq] at h
        obtain ⟨rfl, rfl⟩ := h
        obtain ⟨⟨c1, c2, c3⟩, ⟨b1, b2, b3⟩, hx, d, hd⟩ := hc
        have hr := bounds_run (P := P) (w := w) (bs := bs) true h1 h2 h3 c1 c2 c3 b1 b2 b3 hx
        refine ⟨?_, by simpa [closed] using hcl⟩
        simp only [Instr.sliceAt, Instr.slice, Sem.run_bind, run_underlying _ _ _ _ hu, Result.andThen_ok, real, Sem.run_pure, hr, run_sizeOf' _ _ _ _ hd]
        split <;> simp [add_spot]
      · simp at h
    · split at h
      · rename_i m cm hh ch l cl h1 h2 h3
        simp only [Option.some.injEq, Prod.mk.injEq] at h
        obtain ⟨rfl, rfl⟩ := h
        obtain ⟨⟨c1, c2, c3⟩, ⟨b1, b2, b3⟩, hx, d, hd⟩ := hc
        have hr := bounds_run (P := P) (w := w) (bs := bs) true h1 h2 h3 c1 c2 c3 b1 b2 b3 hx
        refine ⟨?_, trivial⟩
        simp only [Instr.sliceAt, Instr.slice, Sem.run_bind, run_underlying _ _ _ _ hu, Result.andThen_ok, real, Sem.run_pure, hr, run_sizeOf' _ _ _ _ hd]
      · simp at h
    · simp at h
  · rename_i hu
    split at h
    · rename_i s
      split at h
      · rename_i hh ch l cl h2 h3
        simp only [Option.some.injEq, Prod.mk.injEq] at h
        obtain ⟨rfl, rfl⟩ := h
        obtain ⟨⟨c2, c3⟩, b2, b3⟩ := hc
        have hr := bounds_run (P := P) (w := w) (bs := bs) (mx := none) (m := s.size) (cap := s.size) (cm := True) false rfl h2 h3 trivial c2 c3 (Nat.le_refl _) b2 b3 (by simp)
        refine ⟨?_, trivial⟩
        simp only [Option.map_none] at hr
        simp [Instr.sliceAt, Instr.slice, run_underlying _ _ _ _ hu, real, hr]
      · simp at h
    · simp at h
  · simp at h

/-! ### numbers, tuples, functions -/
def unOf (op : UnOp) (x : EV) : Option EV :=
  match op, x with
  | .neg, .int k n => some (.int k (k.wrap (0 - n)))
  | .xor, .int k n => some (.int k (bXor k (if k.signed then -1 else k.max) n))
  | .not, .bool b => some (.bool (!b))
  | _, _ => none
theorem unOf_sound {P : Program} {w : World} {bs : Nat → Nat} {n : Nat} {op : UnOp} {x v : EV} (h : unOf op x = some v) : (Op.unary op (real bs x)).run P w = .ok (real bs v) w ∧ closed n v := by
  unfold unOf at h
  split at h <;> simp only [Option.some.injEq, reduceCtorEq] at h <;> subst h
  · exact ⟨by simp [Op.unary, Op.intArith, real], trivial⟩
  · exact ⟨by simp only [Op.unary, Op.intBits, real]; rfl, trivial⟩
  · exact ⟨by simp [Op.unary, real], trivial⟩
def convOf (P : Program) (s d : TypeId) (x : EV) : Option EV :=
  match P.underlying s, P.underlying d, x with
  | some (.int _), some (.int k), .int _ n => some (.int k (k.wrap n))
  | some .string, some .string, .str t => some (.str t)
  | _, _, _ => none
theorem convOf_sound {P : Program} {w : World} {bs : Nat → Nat} {n : Nat} {s d : TypeId} {x v : EV} (h : convOf P s d x = some v) : (convert s d (real bs x)).run P w = .ok (real bs v) w ∧ closed n v := by
  unfold convOf at h
  split at h
  · rename_i h1 h2
    simp only [Option.some.injEq] at h; subst h
    exact ⟨by simp [convert, run_underlying _ _ _ _ h1, run_underlying _ _ _ _ h2, real, Conv.intToInt], trivial⟩
  · rename_i h1 h2
    simp only [Option.some.injEq] at h; subst h
    exact ⟨by simp [convert, run_underlying _ _ _ _ h1, run_underlying _ _ _ _ h2, real], trivial⟩
  · simp at h
def extractOf (x : EV) (i : Nat) : Option (EV × Prop) :=
  match x with
  | .tup vs => some (vs.getD i .any, i < vs.length)
  | _ => none
theorem extractOf_sound {P : Program} {w : World} {bs : Nat → Nat} {n : Nat} {x v : EV} {i : Nat} {c : Prop} (h : extractOf x i = some (v, c)) (hc : c) (hcl : closed n x) :
    (Instr.extract (real bs x) i).run P w = .ok (real bs v) w ∧ closed n v := by
  unfold extractOf at h
  split at h
  · simp only [Option.some.injEq, Prod.mk.injEq] at h
    obtain ⟨rfl, rfl⟩ := h
    rename_i vs
    have e : vs.getD i .any = vs[i] := by simp [List.getD, List.getElem?_eq_getElem hc]
    rw [e]
    exact ⟨by simp [Instr.extract, real, reals_eq, List.getElem?_eq_getElem hc], closeds_mem (by simpa [closed] using hcl) (List.getElem_mem hc)⟩
  · simp at h

/-! ### len, cap, min, max -/
def lenOf (P : Program) (T : TypeId) (x : EV) : Option EV :=
  match P.underlying T with
  | some .string => match x with
    | .str s => some (.int .i64 s.size)
    | _ => none
  | some (.array n _) => some (.int .i64 n)
  | some (.slice _) => match x with
    | .sl _ _ n _ => some (.int .i64 n)
    | .raw (.slice _ n _) => some (.int .i64 n)
    | _ => none
  | _ => none
theorem lenOf_sound {P : Program} {w : World} {bs : Nat → Nat} {n : Nat} {T ty : TypeId} {x v : EV} (h : lenOf P T x = some v) : (Builtin.len_ #[T] ty #[real bs x]).run P w = .ok (real bs v) w ∧ closed n v := by
  unfold lenOf at h
  split at h
  · rename_i hu
    split at h <;> simp only [Option.some.injEq, reduceCtorEq] at h
    subst h; exact ⟨by simp [Builtin.len_, run_underlying _ _ _ _ hu, real, goInt], trivial⟩
  · rename_i hu
    simp only [Option.some.injEq] at h
    subst h; exact ⟨by simp [Builtin.len_, run_underlying _ _ _ _ hu, real, goInt], trivial⟩
  · rename_i hu
    split at h <;> simp only [Option.some.injEq, reduceCtorEq] at h
    · subst h; exact ⟨by simp [Builtin.len_, run_underlying _ _ _ _ hu, real, goInt], trivial⟩
    · subst h; exact ⟨by simp [Builtin.len_, run_underlying _ _ _ _ hu, real, goInt], trivial⟩
  · simp at h
def minOf : List EV → Option EV
  | [.int k x, .int _ y] => some (.int k (if y < x then y else x))
  | _ => none
def maxOf : List EV → Option EV
  | [.int k x, .int _ y] => some (.int k (if y > x then y else x))
  | _ => none
theorem minOf_sound {P : Program} {w : World} {bs : Nat → Nat} {n : Nat} {Ts : Array TypeId} {ty : TypeId} {xs : List EV} {v : EV} (h : minOf xs = some v) : (Builtin.min_ Ts ty (reals bs xs).toArray).run P w = .ok (real bs v) w ∧ closed n v := by
  unfold minOf at h
  split at h <;> simp only [Option.some.injEq, reduceCtorEq] at h
  subst h; exact ⟨by simp [Builtin.min_, Builtin.min2, reals, real], trivial⟩
theorem maxOf_sound {P : Program} {w : World} {bs : Nat → Nat} {n : Nat} {Ts : Array TypeId} {ty : TypeId} {xs : List EV} {v : EV} (h : maxOf xs = some v) : (Builtin.max_ Ts ty (reals bs xs).toArray).run P w = .ok (real bs v) w ∧ closed n v := by
  unfold maxOf at h
  split at h <;> simp only [Option.some.injEq, reduceCtorEq] at h
  subst h; exact ⟨by simp [Builtin.max_, Builtin.max2, reals, real], trivial⟩

/-! ### values put together -/
/-- cs with c put in from place off on. -/
def splice (cs : List EV) (off : Nat) (c : List EV) : List EV :=
  match c with
  | [v] => cs.set off v
  | c => cs.take off ++ c ++ cs.drop (off + c.length)
def efill (place : Nat → Option (Nat × Nat)) (cells : List EV) : List (Nat × EV) → Option (List EV)
  | [] => some cells
  | (i, v) :: rest =>
    match place i with
    | none => none
    | some (off, size) =>
      bif v.cells.length != size || decide (off + v.cells.length > cells.length) then none
      else efill place (splice cells off v.cells) rest
theorem splice_eq (cs : List EV) (off : Nat) (c : List EV) (h : off + c.length ≤ cs.length) : splice cs off c = cs.take off ++ c ++ cs.drop (off + c.length) := by
  unfold splice
  split
  · rename_i v
    simp only [List.length_cons, List.length_nil] at h ⊢
    rw [List.set_eq_take_append_cons_drop, if_pos (by omega)]
    simp
  · rfl
theorem splice_length (cs : List EV) (off : Nat) (c : List EV) (h : off + c.length ≤ cs.length) : (splice cs off c).length = cs.length := by
  rw [splice_eq cs off c h]; simp; omega
theorem splice_closeds {n : Nat} {cs c : List EV} {off : Nat} (h1 : closeds n cs) (h2 : closeds n c) : closeds n (splice cs off c) := by
  rw [closeds_iff] at *
  unfold splice
  split
  · rename_i v
    intro u hu
    rcases List.mem_or_eq_of_mem_set hu with h | h
    · exact h1 u h
    · subst h; exact h2 u (by simp)
  · intro u hu
    simp only [List.mem_append] at hu
    rcases hu with (h | h) | h
    · exact h1 u (List.mem_of_mem_take h)
    · exact h2 u h
    · exact h1 u (List.mem_of_mem_drop h)
theorem zipIdx_fold (cs : Array Value) : ∀ (c : List Value) (off j : Nat), off + j + c.length ≤ cs.size →
    (c.zipIdx j).foldl (fun cs (x, j) => cs.setIfInBounds (off + j) x) cs = (cs.toList.take (off + j) ++ c ++ cs.toList.drop (off + j + c.length)).toArray := by
  intro c
  induction c generalizing cs with
  | nil => intro off j h; simp
  | cons x c ih =>
    intro off j h
    simp only [List.length_cons] at h
    rw [List.zipIdx_cons, List.foldl_cons, ih _ off (j + 1) (by simp; omega)]
    simp only [Array.toList_setIfInBounds, List.length_cons]
    apply Array.ext'
    simp only
    apply List.ext_getElem?
    intro q
    simp only [List.getElem?_append, List.getElem?_take, List.getElem?_drop, List.length_append, List.length_take, List.length_set, List.getElem?_set, List.length_cons, Array.length_toList]
    by_cases hq : q < off + j
    · have : off + j ≠ q := by omega
      simp [hq, this, show q < off + (j + 1) by omega, show q < min (off + (j+1)) cs.size by omega, show q < min (off+j) cs.size by omega,
        show q < min (off + (j + 1)) cs.size + c.length by omega, show q < min (off + j) cs.size + (c.length + 1) by omega]
    · by_cases hq1 : q = off + j
      · subst hq1
        simp [show off + j < off + (j + 1) by omega, show off + j < min (off + (j + 1)) cs.size by omega, show ¬ off + j < min (off + j) cs.size by omega,
          show off + j < min (off + (j + 1)) cs.size + c.length by omega, show off + j < min (off + j) cs.size + (c.length + 1) by omega, show off + j < cs.size by omega,
          show off + j - min (off + j) cs.size = 0 by omega]
      · have e1 : ¬ q < min (off + (j + 1)) cs.size := by omega
        have e2 : ¬ q < min (off + j) cs.size := by omega
        by_cases hq2 : q < off + j + (c.length + 1)
        · simp [e1, e2, show q < min (off + (j + 1)) cs.size + c.length by omega, show q < min (off + j) cs.size + (c.length + 1) by omega]
          rw [show q - min (off + j) cs.size = (q - min (off + (j + 1)) cs.size) + 1 by omega]
          simp
        · simp [e1, e2, show ¬ q < min (off + (j + 1)) cs.size + c.length by omega, show ¬ q < min (off + j) cs.size + (c.length + 1) by omega]
          have e3 : off + (j + 1) + c.length + (q - (min (off + (j + 1)) cs.size + c.length)) = off + j + (c.length + 1) + (q - (min (off + j) cs.size + (c.length + 1))) := by omega
          rw [e3]
          have : off + j ≠ off + j + (c.length + 1) + (q - (min (off + j) cs.size + (c.length + 1))) := by omega
          simp [this]
theorem efill_sound {bs : Nat → Nat} {n : Nat} (place : Nat → Option (Nat × Nat)) : ∀ (parts : List (Nat × EV)) (cells out : List EV), efill place cells parts = some out → closeds n cells → (∀ p ∈ parts, closed n p.2 ∧ ∀ u, p.2 ≠ .raw u ∨ p.2.one = true) →
    Instr.fill place (reals bs cells).toArray (parts.map fun p => (p.1, real bs p.2)) = some (reals bs out).toArray ∧ closeds n out
  | [], cells, out, h, hc, _ => by
    simp only [efill, Option.some.injEq] at h; subst h; exact ⟨rfl, hc⟩
  | (i, v) :: rest, cells, out, h, hc, hp => by
    simp only [efill] at h
    cases hpl : place i with
    | none => simp [hpl] at h
    | some os =>
      obtain ⟨off, size⟩ := os
      simp only [hpl] at h
      cases hb : (v.cells.length != size || decide (off + v.cells.length > cells.length)) with
      | true => simp [hb] at h
      | false =>
        simp only [hb, cond_false] at h
        simp only [Bool.or_eq_false_iff, bne_eq_false_iff_eq, decide_eq_false_iff_not] at hb
        have hv := hp (i, v) (by simp)
        have hcv : closeds n v.cells := closeds_cells hv.1
        obtain ⟨r1, r2⟩ := efill_sound place rest _ out h (splice_closeds hc hcv) (fun p hp' => hp p (by simp [hp']))
        refine ⟨?_, r2⟩
        have hrc : (real bs v).cells = (reals bs v.cells).toArray := by
          cases v with
          | raw u =>
            have : u.oneCell' = true := by
              rcases hv.2 u with h | h
              · exact absurd rfl h
              · exact h
            cases u <;> simp_all [real, EV.cells, Value.cells, reals, Value.oneCell']
          | _ => exact real_cells bs _ (by intro u; simp)
        have hsz : (real bs v).cells.size = v.cells.length := by rw [hrc]; simp [reals_eq]
        rw [List.map_cons, Instr.fill]
        simp only [hpl]
        have hno : ((decide ((real bs v).cells.size ≠ size)) || decide (off + (real bs v).cells.size > (reals bs cells).toArray.size)) = false := by
          rw [hsz]; simp [reals_eq]; omega
        rw [if_neg (by simpa using hno)]
        have hz : (real bs v).cells.zipIdx.foldl (fun cs (x : Value × Nat) => cs.setIfInBounds (off + x.2) x.1) (reals bs cells).toArray = (reals bs (splice cells off v.cells)).toArray := by
          have := zipIdx_fold (reals bs cells).toArray (reals bs v.cells) off 0 (by simp [reals_eq]; omega)
          rw [hrc, ← Array.foldl_toList, Array.toList_zipIdx]
          simp only [Nat.add_zero] at this
          rw [this, splice_eq _ _ _ (by omega)]
          simp [reals_eq, List.map_append, List.map_take, List.map_drop]
        rw [hz]
        exact r1
/-- The zero value's cells. -/
def zeroOf (P : Program) (T : TypeId) : Option (List EV) :=
  match P.info? T with
  | some i => match i.zero with
    | some z => some (z.cells.toList.map ofScalar)
    | none => none
  | none => none
theorem zeroOf_run {P : Program} {w : World} {T : TypeId} {zs : List EV} (bs : Nat → Nat) (n : Nat) (h : zeroOf P T = some zs) :
    ∃ z, (zeroValue T).run P w = .ok z w ∧ z.cells = (reals bs zs).toArray ∧ closeds n zs := by
  unfold zeroOf at h
  split at h
  · rename_i i hi
    split at h
    · rename_i z hz
      simp only [Option.some.injEq] at h; subst h
      exact ⟨z, by simp [zeroValue, typeInfo, hi, hz], by simp [reals_ofScalars], closeds_ofScalars _ _⟩
    · simp at h
  · simp at h
/-- The places of a struct's fields. -/
def placesOf (P : Program) : List Field → Option (List (Nat × Nat))
  | [] => some []
  | f :: fs => match P.underlying f.type, placesOf P fs with
    | some _, some r => some ((f.offset, P.cellsOf f.type) :: r)
    | _, _ => none
theorem placesOf_run {P : Program} {w : World} : ∀ (fs : List Field) (r : List (Nat × Nat)), placesOf P fs = some r →
    (fs.mapM fun f => (do pure (f.offset, ← sizeOf f.type) : Sem (Nat × Nat))).run P w = .ok r w
  | [], r, h => by simp only [placesOf, Option.some.injEq] at h; subst h; simp
  | f :: fs, r, h => by
    simp only [placesOf] at h
    cases hi : P.underlying f.type with
    | none => simp [hi] at h
    | some i =>
      cases hr : placesOf P fs with
      | none => simp [hi, hr] at h
      | some r' =>
        simp only [hi, hr, Option.some.injEq] at h; subst h
        have ih := placesOf_run (w := w) fs r' hr
        have e := run_sizeOf' P w f.type _ hi
        rw [List.mapM_cons]
        simp only [Sem.run_bind, Sem.run_pure, e, Result.andThen_ok, ih]
def evs (σ : List (Nat × EV)) : List (Nat × Operand) → List (Nat × EV)
  | [] => []
  | (i, o) :: r => (i, ev σ o) :: evs σ r
def onesP : List (Nat × EV) → Bool
  | [] => true
  | (_, v) :: r => (match v with
    | .any => false
    | .tup _ => false
    | .raw u => u.oneCell'
    | _ => true) && onesP r
def buildOf (P : Program) (T : TypeId) (parts : List (Nat × EV)) : Option EV :=
  match zeroOf P T with
  | none => none
  | some zs =>
    bif onesP parts then
      match P.underlying T with
      | some (.struct fields) => match placesOf P fields.toList with
        | none => none
        | some pl => match efill (fun (i : Nat) => pl[i]?) zs parts with
          | some cs => some (.agg cs)
          | none => none
      | some (.array _ e) => match P.underlying e with
        | none => none
        | some _ => match efill (fun i => some (i * P.cellsOf e, P.cellsOf e)) zs parts with
          | some cs => some (.agg cs)
          | none => none
      | _ => none
    else none
theorem onesP_spec : ∀ {parts : List (Nat × EV)}, onesP parts = true → ∀ p ∈ parts, p.2 ≠ .any ∧ ∀ u, p.2 ≠ .raw u ∨ p.2.one = true
  | [], _, p, hp => by simp at hp
  | (i, v) :: r, h, p, hp => by
    simp only [onesP, Bool.and_eq_true] at h
    rcases List.mem_cons.1 hp with rfl | hp
    · refine ⟨fun e => ?_, fun u => ?_⟩
      · simp only at e; subst e; simp at h
      · by_cases e : v = .raw u
        · subst e; right; exact h.1
        · left; exact e
    · exact onesP_spec h.2 p hp
theorem buildOf_sound {P : Program} {w : World} {bs : Nat → Nat} {n : Nat} {T : TypeId} {parts : List (Nat × EV)} {v : EV} (h : buildOf P T parts = some v) (hcl : ∀ p ∈ parts, closed n p.2) :
    (Instr.build T (parts.map fun p => (p.1, real bs p.2)).toArray).run P w = .ok (real bs v) w ∧ closed n v := by
  unfold buildOf at h
  split at h
  · simp at h
  · rename_i zs hz
    cases ho : onesP parts with
    | false => simp [ho] at h
    | true =>
      simp only [ho, cond_true] at h
      have hsp := onesP_spec ho
      have hp : ∀ p ∈ parts, closed n p.2 ∧ ∀ u, p.2 ≠ .raw u ∨ p.2.one = true := fun p hp => ⟨hcl p hp, (hsp p hp).2⟩
      obtain ⟨z, z1, z2, z3⟩ := zeroOf_run (w := w) bs n hz
      split at h
      · rename_i fields hu
        split at h
        · simp at h
        · rename_i pl hpl
          split at h
          · rename_i cs he
            simp only [Option.some.injEq] at h; subst h
            obtain ⟨f1, f2⟩ := efill_sound (bs := bs) (n := n) _ parts zs cs he z3 hp
            refine ⟨?_, by simpa [closed] using f2⟩
            have hm := placesOf_run (w := w) fields.toList pl hpl
            have hm' : (fields.mapM fun f => (do pure (f.offset, ← sizeOf f.type) : Sem (Nat × Nat))).run P w = .ok pl.toArray w := by
              rw [Array.mapM_eq_mapM_toList, Sem.run_map, hm]; rfl
            simp only [Instr.build, Sem.run_bind, z1, Result.andThen_ok, run_underlying _ _ _ _ hu, hm', z2, real]
            have : (fun (i : Nat) => pl.toArray[i]?) = (fun (i : Nat) => pl[i]?) := by funext i; simp
            rw [this, f1]; rfl
          · simp at h
      · rename_i len e hu
        split at h
        · simp at h
        · rename_i ie hi
          split at h
          · rename_i cs he
            simp only [Option.some.injEq] at h; subst h
            obtain ⟨f1, f2⟩ := efill_sound (bs := bs) (n := n) _ parts zs cs he z3 hp
            refine ⟨?_, by simpa [closed] using f2⟩
            have e := run_sizeOf' P w e _ hi
            simp only [Instr.build, Sem.run_bind, z1, Result.andThen_ok, run_underlying _ _ _ _ hu, e, z2, real, f1]; rfl
          · simp at h
      · simp at h
end Go.Ew
/- One operation; a list of operations. -/
set_option linter.unusedSimpArgs false
set_option linter.unusedVariables false
namespace Go.Ew
open Go RowKit

def put (σ : List (Nat × EV)) (dst : Option Tmp) (v : EV) : List (Nat × EV) :=
  match dst with
  | some d => (d, v) :: σ
  | none => σ
def noAny : List EV → Bool
  | [] => true
  | v :: vs => !v.isAny && noAny vs
theorem noAny_spec : ∀ {l : List EV}, noAny l = true → ∀ v ∈ l, v ≠ .any
  | [], _, v, hv => by simp at hv
  | u :: l, h, v, hv => by
    simp only [noAny, Bool.and_eq_true, Bool.not_eq_true'] at h
    rcases List.mem_cons.1 hv with rfl | hv
    · intro e; subst e; simp [EV.isAny] at h
    · exact noAny_spec h.2 v hv
theorem evals_eq {C : Cx} {ms : List Nat} {n : Nat} {σ : List (Nat × EV)} {bs : Nat → Nat} {a : Act} (h : TRel C ms n σ bs a) (l : List Operand) (ho : noAny (l.map (ev σ)) = true) : l.map a.eval = reals bs (l.map (ev σ)) := by
  rw [reals_eq, List.map_map]
  apply List.map_congr_left
  intro o hm
  exact eval_ev h o (noAny_spec ho _ (List.mem_map.2 ⟨o, hm, rfl⟩))
theorem closeds_evs {C : Cx} {ms : List Nat} {n : Nat} {σ : List (Nat × EV)} {bs : Nat → Nat} {a : Act} (h : TRel C ms n σ bs a) (l : List Operand) : closeds n (l.map (ev σ)) := by
  rw [closeds_iff]; intro v hv
  obtain ⟨o, _, rfl⟩ := List.mem_map.1 hv
  exact closed_ev h o
def evo (σ : List (Nat × EV)) : Option Operand → Option EV
  | none => none
  | some o => some (ev σ o)
def okO : Option EV → Bool
  | some .any => false
  | _ => true
theorem evo_eq {C : Cx} {ms : List Nat} {n : Nat} {σ : List (Nat × EV)} {bs : Nat → Nat} {a : Act} (h : TRel C ms n σ bs a) (o : Option Operand) (ho : okO (evo σ o) = true) : o.map a.eval = (evo σ o).map (real bs) := by
  cases o with
  | none => rfl
  | some o =>
    simp only [evo, Option.map_some]
    rw [eval_ev h o (by intro e; simp [evo, e, okO] at ho)]

def guardC (P : Program) (T : TypeId) (x : EV) : Prop :=
  match x with
  | .agg _ => P.eqGuardType P.depth T = false
  | _ => True
/-- What an operation that writes no memory yields, and under which condition. -/
def builtinOf (P : Program) (b : Builtin) (Ts : List TypeId) (xs : List EV) : Option EV :=
  match b with
  | .len => match Ts, xs with
    | [T], [x] => bif x.isAny then none else lenOf P T x
    | _, _ => none
  | .min => minOf xs
  | .max => maxOf xs
  | _ => none
def pureOf (C : Cx) (x : X) (op : Op) : Option (EV × Prop) :=
  match op with
  | .move a => some (ev x.σ a, True)
  | .assign a => some (ev x.σ a, True)
  | .pick c a b => match ev x.σ c with
    | .bool t => some (match t with
      | true => ev x.σ a
      | false => ev x.σ b, True)
    | _ => none
  | .load T p => loadOf C x.B x.hs T (ev x.σ p)
  | .binOp op T a b _ => match binOf C.P op T (ev x.σ a) (ev x.σ b) with
    | some (v, c) => some (v, c ∧ guardC C.P T (ev x.σ a))
    | none => none
  | .unOp op _ a => match unOf op (ev x.σ a) with
    | some v => some (v, True)
    | none => none
  | .convert s d a => match convOf C.P s d (ev x.σ a) with
    | some v => some (v, True)
    | none => none
  | .index T a i => indexOf C.P T (ev x.σ a) (ev x.σ i)
  | .indexAddr T a i => indexAddrOf C.P T (ev x.σ a) (ev x.σ i)
  | .fieldAddr T a f => fieldAddrOf C.P T (ev x.σ a) f
  | .field T a f => fieldOf C.P T (ev x.σ a) f
  | .slice T a lo hi mx => bif okO (evo x.σ lo) && okO (evo x.σ hi) && okO (evo x.σ mx) then sliceOf C.P T (ev x.σ a) (evo x.σ lo) (evo x.σ hi) (evo x.σ mx) else none
  | .extract a i => extractOf (ev x.σ a) i
  | .build T parts => match buildOf C.P T (evs x.σ parts.toList) with
    | some v => some (v, True)
    | none => none
  | .makeFunc f first cap => bif noAny (first.toList.map (ev x.σ)) && noAny (cap.toList.map (ev x.σ)) then some (.fn f (first.toList.map (ev x.σ)) (cap.toList.map (ev x.σ)), True) else none
  | .nilCheck a => match ev x.σ a with
    | .ptr i off => some (.ptr i off, True)
    | .raw (.pointer (some ad)) => some (.raw (.pointer (some ad)), True)
    | .fn (.func f) a b => some (.fn (.func f) a b, True)
    | _ => none
  | .call { callee := .builtin b, args, argTypes } => match builtinOf C.P b argTypes.toList (args.toList.map (ev x.σ)) with
    | some v => some (v, True)
    | none => none
  | _ => none

theorem loadOf_any {C : Cx} {B : Base} {hs : List (Nat × Option EObj)} {T : TypeId} {p : EV} {r} (h : loadOf C B hs T p = some r) : p ≠ .any := by
  intro e; subst e; simp [loadOf] at h
theorem binOf_any {P : Program} {op : BinOp} {T : TypeId} {x y : EV} {r} (h : binOf P op T x y = some r) : x ≠ .any ∧ y ≠ .any := by
  constructor
  · intro e; subst e; cases y <;> simp [binOf] at h
  · intro e; subst e; cases x <;> simp [binOf] at h
theorem evs_map {C : Cx} {ms : List Nat} {n : Nat} {σ : List (Nat × EV)} {bs : Nat → Nat} {a : Act} (h : TRel C ms n σ bs a) : ∀ (l : List (Nat × Operand)), onesP (evs σ l) = true →
    (l.map fun (i, x) => (i, a.eval x)) = ((evs σ l).map fun p => (p.1, real bs p.2)) ∧ ∀ p ∈ evs σ l, closed n p.2
  | [], _ => by simp [evs]
  | (i, o) :: r, ho => by
    have hsp := onesP_spec ho (i, ev σ o) (by simp [evs])
    simp only [evs, onesP, Bool.and_eq_true] at ho
    obtain ⟨e1, e2⟩ := evs_map h r ho.2
    refine ⟨?_, ?_⟩
    · simp only [evs, List.map_cons, e1, eval_ev h o hsp.1]
    · intro p hp
      simp only [evs, List.mem_cons] at hp
      rcases hp with rfl | hp
      · exact closed_ev h o
      · exact e2 p hp
theorem eqGuard_run {P : Program} {w : World} {op : BinOp} {T : TypeId} {x y : Operand} {u v : EV} {bs : Nat → Nat} {r : EV × Prop} (h : binOf P op T u v = some r) (hg : guardC P T u) :
    (eqGuard op T x y (real bs u) (real bs v)).run P w = .ok () w := by
  unfold binOf at h
  split at h
  · simp only [eqGuard, real]; split <;> rfl
  · simp only [eqGuard, real]; split <;> rfl
  · simp only [eqGuard, real]; split <;> rfl
  · simp only [guardC] at hg
    exact run_eqGuard_agg w op T x y _ _ hg
  · rename_i i o l c' v'
    split at h
    · simp only [eqGuard, real]; split <;> rfl
    · simp only [eqGuard, real]; split <;> rfl
    · simp at h
  · split at h
    · simp only [eqGuard, real]; split <;> rfl
    · simp only [eqGuard, real]; split <;> rfl
    · simp at h
  · simp at h

theorem pureOf_sound {C : Cx} {x : X} {bs : Nat → Nat} {a : Act} {w : World} (hr : Rel C x bs a w) {o : Oper} {v : EV} {c : Prop} (h : pureOf C x o.op = some (v, c)) (hc : c) :
    ∃ V, (execOp a.eval o).run C.P w = .ok (.value V) w ∧ (v = .any ∨ V = real bs v) ∧ closed x.n v := by
  have ht := hr.t
  obtain ⟨dst, op, type, pos, after, guard⟩ := o
  simp only at h
  unfold pureOf at h
  split at h
  · simp only [Option.some.injEq, Prod.mk.injEq] at h; obtain ⟨rfl, rfl⟩ := h
    rename_i y
    refine ⟨a.eval y, rfl, ?_, closed_ev ht y⟩
    by_cases e : ev x.σ y = .any
    · exact .inl e
    · exact .inr (eval_ev ht y e)
  · simp only [Option.some.injEq, Prod.mk.injEq] at h; obtain ⟨rfl, rfl⟩ := h
    rename_i y
    refine ⟨a.eval y, rfl, ?_, closed_ev ht y⟩
    by_cases e : ev x.σ y = .any
    · exact .inl e
    · exact .inr (eval_ev ht y e)
  · rename_i cc y z
    split at h
    · rename_i t hb
      simp only [Option.some.injEq, Prod.mk.injEq] at h; obtain ⟨rfl, rfl⟩ := h
      have hcv := eval_ev ht cc (by rw [hb]; simp)
      rw [hb] at hcv
      refine ⟨if t then a.eval y else a.eval z, ?_, ?_, ?_⟩
      · simp [execOp, hcv, real, asBool]
      · cases t
        · simp only [Bool.false_eq_true, if_false]
          by_cases e : ev x.σ z = .any
          · exact .inl e
          · exact .inr (eval_ev ht z e)
        · simp only [if_true]
          by_cases e : ev x.σ y = .any
          · exact .inl e
          · exact .inr (eval_ev ht y e)
      · cases t
        · exact closed_ev ht z
        · exact closed_ev ht y
    · simp at h
  · rename_i T p
    have hp := eval_ev ht p (loadOf_any h)
    obtain ⟨r1, r2⟩ := loadOf_sound hr.h h hc
    refine ⟨_, ?_, .inr rfl, r2⟩
    simp [execOp, hp, r1]
  · rename_i op T y z _
    split at h
    · rename_i v' c' hb
      simp only [Option.some.injEq, Prod.mk.injEq] at h; obtain ⟨rfl, rfl⟩ := h
      have hy := eval_ev ht y (binOf_any hb).1
      have hz := eval_ev ht z (binOf_any hb).2
      refine ⟨_, ?_, .inr rfl, binOf_closed _ hb⟩
      simp only [execOp, hy, hz, Sem.run_bind, eqGuard_run hb hc.2, Result.andThen_ok, binOf_sound bs hb hc.1, Sem.run_pure]
    · simp at h
  · rename_i op _ y
    split at h
    · rename_i v' hb
      simp only [Option.some.injEq, Prod.mk.injEq] at h; obtain ⟨rfl, rfl⟩ := h
      have hy := eval_ev ht y (by intro e; rw [e] at hb; cases op <;> simp [unOf] at hb)
      obtain ⟨r1, r2⟩ := unOf_sound (P := C.P) (w := w) (bs := bs) (n := x.n) hb
      exact ⟨_, by simp [execOp, hy, r1], .inr rfl, r2⟩
    · simp at h
  · rename_i s d y
    split at h
    · rename_i v' hb
      simp only [Option.some.injEq, Prod.mk.injEq] at h; obtain ⟨rfl, rfl⟩ := h
      have hy := eval_ev ht y (by
        intro e; rw [e] at hb; unfold convOf at hb; split at hb <;> simp_all)
      obtain ⟨r1, r2⟩ := convOf_sound (P := C.P) (w := w) (bs := bs) (n := x.n) hb
      exact ⟨_, by simp [execOp, hy, r1], .inr rfl, r2⟩
    · simp at h
  · rename_i T y i
    have hi := eval_ev ht i (by intro e; rw [e] at h; simp [indexOf] at h)
    have hy := eval_ev ht y (by
      intro e; rw [e] at h; unfold indexOf at h; split at h
      · split at h <;> simp_all
      · simp at h)
    obtain ⟨r1, r2⟩ := indexOf_sound (w := w) (bs := bs) h hc (closed_ev ht y)
    exact ⟨_, by simp [execOp, hy, hi, r1], .inr rfl, r2⟩
  · rename_i T y i
    have hi := eval_ev ht i (by intro e; rw [e] at h; simp [indexAddrOf] at h)
    have hy := eval_ev ht y (by
      intro e; rw [e] at h; unfold indexAddrOf at h; split at h
      · split at h <;> simp_all
      · simp at h)
    obtain ⟨r1, r2⟩ := indexAddrOf_sound (w := w) (bs := bs) h hc (closed_ev ht y)
    exact ⟨_, by simp [execOp, hy, hi, r1], .inr rfl, r2⟩
  · rename_i T y f
    have hy := eval_ev ht y (by
      intro e; rw [e] at h; unfold fieldAddrOf at h; split at h
      · split at h <;> simp_all
      · simp at h)
    obtain ⟨r1, r2⟩ := fieldAddrOf_sound (w := w) (bs := bs) h hc (closed_ev ht y)
    exact ⟨_, by simp [execOp, hy, r1], .inr rfl, r2⟩
  · rename_i T y f
    have hy := eval_ev ht y (by
      intro e; rw [e] at h; unfold fieldOf at h; split at h <;> simp_all)
    obtain ⟨r1, r2⟩ := fieldOf_sound (w := w) (bs := bs) h hc (closed_ev ht y)
    exact ⟨_, by simp [execOp, hy, r1], .inr rfl, r2⟩
  · rename_i T y lo hi mx
    cases hk : (okO (evo x.σ lo) && okO (evo x.σ hi) && okO (evo x.σ mx)) with
    | false => simp [hk] at h
    | true =>
      simp only [hk, cond_true] at h
      simp only [Bool.and_eq_true] at hk
      have hy := eval_ev ht y (by
        intro e; rw [e] at h; unfold sliceOf at h; split at h
        · split at h <;> simp_all
        · split at h <;> simp_all
        · split at h <;> simp_all
        · simp at h)
      obtain ⟨r1, r2⟩ := sliceOf_sound (w := w) (bs := bs) h hc (closed_ev ht y)
      refine ⟨_, ?_, .inr rfl, r2⟩
      simp only [execOp, hy, evo_eq ht lo hk.1.1, evo_eq ht hi hk.1.2, evo_eq ht mx hk.2, Sem.run_bind, r1, Result.andThen_ok, Sem.run_pure]
  · rename_i y i
    have hy := eval_ev ht y (by intro e; rw [e] at h; simp [extractOf] at h)
    obtain ⟨r1, r2⟩ := extractOf_sound (P := C.P) (w := w) (bs := bs) h hc (closed_ev ht y)
    exact ⟨_, by simp [execOp, hy, r1], .inr rfl, r2⟩
  · rename_i T parts
    split at h
    · rename_i v' hb
      simp only [Option.some.injEq, Prod.mk.injEq] at h; obtain ⟨rfl, rfl⟩ := h
      have ho : onesP (evs x.σ parts.toList) = true := by
        unfold buildOf at hb
        split at hb
        · simp at hb
        · cases ho : onesP (evs x.σ parts.toList) with
          | true => rfl
          | false => simp [ho] at hb
      obtain ⟨e1, e2⟩ := evs_map ht parts.toList ho
      obtain ⟨r1, r2⟩ := buildOf_sound (w := w) (bs := bs) hb e2
      refine ⟨_, ?_, .inr rfl, r2⟩
      have e3 : (parts.map fun (i, x) => (i, a.eval x)) = ((evs x.σ parts.toList).map fun p => (p.1, real bs p.2)).toArray := by
        apply Array.ext'; simp [← e1]
      simp only [execOp, e3, Sem.run_bind, r1, Result.andThen_ok, Sem.run_pure]
    · simp at h
  · rename_i f first cap
    cases hk : (noAny (first.toList.map (ev x.σ)) && noAny (cap.toList.map (ev x.σ))) with
    | false => simp [hk] at h
    | true =>
      simp only [hk, cond_true, Option.some.injEq, Prod.mk.injEq] at h; obtain ⟨rfl, rfl⟩ := h
      simp only [Bool.and_eq_true] at hk
      have e1 : first.map a.eval = (reals bs (first.toList.map (ev x.σ))).toArray := by apply Array.ext'; simp [← evals_eq ht _ hk.1]
      have e2 : cap.map a.eval = (reals bs (cap.toList.map (ev x.σ))).toArray := by apply Array.ext'; simp [← evals_eq ht _ hk.2]
      refine ⟨_, ?_, .inr rfl, ?_⟩
      · simp [execOp, Instr.makeFunc, e1, e2, real]
      · simp only [closed]; exact ⟨closeds_evs ht _, closeds_evs ht _⟩
  · rename_i y
    split at h
    · rename_i hy
      simp only [Option.some.injEq, Prod.mk.injEq] at h; obtain ⟨rfl, rfl⟩ := h
      have hcl := closed_ev ht y
      have hy' := eval_ev ht y (by rw [hy]; simp)
      rw [hy] at hy' hcl
      exact ⟨_, by simp [execOp, hy', real], .inr rfl, hcl⟩
    · rename_i hy
      simp only [Option.some.injEq, Prod.mk.injEq] at h; obtain ⟨rfl, rfl⟩ := h
      have hy' := eval_ev ht y (by rw [hy]; simp)
      rw [hy] at hy'
      exact ⟨_, by simp [execOp, hy', real], .inr rfl, trivial⟩
    · rename_i hy
      simp only [Option.some.injEq, Prod.mk.injEq] at h; obtain ⟨rfl, rfl⟩ := h
      have hcl := closed_ev ht y
      have hy' := eval_ev ht y (by rw [hy]; simp)
      rw [hy] at hy' hcl
      exact ⟨_, by simp [execOp, hy', real], .inr rfl, hcl⟩
    · simp at h
  · rename_i b args argTypes
    split at h
    · rename_i v' hb
      simp only [Option.some.injEq, Prod.mk.injEq] at h; obtain ⟨rfl, rfl⟩ := h
      unfold builtinOf at hb
      split at hb
      · split at hb
        · rename_i T y hT hx
          cases hk : y.isAny with
          | true => simp [hk] at hb
          | false =>
            simp only [hk, cond_false] at hb
            have hl : noAny (args.toList.map (ev x.σ)) = true := by rw [hx]; simp [noAny, hk]
            have e1 := evals_eq ht args.toList hl
            rw [hx] at e1
            have e2 : args.map a.eval = #[real bs y] := by apply Array.ext'; simpa [reals] using e1
            have e3 : argTypes = #[T] := by apply Array.ext'; simpa using hT
            obtain ⟨r1, r2⟩ := lenOf_sound (w := w) (bs := bs) (n := x.n) (ty := type) hb
            refine ⟨_, ?_, .inr rfl, r2⟩
            simp only [execOp, resolve, Sem.run_bind, Sem.run_pure, Result.andThen_ok, invoke, builtin, e2, e3, r1]
        · simp at hb
      · have hl : noAny (args.toList.map (ev x.σ)) = true := by
          unfold minOf at hb; split at hb
          · rename_i hx; rw [hx]; rfl
          · simp at hb
        have e1 := evals_eq ht args.toList hl
        have e2 : args.map a.eval = (reals bs (args.toList.map (ev x.σ))).toArray := by apply Array.ext'; simpa using e1
        obtain ⟨r1, r2⟩ := minOf_sound (P := C.P) (w := w) (bs := bs) (n := x.n) (ty := type) (Ts := argTypes) hb
        refine ⟨_, ?_, .inr rfl, r2⟩
        simp only [execOp, resolve, Sem.run_bind, Sem.run_pure, Result.andThen_ok, invoke, builtin, e2, r1]
      · have hl : noAny (args.toList.map (ev x.σ)) = true := by
          unfold maxOf at hb; split at hb
          · rename_i hx; rw [hx]; rfl
          · simp at hb
        have e1 := evals_eq ht args.toList hl
        have e2 : args.map a.eval = (reals bs (args.toList.map (ev x.σ))).toArray := by apply Array.ext'; simpa using e1
        obtain ⟨r1, r2⟩ := maxOf_sound (P := C.P) (w := w) (bs := bs) (n := x.n) (ty := type) (Ts := argTypes) hb
        refine ⟨_, ?_, .inr rfl, r2⟩
        simp only [execOp, resolve, Sem.run_bind, Sem.run_pure, Result.andThen_ok, invoke, builtin, e2, r1]
      · simp at hb
    · simp at h
  · simp at h
end Go.Ew
/- Operations that make blocks, and stores. -/
set_option linter.unusedSimpArgs false
set_option linter.unusedVariables false
namespace Go.Ew
open Go RowKit

/-! ### a new block -/
def upd (bs : Nat → Nat) (n b : Nat) : Nat → Nat := fun i => if i = n then b else bs i
theorem upd_lt {bs : Nat → Nat} {n b : Nat} : ∀ i, i < n → upd bs n b i = bs i := fun i hi => by simp [upd, Nat.ne_of_lt hi]
theorem upd_self {bs : Nat → Nat} {n b : Nat} : upd bs n b n = b := by simp [upd]
theorem EObj.real_congr {n : Nat} {bs bs' : Nat → Nat} (h : ∀ i, i < n → bs' i = bs i) : ∀ o : EObj, o.closed n → o.real bs' = o.real bs
  | .cells cs T fr, hc => by simp only [EObj.real, reals_congr h cs hc]
  | .obj o, _ => rfl
theorem EObj.closed_mono {n m : Nat} (h : n ≤ m) : ∀ o : EObj, o.closed n → o.closed m
  | .cells cs T fr, hc => closeds_mono h cs hc
  | .obj o, _ => trivial
theorem heap_lt {w : World} {b : Nat} {o : Obj} (h : w.heap[b]? = some o) : b < w.heap.size := by
  rcases Nat.lt_or_ge b w.heap.size with hl | hl
  · exact hl
  · rw [Array.getElem?_eq_none hl] at h; simp at h
theorem hget_cons (i j : Nat) (o : Option EObj) (hs : List (Nat × Option EObj)) : hget ((i, o) :: hs) j = if i = j then o else hget hs j := by
  by_cases h : i = j
  · subst h; simp [hget]
  · rw [if_neg h]; simp only [hget]; rw [beq_false_of_ne h]; rfl
theorem HRel.alloc {C : Cx} {n : Nat} {B : Base} {hs : List (Nat × Option EObj)} {bs : Nat → Nat} {w : World} (h : HRel C B n hs bs w) (o : EObj) (ho : o.closed n) :
    HRel C B (n + 1) ((n, some o) :: hs) (upd bs n w.heap.size) { w with heap := w.heap.push (o.real bs) } := by
  have hlt : ∀ i o, hget hs i = some o → i < n ∧ bs i < w.heap.size := fun i o hi => ⟨(h.live i o hi).1, heap_lt (h.live i o hi).2⟩
  refine ⟨?_, ?_, ?_, ?_, ?_, ?_, h.os, h.tape, h.output, ?_, ?_, ?_, h.apart, by have := h.eo.1; simp; omega, h.eo.2⟩
  · intro i o' hi
    rw [hget_cons] at hi
    by_cases e : n = i
    · subst e
      simp only [if_true, Option.some.injEq] at hi; subst hi
      refine ⟨by omega, ?_⟩
      rw [upd_self, EObj.real_congr upd_lt o ho]; simp
    · rw [if_neg e] at hi
      obtain ⟨l1, l2⟩ := hlt i o' hi
      refine ⟨by omega, ?_⟩
      rw [upd_lt i l1, EObj.real_congr upd_lt o' (h.cl i o' hi)]
      show (w.heap.push _)[bs i]? = _
      rw [Array.getElem?_push, if_neg (by omega)]; exact (h.live i o' hi).2
  · intro i o' hi
    rw [hget_cons] at hi
    by_cases e : n = i
    · rw [if_pos e, Option.some.injEq] at hi; subst hi; exact EObj.closed_mono (by omega) o ho
    · rw [if_neg e] at hi; exact EObj.closed_mono (by omega) o' (h.cl i o' hi)
  · intro i j oi oj hi hj hb
    rw [hget_cons] at hi hj
    by_cases ei : n = i
    · by_cases ej : n = j
      · omega
      · rw [if_neg ej] at hj
        obtain ⟨l1, l2⟩ := hlt j oj hj
        rw [← ei, upd_self, upd_lt j l1] at hb; omega
    · rw [if_neg ei] at hi
      obtain ⟨l1, l2⟩ := hlt i oi hi
      by_cases ej : n = j
      · rw [← ej, upd_self, upd_lt i l1] at hb; omega
      · rw [if_neg ej] at hj
        obtain ⟨l3, l4⟩ := hlt j oj hj
        rw [upd_lt i l1, upd_lt j l3] at hb
        exact h.inj i j oi oj hi hj hb
  · intro i b hi
    obtain ⟨h1, h2⟩ := h.old i b hi
    exact ⟨by rw [upd_lt i h2]; exact h1, by omega⟩
  · intro i o' hi
    rw [hget_cons] at hi
    by_cases e : n = i
    · subst e; rw [upd_self]; intro hD; have := (h.frame _ hD).1; omega
    · rw [if_neg e] at hi
      rw [upd_lt i (hlt i o' hi).1]; exact h.new i o' hi
  · intro k hk
    obtain ⟨h1, h2⟩ := h.frame k hk
    refine ⟨by simp; omega, ?_⟩
    show (w.heap.push _)[k]? = _
    rw [Array.getElem?_push, if_neg (by omega)]; exact h2
  · show B.w.heap.size ≤ (w.heap.push _).size
    have := h.hsize; simp; omega
  · intro i o' hi
    rw [hget_cons] at hi
    by_cases e : n = i
    · subst e; rw [upd_self]; intro hD; have := (h.frameE _ hD).1; omega
    · rw [if_neg e] at hi
      rw [upd_lt i (hlt i o' hi).1]; exact h.newE i o' hi
  · intro k hk
    obtain ⟨h1, h2⟩ := h.frameE k hk
    refine ⟨by simp; omega, ?_⟩
    show (w.heap.push _)[k]? = _
    rw [Array.getElem?_push, if_neg (by omega)]; exact h2

/-- zs, n times over. -/
def rep (n : Nat) (zs : List EV) : List EV := (List.replicate n zs).flatten
theorem rep_one (n : Nat) (z : EV) : rep n [z] = List.replicate n z := by simp [rep]
theorem rep_length (n : Nat) (zs : List EV) : (rep n zs).length = n * zs.length := by simp [rep]
theorem rep_get {n : Nat} {zs : List EV} {i : Nat} (hi : i < n * zs.length) : (rep n zs)[i]? = zs[i % zs.length]? := by
  induction n generalizing i with
  | zero => omega
  | succ n ih =>
    have e : rep (n + 1) zs = zs ++ rep n zs := by simp [rep, List.replicate_succ]
    rw [e, List.getElem?_append]
    by_cases hl : i < zs.length
    · rw [if_pos hl, Nat.mod_eq_of_lt hl]
    · have hi' : i < n * zs.length + zs.length := by rw [← Nat.succ_mul]; exact hi
      rw [if_neg hl, ih (by omega), ← Nat.mod_eq_sub_mod (by omega)]
theorem rep_closeds {n m : Nat} {zs : List EV} (h : closeds m zs) : closeds m (rep n zs) := by
  rw [closeds_iff] at *
  intro v hv
  simp only [rep, List.mem_flatten, List.mem_replicate] at hv
  obtain ⟨l, ⟨_, rfl⟩, hl⟩ := hv
  exact h v hl
theorem range_rep {bs : Nat → Nat} {n : Nat} {zs : List EV} (z : Array Value) (hz : z = (reals bs zs).toArray) (hne : zs ≠ []) :
    (Array.range (n * zs.length)).map (z[· % z.size]!) = (reals bs (rep n zs)).toArray := by
  subst hz
  have hpos : 0 < zs.length := List.length_pos_iff.2 hne
  apply Array.ext'
  apply List.ext_getElem?
  intro i
  by_cases hi : i < n * zs.length
  · have hm : i % zs.length < zs.length := Nat.mod_lt _ hpos
    simp only [reals_eq, Array.toList_map, Array.toList_range, List.getElem?_map, List.getElem?_range hi, Option.map_some, rep_get hi, List.getElem?_eq_getElem hm, List.size_toArray, List.length_map]
    simp [hm]
  · rw [List.getElem?_eq_none (by simp; omega), List.getElem?_eq_none (by simp [reals_eq, rep_length]; omega)]

/-- What a new block holds, and the value that tells of it. -/
def allocOf (C : Cx) (x : X) (op : Op) : Option (EV × EObj × Prop) :=
  match op with
  | .alloc T => match zeroOf C.P T with
    | some zs => some (.ptr x.n 0, .cells zs T (0, 0), True)
    | none => none
  | .box T a => match ev x.σ a with
    | .any => none
    | .raw u => some (.ptr x.n 0, .cells [.raw u] T (0, 0), u.oneCell' = true)
    | v => some (.ptr x.n 0, .cells v.cells T (0, 0), True)
  | .buildSlice T len parts =>
    match C.P.underlying T with
    | some (.slice e) =>
      match zeroOf C.P e with
      | some zs =>
        bif onesP (evs x.σ parts.toList) then
          match efill (fun i => some (i * zs.length, zs.length)) (rep len zs) (evs x.σ parts.toList) with
          | some cs => some (.sl x.n 0 len len, .cells cs e (0, 0), (len * zs.length ≤ 16777216 ∧ zs ≠ []) ∧ C.P.cellsOf e = zs.length)
          | none => none
        else none
      | none => none
    | _ => none
  | .makeSlice T l c =>
    match C.P.underlying T, ev x.σ l, ev x.σ c with
    | some (.slice e), .int _ l, .int _ c =>
      match zeroOf C.P e with
      | some zs => some (.sl x.n 0 l.toNat c.toNat, .cells (rep c.toNat zs) e (0, 0), (0 ≤ l ∧ l ≤ c ∧ c < 9223372036854775808 ∧ C.P.bytesOf e * c ≤ 281474976710656 ∧ zs ≠ []) ∧ C.P.cellsOf e = zs.length)
      | none => none
    | _, _, _ => none
  | _ => none
theorem wrap_i64_of {c : Int} (h0 : 0 ≤ c) (h1 : c < 9223372036854775808) : IntKind.i64.wrap c = c := by
  simp [IntKind.wrap, IntKind.bits, IntKind.signed]
  omega
theorem allocOf_sound {C : Cx} {x : X} {bs : Nat → Nat} {a : Act} {w : World} (hr : Rel C x bs a w) {o : Oper} {v : EV} {ob : EObj} {c : Prop} (h : allocOf C x o.op = some (v, ob, c)) (hc : c) :
    (execOp a.eval o).run C.P w = .ok (.value (real (upd bs x.n w.heap.size) v)) { w with heap := w.heap.push (ob.real bs) } ∧ closed (x.n + 1) v ∧ ob.closed x.n := by
  have ht := hr.t
  obtain ⟨dst, op, type, pos, after, guard⟩ := o
  simp only at h
  unfold allocOf at h
  split at h
  · rename_i T
    split at h
    · rename_i zs hz
      simp only [Option.some.injEq, Prod.mk.injEq] at h; obtain ⟨rfl, rfl, rfl⟩ := h
      obtain ⟨z, z1, z2, z3⟩ := zeroOf_run (w := w) bs x.n hz
      refine ⟨?_, by simp [closed], z3⟩
      simp [execOp, Instr.alloc, z1, newVar, newRow, z2, real, upd_self, EObj.real]
    · simp at h
  · rename_i T y
    split at h
    · simp at h
    · rename_i u hu
      simp only [Option.some.injEq, Prod.mk.injEq] at h; obtain ⟨rfl, rfl, rfl⟩ := h
      have hy := eval_ev ht y (by rw [hu]; simp)
      rw [hu] at hy
      refine ⟨?_, by simp [closed], by simp [EObj.closed, closeds, closed]⟩
      have : u.cells = #[u] := by cases u <;> simp_all [Value.cells, Value.oneCell']
      simp [execOp, Instr.box, newVar, newRow, real, upd_self, EObj.real, reals, hy, this]
    · rename_i v' h1 h2
      simp only [Option.some.injEq, Prod.mk.injEq] at h; obtain ⟨rfl, rfl, rfl⟩ := h
      have hy := eval_ev ht y (by intro e; exact h1 e)
      refine ⟨?_, by simp [closed], closeds_cells (closed_ev ht y)⟩
      have := real_cells bs (ev x.σ y) (fun u e => h2 u e)
      simp [execOp, Instr.box, newVar, newRow, real, upd_self, EObj.real, hy, this]
  · rename_i T len parts
    split at h
    · rename_i e hu
      split at h
      · rename_i zs hz
        cases ho : onesP (evs x.σ parts.toList) with
        | false => simp [ho] at h
        | true =>
          simp only [ho, cond_true] at h
          split at h
          · rename_i cs he
            simp only [Option.some.injEq, Prod.mk.injEq] at h; obtain ⟨rfl, rfl, rfl⟩ := h
            obtain ⟨z, z1, z2, z3⟩ := zeroOf_run (w := w) bs x.n hz
            obtain ⟨e1, e2⟩ := evs_map ht parts.toList ho
            have hsp := onesP_spec ho
            obtain ⟨f1, f2⟩ := efill_sound (bs := bs) (n := x.n) _ _ _ cs he (rep_closeds z3) (fun p hp => ⟨e2 p hp, (hsp p hp).2⟩)
            obtain ⟨⟨hlen, hne⟩, hcz⟩ := hc
            refine ⟨?_, by simp [closed], f2⟩
            have hd : ∃ d, C.P.info? e = some d := by
              unfold zeroOf at hz; cases hi : C.P.info? e with
              | none => simp [hi] at hz
              | some i => exact ⟨i, rfl⟩
            obtain ⟨i, hi⟩ := hd
            have hsz : (sizeOf e).run C.P w = .ok zs.length w := by
              rw [← hcz]; simp [sizeOf, typeInfo, hi, Program.cellsOf]
            have e3 : (parts.map fun (i, x) => (i, a.eval x)) = ((evs x.σ parts.toList).map fun p => (p.1, real bs p.2)).toArray := by
              apply Array.ext'; simp [← e1]
            simp only [execOp, Instr.buildSlice, e3, Sem.run_bind, run_underlying _ _ _ _ hu, Result.andThen_ok, hsz, Sem.run_pure]
            rw [if_neg (by have : (2:Nat)^24 = 16777216 := by decide
                           omega)]
            by_cases h0 : len * zs.length = 0
            · have hpos : 0 < zs.length := List.length_pos_iff.2 hne
              have hl0 : len = 0 := by
                rcases Nat.mul_eq_zero.1 h0 with h | h
                · exact h
                · omega
              subst hl0
              have hrow : (Array.range (0 * zs.length)).map ((#[] : Array Value)[· % (#[] : Array Value).size]!) = (reals bs (rep 0 zs)).toArray := by simp [rep, reals]
              simp only [if_pos h0, Sem.run_bind, Sem.run_pure, Result.andThen_ok, hrow, f1]
              simp [newRow, real, upd_self, EObj.real]
            · have hrow := range_rep (bs := bs) (n := len) (zs := zs) _ rfl hne
              simp only [if_neg h0, Sem.run_bind, Sem.run_pure, z1, z2, Result.andThen_ok, hrow, f1]
              simp [newRow, real, upd_self, EObj.real]
          · simp at h
      · simp at h
    · simp at h
  · rename_i T l' c'
    split at h
    · rename_i e k l k' c hu hl hcv
      split at h
      · rename_i zs hz
        simp only [Option.some.injEq, Prod.mk.injEq] at h; obtain ⟨rfl, rfl, rfl⟩ := h
        obtain ⟨z, z1, z2, z3⟩ := zeroOf_run (w := w) bs x.n hz
        obtain ⟨⟨h0, hlc, hcm, hby, hne⟩, hcz⟩ := hc
        have hl' := eval_ev ht l' (by rw [hl]; simp)
        have hc' := eval_ev ht c' (by rw [hcv]; simp)
        rw [hl] at hl'; rw [hcv] at hc'
        refine ⟨?_, by simp [closed], rep_closeds z3⟩
        have hd : ∃ d, C.P.info? e = some d := by
          unfold zeroOf at hz; cases hi : C.P.info? e with
          | none => simp [hi] at hz
          | some i => exact ⟨i, rfl⟩
        obtain ⟨i, hi⟩ := hd
        have hsz : (sizeOf e).run C.P w = .ok zs.length w := by
          rw [← hcz]; simp [sizeOf, typeInfo, hi, Program.cellsOf]
        have hti : (typeInfo e).run C.P w = .ok i w := by simp [typeInfo, hi]
        have hib : (i.bytes : Int) * c ≤ 281474976710656 := by
          have : C.P.bytesOf e = i.bytes := by simp [Program.bytesOf, hi]
          rw [← this]; exact hby
        simp only [execOp, Instr.makeSlice, hl', hc', real, Sem.run_bind, run_underlying _ _ _ _ hu, Result.andThen_ok, asInt, asIntOf, Sem.run_pure, hti, wrap_i64_of h0 (show l < 9223372036854775808 by omega), wrap_i64_of (show 0 ≤ c by omega) hcm]
        have hcond : ((decide (c < 0) || decide ((i.bytes : Int) * c > 2 ^ 48)) || decide (l < 0) || decide (l > c)) = false := by
          have : (2 : Int) ^ 48 = 281474976710656 := by decide
          rw [this]; simp; omega
        rw [if_neg (by simpa using hcond)]
        simp only [Sem.run_bind, Sem.run_pure, Result.andThen_ok, run_askRoom, hsz]
        by_cases h0 : c.toNat * zs.length = 0
        · have hpos : 0 < zs.length := List.length_pos_iff.2 hne
          have hl0 : c.toNat = 0 := by
            rcases Nat.mul_eq_zero.1 h0 with h | h
            · exact h
            · omega
          have hrow : (Array.range (0 * zs.length)).map ((#[] : Array Value)[· % (#[] : Array Value).size]!) = (reals bs (rep 0 zs)).toArray := by simp [rep, reals]
          rw [if_pos h0]
          simp only [hl0, Sem.run_bind, Sem.run_pure, Result.andThen_ok, hrow]
          simp [newRow, real, upd_self, EObj.real]
        · have hrow := range_rep (bs := bs) (n := c.toNat) (zs := zs) _ rfl hne
          rw [if_neg h0]
          simp only [Sem.run_bind, Sem.run_pure, z1, z2, Result.andThen_ok, hrow]
          simp [newRow, real, upd_self, EObj.real]
      · simp at h
    · simp at h
  · simp at h
end Go.Ew
/- Stores; one operation of whatever make; a list of operations; code. -/
set_option linter.unusedSimpArgs false
set_option linter.unusedVariables false
namespace Go.Ew
open Go RowKit

/-! ### stores -/
def setBlk (w : World) (b : Nat) (o : Obj) : World := { w with heap := w.heap.setIfInBounds b o }
theorem setCell_blk {w : World} {b : Nat} {cs : Array Value} {T : TypeId} {fr : Nat × Nat} (h : w.heap[b]? = some (.cells cs T fr)) (off : Nat) (v : Value) :
    w.setCell ⟨b, off, none⟩ v = setBlk w b (.cells (cs.setIfInBounds off v) T fr) := by
  have hb := heap_lt h
  simp only [World.setCell, setBlk]
  congr 1
  apply Array.ext_getElem?
  intro k
  rw [Array.getElem?_modify, Array.getElem?_setIfInBounds]
  by_cases hk : b = k
  · subst hk
    simp only [if_true, h, hb]; rfl
  · rw [if_neg hk, if_neg hk]
theorem setBlk_get {w : World} {b : Nat} {o : Obj} (h : b < w.heap.size) : (setBlk w b o).heap[b]? = some o := by
  simp [setBlk, Array.getElem?_setIfInBounds, h]
theorem setBlk_setBlk (w : World) (b : Nat) (o o' : Obj) : setBlk (setBlk w b o) b o' = setBlk w b o' := by
  simp [setBlk]
theorem storeCells_run {P : Program} {b : Nat} {T : TypeId} {fr : Nat × Nat} : ∀ (vs : List Value) (w : World) (cs : Array Value) (off i : Nat), w.heap[b]? = some (.cells cs T fr) →
    off + i + vs.length ≤ cs.size → (fr.2 ≤ off + i ∨ off + i + vs.length ≤ fr.1) → (∀ v ∈ vs, v.oneCell' = true) →
    ∃ cs', (storeCells ⟨b, off, none⟩ vs i).run P w = .ok () (setBlk w b (.cells cs' T fr)) ∧ cs'.toList = cs.toList.take (off + i) ++ vs ++ cs.toList.drop (off + i + vs.length)
  | [], w, cs, off, i, h, hl, hf, ho => by
    refine ⟨cs, ?_, by simp⟩
    simp only [storeCells, Sem.run_pure]
    congr 1
    simp only [setBlk]
    have hb := heap_lt h
    have : w.heap.setIfInBounds b (.cells cs T fr) = w.heap := by
      apply Array.ext_getElem?
      intro k
      rw [Array.getElem?_setIfInBounds]
      by_cases hk : b = k
      · subst hk; rw [if_pos rfl, if_pos hb, h]
      · rw [if_neg hk]
    rw [this]
  | v :: vs, w, cs, off, i, h, hl, hf, ho => by
    simp only [List.length_cons] at hl hf
    have hcell : w.cell? ⟨b, off + i, none⟩ = some cs[off + i] := by
      rw [cell_of_heap h]; exact Array.getElem?_eq_getElem (by omega)
    have hfr : w.frozen? ⟨b, off + i, none⟩ = false := by
      simp only [World.frozen?, h]; simp; omega
    have hb := heap_lt h
    obtain ⟨cs', r1, r2⟩ := storeCells_run (P := P) (b := b) (T := T) (fr := fr) vs (setBlk w b (.cells (cs.setIfInBounds (off + i) v) T fr)) (cs.setIfInBounds (off + i) v) off (i + 1)
      (setBlk_get hb) (by simp; omega) (by omega) (fun u hu => ho u (by simp [hu]))
    refine ⟨cs', ?_, ?_⟩
    · rw [storeCells]
      rw [Sem.run_bind, add_spot, run_store P w _ v _ (ho v (by simp)), hcell]
      simp only [hfr, Bool.false_eq_true, if_false, Result.andThen_ok, setCell_blk h, r1, setBlk_setBlk]
    · rw [r2]
      simp only [Array.toList_setIfInBounds, List.length_cons]
      apply List.ext_getElem?
      intro q
      simp only [List.getElem?_append, List.getElem?_take, List.getElem?_drop, List.length_append, List.length_take, List.length_set, List.getElem?_set, List.length_cons, Array.length_toList]
      by_cases hq : q < off + i
      · have : off + i ≠ q := by omega
        simp [hq, this, show q < off + (i + 1) by omega, show q < min (off + (i+1)) cs.size by omega, show q < min (off+i) cs.size by omega,
          show q < min (off + (i + 1)) cs.size + vs.length by omega, show q < min (off + i) cs.size + (vs.length + 1) by omega]
      · by_cases hq1 : q = off + i
        · subst hq1
          simp [show off + i < off + (i + 1) by omega, show off + i < min (off + (i + 1)) cs.size by omega, show ¬ off + i < min (off + i) cs.size by omega,
            show off + i < min (off + (i + 1)) cs.size + vs.length by omega, show off + i < min (off + i) cs.size + (vs.length + 1) by omega, show off + i < cs.size by omega,
            show off + i - min (off + i) cs.size = 0 by omega]
        · have e1 : ¬ q < min (off + (i + 1)) cs.size := by omega
          have e2 : ¬ q < min (off + i) cs.size := by omega
          by_cases hq2 : q < off + i + (vs.length + 1)
          · simp [e1, e2, show q < min (off + (i + 1)) cs.size + vs.length by omega, show q < min (off + i) cs.size + (vs.length + 1) by omega]
            rw [show q - min (off + i) cs.size = (q - min (off + (i + 1)) cs.size) + 1 by omega]
            simp
          · simp [e1, e2, show ¬ q < min (off + (i + 1)) cs.size + vs.length by omega, show ¬ q < min (off + i) cs.size + (vs.length + 1) by omega]
            have e3 : off + (i + 1) + vs.length + (q - (min (off + (i + 1)) cs.size + vs.length)) = off + i + (vs.length + 1) + (q - (min (off + i) cs.size + (vs.length + 1))) := by omega
            rw [e3]
            have : off + i ≠ off + i + (vs.length + 1) + (q - (min (off + i) cs.size + (vs.length + 1))) := by omega
            simp [this]

theorem HRel.store {C : Cx} {n : Nat} {B : Base} {hs : List (Nat × Option EObj)} {bs : Nat → Nat} {w : World} (h : HRel C B n hs bs w) {i : Nat} {o : EObj} (hi : hget hs i = some o) (o' : EObj) (ho : o'.closed n) :
    HRel C B n ((i, some o') :: hs) bs (setBlk w (bs i) (o'.real bs)) := by
  obtain ⟨hin, hib⟩ := h.live i o hi
  have hlt := heap_lt hib
  refine ⟨?_, ?_, ?_, h.old, ?_, ?_, h.os, h.tape, h.output, ?_, ?_, ?_, h.apart, by simpa [setBlk] using h.eo.1, h.eo.2⟩
  · intro j oj hj
    rw [hget_cons] at hj
    by_cases e : i = j
    · subst e
      simp only [if_true, Option.some.injEq] at hj; subst hj
      exact ⟨hin, setBlk_get hlt⟩
    · rw [if_neg e] at hj
      obtain ⟨l1, l2⟩ := h.live j oj hj
      refine ⟨l1, ?_⟩
      have : bs i ≠ bs j := fun hb => e (h.inj i j o oj hi hj hb)
      simp only [setBlk]
      rw [Array.getElem?_setIfInBounds_ne this]; exact l2
  · intro j oj hj
    rw [hget_cons] at hj
    by_cases e : i = j
    · rw [if_pos e, Option.some.injEq] at hj; subst hj; exact ho
    · rw [if_neg e] at hj; exact h.cl j oj hj
  · intro j k oj ok hj hk hb
    have lift : ∀ j oj, hget ((i, some o') :: hs) j = some oj → ∃ o, hget hs j = some o := by
      intro j oj hj
      rw [hget_cons] at hj
      by_cases e : i = j
      · exact ⟨o, e ▸ hi⟩
      · rw [if_neg e] at hj; exact ⟨oj, hj⟩
    obtain ⟨oj', hj'⟩ := lift j oj hj
    obtain ⟨ok', hk'⟩ := lift k ok hk
    exact h.inj j k oj' ok' hj' hk' hb
  · intro j oj hj
    rw [hget_cons] at hj
    by_cases e : i = j
    · subst e; exact h.new i o hi
    · rw [if_neg e] at hj; exact h.new j oj hj
  · intro k hk
    obtain ⟨h1, h2⟩ := h.frame k hk
    simp only [setBlk]
    refine ⟨by simpa using h1, ?_⟩
    rw [Array.getElem?_setIfInBounds_ne]
    · exact h2
    · intro e
      exact h.new i o hi (e ▸ hk)
  · show B.w.heap.size ≤ (w.heap.setIfInBounds _ _).size
    simpa using h.hsize
  · intro j oj hj
    rw [hget_cons] at hj
    by_cases e : i = j
    · subst e; exact h.newE i o hi
    · rw [if_neg e] at hj; exact h.newE j oj hj
  · intro k hk
    obtain ⟨h1, h2⟩ := h.frameE k hk
    simp only [setBlk]
    refine ⟨by simpa using h1, ?_⟩
    rw [Array.getElem?_setIfInBounds_ne]
    · exact h2
    · intro e
      exact h.newE i o hi (e ▸ hk)

def oneAll : List EV → Bool
  | [] => true
  | v :: vs => v.one && oneAll vs
theorem oneAll_spec : ∀ {l : List EV}, oneAll l = true → ∀ v ∈ l, v.one = true
  | [], _, v, hv => by simp at hv
  | u :: l, h, v, hv => by
    simp only [oneAll, Bool.and_eq_true] at h
    rcases List.mem_cons.1 hv with rfl | hv
    · exact h.1
    · exact oneAll_spec h.2 v hv
/-- What a store makes of a block. -/
def storeOf (C : Cx) (x : X) (op : Op) : Option (Nat × EObj × Prop) :=
  match op with
  | .store T p v =>
    match ev x.σ p with
    | .ptr i off =>
      match hget x.hs i with
      | some (.cells cs T' fr) =>
        some (i, .cells (splice cs off (ev x.σ v).cells) T' fr,
          ((ev x.σ v).cells.length = C.P.cellsOf T ∧ off + (ev x.σ v).cells.length ≤ cs.length) ∧ (fr.2 ≤ off ∨ off + (ev x.σ v).cells.length ≤ fr.1) ∧ oneAll (ev x.σ v).cells = true ∧ ∃ d, C.P.underlying T = some d)
      | _ => none
    | _ => none
  | _ => none
theorem storeOf_sound {C : Cx} {x : X} {bs : Nat → Nat} {a : Act} {w : World} (hr : Rel C x bs a w) {o : Oper} {i : Nat} {ob : EObj} {c : Prop} (h : storeOf C x o.op = some (i, ob, c)) (hc : c) :
    (execOp a.eval o).run C.P w = .ok .skip (setBlk w (bs i) (ob.real bs)) ∧ ob.closed x.n ∧ ∃ o, hget x.hs i = some o := by
  have ht := hr.t
  obtain ⟨dst, op, type, pos, after, guard⟩ := o
  simp only at h
  unfold storeOf at h
  split at h
  · rename_i T p v
    split at h
    · rename_i i off hp
      split at h
      · rename_i cs T' fr hg
        simp only [Option.some.injEq, Prod.mk.injEq] at h; obtain ⟨rfl, rfl, rfl⟩ := h
        obtain ⟨⟨h1, h2⟩, h3, h4, d, hd⟩ := hc
        have hp' := eval_ev ht p (by rw [hp]; simp)
        rw [hp] at hp'
        have hvne : ev x.σ v ≠ .any := by intro e; rw [e] at h4; simp [EV.cells, oneAll, EV.one] at h4
        have hv' := eval_ev ht v hvne
        obtain ⟨l1, l2⟩ := hr.h.live i _ hg
        have hccl : closeds x.n cs := hr.h.cl i _ hg
        have hvcl : closeds x.n (ev x.σ v).cells := closeds_cells (closed_ev ht v)
        simp only [EObj.real] at l2
        have hrc : (real bs (ev x.σ v)).cells = (reals bs (ev x.σ v).cells).toArray := by
          generalize ev x.σ v = u at h4 hvne
          cases u with
          | raw u =>
            have : u.oneCell' = true := by simpa [EV.cells, oneAll, EV.one] using h4
            cases u <;> simp_all [real, EV.cells, Value.cells, reals, Value.oneCell']
          | _ => exact real_cells bs _ (by intro u; simp)
        obtain ⟨cs', r1, r2⟩ := storeCells_run (P := C.P) (T := T') (fr := fr) (reals bs (ev x.σ v).cells) w _ off 0 l2
          (by simp [reals_eq]; omega) (by simp [reals_eq]; omega) (by
            intro u hu
            rw [reals_eq] at hu
            obtain ⟨q, hq, rfl⟩ := List.mem_map.1 hu
            exact real_one (oneAll_spec h4 q hq))
        refine ⟨?_, splice_closeds hccl hvcl, _, hg⟩
        have hcs' : cs' = (reals bs (splice cs off (ev x.σ v).cells)).toArray := by
          apply Array.ext'
          rw [r2, splice_eq _ _ _ h2]
          simp [reals_eq, List.map_append, List.map_take, List.map_drop]
        have hsz : (real bs (ev x.σ v)).cells.size = C.P.cellsOf T := by rw [hrc]; simp [reals_eq, h1]
        simp only [execOp, Instr.storeAt, hp', hv', real, Instr.sureAddr, Sem.run_bind, Sem.run_pure, Result.andThen_ok, storeVar, run_sizeOf' _ _ _ _ hd]
        rw [if_neg (by rw [hsz]; simp)]
        simp only [hrc]
        rw [r1, hcs']; rfl
      · simp at h
    · simp at h
  · simp at h
end Go.Ew
/- One operation of whatever make; a list of operations; code; a function. -/
set_option linter.unusedSimpArgs false
set_option linter.unusedVariables false
namespace Go.Ew
open Go RowKit

theorem tget_cons (d t : Nat) (v : EV) (σ : List (Nat × EV)) : tget ((d, v) :: σ) t = if d = t then v else tget σ t := by
  by_cases h : d = t
  · subst h; simp [tget]
  · rw [if_neg h]; simp only [tget]; rw [beq_false_of_ne h]; rfl
def dstIn (N : Nat) (dst : Option Tmp) : Bool :=
  match dst with
  | some d => decide (d < N)
  | none => true
theorem TRel.next {C : Cx} {ms : List Nat} {n n' : Nat} {σ : List (Nat × EV)} {bs bs' : Nat → Nat} {a : Act} (h : TRel C ms n σ bs a) (hn : n ≤ n') (hb : ∀ i, i < n → bs' i = bs i) {dst : Option Tmp} (hd : dstIn C.N dst = true)
    {v : EV} {V : Value} (hv : v = .any ∨ V = real bs' v) (hc : closed n' v) : TRel C ms n' (put σ dst v) bs' (a.put dst V) := by
  have lift : ∀ t, tget σ t ≠ .any → a.tmps[t]? = some (real bs' (tget σ t)) := fun t ht => by rw [real_congr hb _ (h.cl t)]; exact h.tmps t ht
  cases dst with
  | none => exact ⟨h.size, h.defers.trans (marks_congr hb h.msin).symm, fun i hi => Nat.lt_of_lt_of_le (h.msin i hi) hn, lift, fun t => closed_mono hn _ (h.cl t)⟩
  | some d =>
    simp only [dstIn, decide_eq_true_eq] at hd
    refine ⟨by simp [Act.put, h.size], h.defers.trans (marks_congr hb h.msin).symm, fun i hi => Nat.lt_of_lt_of_le (h.msin i hi) hn, ?_, ?_⟩
    · intro t ht
      simp only [put] at ht ⊢
      rw [tget_cons] at ht ⊢
      simp only [Act.put, Array.getElem?_setIfInBounds]
      by_cases e : d = t
      · subst e
        simp only [if_true] at ht ⊢
        rcases hv with rfl | rfl
        · exact absurd rfl ht
        · rw [if_pos (by rw [h.size]; exact hd)]
      · simp only [if_neg e] at ht ⊢
        exact lift t ht
    · intro t
      simp only [put]; rw [tget_cons]
      split
      · exact hc
      · exact closed_mono hn _ (h.cl t)
/-- The fence that lets everything in; within round C.rd. -/
def fe (C : Cx) : Fence := { Fence.wide with round := C.rd }
theorem calls_fe {C : Cx} {n : Nat} {f : FuncId} {args : Array Value} {w : World} {R : Ending → World → Prop} : CallsIn (fe C) n C.P f args w R ↔ Calls C.P f args w R := by
  rw [← callsIn_wide (n := n)]; rfl
/-- From state x operation o leads into a state of which K holds, whatever the memory is. -/
def Goes (C : Cx) (o : Oper) (x : X) (K : X → Prop) : Prop :=
  ∀ bs a w, Rel C x bs a w → ∀ Q, o.wpIn (fe C) 0 C.P a w (fun a' w' => ∃ x' bs', Rel C x' bs' a' w' ∧ K x') Q
/-- A function of the program, called. -/
def ECalls (C : Cx) (f : FuncId) (args : List EV) (x : X) (K : EV → Nat → List (Nat × Option EObj) → Prop) : Prop :=
  ∀ bs w, HRel C x.B x.n x.hs bs w → closeds x.n args → Calls C.P f (reals bs args).toArray w (fun e w' => ∃ v n' hs' bs', e = .returned (real bs' v) ∧ (∀ i, i < x.n → bs' i = bs i) ∧ x.n ≤ n' ∧ closed n' v ∧ HRel C x.B n' hs' bs' w' ∧ K v n' hs')
def Enters (P : Program) (f : FuncId) : Prop := ∀ args w, (callFunc f args).run P w = .ok (.enter f args) w
/-- A function of the program, or one that the model has a row for. -/
def CallV (C : Cx) (f : FuncId) (args : List EV) (x : X) (K : EV → Nat → List (Nat × Option EObj) → Prop) : Prop :=
  (Enters C.P f ∧ ECalls C f args x K) ∨ (∃ v, closed x.n v ∧ (∀ bs w, (callFunc f (reals bs args).toArray).run C.P w = .ok (.value (real bs v)) w) ∧ K v x.n x.hs)
/-- An operation that is no call: the state behind it, and what it asks. -/
def stepO (C : Cx) (o : Oper) (x : X) : Option (X × Prop) :=
  match pureOf C x o.op with
  | some (v, c) => some ({ σ := put x.σ o.dst v, n := x.n, hs := x.hs, B := x.B, ms := x.ms }, c)
  | none => match allocOf C x o.op with
    | some (v, ob, c) => some ({ σ := put x.σ o.dst v, n := x.n + 1, hs := (x.n, some ob) :: x.hs, B := x.B, ms := x.ms }, c)
    | none => match storeOf C x o.op with
      | some (i, ob, c) => some ({ σ := put x.σ o.dst (.tup []), n := x.n, hs := (i, some ob) :: x.hs, B := x.B, ms := x.ms }, c)
      | none => none
theorem pure_nd {C : Cx} {x : X} {op : Op} {r} (h : pureOf C x op = some r) : ∀ c, op ≠ .defer c := by
  rintro c rfl; simp [pureOf] at h
theorem alloc_nd {C : Cx} {x : X} {op : Op} {r} (h : allocOf C x op = some r) : ∀ c, op ≠ .defer c := by
  rintro c rfl; simp [allocOf] at h
theorem store_nd {C : Cx} {x : X} {op : Op} {r} (h : storeOf C x op = some r) : ∀ c, op ≠ .defer c := by
  rintro c rfl; simp [storeOf] at h
theorem stepO_sound {C : Cx} {o : Oper} {x x' : X} {c : Prop} {K : X → Prop} (hd : dstIn C.N o.dst = true) (h : stepO C o x = some (x', c)) (hc : c) (hk : K x') : Goes C o x K := by
  unfold stepO at h
  split at h
  · rename_i v c' hp
    simp only [Option.some.injEq, Prod.mk.injEq] at h; obtain ⟨rfl, rfl⟩ := h
    intro bs a w hr Q
    obtain ⟨V, h1, h2, h3⟩ := pureOf_sound hr hp hc
    refine ⟨fun _ _ => trivial, ?_⟩
    rw [Oper.semAt_eq _ _ _ (pure_nd hp), h1]
    exact ⟨⟨put x.σ o.dst v, x.n, x.hs, x.B, x.ms⟩, bs, ⟨hr.t.next (Nat.le_refl _) (fun _ _ => rfl) hd h2 h3, hr.h⟩, hk⟩
  · split at h
    · rename_i v ob c' hp
      simp only [Option.some.injEq, Prod.mk.injEq] at h; obtain ⟨rfl, rfl⟩ := h
      intro bs a w hr Q
      obtain ⟨h1, h2, h3⟩ := allocOf_sound hr hp hc
      refine ⟨fun _ _ => trivial, ?_⟩
      rw [Oper.semAt_eq _ _ _ (alloc_nd hp), h1]
      exact ⟨_, upd bs x.n w.heap.size, ⟨hr.t.next (Nat.le_succ _) upd_lt hd (.inr rfl) h2, hr.h.alloc ob h3⟩, hk⟩
    · split at h
      · rename_i i ob c' hp
        simp only [Option.some.injEq, Prod.mk.injEq] at h; obtain ⟨rfl, rfl⟩ := h
        intro bs a w hr Q
        obtain ⟨h1, h2, o', h3⟩ := storeOf_sound hr hp hc
        refine ⟨fun _ _ => trivial, ?_⟩
        rw [Oper.semAt_eq _ _ _ (store_nd hp), h1]
        exact ⟨_, bs, ⟨hr.t.next (Nat.le_refl _) (fun _ _ => rfl) hd (v := .tup []) (.inr (by simp [real, reals, undef])) (by simp [closed, closeds]), hr.h.store h3 ob h2⟩, hk⟩
      · simp at h

/-! ### guards -/
inductive Gd where
  | run
  | test (b want : Bool) (d : Tmp)
  | skip
  | bad
def guardOf (ops : List Oper) (σ : List (Nat × EV)) (g : Option (Nat × Bool)) : Gd :=
  match g with
  | none => .run
  | some (j, want) =>
    match ops[j]? with
    | some oj => match oj.dst with
      | some d => match tget σ d with
        | .bool b => .test b want d
        | .tup _ => .skip
        | _ => .bad
      | none => .bad
    | none => .bad
theorem TRel.same {C : Cx} {ms : List Nat} {n : Nat} {σ : List (Nat × EV)} {bs : Nat → Nat} {a : Act} (h : TRel C ms n σ bs a) {d : Nat} {v : EV} (hg : tget σ d = v) : TRel C ms n ((d, v) :: σ) bs a := by
  refine ⟨h.size, h.defers, h.msin, ?_, ?_⟩
  · intro t ht
    rw [tget_cons] at ht ⊢
    by_cases e : d = t
    · subst e; rw [if_pos rfl] at ht ⊢; rw [← hg] at ht ⊢; exact h.tmps d ht
    · rw [if_neg e] at ht ⊢; exact h.tmps t ht
  · intro t
    rw [tget_cons]
    split
    · rw [← hg]; exact h.cl d
    · exact h.cl t
theorem guardOf_sound {C : Cx} {ms : List Nat} {n : Nat} {σ : List (Nat × EV)} {bs : Nat → Nat} {a : Act} (h : TRel C ms n σ bs a) {ops : List Oper} {o : Oper} :
    (guardOf ops σ o.guard = .run → Region.wanted o (yielded ops.toArray a.tmps) = true) ∧
    (∀ b want d, guardOf ops σ o.guard = .test b want d → Region.wanted o (yielded ops.toArray a.tmps) = (b == want) ∧ tget σ d = .bool b) ∧
    (guardOf ops σ o.guard = .skip → Region.wanted o (yielded ops.toArray a.tmps) = false) := by
  unfold guardOf
  cases hg : o.guard with
  | none => simp [Region.wanted, hg]
  | some jw =>
    obtain ⟨j, want⟩ := jw
    refine ⟨?_, ?_, ?_⟩
    · intro hh
      simp only at hh
      split at hh <;> (try split at hh) <;> (try split at hh) <;> simp at hh
    · intro b want' d hh
      simp only at hh
      split at hh
      · rename_i oj hj
        split at hh
        · rename_i d' hd
          split at hh
          · rename_i b' hb
            simp only [Gd.test.injEq] at hh
            obtain ⟨rfl, rfl, rfl⟩ := hh
            have ht := h.tmps d' (by rw [hb]; simp)
            rw [hb] at ht
            refine ⟨?_, hb⟩
            simp [Region.wanted, hg, yielded, hj, hd, ht, real]
          · simp at hh
          · simp at hh
        · simp at hh
      · simp at hh
    · intro hh
      simp only at hh
      split at hh
      · rename_i oj hj
        split at hh
        · rename_i d' hd
          split at hh
          · simp at hh
          · rename_i vs hb
            have ht := h.tmps d' (by rw [hb]; simp)
            rw [hb] at ht
            simp [Region.wanted, hg, yielded, hj, hd, ht, real]
          · simp at hh
        · simp at hh
      · simp at hh

/-! ### code: what is left, as a list -/
inductive It where
  | c (c : Code)
  | ops (all : List Oper) (k : Nat) (rest : List Oper)
  | blk (id : Nat)
/-- What holds of real states, when the items are still to be done. -/
def contS (C : Cx) (Q : Exit → Act → World → Prop) : List It → Exit → Act → World → Prop
  | [], e, a, w => Q e a w
  | .blk id :: st, .exit id', a, w => if id' = id then contS C Q st .normal a w else contS C Q st (.exit id') a w
  | .blk _ :: st, e, a, w => contS C Q st e a w
  | .c c :: st, .normal, a, w => c.wpIn (fe C) 0 C.P (contS C Q st) a w
  | .c _ :: st, e, a, w => contS C Q st e a w
  | .ops all k rest :: st, .normal, a, w => wpOpsIn (fe C) 0 C.P all.toArray (contS C Q st) (List.range' k rest.length) a w
  | .ops _ _ _ :: st, e, a, w => contS C Q st e a w
/-- The real states that x tells of. -/
def Meets (C : Cx) (Q : Exit → X → Prop) (e : Exit) (a : Act) (w : World) : Prop := ∃ x bs, Rel C x bs a w ∧ Q e x
/-- From whatever real state that x tells of. -/
def GoS (C : Cx) (Q : Exit → X → Prop) (st : List It) (e : Exit) (x : X) : Prop := ∀ bs a w, Rel C x bs a w → contS C (Meets C Q) st e a w
def unw (id : Nat) : List It → Option (List It)
  | [] => none
  | .blk id' :: st => bif Nat.beq id id' then some st else unw id st
  | .c _ :: st => unw id st
  | .ops _ _ _ :: st => unw id st
/-- Each temp that is written is one of the frame's; and the list is the rest of the region's. -/
def allIn (N : Nat) : List Oper → Bool
  | [] => true
  | o :: r => dstIn N o.dst && allIn N r
def codeIn (N : Nat) : Code → Bool
  | .region _ ops _ => allIn N ops.toList
  | .seq a b => codeIn N a && codeIn N b
  | .cond _ a b => codeIn N a && codeIn N b
  | .block _ c => codeIn N c
  | .loop c => codeIn N c
  | _ => true
def stIn (N : Nat) : List It → Prop
  | [] => True
  | .c c :: st => codeIn N c = true ∧ stIn N st
  | .ops all k rest :: st => (allIn N rest = true ∧ ∀ j, rest[j]? = all[k + j]?) ∧ stIn N st
  | .blk _ :: st => stIn N st
/-- What is left, from state x. -/
def Next (C : Cx) (Q : Exit → X → Prop) (st : List It) (x : X) : Prop := stIn C.N st → GoS C Q st .normal x
/-- A function of the program, called; the base may go on. -/
def CallB (C : Cx) (f : FuncId) (args : List EV) (dst : Option Tmp) (x : X) (K : X → Prop) : Prop :=
  Enters C.P f ∧ ∀ bs w, HRel C x.B x.n x.hs bs w → closeds x.n args → Calls C.P f (reals bs args).toArray w (fun e w' => ∃ v n' hs' B' bs', e = .returned (real bs' v) ∧ (∀ i, i < x.n → bs' i = bs i) ∧ x.n ≤ n' ∧ closed n' v ∧ HRel C B' n' hs' bs' w' ∧ K { σ := put x.σ dst v, n := n', hs := hs', B := B', ms := x.ms })
def callS (C : Cx) (Q : Exit → X → Prop) (f : FuncId) (args : List EV) (dst : Option Tmp) (st : List It) (x : X) : Prop :=
  dstIn C.N dst = true → CallV C f args x (fun v n' hs' => Next C Q st { σ := put x.σ dst v, n := n', hs := hs', B := x.B, ms := x.ms }) ∨ CallB C f args dst x (Next C Q st)
def opS (C : Cx) (Q : Exit → X → Prop) (o : Oper) (st : List It) (x : X) : Prop :=
  dstIn C.N o.dst = true → Goes C o x (Next C Q st)
def codeS (C : Cx) (Q : Exit → X → Prop) (c : Code) (st : List It) (x : X) : Prop := Next C Q (.c c :: st) x
def drawS (C : Cx) (Q : Exit → X → Prop) (id : Nat) (ops : List Oper) (st : List It) (x : X) : Prop := Next C Q (.c (.region id ops.toArray true) :: st) x
mutual
def goS (C : Cx) (Q : Exit → X → Prop) : Nat → List It → X → Prop
  | 0, _, _ => False
  | _ + 1, [], x => Q .normal x
  | n + 1, .blk _ :: st, x => goS C Q n st x
  | n + 1, .ops _ _ [] :: st, x => goS C Q n st x
  | n + 1, .ops all k (o :: rest) :: st, x =>
    match guardOf all x.σ o.guard with
    | .run => opG C Q n o (.ops all (k + 1) rest :: st) x
    | .test b want d => testS C Q n b want d o (.ops all (k + 1) rest :: st) x
    | .skip => goS C Q n (.ops all (k + 1) rest :: st) { σ := put x.σ o.dst (.tup []), n := x.n, hs := x.hs, B := x.B, ms := x.ms }
    | .bad => False
  | n + 1, .c c :: st, x =>
    match c with
    | .skip => goS C Q n st x
    | .region _ ops false => goS C Q n (.ops ops.toList 0 ops.toList :: st) x
    | .region id ops true => drawS C Q id ops.toList st x
    | .seq a b => goS C Q n (.c a :: .c b :: st) x
    | .cond c a b => match ev x.σ c with
      | .bool t => condS C Q n t a b st x
      | _ => False
    | .block id c => goS C Q n (.c c :: .blk id :: st) x
    | .exit id => match unw id st with
      | some st' => goS C Q n st' x
      | none => Q (.exit id) x
    | .ret => Q .ret x
    | c => codeS C Q c st x
def condS (C : Cx) (Q : Exit → X → Prop) : Nat → Bool → Code → Code → List It → X → Prop
  | 0, _, _, _, _, _ => False
  | n + 1, t, a, b, st, x => (t = true → goS C Q n (.c a :: st) x) ∧ (t = false → goS C Q n (.c b :: st) x)
def opG (C : Cx) (Q : Exit → X → Prop) : Nat → Oper → List It → X → Prop
  | 0, _, _, _ => False
  | n + 1, o, st, x =>
    match stepO C o x with
    | some (x', c) => c ∧ goS C Q n st x'
    | none =>
      match o.op with
      | .call { callee := .value (.func f), args, .. } => noAny (args.toList.map (ev x.σ)) = true ∧ callS C Q f (args.toList.map (ev x.σ)) o.dst st x
      | .call { callee := .value (.tmp t), args, .. } =>
        match tget x.σ t with
        | .fn (.func f) first cap => noAny (args.toList.map (ev x.σ)) = true ∧ callS C Q f (first ++ args.toList.map (ev x.σ) ++ cap) o.dst st x
        | _ => opS C Q o st x
      | _ => opS C Q o st x
def testS (C : Cx) (Q : Exit → X → Prop) : Nat → Bool → Bool → Tmp → Oper → List It → X → Prop
  | 0, _, _, _, _, _, _ => False
  | n + 1, b, want, d, o, st, x =>
    (b = want → opG C Q n o st { σ := (d, .bool want) :: x.σ, n := x.n, hs := x.hs, B := x.B, ms := x.ms }) ∧ (b = !want → goS C Q n st { σ := put ((d, .bool (!want)) :: x.σ) o.dst (.tup []), n := x.n, hs := x.hs, B := x.B, ms := x.ms })
end
theorem goes_call {C : Cx} {o : Oper} {x : X} {K : X → Prop} {f : FuncId} {args : List EV}
    (hnd : ∀ c, o.op ≠ .defer c) (hrun : ∀ bs a w, Rel C x bs a w → (execOp a.eval o).run C.P w = (callFunc f (reals bs args).toArray).run C.P w ∧ closeds x.n args)
    (hd : dstIn C.N o.dst = true) (h : CallV C f args x (fun v n' hs' => K { σ := put x.σ o.dst v, n := n', hs := hs', B := x.B, ms := x.ms })) : Goes C o x K := by
  intro bs a w hr Q
  obtain ⟨h1, h2⟩ := hrun bs a w hr
  refine ⟨fun _ _ => trivial, ?_⟩
  rw [Oper.semAt_eq _ _ _ hnd, h1]
  rcases h with ⟨hE, h⟩ | ⟨v, hcl, hv, hk⟩
  · rw [hE]
    simp only [Oper.uponIn]
    refine ⟨by simp [fe, Fence.wide], calls_fe.2 ((h bs w hr.h h2).mono ?_)⟩
    rintro e w' ⟨v, n', hs', bs', rfl, hb, hn, hcl, hh, hk⟩
    exact ⟨_, bs', ⟨hr.t.next hn hb hd (.inr rfl) hcl, hh⟩, hk⟩
  · rw [hv bs w]
    exact ⟨⟨put x.σ o.dst v, x.n, x.hs, x.B, x.ms⟩, bs, ⟨hr.t.next (Nat.le_refl _) (fun _ _ => rfl) hd (.inr rfl) hcl, hr.h⟩, hk⟩
theorem goes_callB {C : Cx} {o : Oper} {x : X} {K : X → Prop} {f : FuncId} {args : List EV}
    (hnd : ∀ c, o.op ≠ .defer c) (hrun : ∀ bs a w, Rel C x bs a w → (execOp a.eval o).run C.P w = (callFunc f (reals bs args).toArray).run C.P w ∧ closeds x.n args)
    (hd : dstIn C.N o.dst = true) (h : CallB C f args o.dst x K) : Goes C o x K := by
  intro bs a w hr Q
  obtain ⟨h1, h2⟩ := hrun bs a w hr
  refine ⟨fun _ _ => trivial, ?_⟩
  rw [Oper.semAt_eq _ _ _ hnd, h1]
  obtain ⟨hE, h⟩ := h
  rw [hE]
  simp only [Oper.uponIn]
  refine ⟨by simp [fe, Fence.wide], calls_fe.2 ((h bs w hr.h h2).mono ?_)⟩
  rintro e w' ⟨v, n', hs', B', bs', rfl, hb, hn, hcl, hh, hk⟩
  exact ⟨_, bs', ⟨hr.t.next hn hb hd (.inr rfl) hcl, hh⟩, hk⟩
theorem goes_callS {C : Cx} {Q : Exit → X → Prop} {o : Oper} {x : X} {st : List It} {f : FuncId} {args : List EV}
    (hnd : ∀ c, o.op ≠ .defer c) (hrun : ∀ bs a w, Rel C x bs a w → (execOp a.eval o).run C.P w = (callFunc f (reals bs args).toArray).run C.P w ∧ closeds x.n args)
    (hd : dstIn C.N o.dst = true) (h : callS C Q f args o.dst st x) : Goes C o x (Next C Q st) := by
  rcases h hd with h | h
  · exact goes_call hnd hrun hd h
  · exact goes_callB hnd hrun hd h
theorem goes_mono {C : Cx} {o : Oper} {x : X} {K K' : X → Prop} (h : Goes C o x K) (hk : ∀ x, K x → K' x) : Goes C o x K' :=
  fun bs a w hr Q => Oper.wpIn_mono (fun a' w' ⟨x', bs', hr', h⟩ => ⟨x', bs', hr', hk x' h⟩) (h bs a w hr Q)
theorem unw_sound {C : Cx} {Q : Exit → Act → World → Prop} {id : Nat} {a : Act} {w : World} : ∀ (st : List It), (match unw id st with
    | some st' => contS C Q st' .normal a w
    | none => Q (.exit id) a w) → contS C Q st (.exit id) a w
  | [], h => h
  | .blk id' :: st, h => by
    simp only [unw] at h
    by_cases e : id = id'
    · subst e
      simp only [Nat.beq_refl, cond_true] at h
      simpa [contS] using h
    · have hb : Nat.beq id id' = false := by
        cases hb : Nat.beq id id' with
        | false => rfl
        | true => exact absurd (Nat.eq_of_beq_eq_true hb) e
      simp only [hb, cond_false] at h
      simp only [contS, if_neg e]
      exact unw_sound st h
  | .c _ :: st, h => by simp only [contS]; exact unw_sound st h
  | .ops _ _ _ :: st, h => by simp only [contS]; exact unw_sound st h
theorem unw_in {N : Nat} {id : Nat} : ∀ (st st' : List It), unw id st = some st' → stIn N st → stIn N st'
  | [], st', h, _ => by simp [unw] at h
  | .blk id' :: st, st', h, hi => by
    simp only [unw] at h
    cases hb : Nat.beq id id' with
    | true => simp only [hb, cond_true, Option.some.injEq] at h; subst h; exact hi
    | false => simp only [hb, cond_false] at h; exact unw_in st st' h hi
  | .c _ :: st, st', h, hi => unw_in st st' (by simpa [unw] using h) hi.2
  | .ops _ _ _ :: st, st', h, hi => unw_in st st' (by simpa [unw] using h) hi.2
theorem contS_seq (C : Cx) (Q : Exit → Act → World → Prop) (b : Code) (st : List It) : contS C Q (.c b :: st) = Exit.then (b.wpIn (fe C) 0 C.P (contS C Q st)) (contS C Q st) := by
  funext e a w; cases e <;> rfl
theorem contS_blk (C : Cx) (Q : Exit → Act → World → Prop) (id : Nat) (st : List It) : contS C Q (.blk id :: st) = Exit.inBlock id (contS C Q st) := by
  funext e a w; cases e <;> rfl
/-- Operation o, from there on. -/
def GoO (C : Cx) (Q : Exit → X → Prop) (o : Oper) (st : List It) (x : X) : Prop := dstIn C.N o.dst = true → stIn C.N st → Goes C o x (GoS C Q st .normal)
theorem goS_sound_all {C : Cx} {Q : Exit → X → Prop} (n : Nat) :
    (∀ (st : List It) (x : X), goS C Q n st x → stIn C.N st → GoS C Q st .normal x) ∧
    (∀ (t : Bool) (a b : Code) (st : List It) (x : X), condS C Q n t a b st x → codeIn C.N a = true → codeIn C.N b = true → stIn C.N st → (t = true → GoS C Q (.c a :: st) .normal x) ∧ (t = false → GoS C Q (.c b :: st) .normal x)) ∧
    (∀ (o : Oper) (st : List It) (x : X), opG C Q n o st x → GoO C Q o st x) ∧
    (∀ (b want : Bool) (d : Tmp) (o : Oper) (st : List It) (x : X), testS C Q n b want d o st x →
      (b = want → GoO C Q o st { σ := (d, .bool want) :: x.σ, n := x.n, hs := x.hs, B := x.B, ms := x.ms }) ∧ (b = !want → stIn C.N st → GoS C Q st .normal { σ := put ((d, .bool (!want)) :: x.σ) o.dst (.tup []), n := x.n, hs := x.hs, B := x.B, ms := x.ms })) := by
  induction n with
  | zero => exact ⟨fun st x h => by cases st <;> simp [goS] at h, fun t a b st x h => by simp [condS] at h, fun o st x h => by simp [opG] at h, fun b want d o st x h => by simp [testS] at h⟩
  | succ n ih =>
    obtain ⟨ih1, ih2, ih3, ih4⟩ := ih
    refine ⟨?_, ?_, ?_, ?_⟩
    · intro st x h hi
      match st, h, hi with
      | [], h, hi => exact fun bs a w hr => ⟨x, bs, hr, by simpa [goS] using h⟩
      | .blk id :: st, h, hi => exact fun bs a w hr => ih1 st x (by simpa [goS] using h) hi bs a w hr
      | .ops all k [] :: st, h, hi =>
        intro bs a w hr
        simp only [contS, List.length_nil, List.range'_zero, wpOpsIn]
        exact ih1 st x (by simpa [goS] using h) hi.2 bs a w hr
      | .ops all k (o :: rest) :: st, h, hi =>
        intro bs a w hr
        obtain ⟨⟨hin, hl⟩, hst⟩ := hi
        have h0 : all.toArray[k]? = some o := by
          have := hl 0; simp at this; simp [← this]
        simp only [allIn, Bool.and_eq_true] at hin
        have hin' : stIn C.N (.ops all (k + 1) rest :: st) := ⟨⟨hin.2, fun j => by have := hl (j + 1); simp at this; rw [this]; congr 1; omega⟩, hst⟩
        simp only [contS, List.length_cons, List.range'_succ, wpOpsIn, h0]
        obtain ⟨g1, g2, g5⟩ := guardOf_sound hr.t (ops := all) (o := o)
        simp only [goS] at h
        cases hg : guardOf all x.σ o.guard with
        | run =>
          simp only [hg] at h
          rw [if_pos (g1 hg)]
          exact Oper.wpIn_mono (fun a' w' ⟨x', bs', hr', hk⟩ => hk bs' a' w' hr') (ih3 o _ x h hin.1 hin' bs a w hr _)
        | test b want d =>
          simp only [hg] at h
          obtain ⟨g3, g4⟩ := g2 b want d hg
          obtain ⟨t1, t2⟩ := ih4 b want d o _ x h
          rw [g3]
          by_cases e : b = want
          · subst e
            rw [if_pos (by simp)]
            exact Oper.wpIn_mono (fun a' w' ⟨x', bs', hr', hk⟩ => hk bs' a' w' hr') (t1 rfl hin.1 hin' bs a w ⟨hr.t.same g4, hr.h⟩ _)
          · rw [if_neg (by simpa using e)]
            have e' : b = !want := by cases b <;> cases want <;> simp_all
            have ht := (hr.t.same g4)
            rw [e'] at ht
            exact ⟨fun _ _ => trivial, t2 e' hin' bs _ w ⟨ht.next (Nat.le_refl _) (fun _ _ => rfl) hin.1 (v := .tup []) (.inr (by simp [real, reals, undef])) (by simp [closed, closeds]), hr.h⟩⟩
        | skip =>
          simp only [hg] at h
          rw [g5 hg, if_neg (by simp)]
          exact ⟨fun _ _ => trivial, ih1 _ _ h hin' bs _ w ⟨hr.t.next (Nat.le_refl _) (fun _ _ => rfl) hin.1 (v := .tup []) (.inr (by simp [real, reals, undef])) (by simp [closed, closeds]), hr.h⟩⟩
        | bad => simp only [hg] at h
      | .c c :: st, h, hi =>
        obtain ⟨hin, hst⟩ := hi
        intro bs a w hr
        cases c with
        | skip => exact wpIn_skip (ih1 st x (by simpa [goS] using h) hst bs a w hr)
        | region id ops draw =>
          cases draw with
          | false =>
            simp only [goS] at h
            have := ih1 (.ops ops.toList 0 ops.toList :: st) x h ⟨⟨hin, by simp⟩, hst⟩ bs a w hr
            simp only [contS] at this ⊢
            exact wpIn_region (by simpa [List.range_eq_range'] using this)
          | true =>
            simp only [goS] at h
            have := h ⟨by simpa [codeIn] using hin, hst⟩ bs a w hr
            simpa using this
        | seq c1 c2 =>
          simp only [codeIn, Bool.and_eq_true] at hin
          have := ih1 (.c c1 :: .c c2 :: st) x (by simpa [goS] using h) ⟨hin.1, hin.2, hst⟩ bs a w hr
          simp only [contS] at this ⊢
          exact wpIn_seq (by rw [← contS_seq]; exact this)
        | cond c c1 c2 =>
          simp only [codeIn, Bool.and_eq_true] at hin
          simp only [goS] at h
          split at h
          · rename_i t ht
            have hc := eval_ev hr.t c (by rw [ht]; simp)
            rw [ht] at hc
            obtain ⟨t1, t2⟩ := ih2 t c1 c2 st x h hin.1 hin.2 hst
            exact wpIn_cond_split hc (fun e => t1 e bs a w hr) (fun e => t2 e bs a w hr)
          · exact h.elim
        | block id c =>
          have := ih1 (.c c :: .blk id :: st) x (by simpa [goS] using h) ⟨hin, hst⟩ bs a w hr
          simp only [contS] at this ⊢
          exact wpIn_block (by rw [← contS_blk]; exact this)
        | exit id =>
          simp only [goS] at h
          simp only [contS]
          refine wpIn_exit (unw_sound st ?_)
          split at h
          · rename_i st' hu
            exact ih1 st' x h (unw_in st st' hu hst) bs a w hr
          · rename_i hu
            exact ⟨x, bs, hr, h⟩
        | ret =>
          simp only [goS] at h
          simp only [contS]
          refine wpIn_ret ?_
          have : ∀ (st : List It), contS C (Meets C Q) st .ret a w := by
            intro st
            induction st with
            | nil => exact ⟨x, bs, hr, h⟩
            | cons it st ih => cases it <;> simpa [contS] using ih
          exact this st
        | loop c => exact h ⟨hin, hst⟩ bs a w hr
        | rangeFunc f p as b => exact h ⟨hin, hst⟩ bs a w hr
        | scope c => exact h ⟨hin, hst⟩ bs a w hr
        | label l => exact h ⟨hin, hst⟩ bs a w hr
        | goto l => exact h ⟨hin, hst⟩ bs a w hr
        | refuse y => exact h ⟨hin, hst⟩ bs a w hr
    · intro t a b st x h ha hb hst
      simp only [condS] at h
      exact ⟨fun e => ih1 _ x (h.1 e) ⟨ha, hst⟩, fun e => ih1 _ x (h.2 e) ⟨hb, hst⟩⟩
    · intro o st x h hd hst
      simp only [opG] at h
      split at h
      · rename_i x' c hs
        exact stepO_sound hd hs h.1 (ih1 st x' h.2 hst)
      · obtain ⟨dst, op, type, pos, after, guard⟩ := o
        simp only at h hd
        split at h
        · rename_i f args _ _
          obtain ⟨h1, h3⟩ := h
          refine goes_mono (goes_callS (by intro c; simp) (fun bs a w hr => ?_) hd h3) (fun x hx => hx hst)
          have e := evals_eq hr.t args.toList h1
          have e2 : args.map a.eval = (reals bs (args.toList.map (ev x.σ))).toArray := by apply Array.ext'; simpa using e
          exact ⟨by simp [execOp, resolve, Act.eval, Deferred.ofValue, invoke, e2], closeds_evs hr.t _⟩
        · rename_i t args _ _
          split at h
          · rename_i f first cap hg
            obtain ⟨h1, h3⟩ := h
            refine goes_mono (goes_callS (by intro c; simp) (fun bs a w hr => ?_) hd h3) (fun x hx => hx hst)
            have e := evals_eq hr.t args.toList h1
            have e2 : args.map a.eval = (reals bs (args.toList.map (ev x.σ))).toArray := by apply Array.ext'; simpa using e
            have ef := eval_ev hr.t (.tmp t) (by simp [ev, hg])
            simp only [ev, hg] at ef
            have hcl := hr.t.cl t
            rw [hg] at hcl
            simp only [closed] at hcl
            refine ⟨?_, ?_⟩
            · simp [execOp, resolve, ef, real, Deferred.ofValue, invoke, e2, reals_eq]
            · rw [closeds_iff]
              intro v hv
              simp only [List.mem_append] at hv
              rcases hv with (hv | hv) | hv
              · exact closeds_mem hcl.1 hv
              · exact closeds_mem (closeds_evs hr.t _) hv
              · exact closeds_mem hcl.2 hv
          · exact goes_mono (h hd) (fun x hx => hx hst)
        · exact goes_mono (h hd) (fun x hx => hx hst)
    · intro b want d o st x h
      simp only [testS] at h
      exact ⟨fun e => ih3 o st _ (h.1 e), fun e hst => ih1 st _ (h.2 e) hst⟩
theorem goS_sound {C : Cx} {Q : Exit → X → Prop} {n : Nat} {st : List It} {x : X} (h : goS C Q n st x) (hi : stIn C.N st) : GoS C Q st .normal x := (goS_sound_all n).1 st x h hi
theorem next_of {C : Cx} {Q : Exit → X → Prop} {st : List It} {x : X} (n : Nat) (h : goS C Q n st x) : Next C Q st x := goS_sound h
end Go.Ew
