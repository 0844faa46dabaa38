/- Part of a proof over the seat Ytncjbfkkgdepoaa. -/
import Derived.WalkKit
import Derived.ChangeKeysEq
import Derived.Laws.StructEq
import Derived.RangeFuncRecord
import Derived.OrdersIn
import Derived.LoopNIn
import Derived.Laws.Externs
set_option linter.unusedSimpArgs false
set_option linter.unusedVariables false
set_option maxRecDepth 100000
namespace Go.Ew
open Go

/-- Values with the call's own blocks by name. -/
inductive EV where
 | any
 | int (k : IntKind) (n : Int)
 | bool (b : Bool)
 | str (s : ByteArray)
 | ptr (i off : Nat)
 | sl (i off len cap : Nat)
 | mp (i : Nat)
 | fn (f : Fn) (first captured : List EV)
 | agg (cs : List EV)
 | tup (vs : List EV)
 | ifc (t : TypeId) (v : EV)
 | raw (v : Value)
 deriving Inhabited

mutual
def real (bs : Nat → Nat) : EV → Value
 | .any => undef
 | .int k n => .int k n
 | .bool b => .bool b
 | .str s => .string s
 | .ptr i off => .pointer (some ⟨bs i, off, none⟩)
 | .sl i off len cap => .slice (some ⟨bs i, off, none⟩) len cap
 | .mp i => .map (some (bs i))
 | .fn f a b => .func f (A8 bs a).toArray (A8 bs b).toArray
 | .agg cs => .agg (A8 bs cs).toArray
 | .tup vs => .tuple (A8 bs vs).toArray
 | .ifc t v => .iface t (real bs v)
 | .raw v => v
def A8 (bs : Nat → Nat) : List EV → List Value
 | [] => []
 | v :: vs => real bs v :: A8 bs vs
end
mutual
def closed (n : Nat) : EV → Prop
 | .ptr i _ => i < n
 | .sl i _ _ _ => i < n
 | .mp i => i < n
 | .fn _ a b => A0 n a ∧ A0 n b
 | .agg cs => A0 n cs
 | .tup vs => A0 n vs
 | .ifc _ v => closed n v
 | _ => True
def A0 (n : Nat) : List EV → Prop
 | [] => True
 | v :: vs => closed n v ∧ A0 n vs
end
theorem A9 (bs : Nat → Nat) (l : List EV) : A8 bs l = l.map (real bs) := by
 induction l with
 | nil => simp [A8]
 | cons v vs ih => simp [A8, ih]

theorem D8 (n : Nat) (l : List EV) : A0 n l ↔ ∀ v ∈ l, closed n v := by
 induction l with
 | nil => simp [A0]
 | cons v vs ih => simp [A0, ih]

mutual
theorem real_congr {n : Nat} {bs bs' : Nat → Nat} (h : ∀ i, i < n → bs' i = bs i) : ∀ v, closed n v → real bs' v = real bs v
 | .any, _ => by simp [real]
 | .int _ _, _ => by simp [real]
 | .bool _, _ => by simp [real]
 | .str _, _ => by simp [real]
 | .ptr i _, hc => by simp only [closed] at hc; simp [real, h i hc]
 | .sl i _ _ _, hc => by simp only [closed] at hc; simp [real, h i hc]
 | .mp i, hc => by simp only [closed] at hc; simp [real, h i hc]
 | .fn _ a b, hc => by simp only [closed] at hc; simp [real, J6 h a hc.1, J6 h b hc.2]
 | .agg cs, hc => by simp only [closed] at hc; simp [real, J6 h cs hc]
 | .tup vs, hc => by simp only [closed] at hc; simp [real, J6 h vs hc]
 | .ifc _ v, hc => by simp only [closed] at hc; simp [real, real_congr h v hc]
 | .raw _, _ => by simp [real]
theorem J6 {n : Nat} {bs bs' : Nat → Nat} (h : ∀ i, i < n → bs' i = bs i) : ∀ l, A0 n l → A8 bs' l = A8 bs l
 | [], _ => by simp [A8]
 | v :: vs, hc => by simp only [A0] at hc; simp [A8, real_congr h v hc.1, J6 h vs hc.2]
end
mutual
theorem closed_mono {n m : Nat} (h : n ≤ m) : ∀ v, closed n v → closed m v
 | .any, _ => by simp [closed]
 | .int _ _, _ => by simp [closed]
 | .bool _, _ => by simp [closed]
 | .str _, _ => by simp [closed]
 | .ptr i _, hc => by simp only [closed] at hc ⊢; omega
 | .sl i _ _ _, hc => by simp only [closed] at hc ⊢; omega
 | .mp i, hc => by simp only [closed] at hc ⊢; omega
 | .fn _ a b, hc => by simp only [closed] at hc ⊢; exact ⟨D7 h a hc.1, D7 h b hc.2⟩
 | .agg cs, hc => by simp only [closed] at hc ⊢; exact D7 h cs hc
 | .tup vs, hc => by simp only [closed] at hc ⊢; exact D7 h vs hc
 | .ifc _ v, hc => by simp only [closed] at hc ⊢; exact closed_mono h v hc
 | .raw _, _ => by simp [closed]
theorem D7 {n m : Nat} (h : n ≤ m) : ∀ l, A0 n l → A0 m l
 | [], _ => by simp [A0]
 | v :: vs, hc => by simp only [A0] at hc ⊢; exact ⟨closed_mono h v hc.1, D7 h vs hc.2⟩
end
/-- A constant. -/
def C9 : Value → EV
 | .int k n => .int k n
 | .bool b => .bool b
 | .string s => .str s
 | v => .raw v
def ofValue : Value → EV
 | .agg cs => .agg (cs.toList.map C9)
 | .tuple vs => .tup (vs.toList.map C9)
 | v => C9 v

theorem J0 (bs : Nat → Nat) (v : Value) : real bs (C9 v) = v := by cases v <;> simp [C9, real]
theorem I7 (n : Nat) (v : Value) : closed n (C9 v) := by cases v <;> simp [C9, closed]
theorem V4 (bs : Nat → Nat) (l : List Value) : A8 bs (l.map C9) = l := by
 rw [A9, List.map_map]; conv => rhs; rw [← List.map_id l]
 exact List.map_congr_left fun v _ => J0 bs v
theorem S6 (n : Nat) (l : List Value) : A0 n (l.map C9) := by
 rw [D8]; intro v hv; obtain ⟨u, _, rfl⟩ := List.mem_map.1 hv; exact I7 n u
theorem Aw0 (bs : Nat → Nat) (v : Value) : real bs (ofValue v) = v := by
 cases v <;> simp [ofValue, J0, real, V4]
theorem Am4 (n : Nat) (v : Value) : closed n (ofValue v) := by
 cases v <;> simp only [ofValue, closed] <;> first | exact I7 n _ | exact S6 n _

/-- The cells of a value. -/
def EV.cells : EV → List EV
 | .agg cs => cs
 | v => [v]
/-- A value that fits one cell. -/
def EV.one : EV → Bool
 | .agg _ | .tup _ | .any => false
 | .raw v => v.oneCell'
 | _ => true

theorem Ac9 (bs : Nat → Nat) (v : EV) (h : ∀ u, v ≠ .raw u) : (real bs v).cells = (A8 bs v.cells).toArray := by
 cases v <;> first | exact absurd rfl (h _) | simp [real, EV.cells, Value.cells, A8, undef]
theorem U2 {n : Nat} {v : EV} (h : closed n v) : A0 n v.cells := by
 cases v <;> simp_all [EV.cells, closed, A0]
theorem Ar0 {bs : Nat → Nat} {v : EV} (h : v.one = true) : (real bs v).oneCell' = true := by
 cases v <;> simp_all [EV.one, real, Value.oneCell']

/-- A block. -/
inductive EObj where
 | cells (cs : List EV) (T : TypeId) (fr : Nat × Nat)
 | obj (o : Obj)
def EObj.real (bs : Nat → Nat) : EObj → Obj
 | .cells cs T fr => .cells (A8 bs cs).toArray T fr
 | .obj o => o
def EObj.closed (n : Nat) : EObj → Prop
 | .cells cs _ _ => A0 n cs
 | .obj _ => True

def G2 : List (Nat × EV) → Nat → EV
 | [], _ => .any
 | (t', v) :: r, t => bif t' == t then v else G2 r t
def hget : List (Nat × Option EObj) → Nat → Option EObj
 | [], _ => none
 | (i', o) :: r, i => bif i' == i then o else hget r i

/-- The world that was there, and the blocks of it that stay. -/
structure Base where
 w : World
 D : Nat → Prop
/-- An abstract state: temps, own blocks, the base; the Am1 of the range loops that were entered. -/
structure X where
 σ : List (Nat × EV)
 n : Nat
 hs : List (Nat × Option EObj)
 B : Base
 ms : List Nat

/-- What stays through a walk: the program, the number of temps, the round it is in, the blocks that have a name from the start. -/
structure Cx where
 P : Program
 N : Nat
 rd : Option Nat
 olds : List Nat
 e : World
 E : Nat → Prop
def Am1 (bs : Nat → Nat) (ms : List Nat) : List Deferred := ms.map fun i => { target := .collected (bs i), args := #[] }

structure TRel (C : Cx) (ms : List Nat) (n : Nat) (σ : List (Nat × EV)) (bs : Nat → Nat) (a : Act) : Prop where
 size : a.tmps.size = C.N
 defers : a.defers = Am1 bs ms
 msin : ∀ i ∈ ms, i < n
 tmps : ∀ t, G2 σ t ≠ .any → a.tmps[t]? = some (real bs (G2 σ t))
 cl : ∀ t, closed n (G2 σ t)

structure HRel (C : Cx) (B : Base) (n : Nat) (hs : List (Nat × Option EObj)) (bs : Nat → Nat) (w : World) : Prop where
 live : ∀ i o, hget hs i = some o → i < n ∧ w.heap[bs i]? = some (o.real bs)
 cl : ∀ i o, hget hs i = some o → o.closed n
 inj : ∀ i j oi oj, hget hs i = some oi → hget hs j = some oj → bs i = bs j → i = j
 old : ∀ i b, C.olds[i]? = some b → bs i = b ∧ i < n
 new : ∀ i o, hget hs i = some o → ¬ B.D (bs i)
 frame : ∀ k, B.D k → k < w.heap.size ∧ w.heap[k]? = B.w.heap[k]?
 os : w.os = B.w.os
 tape : w.tape = B.w.tape
 output : w.output = B.w.output
 hsize : B.w.heap.size ≤ w.heap.size
 newE : ∀ i o, hget hs i = some o → ¬ C.E (bs i)
 frameE : ∀ k, C.E k → k < w.heap.size ∧ w.heap[k]? = C.e.heap[k]?
 apart : ∀ k, C.E k → ¬ B.D k
 eo : C.e.heap.size ≤ w.heap.size ∧ w.os = C.e.os ∧ w.tape = C.e.tape ∧ w.output = C.e.output

structure Rel (C : Cx) (x : X) (bs : Nat → Nat) (a : Act) (w : World) : Prop where
 t : TRel C x.ms x.n x.σ bs a
 h : HRel C x.B x.n x.hs bs w
theorem Z1 {n : Nat} {bs bs' : Nat → Nat} {ms : List Nat} (h : ∀ i, i < n → bs' i = bs i) (hm : ∀ i ∈ ms, i < n) : Am1 bs' ms = Am1 bs ms :=
 List.map_congr_left fun i hi => by rw [h i (hm i hi)]

def ev (σ : List (Nat × EV)) : Operand → EV
 | .tmp t => G2 σ t
 | .const v => ofValue v
 | .global g => .raw (.pointer (some ⟨g, 0, none⟩))
 | .func f => .fn (.func f) [] []

def EV.isAny : EV → Bool
 | .any => true
 | _ => false

theorem D0 {C : Cx} {ms : List Nat} {n : Nat} {σ : List (Nat × EV)} {bs : Nat → Nat} {a : Act} (h : TRel C ms n σ bs a) (o : Operand) (ho : ev σ o ≠ .any) : a.eval o = real bs (ev σ o) := by
 cases o with
 | tmp t => simp only [ev] at ho ⊢; simp [Act.eval, h.tmps t ho, Array.getD_eq_getD_getElem?]
 | const v => simp [Act.eval, ev, Aw0]
 | global g => simp [Act.eval, ev, real]
 | func f => simp [Act.eval, ev, real, A8]
theorem F8 {C : Cx} {ms : List Nat} {n : Nat} {σ : List (Nat × EV)} {bs : Nat → Nat} {a : Act} (h : TRel C ms n σ bs a) (o : Operand) : closed n (ev σ o) := by
 cases o with
 | tmp t => exact h.cl t
 | const v => exact Am4 n v
 | global g => simp [ev, closed]
 | func f => simp [ev, closed, A0]

end Go.Ew
namespace Go.Ew
open Go

theorem run_underlying (P : Program) (w : World) (t : TypeId) (d : TypeDesc) (h : P.underlying t = some d) : (underlying t).run P w = .ok d w := by
 simp [underlying, h]
theorem Q8 {P : Program} {t : TypeId} {d : TypeDesc} (h : P.underlying t = some d) : ∃ i, P.info? t = some i := by
 unfold Program.underlying at h
 cases hi : P.info? t with
 | none => simp [hi] at h
 | some i => exact ⟨i, rfl⟩
theorem F0 (P : Program) (w : World) (t : TypeId) (d : TypeDesc) (h : P.underlying t = some d) : (sizeOf t).run P w = .ok (P.cellsOf t) w := by
 obtain ⟨i, hi⟩ := Q8 h
 simp [sizeOf, typeInfo, hi, Program.cellsOf]
/-- A type whose values take cells of their own. -/
def Bn3 (P : Program) (T : TypeId) : Option Bool :=
 match P.underlying T with
 | some (.struct _) => some true
 | some (.array _ _) => some true
 | some _ => some false
 | none => none
theorem N7 (P : Program) (w : World) (t : TypeId) (b : Bool) (h : Bn3 P t = some b) : (isAgg t).run P w = .ok b w := by
 unfold Bn3 at h
 cases hu : P.underlying t with
 | none => simp [hu] at h
 | some d => cases d <;> simp [hu] at h <;> subst h <;> simp [isAgg, run_underlying _ _ _ _ hu]
theorem T1 {P : Program} {t : TypeId} {b : Bool} (h : Bn3 P t = some b) : ∃ d, P.underlying t = some d := by
 unfold Bn3 at h
 cases hu : P.underlying t with
 | none => simp [hu] at h
 | some d => exact ⟨d, rfl⟩

/-- Bits, shifts. -/
def Bj3 (k : IntKind) (a b : Int) : Int := k.wrap (BitVec.ofInt k.bits a &&& BitVec.ofInt k.bits b).toNat
def bOr (k : IntKind) (a b : Int) : Int := k.wrap (BitVec.ofInt k.bits a ||| BitVec.ofInt k.bits b).toNat
def By0 (k : IntKind) (a b : Int) : Int := k.wrap (BitVec.ofInt k.bits a ^^^ BitVec.ofInt k.bits b).toNat
def Bx1 (k : IntKind) (a b : Int) : Int := k.wrap (BitVec.ofInt k.bits a &&& ~~~ BitVec.ofInt k.bits b).toNat
def Bw9 (k : IntKind) (a b : Int) : Int := k.wrap (a * 2 ^ (min b.toNat k.bits))
def Cg4 (k : IntKind) (a b : Int) : Int := a.fdiv (2 ^ (min b.toNat k.bits))
/-- Two numbers of one kind. -/
def Bx2 (op : BinOp) (k : IntKind) (a b : Int) : Option (EV × Prop) :=
 match op with
 | .add => some (.int k (k.wrap (a + b)), True)
 | .sub => some (.int k (k.wrap (a - b)), True)
 | .mul => some (.int k (k.wrap (a * b)), True)
 | .quo => some (.int k (k.wrap (a.tdiv b)), b ≠ 0)
 | .rem => some (.int k (a.tmod b), b ≠ 0)
 | .and => some (.int k (Bj3 k a b), True)
 | .or => some (.int k (bOr k a b), True)
 | .xor => some (.int k (By0 k a b), True)
 | .andNot => some (.int k (Bx1 k a b), True)
 | .eql => some (.bool (a == b), True)
 | .neq => some (.bool (a != b), True)
 | .lss => some (.bool (decide (a < b)), True)
 | .leq => some (.bool (decide (a ≤ b)), True)
 | .gtr => some (.bool (decide (a > b)), True)
 | .geq => some (.bool (decide (a ≥ b)), True)
 | _ => none
def Y7 (op : BinOp) (k : IntKind) (a b : Int) : Option (EV × Prop) :=
 match op with
 | .shl => some (.int k (Bw9 k a b), 0 ≤ b)
 | .shr => some (.int k (Cg4 k a b), 0 ≤ b)
 | _ => none
def Bo6 (op : BinOp) (a b : ByteArray) : Option (EV × Prop) :=
 match op with
 | .add => some (.str (a ++ b), ((a.size + b.size : Nat) : Int) ≤ IntKind.i64.max)
 | .eql => some (.bool (a.toList == b.toList), True)
 | .neq => some (.bool (!(a.toList == b.toList)), True)
 | .lss => some (.bool (Op.bytesLess a.toList b.toList), True)
 | .geq => some (.bool (!(Op.bytesLess a.toList b.toList)), True)
 | _ => none
/-- The numbers of an array of numbers. -/
def EV.isInt (k : IntKind) : EV → Bool
 | .int k' _ => k' == k
 | _ => false
def EV.num : EV → Int
 | .int _ n => n
 | _ => 0
/-- Arrays of numbers, compared. -/
def Bx4 (P : Program) (T : TypeId) (xs ys : List EV) : Option (Bool × Prop) :=
 match P.underlying T with
 | some (.array len e) =>
  match P.underlying e with
  | some (.int k) => some (xs.map EV.num == ys.map EV.num, xs.length = len ∧ ys.length = len ∧ P.cellsOf e = 1 ∧ (xs.all (EV.isInt k) && ys.all (EV.isInt k)) = true)
  | _ => none
 | _ => none
def Cm3 : Value → Bool
 | .slice none _ _ => true
 | _ => false
def Al1 (P : Program) (op : BinOp) (T : TypeId) (x y : EV) : Option (EV × Prop) :=
 match x, y with
 | .int k a, .int k' b =>
  match op with
  | .shl => Y7 .shl k a b
  | .shr => Y7 .shr k a b
  | op => match Bx2 op k a b with
   | some (v, c) => some (v, (k == k') = true ∧ c)
   | none => none
 | .bool a, .bool b =>
  match op with
  | .eql => some (.bool (a == b), P.underlying T = some .bool)
  | .neq => some (.bool (!(a == b)), P.underlying T = some .bool)
  | _ => none
 | .str a, .str b => Bo6 op a b
 | .agg xs, .agg ys =>
  match op with
  | .eql => match Bx4 P T xs ys with
   | some (b, c) => some (.bool b, c)
   | none => none
  | .neq => match Bx4 P T xs ys with
   | some (b, c) => some (.bool (!b), c)
   | none => none
  | _ => none
 | .sl _ _ _ _, .raw v =>
  match op, v with
  | .eql, .slice none _ _ => some (.bool false, ∃ e, P.underlying T = some (.slice e))
  | .neq, .slice none _ _ => some (.bool true, ∃ e, P.underlying T = some (.slice e))
  | _, _ => none
 | .ptr _ _, .raw v =>
  match op, v with
  | .eql, .pointer none => some (.bool false, ∃ e, P.underlying T = some (.pointer e))
  | .neq, .pointer none => some (.bool true, ∃ e, P.underlying T = some (.pointer e))
  | _, _ => none
 | .raw (.slice a _ _), .raw v =>
  match op, v with
  | .eql, .slice none _ _ => some (.bool a.isNone, ∃ e, P.underlying T = some (.slice e))
  | .neq, .slice none _ _ => some (.bool (!a.isNone), ∃ e, P.underlying T = some (.slice e))
  | _, _ => none
 | _, _ => none

theorem Be5 {P : Program} {w : World} {op : BinOp} {k : IntKind} {a b : Int} {v : EV} {c : Prop} {T : TypeId} (bs : Nat → Nat)
  (h : Bx2 op k a b = some (v, c)) (hc : c) : (binOp op T (.int k a) (.int k b)).run P w = .ok (real bs v) w := by
 cases op <;> simp only [Bx2, Option.some.injEq, Prod.mk.injEq, reduceCtorEq] at h <;> obtain ⟨rfl, rfl⟩ := h <;>
  simp_all [binOp, real, Op.intArith, Op.intDiv, Op.intBits, Op.intCmp, Bj3, bOr, By0, Bx1]
theorem Ah9 {P : Program} {w : World} {op : BinOp} {k k' : IntKind} {a b : Int} {v : EV} {c : Prop} {T : TypeId} (bs : Nat → Nat)
  (h : Y7 op k a b = some (v, c)) (hc : c) : (binOp op T (.int k a) (.int k' b)).run P w = .ok (real bs v) w := by
 cases op <;> simp only [Y7, Option.some.injEq, Prod.mk.injEq, reduceCtorEq] at h <;> obtain ⟨rfl, rfl⟩ := h <;>
  simp [binOp, real, Op.shift, Bw9, Cg4, show ¬ b < 0 by omega]
theorem Bo5 {P : Program} {w : World} {op : BinOp} {a b : ByteArray} {v : EV} {c : Prop} {T : TypeId} (bs : Nat → Nat)
  (h : Bo6 op a b = some (v, c)) (hc : c) : (binOp op T (.string a) (.string b)).run P w = .ok (real bs v) w := by
 cases op <;> simp only [Bo6, Option.some.injEq, Prod.mk.injEq, reduceCtorEq] at h <;> obtain ⟨rfl, rfl⟩ := h
 ·have : ¬ (((a.size + b.size : Nat) : Int) > IntKind.i64.max) := by omega
  simp only [binOp, Op.stringOp, this, if_false]; simp [real]
 ·simp [binOp, Op.stringOp, real]
 ·simp [binOp, Op.stringOp, real]
 ·simp [binOp, Op.stringOp, real]
 ·simp [binOp, Op.stringOp, real]

theorem Ad5 {k : IntKind} {v : EV} (bs : Nat → Nat) (h : v.isInt k = true) : real bs v = .int k v.num := by
 cases v <;> simp_all [EV.isInt, real, EV.num]
theorem Af7 (P : Program) (w : World) (d : Nat) (e : TypeId) (k : IntKind) (he : P.underlying e = some (.int k)) (bs : Nat → Nat) (xs ys : List EV)
  (hx : xs.all (EV.isInt k) = true) (hy : ys.all (EV.isInt k) = true) :
  ∀ (m j : Nat), j + m = xs.length → j + m = ys.length →
   (Op.eqItems (d + 1) e 1 (A8 bs xs).toArray (A8 bs ys).toArray (List.range' j m)).run P w = .ok ((xs.drop j).map EV.num == (ys.drop j).map EV.num) w
 | 0, j, h1, h2 => by
  rw [List.drop_eq_nil_of_le (by omega), List.drop_eq_nil_of_le (by omega)]
  simp [Op.eqItems]
 | m + 1, j, h1, h2 => by
  have l1 : j < xs.length := by omega
  have l2 : j < ys.length := by omega
  have ix := Ad5 bs (List.all_eq_true.1 hx _ (List.getElem_mem l1))
  have iy := Ad5 bs (List.all_eq_true.1 hy _ (List.getElem_mem l2))
  have ha : Bn3 P e = some false := by simp [Bn3, he]
  have px : (part e (A8 bs xs).toArray (j * 1)).run P w = .ok (.int k (xs[j]).num) w := by
   simp [part, N7 P w e false ha, A9, List.getElem?_eq_getElem l1, ix]
  have py : (part e (A8 bs ys).toArray (j * 1)).run P w = .ok (.int k (ys[j]).num) w := by
   simp [part, N7 P w e false ha, A9, List.getElem?_eq_getElem l2, iy]
  have ih := Af7 P w d e k he bs xs ys hx hy m (j + 1) (by omega) (by omega)
  rw [List.range'_succ, Op.eqItems]
  simp only [Sem.run_bind, px, py, Result.andThen_ok, run_equalIn_int w d e k k _ _ he]
  rw [List.drop_eq_getElem_cons l1, List.drop_eq_getElem_cons l2, List.map_cons, List.map_cons, List.cons_beq_cons]
  cases hb : (xs[j].num == ys[j].num)
  ·simp
  ·simp only [Bool.not_true, Bool.false_eq_true, if_false, Bool.true_and]
   exact ih
theorem Al3 {P : Program} {w : World} {T : TypeId} {xs ys : List EV} {b : Bool} {c : Prop} (bs : Nat → Nat) (h : Bx4 P T xs ys = some (b, c)) (hc : c) :
  (Op.equalIn 10000 T (.agg (A8 bs xs).toArray) (.agg (A8 bs ys).toArray)).run P w = .ok b w := by
 unfold Bx4 at h
 cases hu : P.underlying T with
 | none => simp [hu] at h
 | some d =>
  cases d <;> simp only [hu, reduceCtorEq] at h
  rename_i len e
  cases he : P.underlying e with
  | none => simp [he] at h
  | some d' =>
   cases d' <;> simp only [he, reduceCtorEq] at h
   rename_i k
   simp only [Option.some.injEq, Prod.mk.injEq] at h
   obtain ⟨rfl, rfl⟩ := h
   obtain ⟨h1, h2, h3, h4⟩ := hc
   rw [Bool.and_eq_true] at h4
   obtain ⟨i, hi⟩ := Q8 he
   rw [run_equalIn_array w 9999 _ _ hu hi, h3, List.range_eq_range']
   have := Af7 P w 9998 e k he bs xs ys h4.1 h4.2 len 0 (by omega) (by omega)
   simpa using this
theorem S5 {P : Program} (w : World) (d : Nat) {T e : TypeId} (he : P.underlying T = some (.slice e)) (a : Option Addr) (n c m k : Nat) :
  (Op.equalIn (d + 1) T (.slice a n c) (.slice none m k)).run P w = .ok a.isNone w := by
 cases a <;> simp [Op.equalIn, run_underlying _ _ _ _ he]
theorem Ab7 {P : Program} (w : World) {T e : TypeId} (he : P.underlying T = some (.slice e)) (a : Option Addr) (n c m k : Nat) :
  (binOp .eql T (.slice a n c) (.slice none m k)).run P w = .ok (.bool a.isNone) w := by
 have h := S5 w 9999 he a n c m k
 show ((do pure (Value.bool (← Op.equal T (.slice a n c) (.slice none m k))) : Sem Value)).run P w = _
 simp only [Sem.run_bind, Op.equal, Op.maxDepth, h, Result.andThen_ok, Sem.run_pure]
theorem Ab0 {P : Program} (w : World) {T e : TypeId} (he : P.underlying T = some (.slice e)) (a : Option Addr) (n c m k : Nat) :
  (binOp .neq T (.slice a n c) (.slice none m k)).run P w = .ok (.bool (!a.isNone)) w := by
 have h := S5 w 9999 he a n c m k
 show ((do pure (Value.bool (!(← Op.equal T (.slice a n c) (.slice none m k)))) : Sem Value)).run P w = _
 simp only [Sem.run_bind, Op.equal, Op.maxDepth, h, Result.andThen_ok, Sem.run_pure]
theorem W0 {P : Program} (w : World) (d : Nat) {T e : TypeId} (he : P.underlying T = some (.pointer e)) (a : Addr) :
  (Op.equalIn (d + 1) T (.pointer (some a)) (.pointer none)).run P w = .ok false w := by
 simp [Op.equalIn, run_underlying _ _ _ _ he]
theorem Aj8 {P : Program} (w : World) {T e : TypeId} (he : P.underlying T = some (.pointer e)) (a : Addr) :
  (binOp .eql T (.pointer (some a)) (.pointer none)).run P w = .ok (.bool false) w := by
 have h := W0 w 9999 he a
 show ((do pure (Value.bool (← Op.equal T (.pointer (some a)) (.pointer none))) : Sem Value)).run P w = _
 simp only [Sem.run_bind, Op.equal, Op.maxDepth, h, Result.andThen_ok, Sem.run_pure]
theorem Bc0 {P : Program} (w : World) {T e : TypeId} (he : P.underlying T = some (.pointer e)) (a : Addr) :
  (binOp .neq T (.pointer (some a)) (.pointer none)).run P w = .ok (.bool true) w := by
 have h := W0 w 9999 he a
 show ((do pure (Value.bool (!(← Op.equal T (.pointer (some a)) (.pointer none)))) : Sem Value)).run P w = _
 simp only [Sem.run_bind, Op.equal, Op.maxDepth, h, Result.andThen_ok, Sem.run_pure, Bool.not_false]
theorem Be4 {P : Program} {w : World} {op : BinOp} {T : TypeId} {x y : EV} {v : EV} {c : Prop} (bs : Nat → Nat)
  (h : Al1 P op T x y = some (v, c)) (hc : c) : (binOp op T (real bs x) (real bs y)).run P w = .ok (real bs v) w := by
 unfold Al1 at h
 split at h
 ·rename_i k a k' b
  simp only [real]
  split at h
  ·exact Ah9 bs h hc
  ·exact Ah9 bs h hc
  ·rename_i op h1 h2
   split at h
   ·rename_i v' c' ha
    simp only [Option.some.injEq, Prod.mk.injEq] at h
    obtain ⟨rfl, rfl⟩ := h
    have hk : k = k' := by simpa using hc.1
    subst hk
    exact Be5 bs ha hc.2
   ·simp at h
 ·simp only [real]
  split at h <;> simp only [Option.some.injEq, Prod.mk.injEq, reduceCtorEq] at h
  ·obtain ⟨rfl, rfl⟩ := h
   simp [binOp, Op.equal, Op.maxDepth, run_equalIn_bool' w 9999 T _ _ hc, real]
  ·obtain ⟨rfl, rfl⟩ := h
   simp [binOp, Op.equal, Op.maxDepth, run_equalIn_bool' w 9999 T _ _ hc, real]
 ·simp only [real]
  exact Bo5 bs h hc
 ·simp only [real]
  split at h
  ·split at h
   ·rename_i ha
    simp only [Option.some.injEq, Prod.mk.injEq] at h
    obtain ⟨rfl, rfl⟩ := h
    rw [run_eql_struct, Al3 bs ha hc]; rfl
   ·simp at h
  ·split at h
   ·rename_i ha
    simp only [Option.some.injEq, Prod.mk.injEq] at h
    obtain ⟨rfl, rfl⟩ := h
    rw [run_neq_struct, Al3 bs ha hc]; rfl
   ·simp at h
  ·simp at h
 ·simp only [real]
  split at h <;> simp only [Option.some.injEq, Prod.mk.injEq, reduceCtorEq] at h
  ·obtain ⟨rfl, rfl⟩ := h; obtain ⟨e, he⟩ := hc
   exact Ab7 w he _ _ _ _ _
  ·obtain ⟨rfl, rfl⟩ := h; obtain ⟨e, he⟩ := hc
   exact Ab0 w he _ _ _ _ _
 ·simp only [real]
  split at h <;> simp only [Option.some.injEq, Prod.mk.injEq, reduceCtorEq] at h
  ·obtain ⟨rfl, rfl⟩ := h; obtain ⟨e, he⟩ := hc
   exact Aj8 w he _
  ·obtain ⟨rfl, rfl⟩ := h; obtain ⟨e, he⟩ := hc
   exact Bc0 w he _
 ·simp only [real]
  split at h <;> simp only [Option.some.injEq, Prod.mk.injEq, reduceCtorEq] at h
  ·obtain ⟨rfl, rfl⟩ := h; obtain ⟨e, he⟩ := hc
   exact Ab7 w he _ _ _ _ _
  ·obtain ⟨rfl, rfl⟩ := h; obtain ⟨e, he⟩ := hc
   exact Ab0 w he _ _ _ _ _
 ·simp at h
theorem Az8 {P : Program} {op : BinOp} {T : TypeId} {x y : EV} {v : EV} {c : Prop} (n : Nat) (h : Al1 P op T x y = some (v, c)) : closed n v := by
 unfold Al1 at h
 split at h
 ·split at h
  ·simp only [Y7, Option.some.injEq, Prod.mk.injEq] at h; obtain ⟨rfl, _⟩ := h; trivial
  ·simp only [Y7, Option.some.injEq, Prod.mk.injEq] at h; obtain ⟨rfl, _⟩ := h; trivial
  ·split at h
   ·rename_i ha
    simp only [Option.some.injEq, Prod.mk.injEq] at h
    obtain ⟨rfl, _⟩ := h
    unfold Bx2 at ha
    split at ha <;> simp only [Option.some.injEq, Prod.mk.injEq, reduceCtorEq] at ha <;> (obtain ⟨rfl, _⟩ := ha; trivial)
   ·simp at h
 ·split at h <;> simp only [Option.some.injEq, Prod.mk.injEq, reduceCtorEq] at h <;> (obtain ⟨rfl, _⟩ := h; trivial)
 ·unfold Bo6 at h
  split at h <;> simp only [Option.some.injEq, Prod.mk.injEq, reduceCtorEq] at h <;> (obtain ⟨rfl, _⟩ := h; trivial)
 ·split at h
  ·split at h <;> simp only [Option.some.injEq, Prod.mk.injEq, reduceCtorEq] at h; obtain ⟨rfl, _⟩ := h; trivial
  ·split at h <;> simp only [Option.some.injEq, Prod.mk.injEq, reduceCtorEq] at h; obtain ⟨rfl, _⟩ := h; trivial
  ·simp at h
 ·split at h <;> simp only [Option.some.injEq, Prod.mk.injEq, reduceCtorEq] at h <;> (obtain ⟨rfl, _⟩ := h; trivial)
 ·split at h <;> simp only [Option.some.injEq, Prod.mk.injEq, reduceCtorEq] at h <;> (obtain ⟨rfl, _⟩ := h; trivial)
 ·split at h <;> simp only [Option.some.injEq, Prod.mk.injEq, reduceCtorEq] at h <;> (obtain ⟨rfl, _⟩ := h; trivial)
 ·simp at h
end Go.Ew
namespace Go.Ew
open Go

theorem K1 {w : World} {b : Nat} {cs : Array Value} {T : TypeId} {fr : Nat × Nat} (h : w.heap[b]? = some (.cells cs T fr)) (off : Nat) : w.cell? ⟨b, off, none⟩ = cs[off]? := by
 simp [World.cell?, h]
theorem Ae2 {C : Cx} {n : Nat} {B : Base} {hs : List (Nat × Option EObj)} {bs : Nat → Nat} {w : World} (h : HRel C B n hs bs w) {a : Addr} (ho : B.D a.block) : w.cell? a = B.w.cell? a :=
 World.cell?_of_block (h.frame _ ho).2
theorem K8 (b off n : Nat) : (Addr.add ⟨b, off, none⟩ n) = ⟨b, off + n, none⟩ := by
 unfold Addr.add; split
 ·rename_i h; subst h; rfl
 ·rfl

/-- A load through an address of whatever make. -/
def F5 (B : Base) (a : Addr) : EV := C9 ((B.w.cell? a).getD undef)
/-- Some cells from an address on. -/
def M9 (B : Base) (a : Addr) (n : Nat) : List EV := (List.range n).map fun j => F5 B (a.add j)
def Ap5 (B : Base) (a : Addr) (n : Nat) : Prop := ∀ j, j < n → (B.w.cell? (a.add j)).isSome = true
def M2 (C : Cx) (B : Base) (hs : List (Nat × Option EObj)) (T : TypeId) (p : EV) : Option (EV × Prop) :=
 match p with
 | .ptr i off =>
  match hget hs i with
  | some (.cells cs _ _) =>
   match Bn3 C.P T with
   | some true => some (.agg ((cs.drop off).take (C.P.cellsOf T)), off + C.P.cellsOf T ≤ cs.length)
   | some false => some (cs.getD off .any, off < cs.length)
   | none => none
  | _ => none
 | .raw (.pointer (some a)) =>
  match Bn3 C.P T with
  | some true => some (.agg (M9 B a (C.P.cellsOf T)), B.D a.block ∧ Ap5 B a (C.P.cellsOf T))
  | some false => some (F5 B a, B.D a.block ∧ (B.w.cell? a).isSome = true)
  | none => none
 | _ => none
theorem G4 {n : Nat} {l : List EV} (h : A0 n l) {v : EV} (hv : v ∈ l) : closed n v := (D8 n l).1 h v hv
theorem Af2 {C : Cx} {n : Nat} {B : Base} {hs : List (Nat × Option EObj)} {bs : Nat → Nat} {w : World} (h : HRel C B n hs bs w) {T : TypeId} {p v : EV} {c : Prop}
  (hl : M2 C B hs T p = some (v, c)) (hc : c) : (Instr.loadAt T (real bs p)).run C.P w = .ok (real bs v) w ∧ closed n v := by
 unfold M2 at hl
 split at hl
 ·rename_i i off
  split at hl
  ·rename_i cs T' fr hg
   obtain ⟨hi, hb⟩ := h.live i _ hg
   have hcl : A0 n cs := h.cl i _ hg
   simp only [EObj.real] at hb
   split at hl
   ·rename_i ha
    simp only [Option.some.injEq, Prod.mk.injEq] at hl
    obtain ⟨rfl, rfl⟩ := hl
    obtain ⟨d, hd⟩ := T1 ha
    have hlen : ((cs.drop off).take (C.P.cellsOf T)).length = C.P.cellsOf T := by simp; omega
    have hrun := run_loadCells_list (P := C.P) w ⟨bs i, off, none⟩ (A8 bs ((cs.drop off).take (C.P.cellsOf T))) (by
     intro j v hj
     rw [K8, K1 hb]
     rw [A9] at hj
     simp only [List.getElem?_map, List.getElem?_take, List.getElem?_drop] at hj
     split at hj
     ·simpa [A9] using hj
     ·simp at hj)
    rw [show (A8 bs ((cs.drop off).take (C.P.cellsOf T))).length = C.P.cellsOf T by rw [A9, List.length_map, hlen]] at hrun
    refine ⟨?_, ?_⟩
    ·simp [Instr.loadAt, Instr.sureAddr, real, loadVar, N7 _ _ _ _ ha, F0 _ _ _ _ hd, hrun]
    ·simp only [closed]
     rw [D8]
     intro v hv
     exact G4 hcl (List.mem_of_mem_drop (List.mem_of_mem_take hv))
   ·rename_i ha
    simp only [Option.some.injEq, Prod.mk.injEq] at hl
    obtain ⟨rfl, rfl⟩ := hl
    have e : cs.getD off .any = cs[off] := by simp [List.getD, List.getElem?_eq_getElem hc]
    rw [e]
    refine ⟨?_, G4 hcl (List.getElem_mem hc)⟩
    have hcell : w.cell? ⟨bs i, off, none⟩ = some (real bs cs[off]) := by
     rw [K1 hb]; simp [A9, List.getElem?_eq_getElem hc]
    simp [Instr.loadAt, Instr.sureAddr, real, loadVar, N7 _ _ _ _ ha, hcell]
   ·simp at hl
  ·simp at hl
 ·rename_i a
  split at hl
  ·rename_i ha
   simp only [Option.some.injEq, Prod.mk.injEq] at hl
   obtain ⟨rfl, rfl⟩ := hl
   obtain ⟨d, hd⟩ := T1 ha
   obtain ⟨ho, hall⟩ := hc
   have hrun := run_loadCells (P := C.P) w a (C.P.cellsOf T) (fun j => (B.w.cell? (a.add j)).getD undef) (fun j hj => by
    have hs := hall j hj
    rw [Ae2 h (by rw [show (a.add j).block = a.block by unfold Addr.add; split <;> rfl]; exact ho)]
    cases hx : B.w.cell? (a.add j) with
    | none => rw [hx] at hs; simp at hs
    | some v => rfl)
   refine ⟨?_, ?_⟩
   ·simp only [Instr.loadAt, Instr.sureAddr, real, loadVar, Sem.run_bind, Sem.run_pure, Result.andThen_ok, N7 _ _ _ _ ha, if_true, F0 _ _ _ _ hd, hrun]
    simp only [A9, M9, List.map_map]
    congr 3
    apply List.map_congr_left
    intro j _
    simp [F5, J0]
   ·simp only [closed]; rw [D8]; intro v hv
    obtain ⟨j, _, rfl⟩ := List.mem_map.1 hv
    exact I7 _ _
  ·rename_i ha
   simp only [Option.some.injEq, Prod.mk.injEq] at hl
   obtain ⟨rfl, rfl⟩ := hl
   obtain ⟨ho, hs⟩ := hc
   refine ⟨?_, I7 _ _⟩
   have hcell := Ae2 h ho
   cases hx : B.w.cell? a with
   | none => rw [hx] at hs; simp at hs
   | some v =>
    rw [hx] at hcell
    simp [Instr.loadAt, Instr.sureAddr, real, loadVar, N7 _ _ _ _ ha, hcell, F5, hx, J0]
  ·simp at hl
 ·simp at hl

def An6 (P : Program) (T : TypeId) (cs : List EV) (off : Nat) : Option (EV × Prop) :=
 match Bn3 P T with
 | some true => some (.agg ((cs.drop off).take (P.cellsOf T)), True)
 | some false => some (cs.getD off .any, off < cs.length)
 | none => none
theorem Af1 {P : Program} {w : World} {bs : Nat → Nat} {n : Nat} {T : TypeId} {cs : List EV} {off : Nat} {v : EV} {c : Prop} (h : An6 P T cs off = some (v, c)) (hc : c) (hcl : A0 n cs) :
  (part T (A8 bs cs).toArray off).run P w = .ok (real bs v) w ∧ closed n v := by
 unfold An6 at h
 split at h
 ·rename_i ha
  simp only [Option.some.injEq, Prod.mk.injEq] at h
  obtain ⟨rfl, rfl⟩ := h
  obtain ⟨d, hd⟩ := T1 ha
  refine ⟨?_, ?_⟩
  ·simp only [part, Sem.run_bind, N7 _ _ _ _ ha, Result.andThen_ok, if_true, F0 _ _ _ _ hd, Sem.run_pure]
   congr 2
   simp [A9, List.map_drop, List.map_take, List.extract_eq_take_drop, real]
  ·simp only [closed]; rw [D8]; intro v hv
   exact G4 hcl (List.mem_of_mem_drop (List.mem_of_mem_take hv))
 ·rename_i ha
  simp only [Option.some.injEq, Prod.mk.injEq] at h
  obtain ⟨rfl, rfl⟩ := h
  have e : cs.getD off .any = cs[off] := by simp [List.getD, List.getElem?_eq_getElem hc]
  rw [e]
  refine ⟨?_, G4 hcl (List.getElem_mem hc)⟩
  simp [part, N7 _ _ _ _ ha, A9, List.getElem?_eq_getElem hc]
 ·simp at h
def Ad6 (P : Program) (T : TypeId) (x i : EV) : Option (EV × Prop) :=
 match i with
 | .int _ i =>
  match P.underlying T, x with
  | some (.array len e), .agg cs =>
   match An6 P e cs (i.toNat * P.cellsOf e) with
   | some (v, c) => some (v, (0 ≤ i ∧ i < len) ∧ c)
   | none => none
  | some .string, .str s => some (.int .u8 ((s.data.toList.getD i.toNat 0).toNat : Nat), 0 ≤ i ∧ i.toNat < s.size)
  | _, _ => none
 | _ => none
theorem Ar7 {P : Program} {w : World} {bs : Nat → Nat} {n : Nat} {T : TypeId} {x i v : EV} {c : Prop} (h : Ad6 P T x i = some (v, c)) (hc : c) (hcl : closed n x) :
  (Instr.index T (real bs x) (real bs i)).run P w = .ok (real bs v) w ∧ closed n v := by
 unfold Ad6 at h
 split at h
 ·rename_i k i
  split at h
  ·rename_i len e cs hu
   split at h
   ·rename_i v' c' hp
    simp only [Option.some.injEq, Prod.mk.injEq] at h
    obtain ⟨rfl, rfl⟩ := h
    obtain ⟨hb, hc'⟩ := hc
    have hd : ∃ d, P.underlying e = some d := by
     unfold An6 at hp; cases ha : Bn3 P e with
     | none => simp [ha] at hp
     | some b => exact T1 ha
    obtain ⟨d, hd⟩ := hd
    obtain ⟨r1, r2⟩ := Af1 (w := w) (bs := bs) hp hc' (n := n) (by simpa [closed] using hcl)
    refine ⟨?_, r2⟩
    simp only [Instr.index, real, asIntOf, Sem.run_bind, Sem.run_pure, Result.andThen_ok, run_underlying _ _ _ _ hu]
    rw [if_pos hb]
    simp only [Sem.run_bind, F0 _ _ _ _ hd, Result.andThen_ok, r1]
   ·simp at h
  ·rename_i s hu
   simp only [Option.some.injEq, Prod.mk.injEq] at h
   obtain ⟨rfl, rfl⟩ := h
   refine ⟨?_, trivial⟩
   have h1 : s[i.toNat]? = some (s.data.toList.getD i.toNat 0) := by
    have hh : i.toNat < s.data.size := hc.2
    rw [getElem?_pos s i.toNat hc.2]
    have e : s.data.toList.getD i.toNat 0 = s.data[i.toNat] := by
     rw [List.getD_eq_getElem?_getD, Array.getElem?_toList, Array.getElem?_eq_getElem hh]; rfl
    rw [e]; rfl
   simp only [Instr.index, real, asIntOf, Sem.run_bind, Sem.run_pure, Result.andThen_ok, run_underlying _ _ _ _ hu, if_pos hc.1, h1]
  ·simp at h
 ·simp at h
def Aj5 (P : Program) (T : TypeId) (x : EV) (f : Nat) : Option (EV × Prop) :=
 match P.underlying T, x with
 | some (.struct fs), .agg cs =>
  match fs[f]? with
  | some fd => An6 P fd.type cs fd.offset
  | none => none
 | _, _ => none
theorem As6 {P : Program} {w : World} {bs : Nat → Nat} {n : Nat} {T : TypeId} {x v : EV} {f : Nat} {c : Prop} (h : Aj5 P T x f = some (v, c)) (hc : c) (hcl : closed n x) :
  (Instr.field T (real bs x) f).run P w = .ok (real bs v) w ∧ closed n v := by
 unfold Aj5 at h
 split at h
 ·rename_i fs cs hu
  split at h
  ·rename_i fd hf
   obtain ⟨r1, r2⟩ := Af1 (w := w) (bs := bs) h hc (n := n) (by simpa [closed] using hcl)
   refine ⟨?_, r2⟩
   simp only [Instr.field, real, Sem.run_bind, run_underlying _ _ _ _ hu, Result.andThen_ok, hf, asAgg, Sem.run_pure, r1]
  ·simp at h
 ·simp at h

/-- A slice's address, where it has one. -/
def adr (ad : Option Addr) : Addr := ad.getD ⟨0, 0, none⟩
theorem Cd7 (a : Addr) : adr (some a) = a := rfl
/-- j cells on. -/
def I0 (ad : Option Addr) (j : Nat) : Addr := (adr ad).add j
theorem E8 (a : Addr) (j : Nat) : I0 (some a) j = a.add j := rfl
theorem U7 (ad : Option Addr) (j : Nat) : (I0 ad j).block = (adr ad).block := by
 unfold I0 Addr.add; split <;> rfl
def M3 (P : Program) (T : TypeId) (x i : EV) : Option (EV × Prop) :=
 match i with
 | .int _ i =>
  match P.underlying T with
  | some (.array len e) =>
   match x with
   | .ptr b off => some (.ptr b (off + i.toNat * P.cellsOf e), (0 ≤ i ∧ i < len) ∧ (∃ d, P.underlying e = some d))
   | .raw (.pointer (some a)) => some (.raw (.pointer (some (a.add (i.toNat * P.cellsOf e)))), (0 ≤ i ∧ i < len) ∧ (∃ d, P.underlying e = some d))
   | _ => none
  | some (.slice e) =>
   match x with
   | .sl b off len _ => some (.ptr b (off + i.toNat * P.cellsOf e), (0 ≤ i ∧ i < len) ∧ (∃ d, P.underlying e = some d))
   | .raw (.slice ad len _) => some (.raw (.pointer (some (I0 ad (i.toNat * P.cellsOf e)))), (0 ≤ i ∧ i < len) ∧ ad.isSome = true ∧ (∃ d, P.underlying e = some d))
   | _ => none
  | _ => none
 | _ => none
theorem Ad7 {P : Program} {w : World} {bs : Nat → Nat} {n : Nat} {T : TypeId} {x i v : EV} {c : Prop} (h : M3 P T x i = some (v, c)) (hc : c) (hcl : closed n x) :
  (Instr.indexAt T (real bs x) (real bs i)).run P w = .ok (real bs v) w ∧ closed n v := by
 unfold M3 at h
 split at h
 ·rename_i k i
  split at h
  ·rename_i len e hu
   split at h
   ·rename_i b off
    simp only [Option.some.injEq, Prod.mk.injEq] at h
    obtain ⟨rfl, rfl⟩ := h
    obtain ⟨hb, d, hd⟩ := hc
    refine ⟨?_, by simpa [closed] using hcl⟩
    simp [Instr.indexAt, real, asIntOf, run_underlying _ _ _ _ hu, Instr.sureAddr, hb, F0 _ _ _ _ hd, K8]
   ·rename_i a
    simp only [Option.some.injEq, Prod.mk.injEq] at h
    obtain ⟨rfl, rfl⟩ := h
    obtain ⟨hb, d, hd⟩ := hc
    refine ⟨?_, trivial⟩
    simp [Instr.indexAt, real, asIntOf, run_underlying _ _ _ _ hu, Instr.sureAddr, hb, F0 _ _ _ _ hd]
   ·simp at h
  ·rename_i e hu
   split at h
   ·rename_i b off len cap
    simp only [Option.some.injEq, Prod.mk.injEq] at h
    obtain ⟨rfl, rfl⟩ := h
    obtain ⟨hb, d, hd⟩ := hc
    refine ⟨?_, by simpa [closed] using hcl⟩
    simp [Instr.indexAt, real, asIntOf, run_underlying _ _ _ _ hu, Instr.sureAddr, hb, F0 _ _ _ _ hd, K8]
   ·rename_i ad len cap
    simp only [Option.some.injEq, Prod.mk.injEq] at h
    obtain ⟨rfl, rfl⟩ := h
    obtain ⟨hb, hs, d, hd⟩ := hc
    obtain ⟨a, rfl⟩ := Option.isSome_iff_exists.1 hs
    refine ⟨?_, trivial⟩
    simp [Instr.indexAt, real, asIntOf, run_underlying _ _ _ _ hu, Instr.sureAddr, hb, F0 _ _ _ _ hd, E8]
   ·simp at h
  ·simp at h
 ·simp at h
def P5 (P : Program) (T : TypeId) (x : EV) (f : Nat) : Option (EV × Prop) :=
 match P.underlying T with
 | some (.struct fs) =>
  match fs[f]? with
  | some fd =>
   match x with
   | .ptr b off => some (.ptr b (off + fd.offset), (∃ d, P.underlying fd.type = some d) ∧ P.cellsOf fd.type ≠ 0)
   | .raw (.pointer (some a)) => some (.raw (.pointer (some (a.add fd.offset))), (∃ d, P.underlying fd.type = some d) ∧ P.cellsOf fd.type ≠ 0)
   | _ => none
  | none => none
 | _ => none
theorem Ae1 {P : Program} {w : World} {bs : Nat → Nat} {n : Nat} {T : TypeId} {x v : EV} {f : Nat} {c : Prop} (h : P5 P T x f = some (v, c)) (hc : c) (hcl : closed n x) :
  (Instr.fieldAt T (real bs x) f).run P w = .ok (real bs v) w ∧ closed n v := by
 unfold P5 at h
 split at h
 ·rename_i fs hu
  split at h
  ·rename_i fd hf
   split at h
   ·simp only [Option.some.injEq, Prod.mk.injEq] at h
    obtain ⟨rfl, rfl⟩ := h
    obtain ⟨⟨d, hd⟩, h0⟩ := hc
    refine ⟨?_, by simpa [closed] using hcl⟩
    simp [Instr.fieldAt, real, run_underlying _ _ _ _ hu, hf, Instr.sureAddr, fieldPlace, F0 _ _ _ _ hd, h0, K8]
   ·simp only [Option.some.injEq, Prod.mk.injEq] at h
    obtain ⟨rfl, rfl⟩ := h
    obtain ⟨⟨d, hd⟩, h0⟩ := hc
    refine ⟨?_, trivial⟩
    simp [Instr.fieldAt, real, run_underlying _ _ _ _ hu, hf, Instr.sureAddr, fieldPlace, F0 _ _ _ _ hd, h0]
   ·simp at h
  ·simp at h
 ·simp at h
end Go.Ew
namespace Go.Ew
open Go

def bnd (o : Option EV) (d : Nat) : Option (Nat × Prop) :=
 match o with
 | none => some (d, True)
 | some (.int _ i) => some (i.toNat, 0 ≤ i)
 | _ => none
theorem Be3 {P : Program} {w : World} {bs : Nat → Nat} {o : Option EV} {d k : Nat} {c : Prop} (h : bnd o d = some (k, c)) (hc : c) (y : Nat) (hy : o.isSome = true → k ≤ y) (code : BoundsCode) :
  (match o.map (real bs) with | some v => Instr.sliceBound v y code | none => pure d : Sem Nat).run P w = .ok k w := by
 unfold bnd at h
 split at h
 ·simp only [Option.some.injEq, Prod.mk.injEq] at h; obtain ⟨rfl, _⟩ := h; rfl
 ·rename_i k' i
  simp only [Option.some.injEq, Prod.mk.injEq] at h; obtain ⟨rfl, rfl⟩ := h
  have h1 := hy rfl
  have : 0 ≤ i ∧ i ≤ (y : Int) := by omega
  simp [Instr.sliceBound, real, asIntOf, this]
 ·simp at h
theorem S8 {P : Program} {w : World} {bs : Nat → Nat} {lo hi mx : Option EV} {len cap l h m : Nat} {cl ch cm : Prop} (isS : Bool)
  (h1 : bnd mx cap = some (m, cm)) (h2 : bnd hi len = some (h, ch)) (h3 : bnd lo 0 = some (l, cl)) (c1 : cm) (c2 : ch) (c3 : cl)
  (hm : m ≤ cap) (hh : h ≤ m) (hl : l ≤ h) (hx : mx.isSome = true → hi.isSome = true) :
  (Instr.sliceBounds isS len cap (lo.map (real bs)) (hi.map (real bs)) (mx.map (real bs))).run P w = .ok (l, h, m) w := by
 have r1 := fun code => Be3 (P := P) (w := w) (bs := bs) h1 c1 cap (fun _ => hm) code
 have r2 := fun code => Be3 (P := P) (w := w) (bs := bs) h2 c2 m (fun _ => hh) code
 have r3 := fun code => Be3 (P := P) (w := w) (bs := bs) h3 c3 h (fun _ => hl) code
 cases mx with
 | none =>
  simp only [bnd, Option.some.injEq, Prod.mk.injEq] at h1
  obtain ⟨rfl, _⟩ := h1
  cases hi with
  | none =>
   simp only [bnd, Option.some.injEq, Prod.mk.injEq] at h2
   obtain ⟨rfl, _⟩ := h2
   cases lo with
   | none =>
    simp only [bnd, Option.some.injEq, Prod.mk.injEq] at h3
    obtain ⟨rfl, _⟩ := h3
    simp [Instr.sliceBounds]
   | some lo => simp only [Option.map_some] at r3; simp [Instr.sliceBounds, r3]
  | some hi =>
   simp only [Option.map_some] at r2
   cases lo with
   | none =>
    simp only [bnd, Option.some.injEq, Prod.mk.injEq] at h3
    obtain ⟨rfl, _⟩ := h3
    simp [Instr.sliceBounds, r2]
   | some lo => simp only [Option.map_some] at r3; simp [Instr.sliceBounds, r2, r3]
 | some mx =>
  cases hi with
  | none => simp at hx
  | some hi =>
   simp only [Option.map_some] at r1 r2
   cases lo with
   | none =>
    simp only [bnd, Option.some.injEq, Prod.mk.injEq] at h3
    obtain ⟨rfl, _⟩ := h3
    simp [Instr.sliceBounds, r1, r2]
   | some lo => simp only [Option.map_some] at r3; simp [Instr.sliceBounds, r1, r2, r3]
def Ah8 (P : Program) (T : TypeId) (x : EV) (lo hi mx : Option EV) : Option (EV × Prop) :=
 match P.underlying T with
 | some (.array len e) =>
  match bnd mx len, bnd hi len, bnd lo 0 with
  | some (m, cm), some (h, ch), some (l, cl) =>
   match x with
   | .ptr b off => some (.sl b (if m = l then off else off + l * P.cellsOf e) (h - l) (m - l), (cm ∧ ch ∧ cl) ∧ (m ≤ len ∧ h ≤ m ∧ l ≤ h) ∧ (mx.isSome = true → hi.isSome = true) ∧ ∃ d, P.underlying e = some d)
   | .raw (.pointer (some a)) => some (.raw (.slice (some (if m = l then a else a.add (l * P.cellsOf e))) (h - l) (m - l)), (cm ∧ ch ∧ cl) ∧ (m ≤ len ∧ h ≤ m ∧ l ≤ h) ∧ (mx.isSome = true → hi.isSome = true) ∧ ∃ d, P.underlying e = some d)
   | _ => none
  | _, _, _ => none
 | some (.slice e) =>
  match x with
  | .sl b off len cap =>
   match bnd mx cap, bnd hi len, bnd lo 0 with
   | some (m, cm), some (h, ch), some (l, cl) => some (.sl b (if m = l then off else off + l * P.cellsOf e) (h - l) (m - l), (cm ∧ ch ∧ cl) ∧ (m ≤ cap ∧ h ≤ m ∧ l ≤ h) ∧ (mx.isSome = true → hi.isSome = true) ∧ ∃ d, P.underlying e = some d)
   | _, _, _ => none
  | .raw (.slice a len cap) =>
   match bnd mx cap, bnd hi len, bnd lo 0 with
   | some (m, cm), some (h, ch), some (l, cl) => some (.raw (.slice (if m = l then a else a.map (·.add (l * P.cellsOf e))) (h - l) (m - l)), (cm ∧ ch ∧ cl) ∧ (m ≤ cap ∧ h ≤ m ∧ l ≤ h) ∧ (mx.isSome = true → hi.isSome = true) ∧ ∃ d, P.underlying e = some d)
   | _, _, _ => none
  | _ => none
 | some .string =>
  match x with
  | .str s =>
   match mx, bnd hi s.size, bnd lo 0 with
   | none, some (h, ch), some (l, cl) => some (.str (s.extract l h), (ch ∧ cl) ∧ h ≤ s.size ∧ l ≤ h)
   | _, _, _ => none
  | _ => none
 | _ => none
theorem Aq4 {P : Program} {w : World} {bs : Nat → Nat} {n : Nat} {T : TypeId} {x v : EV} {lo hi mx : Option EV} {c : Prop} (h : Ah8 P T x lo hi mx = some (v, c)) (hc : c) (hcl : closed n x) :
  (Instr.sliceAt T (real bs x) (lo.map (real bs)) (hi.map (real bs)) (mx.map (real bs))).run P w = .ok (real bs v) w ∧ closed n v := by
 unfold Ah8 at h
 split at h
 ·rename_i len e hu
  split at h
  ·rename_i m cm hh ch l cl h1 h2 h3
   split at h
   ·simp only [Option.some.injEq, Prod.mk.injEq] at h
    obtain ⟨rfl, rfl⟩ := h
    obtain ⟨⟨c1, c2, c3⟩, ⟨b1, b2, b3⟩, hx, d, hd⟩ := hc
    have hr := S8 (P := P) (w := w) (bs := bs) false h1 h2 h3 c1 c2 c3 b1 b2 b3 hx
    refine ⟨?_, by simpa [closed] using hcl⟩
    simp only [Instr.sliceAt, Sem.run_bind, run_underlying _ _ _ _ hu, Result.andThen_ok, real, Instr.sureAddr, Sem.run_pure, hr, F0 _ _ _ _ hd]
    split <;> simp [K8]
   ·simp only [Option.some.injEq, Prod.mk.injEq] at h
    obtain ⟨rfl, rfl⟩ := h
    obtain ⟨⟨c1, c2, c3⟩, ⟨b1, b2, b3⟩, hx, d, hd⟩ := hc
    have hr := S8 (P := P) (w := w) (bs := bs) false h1 h2 h3 c1 c2 c3 b1 b2 b3 hx
    refine ⟨?_, trivial⟩
    simp only [Instr.sliceAt, Sem.run_bind, run_underlying _ _ _ _ hu, Result.andThen_ok, real, Instr.sureAddr, Sem.run_pure, hr, F0 _ _ _ _ hd]
   ·simp at h
  ·simp at h
 ·rename_i e hu
  split at h
  ·split at h
   ·rename_i m cm hh ch l cl h1 h2 h3
    simp only [Option.some.injEq, Prod.mk.injEq] at h
    obtain ⟨rfl, rfl⟩ := h
    obtain ⟨⟨c1, c2, c3⟩, ⟨b1, b2, b3⟩, hx, d, hd⟩ := hc
    have hr := S8 (P := P) (w := w) (bs := bs) true h1 h2 h3 c1 c2 c3 b1 b2 b3 hx
    refine ⟨?_, by simpa [closed] using hcl⟩
    simp only [Instr.sliceAt, Instr.slice, Sem.run_bind, run_underlying _ _ _ _ hu, Result.andThen_ok, real, Sem.run_pure, hr, F0 _ _ _ _ hd]
    split <;> simp [K8]
   ·simp at h
  ·split at h
   ·rename_i m cm hh ch l cl h1 h2 h3
    simp only [Option.some.injEq, Prod.mk.injEq] at h
    obtain ⟨rfl, rfl⟩ := h
    obtain ⟨⟨c1, c2, c3⟩, ⟨b1, b2, b3⟩, hx, d, hd⟩ := hc
    have hr := S8 (P := P) (w := w) (bs := bs) true h1 h2 h3 c1 c2 c3 b1 b2 b3 hx
    refine ⟨?_, trivial⟩
    simp only [Instr.sliceAt, Instr.slice, Sem.run_bind, run_underlying _ _ _ _ hu, Result.andThen_ok, real, Sem.run_pure, hr, F0 _ _ _ _ hd]
   ·simp at h
  ·simp at h
 ·rename_i hu
  split at h
  ·rename_i s
   split at h
   ·rename_i hh ch l cl h2 h3
    simp only [Option.some.injEq, Prod.mk.injEq] at h
    obtain ⟨rfl, rfl⟩ := h
    obtain ⟨⟨c2, c3⟩, b2, b3⟩ := hc
    have hr := S8 (P := P) (w := w) (bs := bs) (mx := none) (m := s.size) (cap := s.size) (cm := True) false rfl h2 h3 trivial c2 c3 (Nat.le_refl _) b2 b3 (by simp)
    refine ⟨?_, trivial⟩
    simp only [Option.map_none] at hr
    simp [Instr.sliceAt, Instr.slice, run_underlying _ _ _ _ hu, real, hr]
   ·simp at h
  ·simp at h
 ·simp at h

def Cn5 (op : UnOp) (x : EV) : Option EV :=
 match op, x with
 | .neg, .int k n => some (.int k (k.wrap (0 - n)))
 | .xor, .int k n => some (.int k (By0 k (if k.signed then -1 else k.max) n))
 | .not, .bool b => some (.bool (!b))
 | _, _ => none
theorem Bj8 {P : Program} {w : World} {bs : Nat → Nat} {n : Nat} {op : UnOp} {x v : EV} (h : Cn5 op x = some v) : (Op.unary op (real bs x)).run P w = .ok (real bs v) w ∧ closed n v := by
 unfold Cn5 at h
 split at h <;> simp only [Option.some.injEq, reduceCtorEq] at h <;> subst h
 ·exact ⟨by simp [Op.unary, Op.intArith, real], trivial⟩
 ·exact ⟨by simp only [Op.unary, Op.intBits, real]; rfl, trivial⟩
 ·exact ⟨by simp [Op.unary, real], trivial⟩
def Ay4 (P : Program) (s d : TypeId) (x : EV) : Option EV :=
 match P.underlying s, P.underlying d, x with
 | some (.int _), some (.int k), .int _ n => some (.int k (k.wrap n))
 | some .string, some .string, .str t => some (.str t)
 | _, _, _ => none
theorem Ay3 {P : Program} {w : World} {bs : Nat → Nat} {n : Nat} {s d : TypeId} {x v : EV} (h : Ay4 P s d x = some v) : (convert s d (real bs x)).run P w = .ok (real bs v) w ∧ closed n v := by
 unfold Ay4 at h
 split at h
 ·rename_i h1 h2
  simp only [Option.some.injEq] at h; subst h
  exact ⟨by simp [convert, run_underlying _ _ _ _ h1, run_underlying _ _ _ _ h2, real, Conv.intToInt], trivial⟩
 ·rename_i h1 h2
  simp only [Option.some.injEq] at h; subst h
  exact ⟨by simp [convert, run_underlying _ _ _ _ h1, run_underlying _ _ _ _ h2, real], trivial⟩
 ·simp at h
def V8 (x : EV) (i : Nat) : Option (EV × Prop) :=
 match x with
 | .tup vs => some (vs.getD i .any, i < vs.length)
 | _ => none
theorem Aj6 {P : Program} {w : World} {bs : Nat → Nat} {n : Nat} {x v : EV} {i : Nat} {c : Prop} (h : V8 x i = some (v, c)) (hc : c) (hcl : closed n x) :
  (Instr.extract (real bs x) i).run P w = .ok (real bs v) w ∧ closed n v := by
 unfold V8 at h
 split at h
 ·simp only [Option.some.injEq, Prod.mk.injEq] at h
  obtain ⟨rfl, rfl⟩ := h
  rename_i vs
  have e : vs.getD i .any = vs[i] := by simp [List.getD, List.getElem?_eq_getElem hc]
  rw [e]
  exact ⟨by simp [Instr.extract, real, A9, List.getElem?_eq_getElem hc], G4 (by simpa [closed] using hcl) (List.getElem_mem hc)⟩
 ·simp at h

def lenOf (P : Program) (T : TypeId) (x : EV) : Option EV :=
 match P.underlying T with
 | some .string => match x with
  | .str s => some (.int .i64 s.size)
  | _ => none
 | some (.array n _) => some (.int .i64 n)
 | some (.slice _) => match x with
  | .sl _ _ n _ => some (.int .i64 n)
  | .raw (.slice _ n _) => some (.int .i64 n)
  | _ => none
 | _ => none
theorem Bc8 {P : Program} {w : World} {bs : Nat → Nat} {n : Nat} {T ty : TypeId} {x v : EV} (h : lenOf P T x = some v) : (Builtin.len_ #[T] ty #[real bs x]).run P w = .ok (real bs v) w ∧ closed n v := by
 unfold lenOf at h
 split at h
 ·rename_i hu
  split at h <;> simp only [Option.some.injEq, reduceCtorEq] at h
  subst h; exact ⟨by simp [Builtin.len_, run_underlying _ _ _ _ hu, real, goInt], trivial⟩
 ·rename_i hu
  simp only [Option.some.injEq] at h
  subst h; exact ⟨by simp [Builtin.len_, run_underlying _ _ _ _ hu, real, goInt], trivial⟩
 ·rename_i hu
  split at h <;> simp only [Option.some.injEq, reduceCtorEq] at h
  ·subst h; exact ⟨by simp [Builtin.len_, run_underlying _ _ _ _ hu, real, goInt], trivial⟩
  ·subst h; exact ⟨by simp [Builtin.len_, run_underlying _ _ _ _ hu, real, goInt], trivial⟩
 ·simp at h
def Br7 : List EV → Option EV
 | [.int k x, .int _ y] => some (.int k (if y < x then y else x))
 | _ => none
def Br8 : List EV → Option EV
 | [.int k x, .int _ y] => some (.int k (if y > x then y else x))
 | _ => none
theorem Bc3 {P : Program} {w : World} {bs : Nat → Nat} {n : Nat} {Ts : Array TypeId} {ty : TypeId} {xs : List EV} {v : EV} (h : Br7 xs = some v) : (Builtin.min_ Ts ty (A8 bs xs).toArray).run P w = .ok (real bs v) w ∧ closed n v := by
 unfold Br7 at h
 split at h <;> simp only [Option.some.injEq, reduceCtorEq] at h
 subst h; exact ⟨by simp [Builtin.min_, Builtin.min2, A8, real], trivial⟩
theorem Bc4 {P : Program} {w : World} {bs : Nat → Nat} {n : Nat} {Ts : Array TypeId} {ty : TypeId} {xs : List EV} {v : EV} (h : Br8 xs = some v) : (Builtin.max_ Ts ty (A8 bs xs).toArray).run P w = .ok (real bs v) w ∧ closed n v := by
 unfold Br8 at h
 split at h <;> simp only [Option.some.injEq, reduceCtorEq] at h
 subst h; exact ⟨by simp [Builtin.max_, Builtin.max2, A8, real], trivial⟩

/-- cs with c put in from place off on. -/
def H7 (cs : List EV) (off : Nat) (c : List EV) : List EV :=
 match c with
 | [v] => cs.set off v
 | c => cs.take off ++ c ++ cs.drop (off + c.length)
def Ax8 (place : Nat → Option (Nat × Nat)) (cells : List EV) : List (Nat × EV) → Option (List EV)
 | [] => some cells
 | (i, v) :: rest =>
  match place i with
  | none => none
  | some (off, size) =>
   bif v.cells.length != size || decide (off + v.cells.length > cells.length) then none
   else Ax8 place (H7 cells off v.cells) rest
theorem Aa6 (cs : List EV) (off : Nat) (c : List EV) (h : off + c.length ≤ cs.length) : H7 cs off c = cs.take off ++ c ++ cs.drop (off + c.length) := by
 unfold H7
 split
 ·rename_i v
  simp only [List.length_cons, List.length_nil] at h ⊢
  rw [List.set_eq_take_append_cons_drop, if_pos (by omega)]
  simp
 ·rfl
theorem Y3 {n : Nat} {cs c : List EV} {off : Nat} (h1 : A0 n cs) (h2 : A0 n c) : A0 n (H7 cs off c) := by
 rw [D8] at *
 unfold H7
 split
 ·rename_i v
  intro u hu
  rcases List.mem_or_eq_of_mem_set hu with h | h
  ·exact h1 u h
  ·subst h; exact h2 u (by simp)
 ·intro u hu
  simp only [List.mem_append] at hu
  rcases hu with (h | h) | h
  ·exact h1 u (List.mem_of_mem_take h)
  ·exact h2 u h
  ·exact h1 u (List.mem_of_mem_drop h)
theorem Ba6 (cs : Array Value) : ∀ (c : List Value) (off j : Nat), off + j + c.length ≤ cs.size →
  (c.zipIdx j).foldl (fun cs (x, j) => cs.setIfInBounds (off + j) x) cs = (cs.toList.take (off + j) ++ c ++ cs.toList.drop (off + j + c.length)).toArray := by
 intro c
 induction c generalizing cs with
 | nil => intro off j h; simp
 | cons x c ih =>
  intro off j h
  simp only [List.length_cons] at h
  rw [List.zipIdx_cons, List.foldl_cons, ih _ off (j + 1) (by simp; omega)]
  simp only [Array.toList_setIfInBounds, List.length_cons]
  apply Array.ext'
  simp only
  apply List.ext_getElem?
  intro q
  simp only [List.getElem?_append, List.getElem?_take, List.getElem?_drop, List.length_append, List.length_take, List.length_set, List.getElem?_set, List.length_cons, Array.length_toList]
  by_cases hq : q < off + j
  ·have : off + j ≠ q := by omega
   simp [hq, this, show q < off + (j + 1) by omega, show q < min (off + (j+1)) cs.size by omega, show q < min (off+j) cs.size by omega,
    show q < min (off + (j + 1)) cs.size + c.length by omega, show q < min (off + j) cs.size + (c.length + 1) by omega]
  ·by_cases hq1 : q = off + j
   ·subst hq1
    simp [show off + j < off + (j + 1) by omega, show off + j < min (off + (j + 1)) cs.size by omega, show ¬ off + j < min (off + j) cs.size by omega,
     show off + j < min (off + (j + 1)) cs.size + c.length by omega, show off + j < min (off + j) cs.size + (c.length + 1) by omega, show off + j < cs.size by omega,
     show off + j - min (off + j) cs.size = 0 by omega]
   ·have e1 : ¬ q < min (off + (j + 1)) cs.size := by omega
    have e2 : ¬ q < min (off + j) cs.size := by omega
    by_cases hq2 : q < off + j + (c.length + 1)
    ·simp [e1, e2, show q < min (off + (j + 1)) cs.size + c.length by omega, show q < min (off + j) cs.size + (c.length + 1) by omega]
     rw [show q - min (off + j) cs.size = (q - min (off + (j + 1)) cs.size) + 1 by omega]
     simp
    ·simp [e1, e2, show ¬ q < min (off + (j + 1)) cs.size + c.length by omega, show ¬ q < min (off + j) cs.size + (c.length + 1) by omega]
     have e3 : off + (j + 1) + c.length + (q - (min (off + (j + 1)) cs.size + c.length)) = off + j + (c.length + 1) + (q - (min (off + j) cs.size + (c.length + 1))) := by omega
     rw [e3]
     have : off + j ≠ off + j + (c.length + 1) + (q - (min (off + j) cs.size + (c.length + 1))) := by omega
     simp [this]
theorem U1 {bs : Nat → Nat} {n : Nat} (place : Nat → Option (Nat × Nat)) : ∀ (parts : List (Nat × EV)) (cells out : List EV), Ax8 place cells parts = some out → A0 n cells → (∀ p ∈ parts, closed n p.2 ∧ ∀ u, p.2 ≠ .raw u ∨ p.2.one = true) →
  Instr.fill place (A8 bs cells).toArray (parts.map fun p => (p.1, real bs p.2)) = some (A8 bs out).toArray ∧ A0 n out
 | [], cells, out, h, hc, _ => by
  simp only [Ax8, Option.some.injEq] at h; subst h; exact ⟨rfl, hc⟩
 | (i, v) :: rest, cells, out, h, hc, hp => by
  simp only [Ax8] at h
  cases hpl : place i with
  | none => simp [hpl] at h
  | some os =>
   obtain ⟨off, size⟩ := os
   simp only [hpl] at h
   cases hb : (v.cells.length != size || decide (off + v.cells.length > cells.length)) with
   | true => simp [hb] at h
   | false =>
    simp only [hb, cond_false] at h
    simp only [Bool.or_eq_false_iff, bne_eq_false_iff_eq, decide_eq_false_iff_not] at hb
    have hv := hp (i, v) (by simp)
    have hcv : A0 n v.cells := U2 hv.1
    obtain ⟨r1, r2⟩ := U1 place rest _ out h (Y3 hc hcv) (fun p hp' => hp p (by simp [hp']))
    refine ⟨?_, r2⟩
    have hrc : (real bs v).cells = (A8 bs v.cells).toArray := by
     cases v with
     | raw u =>
      have : u.oneCell' = true := by
       rcases hv.2 u with h | h
       ·exact absurd rfl h
       ·exact h
      cases u <;> simp_all [real, EV.cells, Value.cells, A8, Value.oneCell']
     | _ => exact Ac9 bs _ (by intro u; simp)
    have hsz : (real bs v).cells.size = v.cells.length := by rw [hrc]; simp [A9]
    rw [List.map_cons, Instr.fill]
    simp only [hpl]
    have hno : ((decide ((real bs v).cells.size ≠ size)) || decide (off + (real bs v).cells.size > (A8 bs cells).toArray.size)) = false := by
     rw [hsz]; simp [A9]; omega
    rw [if_neg (by simpa using hno)]
    have hz : (real bs v).cells.zipIdx.foldl (fun cs (x : Value × Nat) => cs.setIfInBounds (off + x.2) x.1) (A8 bs cells).toArray = (A8 bs (H7 cells off v.cells)).toArray := by
     have := Ba6 (A8 bs cells).toArray (A8 bs v.cells) off 0 (by simp [A9]; omega)
     rw [hrc, ← Array.foldl_toList, Array.toList_zipIdx]
     simp only [Nat.add_zero] at this
     rw [this, Aa6 _ _ _ (by omega)]
     simp [A9, List.map_append, List.map_take, List.map_drop]
    rw [hz]
    exact r1
/-- The zero value's cells. -/
def G5 (P : Program) (T : TypeId) : Option (List EV) :=
 match P.info? T with
 | some i => match i.zero with
  | some z => some (z.cells.toList.map C9)
  | none => none
 | none => none
theorem R5 {P : Program} {w : World} {T : TypeId} {zs : List EV} (bs : Nat → Nat) (n : Nat) (h : G5 P T = some zs) :
  ∃ z, (zeroValue T).run P w = .ok z w ∧ z.cells = (A8 bs zs).toArray ∧ A0 n zs := by
 unfold G5 at h
 split at h
 ·rename_i i hi
  split at h
  ·rename_i z hz
   simp only [Option.some.injEq] at h; subst h
   exact ⟨z, by simp [zeroValue, typeInfo, hi, hz], by simp [V4], S6 _ _⟩
  ·simp at h
 ·simp at h
/-- The places of a struct's fields. -/
def T8 (P : Program) : List Field → Option (List (Nat × Nat))
 | [] => some []
 | f :: fs => match P.underlying f.type, T8 P fs with
  | some _, some r => some ((f.offset, P.cellsOf f.type) :: r)
  | _, _ => none
theorem Af0 {P : Program} {w : World} : ∀ (fs : List Field) (r : List (Nat × Nat)), T8 P fs = some r →
  (fs.mapM fun f => (do pure (f.offset, ← sizeOf f.type) : Sem (Nat × Nat))).run P w = .ok r w
 | [], r, h => by simp only [T8, Option.some.injEq] at h; subst h; simp
 | f :: fs, r, h => by
  simp only [T8] at h
  cases hi : P.underlying f.type with
  | none => simp [hi] at h
  | some i =>
   cases hr : T8 P fs with
   | none => simp [hi, hr] at h
   | some r' =>
    simp only [hi, hr, Option.some.injEq] at h; subst h
    have ih := Af0 (w := w) fs r' hr
    have e := F0 P w f.type _ hi
    rw [List.mapM_cons]
    simp only [Sem.run_bind, Sem.run_pure, e, Result.andThen_ok, ih]
def evs (σ : List (Nat × EV)) : List (Nat × Operand) → List (Nat × EV)
 | [] => []
 | (i, o) :: r => (i, ev σ o) :: evs σ r
def Aa8 : List (Nat × EV) → Bool
 | [] => true
 | (_, v) :: r => (match v with
  | .any => false
  | .tup _ => false
  | .raw u => u.oneCell'
  | _ => true) && Aa8 r
def Al0 (P : Program) (T : TypeId) (parts : List (Nat × EV)) : Option EV :=
 match G5 P T with
 | none => none
 | some zs =>
  bif Aa8 parts then
   match P.underlying T with
   | some (.struct fields) => match T8 P fields.toList with
    | none => none
    | some pl => match Ax8 (fun (i : Nat) => pl[i]?) zs parts with
     | some cs => some (.agg cs)
     | none => none
   | some (.array _ e) => match P.underlying e with
    | none => none
    | some _ => match Ax8 (fun i => some (i * P.cellsOf e, P.cellsOf e)) zs parts with
     | some cs => some (.agg cs)
     | none => none
   | _ => none
  else none
theorem X0 : ∀ {parts : List (Nat × EV)}, Aa8 parts = true → ∀ p ∈ parts, p.2 ≠ .any ∧ ∀ u, p.2 ≠ .raw u ∨ p.2.one = true
 | [], _, p, hp => by simp at hp
 | (i, v) :: r, h, p, hp => by
  simp only [Aa8, Bool.and_eq_true] at h
  rcases List.mem_cons.1 hp with rfl | hp
  ·refine ⟨fun e => ?_, fun u => ?_⟩
   ·simp only at e; subst e; simp at h
   ·by_cases e : v = .raw u
    ·subst e; right; exact h.1
    ·left; exact e
  ·exact X0 h.2 p hp
theorem At6 {P : Program} {w : World} {bs : Nat → Nat} {n : Nat} {T : TypeId} {parts : List (Nat × EV)} {v : EV} (h : Al0 P T parts = some v) (hcl : ∀ p ∈ parts, closed n p.2) :
  (Instr.build T (parts.map fun p => (p.1, real bs p.2)).toArray).run P w = .ok (real bs v) w ∧ closed n v := by
 unfold Al0 at h
 split at h
 ·simp at h
 ·rename_i zs hz
  cases ho : Aa8 parts with
  | false => simp [ho] at h
  | true =>
   simp only [ho, cond_true] at h
   have hsp := X0 ho
   have hp : ∀ p ∈ parts, closed n p.2 ∧ ∀ u, p.2 ≠ .raw u ∨ p.2.one = true := fun p hp => ⟨hcl p hp, (hsp p hp).2⟩
   obtain ⟨z, z1, z2, z3⟩ := R5 (w := w) bs n hz
   split at h
   ·rename_i fields hu
    split at h
    ·simp at h
    ·rename_i pl hpl
     split at h
     ·rename_i cs he
      simp only [Option.some.injEq] at h; subst h
      obtain ⟨f1, f2⟩ := U1 (bs := bs) (n := n) _ parts zs cs he z3 hp
      refine ⟨?_, by simpa [closed] using f2⟩
      have hm := Af0 (w := w) fields.toList pl hpl
      have hm' : (fields.mapM fun f => (do pure (f.offset, ← sizeOf f.type) : Sem (Nat × Nat))).run P w = .ok pl.toArray w := by
       rw [Array.mapM_eq_mapM_toList, Sem.run_map, hm]; rfl
      simp only [Instr.build, Sem.run_bind, z1, Result.andThen_ok, run_underlying _ _ _ _ hu, hm', z2, real]
      have : (fun (i : Nat) => pl.toArray[i]?) = (fun (i : Nat) => pl[i]?) := by funext i; simp
      rw [this, f1]; rfl
     ·simp at h
   ·rename_i len e hu
    split at h
    ·simp at h
    ·rename_i ie hi
     split at h
     ·rename_i cs he
      simp only [Option.some.injEq] at h; subst h
      obtain ⟨f1, f2⟩ := U1 (bs := bs) (n := n) _ parts zs cs he z3 hp
      refine ⟨?_, by simpa [closed] using f2⟩
      have e := F0 P w e _ hi
      simp only [Instr.build, Sem.run_bind, z1, Result.andThen_ok, run_underlying _ _ _ _ hu, e, z2, real, f1]; rfl
     ·simp at h
   ·simp at h
end Go.Ew
namespace Go.Ew
open Go RowKit

def put (σ : List (Nat × EV)) (dst : Option Tmp) (v : EV) : List (Nat × EV) :=
 match dst with
 | some d => (d, v) :: σ
 | none => σ
def O3 : List EV → Bool
 | [] => true
 | v :: vs => !v.isAny && O3 vs
theorem Ad1 : ∀ {l : List EV}, O3 l = true → ∀ v ∈ l, v ≠ .any
 | [], _, v, hv => by simp at hv
 | u :: l, h, v, hv => by
  simp only [O3, Bool.and_eq_true, Bool.not_eq_true'] at h
  rcases List.mem_cons.1 hv with rfl | hv
  ·intro e; subst e; simp [EV.isAny] at h
  ·exact Ad1 h.2 v hv
theorem K7 {C : Cx} {ms : List Nat} {n : Nat} {σ : List (Nat × EV)} {bs : Nat → Nat} {a : Act} (h : TRel C ms n σ bs a) (l : List Operand) (ho : O3 (l.map (ev σ)) = true) : l.map a.eval = A8 bs (l.map (ev σ)) := by
 rw [A9, List.map_map]
 apply List.map_congr_left
 intro o hm
 exact D0 h o (Ad1 ho _ (List.mem_map.2 ⟨o, hm, rfl⟩))
theorem K0 {C : Cx} {ms : List Nat} {n : Nat} {σ : List (Nat × EV)} {bs : Nat → Nat} {a : Act} (h : TRel C ms n σ bs a) (l : List Operand) : A0 n (l.map (ev σ)) := by
 rw [D8]; intro v hv
 obtain ⟨o, _, rfl⟩ := List.mem_map.1 hv
 exact F8 h o
def evo (σ : List (Nat × EV)) : Option Operand → Option EV
 | none => none
 | some o => some (ev σ o)
def okO : Option EV → Bool
 | some .any => false
 | _ => true
theorem Bu3 {C : Cx} {ms : List Nat} {n : Nat} {σ : List (Nat × EV)} {bs : Nat → Nat} {a : Act} (h : TRel C ms n σ bs a) (o : Option Operand) (ho : okO (evo σ o) = true) : o.map a.eval = (evo σ o).map (real bs) := by
 cases o with
 | none => rfl
 | some o =>
  simp only [evo, Option.map_some]
  rw [D0 h o (by intro e; simp [evo, e, okO] at ho)]

def Bh5 (P : Program) (T : TypeId) (x : EV) : Prop :=
 match x with
 | .agg _ => P.eqGuardType P.depth T = false
 | _ => True
/-- What an operation that writes no memory yields, and under which condition. -/
def Ak9 (P : Program) (b : Builtin) (Ts : List TypeId) (xs : List EV) : Option EV :=
 match b with
 | .len => match Ts, xs with
  | [T], [x] => bif x.isAny then none else lenOf P T x
  | _, _ => none
 | .min => Br7 xs
 | .max => Br8 xs
 | _ => none
def H1 (C : Cx) (x : X) (op : Op) : Option (EV × Prop) :=
 match op with
 | .move a => some (ev x.σ a, True)
 | .assign a => some (ev x.σ a, True)
 | .pick c a b => match ev x.σ c with
  | .bool t => some (match t with
   | true => ev x.σ a
   | false => ev x.σ b, True)
  | _ => none
 | .load T p => M2 C x.B x.hs T (ev x.σ p)
 | .binOp op T a b _ => match Al1 C.P op T (ev x.σ a) (ev x.σ b) with
  | some (v, c) => some (v, c ∧ Bh5 C.P T (ev x.σ a))
  | none => none
 | .unOp op _ a => match Cn5 op (ev x.σ a) with
  | some v => some (v, True)
  | none => none
 | .convert s d a => match Ay4 C.P s d (ev x.σ a) with
  | some v => some (v, True)
  | none => none
 | .index T a i => Ad6 C.P T (ev x.σ a) (ev x.σ i)
 | .indexAddr T a i => M3 C.P T (ev x.σ a) (ev x.σ i)
 | .fieldAddr T a f => P5 C.P T (ev x.σ a) f
 | .field T a f => Aj5 C.P T (ev x.σ a) f
 | .slice T a lo hi mx => bif okO (evo x.σ lo) && okO (evo x.σ hi) && okO (evo x.σ mx) then Ah8 C.P T (ev x.σ a) (evo x.σ lo) (evo x.σ hi) (evo x.σ mx) else none
 | .extract a i => V8 (ev x.σ a) i
 | .build T parts => match Al0 C.P T (evs x.σ parts.toList) with
  | some v => some (v, True)
  | none => none
 | .makeFunc f first cap => bif O3 (first.toList.map (ev x.σ)) && O3 (cap.toList.map (ev x.σ)) then some (.fn f (first.toList.map (ev x.σ)) (cap.toList.map (ev x.σ)), True) else none
 | .nilCheck a => match ev x.σ a with
  | .ptr i off => some (.ptr i off, True)
  | .raw (.pointer (some ad)) => some (.raw (.pointer (some ad)), True)
  | .fn (.func f) a b => some (.fn (.func f) a b, True)
  | _ => none
 | .call { callee := .builtin b, args, argTypes } => match Ak9 C.P b argTypes.toList (args.toList.map (ev x.σ)) with
  | some v => some (v, True)
  | none => none
 | _ => none

theorem Ao1 {C : Cx} {B : Base} {hs : List (Nat × Option EObj)} {T : TypeId} {p : EV} {r} (h : M2 C B hs T p = some r) : p ≠ .any := by
 intro e; subst e; simp [M2] at h
theorem Az9 {P : Program} {op : BinOp} {T : TypeId} {x y : EV} {r} (h : Al1 P op T x y = some r) : x ≠ .any ∧ y ≠ .any := by
 constructor
 ·intro e; subst e; cases y <;> simp [Al1] at h
 ·intro e; subst e; cases x <;> simp [Al1] at h
theorem Bd3 {C : Cx} {ms : List Nat} {n : Nat} {σ : List (Nat × EV)} {bs : Nat → Nat} {a : Act} (h : TRel C ms n σ bs a) : ∀ (l : List (Nat × Operand)), Aa8 (evs σ l) = true →
  (l.map fun (i, x) => (i, a.eval x)) = ((evs σ l).map fun p => (p.1, real bs p.2)) ∧ ∀ p ∈ evs σ l, closed n p.2
 | [], _ => by simp [evs]
 | (i, o) :: r, ho => by
  have hsp := X0 ho (i, ev σ o) (by simp [evs])
  simp only [evs, Aa8, Bool.and_eq_true] at ho
  obtain ⟨e1, e2⟩ := Bd3 h r ho.2
  refine ⟨?_, ?_⟩
  ·simp only [evs, List.map_cons, e1, D0 h o hsp.1]
  ·intro p hp
   simp only [evs, List.mem_cons] at hp
   rcases hp with rfl | hp
   ·exact F8 h o
   ·exact e2 p hp
theorem Bd5 {P : Program} {w : World} {op : BinOp} {T : TypeId} {x y : Operand} {u v : EV} {bs : Nat → Nat} {r : EV × Prop} (h : Al1 P op T u v = some r) (hg : Bh5 P T u) :
  (eqGuard op T x y (real bs u) (real bs v)).run P w = .ok () w := by
 unfold Al1 at h
 split at h
 ·simp only [eqGuard, real]; split <;> rfl
 ·simp only [eqGuard, real]; split <;> rfl
 ·simp only [eqGuard, real]; split <;> rfl
 ·simp only [Bh5] at hg
  exact run_eqGuard_agg w op T x y _ _ hg
 ·rename_i i o l c' v'
  split at h
  ·simp only [eqGuard, real]; split <;> rfl
  ·simp only [eqGuard, real]; split <;> rfl
  ·simp at h
 ·split at h
  ·simp only [eqGuard, real]; split <;> rfl
  ·simp only [eqGuard, real]; split <;> rfl
  ·simp at h
 ·split at h
  ·simp only [eqGuard, real]; split <;> rfl
  ·simp only [eqGuard, real]; split <;> rfl
  ·simp at h
 ·simp at h

theorem Aw2 {C : Cx} {x : X} {bs : Nat → Nat} {a : Act} {w : World} (hr : Rel C x bs a w) {o : Oper} {v : EV} {c : Prop} (h : H1 C x o.op = some (v, c)) (hc : c) :
  ∃ V, (execOp a.eval o).run C.P w = .ok (.value V) w ∧ (v = .any ∨ V = real bs v) ∧ closed x.n v := by
 have ht := hr.t
 obtain ⟨dst, op, type, pos, after, guard⟩ := o
 simp only at h
 unfold H1 at h
 split at h
 ·simp only [Option.some.injEq, Prod.mk.injEq] at h; obtain ⟨rfl, rfl⟩ := h
  rename_i y
  refine ⟨a.eval y, rfl, ?_, F8 ht y⟩
  by_cases e : ev x.σ y = .any
  ·exact .inl e
  ·exact .inr (D0 ht y e)
 ·simp only [Option.some.injEq, Prod.mk.injEq] at h; obtain ⟨rfl, rfl⟩ := h
  rename_i y
  refine ⟨a.eval y, rfl, ?_, F8 ht y⟩
  by_cases e : ev x.σ y = .any
  ·exact .inl e
  ·exact .inr (D0 ht y e)
 ·rename_i cc y z
  split at h
  ·rename_i t hb
   simp only [Option.some.injEq, Prod.mk.injEq] at h; obtain ⟨rfl, rfl⟩ := h
   have hcv := D0 ht cc (by rw [hb]; simp)
   rw [hb] at hcv
   refine ⟨if t then a.eval y else a.eval z, ?_, ?_, ?_⟩
   ·simp [execOp, hcv, real, asBool]
   ·cases t
    ·simp only [Bool.false_eq_true, if_false]
     by_cases e : ev x.σ z = .any
     ·exact .inl e
     ·exact .inr (D0 ht z e)
    ·simp only [if_true]
     by_cases e : ev x.σ y = .any
     ·exact .inl e
     ·exact .inr (D0 ht y e)
   ·cases t
    ·exact F8 ht z
    ·exact F8 ht y
  ·simp at h
 ·rename_i T p
  have hp := D0 ht p (Ao1 h)
  obtain ⟨r1, r2⟩ := Af2 hr.h h hc
  refine ⟨_, ?_, .inr rfl, r2⟩
  simp [execOp, hp, r1]
 ·rename_i op T y z _
  split at h
  ·rename_i v' c' hb
   simp only [Option.some.injEq, Prod.mk.injEq] at h; obtain ⟨rfl, rfl⟩ := h
   have hy := D0 ht y (Az9 hb).1
   have hz := D0 ht z (Az9 hb).2
   refine ⟨_, ?_, .inr rfl, Az8 _ hb⟩
   simp only [execOp, hy, hz, Sem.run_bind, Bd5 hb hc.2, Result.andThen_ok, Be4 bs hb hc.1, Sem.run_pure]
  ·simp at h
 ·rename_i op _ y
  split at h
  ·rename_i v' hb
   simp only [Option.some.injEq, Prod.mk.injEq] at h; obtain ⟨rfl, rfl⟩ := h
   have hy := D0 ht y (by intro e; rw [e] at hb; cases op <;> simp [Cn5] at hb)
   obtain ⟨r1, r2⟩ := Bj8 (P := C.P) (w := w) (bs := bs) (n := x.n) hb
   exact ⟨_, by simp [execOp, hy, r1], .inr rfl, r2⟩
  ·simp at h
 ·rename_i s d y
  split at h
  ·rename_i v' hb
   simp only [Option.some.injEq, Prod.mk.injEq] at h; obtain ⟨rfl, rfl⟩ := h
   have hy := D0 ht y (by
    intro e; rw [e] at hb; unfold Ay4 at hb; split at hb <;> simp_all)
   obtain ⟨r1, r2⟩ := Ay3 (P := C.P) (w := w) (bs := bs) (n := x.n) hb
   exact ⟨_, by simp [execOp, hy, r1], .inr rfl, r2⟩
  ·simp at h
 ·rename_i T y i
  have hi := D0 ht i (by intro e; rw [e] at h; simp [Ad6] at h)
  have hy := D0 ht y (by
   intro e; rw [e] at h; unfold Ad6 at h; split at h
   ·split at h <;> simp_all
   ·simp at h)
  obtain ⟨r1, r2⟩ := Ar7 (w := w) (bs := bs) h hc (F8 ht y)
  exact ⟨_, by simp [execOp, hy, hi, r1], .inr rfl, r2⟩
 ·rename_i T y i
  have hi := D0 ht i (by intro e; rw [e] at h; simp [M3] at h)
  have hy := D0 ht y (by
   intro e; rw [e] at h; unfold M3 at h; split at h
   ·split at h <;> simp_all
   ·simp at h)
  obtain ⟨r1, r2⟩ := Ad7 (w := w) (bs := bs) h hc (F8 ht y)
  exact ⟨_, by simp [execOp, hy, hi, r1], .inr rfl, r2⟩
 ·rename_i T y f
  have hy := D0 ht y (by
   intro e; rw [e] at h; unfold P5 at h; split at h
   ·split at h <;> simp_all
   ·simp at h)
  obtain ⟨r1, r2⟩ := Ae1 (w := w) (bs := bs) h hc (F8 ht y)
  exact ⟨_, by simp [execOp, hy, r1], .inr rfl, r2⟩
 ·rename_i T y f
  have hy := D0 ht y (by
   intro e; rw [e] at h; unfold Aj5 at h; split at h <;> simp_all)
  obtain ⟨r1, r2⟩ := As6 (w := w) (bs := bs) h hc (F8 ht y)
  exact ⟨_, by simp [execOp, hy, r1], .inr rfl, r2⟩
 ·rename_i T y lo hi mx
  cases hk : (okO (evo x.σ lo) && okO (evo x.σ hi) && okO (evo x.σ mx)) with
  | false => simp [hk] at h
  | true =>
   simp only [hk, cond_true] at h
   simp only [Bool.and_eq_true] at hk
   have hy := D0 ht y (by
    intro e; rw [e] at h; unfold Ah8 at h; split at h
    ·split at h <;> simp_all
    ·split at h <;> simp_all
    ·split at h <;> simp_all
    ·simp at h)
   obtain ⟨r1, r2⟩ := Aq4 (w := w) (bs := bs) h hc (F8 ht y)
   refine ⟨_, ?_, .inr rfl, r2⟩
   simp only [execOp, hy, Bu3 ht lo hk.1.1, Bu3 ht hi hk.1.2, Bu3 ht mx hk.2, Sem.run_bind, r1, Result.andThen_ok, Sem.run_pure]
 ·rename_i y i
  have hy := D0 ht y (by intro e; rw [e] at h; simp [V8] at h)
  obtain ⟨r1, r2⟩ := Aj6 (P := C.P) (w := w) (bs := bs) h hc (F8 ht y)
  exact ⟨_, by simp [execOp, hy, r1], .inr rfl, r2⟩
 ·rename_i T parts
  split at h
  ·rename_i v' hb
   simp only [Option.some.injEq, Prod.mk.injEq] at h; obtain ⟨rfl, rfl⟩ := h
   have ho : Aa8 (evs x.σ parts.toList) = true := by
    unfold Al0 at hb
    split at hb
    ·simp at hb
    ·cases ho : Aa8 (evs x.σ parts.toList) with
     | true => rfl
     | false => simp [ho] at hb
   obtain ⟨e1, e2⟩ := Bd3 ht parts.toList ho
   obtain ⟨r1, r2⟩ := At6 (w := w) (bs := bs) hb e2
   refine ⟨_, ?_, .inr rfl, r2⟩
   have e3 : (parts.map fun (i, x) => (i, a.eval x)) = ((evs x.σ parts.toList).map fun p => (p.1, real bs p.2)).toArray := by
    apply Array.ext'; simp [← e1]
   simp only [execOp, e3, Sem.run_bind, r1, Result.andThen_ok, Sem.run_pure]
  ·simp at h
 ·rename_i f first cap
  cases hk : (O3 (first.toList.map (ev x.σ)) && O3 (cap.toList.map (ev x.σ))) with
  | false => simp [hk] at h
  | true =>
   simp only [hk, cond_true, Option.some.injEq, Prod.mk.injEq] at h; obtain ⟨rfl, rfl⟩ := h
   simp only [Bool.and_eq_true] at hk
   have e1 : first.map a.eval = (A8 bs (first.toList.map (ev x.σ))).toArray := by apply Array.ext'; simp [← K7 ht _ hk.1]
   have e2 : cap.map a.eval = (A8 bs (cap.toList.map (ev x.σ))).toArray := by apply Array.ext'; simp [← K7 ht _ hk.2]
   refine ⟨_, ?_, .inr rfl, ?_⟩
   ·simp [execOp, Instr.makeFunc, e1, e2, real]
   ·simp only [closed]; exact ⟨K0 ht _, K0 ht _⟩
 ·rename_i y
  split at h
  ·rename_i hy
   simp only [Option.some.injEq, Prod.mk.injEq] at h; obtain ⟨rfl, rfl⟩ := h
   have hcl := F8 ht y
   have hy' := D0 ht y (by rw [hy]; simp)
   rw [hy] at hy' hcl
   exact ⟨_, by simp [execOp, hy', real], .inr rfl, hcl⟩
  ·rename_i hy
   simp only [Option.some.injEq, Prod.mk.injEq] at h; obtain ⟨rfl, rfl⟩ := h
   have hy' := D0 ht y (by rw [hy]; simp)
   rw [hy] at hy'
   exact ⟨_, by simp [execOp, hy', real], .inr rfl, trivial⟩
  ·rename_i hy
   simp only [Option.some.injEq, Prod.mk.injEq] at h; obtain ⟨rfl, rfl⟩ := h
   have hcl := F8 ht y
   have hy' := D0 ht y (by rw [hy]; simp)
   rw [hy] at hy' hcl
   exact ⟨_, by simp [execOp, hy', real], .inr rfl, hcl⟩
  ·simp at h
 ·rename_i b args argTypes
  split at h
  ·rename_i v' hb
   simp only [Option.some.injEq, Prod.mk.injEq] at h; obtain ⟨rfl, rfl⟩ := h
   unfold Ak9 at hb
   split at hb
   ·split at hb
    ·rename_i T y hT hx
     cases hk : y.isAny with
     | true => simp [hk] at hb
     | false =>
      simp only [hk, cond_false] at hb
      have hl : O3 (args.toList.map (ev x.σ)) = true := by rw [hx]; simp [O3, hk]
      have e1 := K7 ht args.toList hl
      rw [hx] at e1
      have e2 : args.map a.eval = #[real bs y] := by apply Array.ext'; simpa [A8] using e1
      have e3 : argTypes = #[T] := by apply Array.ext'; simpa using hT
      obtain ⟨r1, r2⟩ := Bc8 (w := w) (bs := bs) (n := x.n) (ty := type) hb
      refine ⟨_, ?_, .inr rfl, r2⟩
      simp only [execOp, resolve, Sem.run_bind, Sem.run_pure, Result.andThen_ok, invoke, builtin, e2, e3, r1]
    ·simp at hb
   ·have hl : O3 (args.toList.map (ev x.σ)) = true := by
     unfold Br7 at hb; split at hb
     ·rename_i hx; rw [hx]; rfl
     ·simp at hb
    have e1 := K7 ht args.toList hl
    have e2 : args.map a.eval = (A8 bs (args.toList.map (ev x.σ))).toArray := by apply Array.ext'; simpa using e1
    obtain ⟨r1, r2⟩ := Bc3 (P := C.P) (w := w) (bs := bs) (n := x.n) (ty := type) (Ts := argTypes) hb
    refine ⟨_, ?_, .inr rfl, r2⟩
    simp only [execOp, resolve, Sem.run_bind, Sem.run_pure, Result.andThen_ok, invoke, builtin, e2, r1]
   ·have hl : O3 (args.toList.map (ev x.σ)) = true := by
     unfold Br8 at hb; split at hb
     ·rename_i hx; rw [hx]; rfl
     ·simp at hb
    have e1 := K7 ht args.toList hl
    have e2 : args.map a.eval = (A8 bs (args.toList.map (ev x.σ))).toArray := by apply Array.ext'; simpa using e1
    obtain ⟨r1, r2⟩ := Bc4 (P := C.P) (w := w) (bs := bs) (n := x.n) (ty := type) (Ts := argTypes) hb
    refine ⟨_, ?_, .inr rfl, r2⟩
    simp only [execOp, resolve, Sem.run_bind, Sem.run_pure, Result.andThen_ok, invoke, builtin, e2, r1]
   ·simp at hb
  ·simp at h
 ·simp at h
end Go.Ew
namespace Go.Ew
open Go RowKit

def upd (bs : Nat → Nat) (n b : Nat) : Nat → Nat := fun i => if i = n then b else bs i
theorem I2 {bs : Nat → Nat} {n b : Nat} : ∀ i, i < n → upd bs n b i = bs i := fun i hi => by simp [upd, Nat.ne_of_lt hi]
theorem E7 {bs : Nat → Nat} {n b : Nat} : upd bs n b n = b := by simp [upd]
theorem EObj.real_congr {n : Nat} {bs bs' : Nat → Nat} (h : ∀ i, i < n → bs' i = bs i) : ∀ o : EObj, o.closed n → o.real bs' = o.real bs
  | .cells cs T fr, hc => by simp only [EObj.real, J6 h cs hc]
  | .obj o, _ => rfl
theorem EObj.closed_mono {n m : Nat} (h : n ≤ m) : ∀ o : EObj, o.closed n → o.closed m
  | .cells cs T fr, hc => D7 h cs hc
  | .obj o, _ => trivial
theorem G3 {w : World} {b : Nat} {o : Obj} (h : w.heap[b]? = some o) : b < w.heap.size := by
  rcases Nat.lt_or_ge b w.heap.size with hl | hl
  · exact hl
  · rw [Array.getElem?_eq_none hl] at h; simp at h
theorem C0 (i j : Nat) (o : Option EObj) (hs : List (Nat × Option EObj)) : hget ((i, o) :: hs) j = if i = j then o else hget hs j := by
  by_cases h : i = j
  · subst h; simp [hget]
  · rw [if_neg h]; simp only [hget]; rw [beq_false_of_ne h]; rfl
theorem HRel.alloc {C : Cx} {n : Nat} {B : Base} {hs : List (Nat × Option EObj)} {bs : Nat → Nat} {w : World} (h : HRel C B n hs bs w) (o : EObj) (ho : o.closed n) :
    HRel C B (n + 1) ((n, some o) :: hs) (upd bs n w.heap.size) { w with heap := w.heap.push (o.real bs) } := by
  have hlt : ∀ i o, hget hs i = some o → i < n ∧ bs i < w.heap.size := fun i o hi => ⟨(h.live i o hi).1, G3 (h.live i o hi).2⟩
  refine ⟨?_, ?_, ?_, ?_, ?_, ?_, h.os, h.tape, h.output, ?_, ?_, ?_, h.apart, by have := h.eo.1; simp; omega, h.eo.2⟩
  · intro i o' hi
    rw [C0] at hi
    by_cases e : n = i
    · subst e
      simp only [if_true, Option.some.injEq] at hi; subst hi
      refine ⟨by omega, ?_⟩
      rw [E7, EObj.real_congr I2 o ho]; simp
    · rw [if_neg e] at hi
      obtain ⟨l1, l2⟩ := hlt i o' hi
      refine ⟨by omega, ?_⟩
      rw [I2 i l1, EObj.real_congr I2 o' (h.cl i o' hi)]
      show (w.heap.push _)[bs i]? = _
      rw [Array.getElem?_push, if_neg (by omega)]; exact (h.live i o' hi).2
  · intro i o' hi
    rw [C0] at hi
    by_cases e : n = i
    · rw [if_pos e, Option.some.injEq] at hi; subst hi; exact EObj.closed_mono (by omega) o ho
    · rw [if_neg e] at hi; exact EObj.closed_mono (by omega) o' (h.cl i o' hi)
  · intro i j oi oj hi hj hb
    rw [C0] at hi hj
    by_cases ei : n = i
    · by_cases ej : n = j
      · omega
      · rw [if_neg ej] at hj
        obtain ⟨l1, l2⟩ := hlt j oj hj
        rw [← ei, E7, I2 j l1] at hb; omega
    · rw [if_neg ei] at hi
      obtain ⟨l1, l2⟩ := hlt i oi hi
      by_cases ej : n = j
      · rw [← ej, E7, I2 i l1] at hb; omega
      · rw [if_neg ej] at hj
        obtain ⟨l3, l4⟩ := hlt j oj hj
        rw [I2 i l1, I2 j l3] at hb
        exact h.inj i j oi oj hi hj hb
  · intro i b hi
    obtain ⟨h1, h2⟩ := h.old i b hi
    exact ⟨by rw [I2 i h2]; exact h1, by omega⟩
  · intro i o' hi
    rw [C0] at hi
    by_cases e : n = i
    · subst e; rw [E7]; intro hD; have := (h.frame _ hD).1; omega
    · rw [if_neg e] at hi
      rw [I2 i (hlt i o' hi).1]; exact h.new i o' hi
  · intro k hk
    obtain ⟨h1, h2⟩ := h.frame k hk
    refine ⟨by simp; omega, ?_⟩
    show (w.heap.push _)[k]? = _
    rw [Array.getElem?_push, if_neg (by omega)]; exact h2
  · show B.w.heap.size ≤ (w.heap.push _).size
    have := h.hsize; simp; omega
  · intro i o' hi
    rw [C0] at hi
    by_cases e : n = i
    · subst e; rw [E7]; intro hD; have := (h.frameE _ hD).1; omega
    · rw [if_neg e] at hi
      rw [I2 i (hlt i o' hi).1]; exact h.newE i o' hi
  · intro k hk
    obtain ⟨h1, h2⟩ := h.frameE k hk
    refine ⟨by simp; omega, ?_⟩
    show (w.heap.push _)[k]? = _
    rw [Array.getElem?_push, if_neg (by omega)]; exact h2

/-- zs, n times over. -/
def rep (n : Nat) (zs : List EV) : List EV := (List.replicate n zs).flatten
theorem Ci1 (n : Nat) (z : EV) : rep n [z] = List.replicate n z := by simp [rep]
theorem An3 (n : Nat) (zs : List EV) : (rep n zs).length = n * zs.length := by simp [rep]
theorem Ci3 {n : Nat} {zs : List EV} {i : Nat} (hi : i < n * zs.length) : (rep n zs)[i]? = zs[i % zs.length]? := by
  induction n generalizing i with
  | zero => omega
  | succ n ih =>
    have e : rep (n + 1) zs = zs ++ rep n zs := by simp [rep, List.replicate_succ]
    rw [e, List.getElem?_append]
    by_cases hl : i < zs.length
    · rw [if_pos hl, Nat.mod_eq_of_lt hl]
    · have hi' : i < n * zs.length + zs.length := by rw [← Nat.succ_mul]; exact hi
      rw [if_neg hl, ih (by omega), ← Nat.mod_eq_sub_mod (by omega)]
theorem T5 {n m : Nat} {zs : List EV} (h : A0 m zs) : A0 m (rep n zs) := by
  rw [D8] at *
  intro v hv
  simp only [rep, List.mem_flatten, List.mem_replicate] at hv
  obtain ⟨l, ⟨_, rfl⟩, hl⟩ := hv
  exact h v hl
theorem Ai1 {bs : Nat → Nat} {n : Nat} {zs : List EV} (z : Array Value) (hz : z = (A8 bs zs).toArray) (hne : zs ≠ []) :
    (Array.range (n * zs.length)).map (z[· % z.size]!) = (A8 bs (rep n zs)).toArray := by
  subst hz
  have hpos : 0 < zs.length := List.length_pos_iff.2 hne
  apply Array.ext'
  apply List.ext_getElem?
  intro i
  by_cases hi : i < n * zs.length
  · have hm : i % zs.length < zs.length := Nat.mod_lt _ hpos
    simp only [A9, Array.toList_map, Array.toList_range, List.getElem?_map, List.getElem?_range hi, Option.map_some, Ci3 hi, List.getElem?_eq_getElem hm, List.size_toArray, List.length_map]
    simp [hm]
  · rw [List.getElem?_eq_none (by simp; omega), List.getElem?_eq_none (by simp [A9, An3]; omega)]

/-- What a new block holds, and the value that tells of it. -/
def G0 (C : Cx) (x : X) (op : Op) : Option (EV × EObj × Prop) :=
  match op with
  | .alloc T => match G5 C.P T with
    | some zs => some (.ptr x.n 0, .cells zs T (0, 0), True)
    | none => none
  | .box T a => match ev x.σ a with
    | .any => none
    | .raw u => some (.ptr x.n 0, .cells [.raw u] T (0, 0), u.oneCell' = true)
    | v => some (.ptr x.n 0, .cells v.cells T (0, 0), True)
  | .buildSlice T len parts =>
    match C.P.underlying T with
    | some (.slice e) =>
      match G5 C.P e with
      | some zs =>
        bif Aa8 (evs x.σ parts.toList) then
          match Ax8 (fun i => some (i * zs.length, zs.length)) (rep len zs) (evs x.σ parts.toList) with
          | some cs => some (.sl x.n 0 len len, .cells cs e (0, 0), (len * zs.length ≤ 16777216 ∧ zs ≠ []) ∧ C.P.cellsOf e = zs.length)
          | none => none
        else none
      | none => none
    | _ => none
  | .makeSlice T l c =>
    match C.P.underlying T, ev x.σ l, ev x.σ c with
    | some (.slice e), .int _ l, .int _ c =>
      match G5 C.P e with
      | some zs => some (.sl x.n 0 l.toNat c.toNat, .cells (rep c.toNat zs) e (0, 0), (0 ≤ l ∧ l ≤ c ∧ c < 9223372036854775808 ∧ C.P.bytesOf e * c ≤ 281474976710656 ∧ zs ≠ []) ∧ C.P.cellsOf e = zs.length)
      | none => none
    | _, _, _ => none
  | _ => none
theorem Ah3 {c : Int} (h0 : 0 ≤ c) (h1 : c < 9223372036854775808) : IntKind.i64.wrap c = c := by
  simp [IntKind.wrap, IntKind.bits, IntKind.signed]
  omega
theorem U6 {C : Cx} {x : X} {bs : Nat → Nat} {a : Act} {w : World} (hr : Rel C x bs a w) {o : Oper} {v : EV} {ob : EObj} {c : Prop} (h : G0 C x o.op = some (v, ob, c)) (hc : c) :
    (execOp a.eval o).run C.P w = .ok (.value (real (upd bs x.n w.heap.size) v)) { w with heap := w.heap.push (ob.real bs) } ∧ closed (x.n + 1) v ∧ ob.closed x.n := by
  have ht := hr.t
  obtain ⟨dst, op, type, pos, after, guard⟩ := o
  simp only at h
  unfold G0 at h
  split at h
  · rename_i T
    split at h
    · rename_i zs hz
      simp only [Option.some.injEq, Prod.mk.injEq] at h; obtain ⟨rfl, rfl, rfl⟩ := h
      obtain ⟨z, z1, z2, z3⟩ := R5 (w := w) bs x.n hz
      refine ⟨?_, by simp [closed], z3⟩
      simp [execOp, Instr.alloc, z1, newVar, newRow, z2, real, E7, EObj.real]
    · simp at h
  · rename_i T y
    split at h
    · simp at h
    · rename_i u hu
      simp only [Option.some.injEq, Prod.mk.injEq] at h; obtain ⟨rfl, rfl, rfl⟩ := h
      have hy := D0 ht y (by rw [hu]; simp)
      rw [hu] at hy
      refine ⟨?_, by simp [closed], by simp [EObj.closed, A0, closed]⟩
      have : u.cells = #[u] := by cases u <;> simp_all [Value.cells, Value.oneCell']
      simp [execOp, Instr.box, newVar, newRow, real, E7, EObj.real, A8, hy, this]
    · rename_i v' h1 h2
      simp only [Option.some.injEq, Prod.mk.injEq] at h; obtain ⟨rfl, rfl, rfl⟩ := h
      have hy := D0 ht y (by intro e; exact h1 e)
      refine ⟨?_, by simp [closed], U2 (F8 ht y)⟩
      have := Ac9 bs (ev x.σ y) (fun u e => h2 u e)
      simp [execOp, Instr.box, newVar, newRow, real, E7, EObj.real, hy, this]
  · rename_i T len parts
    split at h
    · rename_i e hu
      split at h
      · rename_i zs hz
        cases ho : Aa8 (evs x.σ parts.toList) with
        | false => simp [ho] at h
        | true =>
          simp only [ho, cond_true] at h
          split at h
          · rename_i cs he
            simp only [Option.some.injEq, Prod.mk.injEq] at h; obtain ⟨rfl, rfl, rfl⟩ := h
            obtain ⟨z, z1, z2, z3⟩ := R5 (w := w) bs x.n hz
            obtain ⟨e1, e2⟩ := Bd3 ht parts.toList ho
            have hsp := X0 ho
            obtain ⟨f1, f2⟩ := U1 (bs := bs) (n := x.n) _ _ _ cs he (T5 z3) (fun p hp => ⟨e2 p hp, (hsp p hp).2⟩)
            obtain ⟨⟨hlen, hne⟩, hcz⟩ := hc
            refine ⟨?_, by simp [closed], f2⟩
            have hd : ∃ d, C.P.info? e = some d := by
              unfold G5 at hz; cases hi : C.P.info? e with
              | none => simp [hi] at hz
              | some i => exact ⟨i, rfl⟩
            obtain ⟨i, hi⟩ := hd
            have hsz : (sizeOf e).run C.P w = .ok zs.length w := by
              rw [← hcz]; simp [sizeOf, typeInfo, hi, Program.cellsOf]
            have e3 : (parts.map fun (i, x) => (i, a.eval x)) = ((evs x.σ parts.toList).map fun p => (p.1, real bs p.2)).toArray := by
              apply Array.ext'; simp [← e1]
            simp only [execOp, Instr.buildSlice, e3, Sem.run_bind, run_underlying _ _ _ _ hu, Result.andThen_ok, hsz, Sem.run_pure]
            rw [if_neg (by have : (2:Nat)^24 = 16777216 := by decide
                           omega)]
            by_cases h0 : len * zs.length = 0
            · have hpos : 0 < zs.length := List.length_pos_iff.2 hne
              have hl0 : len = 0 := by
                rcases Nat.mul_eq_zero.1 h0 with h | h
                · exact h
                · omega
              subst hl0
              have hrow : (Array.range (0 * zs.length)).map ((#[] : Array Value)[· % (#[] : Array Value).size]!) = (A8 bs (rep 0 zs)).toArray := by simp [rep, A8]
              simp only [if_pos h0, Sem.run_bind, Sem.run_pure, Result.andThen_ok, hrow, f1]
              simp [newRow, real, E7, EObj.real]
            · have hrow := Ai1 (bs := bs) (n := len) (zs := zs) _ rfl hne
              simp only [if_neg h0, Sem.run_bind, Sem.run_pure, z1, z2, Result.andThen_ok, hrow, f1]
              simp [newRow, real, E7, EObj.real]
          · simp at h
      · simp at h
    · simp at h
  · rename_i T l' c'
    split at h
    · rename_i e k l k' c hu hl hcv
      split at h
      · rename_i zs hz
        simp only [Option.some.injEq, Prod.mk.injEq] at h; obtain ⟨rfl, rfl, rfl⟩ := h
        obtain ⟨z, z1, z2, z3⟩ := R5 (w := w) bs x.n hz
        obtain ⟨⟨h0, hlc, hcm, hby, hne⟩, hcz⟩ := hc
        have hl' := D0 ht l' (by rw [hl]; simp)
        have hc' := D0 ht c' (by rw [hcv]; simp)
        rw [hl] at hl'; rw [hcv] at hc'
        refine ⟨?_, by simp [closed], T5 z3⟩
        have hd : ∃ d, C.P.info? e = some d := by
          unfold G5 at hz; cases hi : C.P.info? e with
          | none => simp [hi] at hz
          | some i => exact ⟨i, rfl⟩
        obtain ⟨i, hi⟩ := hd
        have hsz : (sizeOf e).run C.P w = .ok zs.length w := by
          rw [← hcz]; simp [sizeOf, typeInfo, hi, Program.cellsOf]
        have hti : (typeInfo e).run C.P w = .ok i w := by simp [typeInfo, hi]
        have hib : (i.bytes : Int) * c ≤ 281474976710656 := by
          have : C.P.bytesOf e = i.bytes := by simp [Program.bytesOf, hi]
          rw [← this]; exact hby
        simp only [execOp, Instr.makeSlice, hl', hc', real, Sem.run_bind, run_underlying _ _ _ _ hu, Result.andThen_ok, asInt, asIntOf, Sem.run_pure, hti, Ah3 h0 (show l < 9223372036854775808 by omega), Ah3 (show 0 ≤ c by omega) hcm]
        have hcond : ((decide (c < 0) || decide ((i.bytes : Int) * c > 2 ^ 48)) || decide (l < 0) || decide (l > c)) = false := by
          have : (2 : Int) ^ 48 = 281474976710656 := by decide
          rw [this]; simp; omega
        rw [if_neg (by simpa using hcond)]
        simp only [Sem.run_bind, Sem.run_pure, Result.andThen_ok, run_askRoom, hsz]
        by_cases h0 : c.toNat * zs.length = 0
        · have hpos : 0 < zs.length := List.length_pos_iff.2 hne
          have hl0 : c.toNat = 0 := by
            rcases Nat.mul_eq_zero.1 h0 with h | h
            · exact h
            · omega
          have hrow : (Array.range (0 * zs.length)).map ((#[] : Array Value)[· % (#[] : Array Value).size]!) = (A8 bs (rep 0 zs)).toArray := by simp [rep, A8]
          rw [if_pos h0]
          simp only [hl0, Sem.run_bind, Sem.run_pure, Result.andThen_ok, hrow]
          simp [newRow, real, E7, EObj.real]
        · have hrow := Ai1 (bs := bs) (n := c.toNat) (zs := zs) _ rfl hne
          rw [if_neg h0]
          simp only [Sem.run_bind, Sem.run_pure, z1, z2, Result.andThen_ok, hrow]
          simp [newRow, real, E7, EObj.real]
      · simp at h
    · simp at h
  · simp at h
end Go.Ew
namespace Go.Ew
open Go RowKit

def J1 (w : World) (b : Nat) (o : Obj) : World := { w with heap := w.heap.setIfInBounds b o }
theorem Bb3 {w : World} {b : Nat} {cs : Array Value} {T : TypeId} {fr : Nat × Nat} (h : w.heap[b]? = some (.cells cs T fr)) (off : Nat) (v : Value) :
  w.setCell ⟨b, off, none⟩ v = J1 w b (.cells (cs.setIfInBounds off v) T fr) := by
 have hb := G3 h
 simp only [World.setCell, J1]
 congr 1
 apply Array.ext_getElem?
 intro k
 rw [Array.getElem?_modify, Array.getElem?_setIfInBounds]
 by_cases hk : b = k
 ·subst hk
  simp only [if_true, h, hb]; rfl
 ·rw [if_neg hk, if_neg hk]
theorem An1 {w : World} {b : Nat} {o : Obj} (h : b < w.heap.size) : (J1 w b o).heap[b]? = some o := by
 simp [J1, Array.getElem?_setIfInBounds, h]
theorem Aq5 (w : World) (b : Nat) (o o' : Obj) : J1 (J1 w b o) b o' = J1 w b o' := by
 simp [J1]
theorem R3 {P : Program} {b : Nat} {T : TypeId} {fr : Nat × Nat} : ∀ (vs : List Value) (w : World) (cs : Array Value) (off i : Nat), w.heap[b]? = some (.cells cs T fr) →
  off + i + vs.length ≤ cs.size → (fr.2 ≤ off + i ∨ off + i + vs.length ≤ fr.1) → (∀ v ∈ vs, v.oneCell' = true) →
  ∃ cs', (storeCells ⟨b, off, none⟩ vs i).run P w = .ok () (J1 w b (.cells cs' T fr)) ∧ cs'.toList = cs.toList.take (off + i) ++ vs ++ cs.toList.drop (off + i + vs.length)
 | [], w, cs, off, i, h, hl, hf, ho => by
  refine ⟨cs, ?_, by simp⟩
  simp only [storeCells, Sem.run_pure]
  congr 1
  simp only [J1]
  have hb := G3 h
  have : w.heap.setIfInBounds b (.cells cs T fr) = w.heap := by
   apply Array.ext_getElem?
   intro k
   rw [Array.getElem?_setIfInBounds]
   by_cases hk : b = k
   ·subst hk; rw [if_pos rfl, if_pos hb, h]
   ·rw [if_neg hk]
  rw [this]
 | v :: vs, w, cs, off, i, h, hl, hf, ho => by
  simp only [List.length_cons] at hl hf
  have hcell : w.cell? ⟨b, off + i, none⟩ = some cs[off + i] := by
   rw [K1 h]; exact Array.getElem?_eq_getElem (by omega)
  have hfr : w.frozen? ⟨b, off + i, none⟩ = false := by
   simp only [World.frozen?, h]; simp; omega
  have hb := G3 h
  obtain ⟨cs', r1, r2⟩ := R3 (P := P) (b := b) (T := T) (fr := fr) vs (J1 w b (.cells (cs.setIfInBounds (off + i) v) T fr)) (cs.setIfInBounds (off + i) v) off (i + 1)
   (An1 hb) (by simp; omega) (by omega) (fun u hu => ho u (by simp [hu]))
  refine ⟨cs', ?_, ?_⟩
  ·rw [storeCells]
   rw [Sem.run_bind, K8, run_store P w _ v _ (ho v (by simp)), hcell]
   simp only [hfr, Bool.false_eq_true, if_false, Result.andThen_ok, Bb3 h, r1, Aq5]
  ·rw [r2]
   simp only [Array.toList_setIfInBounds, List.length_cons]
   apply List.ext_getElem?
   intro q
   simp only [List.getElem?_append, List.getElem?_take, List.getElem?_drop, List.length_append, List.length_take, List.length_set, List.getElem?_set, List.length_cons, Array.length_toList]
   by_cases hq : q < off + i
   ·have : off + i ≠ q := by omega
    simp [hq, this, show q < off + (i + 1) by omega, show q < min (off + (i+1)) cs.size by omega, show q < min (off+i) cs.size by omega,
     show q < min (off + (i + 1)) cs.size + vs.length by omega, show q < min (off + i) cs.size + (vs.length + 1) by omega]
   ·by_cases hq1 : q = off + i
    ·subst hq1
     simp [show off + i < off + (i + 1) by omega, show off + i < min (off + (i + 1)) cs.size by omega, show ¬ off + i < min (off + i) cs.size by omega,
      show off + i < min (off + (i + 1)) cs.size + vs.length by omega, show off + i < min (off + i) cs.size + (vs.length + 1) by omega, show off + i < cs.size by omega,
      show off + i - min (off + i) cs.size = 0 by omega]
    ·have e1 : ¬ q < min (off + (i + 1)) cs.size := by omega
     have e2 : ¬ q < min (off + i) cs.size := by omega
     by_cases hq2 : q < off + i + (vs.length + 1)
     ·simp [e1, e2, show q < min (off + (i + 1)) cs.size + vs.length by omega, show q < min (off + i) cs.size + (vs.length + 1) by omega]
      rw [show q - min (off + i) cs.size = (q - min (off + (i + 1)) cs.size) + 1 by omega]
      simp
     ·simp [e1, e2, show ¬ q < min (off + (i + 1)) cs.size + vs.length by omega, show ¬ q < min (off + i) cs.size + (vs.length + 1) by omega]
      have e3 : off + (i + 1) + vs.length + (q - (min (off + (i + 1)) cs.size + vs.length)) = off + i + (vs.length + 1) + (q - (min (off + i) cs.size + (vs.length + 1))) := by omega
      rw [e3]
      have : off + i ≠ off + i + (vs.length + 1) + (q - (min (off + i) cs.size + (vs.length + 1))) := by omega
      simp [this]

theorem HRel.store {C : Cx} {n : Nat} {B : Base} {hs : List (Nat × Option EObj)} {bs : Nat → Nat} {w : World} (h : HRel C B n hs bs w) {i : Nat} {o : EObj} (hi : hget hs i = some o) (o' : EObj) (ho : o'.closed n) :
  HRel C B n ((i, some o') :: hs) bs (J1 w (bs i) (o'.real bs)) := by
 obtain ⟨hin, hib⟩ := h.live i o hi
 have hlt := G3 hib
 refine ⟨?_, ?_, ?_, h.old, ?_, ?_, h.os, h.tape, h.output, ?_, ?_, ?_, h.apart, by simpa [J1] using h.eo.1, h.eo.2⟩
 ·intro j oj hj
  rw [C0] at hj
  by_cases e : i = j
  ·subst e
   simp only [if_true, Option.some.injEq] at hj; subst hj
   exact ⟨hin, An1 hlt⟩
  ·rw [if_neg e] at hj
   obtain ⟨l1, l2⟩ := h.live j oj hj
   refine ⟨l1, ?_⟩
   have : bs i ≠ bs j := fun hb => e (h.inj i j o oj hi hj hb)
   simp only [J1]
   rw [Array.getElem?_setIfInBounds_ne this]; exact l2
 ·intro j oj hj
  rw [C0] at hj
  by_cases e : i = j
  ·rw [if_pos e, Option.some.injEq] at hj; subst hj; exact ho
  ·rw [if_neg e] at hj; exact h.cl j oj hj
 ·intro j k oj ok hj hk hb
  have lift : ∀ j oj, hget ((i, some o') :: hs) j = some oj → ∃ o, hget hs j = some o := by
   intro j oj hj
   rw [C0] at hj
   by_cases e : i = j
   ·exact ⟨o, e ▸ hi⟩
   ·rw [if_neg e] at hj; exact ⟨oj, hj⟩
  obtain ⟨oj', hj'⟩ := lift j oj hj
  obtain ⟨ok', hk'⟩ := lift k ok hk
  exact h.inj j k oj' ok' hj' hk' hb
 ·intro j oj hj
  rw [C0] at hj
  by_cases e : i = j
  ·subst e; exact h.new i o hi
  ·rw [if_neg e] at hj; exact h.new j oj hj
 ·intro k hk
  obtain ⟨h1, h2⟩ := h.frame k hk
  simp only [J1]
  refine ⟨by simpa using h1, ?_⟩
  rw [Array.getElem?_setIfInBounds_ne]
  ·exact h2
  ·intro e
   exact h.new i o hi (e ▸ hk)
 ·show B.w.heap.size ≤ (w.heap.setIfInBounds _ _).size
  simpa using h.hsize
 ·intro j oj hj
  rw [C0] at hj
  by_cases e : i = j
  ·subst e; exact h.newE i o hi
  ·rw [if_neg e] at hj; exact h.newE j oj hj
 ·intro k hk
  obtain ⟨h1, h2⟩ := h.frameE k hk
  simp only [J1]
  refine ⟨by simpa using h1, ?_⟩
  rw [Array.getElem?_setIfInBounds_ne]
  ·exact h2
  ·intro e
   exact h.newE i o hi (e ▸ hk)

def H8 : List EV → Bool
 | [] => true
 | v :: vs => v.one && H8 vs
theorem T9 : ∀ {l : List EV}, H8 l = true → ∀ v ∈ l, v.one = true
 | [], _, v, hv => by simp at hv
 | u :: l, h, v, hv => by
  simp only [H8, Bool.and_eq_true] at h
  rcases List.mem_cons.1 hv with rfl | hv
  ·exact h.1
  ·exact T9 h.2 v hv
/-- What a store makes of a block. -/
def R2 (C : Cx) (x : X) (op : Op) : Option (Nat × EObj × Prop) :=
 match op with
 | .store T p v =>
  match ev x.σ p with
  | .ptr i off =>
   match hget x.hs i with
   | some (.cells cs T' fr) =>
    some (i, .cells (H7 cs off (ev x.σ v).cells) T' fr,
     ((ev x.σ v).cells.length = C.P.cellsOf T ∧ off + (ev x.σ v).cells.length ≤ cs.length) ∧ (fr.2 ≤ off ∨ off + (ev x.σ v).cells.length ≤ fr.1) ∧ H8 (ev x.σ v).cells = true ∧ ∃ d, C.P.underlying T = some d)
   | _ => none
  | _ => none
 | _ => none
theorem Aq3 {C : Cx} {x : X} {bs : Nat → Nat} {a : Act} {w : World} (hr : Rel C x bs a w) {o : Oper} {i : Nat} {ob : EObj} {c : Prop} (h : R2 C x o.op = some (i, ob, c)) (hc : c) :
  (execOp a.eval o).run C.P w = .ok .skip (J1 w (bs i) (ob.real bs)) ∧ ob.closed x.n ∧ ∃ o, hget x.hs i = some o := by
 have ht := hr.t
 obtain ⟨dst, op, type, pos, after, guard⟩ := o
 simp only at h
 unfold R2 at h
 split at h
 ·rename_i T p v
  split at h
  ·rename_i i off hp
   split at h
   ·rename_i cs T' fr hg
    simp only [Option.some.injEq, Prod.mk.injEq] at h; obtain ⟨rfl, rfl, rfl⟩ := h
    obtain ⟨⟨h1, h2⟩, h3, h4, d, hd⟩ := hc
    have hp' := D0 ht p (by rw [hp]; simp)
    rw [hp] at hp'
    have hvne : ev x.σ v ≠ .any := by intro e; rw [e] at h4; simp [EV.cells, H8, EV.one] at h4
    have hv' := D0 ht v hvne
    obtain ⟨l1, l2⟩ := hr.h.live i _ hg
    have hccl : A0 x.n cs := hr.h.cl i _ hg
    have hvcl : A0 x.n (ev x.σ v).cells := U2 (F8 ht v)
    simp only [EObj.real] at l2
    have hrc : (real bs (ev x.σ v)).cells = (A8 bs (ev x.σ v).cells).toArray := by
     generalize ev x.σ v = u at h4 hvne
     cases u with
     | raw u =>
      have : u.oneCell' = true := by simpa [EV.cells, H8, EV.one] using h4
      cases u <;> simp_all [real, EV.cells, Value.cells, A8, Value.oneCell']
     | _ => exact Ac9 bs _ (by intro u; simp)
    obtain ⟨cs', r1, r2⟩ := R3 (P := C.P) (T := T') (fr := fr) (A8 bs (ev x.σ v).cells) w _ off 0 l2
     (by simp [A9]; omega) (by simp [A9]; omega) (by
      intro u hu
      rw [A9] at hu
      obtain ⟨q, hq, rfl⟩ := List.mem_map.1 hu
      exact Ar0 (T9 h4 q hq))
    refine ⟨?_, Y3 hccl hvcl, _, hg⟩
    have hcs' : cs' = (A8 bs (H7 cs off (ev x.σ v).cells)).toArray := by
     apply Array.ext'
     rw [r2, Aa6 _ _ _ h2]
     simp [A9, List.map_append, List.map_take, List.map_drop]
    have hsz : (real bs (ev x.σ v)).cells.size = C.P.cellsOf T := by rw [hrc]; simp [A9, h1]
    simp only [execOp, Instr.storeAt, hp', hv', real, Instr.sureAddr, Sem.run_bind, Sem.run_pure, Result.andThen_ok, storeVar, F0 _ _ _ _ hd]
    rw [if_neg (by rw [hsz]; simp)]
    simp only [hrc]
    rw [r1, hcs']; rfl
   ·simp at h
  ·simp at h
 ·simp at h
end Go.Ew
namespace Go.Ew
open Go RowKit

theorem I4 (d t : Nat) (v : EV) (σ : List (Nat × EV)) : G2 ((d, v) :: σ) t = if d = t then v else G2 σ t := by
 by_cases h : d = t
 ·subst h; simp [G2]
 ·rw [if_neg h]; simp only [G2]; rw [beq_false_of_ne h]; rfl
def K3 (N : Nat) (dst : Option Tmp) : Bool :=
 match dst with
 | some d => decide (d < N)
 | none => true
theorem TRel.next {C : Cx} {ms : List Nat} {n n' : Nat} {σ : List (Nat × EV)} {bs bs' : Nat → Nat} {a : Act} (h : TRel C ms n σ bs a) (hn : n ≤ n') (hb : ∀ i, i < n → bs' i = bs i) {dst : Option Tmp} (hd : K3 C.N dst = true)
  {v : EV} {V : Value} (hv : v = .any ∨ V = real bs' v) (hc : closed n' v) : TRel C ms n' (put σ dst v) bs' (a.put dst V) := by
 have lift : ∀ t, G2 σ t ≠ .any → a.tmps[t]? = some (real bs' (G2 σ t)) := fun t ht => by rw [real_congr hb _ (h.cl t)]; exact h.tmps t ht
 cases dst with
 | none => exact ⟨h.size, h.defers.trans (Z1 hb h.msin).symm, fun i hi => Nat.lt_of_lt_of_le (h.msin i hi) hn, lift, fun t => closed_mono hn _ (h.cl t)⟩
 | some d =>
  simp only [K3, decide_eq_true_eq] at hd
  refine ⟨by simp [Act.put, h.size], h.defers.trans (Z1 hb h.msin).symm, fun i hi => Nat.lt_of_lt_of_le (h.msin i hi) hn, ?_, ?_⟩
  ·intro t ht
   simp only [put] at ht ⊢
   rw [I4] at ht ⊢
   simp only [Act.put, Array.getElem?_setIfInBounds]
   by_cases e : d = t
   ·subst e
    simp only [if_true] at ht ⊢
    rcases hv with rfl | rfl
    ·exact absurd rfl ht
    ·rw [if_pos (by rw [h.size]; exact hd)]
   ·simp only [if_neg e] at ht ⊢
    exact lift t ht
  ·intro t
   simp only [put]; rw [I4]
   split
   ·exact hc
   ·exact closed_mono hn _ (h.cl t)
/-- The fence that lets everything in; within round C.rd. -/
def fe (C : Cx) : Fence := { Fence.wide with round := C.rd }
theorem calls_fe {C : Cx} {n : Nat} {f : FuncId} {args : Array Value} {w : World} {R : Ending → World → Prop} : CallsIn (fe C) n C.P f args w R ↔ Calls C.P f args w R := by
 rw [← callsIn_wide (n := n)]; rfl
/-- From state x operation o leads into a state of which K holds, whatever the memory is. -/
def Au6 (C : Cx) (o : Oper) (x : X) (K : X → Prop) : Prop :=
 ∀ bs a w, Rel C x bs a w → ∀ Q, o.wpIn (fe C) 0 C.P a w (fun a' w' => ∃ x' bs', Rel C x' bs' a' w' ∧ K x') Q
/-- A function of the program, called. -/
def Bx7 (C : Cx) (f : FuncId) (args : List EV) (x : X) (K : EV → Nat → List (Nat × Option EObj) → Prop) : Prop :=
 ∀ bs w, HRel C x.B x.n x.hs bs w → A0 x.n args → Calls C.P f (A8 bs args).toArray w (fun e w' => ∃ v n' hs' bs', e = .returned (real bs' v) ∧ (∀ i, i < x.n → bs' i = bs i) ∧ x.n ≤ n' ∧ closed n' v ∧ HRel C x.B n' hs' bs' w' ∧ K v n' hs')
def C6 (P : Program) (f : FuncId) : Prop := ∀ args w, (callFunc f args).run P w = .ok (.enter f args) w
/-- A function of the program, or one that the model has a row for. -/
def Cl9 (C : Cx) (f : FuncId) (args : List EV) (x : X) (K : EV → Nat → List (Nat × Option EObj) → Prop) : Prop :=
 (C6 C.P f ∧ Bx7 C f args x K) ∨ (∃ v, closed x.n v ∧ (∀ bs w, (callFunc f (A8 bs args).toArray).run C.P w = .ok (.value (real bs v)) w) ∧ K v x.n x.hs)
/-- An operation that is no call: the state behind it, and what it asks. -/
def Al8 (C : Cx) (o : Oper) (x : X) : Option (X × Prop) :=
 match H1 C x o.op with
 | some (v, c) => some ({ σ := put x.σ o.dst v, n := x.n, hs := x.hs, B := x.B, ms := x.ms }, c)
 | none => match G0 C x o.op with
  | some (v, ob, c) => some ({ σ := put x.σ o.dst v, n := x.n + 1, hs := (x.n, some ob) :: x.hs, B := x.B, ms := x.ms }, c)
  | none => match R2 C x o.op with
   | some (i, ob, c) => some ({ σ := put x.σ o.dst (.tup []), n := x.n, hs := (i, some ob) :: x.hs, B := x.B, ms := x.ms }, c)
   | none => none
theorem Ci7 {C : Cx} {x : X} {op : Op} {r} (h : H1 C x op = some r) : ∀ c, op ≠ .defer c := by
 rintro c rfl; simp [H1] at h
theorem Au1 {C : Cx} {x : X} {op : Op} {r} (h : G0 C x op = some r) : ∀ c, op ≠ .defer c := by
 rintro c rfl; simp [G0] at h
theorem Bz4 {C : Cx} {x : X} {op : Op} {r} (h : R2 C x op = some r) : ∀ c, op ≠ .defer c := by
 rintro c rfl; simp [R2] at h
theorem K9 {C : Cx} {o : Oper} {x x' : X} {c : Prop} {K : X → Prop} (hd : K3 C.N o.dst = true) (h : Al8 C o x = some (x', c)) (hc : c) (hk : K x') : Au6 C o x K := by
 unfold Al8 at h
 split at h
 ·rename_i v c' hp
  simp only [Option.some.injEq, Prod.mk.injEq] at h; obtain ⟨rfl, rfl⟩ := h
  intro bs a w hr Q
  obtain ⟨V, h1, h2, h3⟩ := Aw2 hr hp hc
  refine ⟨fun _ _ => trivial, ?_⟩
  rw [Oper.semAt_eq _ _ _ (Ci7 hp), h1]
  exact ⟨⟨put x.σ o.dst v, x.n, x.hs, x.B, x.ms⟩, bs, ⟨hr.t.next (Nat.le_refl _) (fun _ _ => rfl) hd h2 h3, hr.h⟩, hk⟩
 ·split at h
  ·rename_i v ob c' hp
   simp only [Option.some.injEq, Prod.mk.injEq] at h; obtain ⟨rfl, rfl⟩ := h
   intro bs a w hr Q
   obtain ⟨h1, h2, h3⟩ := U6 hr hp hc
   refine ⟨fun _ _ => trivial, ?_⟩
   rw [Oper.semAt_eq _ _ _ (Au1 hp), h1]
   exact ⟨_, upd bs x.n w.heap.size, ⟨hr.t.next (Nat.le_succ _) I2 hd (.inr rfl) h2, hr.h.alloc ob h3⟩, hk⟩
  ·split at h
   ·rename_i i ob c' hp
    simp only [Option.some.injEq, Prod.mk.injEq] at h; obtain ⟨rfl, rfl⟩ := h
    intro bs a w hr Q
    obtain ⟨h1, h2, o', h3⟩ := Aq3 hr hp hc
    refine ⟨fun _ _ => trivial, ?_⟩
    rw [Oper.semAt_eq _ _ _ (Bz4 hp), h1]
    exact ⟨_, bs, ⟨hr.t.next (Nat.le_refl _) (fun _ _ => rfl) hd (v := .tup []) (.inr (by simp [real, A8, undef])) (by simp [closed, A0]), hr.h.store h3 ob h2⟩, hk⟩
   ·simp at h

inductive Gd where
 | run
 | test (b want : Bool) (d : Tmp)
 | skip
 | bad
def F3 (ops : List Oper) (σ : List (Nat × EV)) (g : Option (Nat × Bool)) : Gd :=
 match g with
 | none => .run
 | some (j, want) =>
  match ops[j]? with
  | some oj => match oj.dst with
   | some d => match G2 σ d with
    | .bool b => .test b want d
    | .tup _ => .skip
    | _ => .bad
   | none => .bad
  | none => .bad
theorem TRel.same {C : Cx} {ms : List Nat} {n : Nat} {σ : List (Nat × EV)} {bs : Nat → Nat} {a : Act} (h : TRel C ms n σ bs a) {d : Nat} {v : EV} (hg : G2 σ d = v) : TRel C ms n ((d, v) :: σ) bs a := by
 refine ⟨h.size, h.defers, h.msin, ?_, ?_⟩
 ·intro t ht
  rw [I4] at ht ⊢
  by_cases e : d = t
  ·subst e; rw [if_pos rfl] at ht ⊢; rw [← hg] at ht ⊢; exact h.tmps d ht
  ·rw [if_neg e] at ht ⊢; exact h.tmps t ht
 ·intro t
  rw [I4]
  split
  ·rw [← hg]; exact h.cl d
  ·exact h.cl t
theorem Ab3 {C : Cx} {ms : List Nat} {n : Nat} {σ : List (Nat × EV)} {bs : Nat → Nat} {a : Act} (h : TRel C ms n σ bs a) {ops : List Oper} {o : Oper} :
  (F3 ops σ o.guard = .run → Region.wanted o (yielded ops.toArray a.tmps) = true) ∧
  (∀ b want d, F3 ops σ o.guard = .test b want d → Region.wanted o (yielded ops.toArray a.tmps) = (b == want) ∧ G2 σ d = .bool b) ∧
  (F3 ops σ o.guard = .skip → Region.wanted o (yielded ops.toArray a.tmps) = false) := by
 unfold F3
 cases hg : o.guard with
 | none => simp [Region.wanted, hg]
 | some jw =>
  obtain ⟨j, want⟩ := jw
  refine ⟨?_, ?_, ?_⟩
  ·intro hh
   simp only at hh
   split at hh <;> (try split at hh) <;> (try split at hh) <;> simp at hh
  ·intro b want' d hh
   simp only at hh
   split at hh
   ·rename_i oj hj
    split at hh
    ·rename_i d' hd
     split at hh
     ·rename_i b' hb
      simp only [Gd.test.injEq] at hh
      obtain ⟨rfl, rfl, rfl⟩ := hh
      have ht := h.tmps d' (by rw [hb]; simp)
      rw [hb] at ht
      refine ⟨?_, hb⟩
      simp [Region.wanted, hg, yielded, hj, hd, ht, real]
     ·simp at hh
     ·simp at hh
    ·simp at hh
   ·simp at hh
  ·intro hh
   simp only at hh
   split at hh
   ·rename_i oj hj
    split at hh
    ·rename_i d' hd
     split at hh
     ·simp at hh
     ·rename_i vs hb
      have ht := h.tmps d' (by rw [hb]; simp)
      rw [hb] at ht
      simp [Region.wanted, hg, yielded, hj, hd, ht, real]
     ·simp at hh
    ·simp at hh
   ·simp at hh

inductive It where
 | c (c : Code)
 | ops (all : List Oper) (k : Nat) (rest : List Oper)
 | blk (id : Nat)
/-- What holds of real states, when the items are still to be done. -/
def H4 (C : Cx) (Q : Exit → Act → World → Prop) : List It → Exit → Act → World → Prop
 | [], e, a, w => Q e a w
 | .blk id :: st, .exit id', a, w => if id' = id then H4 C Q st .normal a w else H4 C Q st (.exit id') a w
 | .blk _ :: st, e, a, w => H4 C Q st e a w
 | .c c :: st, .normal, a, w => c.wpIn (fe C) 0 C.P (H4 C Q st) a w
 | .c _ :: st, e, a, w => H4 C Q st e a w
 | .ops all k rest :: st, .normal, a, w => wpOpsIn (fe C) 0 C.P all.toArray (H4 C Q st) (List.range' k rest.length) a w
 | .ops _ _ _ :: st, e, a, w => H4 C Q st e a w
/-- The real states that x tells of. -/
def Au3 (C : Cx) (Q : Exit → X → Prop) (e : Exit) (a : Act) (w : World) : Prop := ∃ x bs, Rel C x bs a w ∧ Q e x
/-- From whatever real state that x tells of. -/
def GoS (C : Cx) (Q : Exit → X → Prop) (st : List It) (e : Exit) (x : X) : Prop := ∀ bs a w, Rel C x bs a w → H4 C (Au3 C Q) st e a w
def unw (id : Nat) : List It → Option (List It)
 | [] => none
 | .blk id' :: st => bif Nat.beq id id' then some st else unw id st
 | .c _ :: st => unw id st
 | .ops _ _ _ :: st => unw id st
/-- Each temp that is written is one of the frame's; and the list is the rest of the region's. -/
def L3 (N : Nat) : List Oper → Bool
 | [] => true
 | o :: r => K3 N o.dst && L3 N r
def C5 (N : Nat) : Code → Bool
 | .region _ ops _ => L3 N ops.toList
 | .seq a b => C5 N a && C5 N b
 | .cond _ a b => C5 N a && C5 N b
 | .block _ c => C5 N c
 | .loop c => C5 N c
 | _ => true
def Bf2 (N : Nat) : List It → Prop
 | [] => True
 | .c c :: st => C5 N c = true ∧ Bf2 N st
 | .ops all k rest :: st => (L3 N rest = true ∧ ∀ j, rest[j]? = all[k + j]?) ∧ Bf2 N st
 | .blk _ :: st => Bf2 N st
/-- What is left, from state x. -/
def Next (C : Cx) (Q : Exit → X → Prop) (st : List It) (x : X) : Prop := Bf2 C.N st → GoS C Q st .normal x
/-- A function of the program, called; the base may go on. -/
def V0 (C : Cx) (f : FuncId) (args : List EV) (dst : Option Tmp) (x : X) (K : X → Prop) : Prop :=
 C6 C.P f ∧ ∀ bs w, HRel C x.B x.n x.hs bs w → A0 x.n args → Calls C.P f (A8 bs args).toArray w (fun e w' => ∃ v n' hs' B' bs', e = .returned (real bs' v) ∧ (∀ i, i < x.n → bs' i = bs i) ∧ x.n ≤ n' ∧ closed n' v ∧ HRel C B' n' hs' bs' w' ∧ K { σ := put x.σ dst v, n := n', hs := hs', B := B', ms := x.ms })
def W3 (C : Cx) (Q : Exit → X → Prop) (f : FuncId) (args : List EV) (dst : Option Tmp) (st : List It) (x : X) : Prop :=
 K3 C.N dst = true → Cl9 C f args x (fun v n' hs' => Next C Q st { σ := put x.σ dst v, n := n', hs := hs', B := x.B, ms := x.ms }) ∨ V0 C f args dst x (Next C Q st)
def opS (C : Cx) (Q : Exit → X → Prop) (o : Oper) (st : List It) (x : X) : Prop :=
 K3 C.N o.dst = true → Au6 C o x (Next C Q st)
def Bu8 (C : Cx) (Q : Exit → X → Prop) (c : Code) (st : List It) (x : X) : Prop := Next C Q (.c c :: st) x
def Ck7 (C : Cx) (Q : Exit → X → Prop) (id : Nat) (ops : List Oper) (st : List It) (x : X) : Prop := Next C Q (.c (.region id ops.toArray true) :: st) x
mutual
def goS (C : Cx) (Q : Exit → X → Prop) : Nat → List It → X → Prop
 | 0, _, _ => False
 | _ + 1, [], x => Q .normal x
 | n + 1, .blk _ :: st, x => goS C Q n st x
 | n + 1, .ops _ _ [] :: st, x => goS C Q n st x
 | n + 1, .ops all k (o :: rest) :: st, x =>
  match F3 all x.σ o.guard with
  | .run => opG C Q n o (.ops all (k + 1) rest :: st) x
  | .test b want d => Aa2 C Q n b want d o (.ops all (k + 1) rest :: st) x
  | .skip => goS C Q n (.ops all (k + 1) rest :: st) { σ := put x.σ o.dst (.tup []), n := x.n, hs := x.hs, B := x.B, ms := x.ms }
  | .bad => False
 | n + 1, .c c :: st, x =>
  match c with
  | .skip => goS C Q n st x
  | .region _ ops false => goS C Q n (.ops ops.toList 0 ops.toList :: st) x
  | .region id ops true => Ck7 C Q id ops.toList st x
  | .seq a b => goS C Q n (.c a :: .c b :: st) x
  | .cond c a b => match ev x.σ c with
   | .bool t => Am3 C Q n t a b st x
   | _ => False
  | .block id c => goS C Q n (.c c :: .blk id :: st) x
  | .exit id => match unw id st with
   | some st' => goS C Q n st' x
   | none => Q (.exit id) x
  | .ret => Q .ret x
  | c => Bu8 C Q c st x
def Am3 (C : Cx) (Q : Exit → X → Prop) : Nat → Bool → Code → Code → List It → X → Prop
 | 0, _, _, _, _, _ => False
 | n + 1, t, a, b, st, x => (t = true → goS C Q n (.c a :: st) x) ∧ (t = false → goS C Q n (.c b :: st) x)
def opG (C : Cx) (Q : Exit → X → Prop) : Nat → Oper → List It → X → Prop
 | 0, _, _, _ => False
 | n + 1, o, st, x =>
  match Al8 C o x with
  | some (x', c) => c ∧ goS C Q n st x'
  | none =>
   match o.op with
   | .call { callee := .value (.func f), args, .. } => O3 (args.toList.map (ev x.σ)) = true ∧ W3 C Q f (args.toList.map (ev x.σ)) o.dst st x
   | .call { callee := .value (.tmp t), args, .. } =>
    match G2 x.σ t with
    | .fn (.func f) first cap => O3 (args.toList.map (ev x.σ)) = true ∧ W3 C Q f (first ++ args.toList.map (ev x.σ) ++ cap) o.dst st x
    | _ => opS C Q o st x
   | _ => opS C Q o st x
def Aa2 (C : Cx) (Q : Exit → X → Prop) : Nat → Bool → Bool → Tmp → Oper → List It → X → Prop
 | 0, _, _, _, _, _, _ => False
 | n + 1, b, want, d, o, st, x =>
  (b = want → opG C Q n o st { σ := (d, .bool want) :: x.σ, n := x.n, hs := x.hs, B := x.B, ms := x.ms }) ∧ (b = !want → goS C Q n st { σ := put ((d, .bool (!want)) :: x.σ) o.dst (.tup []), n := x.n, hs := x.hs, B := x.B, ms := x.ms })
end
theorem Ab4 {C : Cx} {o : Oper} {x : X} {K : X → Prop} {f : FuncId} {args : List EV}
  (hnd : ∀ c, o.op ≠ .defer c) (hrun : ∀ bs a w, Rel C x bs a w → (execOp a.eval o).run C.P w = (callFunc f (A8 bs args).toArray).run C.P w ∧ A0 x.n args)
  (hd : K3 C.N o.dst = true) (h : Cl9 C f args x (fun v n' hs' => K { σ := put x.σ o.dst v, n := n', hs := hs', B := x.B, ms := x.ms })) : Au6 C o x K := by
 intro bs a w hr Q
 obtain ⟨h1, h2⟩ := hrun bs a w hr
 refine ⟨fun _ _ => trivial, ?_⟩
 rw [Oper.semAt_eq _ _ _ hnd, h1]
 rcases h with ⟨hE, h⟩ | ⟨v, hcl, hv, hk⟩
 ·rw [hE]
  simp only [Oper.uponIn]
  refine ⟨by simp [fe, Fence.wide], calls_fe.2 ((h bs w hr.h h2).mono ?_)⟩
  rintro e w' ⟨v, n', hs', bs', rfl, hb, hn, hcl, hh, hk⟩
  exact ⟨_, bs', ⟨hr.t.next hn hb hd (.inr rfl) hcl, hh⟩, hk⟩
 ·rw [hv bs w]
  exact ⟨⟨put x.σ o.dst v, x.n, x.hs, x.B, x.ms⟩, bs, ⟨hr.t.next (Nat.le_refl _) (fun _ _ => rfl) hd (.inr rfl) hcl, hr.h⟩, hk⟩
theorem Ae0 {C : Cx} {o : Oper} {x : X} {K : X → Prop} {f : FuncId} {args : List EV}
  (hnd : ∀ c, o.op ≠ .defer c) (hrun : ∀ bs a w, Rel C x bs a w → (execOp a.eval o).run C.P w = (callFunc f (A8 bs args).toArray).run C.P w ∧ A0 x.n args)
  (hd : K3 C.N o.dst = true) (h : V0 C f args o.dst x K) : Au6 C o x K := by
 intro bs a w hr Q
 obtain ⟨h1, h2⟩ := hrun bs a w hr
 refine ⟨fun _ _ => trivial, ?_⟩
 rw [Oper.semAt_eq _ _ _ hnd, h1]
 obtain ⟨hE, h⟩ := h
 rw [hE]
 simp only [Oper.uponIn]
 refine ⟨by simp [fe, Fence.wide], calls_fe.2 ((h bs w hr.h h2).mono ?_)⟩
 rintro e w' ⟨v, n', hs', B', bs', rfl, hb, hn, hcl, hh, hk⟩
 exact ⟨_, bs', ⟨hr.t.next hn hb hd (.inr rfl) hcl, hh⟩, hk⟩
theorem Ad9 {C : Cx} {Q : Exit → X → Prop} {o : Oper} {x : X} {st : List It} {f : FuncId} {args : List EV}
  (hnd : ∀ c, o.op ≠ .defer c) (hrun : ∀ bs a w, Rel C x bs a w → (execOp a.eval o).run C.P w = (callFunc f (A8 bs args).toArray).run C.P w ∧ A0 x.n args)
  (hd : K3 C.N o.dst = true) (h : W3 C Q f args o.dst st x) : Au6 C o x (Next C Q st) := by
 rcases h hd with h | h
 ·exact Ab4 hnd hrun hd h
 ·exact Ae0 hnd hrun hd h
theorem S2 {C : Cx} {o : Oper} {x : X} {K K' : X → Prop} (h : Au6 C o x K) (hk : ∀ x, K x → K' x) : Au6 C o x K' :=
 fun bs a w hr Q => Oper.wpIn_mono (fun a' w' ⟨x', bs', hr', h⟩ => ⟨x', bs', hr', hk x' h⟩) (h bs a w hr Q)
theorem V1 {C : Cx} {Q : Exit → Act → World → Prop} {id : Nat} {a : Act} {w : World} : ∀ (st : List It), (match unw id st with
  | some st' => H4 C Q st' .normal a w
  | none => Q (.exit id) a w) → H4 C Q st (.exit id) a w
 | [], h => h
 | .blk id' :: st, h => by
  simp only [unw] at h
  by_cases e : id = id'
  ·subst e
   simp only [Nat.beq_refl, cond_true] at h
   simpa [H4] using h
  ·have hb : Nat.beq id id' = false := by
    cases hb : Nat.beq id id' with
    | false => rfl
    | true => exact absurd (Nat.eq_of_beq_eq_true hb) e
   simp only [hb, cond_false] at h
   simp only [H4, if_neg e]
   exact V1 st h
 | .c _ :: st, h => by simp only [H4]; exact V1 st h
 | .ops _ _ _ :: st, h => by simp only [H4]; exact V1 st h
theorem Am5 {N : Nat} {id : Nat} : ∀ (st st' : List It), unw id st = some st' → Bf2 N st → Bf2 N st'
 | [], st', h, _ => by simp [unw] at h
 | .blk id' :: st, st', h, hi => by
  simp only [unw] at h
  cases hb : Nat.beq id id' with
  | true => simp only [hb, cond_true, Option.some.injEq] at h; subst h; exact hi
  | false => simp only [hb, cond_false] at h; exact Am5 st st' h hi
 | .c _ :: st, st', h, hi => Am5 st st' (by simpa [unw] using h) hi.2
 | .ops _ _ _ :: st, st', h, hi => Am5 st st' (by simpa [unw] using h) hi.2
theorem Bu6 (C : Cx) (Q : Exit → Act → World → Prop) (b : Code) (st : List It) : H4 C Q (.c b :: st) = Exit.then (b.wpIn (fe C) 0 C.P (H4 C Q st)) (H4 C Q st) := by
 funext e a w; cases e <;> rfl
theorem Bu7 (C : Cx) (Q : Exit → Act → World → Prop) (id : Nat) (st : List It) : H4 C Q (.blk id :: st) = Exit.inBlock id (H4 C Q st) := by
 funext e a w; cases e <;> rfl
/-- Operation o, from there on. -/
def GoO (C : Cx) (Q : Exit → X → Prop) (o : Oper) (st : List It) (x : X) : Prop := K3 C.N o.dst = true → Bf2 C.N st → Au6 C o x (GoS C Q st .normal)
theorem As0 {C : Cx} {Q : Exit → X → Prop} (n : Nat) :
  (∀ (st : List It) (x : X), goS C Q n st x → Bf2 C.N st → GoS C Q st .normal x) ∧
  (∀ (t : Bool) (a b : Code) (st : List It) (x : X), Am3 C Q n t a b st x → C5 C.N a = true → C5 C.N b = true → Bf2 C.N st → (t = true → GoS C Q (.c a :: st) .normal x) ∧ (t = false → GoS C Q (.c b :: st) .normal x)) ∧
  (∀ (o : Oper) (st : List It) (x : X), opG C Q n o st x → GoO C Q o st x) ∧
  (∀ (b want : Bool) (d : Tmp) (o : Oper) (st : List It) (x : X), Aa2 C Q n b want d o st x →
   (b = want → GoO C Q o st { σ := (d, .bool want) :: x.σ, n := x.n, hs := x.hs, B := x.B, ms := x.ms }) ∧ (b = !want → Bf2 C.N st → GoS C Q st .normal { σ := put ((d, .bool (!want)) :: x.σ) o.dst (.tup []), n := x.n, hs := x.hs, B := x.B, ms := x.ms })) := by
 induction n with
 | zero => exact ⟨fun st x h => by cases st <;> simp [goS] at h, fun t a b st x h => by simp [Am3] at h, fun o st x h => by simp [opG] at h, fun b want d o st x h => by simp [Aa2] at h⟩
 | succ n ih =>
  obtain ⟨ih1, ih2, ih3, ih4⟩ := ih
  refine ⟨?_, ?_, ?_, ?_⟩
  ·intro st x h hi
   match st, h, hi with
   | [], h, hi => exact fun bs a w hr => ⟨x, bs, hr, by simpa [goS] using h⟩
   | .blk id :: st, h, hi => exact fun bs a w hr => ih1 st x (by simpa [goS] using h) hi bs a w hr
   | .ops all k [] :: st, h, hi =>
    intro bs a w hr
    simp only [H4, List.length_nil, List.range'_zero, wpOpsIn]
    exact ih1 st x (by simpa [goS] using h) hi.2 bs a w hr
   | .ops all k (o :: rest) :: st, h, hi =>
    intro bs a w hr
    obtain ⟨⟨hin, hl⟩, hst⟩ := hi
    have h0 : all.toArray[k]? = some o := by
     have := hl 0; simp at this; simp [← this]
    simp only [L3, Bool.and_eq_true] at hin
    have hin' : Bf2 C.N (.ops all (k + 1) rest :: st) := ⟨⟨hin.2, fun j => by have := hl (j + 1); simp at this; rw [this]; congr 1; omega⟩, hst⟩
    simp only [H4, List.length_cons, List.range'_succ, wpOpsIn, h0]
    obtain ⟨g1, g2, g5⟩ := Ab3 hr.t (ops := all) (o := o)
    simp only [goS] at h
    cases hg : F3 all x.σ o.guard with
    | run =>
     simp only [hg] at h
     rw [if_pos (g1 hg)]
     exact Oper.wpIn_mono (fun a' w' ⟨x', bs', hr', hk⟩ => hk bs' a' w' hr') (ih3 o _ x h hin.1 hin' bs a w hr _)
    | test b want d =>
     simp only [hg] at h
     obtain ⟨g3, g4⟩ := g2 b want d hg
     obtain ⟨t1, t2⟩ := ih4 b want d o _ x h
     rw [g3]
     by_cases e : b = want
     ·subst e
      rw [if_pos (by simp)]
      exact Oper.wpIn_mono (fun a' w' ⟨x', bs', hr', hk⟩ => hk bs' a' w' hr') (t1 rfl hin.1 hin' bs a w ⟨hr.t.same g4, hr.h⟩ _)
     ·rw [if_neg (by simpa using e)]
      have e' : b = !want := by cases b <;> cases want <;> simp_all
      have ht := (hr.t.same g4)
      rw [e'] at ht
      exact ⟨fun _ _ => trivial, t2 e' hin' bs _ w ⟨ht.next (Nat.le_refl _) (fun _ _ => rfl) hin.1 (v := .tup []) (.inr (by simp [real, A8, undef])) (by simp [closed, A0]), hr.h⟩⟩
    | skip =>
     simp only [hg] at h
     rw [g5 hg, if_neg (by simp)]
     exact ⟨fun _ _ => trivial, ih1 _ _ h hin' bs _ w ⟨hr.t.next (Nat.le_refl _) (fun _ _ => rfl) hin.1 (v := .tup []) (.inr (by simp [real, A8, undef])) (by simp [closed, A0]), hr.h⟩⟩
    | bad => simp only [hg] at h
   | .c c :: st, h, hi =>
    obtain ⟨hin, hst⟩ := hi
    intro bs a w hr
    cases c with
    | skip => exact wpIn_skip (ih1 st x (by simpa [goS] using h) hst bs a w hr)
    | region id ops draw =>
     cases draw with
     | false =>
      simp only [goS] at h
      have := ih1 (.ops ops.toList 0 ops.toList :: st) x h ⟨⟨hin, by simp⟩, hst⟩ bs a w hr
      simp only [H4] at this ⊢
      exact wpIn_region (by simpa [List.range_eq_range'] using this)
     | true =>
      simp only [goS] at h
      have := h ⟨by simpa [C5] using hin, hst⟩ bs a w hr
      simpa using this
    | seq c1 c2 =>
     simp only [C5, Bool.and_eq_true] at hin
     have := ih1 (.c c1 :: .c c2 :: st) x (by simpa [goS] using h) ⟨hin.1, hin.2, hst⟩ bs a w hr
     simp only [H4] at this ⊢
     exact wpIn_seq (by rw [← Bu6]; exact this)
    | cond c c1 c2 =>
     simp only [C5, Bool.and_eq_true] at hin
     simp only [goS] at h
     split at h
     ·rename_i t ht
      have hc := D0 hr.t c (by rw [ht]; simp)
      rw [ht] at hc
      obtain ⟨t1, t2⟩ := ih2 t c1 c2 st x h hin.1 hin.2 hst
      exact wpIn_cond_split hc (fun e => t1 e bs a w hr) (fun e => t2 e bs a w hr)
     ·exact h.elim
    | block id c =>
     have := ih1 (.c c :: .blk id :: st) x (by simpa [goS] using h) ⟨hin, hst⟩ bs a w hr
     simp only [H4] at this ⊢
     exact wpIn_block (by rw [← Bu7]; exact this)
    | exit id =>
     simp only [goS] at h
     simp only [H4]
     refine wpIn_exit (V1 st ?_)
     split at h
     ·rename_i st' hu
      exact ih1 st' x h (Am5 st st' hu hst) bs a w hr
     ·rename_i hu
      exact ⟨x, bs, hr, h⟩
    | ret =>
     simp only [goS] at h
     simp only [H4]
     refine wpIn_ret ?_
     have : ∀ (st : List It), H4 C (Au3 C Q) st .ret a w := by
      intro st
      induction st with
      | nil => exact ⟨x, bs, hr, h⟩
      | cons it st ih => cases it <;> simpa [H4] using ih
     exact this st
    | loop c => exact h ⟨hin, hst⟩ bs a w hr
    | rangeFunc f p as b => exact h ⟨hin, hst⟩ bs a w hr
    | scope c => exact h ⟨hin, hst⟩ bs a w hr
    | label l => exact h ⟨hin, hst⟩ bs a w hr
    | goto l => exact h ⟨hin, hst⟩ bs a w hr
    | refuse y => exact h ⟨hin, hst⟩ bs a w hr
  ·intro t a b st x h ha hb hst
   simp only [Am3] at h
   exact ⟨fun e => ih1 _ x (h.1 e) ⟨ha, hst⟩, fun e => ih1 _ x (h.2 e) ⟨hb, hst⟩⟩
  ·intro o st x h hd hst
   simp only [opG] at h
   split at h
   ·rename_i x' c hs
    exact K9 hd hs h.1 (ih1 st x' h.2 hst)
   ·obtain ⟨dst, op, type, pos, after, guard⟩ := o
    simp only at h hd
    split at h
    ·rename_i f args _ _
     obtain ⟨h1, h3⟩ := h
     refine S2 (Ad9 (by intro c; simp) (fun bs a w hr => ?_) hd h3) (fun x hx => hx hst)
     have e := K7 hr.t args.toList h1
     have e2 : args.map a.eval = (A8 bs (args.toList.map (ev x.σ))).toArray := by apply Array.ext'; simpa using e
     exact ⟨by simp [execOp, resolve, Act.eval, Deferred.ofValue, invoke, e2], K0 hr.t _⟩
    ·rename_i t args _ _
     split at h
     ·rename_i f first cap hg
      obtain ⟨h1, h3⟩ := h
      refine S2 (Ad9 (by intro c; simp) (fun bs a w hr => ?_) hd h3) (fun x hx => hx hst)
      have e := K7 hr.t args.toList h1
      have e2 : args.map a.eval = (A8 bs (args.toList.map (ev x.σ))).toArray := by apply Array.ext'; simpa using e
      have ef := D0 hr.t (.tmp t) (by simp [ev, hg])
      simp only [ev, hg] at ef
      have hcl := hr.t.cl t
      rw [hg] at hcl
      simp only [closed] at hcl
      refine ⟨?_, ?_⟩
      ·simp [execOp, resolve, ef, real, Deferred.ofValue, invoke, e2, A9]
      ·rw [D8]
       intro v hv
       simp only [List.mem_append] at hv
       rcases hv with (hv | hv) | hv
       ·exact G4 hcl.1 hv
       ·exact G4 (K0 hr.t _) hv
       ·exact G4 hcl.2 hv
     ·exact S2 (h hd) (fun x hx => hx hst)
    ·exact S2 (h hd) (fun x hx => hx hst)
  ·intro b want d o st x h
   simp only [Aa2] at h
   exact ⟨fun e => ih3 o st _ (h.1 e), fun e hst => ih1 st _ (h.2 e) hst⟩
theorem Bt5 {C : Cx} {Q : Exit → X → Prop} {n : Nat} {st : List It} {x : X} (h : goS C Q n st x) (hi : Bf2 C.N st) : GoS C Q st .normal x := (As0 n).1 st x h hi
theorem A3 {C : Cx} {Q : Exit → X → Prop} {st : List It} {x : X} (n : Nat) (h : goS C Q n st x) : Next C Q st x := Bt5 h
end Go.Ew
namespace Go.Ew
open Go RowKit

def T4 (C : Cx) (x : X) : List ResultVar → Option (List EV × Prop)
 | [] => some ([], True)
 | .tmp t :: r => match T4 C x r with
  | some (vs, c) => some (G2 x.σ t :: vs, c)
  | none => none
 | .cell a T :: r => match M2 C x.B x.hs T (G2 x.σ a), T4 C x r with
  | some (v, c'), some (vs, c) => some (v :: vs, c' ∧ c)
  | _, _ => none
def Av4 : List EV → EV
 | [v] => v
 | vs => .tup vs
/-- The Am1 are come to: their blocks are shut. -/
def Av3 : List Nat → List (Nat × Option EObj) → Option (List (Nat × Option EObj))
 | [], hs => some hs
 | i :: r, hs => match hget hs i with
  | some (.obj (.deferred (some []))) => Av3 r ((i, some (.obj (.deferred none))) :: hs)
  | _ => none
def Ce6 (C : Cx) (rs : List ResultVar) (K : EV → X → Prop) (x : X) : Prop :=
 match Av3 x.ms x.hs with
 | some hs' => match T4 C { σ := x.σ, n := x.n, hs := hs', B := x.B, ms := [] } rs with
  | some (vs, c) => (c ∧ O3 vs = true) ∧ K (Av4 vs) { σ := x.σ, n := x.n, hs := hs', B := x.B, ms := [] }
  | none => False
 | none => False
def Bn4 (C : Cx) (rs : List ResultVar) (K : EV → X → Prop) : Exit → X → Prop
 | .normal, x => Ce6 C rs K x
 | .ret, x => Ce6 C rs K x
 | _, _ => False
def Cm0 (tmps : Array Value) : ResultVar → Sem Value
 | .tmp t => pure (tmps.getD t undef)
 | .cell b t => do loadVar t (← asAddr (tmps.getD b undef))
theorem Bk9 (fn : Func) (tmps : Array Value) : results fn tmps = (do
  let vs ← fn.results.mapM (Cm0 tmps)
  pure (if h : vs.size = 1 then vs[0] else .tuple vs)) := by
 unfold results
 congr 1
theorem Y8 {C : Cx} {x : X} {bs : Nat → Nat} {a : Act} {w : World} (hr : Rel C x bs a w) : ∀ (rs : List ResultVar) (vs : List EV) (c : Prop), T4 C x rs = some (vs, c) → c → O3 vs = true →
  (rs.mapM (Cm0 a.tmps)).run C.P w = .ok (A8 bs vs) w ∧ A0 x.n vs
 | [], vs, c, h, hc, hn => by
  simp only [T4, Option.some.injEq, Prod.mk.injEq] at h; obtain ⟨rfl, rfl⟩ := h
  exact ⟨by simp [A8], trivial⟩
 | .tmp t :: r, vs, c, h, hc, hn => by
  simp only [T4] at h
  split at h
  ·rename_i vs' c' hr'
   simp only [Option.some.injEq, Prod.mk.injEq] at h; obtain ⟨rfl, rfl⟩ := h
   have hsp := Ad1 hn
   simp only [O3, Bool.and_eq_true] at hn
   obtain ⟨i1, i2⟩ := Y8 hr r vs' c' hr' hc hn.2
   have ht := hr.t.tmps t (hsp _ (by simp))
   refine ⟨?_, by simp only [A0]; exact ⟨hr.t.cl t, i2⟩⟩
   rw [List.mapM_cons]
   have e1 : (Cm0 a.tmps (.tmp t)).run C.P w = .ok (real bs (G2 x.σ t)) w := by simp [Cm0, Array.getD_eq_getD_getElem?, ht]
   simp only [Sem.run_bind, Sem.run_pure, Result.andThen_ok, e1, i1, A8]
  ·simp at h
 | .cell b T :: r, vs, c, h, hc, hn => by
  simp only [T4] at h
  split at h
  ·rename_i v c1 vs' c' hl hr'
   simp only [Option.some.injEq, Prod.mk.injEq] at h; obtain ⟨rfl, rfl⟩ := h
   simp only [O3, Bool.and_eq_true] at hn
   obtain ⟨i1, i2⟩ := Y8 hr r vs' c' hr' hc.2 hn.2
   obtain ⟨l1, l2⟩ := Af2 hr.h hl hc.1
   have ht := hr.t.tmps b (Ao1 hl)
   have ea : a.tmps.getD b undef = real bs (G2 x.σ b) := by simp [Array.getD_eq_getD_getElem?, ht]
   refine ⟨?_, by simp only [A0]; exact ⟨l2, i2⟩⟩
   have hs : ∃ ad, real bs (G2 x.σ b) = .pointer (some ad) := by
    unfold M2 at hl
    split at hl
    ·rename_i e; rw [e]; exact ⟨_, rfl⟩
    ·rename_i e; rw [e]; exact ⟨_, rfl⟩
    ·simp at hl
   obtain ⟨ad, had⟩ := hs
   rw [had] at l1 ea
   simp only [Instr.loadAt, Instr.sureAddr, Sem.run_bind, Sem.run_pure, Result.andThen_ok] at l1
   rw [List.mapM_cons]
   have e1 : (Cm0 a.tmps (.cell b T)).run C.P w = .ok (real bs v) w := by simp only [Cm0, ea, asAddr, Sem.run_bind, Sem.run_pure, Result.andThen_ok, l1]
   simp only [Sem.run_bind, Sem.run_pure, Result.andThen_ok, e1, i1, A8]
  ·simp at h
theorem Bb4 {C : Cx} {x : X} {bs : Nat → Nat} {a : Act} {w : World} (hr : Rel C x bs a w) {fn : Func} {vs : List EV} {c : Prop} (h : T4 C x fn.results.toList = some (vs, c)) (hc : c) (hn : O3 vs = true) :
  (results fn a.tmps).run C.P w = .ok (real bs (Av4 vs)) w ∧ closed x.n (Av4 vs) := by
 obtain ⟨h1, h2⟩ := Y8 hr fn.results.toList vs c h hc hn
 refine ⟨?_, ?_⟩
 ·rw [Bk9, Array.mapM_eq_mapM_toList]
  simp only [Sem.run_bind, Sem.run_map, h1, Result.andThen_ok, Sem.run_pure]
  congr 1
  match vs with
  | [] => simp [Av4, real, A8]
  | [v] => simp [Av4, A8]
  | v :: u :: vs => simp [Av4, real, A8]
 ·match vs, h2 with
  | [], _ => simp [Av4, closed, A0]
  | [v], h2 => exact h2.1
  | v :: u :: vs, h2 => exact h2

def argσ : Nat → List EV → List (Nat × EV)
 | _, [] => []
 | k, v :: vs => (k, v) :: argσ (k + 1) vs
theorem tget_argσ : ∀ (vs : List EV) (k t : Nat), G2 (argσ k vs) t = if k ≤ t then vs.getD (t - k) .any else .any
 | [], k, t => by simp [argσ, G2]
 | v :: vs, k, t => by
  rw [argσ, I4, tget_argσ vs (k + 1) t]
  by_cases e : k = t
  ·subst e; simp
  ·rw [if_neg e]
   by_cases h : k + 1 ≤ t
   ·rw [if_pos h, if_pos (by omega), show t - k = (t - (k + 1)) + 1 by omega]; simp
   ·rw [if_neg h, if_neg (by omega)]
theorem Bm1 {C : Cx} {n : Nat} {bs : Nat → Nat} {args : List EV} (hcl : A0 n args) (hN : args.length ≤ C.N) :
  TRel C [] n (argσ 0 args) bs { tmps := (A8 bs args).toArray ++ Array.replicate (C.N - (A8 bs args).toArray.size) undef, defers := [] } := by
 refine ⟨by simp [A9]; omega, rfl, by simp, ?_, ?_⟩
 ·intro t ht
  rw [tget_argσ] at ht ⊢
  simp only [Nat.zero_le, if_true, Nat.sub_zero] at ht ⊢
  have hl : t < args.length := by
   rcases Nat.lt_or_ge t args.length with h | h
   ·exact h
   ·rw [List.getD_eq_getElem?_getD, List.getElem?_eq_none h] at ht; simp at ht
  rw [List.getD_eq_getElem?_getD, List.getElem?_eq_getElem hl]
  rw [Array.getElem?_append_left (by simpa [A9] using hl)]
  simp [A9, List.getElem?_eq_getElem hl]
 ·intro t
  rw [tget_argσ]
  simp only [Nat.zero_le, if_true, Nat.sub_zero]
  rw [List.getD_eq_getElem?_getD]
  rcases Nat.lt_or_ge t args.length with h | h
  ·rw [List.getElem?_eq_getElem h]; exact G4 hcl (List.getElem_mem h)
  ·rw [List.getElem?_eq_none h]; simp [closed]
theorem An2 {C : Cx} {fn : Func} {R : Ending → World → Prop} {K : EV → X → Prop} {bs : Nat → Nat} {a : Act} {n : Nat} {σ : List (Nat × EV)} {B : Base} (ht : TRel C [] n σ bs { a with defers := [] })
  (hR : ∀ v x' w', closed x'.n v → HRel C x'.B x'.n x'.hs bs w' → K v x' → R (.returned (real bs v)) w') : ∀ (ms : List Nat) (hs : List (Nat × Option EObj)) (w : World), (∀ i ∈ ms, i < n) → HRel C B n hs bs w →
  Ce6 C fn.results.toList K ⟨σ, n, hs, B, ms⟩ → LeavesInM (fe C) 0 C.P fn a.tmps R (Am1 bs ms) .returning w
 | [], hs, w, _, hH, h => by
  simp only [Ce6, Av3] at h
  split at h
  ·rename_i vs c hv
   obtain ⟨⟨h1, h2⟩, h3⟩ := h
   have hr' : Rel C ⟨σ, n, hs, B, []⟩ bs { a with defers := [] } w := ⟨ht, hH⟩
   obtain ⟨r1, r2⟩ := Bb4 hr' hv h1 h2
   exact ⟨_, r1, hR _ ⟨σ, n, hs, B, []⟩ w r2 hH h3⟩
  ·exact h.elim
 | i :: ms, hs, w, hm, hH, h => by
  simp only [Ce6, Av3] at h
  split at h
  ·rename_i hs' hh
   split at hh
   ·rename_i hg
    obtain ⟨l1, l2⟩ := hH.live i _ hg
    refine ⟨by simp, .inl ⟨bs i, _, rfl, run_takeDeferred l2, ?_⟩⟩
    refine An2 ht hR ms ((i, some (.obj (.deferred none))) :: hs) _ (fun j hj => hm j (by simp [hj])) (hH.store hg (.obj (.deferred none)) trivial) ?_
    simp only [Ce6, hh]; exact h
   ·simp at hh
  ·exact h.elim
theorem N4 {C : Cx} {f : FuncId} {fn : Func} {c : Code} {n : Nat} {B : Base} {hs : List (Nat × Option EObj)} {bs : Nat → Nat} {w : World} {args : List EV} {K : EV → X → Prop} (hrd : C.rd = none)
  (hf : C.P.funcs[f]? = some fn) (hb : fn.body = some c) (hN : fn.ntmps = C.N) (hin : C5 C.N c = true) (hl : args.length ≤ C.N) (hH : HRel C B n hs bs w) (hcl : A0 n args)
  (h : Next C (Bn4 C fn.results.toList K) [.c c] ⟨argσ 0 args, n, hs, B, []⟩) :
  Calls C.P f (A8 bs args).toArray w (fun e w' => ∃ v x' bs', e = .returned (real bs' v) ∧ closed x'.n v ∧ HRel C x'.B x'.n x'.hs bs' w' ∧ K v x') := by
 refine calls_fe.1 (callsIn_of_wp_marks (n := 0) hf hb trivial ?_ hrd)
 have hr : Rel C ⟨argσ 0 args, n, hs, B, []⟩ bs { tmps := (A8 bs args).toArray ++ Array.replicate (fn.ntmps - (A8 bs args).toArray.size) undef, defers := [] } w := ⟨by rw [hN]; exact Bm1 hcl hl, hH⟩
 refine wpIn_mono (h ⟨hin, trivial⟩ bs _ _ hr) ?_
 rintro e a w' ⟨x', bs', hr', hk⟩
 have key : Ce6 C fn.results.toList K x' → LeavesInM (fe C) 0 C.P fn a.tmps (fun e w' => ∃ v x' bs', e = .returned (real bs' v) ∧ closed x'.n v ∧ HRel C x'.B x'.n x'.hs bs' w' ∧ K v x') a.defers .returning w' := by
  intro hk
  rw [hr'.t.defers]
  exact An2 (K := K) (a := a) ⟨hr'.t.size, rfl, by simp, hr'.t.tmps, hr'.t.cl⟩ (fun v x'' w'' h1 h2 h3 => ⟨v, x'', bs', rfl, h1, h2, h3⟩) x'.ms x'.hs w' hr'.t.msin hr'.h hk
 cases e with
 | normal => exact key hk
 | ret => exact key hk
 | exit id => exact hk.elim
 | goto l => exact hk.elim
 | panic ch => exact hk.elim
 | outgrown => exact hk.elim

/-- It returns V; of what was there nothing has turned. -/
def Ret (V : Value) (w : World) (e : Ending) (w' : World) : Prop := e = .returned V ∧ Below w.heap.size w w'
/-- The base at a function's Bm1: all that is there stays. -/
def base (w : World) : Base := ⟨w, fun k => k < w.heap.size⟩
abbrev cx0 (P : Program) (N : Nat) (w : World) : Cx := ⟨P, N, none, [], w, fun _ => False⟩
theorem HRel.start {P : Program} {N : Nat} {w : World} (bs : Nat → Nat) : HRel (cx0 P N w) (base w) 0 [] bs w :=
 ⟨by simp [hget], by simp [hget], by simp [hget], by simp, by simp [hget], fun _ h => ⟨h, rfl⟩, rfl, rfl, rfl, Nat.le_refl _, by simp [hget], fun _ h => h.elim, fun _ h => h.elim, Nat.le_refl _, rfl, rfl, rfl⟩
theorem HRel.below {C : Cx} {w0 w : World} {n : Nat} {hs : List (Nat × Option EObj)} {bs : Nat → Nat} (h : HRel C (base w0) n hs bs w) : Below w0.heap.size w0 w :=
 ⟨h.os, h.tape, h.output, h.hsize, fun k hk => (h.frame k hk).2⟩
/-- Blocks that others have made behind: nothing turns. -/
theorem HRel.later {C : Cx} {B : Base} {n : Nat} {hs : List (Nat × Option EObj)} {bs : Nat → Nat} {w w' : World} (h : HRel C B n hs bs w) (hb : Below w.heap.size w w') : HRel C B n hs bs w' :=
 ⟨fun i o hi => ⟨(h.live i o hi).1, by rw [hb.block _ (G3 (h.live i o hi).2)]; exact (h.live i o hi).2⟩, h.cl, h.inj, h.old, h.new,
  fun k hk => ⟨Nat.lt_of_lt_of_le (h.frame k hk).1 hb.size, by rw [hb.block k (h.frame k hk).1]; exact (h.frame k hk).2⟩,
  hb.os.trans h.os, hb.tape.trans h.tape, hb.output.trans h.output, Nat.le_trans h.hsize hb.size, h.newE,
  fun k hk => ⟨Nat.lt_of_lt_of_le (h.frameE k hk).1 hb.size, by rw [hb.block k (h.frameE k hk).1]; exact (h.frameE k hk).2⟩, h.apart, Nat.le_trans h.eo.1 hb.size, hb.os.trans h.eo.2.1, hb.tape.trans h.eo.2.2.1, hb.output.trans h.eo.2.2.2⟩
/-- At a call whose At2 says 'Ret'. -/
theorem Aj9 {C : Cx} {f : FuncId} {args : List EV} {x : X} {K : EV → Nat → List (Nat × Option EObj) → Prop} (v : EV) (hcl : closed x.n v)
  (h : ∀ bs w, HRel C x.B x.n x.hs bs w → Calls C.P f (A8 bs args).toArray w (Ret (real bs v) w)) (hk : K v x.n x.hs) : Bx7 C f args x K := by
 intro bs w hh _
 refine (h bs w hh).mono ?_
 rintro e w' ⟨rfl, hb⟩
 exact ⟨v, x.n, x.hs, bs, rfl, fun _ _ => rfl, Nat.le_refl _, hcl, hh.later hb, hk⟩
end Go.Ew
namespace Go.Ew
theorem Bm7 {C : Cx} {Q : Exit → X → Prop} {f : FuncId} {args : List EV} {dst : Option Tmp} {st : List It} {x : X} (v : EV) (hE : C6 C.P f) (hcl : closed x.n v)
  (h : ∀ bs w, HRel C x.B x.n x.hs bs w → Calls C.P f (A8 bs args).toArray w (Ret (real bs v) w)) (hk : Next C Q st { σ := put x.σ dst v, n := x.n, hs := x.hs, B := x.B, ms := x.ms }) : W3 C Q f args dst st x :=
 fun _ => .inl (.inl ⟨hE, Aj9 v hcl h hk⟩)
theorem A6 {C : Cx} {Q : Exit → X → Prop} {n : Nat} {t : Bool} {a b : Code} {st : List It} {x : X} (h1 : t = true → goS C Q n (.c a :: st) x) (h2 : t = false → goS C Q n (.c b :: st) x) : Am3 C Q (n + 1) t a b st x := by
 simp only [Am3]; exact ⟨h1, h2⟩
theorem Bm4 {C : Cx} {Q : Exit → X → Prop} {n : Nat} {a b : Code} {st : List It} {x : X} : Am3 C Q (n + 1) true a b st x = goS C Q n (.c a :: st) x := by
 simp [Am3]
theorem Bd9 {C : Cx} {Q : Exit → X → Prop} {n : Nat} {a b : Code} {st : List It} {x : X} : Am3 C Q (n + 1) false a b st x = goS C Q n (.c b :: st) x := by
 simp [Am3]
theorem D9 {C : Cx} {Q : Exit → X → Prop} {n : Nat} {b want : Bool} {d : Tmp} {o : Oper} {st : List It} {x : X} (h1 : b = want → opG C Q n o st { σ := (d, .bool want) :: x.σ, n := x.n, hs := x.hs, B := x.B, ms := x.ms })
  (h2 : b = !want → goS C Q n st { σ := put ((d, .bool (!want)) :: x.σ) o.dst (.tup []), n := x.n, hs := x.hs, B := x.B, ms := x.ms }) : Aa2 C Q (n + 1) b want d o st x := by
 simp only [Aa2]; exact ⟨h1, h2⟩
theorem Bz0 {C : Cx} {Q : Exit → X → Prop} {n : Nat} {d : Tmp} {o : Oper} {st : List It} {x : X} : Aa2 C Q (n + 1) true true d o st x = opG C Q n o st { σ := (d, .bool true) :: x.σ, n := x.n, hs := x.hs, B := x.B, ms := x.ms } := by
 simp [Aa2]
theorem Bz3 {C : Cx} {Q : Exit → X → Prop} {n : Nat} {d : Tmp} {o : Oper} {st : List It} {x : X} : Aa2 C Q (n + 1) false false d o st x = opG C Q n o st { σ := (d, .bool false) :: x.σ, n := x.n, hs := x.hs, B := x.B, ms := x.ms } := by
 simp [Aa2]
theorem Bz1 {C : Cx} {Q : Exit → X → Prop} {n : Nat} {d : Tmp} {o : Oper} {st : List It} {x : X} : Aa2 C Q (n + 1) true false d o st x = goS C Q n st { σ := put ((d, .bool true) :: x.σ) o.dst (.tup []), n := x.n, hs := x.hs, B := x.B, ms := x.ms } := by
 simp [Aa2]
theorem Bz2 {C : Cx} {Q : Exit → X → Prop} {n : Nat} {d : Tmp} {o : Oper} {st : List It} {x : X} : Aa2 C Q (n + 1) false true d o st x = goS C Q n st { σ := put ((d, .bool false) :: x.σ) o.dst (.tup []), n := x.n, hs := x.hs, B := x.B, ms := x.ms } := by
 simp [Aa2]
end Go.Ew
namespace Go.Ew
open Go RowKit

/-- What y tells is told by x. -/
structure Weak (C : Cx) (x y : X) : Prop where
 σ : ∀ t, G2 y.σ t = .any ∨ G2 y.σ t = G2 x.σ t
 hs : ∀ i o, hget y.hs i = some o → hget x.hs i = some o
 cl : ∀ t, closed y.n (G2 y.σ t)
 hcl : ∀ i o, hget y.hs i = some o → i < y.n ∧ o.closed y.n
 olds : C.olds.length ≤ y.n
 B : y.B = x.B
 ms : y.ms = x.ms
 msin : ∀ i ∈ y.ms, i < y.n
theorem HRel.weakH {C : Cx} {x y : X} {bs : Nat → Nat} {w : World} (h : HRel C x.B x.n x.hs bs w) (hw : Weak C x y) : HRel C y.B y.n y.hs bs w := by
 rw [hw.B]
 refine ⟨?_, ?_, ?_, ?_, ?_, h.frame, h.os, h.tape, h.output, h.hsize, fun i o hi => h.newE i o (hw.hs i o hi), h.frameE, h.apart, h.eo⟩
 ·intro i o hi
  exact ⟨(hw.hcl i o hi).1, (h.live i o (hw.hs i o hi)).2⟩
 ·exact fun i o hi => (hw.hcl i o hi).2
 ·exact fun i j oi oj hi hj hb => h.inj i j oi oj (hw.hs i oi hi) (hw.hs j oj hj) hb
 ·intro i b hi
  refine ⟨(h.old i b hi).1, ?_⟩
  have : i < C.olds.length := by
   rcases Nat.lt_or_ge i C.olds.length with hl | hl
   ·exact hl
   ·rw [List.getElem?_eq_none hl] at hi; simp at hi
  have := hw.olds; omega
 ·exact fun i o hi => h.new i o (hw.hs i o hi)
theorem Rel.weak {C : Cx} {x y : X} {bs : Nat → Nat} {a : Act} {w : World} (h : Rel C x bs a w) (hw : Weak C x y) : Rel C y bs a w := by
 refine ⟨⟨h.t.size, by rw [hw.ms]; exact h.t.defers, hw.msin, ?_, hw.cl⟩, h.h.weakH hw⟩
 intro t ht
 rcases hw.σ t with e | e
 ·exact absurd e ht
 ·rw [e] at ht ⊢; exact h.t.tmps t ht
/-- Entry by Bm1. -/
def wσ (n : Nat) (σ : List (Nat × EV)) : List (Nat × EV) → Prop
 | [] => True
 | (t, v) :: r => (G2 σ t = v ∧ closed n v) ∧ wσ n σ r
def clO (n : Nat) (o : Option EObj) : Prop := ∀ o', o = some o' → o'.closed n
@[simp] theorem Ct7 (n : Nat) (o : EObj) : clO n (some o) = o.closed n := by simp [clO]
def whs (n : Nat) (hs : List (Nat × Option EObj)) : List (Nat × Option EObj) → Prop
 | [] => True
 | (i, o) :: r => (hget hs i = o ∧ i < n ∧ clO n o) ∧ whs n hs r
theorem wσ_spec {n : Nat} {σ : List (Nat × EV)} : ∀ {l : List (Nat × EV)}, wσ n σ l → ∀ t, (G2 l t = .any ∨ G2 l t = G2 σ t) ∧ closed n (G2 l t)
 | [], _, t => by simp [G2, closed]
 | (t', v) :: r, h, t => by
  rw [I4]
  by_cases e : t' = t
  ·rw [if_pos e]; subst e; exact ⟨.inr h.1.1.symm, h.1.2⟩
  ·rw [if_neg e]; exact wσ_spec h.2 t
theorem Ap7 {n : Nat} {hs : List (Nat × Option EObj)} : ∀ {l : List (Nat × Option EObj)}, whs n hs l → ∀ i o, hget l i = some o → hget hs i = some o ∧ i < n ∧ o.closed n
 | [], _, i, o, hi => by simp [hget] at hi
 | (i', o') :: r, h, i, o, hi => by
  rw [C0] at hi
  by_cases e : i' = i
  ·rw [if_pos e] at hi; subst e; subst hi
   exact ⟨h.1.1, h.1.2.1, h.1.2.2 _ rfl⟩
  ·rw [if_neg e] at hi; exact Ap7 h.2 i o hi
theorem A5 {C : Cx} {x y : X} (h1 : wσ y.n x.σ y.σ) (h2 : whs y.n x.hs y.hs) (h3 : C.olds.length ≤ y.n) (h4 : y.B = x.B) (h5 : y.ms = x.ms) (h6 : ∀ i ∈ y.ms, i < y.n) : Weak C x y :=
 ⟨fun t => (wσ_spec h1 t).1, fun i o hi => (Ap7 h2 i o hi).1, fun t => (wσ_spec h1 t).2, fun i o hi => (Ap7 h2 i o hi).2, h3, h4, h5, h6⟩
/-- What is left behind an exit out of a piece. -/
def As7 (C : Cx) (Q : Exit → X → Prop) (st : List It) (P : X → Prop) : Exit → X → Prop
 | .normal, x => P x
 | .exit id, x => match unw id st with
  | some st' => Next C Q st' x
  | none => Q (.exit id) x
 | .ret, x => Q .ret x
 | _, _ => False
theorem M5 {C : Cx} {Q : Exit → X → Prop} {st : List It} (hst : Bf2 C.N st) {P : X → Prop} {e : Exit} {x : X} {bs : Nat → Nat} {a : Act} {w : World} (hr : Rel C x bs a w) (h : As7 C Q st P e x) (he : e ≠ .normal) :
  H4 C (Au3 C Q) st e a w := by
 cases e with
 | normal => exact absurd rfl he
 | exit id =>
  simp only [As7] at h
  refine V1 st ?_
  split at h
  ·rename_i st' hu
   first | exact h (Am5 st st' hu hst) bs a w hr | (simp only [hu]; exact h (Am5 st st' hu hst) bs a w hr)
  ·rename_i hu
   first | exact ⟨x, bs, hr, h⟩ | (simp only [hu]; exact ⟨x, bs, hr, h⟩)
 | ret =>
  have : ∀ (st : List It), H4 C (Au3 C Q) st .ret a w := by
   intro st
   induction st with
   | nil => exact ⟨x, bs, hr, h⟩
   | cons it st ih => cases it <;> simpa [H4] using ih
  exact this st
 | goto l => exact h.elim
 | panic ch => exact h.elim
 | outgrown => exact h.elim
/-- Round by round. -/
def Au2 (C : Cx) (Q : Exit → X → Prop) (st : List It) (c : Code) : Nat → X → Prop
 | 0, _ => False
 | n + 1, x => Next C (As7 C Q st (Au2 C Q st c n)) [.c c] x
theorem Co1 {C : Cx} {Q : Exit → X → Prop} {st : List It} {c : Code} {n : Nat} {x : X} (h : Next C (As7 C Q st (Au2 C Q st c n)) [.c c] x) : Au2 C Q st c (n + 1) x := h
theorem Ax1 {C : Cx} {Q : Exit → X → Prop} {c : Code} {st : List It} {x : X} (n : Nat) (h : Au2 C Q st c n x) : Bu8 C Q (.loop c) st x := by
 intro hst bs a w hr
 obtain ⟨hin, hst⟩ := hst
 simp only [C5] at hin
 simp only [H4]
 refine wpIn_loop_rounds n ?_
 induction n generalizing x bs a w with
 | zero => exact h.elim
 | succ n ih =>
  have h1 := h ⟨hin, trivial⟩ bs a w hr
  simp only [H4] at h1
  show c.wpIn (fe C) 0 C.P (Exit.then (Code.roundsIn (fe C) 0 C.P c (H4 C (Au3 C Q) st) n) (H4 C (Au3 C Q) st)) a w
  refine wpIn_mono h1 ?_
  rintro e a' w' ⟨x', bs', hr', hq⟩
  cases e with
  | normal => exact ih hq bs' a' w' hr'
  | exit id => exact M5 hst hr' hq (by simp)
  | goto l => exact hq.elim
  | ret => exact M5 hst hr' hq (by simp)
  | panic ch => exact hq.elim
  | outgrown => exact hq.elim
end Go.Ew
namespace Go.Ew
open Go RowKit

/-- The same states, told otherwise. -/
structure Alike (x y : X) : Prop where
 σ : ∀ t, G2 x.σ t = G2 y.σ t
 n : x.n = y.n
 hs : ∀ i, hget x.hs i = hget y.hs i
 B : x.B = y.B
 ms : x.ms = y.ms
theorem Alike.rfl' (x : X) : Alike x x := ⟨fun _ => rfl, rfl, fun _ => rfl, rfl, rfl⟩
theorem Alike.symm {x y : X} (h : Alike x y) : Alike y x := ⟨fun t => (h.σ t).symm, h.n.symm, fun i => (h.hs i).symm, h.B.symm, h.ms.symm⟩
theorem Alike.trans {x y z : X} (h : Alike x y) (k : Alike y z) : Alike x z := ⟨fun t => (h.σ t).trans (k.σ t), h.n.trans k.n, fun i => (h.hs i).trans (k.hs i), h.B.trans k.B, h.ms.trans k.ms⟩
theorem Rel.alike {C : Cx} {x y : X} {bs : Nat → Nat} {a : Act} {w : World} (h : Rel C x bs a w) (e : Alike x y) : Rel C y bs a w := by
 refine ⟨⟨h.t.size, by rw [← e.ms]; exact h.t.defers, by rw [← e.ms, ← e.n]; exact h.t.msin, ?_, ?_⟩, ?_⟩
 ·intro t ht; rw [← e.σ t] at ht ⊢; exact h.t.tmps t ht
 ·intro t; rw [← e.σ t, ← e.n]; exact h.t.cl t
 ·rw [← e.B]
  refine ⟨?_, ?_, ?_, ?_, ?_, h.h.frame, h.h.os, h.h.tape, h.h.output, h.h.hsize, fun i o hi => by rw [← e.hs i] at hi; exact h.h.newE i o hi, h.h.frameE, h.h.apart, h.h.eo⟩
  ·intro i o hi; rw [← e.hs i] at hi; rw [← e.n]; exact h.h.live i o hi
  ·intro i o hi; rw [← e.hs i] at hi; rw [← e.n]; exact h.h.cl i o hi
  ·intro i j oi oj hi hj hb; rw [← e.hs i] at hi; rw [← e.hs j] at hj; exact h.h.inj i j oi oj hi hj hb
  ·intro i b hi; rw [← e.n]; exact h.h.old i b hi
  ·intro i o hi; rw [← e.hs i] at hi; exact h.h.new i o hi
mutual
/-- Name r does not occur. -/
def av (r : Nat) : EV → Prop
 | .ptr i _ => i ≠ r
 | .sl i _ _ _ => i ≠ r
 | .mp i => i ≠ r
 | .fn _ a b => avs r a ∧ avs r b
 | .agg cs => avs r cs
 | .tup vs => avs r vs
 | .ifc _ v => av r v
 | _ => True
def avs (r : Nat) : List EV → Prop
 | [] => True
 | v :: vs => av r v ∧ avs r vs
end
def EObj.av (r : Nat) : EObj → Prop
 | .cells cs _ _ => avs r cs
 | .obj _ => True
mutual
theorem real_av {bs : Nat → Nat} {r b : Nat} : ∀ v, av r v → real (upd bs r b) v = real bs v
 | .any, _ => by simp [real]
 | .int _ _, _ => by simp [real]
 | .bool _, _ => by simp [real]
 | .str _, _ => by simp [real]
 | .ptr i _, h => by simp only [av] at h; simp [real, upd, h]
 | .sl i _ _ _, h => by simp only [av] at h; simp [real, upd, h]
 | .mp i, h => by simp only [av] at h; simp [real, upd, h]
 | .fn _ a b, h => by simp only [av] at h; simp [real, W8 a h.1, W8 b h.2]
 | .agg cs, h => by simp only [av] at h; simp [real, W8 cs h]
 | .tup vs, h => by simp only [av] at h; simp [real, W8 vs h]
 | .ifc _ v, h => by simp only [av] at h; simp [real, real_av v h]
 | .raw _, _ => by simp [real]
theorem W8 {bs : Nat → Nat} {r b : Nat} : ∀ l, avs r l → A8 (upd bs r b) l = A8 bs l
 | [], _ => by simp [A8]
 | v :: vs, h => by simp only [avs] at h; simp [A8, real_av v h.1, W8 vs h.2]
end
theorem EObj.real_av {bs : Nat → Nat} {r b : Nat} (o : EObj) (h : o.av r) : o.real (upd bs r b) = o.real bs := by
 cases o with
 | cells cs T fr => simp only [EObj.real, W8 cs h]
 | obj o => rfl
mutual
theorem av_closed {n r : Nat} (h : n ≤ r) : ∀ v, closed n v → av r v
 | .any, _ => by simp [av]
 | .int _ _, _ => by simp [av]
 | .bool _, _ => by simp [av]
 | .str _, _ => by simp [av]
 | .ptr i _, hc => by simp only [closed] at hc; simp only [av]; omega
 | .sl i _ _ _, hc => by simp only [closed] at hc; simp only [av]; omega
 | .mp i, hc => by simp only [closed] at hc; simp only [av]; omega
 | .fn _ a b, hc => by simp only [closed] at hc; simp only [av]; exact ⟨P3 h a hc.1, P3 h b hc.2⟩
 | .agg cs, hc => by simp only [closed] at hc; simp only [av]; exact P3 h cs hc
 | .tup vs, hc => by simp only [closed] at hc; simp only [av]; exact P3 h vs hc
 | .ifc _ v, hc => by simp only [closed] at hc; simp only [av]; exact av_closed h v hc
 | .raw _, _ => by simp [av]
theorem P3 {n r : Nat} (h : n ≤ r) : ∀ l, A0 n l → avs r l
 | [], _ => by simp [avs]
 | v :: vs, hc => by simp only [A0] at hc; simp only [avs]; exact ⟨av_closed h v hc.1, P3 h vs hc.2⟩
end
theorem EObj.av_closed {n r : Nat} (h : n ≤ r) (o : EObj) (hc : o.closed n) : o.av r := by
 cases o with
 | cells cs T fr => exact P3 h cs hc
 | obj o => trivial
/-- Name r is free in x. -/
structure Av (r : Nat) (x : X) : Prop where
 σ : ∀ t, av r (G2 x.σ t)
 hs : ∀ i o, hget x.hs i = some o → i ≠ r ∧ o.av r
 n : r < x.n
 ms : r ∉ x.ms
/-- What an operation makes of a state, and what it looks at. -/
structure Ef where
 dst : Option Tmp
 v : EV
 ups : List (Nat × Option EObj)
 a : Nat
 looks : List Nat
 foot : List Nat
 nm : List Nat := []
def Ef.app (E : Ef) (x : X) : X := { σ := put x.σ E.dst E.v, n := x.n + E.a, hs := E.ups ++ x.hs, B := x.B, ms := x.ms }
/-- Alike in what E looks at. -/
structure Agree (E : Ef) (x y : X) : Prop where
 B : x.B = y.B
 ms : x.ms = y.ms
 σ : ∀ t, t ∈ E.looks → G2 x.σ t = G2 y.σ t
 hs : ∀ i, i ∈ E.foot → hget x.hs i = hget y.hs i
 n : E.a ≠ 0 → x.n = y.n
 nm : ∀ r ∈ E.nm, Av r x
def eOp (C : Cx) (ops : List Oper) (o : Oper) (K : X → Prop) (x : X) : Prop :=
 match F3 ops x.σ o.guard with
 | .run => Au6 C o x K
 | .test b want _ => (b = want → Au6 C o x K) ∧ (b = !want → K { σ := put x.σ o.dst (.tup []), n := x.n, hs := x.hs, B := x.B, ms := x.ms })
 | .skip => K { σ := put x.σ o.dst (.tup []), n := x.n, hs := x.hs, B := x.B, ms := x.ms }
 | .bad => False
/-- In each state that is like x in what E looks at, operation o does what E says. -/
def Loc (C : Cx) (ops : List Oper) (o : Oper) (E : Ef) (x : X) : Prop := ∀ y, Agree E y x → eOp C ops o (fun z => Alike z (E.app y)) y
def Aj1 : List (Nat × Option EObj) → List Nat
 | [] => []
 | (i, _) :: r => i :: Aj1 r
def Bu5 : List Nat → List Nat → Bool
 | [], _ => true
 | i :: r, l => !l.contains i && Bu5 r l
def X7 (dst : Option Nat) (l : List Nat) : Bool :=
 match dst with
 | some d => !l.contains d
 | none => true
/-- Two operations of which neither sees what the other does. -/
def Ef.apart (A B : Ef) : Bool :=
 (X7 A.dst B.looks && X7 B.dst A.looks) && (A.dst.isNone || A.dst != B.dst) &&
 (Bu5 (Aj1 A.ups) B.foot && Bu5 (Aj1 B.ups) A.foot) && Bu5 (Aj1 A.ups) (Aj1 B.ups) && (A.a == 0 || B.a == 0)
theorem Q9 (l hs : List (Nat × Option EObj)) (i : Nat) : hget (l ++ hs) i = if i ∈ Aj1 l then hget l i else hget hs i := by
 induction l with
 | nil => simp [Aj1]
 | cons p r ih =>
  obtain ⟨j, o⟩ := p
  rw [List.cons_append, C0, C0, ih]
  simp only [Aj1, List.mem_cons]
  by_cases e : j = i
  ·subst e; simp
  ·have : ¬ i = j := fun h => e h.symm
   simp [e, this]
theorem P7 : ∀ {l m : List Nat}, Bu5 l m = true → ∀ i, i ∈ l → i ∉ m
 | [], m, _, i, hi => by simp at hi
 | j :: r, m, h, i, hi => by
  simp only [Bu5, Bool.and_eq_true, Bool.not_eq_true', List.contains_eq_mem, decide_eq_false_iff_not] at h
  rcases List.mem_cons.1 hi with rfl | hi
  ·exact h.1
  ·exact P7 h.2 i hi
theorem J3 (σ : List (Nat × EV)) (dst : Option Tmp) (v : EV) (t : Nat) : G2 (put σ dst v) t = if dst = some t then v else G2 σ t := by
 cases dst with
 | none => simp [put]
 | some d =>
  simp only [put, I4, Option.some.injEq]
theorem Be8 {A B : Ef} (h : A.apart B = true) (x y : X) (hxy : Agree B x (A.app y)) : Agree B x y := by
 simp only [Ef.apart, Bool.and_eq_true] at h
 obtain ⟨⟨⟨⟨⟨h1, h2⟩, h3⟩, h4, h5⟩, h6⟩, h7⟩ := h
 refine ⟨hxy.B, hxy.ms, fun t ht => ?_, fun i hi => ?_, fun hn => ?_, hxy.nm⟩
 ·rw [hxy.σ t ht]
  simp only [Ef.app, J3]
  rw [if_neg]
  intro e
  rw [e] at h1
  simp only [X7, Bool.not_eq_true', List.contains_eq_mem, decide_eq_false_iff_not] at h1
  exact h1 ht
 ·rw [hxy.hs i hi]
  simp only [Ef.app, Q9]
  rw [if_neg]
  intro e
  exact P7 h4 i e hi
 ·rw [hxy.n hn]
  simp only [Ef.app]
  simp only [Bool.or_eq_true, beq_iff_eq] at h7
  omega
theorem X9 {A B : Ef} (h : A.apart B = true) : B.apart A = true := by
 have d2 : ∀ (l m : List Nat), Bu5 l m = true → Bu5 m l = true := by
  intro l m hd
  induction m with
  | nil => rfl
  | cons j r ih =>
   have hs := P7 hd
   simp only [Bu5, Bool.and_eq_true, Bool.not_eq_true', List.contains_eq_mem, decide_eq_false_iff_not]
   refine ⟨fun hj => hs j hj (by simp), ih ?_⟩
   clear ih
   induction l with
   | nil => rfl
   | cons i q ihq =>
    have := hs i (by simp)
    simp only [Bu5, Bool.and_eq_true, Bool.not_eq_true', List.contains_eq_mem, decide_eq_false_iff_not]
    refine ⟨fun hi => this (by simp [hi]), ihq ?_ (fun k hk => hs k (by simp [hk]))⟩
    simp only [Bu5, Bool.and_eq_true] at hd; exact hd.2
 simp only [Ef.apart, Bool.and_eq_true] at h ⊢
 obtain ⟨⟨⟨⟨⟨h1, h2⟩, h3⟩, h4, h5⟩, h6⟩, h7⟩ := h
 refine ⟨⟨⟨⟨⟨h2, h1⟩, ?_⟩, h5, h4⟩, d2 _ _ h6⟩, ?_⟩
 ·cases ha : A.dst <;> cases hb : B.dst <;> simp_all
  exact fun e => h3 e.symm
 ·rw [Bool.or_comm]; exact h7
theorem Ap1 {A B : Ef} (h : A.apart B = true) (x : X) : Alike (A.app (B.app x)) (B.app (A.app x)) := by
 simp only [Ef.apart, Bool.and_eq_true] at h
 obtain ⟨⟨⟨⟨⟨h1, h2⟩, h3⟩, h4, h5⟩, h6⟩, h7⟩ := h
 refine ⟨fun t => ?_, ?_, fun i => ?_, rfl, rfl⟩
 ·simp only [Ef.app, J3]
  by_cases ea : A.dst = some t
  ·by_cases eb : B.dst = some t
   ·simp [ea, eb] at h3
   ·simp [ea, eb]
  ·simp [ea]
 ·simp only [Ef.app]; omega
 ·simp only [Ef.app, Q9]
  by_cases ea : i ∈ Aj1 A.ups
  ·have := P7 h6 i ea
   simp [ea, this]
  ·simp [ea]
theorem Be9 {E : Ef} {x y z : X} (h : Agree E x y) (e : Alike y z) : Agree E x z :=
 ⟨h.B.trans e.B, h.ms.trans e.ms, fun t ht => (h.σ t ht).trans (e.σ t), fun i hi => (h.hs i hi).trans (e.hs i), fun hn => (h.n hn).trans e.n, h.nm⟩
theorem Ba1 {E : Ef} {x y : X} (e : Alike x y) : Alike (E.app x) (E.app y) :=
 ⟨fun t => by simp only [Ef.app, J3, e.σ t], by simp only [Ef.app, e.n], fun i => by simp only [Ef.app, Q9, e.hs i], e.B, e.ms⟩
theorem Bs2 {C : Cx} {ops : List Oper} {o : Oper} {E : Ef} {x y : X} (h : Loc C ops o E x) (e : Alike x y) : Loc C ops o E y :=
 fun z hz => h z (Be9 hz e.symm)
/-- The walk in the order of the text. -/
def Al6 (C : Cx) (ops : List Oper) (K : X → Prop) : List (Nat × Oper × Ef) → X → Prop
 | [], x => ∀ y, Alike y x → K y
 | (_, o, E) :: r, x => Loc C ops o E x ∧ Al6 C ops K r (E.app x)
theorem Z6 {C : Cx} {ops : List Oper} {K : X → Prop} : ∀ (l : List (Nat × Oper × Ef)) {x y : X}, Al6 C ops K l x → Alike x y → Al6 C ops K l y
 | [], x, y, h, e => fun z hz => h z (hz.trans e.symm)
 | (_, o, E) :: r, x, y, h, e => ⟨Bs2 h.1 e, Z6 r h.2 (Ba1 e)⟩
theorem Bm5 {C : Cx} {ops : List Oper} {K : X → Prop} {i j : Nat} {oi oj : Oper} {A B : Ef} {r : List (Nat × Oper × Ef)} {x : X} (hap : A.apart B = true)
  (h : Al6 C ops K ((j, oj, A) :: (i, oi, B) :: r) x) : Al6 C ops K ((i, oi, B) :: (j, oj, A) :: r) x := by
 obtain ⟨h1, h2, h3⟩ := h
 refine ⟨?_, ?_, ?_⟩
 ·intro y hy
  refine h2 y ?_
  -- y agrees with x on B's looks: so with A.app x
  have := hap
  simp only [Ef.apart, Bool.and_eq_true] at hap
  obtain ⟨⟨⟨⟨⟨a1, a2⟩, a3⟩, a4, a5⟩, a6⟩, a7⟩ := hap
  refine ⟨hy.B, hy.ms, fun t ht => ?_, fun k hk => ?_, fun hn => ?_, hy.nm⟩
  ·rw [hy.σ t ht]
   simp only [Ef.app, J3]
   rw [if_neg]
   intro e
   rw [e] at a1
   simp only [X7, Bool.not_eq_true', List.contains_eq_mem, decide_eq_false_iff_not] at a1
   exact a1 ht
  ·rw [hy.hs k hk]
   simp only [Ef.app, Q9]
   rw [if_neg]
   intro e
   exact P7 a4 k e hk
  ·rw [hy.n hn]
   simp only [Ef.app]
   simp only [Bool.or_eq_true, beq_iff_eq] at a7
   omega
 ·intro y hy
  exact h1 y (Be8 (X9 hap) y x hy)
 ·exact Z6 r h3 (Ap1 (X9 hap) x)
theorem Ak4 {C : Cx} {ops : List Oper} {K : X → Prop} {i : Nat} {oi : Oper} {B : Ef} {l2 : List (Nat × Oper × Ef)} : ∀ (l1 : List (Nat × Oper × Ef)) {x : X}, (∀ p ∈ l1, p.2.2.apart B = true) →
  Al6 C ops K (l1 ++ (i, oi, B) :: l2) x → Al6 C ops K ((i, oi, B) :: (l1 ++ l2)) x
 | [], x, _, h => h
 | (j, oj, A) :: r, x, hap, h => by
  have h2 : Al6 C ops K ((j, oj, A) :: (i, oi, B) :: (r ++ l2)) x := ⟨h.1, Ak4 r (fun p hp => hap p (by simp [hp])) h.2⟩
  exact Bm5 (hap (j, oj, A) (by simp)) h2
theorem As9 {C : Cx} {ops : List Oper} {i : Nat} {o : Oper} (h0 : ops.toArray[i]? = some o) {K : X → Prop} {K' : Act → World → Prop} {Q' : Exit → Act → World → Prop} {x : X} (hd : K3 C.N o.dst = true) (h : eOp C ops o K x)
  (hk : ∀ x' bs' a' w', Rel C x' bs' a' w' → K x' → K' a' w') {bs : Nat → Nat} {a : Act} {w : World} (hr : Rel C x bs a w) : wpOpIn (fe C) 0 C.P ops.toArray Q' i K' a w := by
 unfold wpOpIn
 simp only [h0]
 obtain ⟨g1, g2, g5⟩ := Ab3 hr.t (ops := ops) (o := o)
 unfold eOp at h
 cases hg : F3 ops x.σ o.guard with
 | run =>
  simp only [hg] at h
  rw [if_pos (g1 hg)]
  exact (Oper.wpIn_mono (fun a' w' ⟨x', bs', hr', hk'⟩ => hk x' bs' a' w' hr' hk') (h bs a w hr _))
 | test b want d =>
  simp only [hg] at h
  obtain ⟨g3, g4⟩ := g2 b want d hg
  rw [g3]
  by_cases e : b = want
  ·subst e
   rw [if_pos (by simp)]
   exact (Oper.wpIn_mono (fun a' w' ⟨x', bs', hr', hk'⟩ => hk x' bs' a' w' hr' hk') (h.1 rfl bs a w hr _))
  ·rw [if_neg (by simpa using e)]
   have e' : b = !want := by cases b <;> cases want <;> simp_all
   exact ⟨fun _ _ => trivial, hk ⟨put x.σ o.dst (.tup []), x.n, x.hs, x.B, x.ms⟩ bs _ w ⟨hr.t.next (Nat.le_refl _) (fun _ _ => rfl) hd (v := .tup []) (.inr (by simp [real, A8, undef])) (by simp [closed, A0]), hr.h⟩ (h.2 e')⟩
 | skip =>
  simp only [hg] at h
  rw [g5 hg, if_neg (by simp)]
  exact ⟨fun _ _ => trivial, hk ⟨put x.σ o.dst (.tup []), x.n, x.hs, x.B, x.ms⟩ bs _ w ⟨hr.t.next (Nat.le_refl _) (fun _ _ => rfl) hd (v := .tup []) (.inr (by simp [real, A8, undef])) (by simp [closed, A0]), hr.h⟩ h⟩
 | bad => simp only [hg] at h
def I5 (o : Oper) (j : Nat) : Bool := o.after.any fun e => Region.binds .any e && e.on == j
/-- Of each two operations the later one waits for the earlier, or they are apart. -/
def PW (l : List (Nat × Oper × Ef)) : Prop := l.Pairwise fun p q => I5 q.2.1 p.1 = true ∨ p.2.2.apart q.2.2 = true
/-- Nothing of what E makes bears the name r. -/
def Ef.off (r : Nat) (E : Ef) : Prop := av r E.v ∧ ∀ k o, (k, o) ∈ E.ups → k ≠ r ∧ ∀ o', o = some o' → o'.av r
theorem Bh3 : ∀ {l : List (Nat × Option EObj)} {i : Nat} {o : EObj}, hget l i = some o → (i, some o) ∈ l
 | [], i, o, h => by simp [hget] at h
 | (j, o') :: r, i, o, h => by
  rw [C0] at h
  by_cases e : j = i
  ·rw [if_pos e] at h; subst e; subst h; simp
  ·rw [if_neg e] at h; exact List.mem_cons_of_mem _ (Bh3 h)
theorem Av.app {r : Nat} {x : X} {E : Ef} (h : Av r x) (k : E.off r) : Av r (E.app x) := by
 refine ⟨fun t => ?_, fun i o hi => ?_, Nat.lt_of_lt_of_le h.n (Nat.le_add_right _ _), h.ms⟩
 ·simp only [Ef.app, J3]; split
  ·exact k.1
  ·exact h.σ t
 ·simp only [Ef.app, Q9] at hi
  split at hi
  ·have := k.2 i _ (Bh3 hi)
   exact ⟨this.1, this.2 o rfl⟩
  ·exact h.hs i o hi
theorem Ax9 {C : Cx} {ops : List Oper} {K : X → Prop} {Q : Exit → Act → World → Prop} (hQ : ∀ x bs a w, Rel C x bs a w → K x → Q .normal a w)
  (hback : ∀ i o, ops[i]? = some o → ∀ e ∈ o.after, Region.binds .any e = true → e.on < i) :
  ∀ (fuel : Nat) (l : List (Nat × Oper × Ef)) (listed : Array Bool) (x : X) (bs : Nat → Nat) (a : Act) (w : World), l.length = fuel → listed.size = ops.length →
   (∀ p ∈ l, ops[p.1]? = some p.2.1 ∧ K3 C.N p.2.1.dst = true ∧ listed.getD p.1 true = false) → (∀ i, i < ops.length → listed.getD i true = false → ∃ p ∈ l, p.1 = i) → (l.Pairwise fun p q => p.1 < q.1) →
   PW l → (∀ p ∈ l, ∀ r ∈ p.2.2.nm, Av r x) → (∀ p ∈ l, ∀ q ∈ l, p.1 ≠ q.1 → ∀ r ∈ q.2.2.nm, I5 p.2.1 q.1 = true ∨ p.2.2.off r) → Al6 C ops K l x → Rel C x bs a w → wpAnyIn (fe C) 0 C.P .any ops.toArray Q fuel listed a w
 | 0, l, listed, x, bs, a, w, hlen, hsz, hin, hall, hsort, hpw, hav, hnm, hch, hr => by
  have hl : l = [] := List.length_eq_zero_iff.1 hlen
  subst hl
  refine ⟨?_, hQ x bs a w hr (hch x (Alike.rfl' x))⟩
  simp only [Region.ready, List.filter_eq_nil_iff, List.mem_range, List.size_toArray]
  intro i hi
  have : listed.getD i true = true := by
   cases hb : listed.getD i true with
   | true => rfl
   | false => obtain ⟨p, hp, _⟩ := hall i hi hb; simp at hp
  simp [Array.getD_eq_getD_getElem?] at this
  simp [this]
 | fuel + 1, l, listed, x, bs, a, w, hlen, hsz, hin, hall, hsort, hpw, hav, hnm, hch, hr => by
  refine ⟨?_, ?_⟩
  ·intro hready
   exfalso
   cases l with
   | nil => simp at hlen
   | cons p r =>
    obtain ⟨hp1, hp2, hp3⟩ := hin p (by simp)
    have hlt : p.1 < ops.length := by
     rcases Nat.lt_or_ge p.1 ops.length with h | h
     ·exact h
     ·rw [List.getElem?_eq_none h] at hp1; simp at hp1
    have : p.1 ∈ Region.ready .any ops.toArray listed := by
     rw [mem_ready]
     refine ⟨hp3, p.2.1, by simpa using hp1, ?_⟩
     intro e he hb
     have hon := hback p.1 p.2.1 hp1 e he hb
     cases hle : listed.getD e.on true with
     | true =>
      have : e.on < listed.size := by omega
      simpa [Array.getD_eq_getD_getElem?, this] using hle
     | false =>
      obtain ⟨q, hq, hq1⟩ := hall e.on (by omega) hle
      rcases List.mem_cons.1 hq with rfl | hq
      ·omega
      ·have := (List.pairwise_cons.1 hsort).1 q hq
       omega
    rw [hready] at this; simp at this
  ·intro i hi
   obtain ⟨hun, o, ho, hedges⟩ := mem_ready.1 hi
   have hlt : i < ops.length := by
    rcases Nat.lt_or_ge i ops.length with h | h
    ·exact h
    ·simp [List.getElem?_eq_none h] at ho
   obtain ⟨p, hp, hpi⟩ := hall i hlt hun
   obtain ⟨l1, l2, rfl⟩ := List.append_of_mem hp
   obtain ⟨i', oi, E⟩ := p
   simp only at hpi
   subst hpi
   obtain ⟨hp1, hp2, hp3⟩ := hin (i', oi, E) hp
   have hoo : oi = o := by simp at ho hp1; rw [hp1] at ho; simpa using ho
   subst hoo
   have hap : ∀ q ∈ l1, q.2.2.apart E = true := by
    intro q hq
    have hpq := (List.pairwise_append.1 hpw).2.2 q hq (i', oi, E) (by simp)
    rcases hpq with he | he
    ·exfalso
     simp only [I5, Array.any_eq_true'] at he
     obtain ⟨e, he1, he2⟩ := he
     simp only [Bool.and_eq_true, beq_iff_eq] at he2
     have hlist := hedges e he1 he2.1
     obtain ⟨_, _, hq3⟩ := hin q (by simp [hq])
     rw [he2.2] at hlist
     rcases Nat.lt_or_ge q.1 listed.size with h | h
     ·simp [Array.getD_eq_getD_getElem?, h] at hlist hq3
      rw [hlist] at hq3; simp at hq3
     ·simp [Array.getD_eq_getD_getElem?, Array.getElem?_eq_none h] at hlist
    ·exact he
   have hnoE : ∀ q ∈ l1 ++ (i', oi, E) :: l2, I5 oi q.1 = true → False := by
    intro q hq he
    simp only [I5, Array.any_eq_true'] at he
    obtain ⟨e, he1, he2⟩ := he
    simp only [Bool.and_eq_true, beq_iff_eq] at he2
    have hlist := hedges e he1 he2.1
    obtain ⟨_, _, hq3⟩ := hin q hq
    rw [he2.2] at hlist
    rcases Nat.lt_or_ge q.1 listed.size with h | h
    ·simp [Array.getD_eq_getD_getElem?, h] at hlist hq3
     rw [hlist] at hq3; simp at hq3
    ·simp [Array.getD_eq_getD_getElem?, Array.getElem?_eq_none h] at hlist
   have hch' := Ak4 l1 hap hch
   have hns : ∀ q ∈ l1 ++ l2, q.1 ≠ i' := by
    intro q hq e
    rcases List.mem_append.1 hq with h | h
    ·have := (List.pairwise_append.1 hsort).2.2 q h (i', oi, E) (by simp); omega
    ·have := (List.pairwise_cons.1 (List.pairwise_append.1 hsort).2.1).1 q h; simp only at this; omega
   have hsub : (l1 ++ l2).Sublist (l1 ++ (i', oi, E) :: l2) := List.Sublist.append (List.Sublist.refl _) (List.sublist_cons_self _ _)
   refine As9 (by simpa using hp1) hp2 (hch'.1 x ⟨rfl, rfl, fun _ _ => rfl, fun _ _ => rfl, fun _ => rfl, fun r hr => hav _ hp r hr⟩) ?_ hr
   intro x' bs' a' w' hr' hal
   refine Ax9 hQ hback fuel (l1 ++ l2) _ (E.app x) bs' a' w' ?_ (by simpa using hsz) ?_ ?_ (hsort.sublist hsub) (hpw.sublist hsub) (fun q hq r hr => (hav q (hsub.subset hq) r hr).app ((hnm _ hp q (hsub.subset hq) (Ne.symm (hns q hq)) r hr).resolve_left (fun he => hnoE q (hsub.subset hq) he))) (fun q hq q' hq' => hnm q (hsub.subset hq) q' (hsub.subset hq')) hch'.2 (hr'.alike hal)
   ·simp at hlen ⊢; omega
   ·intro q hq
    obtain ⟨q1, q2, q3⟩ := hin q (hsub.subset hq)
    refine ⟨q1, q2, ?_⟩
    rw [getD_set_ne true (Ne.symm (hns q hq))]; exact q3
   ·intro k hk hkl
    by_cases e : k = i'
    ·subst e
     simp [Array.getD_eq_getD_getElem?, show k < listed.size by omega] at hkl
    ·rw [getD_set_ne true (Ne.symm e)] at hkl
     obtain ⟨q, hq, hq1⟩ := hall k hk hkl
     refine ⟨q, ?_, hq1⟩
     rcases List.mem_append.1 hq with h | h
     ·exact List.mem_append.2 (.inl h)
     ·rcases List.mem_cons.1 h with rfl | h
      ·exact absurd hq1.symm e
      ·exact List.mem_append.2 (.inr h)
end Go.Ew
namespace Go.Ew
open Go RowKit

def K4 : Operand → List Nat
 | .tmp t => [t]
 | _ => []
def Aa9 : List Operand → List Nat
 | [] => []
 | o :: r => K4 o ++ Aa9 r
def Ai2 : List (Nat × Operand) → List Nat
 | [] => []
 | (_, o) :: r => K4 o ++ Ai2 r
def Br9 : Option Operand → List Nat
 | none => []
 | some o => K4 o
def C2 : Op → List Nat
 | .move a => K4 a
 | .assign a => K4 a
 | .pick c a b => K4 c ++ (K4 a ++ K4 b)
 | .load _ p => K4 p
 | .binOp _ _ a b _ => K4 a ++ K4 b
 | .unOp _ _ a => K4 a
 | .convert _ _ a => K4 a
 | .index _ a i => K4 a ++ K4 i
 | .indexAddr _ a i => K4 a ++ K4 i
 | .fieldAddr _ a _ => K4 a
 | .field _ a _ => K4 a
 | .slice _ a lo hi mx => K4 a ++ (Br9 lo ++ (Br9 hi ++ Br9 mx))
 | .extract a _ => K4 a
 | .build _ parts => Ai2 parts.toList
 | .makeFunc _ f c => Aa9 f.toList ++ Aa9 c.toList
 | .nilCheck a => K4 a
 | .call { callee := .value f, args, .. } => K4 f ++ Aa9 args.toList
 | .call { args, .. } => Aa9 args.toList
 | .box _ a => K4 a
 | .buildSlice _ _ parts => Ai2 parts.toList
 | .makeSlice _ l c => K4 l ++ K4 c
 | .store _ p v => K4 p ++ K4 v
 | _ => []
def Af6 (σ : List (Nat × EV)) : Op → List Nat
 | .load _ p => match ev σ p with
  | .ptr i _ => [i]
  | _ => []
 | _ => []
theorem E5 {σ σ' : List (Nat × EV)} {o : Operand} (h : ∀ t ∈ K4 o, G2 σ' t = G2 σ t) : ev σ' o = ev σ o := by
 cases o with
 | tmp t => exact h t (by simp [K4])
 | _ => rfl
theorem O1 {σ σ' : List (Nat × EV)} : ∀ {l : List Operand}, (∀ t ∈ Aa9 l, G2 σ' t = G2 σ t) → l.map (ev σ') = l.map (ev σ)
 | [], _ => rfl
 | o :: r, h => by
  rw [List.map_cons, List.map_cons, E5 (fun t ht => h t (by simp [Aa9, ht])), O1 (fun t ht => h t (by simp [Aa9, ht]))]
theorem V9 {σ σ' : List (Nat × EV)} : ∀ {l : List (Nat × Operand)}, (∀ t ∈ Ai2 l, G2 σ' t = G2 σ t) → evs σ' l = evs σ l
 | [], _ => rfl
 | (i, o) :: r, h => by
  simp only [evs, E5 (σ := σ) (σ' := σ') (o := o) (fun t ht => h t (by simp [Ai2, ht])), V9 (l := r) (fun t ht => h t (by simp [Ai2, ht]))]
theorem Aj7 {σ σ' : List (Nat × EV)} {o : Option Operand} (h : ∀ t ∈ Br9 o, G2 σ' t = G2 σ t) : evo σ' o = evo σ o := by
 cases o with
 | none => rfl
 | some o => simp only [evo, E5 (σ := σ) (σ' := σ') (o := o) h]
theorem Q6 {C : Cx} {x y : X} {op : Op} (hB : y.B = x.B) (h : ∀ t ∈ C2 op, G2 y.σ t = G2 x.σ t) (hf : ∀ i ∈ Af6 x.σ op, hget y.hs i = hget x.hs i) : H1 C y op = H1 C x op := by
 cases op with
 | move a => simp only [H1, E5 (σ := x.σ) (σ' := y.σ) (o := a) (fun t ht => h t (by simp [C2, ht]))]
 | assign a => simp only [H1, E5 (σ := x.σ) (σ' := y.σ) (o := a) (fun t ht => h t (by simp [C2, ht]))]
 | pick c a b => simp only [H1, E5 (σ := x.σ) (σ' := y.σ) (o := a) (fun t ht => h t (by simp [C2, ht])), E5 (σ := x.σ) (σ' := y.σ) (o := b) (fun t ht => h t (by simp [C2, ht])), E5 (σ := x.σ) (σ' := y.σ) (o := c) (fun t ht => h t (by simp [C2, ht]))]
 | load T p =>
  have e := E5 (σ := x.σ) (σ' := y.σ) (o := p) (fun t ht => h t (by simp [C2, ht]))
  simp only [H1, e, hB]
  simp only [Af6] at hf
  unfold M2
  split
  ·rename_i i off hp
   rw [hp] at hf
   rw [hf i (by simp)]
  ·rfl
  ·rfl
 | binOp op T a b T' => simp only [H1, E5 (σ := x.σ) (σ' := y.σ) (o := a) (fun t ht => h t (by simp [C2, ht])), E5 (σ := x.σ) (σ' := y.σ) (o := b) (fun t ht => h t (by simp [C2, ht]))]
 | unOp op T a => simp only [H1, E5 (σ := x.σ) (σ' := y.σ) (o := a) (fun t ht => h t (by simp [C2, ht]))]
 | convert s d a => simp only [H1, E5 (σ := x.σ) (σ' := y.σ) (o := a) (fun t ht => h t (by simp [C2, ht]))]
 | index T a b => simp only [H1, E5 (σ := x.σ) (σ' := y.σ) (o := a) (fun t ht => h t (by simp [C2, ht])), E5 (σ := x.σ) (σ' := y.σ) (o := b) (fun t ht => h t (by simp [C2, ht]))]
 | indexAddr T a b => simp only [H1, E5 (σ := x.σ) (σ' := y.σ) (o := a) (fun t ht => h t (by simp [C2, ht])), E5 (σ := x.σ) (σ' := y.σ) (o := b) (fun t ht => h t (by simp [C2, ht]))]
 | fieldAddr T a f => simp only [H1, E5 (σ := x.σ) (σ' := y.σ) (o := a) (fun t ht => h t (by simp [C2, ht]))]
 | field T a f => simp only [H1, E5 (σ := x.σ) (σ' := y.σ) (o := a) (fun t ht => h t (by simp [C2, ht]))]
 | slice T a lo hi mx => simp only [H1, E5 (σ := x.σ) (σ' := y.σ) (o := a) (fun t ht => h t (by simp [C2, ht])), Aj7 (σ := x.σ) (σ' := y.σ) (o := lo) (fun t ht => h t (by simp [C2, ht])), Aj7 (σ := x.σ) (σ' := y.σ) (o := hi) (fun t ht => h t (by simp [C2, ht])), Aj7 (σ := x.σ) (σ' := y.σ) (o := mx) (fun t ht => h t (by simp [C2, ht]))]
 | extract a i => simp only [H1, E5 (σ := x.σ) (σ' := y.σ) (o := a) (fun t ht => h t (by simp [C2, ht]))]
 | build T parts => simp only [H1, V9 (σ := x.σ) (σ' := y.σ) (l := parts.toList) (fun t ht => h t (by simp [C2, ht]))]
 | makeFunc f first cap => simp only [H1, O1 (σ := x.σ) (σ' := y.σ) (l := first.toList) (fun t ht => h t (by simp [C2, ht])), O1 (σ := x.σ) (σ' := y.σ) (l := cap.toList) (fun t ht => h t (by simp [C2, ht]))]
 | nilCheck a => simp only [H1, E5 (σ := x.σ) (σ' := y.σ) (o := a) (fun t ht => h t (by simp [C2, ht]))]
 | call c =>
  obtain ⟨callee, args, Ts⟩ := c
  cases callee with
  | builtin b => simp only [H1, O1 (σ := x.σ) (σ' := y.σ) (l := args.toList) (fun t ht => h t (by simp [C2, ht]))]
  | _ => rfl
 | _ => rfl
theorem Ac4 {C : Cx} {x y : X} {op : Op} (h : ∀ t ∈ C2 op, G2 y.σ t = G2 x.σ t) (hn : y.n = x.n) : G0 C y op = G0 C x op := by
 cases op with
 | alloc T => simp only [G0, hn]
 | box T a => simp only [G0, hn, E5 (σ := x.σ) (σ' := y.σ) (o := a) (fun t ht => h t (by simp [C2, ht]))]
 | buildSlice T len parts => simp only [G0, hn, V9 (σ := x.σ) (σ' := y.σ) (l := parts.toList) (fun t ht => h t (by simp [C2, ht]))]
 | makeSlice T l c => simp only [G0, hn, E5 (σ := x.σ) (σ' := y.σ) (o := l) (fun t ht => h t (by simp [C2, ht])), E5 (σ := x.σ) (σ' := y.σ) (o := c) (fun t ht => h t (by simp [C2, ht]))]
 | _ => rfl
theorem Af9 {C : Cx} {x y : X} {op : Op} (h : ∀ t ∈ C2 op, G2 y.σ t = G2 x.σ t) (hx : G0 C x op = none) : G0 C y op = none := by
 cases op with
 | alloc T =>
  simp only [G0] at hx ⊢
  split at hx
  ·simp at hx
  ·rfl
 | box T a =>
  simp only [G0, E5 (σ := x.σ) (σ' := y.σ) (o := a) (fun t ht => h t (by simp [C2, ht]))] at hx ⊢
  split at hx
  ·rfl
  ·simp at hx
  ·simp at hx
 | buildSlice T len parts =>
  simp only [G0, V9 (σ := x.σ) (σ' := y.σ) (l := parts.toList) (fun t ht => h t (by simp [C2, ht]))] at hx ⊢
  split at hx
  ·split at hx
   ·cases ho : Aa8 (evs x.σ parts.toList) with
    | true =>
     simp only [ho, cond_true] at hx ⊢
     split at hx
     ·simp at hx
     ·rfl
    | false => simp
   ·rfl
  ·rfl
 | makeSlice T l c =>
  simp only [G0, E5 (σ := x.σ) (σ' := y.σ) (o := l) (fun t ht => h t (by simp [C2, ht])), E5 (σ := x.σ) (σ' := y.σ) (o := c) (fun t ht => h t (by simp [C2, ht]))] at hx ⊢
  split at hx
  ·split at hx
   ·simp at hx
   ·rfl
  ·rfl
 | _ => rfl
def Bz6 (σ : List (Nat × EV)) : Op → List Nat
 | .store _ p _ => match ev σ p with
  | .ptr i _ => [i]
  | _ => []
 | _ => []
theorem Aa4 {C : Cx} {x y : X} {op : Op} (h : ∀ t ∈ C2 op, G2 y.σ t = G2 x.σ t) (hf : ∀ i ∈ Bz6 x.σ op, hget y.hs i = hget x.hs i) : R2 C y op = R2 C x op := by
 cases op with
 | store T p v =>
  have e1 := E5 (σ := x.σ) (σ' := y.σ) (o := p) (fun t ht => h t (by simp [C2, ht]))
  have e2 := E5 (σ := x.σ) (σ' := y.σ) (o := v) (fun t ht => h t (by simp [C2, ht]))
  simp only [R2, e1, e2]
  simp only [Bz6] at hf
  split
  ·rename_i i off hp
   rw [hp] at hf
   rw [hf i (by simp)]
  ·rfl
 | _ => rfl
/-- What an operation that is no call makes of a state. -/
def F7 (ops : List Oper) (g : Option (Nat × Bool)) : List Nat :=
 match g with
 | none => []
 | some (j, _) => match ops[j]? with
  | some oj => match oj.dst with
   | some d => [d]
   | none => []
  | none => []
/-- A block's value, under the name r. -/
def atN (r : Nat) : EV → EV
 | .ptr _ off => .ptr r off
 | .sl _ off len cap => .sl r off len cap
 | v => v
/-- The name that is kept for a slot's block, where names are kept. -/
def Db9 (n : Nat) (dst : Option Tmp) : Option Nat :=
 match dst with
 | some d => if 200000 ≤ n then some (100000 + d) else none
 | none => none
theorem Bj5 {C : Cx} {x y : X} {op : Op} {v : EV} {ob : EObj} {c : Prop} (h : ∀ t ∈ C2 op, G2 y.σ t = G2 x.σ t) (ha : G0 C x op = some (v, ob, c)) (r : Nat) :
  ∃ v', G0 C y op = some (v', ob, c) ∧ (∀ (bs : Nat → Nat) b, real (upd bs y.n b) v' = real (upd bs r b) (atN r v)) ∧ ∀ n, r < n → closed n (atN r v) := by
 cases op with
 | alloc T =>
  simp only [G0] at ha ⊢
  split at ha
  ·rename_i zs hz
   simp only [Option.some.injEq, Prod.mk.injEq] at ha; obtain ⟨rfl, rfl, rfl⟩ := ha
   exact ⟨.ptr y.n 0, by first | rfl | simp [hz], fun bs b => by simp [atN, real, E7], fun n hn => hn⟩
  ·simp at ha
 | box T a =>
  have e := E5 (σ := x.σ) (σ' := y.σ) (o := a) (fun t ht => h t (by simp [C2, ht]))
  simp only [G0] at ha ⊢
  rw [e]
  split at ha
  ·simp at ha
  ·simp only [Option.some.injEq, Prod.mk.injEq] at ha; obtain ⟨rfl, rfl, rfl⟩ := ha
   exact ⟨_, rfl, fun bs b => by simp [atN, real, E7], fun n hn => hn⟩
  ·simp only [Option.some.injEq, Prod.mk.injEq] at ha; obtain ⟨rfl, rfl, rfl⟩ := ha
   exact ⟨_, rfl, fun bs b => by simp [atN, real, E7], fun n hn => hn⟩
 | buildSlice T len parts =>
  have e := V9 (σ := x.σ) (σ' := y.σ) (l := parts.toList) (fun t ht => h t (by simp [C2, ht]))
  simp only [G0] at ha ⊢
  rw [e]
  split at ha
  ·rename_i e' hu
   split at ha
   ·rename_i zs hz
    cases ho : Aa8 (evs x.σ parts.toList) with
    | false => simp [ho] at ha
    | true =>
     simp only [ho, cond_true] at ha ⊢
     split at ha
     ·rename_i cs he
      simp only [Option.some.injEq, Prod.mk.injEq] at ha; obtain ⟨rfl, rfl, rfl⟩ := ha
      exact ⟨.sl y.n 0 len len, by first | rfl | simp [he], fun bs b => by simp [atN, real, E7], fun n hn => hn⟩
     ·simp at ha
   ·simp at ha
  ·simp at ha
 | makeSlice T l c =>
  have e1 := E5 (σ := x.σ) (σ' := y.σ) (o := l) (fun t ht => h t (by simp [C2, ht]))
  have e2 := E5 (σ := x.σ) (σ' := y.σ) (o := c) (fun t ht => h t (by simp [C2, ht]))
  simp only [G0] at ha ⊢
  rw [e1, e2]
  split at ha
  ·split at ha
   ·simp only [Option.some.injEq, Prod.mk.injEq] at ha; obtain ⟨rfl, rfl, rfl⟩ := ha
    exact ⟨_, rfl, fun bs b => by simp [atN, real, E7], fun n hn => hn⟩
   ·simp at ha
  ·simp at ha
 | _ => simp [G0] at ha
theorem TRel.nextA {C : Cx} {ms : List Nat} {n r b : Nat} {σ : List (Nat × EV)} {bs : Nat → Nat} {a : Act} (h : TRel C ms n σ bs a) (hav : ∀ t, av r (G2 σ t)) (hms : r ∉ ms) {dst : Option Tmp} (hd : K3 C.N dst = true)
  {v : EV} {V : Value} (hv : V = real (upd bs r b) v) (hc : closed n v) : TRel C ms n (put σ dst v) (upd bs r b) (a.put dst V) := by
 have lift : ∀ t, G2 σ t ≠ .any → a.tmps[t]? = some (real (upd bs r b) (G2 σ t)) := fun t ht => by rw [real_av _ (hav t)]; exact h.tmps t ht
 have hmk : Am1 (upd bs r b) ms = Am1 bs ms := List.map_congr_left fun i hi => by simp [upd, show ¬ i = r from fun e => hms (e ▸ hi)]
 cases dst with
 | none => exact ⟨h.size, h.defers.trans hmk.symm, h.msin, lift, h.cl⟩
 | some d =>
  simp only [K3, decide_eq_true_eq] at hd
  refine ⟨by simp [Act.put, h.size], h.defers.trans hmk.symm, h.msin, ?_, ?_⟩
  ·intro t ht
   simp only [put] at ht ⊢
   rw [I4] at ht ⊢
   simp only [Act.put, Array.getElem?_setIfInBounds]
   by_cases e : d = t
   ·subst e
    simp only [if_true] at ht ⊢
    subst hv
    rw [if_pos (by rw [h.size]; exact hd)]
   ·simp only [if_neg e] at ht ⊢
    exact lift t ht
  ·intro t
   simp only [put]; rw [I4]
   split
   ·exact hc
   ·exact h.cl t
theorem HRel.allocA {C : Cx} {n r : Nat} {B : Base} {hs : List (Nat × Option EObj)} {bs : Nat → Nat} {w : World} (h : HRel C B n hs bs w) (hr : r < n) (hav : ∀ i o, hget hs i = some o → i ≠ r ∧ o.av r) (hold : C.olds.length ≤ r) (o : EObj) (ho : o.closed n) (hoa : o.av r) :
  HRel C B n ((r, some o) :: hs) (upd bs r w.heap.size) { w with heap := w.heap.push (o.real bs) } := by
 have hlow : ∀ i, i ≠ r → upd bs r w.heap.size i = bs i := fun i hi => by simp [upd, hi]
 have key : ∀ i o', hget ((r, some o) :: hs) i = some o' → (i = r ∧ o' = o) ∨ (i ≠ r ∧ hget hs i = some o' ∧ o'.av r) := by
  intro i o' hi
  rw [C0] at hi
  by_cases e : r = i
  ·rw [if_pos e, Option.some.injEq] at hi; exact .inl ⟨e.symm, hi.symm⟩
  ·rw [if_neg e] at hi; exact .inr ⟨fun h => e h.symm, hi, (hav i o' hi).2⟩
 have hlt : ∀ i o, hget hs i = some o → bs i < w.heap.size := fun i o hi => G3 (h.live i o hi).2
 refine ⟨?_, ?_, ?_, ?_, ?_, ?_, h.os, h.tape, h.output, ?_, ?_, ?_, h.apart, by have := h.eo.1; simp; omega, h.eo.2⟩
 ·intro i o' hi
  rcases key i o' hi with ⟨rfl, rfl⟩ | ⟨h1, h2, h3⟩
  ·refine ⟨hr, ?_⟩
   rw [E7, EObj.real_av _ hoa]; simp
  ·refine ⟨(h.live i o' h2).1, ?_⟩
   rw [hlow i h1, EObj.real_av _ h3]
   show (w.heap.push _)[bs i]? = _
   rw [Array.getElem?_push, if_neg (by have := hlt i o' h2; omega)]; exact (h.live i o' h2).2
 ·intro i o' hi
  rcases key i o' hi with ⟨rfl, rfl⟩ | ⟨h1, h2, h3⟩
  ·exact ho
  ·exact h.cl i o' h2
 ·intro i j oi oj hi hj hb
  rcases key i oi hi with ⟨rfl, rfl⟩ | ⟨h1, h2, h3⟩ <;> rcases key j oj hj with ⟨rfl, rfl⟩ | ⟨k1, k2, k3⟩
  ·rfl
  ·rw [E7, hlow j k1] at hb; have := hlt j oj k2; omega
  ·rw [E7, hlow i h1] at hb; have := hlt i oi h2; omega
  ·rw [hlow i h1, hlow j k1] at hb; exact h.inj i j oi oj h2 k2 hb
 ·intro i b hi
  have : i < C.olds.length := by
   rcases Nat.lt_or_ge i C.olds.length with hl | hl
   ·exact hl
   ·rw [List.getElem?_eq_none hl] at hi; simp at hi
  obtain ⟨h1, h2⟩ := h.old i b hi
  exact ⟨by rw [hlow i (by omega)]; exact h1, h2⟩
 ·intro i o' hi
  rcases key i o' hi with ⟨rfl, rfl⟩ | ⟨h1, h2, h3⟩
  ·rw [E7]; intro hD; have := (h.frame _ hD).1; omega
  ·rw [hlow i h1]; exact h.new i o' h2
 ·intro k hk
  obtain ⟨h1, h2⟩ := h.frame k hk
  refine ⟨by simp; omega, ?_⟩
  show (w.heap.push _)[k]? = _
  rw [Array.getElem?_push, if_neg (by omega)]; exact h2
 ·show B.w.heap.size ≤ (w.heap.push _).size
  have := h.hsize; simp; omega
 ·intro i o' hi
  rcases key i o' hi with ⟨rfl, rfl⟩ | ⟨h1, h2, h3⟩
  ·rw [E7]; intro hD; have := (h.frameE _ hD).1; omega
  ·rw [hlow i h1]; exact h.newE i o' h2
 ·intro k hk
  obtain ⟨h1, h2⟩ := h.frameE k hk
  refine ⟨by simp; omega, ?_⟩
  show (w.heap.push _)[k]? = _
  rw [Array.getElem?_push, if_neg (by omega)]; exact h2
def Al9 (C : Cx) (ops : List Oper) (o : Oper) (x : X) : Option (Ef × Prop) :=
 match H1 C x o.op with
 | some (v, c) => some ({ dst := o.dst, v := v, ups := [], a := 0, looks := C2 o.op ++ F7 ops o.guard, foot := Af6 x.σ o.op }, c)
 | none => match G0 C x o.op with
  | some (v, ob, c) => match Db9 x.n o.dst with
   | some r => some ({ dst := o.dst, v := atN r v, ups := [(r, some ob)], a := 0, looks := C2 o.op ++ F7 ops o.guard, foot := Af6 x.σ o.op, nm := [r] }, c ∧ C.olds.length ≤ r ∧ ob.av r)
   | none => some ({ dst := o.dst, v := v, ups := [(x.n, some ob)], a := 1, looks := C2 o.op ++ F7 ops o.guard, foot := Af6 x.σ o.op }, c)
  | none => match R2 C x o.op with
   | some (i, ob, c) => some ({ dst := o.dst, v := .tup [], ups := [(i, some ob)], a := 0, looks := C2 o.op ++ F7 ops o.guard, foot := Bz6 x.σ o.op ++ Af6 x.σ o.op }, c)
   | none => none
theorem Bk3 {C : Cx} {ops : List Oper} {o : Oper} {x y : X} {E : Ef} {c : Prop} (hd : K3 C.N o.dst = true) (h : Al9 C ops o x = some (E, c)) (hc : c) (hy : Agree E y x) : Au6 C o y (fun z => Alike z (E.app y)) := by
 unfold Al9 at h
 split at h
 ·rename_i v c' hp
  simp only [Option.some.injEq, Prod.mk.injEq] at h; obtain ⟨rfl, rfl⟩ := h
  have e := Q6 (C := C) (x := x) (y := y) (op := o.op) hy.B (fun t ht => hy.σ t (by simp [ht])) (fun i hi => hy.hs i hi)
  exact K9 hd (x' := { σ := put y.σ o.dst v, n := y.n, hs := y.hs, B := y.B, ms := y.ms }) (c := c') (by simp only [Al8, e, hp]) hc (Alike.rfl' _)
 ·rename_i hp
  split at h
  ·rename_i v ob c' ha
   split at h
   ·rename_i r hres
    simp only [Option.some.injEq, Prod.mk.injEq] at h; obtain ⟨rfl, rfl⟩ := h
    obtain ⟨hc1, hc2, hc3⟩ := hc
    have hA : Av r y := hy.nm r (by simp)
    obtain ⟨v', hv1, hv2, hv3⟩ := Bj5 (C := C) (x := x) (y := y) (op := o.op) (fun t ht => hy.σ t (by simp [ht])) ha r
    intro bs a w hr Q
    obtain ⟨h1, h2, h3⟩ := U6 hr hv1 hc1
    refine ⟨fun _ _ => trivial, ?_⟩
    rw [Oper.semAt_eq _ _ _ (Au1 hv1), h1]
    exact ⟨⟨put y.σ o.dst (atN r v), y.n, (r, some ob) :: y.hs, y.B, y.ms⟩, upd bs r w.heap.size,
     ⟨hr.t.nextA hA.σ hA.ms hd (hv2 bs _) (hv3 y.n hA.n), hr.h.allocA hA.n hA.hs hc2 ob h3 hc3⟩, Alike.rfl' _⟩
   simp only [Option.some.injEq, Prod.mk.injEq] at h; obtain ⟨rfl, rfl⟩ := h
   have e := Q6 (C := C) (x := x) (y := y) (op := o.op) hy.B (fun t ht => hy.σ t (by simp [ht])) (fun i hi => hy.hs i (by simp [hi]))
   have hn : y.n = x.n := hy.n (by simp)
   have e2 := Ac4 (C := C) (x := x) (y := y) (op := o.op) (fun t ht => hy.σ t (by simp [ht])) hn
   refine K9 hd (x' := { σ := put y.σ o.dst v, n := y.n + 1, hs := (y.n, some ob) :: y.hs, B := y.B, ms := y.ms }) (c := c') (by simp only [Al8, e, hp, e2, ha]) hc ?_
   exact ⟨fun t => rfl, rfl, fun i => by simp [Ef.app, hn], rfl, rfl⟩
  ·rename_i ha
   split at h
   ·rename_i i ob c' hs
    simp only [Option.some.injEq, Prod.mk.injEq] at h; obtain ⟨rfl, rfl⟩ := h
    have e := Q6 (C := C) (x := x) (y := y) (op := o.op) hy.B (fun t ht => hy.σ t (by simp [ht])) (fun i hi => hy.hs i (by simp [hi]))
    have e2 := Af9 (C := C) (x := x) (y := y) (op := o.op) (fun t ht => hy.σ t (by simp [ht])) ha
    have e3 := Aa4 (C := C) (x := x) (y := y) (op := o.op) (fun t ht => hy.σ t (by simp [ht])) (fun i hi => hy.hs i (by simp [hi]))
    exact K9 hd (x' := { σ := put y.σ o.dst (.tup []), n := y.n, hs := (i, some ob) :: y.hs, B := y.B, ms := y.ms }) (c := c') (by simp only [Al8, e, hp, e2, e3, hs]) hc (Alike.rfl' _)
   ·simp at h
theorem K2 {ops : List Oper} {σ σ' : List (Nat × EV)} {g : Option (Nat × Bool)} (h : ∀ t ∈ F7 ops g, G2 σ' t = G2 σ t) : F3 ops σ' g = F3 ops σ g := by
 unfold F3
 cases g with
 | none => rfl
 | some jw =>
  obtain ⟨j, w⟩ := jw
  simp only [F7] at h ⊢
  cases hj : ops[j]? with
  | none => rfl
  | some oj =>
   simp only [hj] at h ⊢
   cases hd : oj.dst with
   | none => rfl
   | some d => simp only [hd] at h ⊢; rw [h d (by simp)]
theorem Z2 {C : Cx} {ops : List Oper} {o : Oper} {x : X} {E : Ef} (hl : ∀ t ∈ F7 ops o.guard, t ∈ E.looks)
  (hg : F3 ops x.σ o.guard = .run ∨ ∃ b want d, F3 ops x.σ o.guard = .test b want d ∧ b = want) (h : ∀ y, Agree E y x → Au6 C o y (fun z => Alike z (E.app y))) : Loc C ops o E x := by
 intro y hy
 have e := K2 (ops := ops) (g := o.guard) (fun t ht => hy.σ t (hl t ht))
 unfold eOp
 rw [e]
 rcases hg with hg | ⟨b, want, d, hg, hb⟩
 ·simp only [hg]; exact h y hy
 ·simp only [hg]
  subst hb
  exact ⟨fun _ => h y hy, fun hx => by cases b <;> simp at hx⟩
theorem Ca2 {C : Cx} {ops : List Oper} {o : Oper} {x : X} {b want : Bool} {d : Tmp} (hg : F3 ops x.σ o.guard = .test b want d) (hb : b = !want) :
  Loc C ops o { dst := o.dst, v := .tup [], ups := [], a := 0, looks := F7 ops o.guard, foot := [] } x := by
 intro y hy
 have e := K2 (ops := ops) (g := o.guard) (fun t ht => hy.σ t ht)
 unfold eOp
 rw [e]
 simp only [hg]
 exact ⟨fun hx => by subst hb; cases want <;> simp at hx, fun _ => ⟨fun _ => rfl, rfl, fun _ => rfl, rfl, rfl⟩⟩

theorem Bs1 {C : Cx} {ops : List Oper} {o : Oper} {x : X} (hg : F3 ops x.σ o.guard = .skip) :
  Loc C ops o { dst := o.dst, v := .tup [], ups := [], a := 0, looks := F7 ops o.guard, foot := [] } x := by
 intro y hy
 have e := K2 (ops := ops) (g := o.guard) (fun t ht => hy.σ t ht)
 unfold eOp
 rw [e]
 simp only [hg]
 exact ⟨fun _ => rfl, rfl, fun _ => rfl, rfl, rfl⟩

def pwB : List (Nat × Oper × Ef) → Bool
 | [] => true
 | p :: r => r.all (fun q => I5 q.2.1 p.1 || p.2.2.apart q.2.2) && pwB r
theorem Bg0 : ∀ {l : List (Nat × Oper × Ef)}, pwB l = true → PW l
 | [], _ => List.Pairwise.nil
 | p :: r, h => by
  simp only [pwB, Bool.and_eq_true, List.all_eq_true, Bool.or_eq_true] at h
  exact List.pairwise_cons.2 ⟨fun q hq => h.1 q hq, Bg0 h.2⟩
def Bw8 : Nat → List Oper → Bool
 | _, [] => true
 | i, o :: r => o.after.all (fun e => !Region.binds .any e || decide (e.on < i)) && Bw8 (i + 1) r
theorem Ao9 : ∀ {l : List Oper} {k : Nat}, Bw8 k l = true → ∀ i o, l[i]? = some o → ∀ e ∈ o.after, Region.binds .any e = true → e.on < k + i
 | [], k, _, i, o, ho => by simp at ho
 | p :: r, k, h, i, o, ho => by
  simp only [Bw8, Bool.and_eq_true, Array.all_eq_true_iff_forall_mem, Bool.or_eq_true, Bool.not_eq_true', decide_eq_true_eq] at h
  cases i with
  | zero =>
   simp only [List.getElem?_cons_zero, Option.some.injEq] at ho; subst ho
   intro e he hb
   rcases h.1 e he with h' | h'
   ·rw [hb] at h'; simp at h'
   ·omega
  | succ i =>
   intro e he hb
   have := Ao9 h.2 i o (by simpa using ho) e he hb
   omega
def Bq4 (L : List (Nat × Oper × Ef)) : Prop := ∀ p ∈ L, p.2.2.nm = []
def Cv9 (L : List (Nat × Oper × Ef)) : Prop := (∀ p ∈ L, ∀ q ∈ L, p.1 ≠ q.1 → ∀ r ∈ q.2.2.nm, I5 p.2.1 q.1 = true ∨ p.2.2.off r) ∧ ∀ p ∈ L, ∀ r ∈ p.2.2.nm, 100000 ≤ r ∧ r < 200000
def NM : List (Nat × Oper × Ef) → Prop
 | [] => True
 | p :: r => if p.1 = 1000000 then Cv9 (p :: r) else Bq4 (p :: r)
def Cm2 : List (Nat × Oper × Ef) → Bool
 | [] => true
 | p :: r => Nat.blt p.1 1000000 && p.2.2.nm.isEmpty && Cm2 r
theorem Aw7 : ∀ {L : List (Nat × Oper × Ef)}, Cm2 L = true → Bq4 L
 | [], _ => fun p hp => by simp at hp
 | p :: r, h => by
  simp only [Cm2, Bool.and_eq_true] at h
  intro q hq
  rcases List.mem_cons.1 hq with rfl | hq
  ·exact List.isEmpty_iff.1 h.1.2
  ·exact Aw7 h.2 q hq
theorem Cj5 {L : List (Nat × Oper × Ef)} (h : Cm2 L = true) : NM L := by
 cases L with
 | nil => trivial
 | cons p r =>
  have := Aw7 h
  simp only [Cm2, Bool.and_eq_true, Nat.blt_eq] at h
  simp only [NM]
  rw [if_neg (by omega)]; exact this
/-- The rest of a region that draws; acc: what stands behind, the last first. -/
def DG (C : Cx) (Q : Exit → X → Prop) (ops : List Oper) (st : List It) (acc : List (Nat × Oper × Ef)) (k : Nat) (rest : List Oper) (x : X) : Prop :=
 ∃ l, l.map (fun p => (p.1, p.2.1)) = (rest.zipIdx k).map (fun p => (p.2, p.1)) ∧ Al6 C ops (Next C Q st) l x ∧ pwB (acc.reverse ++ l) = true ∧ NM (acc.reverse ++ l)
theorem Next.alike {C : Cx} {Q : Exit → X → Prop} {st : List It} {x y : X} (h : Next C Q st x) (e : Alike y x) : Next C Q st y :=
 fun hst bs a w hr => h hst bs a w (hr.alike e)
theorem Cr3 {C : Cx} {Q : Exit → X → Prop} {ops : List Oper} {st : List It} {acc : List (Nat × Oper × Ef)} {k : Nat} {x : X} (h : pwB acc.reverse = true ∧ NM acc.reverse) (hk : Next C Q st x) : DG C Q ops st acc k [] x :=
 ⟨[], rfl, fun y e => hk.alike e, by simpa using h⟩
theorem Ak3 {C : Cx} {Q : Exit → X → Prop} {ops : List Oper} {st : List It} {acc : List (Nat × Oper × Ef)} {k : Nat} {o : Oper} {rest : List Oper} {x : X} {E : Ef} (h : Loc C ops o E x)
  (hk : DG C Q ops st ((k, o, E) :: acc) (k + 1) rest (E.app x)) : DG C Q ops st acc k (o :: rest) x := by
 obtain ⟨l, h1, h2, h3⟩ := hk
 refine ⟨(k, o, E) :: l, ?_, ⟨h, h2⟩, ?_⟩
 ·simp only [List.map_cons, List.zipIdx_cons, h1]
 ·simpa using h3
theorem DG.alike {C : Cx} {Q : Exit → X → Prop} {ops : List Oper} {st : List It} {acc : List (Nat × Oper × Ef)} {k : Nat} {rest : List Oper} {x y : X} (h : DG C Q ops st acc k rest x) (e : Alike x y) : DG C Q ops st acc k rest y := by
 obtain ⟨l, h1, h2, h3⟩ := h
 exact ⟨l, h1, Z6 l h2 e, h3⟩
theorem Bu4 {C : Cx} {Q : Exit → X → Prop} {ops : List Oper} {st : List It} {id : Nat} {x : X} (hm : C.P.follows .mixedOrders = true) (hb : Bw8 0 ops = true) {bs : Nat → Nat} {a : Act} {w : World} (hr : Rel C x bs a w) (hin : C5 C.N (.region id ops.toArray true) = true) (hst : Bf2 C.N st)
  (l : List (Nat × Oper × Ef)) (h1 : l.map (fun p => (p.1, p.2.1)) = (ops.zipIdx 0).map (fun p => (p.2, p.1))) (h2 : Al6 C ops (Next C Q st) l x) (h3 : pwB l = true) (hav : ∀ p ∈ l, ∀ r ∈ p.2.2.nm, Av r x) (hnm : ∀ p ∈ l, ∀ q ∈ l, p.1 ≠ q.1 → ∀ r ∈ q.2.2.nm, I5 p.2.1 q.1 = true ∨ p.2.2.off r) :
  H4 C (Au3 C Q) (.c (.region id ops.toArray true) :: st) .normal a w := by
 simp only [C5] at hin
 simp only [H4]
 have hlen : l.length = ops.length := by
  have := congrArg List.length h1; simpa using this
 have hget : ∀ i : Nat, (l[i]?).map (fun (p : Nat × Oper × Ef) => (p.1, p.2.1)) = (ops[i]?).map (fun o => (i, o)) := by
  intro i
  have := congrArg (fun l => l[i]?) h1
  simp only [List.getElem?_map, List.getElem?_zipIdx] at this
  rw [this]
  cases ops[i]? <;> simp
 have hallIn : ∀ {l : List Oper}, L3 C.N l = true → ∀ o ∈ l, K3 C.N o.dst = true := by
  intro l
  induction l with
  | nil => intro _ o ho; simp at ho
  | cons p r ih =>
   intro h o ho
   simp only [L3, Bool.and_eq_true] at h
   rcases List.mem_cons.1 ho with rfl | ho
   ·exact h.1
   ·exact ih h.2 o ho
 refine wpIn_region_any hm ?_
 refine Ax9 (C := C) (ops := ops) (K := Next C Q st) (fun x bs a w hr hk => hk hst bs a w hr) (fun i o ho e he hb' => by have := Ao9 hb i o ho e he hb'; omega)
  _ l _ x bs a _ (by simpa using hlen) (by simp) ?_ ?_ ?_ (Bg0 h3) hav hnm h2 ⟨hr.t, ⟨hr.h.live, hr.h.cl, hr.h.inj, hr.h.old, hr.h.new, hr.h.frame, hr.h.os, hr.h.tape, hr.h.output, hr.h.hsize, hr.h.newE, hr.h.frameE, hr.h.apart, hr.h.eo⟩⟩
 ·intro p hp
  obtain ⟨i, hi, rfl⟩ := List.mem_iff_getElem.1 hp
  have hg := hget i
  rw [List.getElem?_eq_getElem hi, List.getElem?_eq_getElem (by omega : i < ops.length)] at hg
  simp only [Option.map_some, Option.some.injEq, Prod.mk.injEq] at hg
  rw [hg.1, hg.2]
  refine ⟨List.getElem?_eq_getElem (by omega), hallIn (by simpa using hin) _ (List.getElem_mem _), ?_⟩
  simp [Array.getD_eq_getD_getElem?, show i < ops.length by omega]
 ·intro i hi _
  refine ⟨l[i]'(by omega), List.getElem_mem _, ?_⟩
  have hg := hget i
  rw [List.getElem?_eq_getElem (by omega : i < l.length), List.getElem?_eq_getElem hi] at hg
  simp only [Option.map_some, Option.some.injEq, Prod.mk.injEq] at hg
  exact hg.1
 ·rw [List.pairwise_iff_getElem]
  intro i j hi hj hij
  have hg := hget i
  have hg' := hget j
  rw [List.getElem?_eq_getElem hi, List.getElem?_eq_getElem (by omega : i < ops.length)] at hg
  rw [List.getElem?_eq_getElem hj, List.getElem?_eq_getElem (by omega : j < ops.length)] at hg'
  simp only [Option.map_some, Option.some.injEq, Prod.mk.injEq] at hg hg'
  rw [hg.1, hg'.1]; exact hij
theorem Cq3 {l : List (Nat × Oper × Ef)} {ops : List Oper} (h1 : l.map (fun p => (p.1, p.2.1)) = (ops.zipIdx 0).map (fun p => (p.2, p.1))) : ∀ p r, l = p :: r → p.1 = 0 := by
 rintro p r rfl
 cases ops with
 | nil => simp at h1
 | cons o ops =>
  simp only [List.map_cons, List.zipIdx_cons, List.cons.injEq, Prod.mk.injEq] at h1
  exact h1.1.1
theorem L7 {C : Cx} {Q : Exit → X → Prop} {ops : List Oper} {st : List It} {id : Nat} {x : X} (hm : C.P.follows .mixedOrders = true) (hb : Bw8 0 ops = true) (h : L3 C.N ops = true → DG C Q ops st [] 0 ops x) : Ck7 C Q id ops st x := by
 intro hst bs a w hr
 obtain ⟨hin, hst⟩ := hst
 obtain ⟨l, h1, h2, h3, h4⟩ := h (by simpa [C5] using hin)
 simp only [List.reverse_nil, List.nil_append] at h3 h4
 have hf : Bq4 l := by
  cases l with
  | nil => intro p hp; simp at hp
  | cons p r =>
   have h0 := Cq3 h1 p r rfl
   simp only [NM] at h4
   rw [if_neg (by omega)] at h4; exact h4
 exact Bu4 hm hb hr hin hst l h1 h2 h3 (fun p hp r hr' => by rw [hf p hp] at hr'; simp at hr') (fun p hp q hq _ r hr' => by rw [hf q hq] at hr'; simp at hr')
/-- A call: its At2 says 'Ret'; or an effect that is told. -/
def Cl2 (C : Cx) (Q : Exit → X → Prop) (ops : List Oper) (st : List It) (f : FuncId) (args : List EV) (acc : List (Nat × Oper × Ef)) (k : Nat) (o : Oper) (rest : List Oper) (x : X) : Prop :=
 (∃ v foot, closed 0 v ∧ ((C6 C.P f ∧ ∀ (y : X) bs w, y.B = x.B → (∀ i ∈ foot, hget y.hs i = hget x.hs i) → HRel C y.B y.n y.hs bs w → Calls C.P f (A8 bs args).toArray w (Ret (real bs v) w)) ∨ (∀ bs w, (callFunc f (A8 bs args).toArray).run C.P w = .ok (.value (real bs v)) w)) ∧
  (L3 C.N rest = true → DG C Q ops st ((k, o, { dst := o.dst, v := v, ups := [], a := 0, looks := C2 o.op ++ F7 ops o.guard, foot := foot }) :: acc) (k + 1) rest
   { σ := put x.σ o.dst v, n := x.n, hs := x.hs, B := x.B, ms := x.ms })) ∨
 (∃ v ups a foot, (∀ y, Agree { dst := o.dst, v := v, ups := ups, a := a, looks := C2 o.op ++ F7 ops o.guard, foot := foot } y x →
   Cl9 C f args y (fun v' n' hs' => Alike { σ := put y.σ o.dst v', n := n', hs := hs', B := y.B, ms := y.ms } (Ef.app { dst := o.dst, v := v, ups := ups, a := a, looks := C2 o.op ++ F7 ops o.guard, foot := foot } y))) ∧
  (L3 C.N rest = true → DG C Q ops st ((k, o, { dst := o.dst, v := v, ups := ups, a := a, looks := C2 o.op ++ F7 ops o.guard, foot := foot }) :: acc) (k + 1) rest
   { σ := put x.σ o.dst v, n := x.n + a, hs := ups ++ x.hs, B := x.B, ms := x.ms }))
theorem Bm8 {C : Cx} {Q : Exit → X → Prop} {ops : List Oper} {st : List It} {f : FuncId} {args : List EV} {acc : List (Nat × Oper × Ef)} {k : Nat} {o : Oper} {rest : List Oper} {x : X} (v : EV) (foot : List Nat) (hE : C6 C.P f) (hcl : closed 0 v)
  (h : ∀ (y : X) bs w, y.B = x.B → (∀ i ∈ foot, hget y.hs i = hget x.hs i) → HRel C y.B y.n y.hs bs w → Calls C.P f (A8 bs args).toArray w (Ret (real bs v) w))
  (hk : L3 C.N rest = true → DG C Q ops st ((k, o, { dst := o.dst, v := v, ups := [], a := 0, looks := C2 o.op ++ F7 ops o.guard, foot := foot }) :: acc) (k + 1) rest { σ := put x.σ o.dst v, n := x.n, hs := x.hs, B := x.B, ms := x.ms }) :
  Cl2 C Q ops st f args acc k o rest x := .inl ⟨v, foot, hcl, .inl ⟨hE, h⟩, hk⟩
def Cy1 (C : Cx) (Q : Exit → X → Prop) (st : List It) (acc : List (Nat × Oper × Ef)) (x : X) : Prop := (pwB acc.reverse = true ∧ NM acc.reverse) ∧ Next C Q st x
def Cv2 (C : Cx) (Q : Exit → X → Prop) (ops : List Oper) (st : List It) (acc : List (Nat × Oper × Ef)) (k : Nat) (o : Oper) (rest : List Oper) (x : X) : Prop :=
 (F3 ops x.σ o.guard = .run ∨ ∃ b want d, F3 ops x.σ o.guard = .test b want d ∧ b = want) → K3 C.N o.dst = true → DG C Q ops st acc k (o :: rest) x
mutual
def Am2 (C : Cx) (Q : Exit → X → Prop) (ops : List Oper) (st : List It) : Nat → List (Nat × Oper × Ef) → Nat → List Oper → X → Prop
 | 0, _, _, _, _ => False
 | _ + 1, acc, _, [], x => Cy1 C Q st acc x
 | n + 1, acc, k, o :: rest, x =>
  match F3 ops x.σ o.guard with
  | .run => opD C Q ops st n acc k o rest x
  | .test b want d => Bj9 C Q ops st n b want d acc k o rest x
  | .skip => Am2 C Q ops st n ((k, o, { dst := o.dst, v := .tup [], ups := [], a := 0, looks := F7 ops o.guard, foot := [] }) :: acc) (k + 1) rest { σ := put x.σ o.dst (.tup []), n := x.n, hs := x.hs, B := x.B, ms := x.ms }
  | .bad => False
def opD (C : Cx) (Q : Exit → X → Prop) (ops : List Oper) (st : List It) : Nat → List (Nat × Oper × Ef) → Nat → Oper → List Oper → X → Prop
 | 0, _, _, _, _, _ => False
 | n + 1, acc, k, o, rest, x =>
  match Al9 C ops o x with
  | some (E, c) => c ∧ Am2 C Q ops st n ((k, o, E) :: acc) (k + 1) rest { σ := put x.σ E.dst E.v, n := x.n + E.a, hs := E.ups ++ x.hs, B := x.B, ms := x.ms }
  | none =>
   match o.op with
   | .call { callee := .value (.func f), args, .. } => O3 (args.toList.map (ev x.σ)) = true ∧ Cl2 C Q ops st f (args.toList.map (ev x.σ)) acc k o rest x
   | _ => Cv2 C Q ops st acc k o rest x
def Bj9 (C : Cx) (Q : Exit → X → Prop) (ops : List Oper) (st : List It) : Nat → Bool → Bool → Tmp → List (Nat × Oper × Ef) → Nat → Oper → List Oper → X → Prop
 | 0, _, _, _, _, _, _, _, _ => False
 | n + 1, b, want, d, acc, k, o, rest, x =>
  (b = want → opD C Q ops st n acc k o rest { σ := (d, .bool want) :: x.σ, n := x.n, hs := x.hs, B := x.B, ms := x.ms }) ∧
  (b = !want → Am2 C Q ops st n ((k, o, { dst := o.dst, v := .tup [], ups := [], a := 0, looks := F7 ops o.guard, foot := [] }) :: acc) (k + 1) rest { σ := put ((d, .bool (!want)) :: x.σ) o.dst (.tup []), n := x.n, hs := x.hs, B := x.B, ms := x.ms })
end
theorem T3 {C : Cx} {Q : Exit → X → Prop} {ops : List Oper} {st : List It} {n : Nat} {b want : Bool} {d : Tmp} {acc : List (Nat × Oper × Ef)} {k : Nat} {o : Oper} {rest : List Oper} {x : X}
  (h1 : b = want → opD C Q ops st n acc k o rest { σ := (d, .bool want) :: x.σ, n := x.n, hs := x.hs, B := x.B, ms := x.ms })
  (h2 : b = !want → Am2 C Q ops st n ((k, o, { dst := o.dst, v := .tup [], ups := [], a := 0, looks := F7 ops o.guard, foot := [] }) :: acc) (k + 1) rest { σ := put ((d, .bool (!want)) :: x.σ) o.dst (.tup []), n := x.n, hs := x.hs, B := x.B, ms := x.ms }) :
  Bj9 C Q ops st (n + 1) b want d acc k o rest x := by simp only [Bj9]; exact ⟨h1, h2⟩
def Ba3 (ops : List Oper) (o : Oper) (x : X) : Prop := F3 ops x.σ o.guard = .run ∨ ∃ b want d, F3 ops x.σ o.guard = .test b want d ∧ b = want
theorem Af5 {ops : List Oper} {σ : List (Nat × EV)} {g : Option (Nat × Bool)} {b want : Bool} {d : Tmp} (h : F3 ops σ g = .test b want d) : G2 σ d = .bool b ∧ ∀ b', F3 ops ((d, .bool b') :: σ) g = .test b' want d := by
 unfold F3 at h
 split at h
 ·simp at h
 ·rename_i j w
  split at h
  ·rename_i oj hj
   split at h
   ·rename_i d' hd
    split at h
    ·rename_i b'' hb
     simp only [Gd.test.injEq] at h
     obtain ⟨rfl, rfl, rfl⟩ := h
     exact ⟨hb, fun b' => by simp [F3, hj, hd, I4]⟩
    ·simp at h
    ·simp at h
   ·simp at h
  ·simp at h
theorem Z7 {σ : List (Nat × EV)} {d : Nat} {v : EV} {n : Nat} {hs : List (Nat × Option EObj)} {B : Base} {ms : List Nat} (h : G2 σ d = v) : Alike ⟨(d, v) :: σ, n, hs, B, ms⟩ ⟨σ, n, hs, B, ms⟩ :=
 ⟨fun t => by
  show G2 ((d, v) :: σ) t = G2 σ t
  rw [I4]
  by_cases e : d = t
  ·subst e; rw [if_pos rfl, h]
  ·rw [if_neg e], rfl, fun _ => rfl, rfl, rfl⟩
theorem Ak2 {C : Cx} {Q : Exit → X → Prop} {ops : List Oper} {st : List It} (n : Nat) :
  (∀ acc k rest x, Am2 C Q ops st n acc k rest x → L3 C.N rest = true → DG C Q ops st acc k rest x) ∧
  (∀ acc k o rest x, opD C Q ops st n acc k o rest x → Ba3 ops o x → K3 C.N o.dst = true → L3 C.N rest = true → DG C Q ops st acc k (o :: rest) x) ∧
  (∀ b want d acc k o rest x, Bj9 C Q ops st n b want d acc k o rest x → F3 ops x.σ o.guard = .test b want d → K3 C.N o.dst = true → L3 C.N rest = true → DG C Q ops st acc k (o :: rest) x) := by
 induction n with
 | zero => exact ⟨fun acc k rest x h => by simp [Am2] at h, fun acc k o rest x h => by simp [opD] at h, fun b want d acc k o rest x h => by simp [Bj9] at h⟩
 | succ n ih =>
  obtain ⟨ih1, ih2, ih3⟩ := ih
  refine ⟨?_, ?_, ?_⟩
  ·intro acc k rest x h hin
   cases rest with
   | nil => simp only [Am2, Cy1] at h; exact Cr3 h.1 h.2
   | cons o rest =>
    simp only [L3, Bool.and_eq_true] at hin
    simp only [Am2] at h
    cases hg : F3 ops x.σ o.guard with
    | run => simp only [hg] at h; exact ih2 acc k o rest x h (.inl hg) hin.1 hin.2
    | test b want d => simp only [hg] at h; exact ih3 b want d acc k o rest x h hg hin.1 hin.2
    | skip =>
     simp only [hg] at h
     exact Ak3 (Bs1 hg) (ih1 _ _ _ _ h hin.2)
    | bad => simp only [hg] at h
  ·intro acc k o rest x h hrun hd hin
   simp only [opD] at h
   split at h
   ·rename_i E c hs
    have hl : ∀ t ∈ F7 ops o.guard, t ∈ E.looks := by
     intro t ht
     unfold Al9 at hs
     split at hs
     ·simp only [Option.some.injEq, Prod.mk.injEq] at hs; obtain ⟨rfl, _⟩ := hs; simp [ht]
     ·split at hs
      ·split at hs
       ·simp only [Option.some.injEq, Prod.mk.injEq] at hs; obtain ⟨rfl, _⟩ := hs; simp [ht]
       ·simp only [Option.some.injEq, Prod.mk.injEq] at hs; obtain ⟨rfl, _⟩ := hs; simp [ht]
      ·split at hs
       ·simp only [Option.some.injEq, Prod.mk.injEq] at hs; obtain ⟨rfl, _⟩ := hs; simp [ht]
       ·simp at hs
    exact Ak3 (Z2 hl hrun (fun y hy => Bk3 hd hs h.1 hy)) (ih1 _ _ _ _ h.2 hin)
   ·obtain ⟨dst, op, type, pos, after, guard⟩ := o
    simp only at h hd
    split at h
    ·rename_i f args _ _
     obtain ⟨h1, ⟨v, foot, hcl, hcon, hk⟩ | ⟨v, ups, aa, foot, hcon, hk⟩⟩ := h
     ·refine Ak3 (Z2 (fun t ht => by simp [ht]) hrun (fun y hy => ?_)) (hk hin)
      have el := O1 (σ := x.σ) (σ' := y.σ) (l := args.toList) (fun t ht => hy.σ t (by simp [C2, ht]))
      refine S2 (Ab4 (f := f) (K := fun z => z = { σ := put y.σ dst v, n := y.n, hs := y.hs, B := y.B, ms := y.ms }) (args := args.toList.map (ev x.σ)) (by intro c; simp) (fun bs a w hr => ?_) hd ?_) ?_
      ·have e := K7 hr.t args.toList (by rw [el]; exact h1)
       have e2 : args.map a.eval = (A8 bs (args.toList.map (ev y.σ))).toArray := by apply Array.ext'; simpa using e
       refine ⟨by rw [← el]; simp [execOp, resolve, Act.eval, Deferred.ofValue, invoke, e2], ?_⟩
       rw [← el]; exact K0 hr.t _
      ·rcases hcon with ⟨hE, hcon⟩ | hcon
       ·exact .inl ⟨hE, Aj9 v (closed_mono (Nat.zero_le _) _ hcl) (fun bs w hh => hcon y bs w hy.B (fun i hi => hy.hs i hi) hh) rfl⟩
       ·exact .inr ⟨v, closed_mono (Nat.zero_le _) _ hcl, hcon, rfl⟩
      ·rintro z rfl; exact ⟨fun _ => rfl, rfl, fun _ => rfl, rfl, rfl⟩
     ·refine Ak3 (Z2 (fun t ht => by simp [ht]) hrun (fun y hy => ?_)) (hk hin)
      have el := O1 (σ := x.σ) (σ' := y.σ) (l := args.toList) (fun t ht => hy.σ t (by simp [C2, ht]))
      refine Ab4 (f := f) (args := args.toList.map (ev x.σ)) (by intro c; simp) (fun bs a w hr => ?_) hd (hcon y hy)
      have e := K7 hr.t args.toList (by rw [el]; exact h1)
      have e2 : args.map a.eval = (A8 bs (args.toList.map (ev y.σ))).toArray := by apply Array.ext'; simpa using e
      refine ⟨by rw [← el]; simp [execOp, resolve, Act.eval, Deferred.ofValue, invoke, e2], ?_⟩
      rw [← el]; exact K0 hr.t _
    ·exact h hrun hd
  ·intro b want d acc k o rest x h hg hd hin
   simp only [Bj9] at h
   obtain ⟨hx, hgt⟩ := Af5 hg
   by_cases e : b = want
   ·subst e
    refine DG.alike (ih2 acc k o rest _ (h.1 rfl) (.inr ⟨b, b, d, hgt b, rfl⟩) hd hin) (Z7 hx)
   ·have e' : b = !want := by cases b <;> cases want <;> simp_all
    have hk := ih1 _ _ _ _ (h.2 e') hin
    refine Ak3 (Ca2 hg e') (hk.alike ?_)
    rw [e'] at hx
    refine ⟨fun t => ?_, rfl, fun _ => rfl, rfl, rfl⟩
    simp only [Ef.app, J3]
    rw [I4]
    by_cases e1 : d = t
    ·subst e1; simp [hx]
    ·simp [e1]
theorem Ac0 {C : Cx} {Q : Exit → X → Prop} {ops : List Oper} {st : List It} {acc : List (Nat × Oper × Ef)} {k : Nat} {rest : List Oper} {x : X} (n : Nat) (h : Am2 C Q ops st n acc k rest x) : L3 C.N rest = true → DG C Q ops st acc k rest x :=
 (Ak2 n).1 acc k rest x h
end Go.Ew
namespace Go.Ew
open Go RowKit

/-- From w to w' no block of D has turned. -/
structure Stay (D : Nat → Prop) (w w' : World) : Prop where
 size : w.heap.size ≤ w'.heap.size
 same : ∀ k, D k → w'.heap[k]? = w.heap[k]?
 os : w'.os = w.os
 tape : w'.tape = w.tape
 output : w'.output = w.output
def Ap4 (J : Nat → (Nat → Prop) → World → Prop) : Prop := ∀ k D w w', J k D w → (∀ b, D b → b < w.heap.size) → Stay D w w' → J k D w'
/-- The blocks made between w and w'. -/
def Bq9 (D : Nat → Prop) (w w' : World) : Nat → Prop := fun b => D b ∨ (w.heap.size ≤ b ∧ b < w'.heap.size)
/-- A round's promise: it turns blocks of D alone, and none of Rd. -/
def Cg7 (P : Program) (l : Nat) (args : Array Value) (D Rd : Nat → Prop) (w : World) (Kt Kf : (Nat → Prop) → World → Prop) : Prop :=
 ∃ fn tmps assign body, (Instr.yield l args).run P w = .ok (.round l fn tmps assign body) w ∧
  RoundIn Fence.wide 0 P l fn tmps assign body w (fun e w' => ∃ b, e = .returned (.bool b) ∧ Stay (fun k => k < w.heap.size ∧ (¬ D k ∨ Rd k)) w w' ∧
   (b = true → Kt (Bq9 D w w') w') ∧ (b = false → Kf (Bq9 D w w') w'))
/-- What an iterator may know between its rounds. -/
structure ItB (W : World) (Rd : Nat → Prop) (B : Base) : Prop where
 lt : ∀ b, B.D b → b < B.w.heap.size
 D : ∀ b, b < W.heap.size → B.D b
 rd : ∀ b, Rd b → B.w.heap[b]? = W.heap[b]?
 size : W.heap.size ≤ B.w.heap.size
 os : B.w.os = W.os
 tape : B.w.tape = W.tape
 output : B.w.output = W.output
/-- An iterator over len elements, called at W. -/
def Bj7 (P : Program) (f : FuncId) (argsOf : Value → Array Value) (W : World) (Rd : Nat → Prop) {A : Type} (len : Nat) (enc : A → Array Value) (El : Nat → A → (Nat → Prop) → World → Prop) : Prop :=
 ∀ (l : Nat) (J Jx : Nat → (Nat → Prop) → World → Prop), Ap4 J → Ap4 Jx →
  (∀ k a D w, k < len → El k a D w → J k D w → ItB W Rd ⟨w, D⟩ → Cg7 P l (enc a) D Rd w (J (k + 1)) (Jx k)) →
  J 0 (fun b => b < W.heap.size) W →
  Calls P f (argsOf (.func (.yield l) #[] #[])) W (fun e W' => (∃ v, e = .returned v) ∧ ∃ D, J len D W' ∨ ∃ k, Jx k D W')
theorem ItB.start (W : World) (Rd : Nat → Prop) : ItB W Rd (base W) := ⟨fun _ h => h, fun _ h => h, fun _ _ => rfl, Nat.le_refl _, rfl, rfl, rfl⟩
theorem HRel.stay {C : Cx} {B : Base} {n : Nat} {hs : List (Nat × Option EObj)} {bs : Nat → Nat} {w : World} (h : HRel C B n hs bs w) : Stay B.D B.w w :=
 ⟨h.hsize, fun k hk => (h.frame k hk).2, h.os, h.tape, h.output⟩
/-- Where an iterator's walk must end. -/
def itK (W : World) (Rd : Nat → Prop) (len : Nat) (J Jx : Nat → (Nat → Prop) → World → Prop) (v : EV) (x : X) : Prop :=
 ItB W Rd x.B ∧ (J len x.B.D x.B.w ∨ ∃ k, Jx k x.B.D x.B.w)
/-- The rounds of a loop over an iterator that was called at W. -/
def Bx5 (P : Program) (l : Nat) (W : World) (Rd : Nat → Prop) {A : Type} (len : Nat) (enc : A → Array Value) (El : Nat → A → (Nat → Prop) → World → Prop) (J Jx : Nat → (Nat → Prop) → World → Prop) : Prop :=
 ∀ k a D w, k < len → El k a D w → J k D w → ItB W Rd ⟨w, D⟩ → Cg7 P l (enc a) D Rd w (J (k + 1)) (Jx k)
/-- The iterator's own side: its walk. -/
theorem Ck1 {P : Program} {f : FuncId} {fn : Func} {c : Code} {W : World} {Rd : Nat → Prop} {A : Type} {len : Nat} {enc : A → Array Value} {El : Nat → A → (Nat → Prop) → World → Prop} (args : Value → List EV)
  (hf : P.funcs[f]? = some fn) (hb : fn.body = some c) (hin : C5 fn.ntmps c = true) (hl : ∀ y, (args y).length ≤ fn.ntmps) (hcl : ∀ y, A0 0 (args y))
  (h : ∀ (l : Nat) (J Jx : Nat → (Nat → Prop) → World → Prop), Ap4 J → Ap4 Jx → Bx5 P l W Rd len enc El J Jx → J 0 (base W).D (base W).w → ItB W Rd (base W) →
   Next (cx0 P fn.ntmps W) (Bn4 (cx0 P fn.ntmps W) fn.results.toList (itK W Rd len J Jx)) [.c c] ⟨argσ 0 (args (.func (.yield l) #[] #[])), 0, [], base W, []⟩) :
  Bj7 P f (fun y => (A8 (fun _ => 0) (args y)).toArray) W Rd len enc El := by
 intro l J Jx hJ hJx hr h0
 have := N4 (C := cx0 P fn.ntmps W) (K := itK W Rd len J Jx) rfl hf hb rfl hin (hl _) (HRel.start (fun _ => 0)) (hcl _) (h l J Jx hJ hJx hr h0 (ItB.start W Rd))
 refine this.mono ?_
 rintro e w' ⟨v, x', bs', rfl, _, hh, hB, hk⟩
 refine ⟨⟨_, rfl⟩, x'.B.D, ?_⟩
 rcases hk with hk | ⟨k, hk⟩
 ·exact .inl (hJ _ _ _ _ hk hB.lt hh.stay)
 ·exact .inr ⟨k, hJx _ _ _ _ hk hB.lt hh.stay⟩
/-- A call of yield. -/
theorem Cn0 {C : Cx} {Q : Exit → X → Prop} {o : Oper} {st : List It} {x : X} {W : World} {Rd : Nat → Prop} {A : Type} {len : Nat} {enc : A → Array Value} {El : Nat → A → (Nat → Prop) → World → Prop} {J Jx : Nat → (Nat → Prop) → World → Prop}
  {l k t : Nat} {args : Array Operand} {Ts : Array TypeId} {vs : List EV} (a : (Nat → Nat) → A) (hop : o.op = .call { callee := .value (.tmp t), args := args, argTypes := Ts }) (ht : G2 x.σ t = .raw (.func (.yield l) #[] #[]))
  (hR : Bx5 C.P l W Rd len enc El J Jx) (hJs : Ap4 J) (hev : args.toList.map (ev x.σ) = vs) (hany : O3 vs = true) (hk : k < len) (hEl : ∀ bs w, HRel C x.B x.n x.hs bs w → (A8 bs vs).toArray = enc (a bs) ∧ El k (a bs) x.B.D w)
  (hJ : J k x.B.D x.B.w) (hB : ItB W Rd x.B) (hRd : ∀ b, Rd b → b < W.heap.size)
  (hkt : ∀ B', J (k + 1) B'.D B'.w → ItB W Rd B' → Next C Q st { σ := put x.σ o.dst (.bool true), n := x.n, hs := x.hs, B := B', ms := x.ms })
  (hkf : ∀ B', Jx k B'.D B'.w → ItB W Rd B' → Next C Q st { σ := put x.σ o.dst (.bool false), n := x.n, hs := x.hs, B := B', ms := x.ms }) : opS C Q o st x := by
 intro hd bs a' w hr Q'
 obtain ⟨dst, op, type, pos, after, guard⟩ := o
 simp only at hop hd hkt hkf; subst hop
 have hs := hr.h.stay
 have hI : ItB W Rd ⟨w, x.B.D⟩ := ⟨fun b h => (hr.h.frame b h).1, hB.D, fun b h => by rw [← hB.rd b h]; exact hs.same b (hB.D b (hRd b h)), Nat.le_trans hB.size hs.size,
  hs.os.trans hB.os, hs.tape.trans hB.tape, hs.output.trans hB.output⟩
 obtain ⟨fn, tmps, assign, body, hy, hround⟩ := hR k (a bs) x.B.D w hk (hEl bs w hr.h).2 (hJs _ _ _ _ hJ hB.lt hs) hI
 have e := K7 hr.t args.toList (by rw [hev]; exact hany)
 have e2 : args.map a'.eval = enc (a bs) := by rw [← (hEl bs w hr.h).1, ← hev]; apply Array.ext'; simpa using e
 have ef := D0 hr.t (.tmp t) (by simp [ev, ht])
 simp only [ev, ht, real] at ef
 refine ⟨fun _ _ => trivial, ?_⟩
 rw [Oper.semAt_eq _ _ _ (by intro c; simp)]
 have hrun : (execOp a'.eval { dst := dst, op := .call { callee := .value (.tmp t), args := args, argTypes := Ts }, type := type, pos := pos, after := after, guard := guard }).run C.P w = .ok (.round l fn tmps assign body) w := by
  simp only [execOp, resolve, ef, Deferred.ofValue, invoke, e2]
  simpa [invoke] using hy
 rw [hrun]
 refine ⟨by simp [fe, Fence.wide], ?_⟩
 refine RoundIn.mono (F := fe C) (show RoundIn (fe C) 0 C.P l fn tmps assign body w _ from hround) ?_
 rintro e' w' ⟨b, rfl, hst, h1, h2⟩
 have key : ∀ b', Rel C { σ := put x.σ dst (.bool b'), n := x.n, hs := x.hs, B := ⟨w', Bq9 x.B.D w w'⟩, ms := x.ms } bs (a'.put dst (.bool b')) w' := by
  intro b'
  refine ⟨hr.t.next (Nat.le_refl _) (fun _ _ => rfl) hd (.inr rfl) (by simp [closed]), ?_⟩
  have hh := hr.h
  refine ⟨fun i o hi => ⟨(hh.live i o hi).1, ?_⟩, hh.cl, hh.inj, hh.old, ?_, ?_, rfl, rfl, rfl, Nat.le_refl _, hh.newE, ?_, ?_, Nat.le_trans hh.eo.1 hst.size, hst.os.trans hh.eo.2.1, hst.tape.trans hh.eo.2.2.1, hst.output.trans hh.eo.2.2.2⟩
  ·rw [hst.same _ ⟨G3 (hh.live i o hi).2, .inl (hh.new i o hi)⟩]; exact (hh.live i o hi).2
  ·rintro i o hi (hD | ⟨hD, _⟩)
   ·exact hh.new i o hi hD
   ·have := G3 (hh.live i o hi).2; omega
  ·rintro k (hD | ⟨_, hD⟩)
   ·exact ⟨Nat.lt_of_lt_of_le (hh.frame k hD).1 hst.size, rfl⟩
   ·exact ⟨hD, rfl⟩
  ·intro k hE
   obtain ⟨f1, f2⟩ := hh.frameE k hE
   exact ⟨Nat.lt_of_lt_of_le f1 hst.size, by rw [hst.same k ⟨f1, .inl (hh.apart k hE)⟩]; exact f2⟩
  ·rintro k hE (hD | ⟨hD, _⟩)
   ·exact hh.apart k hE hD
   ·have := (hh.frameE k hE).1; omega
 have hI' : ItB W Rd ⟨w', Bq9 x.B.D w w'⟩ := by
  refine ⟨?_, fun b h => .inl (hB.D b h), fun b h => ?_, Nat.le_trans hI.size hst.size, hst.os.trans hI.os, hst.tape.trans hI.tape, hst.output.trans hI.output⟩
  ·rintro b (hD | ⟨_, hD⟩)
   ·exact Nat.lt_of_lt_of_le (hI.lt b hD) hst.size
   ·exact hD
  ·rw [← hI.rd b h]; exact hst.same b ⟨Nat.lt_of_lt_of_le (hRd b h) hI.size, .inr h⟩
 cases b with
 | true => exact ⟨_, bs, key true, hkt _ (h1 rfl) hI'⟩
 | false => exact ⟨_, bs, key false, hkf _ (h2 rfl) hI'⟩
theorem Cm9 {C : Cx} {Q : Exit → X → Prop} {o : Oper} {st : List It} {x : X} {W : World} {Rd : Nat → Prop} {A : Type} {len : Nat} {enc : A → Array Value} {El : Nat → A → (Nat → Prop) → World → Prop} {J Jx : Nat → (Nat → Prop) → World → Prop}
  {l k t : Nat} {args : Array Operand} {Ts : Array TypeId} {vs : List EV} (a : A) (hop : o.op = .call { callee := .value (.tmp t), args := args, argTypes := Ts }) (ht : G2 x.σ t = .raw (.func (.yield l) #[] #[]))
  (hR : Bx5 C.P l W Rd len enc El J Jx) (hJs : Ap4 J) (hev : args.toList.map (ev x.σ) = vs) (hany : O3 vs = true) (henc : ∀ bs, (A8 bs vs).toArray = enc a) (hk : k < len) (hEl : ∀ w, Stay x.B.D x.B.w w → El k a x.B.D w)
  (hJ : J k x.B.D x.B.w) (hB : ItB W Rd x.B) (hRd : ∀ b, Rd b → b < W.heap.size)
  (hkt : ∀ B', J (k + 1) B'.D B'.w → ItB W Rd B' → Next C Q st { σ := put x.σ o.dst (.bool true), n := x.n, hs := x.hs, B := B', ms := x.ms })
  (hkf : ∀ B', Jx k B'.D B'.w → ItB W Rd B' → Next C Q st { σ := put x.σ o.dst (.bool false), n := x.n, hs := x.hs, B := B', ms := x.ms }) : opS C Q o st x :=
 Cn0 (fun _ => a) hop ht hR hJs hev hany hk (fun bs w h => ⟨henc bs, hEl w h.stay⟩) hJ hB hRd hkt hkf
end Go.Ew
namespace Go.Ew
open Go RowKit

/-- The loop's parameters, laid. -/
def binds : List Nat → List EV → List (Nat × EV) → List (Nat × EV)
 | p :: ps, v :: vs, σ => binds ps vs ((p, v) :: σ)
 | _, _, σ => σ
theorem TRel.binds {C : Cx} {n : Nat} {bs : Nat → Nat} : ∀ (ps : List Nat) (vs : List EV) (σ : List (Nat × EV)) (t : Array Value) (d : List Deferred) (ms : List Nat), TRel C ms n σ bs { tmps := t, defers := d } → (∀ p ∈ ps, p < C.N) → A0 n vs →
  TRel C ms n (Ew.binds ps vs σ) bs { tmps := (ps.zip (A8 bs vs)).foldl (fun t (p, v) => t.setIfInBounds p v) t, defers := d }
 | [], vs, σ, t, d, ms, h, _, _ => by simpa [Ew.binds] using h
 | p :: ps, [], σ, t, d, ms, h, _, _ => by simpa [Ew.binds, A8] using h
 | p :: ps, v :: vs, σ, t, d, ms, h, hp, hc => by
  simp only [Ew.binds, A8, List.zip_cons_cons, List.foldl_cons]
  refine TRel.binds ps vs _ _ d ms ?_ (fun q hq => hp q (by simp [hq])) hc.2
  have := h.next (dst := some p) (Nat.le_refl _) (fun _ _ => rfl) (by simp [K3, hp p (by simp)]) (v := v) (.inr rfl) hc.1
  simpa [put, Act.put] using this
/-- How a round's body may be left. -/
def roundQ {S : Type} (Cr : Cx) (n0 : Nat) (r : Loop) (Nn : S → Nat) (Hs : S → List (Nat × Option EObj)) (Bs : S → Base) (I : S → Prop) (Ix : Code → S → Prop) : Exit → X → Prop
 | .normal, x => ∃ s, I s ∧ Weak Cr ⟨[], x.n, x.hs, x.B, []⟩ ⟨[], Nn s, (n0 + 1, some (.obj (.loop r))) :: (n0, some (.obj (.deferred (some [])))) :: Hs s, Bs s, []⟩
 | .ret, x => ∃ s, Ix .ret s ∧ Weak Cr ⟨[], x.n, x.hs, x.B, []⟩ ⟨[], Nn s, (n0 + 1, some (.obj (.loop r))) :: (n0, some (.obj (.deferred (some [])))) :: Hs s, Bs s, []⟩
 | .exit id, x => ∃ s, Ix (.exit id) s ∧ Weak Cr ⟨[], x.n, x.hs, x.B, []⟩ ⟨[], Nn s, (n0 + 1, some (.obj (.loop r))) :: (n0, some (.obj (.deferred (some [])))) :: Hs s, Bs s, []⟩
 | _, _ => False
/-- The parameters are handed on; then the body. -/
def assignQ {S : Type} (Cr : Cx) (n0 : Nat) (r r' : Loop) (body : Code) (Nn : S → Nat) (Hs : S → List (Nat × Option EObj)) (Bs : S → Base) (I : S → Prop) (Ix : Code → S → Prop) : Exit → X → Prop
 | .normal, x => hget x.hs (n0 + 1) = some (.obj (.loop r)) ∧ Next Cr (roundQ Cr n0 r' Nn Hs Bs I Ix) [.c body] { σ := x.σ, n := x.n, hs := (n0 + 1, some (.obj (.loop r'))) :: x.hs, B := x.B, ms := x.ms }
 | _, _ => False
theorem HRel.at {C : Cx} {B : Base} {n : Nat} {hs : List (Nat × Option EObj)} {bs : Nat → Nat} {w w' : World} {D : Nat → Prop} (h : HRel C B n hs bs w) (hD1 : ∀ i o, hget hs i = some o → D (bs i)) (hD2 : ∀ b, B.D b → D b) (hD3 : ∀ b, C.E b → D b)
  (hs' : Stay D w w') : HRel C B n hs bs w' :=
 ⟨fun i o hi => ⟨(h.live i o hi).1, by rw [hs'.same _ (hD1 i o hi)]; exact (h.live i o hi).2⟩, h.cl, h.inj, h.old, h.new,
  fun k hk => ⟨Nat.lt_of_lt_of_le (h.frame k hk).1 hs'.size, by rw [hs'.same k (hD2 k hk)]; exact (h.frame k hk).2⟩,
  hs'.os.trans h.os, hs'.tape.trans h.tape, hs'.output.trans h.output, Nat.le_trans h.hsize hs'.size, h.newE,
  fun k hk => ⟨Nat.lt_of_lt_of_le (h.frameE k hk).1 hs'.size, by rw [hs'.same k (hD3 k hk)]; exact (h.frameE k hk).2⟩, h.apart, Nat.le_trans h.eo.1 hs'.size, hs'.os.trans h.eo.2.1, hs'.tape.trans h.eo.2.2.1, hs'.output.trans h.eo.2.2.2⟩
/-- Another set of fixed names, other blocks that stay. -/
theorem HRel.cx {C C' : Cx} {B : Base} {n : Nat} {hs : List (Nat × Option EObj)} {bs : Nat → Nat} {w : World} (h : HRel C B n hs bs w) (h1 : ∀ i b, C'.olds[i]? = some b → bs i = b ∧ i < n)
  (h2 : ∀ i o, hget hs i = some o → ¬ C'.E (bs i)) (h3 : ∀ k, C'.E k → k < w.heap.size ∧ w.heap[k]? = C'.e.heap[k]?) (h4 : ∀ k, C'.E k → ¬ B.D k) (h5 : C'.e.heap.size ≤ w.heap.size ∧ w.os = C'.e.os ∧ w.tape = C'.e.tape ∧ w.output = C'.e.output) : HRel C' B n hs bs w :=
 ⟨h.live, h.cl, h.inj, h1, h.new, h.frame, h.os, h.tape, h.output, h.hsize, h2, h3, h4, h5⟩
/-- The state of the loop, between two rounds. -/
structure JIn (C : Cx) (n0 : Nat) (bs1 : Nat → Nat) (r : Loop) (B : Base) (n : Nat) (hs : List (Nat × Option EObj)) (bs : Nat → Nat) (D : Nat → Prop) (w : World) : Prop where
 h : HRel C B n ((n0 + 1, some (.obj (.loop r))) :: (n0, some (.obj (.deferred (some [])))) :: hs) bs w
 fix : ∀ i, i < n0 + 2 → bs i = bs1 i
 D1 : ∀ i o, hget ((n0 + 1, some (.obj (.loop r))) :: (n0, some (.obj (.deferred (some [])))) :: hs) i = some o → D (bs i)
 D2 : ∀ b, B.D b → D b
 D3 : ∀ b, C.E b → D b
theorem JIn.stay {C : Cx} {n0 : Nat} {bs1 : Nat → Nat} {r : Loop} {B : Base} {n : Nat} {hs : List (Nat × Option EObj)} {bs : Nat → Nat} {D : Nat → Prop} {w w' : World} (h : JIn C n0 bs1 r B n hs bs D w) (hs' : Stay D w w') : JIn C n0 bs1 r B n hs bs D w' :=
 ⟨h.h.at h.D1 h.D2 h.D3 hs', h.fix, h.D1, h.D2, h.D3⟩
theorem Co4 {C : Cx} {Q : Exit → X → Prop} {g : Operand} {ps : Array Tmp} {assign body : Code} {st : List It} {x : X} {fg : FuncId} {first cap : List EV} (hrd : C.rd = none)
  (hg : ev x.σ g = .fn (.func fg) first cap) (hE : C6 C.P fg) (hps : ∀ p ∈ ps.toList, p < C.N) (hin : C5 C.N assign = true ∧ C5 C.N body = true)
  {S : Type} (I : Nat → S → Prop) (Ix : Code → S → Prop) (Nn : S → Nat) (Hs : S → List (Nat × Option EObj)) (Bs : S → Base) (s0 : S) (hI : I 0 s0)
  (h0 : Weak C ⟨[], x.n + 2, x.hs, x.B, []⟩ ⟨[], Nn s0, Hs s0, Bs s0, []⟩) (hHs : ∀ s, hget (Hs s) x.n = none ∧ hget (Hs s) (x.n + 1) = none)
  (hNn : (∀ k s, I k s → x.n + 2 ≤ Nn s) ∧ (∀ c s, Ix c s → x.n + 2 ≤ Nn s)) (Rn : List Nat) (Rf : Nat → Prop)
  (hRn : ∀ i ∈ Rn, (hget x.hs i).isSome = true ∧ (∀ k s, I k s → hget (Hs s) i = hget x.hs i) ∧ (∀ c s, Ix c s → hget (Hs s) i = hget x.hs i))
  (hRf : ∀ b, Rf b → x.B.D b ∧ (∀ k s, I k s → (Bs s).D b ∧ (Bs s).w.heap[b]? = x.B.w.heap[b]?) ∧ (∀ c s, Ix c s → (Bs s).D b ∧ (Bs s).w.heap[b]? = x.B.w.heap[b]?))
  {A : Type} {len : Nat} {enc : A → Array Value} {El : Nat → A → (Nat → Prop) → World → Prop} (encE : A → List EV) (henc : ∀ a bs, (A8 bs (encE a)).toArray = enc a) (hencc : ∀ a, A0 0 (encE a)) (hencl : ∀ a, (encE a).length = ps.size)
  (hiter : ∀ bs w, HRel C x.B x.n x.hs bs w → Bj7 C.P fg (fun y => (A8 bs (first ++ [.raw y] ++ cap)).toArray) w (fun b => (∃ i ∈ Rn, b = bs i) ∨ Rf b) len enc El)
  (Elp : Nat → A → World → (Nat → Prop) → Prop) (hEl : ∀ k a D w E, El k a D w → (∀ b, b < w.heap.size → ¬ D b → E b) → Elp k a w E)
  (round : ∀ k s a l olds e E r r', I k s → k < len → Elp k a e E → olds.length = x.n + 2 →
   Next ⟨C.P, C.N, some l, olds, e, E⟩ (assignQ ⟨C.P, C.N, some l, olds, e, E⟩ x.n r r' body Nn Hs Bs (I (k + 1)) Ix) [.c assign]
    ⟨binds ps.toList (encE a) x.σ, Nn s, (x.n + 1, some (.obj (.loop r))) :: (x.n, some (.obj (.deferred (some [])))) :: Hs s, Bs s, []⟩)
  (hdone : ∀ s, I len s → Next C Q st ⟨x.σ, Nn s, (x.n + 1, none) :: (x.n, some (.obj (.deferred (some [])))) :: Hs s, Bs s, x.n :: x.ms⟩)
  (hret : ∀ s, Ix .ret s → Q .ret ⟨x.σ, Nn s, (x.n + 1, none) :: (x.n, some (.obj (.deferred (some [])))) :: Hs s, Bs s, x.n :: x.ms⟩)
  (hexit : ∀ id s, Ix (.exit id) s → As7 C Q st (fun _ => False) (.exit id) ⟨x.σ, Nn s, (x.n + 1, none) :: (x.n, some (.obj (.deferred (some [])))) :: Hs s, Bs s, x.n :: x.ms⟩)
  (hIx : ∀ c s, Ix c s → c = .ret ∨ ∃ id, c = .exit id) : Bu8 C Q (.rangeFunc g ps assign body) st x := by
 intro hst bs a w hr
 obtain ⟨_, hst⟩ := hst
 simp only [H4]
 refine wpIn_rangeFunc ?_
 intro fn _
 have hgv := D0 hr.t g (by rw [hg]; simp)
 rw [hg] at hgv
 have hgc := F8 hr.t g
 rw [hg] at hgc
 simp only [closed] at hgc
 obtain ⟨bs1, hbs1⟩ : ∃ bs1, bs1 = upd (upd bs x.n w.heap.size) (x.n + 1) (w.heap.size + 1) := ⟨_, rfl⟩
 obtain ⟨rec, hrec⟩ : ∃ rec : LoopState → Option Code → Loop, rec = fun st pe => { state := st, pending := pe, fn, tmps := a.tmps, params := ps, assign, body, defers := w.heap.size } := ⟨_, rfl⟩
 have hbn : bs1 x.n = w.heap.size := by rw [hbs1]; simp [upd]
 have hbn1 : bs1 (x.n + 1) = w.heap.size + 1 := by rw [hbs1]; simp [upd]
 have hblt : ∀ i, i < x.n → bs1 i = bs i := fun i hi => by rw [hbs1, I2 i (by omega), I2 i hi]
 obtain ⟨w1, hw1⟩ : ∃ w1, w1 = (w.alloc (.deferred (some []))).alloc (.loop (rec .ready none)) := ⟨_, rfl⟩
 have hH1 : HRel C x.B (x.n + 2) ((x.n + 1, some (.obj (.loop (rec .ready none)))) :: (x.n, some (.obj (.deferred (some [])))) :: x.hs) bs1 w1 := by
  have := (hr.h.alloc (.obj (.deferred (some []))) trivial).alloc (.obj (.loop (rec .ready none))) trivial
  rw [hbs1, hw1]
  have e : (w.heap.push (EObj.real bs (.obj (.deferred (some []))))).size = w.heap.size + 1 := by simp
  rw [e] at this
  exact this
 -- the loop's own context
 obtain ⟨Cj, hCj⟩ : ∃ Cj : Cx, Cj = ⟨C.P, C.N, C.rd, (List.range (x.n + 2)).map bs1, C.e, C.E⟩ := ⟨_, rfl⟩
 have hfixC : ∀ {B : Base} {n : Nat} {hs : List (Nat × Option EObj)} {bs' : Nat → Nat} {w' : World}, HRel Cj B n hs bs' w' → HRel C B n hs bs' w' := by
  intro B n hs bs' w' h
  subst hCj
  refine h.cx (fun i b hi => ?_) h.newE h.frameE h.apart h.eo
  obtain ⟨h1, h2⟩ := hr.h.old i b hi
  have h3 := h.old i (bs1 i) (by simp [show i < x.n + 2 by omega])
  exact ⟨by rw [h3.1, hblt i h2, h1], h3.2⟩
 have hfixJ : ∀ {B : Base} {n : Nat} {hs : List (Nat × Option EObj)} {bs' : Nat → Nat} {w' : World}, HRel C B n hs bs' w' → x.n + 2 ≤ n → (∀ i, i < x.n + 2 → bs' i = bs1 i) → HRel Cj B n hs bs' w' := by
  intro B n hs bs' w' h hn hf
  subst hCj
  refine h.cx (fun i b hi => ?_) h.newE h.frameE h.apart h.eo
  simp only [List.getElem?_map, Option.map_eq_some_iff] at hi
  obtain ⟨j, hj, rfl⟩ := hi
  obtain ⟨h1, h2⟩ := List.getElem?_eq_some_iff.1 hj
  simp only [List.length_range] at h1
  simp only [List.getElem_range] at h2
  subst h2
  exact ⟨hf i h1, by omega⟩
 have hCjP : Cj.P = C.P ∧ Cj.N = C.N ∧ Cj.e = C.e ∧ Cj.E = C.E := by subst hCj; exact ⟨rfl, rfl, rfl, rfl⟩
 have hCjo : ∀ i, i < x.n + 2 → Cj.olds[i]? = some (bs1 i) := by intro i hi; subst hCj; simp [hi]
 have hCjl : Cj.olds.length = x.n + 2 := by subst hCj; simp
 have hbb : Below w.heap.size w w1 := by rw [hw1]; exact ((Below.refl _ w).alloc (Nat.le_refl _) _).alloc (by simp) _
 have hit := hiter bs w1 (hr.h.later hbb)
 refine ⟨w.heap.size + 1, [{ target := .collected w.heap.size, args := #[] }], w1, { target := .fn (.func fg) (A8 bs cap).toArray, args := (A8 bs first).toArray ++ #[.func (.yield (w.heap.size + 1)) #[] #[]] }, w1, fg,
  (A8 bs (first ++ [.raw (.func (.yield (w.heap.size + 1)) #[] #[])] ++ cap)).toArray, w1, ?_, ?_, fun _ _ => trivial, ?_, by simp [fe, Fence.wide], ?_⟩
 ·have : (fe C).round = none := hrd
  rw [this, hw1, hrec]; exact run_enterLoop_outer _ _ _ _ _
 ·have hc : ∀ v, a.eval (.const v) = v := fun _ => rfl
  simp only [resolve, rangeCall, hgv, real, Deferred.ofValue, List.map_toArray, List.map_cons, List.map_nil, hc, A8]
  rfl
 ·simp only [invoke]
  rw [hE]
  simp [A9, real]
 rw [calls_fe]
 -- what there is between two rounds, and where a round De3 'no more'
 have hweak : ∀ (r r' : Loop) (y : X) (s : S) (Cr : Cx), Cr.olds.length = x.n + 2 → Weak Cr ⟨[], y.n, y.hs, y.B, []⟩ ⟨[], Nn s, (x.n + 1, some (.obj (.loop r))) :: (x.n, some (.obj (.deferred (some [])))) :: Hs s, Bs s, []⟩ →
   ∀ {bs2 : Nat → Nat} {w2 : World}, HRel Cr y.B y.n y.hs bs2 w2 → HRel Cr (Bs s) (Nn s) ((x.n + 1, some (.obj (.loop r'))) :: (x.n, some (.obj (.deferred (some [])))) :: Hs s) bs2 (w2.putObj (bs2 (x.n + 1)) (.loop r')) := by
  intro r r' y s Cr hlen hw bs2 w2 hh
  have h1 := hh.weakH (x := ⟨[], y.n, y.hs, y.B, []⟩) hw
  have h2 := h1.store (i := x.n + 1) (o := .obj (.loop r)) (by simp [C0]) (.obj (.loop r')) trivial
  have hb : hget ((x.n + 1, some (EObj.obj (.loop r))) :: (x.n, some (EObj.obj (.deferred (some [])))) :: Hs s) = hget ((x.n + 1, some (EObj.obj (.loop r))) :: (x.n, some (EObj.obj (.deferred (some [])))) :: Hs s) := rfl
  refine (HRel.weakH (x := ⟨[], Nn s, (x.n + 1, some (.obj (.loop r'))) :: (x.n + 1, some (.obj (.loop r))) :: (x.n, some (.obj (.deferred (some [])))) :: Hs s, Bs s, []⟩) h2 (y := ⟨[], Nn s, (x.n + 1, some (.obj (.loop r'))) :: (x.n, some (.obj (.deferred (some [])))) :: Hs s, Bs s, []⟩) ⟨fun t => .inl rfl, ?_, fun t => by simp [G2, closed], ?_, hw.olds, rfl, rfl, by simp⟩)
  ·intro i o hi
   simp only [C0] at hi ⊢
   by_cases e : x.n + 1 = i
   ·simpa [e] using hi
   ·simpa [e] using hi
  ·intro i o hi
   simp only [C0] at hi
   by_cases e : x.n + 1 = i
   ·simp only [e, if_true, Option.some.injEq] at hi
    subst hi; exact ⟨by have := (hw.hcl (x.n + 1) (.obj (.loop r)) (by simp [C0])).1; simp only at this ⊢; omega, trivial⟩
   ·exact hw.hcl i o (by simpa [C0, e] using hi)
 refine (hit (w.heap.size + 1) (fun k D w' => ∃ s bs', I k s ∧ JIn Cj x.n bs1 (rec .ready none) (Bs s) (Nn s) (Hs s) bs' D w')
  (fun _ D w' => ∃ c s bs', Ix c s ∧ JIn Cj x.n bs1 (rec .done (some c)) (Bs s) (Nn s) (Hs s) bs' D w') ?_ ?_ ?_ ?_).mono ?_
 ·rintro k D w' w'' ⟨s, bs', h1, h2⟩ _ hs'; exact ⟨s, bs', h1, h2.stay hs'⟩
 ·rintro k D w' w'' ⟨c, s, bs', h1, h2⟩ _ hs'; exact ⟨c, s, bs', h1, h2.stay hs'⟩
 ·-- one round
  rintro k el D w2 hk hel ⟨s, bs', hIs, hj⟩ hB
  have hn2 := hNn.1 k s hIs
  have hl2 : w2.heap[w.heap.size + 1]? = some (.loop (rec .ready none)) := by
   have := (hj.h.live (x.n + 1) (.obj (.loop (rec .ready none))) (by simp [C0])).2
   rw [hj.fix _ (by omega), hbn1] at this; exact this
  have hesz : (enc el).size = ps.size := by rw [← henc el bs]; simp [A9, hencl]
  have hy := run_yield (P := C.P) (args := enc el) hl2 (by rw [hrec]; exact hesz)
  obtain ⟨Er, hEr⟩ : ∃ Er : Nat → Prop, Er = fun b => b < w2.heap.size ∧ (¬ D b ∨ C.E b) := ⟨_, rfl⟩
  obtain ⟨Cr, hCr⟩ : ∃ Cr : Cx, Cr = ⟨C.P, C.N, some (w.heap.size + 1), Cj.olds, w2, Er⟩ := ⟨_, rfl⟩
  have hfe : fe Cr = Fence.wide.inRound (w.heap.size + 1) := by rw [hCr]; rfl
  have hCrE : Cr.E = Er := by rw [hCr]
  have hCre : Cr.e = w2 := by rw [hCr]
  have hCro : Cr.olds = Cj.olds := by rw [hCr]
  have hCrP : Cr.P = C.P := by rw [hCr]
  have hCrN : Cr.N = C.N := by rw [hCr]
  have hHr : HRel Cr (Bs s) (Nn s) ((x.n + 1, some (.obj (.loop (rec .ready none)))) :: (x.n, some (.obj (.deferred (some [])))) :: Hs s) bs' w2 := by
   refine hj.h.cx (by rw [hCro]; exact hj.h.old) ?_ ?_ ?_ ?_
   ·intro i o hi; rw [hCrE, hEr]
    rintro ⟨_, h | h⟩
    ·exact h (hj.D1 i o hi)
    ·exact hj.h.newE i o hi (by rw [hCjP.2.2.2]; exact h)
   ·intro q hq; rw [hCrE, hEr] at hq; rw [hCre]; exact ⟨hq.1, rfl⟩
   ·intro q hq; rw [hCrE, hEr] at hq
    rcases hq.2 with h | h
    ·exact fun hb => h (hj.D2 q hb)
    ·exact hj.h.apart q (by rw [hCjP.2.2.2]; exact h)
   ·rw [hCre]; exact ⟨Nat.le_refl _, rfl, rfl, rfl⟩
  have hbb' : ∀ i, i < x.n → bs' i = bs i := fun i hi => by rw [hj.fix i (by omega), hblt i hi]
  have hTr : TRel Cr [] (Nn s) x.σ bs' { tmps := a.tmps, defers := [] } :=
   ⟨by rw [hCrN]; exact hr.t.size, rfl, by simp, fun t ht => by rw [real_congr hbb' _ (hr.t.cl t)]; exact hr.t.tmps t ht, fun t => closed_mono (by omega) _ (hr.t.cl t)⟩
  have hTb := hTr.binds ps.toList (encE el) _ _ _ _ (fun p hp => by rw [hCrN]; exact hps p hp) (D7 (Nat.zero_le _) _ (hencc el))
  have htm : ((rec .ready none).params.zip (enc el)).foldl (fun tmps (t, a) => tmps.setIfInBounds t a) (rec .ready none).tmps = (ps.toList.zip (A8 bs' (encE el))).foldl (fun t (p, v) => t.setIfInBounds p v) a.tmps := by
   rw [hrec, ← henc el bs', ← Array.foldl_toList]; simp
  have he1 : (rec .ready none).fn = fn ∧ (rec .ready none).assign = assign ∧ (rec .ready none).body = body := by rw [hrec]; exact ⟨rfl, rfl, rfl⟩
  rw [htm, he1.1, he1.2.1, he1.2.2] at hy
  refine ⟨fn, _, assign, body, hy, ?_⟩
  refine roundIn_of_wpIn (F := Fence.wide) trivial ?_
  rw [← hfe]
  have hnx := round k s el (w.heap.size + 1) Cj.olds w2 Er (rec .ready none) (rec .busy none) hIs hk (hEl _ _ _ _ Er hel (fun b h1 h2 => by rw [hEr]; exact ⟨h1, .inl h2⟩)) hCjl
  rw [← hCr] at hnx
  have hwalk := hnx ⟨by rw [hCrN]; exact hin.1, trivial⟩ bs' _ w2 ⟨hTb, hHr⟩
  simp only [H4] at hwalk
  rw [hCrP] at hwalk
  refine wpIn_mono hwalk ?_
  rintro e1 a1 w3 ⟨x1, bs2, hr1, hq1⟩
  cases e1 with
  | normal =>
   obtain ⟨hg1, hnext⟩ := hq1
   have ho1 : ∀ {B : Base} {n : Nat} {hs : List (Nat × Option EObj)} {bs3 : Nat → Nat} {w4 : World}, HRel Cr B n hs bs3 w4 → ∀ i, i < x.n + 2 → bs3 i = bs1 i := by
    intro B n hs bs3 w4 h i hi; exact (h.old i _ (by rw [hCro]; exact hCjo i hi)).1
   have hl3 : w3.heap[w.heap.size + 1]? = some (.loop (rec .ready none)) := by
    have := (hr1.h.live _ _ hg1).2
    rw [ho1 hr1.h _ (by omega), hbn1] at this; exact this
   refine ⟨_, run_beginRound hl3 (by rw [hrec]), ?_⟩
   have hbusy : ({ rec .ready none with state := .busy } : Loop) = rec .busy none := by rw [hrec]
   rw [hbusy]
   have hH3 := hr1.h.store hg1 (.obj (.loop (rec .busy none))) trivial
   rw [ho1 hr1.h _ (by omega), hbn1] at hH3
   have hwalk2 := hnext ⟨by rw [hCrN]; exact hin.2, trivial⟩ bs2 a1 _ ⟨hr1.t, hH3⟩
   simp only [H4] at hwalk2
   rw [hCrP] at hwalk2
   refine wpIn_mono hwalk2 ?_
   rintro e2 a2 w4 ⟨x2, bs3, hr2, hq2⟩
   -- the end of a round
   have fin : ∀ (jump : Option Code) (s' : S), ((∃ k, I k s') ∨ ∃ c, Ix c s') → Weak Cr ⟨[], x2.n, x2.hs, x2.B, []⟩ ⟨[], Nn s', (x.n + 1, some (.obj (.loop (rec .busy none)))) :: (x.n, some (.obj (.deferred (some [])))) :: Hs s', Bs s', []⟩ →
     ∃ w5, (Instr.endRound (w.heap.size + 1) jump).run C.P w4 = .ok (.bool jump.isNone) w5 ∧ Stay (fun q => q < w2.heap.size ∧ (¬ D q ∨ ((∃ i ∈ Rn, q = bs i) ∨ Rf q))) w2 w5 ∧
      JIn Cj x.n bs1 (rec (if jump.isNone then .ready else .done) jump) (Bs s') (Nn s') (Hs s') bs3 (Bq9 D w2 w5) w5 := by
    intro jump s' hI' hwk
    have hlen : Cr.olds.length = x.n + 2 := by rw [hCro]; exact hCjl
    have hH4 := hr2.h.weakH (x := ⟨[], x2.n, x2.hs, x2.B, []⟩) hwk
    have hf3 := ho1 hH4
    have hl4 : w4.heap[w.heap.size + 1]? = some (.loop (rec .busy none)) := by
     have := (hH4.live (x.n + 1) (.obj (.loop (rec .busy none))) (by simp [C0])).2
     rw [hf3 _ (by omega), hbn1] at this; exact this
    have hend := run_endRound (P := C.P) jump hl4
    have hrr : ({ rec .busy none with state := if jump.isNone then .ready else .done, pending := jump } : Loop) = rec (if jump.isNone then .ready else .done) jump := by rw [hrec]
    rw [hrr] at hend
    have hH5 := hweak _ (rec (if jump.isNone then .ready else .done) jump) x2 s' Cr hlen hwk hr2.h
    rw [hf3 _ (by omega), hbn1] at hH5
    refine ⟨_, hend, ?_, ?_⟩
    ·refine ⟨by have := hH5.eo.1; rw [hCre] at this; exact this, ?_, by have := hH5.eo.2.1; rw [hCre] at this; exact this, by have := hH5.eo.2.2.1; rw [hCre] at this; exact this, by have := hH5.eo.2.2.2; rw [hCre] at this; exact this⟩
     rintro q ⟨hq, h | ⟨i, hi, rfl⟩ | h⟩
     ·have := (hH5.frameE q (by rw [hCrE, hEr]; exact ⟨hq, .inl h⟩)).2
      rw [hCre] at this; exact this
     ·obtain ⟨r1, r2, r3⟩ := hRn i hi
      obtain ⟨o, ho⟩ := Option.isSome_iff_exists.1 r1
      have hin' := (hr.h.live i o ho).1
      have hne : x.n + 1 ≠ i ∧ x.n ≠ i := by omega
      have e1 := (hj.h.live i o (by rw [C0, if_neg hne.1, C0, if_neg hne.2, r2 k s hIs]; exact ho)).2
      have e2 := (hH5.live i o (by
       rw [C0, if_neg hne.1, C0, if_neg hne.2]
       rcases hI' with ⟨k', hI'⟩ | ⟨c', hI'⟩
       ·rw [r2 k' s' hI']; exact ho
       ·rw [r3 c' s' hI']; exact ho)).2
      rw [hf3 i (by omega), hblt i hin'] at e2
      rw [hbb' i hin'] at e1
      rw [e1, e2]
      rw [EObj.real_congr (fun j hj' => by rw [hf3 j (by omega), hblt j hj']) o (hr.h.cl i o ho), EObj.real_congr (fun j hj' => hbb' j hj') o (hr.h.cl i o ho)]
     ·obtain ⟨r1, r2, r3⟩ := hRf q h
      obtain ⟨d1, d2⟩ := r2 k s hIs
      have e1 := (hj.h.frame q d1).2
      have : (Bs s').D q ∧ (Bs s').w.heap[q]? = x.B.w.heap[q]? := by
       rcases hI' with ⟨k', hI'⟩ | ⟨c', hI'⟩
       ·exact r2 k' s' hI'
       ·exact r3 c' s' hI'
      rw [(hH5.frame q this.1).2, this.2, e1, d2]
    ·refine ⟨hH5.cx (by rw [← hCro]; exact hH5.old) ?_ ?_ ?_ ?_, hf3, ?_, ?_, ?_⟩
     ·intro i o hi; rw [hCjP.2.2.2]
      intro hc
      have := hH5.newE i o hi
      rw [hCrE, hEr] at this
      exact this ⟨(hj.h.frameE _ (by rw [hCjP.2.2.2]; exact hc)).1, .inr hc⟩
     ·intro q hq
      obtain ⟨f1, f2⟩ := hj.h.frameE q hq
      have := hH5.frameE q (by rw [hCrE, hEr]; exact ⟨f1, .inr (by rw [← hCjP.2.2.2]; exact hq)⟩)
      rw [hCre] at this
      exact ⟨this.1, this.2.trans f2⟩
     ·intro q hq
      exact hH5.apart q (by rw [hCrE, hEr]; exact ⟨(hj.h.frameE q hq).1, .inr (by rw [← hCjP.2.2.2]; exact hq)⟩)
     ·have h1 := hH5.eo
      have h2 := hj.h.eo
      rw [hCre] at h1
      exact ⟨Nat.le_trans h2.1 h1.1, h1.2.1.trans h2.2.1, h1.2.2.1.trans h2.2.2.1, h1.2.2.2.trans h2.2.2.2⟩
     ·intro i o hi
      have h1 := G3 (hH5.live i o hi).2
      rcases Nat.lt_or_ge (bs3 i) w2.heap.size with h | h
      ·refine .inl (Classical.byContradiction fun hn => ?_)
       have := hH5.newE i o hi
       rw [hCrE, hEr] at this
       exact this ⟨h, .inl hn⟩
      ·exact .inr ⟨h, h1⟩
     ·intro b hb
      have h1 := (hH5.frame b hb).1
      rcases Nat.lt_or_ge b w2.heap.size with h | h
      ·refine .inl (Classical.byContradiction fun hn => ?_)
       exact hH5.apart b (by rw [hCrE, hEr]; exact ⟨h, .inl hn⟩) hb
      ·exact .inr ⟨h, h1⟩
     ·intro b hb
      exact .inl (hj.D3 b hb)
   cases e2 with
   | normal =>
    obtain ⟨s', hI', hwk⟩ := hq2
    obtain ⟨w5, h1, h2, h3⟩ := fin none s' (.inl ⟨_, hI'⟩) hwk
    exact ⟨_, w5, h1, true, rfl, h2, fun _ => ⟨s', bs3, hI', h3⟩, fun h => by simp at h⟩
   | ret =>
    obtain ⟨s', hI', hwk⟩ := hq2
    obtain ⟨w5, h1, h2, h3⟩ := fin (some .ret) s' (.inr ⟨_, hI'⟩) hwk
    exact ⟨_, w5, h1, false, rfl, h2, fun h => by simp at h, fun _ => ⟨.ret, s', bs3, hI', h3⟩⟩
   | exit id =>
    obtain ⟨s', hI', hwk⟩ := hq2
    obtain ⟨w5, h1, h2, h3⟩ := fin (some (.exit id)) s' (.inr ⟨_, hI'⟩) hwk
    exact ⟨_, w5, h1, false, rfl, h2, fun h => by simp at h, fun _ => ⟨.exit id, s', bs3, hI', h3⟩⟩
   | goto t => exact hq2.elim
   | panic ch => exact hq2.elim
   | outgrown => exact hq2.elim
  | ret => exact hq1.elim
  | exit id => exact hq1.elim
  | goto t => exact hq1.elim
  | panic ch => exact hq1.elim
  | outgrown => exact hq1.elim
 ·-- before the first round
  refine ⟨s0, bs1, hI, ?_, fun _ _ => rfl, ?_, ?_, ?_⟩
  ·refine hfixJ (hH1.weakH (x := ⟨[], x.n + 2, _, x.B, []⟩) (y := ⟨[], Nn s0, _, Bs s0, []⟩) ⟨fun _ => .inl rfl, ?_, fun t => by simp [G2, closed], ?_, h0.olds, h0.B, rfl, by simp⟩) (hNn.1 0 s0 hI) (fun _ _ => rfl)
   ·intro i o hi
    simp only [C0] at hi ⊢
    by_cases e : x.n + 1 = i
    ·simpa [e] using hi
    ·by_cases e' : x.n = i
     ·simpa [e, e'] using hi
     ·simp only [if_neg e, if_neg e'] at hi ⊢
      exact h0.hs i o hi
   ·intro i o hi
    simp only [C0] at hi
    have := hNn.1 0 s0 hI
    by_cases e : x.n + 1 = i
    ·simp only [if_pos e, Option.some.injEq] at hi; subst hi; exact ⟨by simp only; omega, trivial⟩
    ·by_cases e' : x.n = i
     ·simp only [if_neg e, if_pos e', Option.some.injEq] at hi; subst hi; exact ⟨by simp only; omega, trivial⟩
     ·simp only [if_neg e, if_neg e'] at hi
      exact h0.hcl i o hi
  ·intro i o hi
   have hh : ∀ i o, hget ((x.n + 1, some (EObj.obj (.loop (rec .ready none)))) :: (x.n, some (EObj.obj (.deferred (some [])))) :: Hs s0) i = some o → ∃ o, hget ((x.n + 1, some (EObj.obj (.loop (rec .ready none)))) :: (x.n, some (EObj.obj (.deferred (some [])))) :: x.hs) i = some o := by
    intro i o hi
    simp only [C0] at hi ⊢
    by_cases e : x.n + 1 = i
    ·simp [e]
    ·by_cases e' : x.n = i
     ·simp [e, e']
     ·simp only [if_neg e, if_neg e'] at hi ⊢
      exact ⟨o, h0.hs i o hi⟩
   obtain ⟨o', ho'⟩ := hh i o hi
   exact G3 (hH1.live i o' ho').2
  ·intro b hb
   have : (Bs s0).D = x.B.D := by rw [show Bs s0 = x.B from h0.B]
   rw [this] at hb
   exact (hH1.frame b hb).1
  ·intro b hb
   rw [hCjP.2.2.2] at hb
   exact (hH1.frameE b hb).1
 ·-- behind the loop
  rintro e w5 ⟨⟨v, rfl⟩, D, hJ⟩
  have aft : ∀ (r : Loop) (s : S) (bs' : Nat → Nat), x.n + 2 ≤ Nn s → JIn Cj x.n bs1 r (Bs s) (Nn s) (Hs s) bs' D w5 → w5.heap[w.heap.size + 1]? = some (.loop r) ∧
    ∀ r', Rel C ⟨x.σ, Nn s, (x.n + 1, none) :: (x.n, some (.obj (.deferred (some [])))) :: Hs s, Bs s, x.n :: x.ms⟩ bs' { a with defers := [{ target := .collected w.heap.size, args := #[] }] ++ a.defers } (w5.putObj (w.heap.size + 1) (.loop r')) := by
   intro r s bs' hn hj
   have hl := (hj.h.live (x.n + 1) (.obj (.loop r)) (by simp [C0])).2
   rw [hj.fix _ (by omega), hbn1] at hl
   refine ⟨hl, fun r' => ⟨⟨hr.t.size, ?_, ?_, ?_, ?_⟩, ?_⟩⟩
   ·simp only [Am1, List.map_cons, hj.fix x.n (by omega), hbn]
    rw [List.singleton_append, hr.t.defers]
    congr 1
    exact (Z1 (fun i hi => by rw [hj.fix i (by omega), hblt i hi]) hr.t.msin).symm
   ·intro i hi
    rcases List.mem_cons.1 hi with rfl | hi
    ·simp only; omega
    ·have := hr.t.msin i hi; simp only; omega
   ·intro t ht; rw [real_congr (fun i hi => by rw [hj.fix i (by omega), hblt i hi]) _ (hr.t.cl t)]; exact hr.t.tmps t ht
   ·intro t; exact closed_mono (by simp only; omega) _ (hr.t.cl t)
   ·have h2 := hj.h.store (i := x.n + 1) (o := .obj (.loop r)) (by simp [C0]) (.obj (.loop r')) trivial
    rw [hj.fix _ (by omega), hbn1] at h2
    refine hfixC (h2.weakH (x := ⟨[], Nn s, _, Bs s, []⟩) (y := ⟨[], Nn s, (x.n + 1, none) :: (x.n, some (.obj (.deferred (some [])))) :: Hs s, Bs s, []⟩) ⟨fun _ => .inl rfl, ?_, fun t => by simp [G2, closed], ?_, by rw [hCjl]; exact hn, rfl, rfl, by simp⟩)
    ·intro i o hi
     simp only [C0] at hi ⊢
     by_cases e : x.n + 1 = i
     ·simp [e] at hi
     ·simpa [e] using hi
    ·intro i o hi
     simp only [C0] at hi
     by_cases e : x.n + 1 = i
     ·simp [e] at hi
     ·have hh : hget ((x.n + 1, some (EObj.obj (.loop r))) :: (x.n, some (EObj.obj (.deferred (some [])))) :: Hs s) i = some o := by
       simpa [C0, e] using hi
      exact ⟨(hj.h.live i o hh).1, hj.h.cl i o hh⟩
  rcases hJ with ⟨s, bs', hIs, hj⟩ | ⟨k, c, s, bs', hIs, hj⟩
  ·obtain ⟨hl, hR⟩ := aft _ s bs' (hNn.1 _ _ hIs) hj
   refine ⟨_, _, run_endLoop hl (by rw [hrec]; simp), ?_⟩
   have : (rec .ready none).pending = none := by rw [hrec]
   rw [this]
   exact hdone s hIs hst bs' _ _ (hR _)
  ·obtain ⟨hl, hR⟩ := aft _ s bs' (hNn.2 _ _ hIs) hj
   refine ⟨_, _, run_endLoop hl (by rw [hrec]; simp), ?_⟩
   have : (rec .done (some c)).pending = some c := by rw [hrec]
   rw [this]
   rcases hIx c s hIs with rfl | ⟨id, rfl⟩
   ·exact wpIn_ret (M5 hst (P := fun _ => False) (hR _) (hret s hIs) (by simp))
   ·exact wpIn_exit (M5 hst (P := fun _ => False) (hR _) (hexit id s hIs) (by simp))
theorem Bf9 {C : Cx} {Q : Exit → X → Prop} {g : Operand} {ps : Array Tmp} {assign body : Code} {st : List It} {x : X} {fg : FuncId} {first cap : List EV} (hrd : C.rd = none)
  (hg : ev x.σ g = .fn (.func fg) first cap) (hE : C6 C.P fg) (hps : ∀ p ∈ ps.toList, p < C.N) (hin : C5 C.N assign = true ∧ C5 C.N body = true)
  {S : Type} (I : Nat → S → Prop) (Ix : Code → S → Prop) (Nn : S → Nat) (Hs : S → List (Nat × Option EObj)) (Bs : S → Base) (s0 : S) (hI : I 0 s0)
  (h0 : Weak C ⟨[], x.n + 2, x.hs, x.B, []⟩ ⟨[], Nn s0, Hs s0, Bs s0, []⟩) (hHs : ∀ s, hget (Hs s) x.n = none ∧ hget (Hs s) (x.n + 1) = none)
  (hNn : (∀ k s, I k s → x.n + 2 ≤ Nn s) ∧ (∀ c s, Ix c s → x.n + 2 ≤ Nn s)) (Rn : List Nat) (Rf : Nat → Prop)
  (hRn : ∀ i ∈ Rn, (hget x.hs i).isSome = true ∧ (∀ k s, I k s → hget (Hs s) i = hget x.hs i) ∧ (∀ c s, Ix c s → hget (Hs s) i = hget x.hs i))
  (hRf : ∀ b, Rf b → x.B.D b ∧ (∀ k s, I k s → (Bs s).D b ∧ (Bs s).w.heap[b]? = x.B.w.heap[b]?) ∧ (∀ c s, Ix c s → (Bs s).D b ∧ (Bs s).w.heap[b]? = x.B.w.heap[b]?))
  {A : Type} {len : Nat} {enc : A → Array Value} {El : Nat → A → (Nat → Prop) → World → Prop} (encE : A → List EV) (henc : ∀ a bs, (A8 bs (encE a)).toArray = enc a) (hencc : ∀ a, A0 0 (encE a)) (hencl : ∀ a, (encE a).length = ps.size)
  (hiter : ∀ bs w, HRel C x.B x.n x.hs bs w → Bj7 C.P fg (fun y => (A8 bs (first ++ [.raw y] ++ cap)).toArray) w (fun b => (∃ i ∈ Rn, b = bs i) ∨ Rf b) len enc El)
  (Elp : Nat → A → Prop) (hEl : ∀ k a D w, El k a D w → Elp k a)
  (round : ∀ k s a l olds e E r r', I k s → k < len → Elp k a → olds.length = x.n + 2 →
   Next ⟨C.P, C.N, some l, olds, e, E⟩ (assignQ ⟨C.P, C.N, some l, olds, e, E⟩ x.n r r' body Nn Hs Bs (I (k + 1)) Ix) [.c assign]
    ⟨binds ps.toList (encE a) x.σ, Nn s, (x.n + 1, some (.obj (.loop r))) :: (x.n, some (.obj (.deferred (some [])))) :: Hs s, Bs s, []⟩)
  (hdone : ∀ s, I len s → Next C Q st ⟨x.σ, Nn s, (x.n + 1, none) :: (x.n, some (.obj (.deferred (some [])))) :: Hs s, Bs s, x.n :: x.ms⟩)
  (hret : ∀ s, Ix .ret s → Q .ret ⟨x.σ, Nn s, (x.n + 1, none) :: (x.n, some (.obj (.deferred (some [])))) :: Hs s, Bs s, x.n :: x.ms⟩)
  (hexit : ∀ id s, Ix (.exit id) s → As7 C Q st (fun _ => False) (.exit id) ⟨x.σ, Nn s, (x.n + 1, none) :: (x.n, some (.obj (.deferred (some [])))) :: Hs s, Bs s, x.n :: x.ms⟩)
  (hIx : ∀ c s, Ix c s → c = .ret ∨ ∃ id, c = .exit id) : Bu8 C Q (.rangeFunc g ps assign body) st x :=
 Co4 hrd hg hE hps hin I Ix Nn Hs Bs s0 hI h0 hHs hNn Rn Rf hRn hRf encE henc hencc hencl hiter (fun k a _ _ => Elp k a) (fun k a D w _ h _ => hEl k a D w h) round hdone hret hexit hIx
end Go.Ew
namespace Go.Ew
open Go
attribute [go_sem ↓] goS opG Bm4 Bd9 Bz0 Bz1 Bz2 Bz3 Am2 opD
attribute [go_sem] Cd7 E8 U7 Option.isSome_some
attribute [go_sem] F3 Al8 Al9 H1 G0 R2 put argσ G2 ev evo okO evs EV.cells EV.isAny EV.one M3 P5 Ad6 Aj5 An6 M2 hget Bn3 ofValue C9 unw Al1 Bx2 Y7 Bo6 Cn5 Ay4 V8 Ak9 lenOf Br7 Br8 Ah8 bnd Al0 T8 Ax8 Aa8 H8 Bn4 Ce6 Av3 cx0 T4 Av4 O3 cond_true cond_false Bh5 atN Db9 av avs EObj.av Ci1 Bx4 EV.isInt EV.num C2 K4 Aa9 Ai2 Br9 F7 Af6 Bz6 As7 List.getD_cons_zero List.getD_cons_succ List.length_cons List.length_nil List.map_cons List.map_nil List.drop_succ_cons List.drop_zero List.take_succ_cons List.take_zero List.take_nil List.set_cons_zero List.set_cons_succ List.cons_append List.nil_append true_and and_true List.getElem?_cons_zero List.getElem?_cons_succ List.all_cons List.all_nil Option.some.injEq exists_eq' beq_self_eq_true Bool.not_false Bool.not_true Bool.and_true Bool.true_and Bool.and_self Bool.and_false Bool.false_and Int.cast_ofNat_Int List.append_nil decide_true decide_false Bool.false_eq_true eq_self Nat.zero_le Nat.le_refl true_or or_true Nat.add_zero Nat.zero_add Nat.mul_one Nat.one_mul Nat.zero_mul
end Go.Ew
namespace Go.Ew
theorem P6 {C : Cx} {Q : Exit → X → Prop} {st : List It} {acc : List (Nat × Oper × Ef)} {x : X} (h : (pwB acc.reverse && Cm2 acc.reverse) = true) (hk : Next C Q st x) : Cy1 C Q st acc x := by
 rw [Bool.and_eq_true] at h
 exact ⟨⟨h.1, Cj5 h.2⟩, hk⟩
end Go.Ew
namespace Go.Ew
theorem W5 {n : Int} (h0 : -9223372036854775808 ≤ n) (h1 : n < 9223372036854775808) : IntKind.i64.wrap n = n := by
 simp [IntKind.wrap, IntKind.bits, IntKind.signed]; omega
theorem T0 {n : Int} (h0 : 0 ≤ n) (h1 : n < 18446744073709551616) : IntKind.u64.wrap n = n := by
 simp [IntKind.wrap, IntKind.bits, IntKind.signed]; omega
theorem Ae6 (n : Int) : IntKind.u64.wrap n = n % 18446744073709551616 := by
 simp [IntKind.wrap, IntKind.bits, IntKind.signed]
theorem Bo1 {n : Int} (h0 : 0 ≤ n) (h1 : n < 256) : IntKind.u8.wrap n = n := by
 simp [IntKind.wrap, IntKind.bits, IntKind.signed]; omega
theorem Ah2 (n : Int) : IntKind.u8.wrap n = n % 256 := by
 simp [IntKind.wrap, IntKind.bits, IntKind.signed]
attribute [go_sem] W5 T0 Bo1
end Go.Ew
namespace Go.Ew
theorem Ba9 {a b : Int} (h : 0 ≤ a) : a.tdiv b = a / b := Int.tdiv_eq_ediv_of_nonneg h
theorem Ch6 {a b : Int} (h : 0 ≤ a) : a.tmod b = a % b := Int.tmod_eq_emod_of_nonneg h
attribute [go_sem] Ba9 Ch6
end Go.Ew
attribute [go_sem] Bool.or_false Bool.false_or Bool.or_true Bool.true_or Bool.or_self
namespace Go.Ew
theorem Ao0 (a b : Nat) : Nat.beq a b = (a == b) := by rw [Bool.eq_iff_iff]; simp [Nat.beq_eq]
attribute [go_sem] Ao0
end Go.Ew
attribute [go_sem] List.getElem?_toArray
namespace Go.Ew
theorem Bk4 (cs : List EV) (off : Nat) (v : EV) : H7 cs off [v] = cs.set off v := rfl
theorem Am9 (cs : List EV) (off : Nat) (u v : EV) (r : List EV) : H7 cs off (u :: v :: r) = cs.take off ++ (u :: v :: r) ++ cs.drop (off + (u :: v :: r).length) := rfl
attribute [go_sem] Bk4 Am9
end Go.Ew
namespace Go.Ew
open Go
theorem S0 {a : Int} (h0 : 0 ≤ a) (h1 : a < 18446744073709551616) : (BitVec.ofInt 64 a).toNat = a.toNat := by
 simp only [BitVec.toNat_ofInt]; omega
theorem Db0 {a b : Int} (ha : 0 ≤ a) (ha' : a < 18446744073709551616) (hb : 0 ≤ b) (hb' : b < 18446744073709551616) : bOr .u64 a b = ((a.toNat ||| b.toNat : Nat) : Int) := by
 have e : (BitVec.ofInt 64 a ||| BitVec.ofInt 64 b).toNat = a.toNat ||| b.toNat := by rw [BitVec.toNat_or, S0 ha ha', S0 hb hb']
 have hlt : a.toNat ||| b.toNat < 2 ^ 64 := Nat.or_lt_two_pow (by omega) (by omega)
 show IntKind.u64.wrap ((BitVec.ofInt 64 a ||| BitVec.ofInt 64 b).toNat : Int) = _
 rw [e, T0 (by omega) (by omega)]
theorem Cd5 {a b : Int} (ha : 0 ≤ a) (ha' : a < 18446744073709551616) (hb : 0 ≤ b) (hb' : b < 18446744073709551616) : Bj3 .u64 a b = ((a.toNat &&& b.toNat : Nat) : Int) := by
 have e : (BitVec.ofInt 64 a &&& BitVec.ofInt 64 b).toNat = a.toNat &&& b.toNat := by rw [BitVec.toNat_and, S0 ha ha', S0 hb hb']
 have hlt : a.toNat &&& b.toNat < 2 ^ 64 := Nat.and_lt_two_pow _ (by omega)
 show IntKind.u64.wrap ((BitVec.ofInt 64 a &&& BitVec.ofInt 64 b).toNat : Int) = _
 rw [e, T0 (by omega) (by omega)]
theorem Cd4 {a b : Int} (ha : 0 ≤ a) (ha' : a < 18446744073709551616) (hb : 0 ≤ b) (hb' : b < 18446744073709551616) : By0 .u64 a b = ((a.toNat ^^^ b.toNat : Nat) : Int) := by
 have e : (BitVec.ofInt 64 a ^^^ BitVec.ofInt 64 b).toNat = a.toNat ^^^ b.toNat := by rw [BitVec.toNat_xor, S0 ha ha', S0 hb hb']
 have hlt : a.toNat ^^^ b.toNat < 2 ^ 64 := Nat.xor_lt_two_pow (by omega) (by omega)
 show IntKind.u64.wrap ((BitVec.ofInt 64 a ^^^ BitVec.ofInt 64 b).toNat : Int) = _
 rw [e, T0 (by omega) (by omega)]
end Go.Ew
namespace Go.Ew
open Go RowKit
mutual
/-- The same value, its blocks' names k further on. -/
def up (k : Nat) : EV → EV
 | .ptr i off => .ptr (i + k) off
 | .sl i off len cap => .sl (i + k) off len cap
 | .mp i => .mp (i + k)
 | .fn f a b => .fn f (ups k a) (ups k b)
 | .agg cs => .agg (ups k cs)
 | .tup vs => .tup (ups k vs)
 | .ifc t v => .ifc t (up k v)
 | v => v
def ups (k : Nat) : List EV → List EV
 | [] => []
 | v :: vs => up k v :: ups k vs
end
mutual
theorem real_up (bs : Nat → Nat) (k : Nat) : ∀ v, real bs (up k v) = real (fun i => bs (i + k)) v
 | .any => by simp [up, real]
 | .int _ _ => by simp [up, real]
 | .bool _ => by simp [up, real]
 | .str _ => by simp [up, real]
 | .ptr i off => by simp [up, real]
 | .sl i off len cap => by simp [up, real]
 | .mp i => by simp [up, real]
 | .fn f a b => by simp [up, real, W6 bs k a, W6 bs k b]
 | .agg cs => by simp [up, real, W6 bs k cs]
 | .tup vs => by simp [up, real, W6 bs k vs]
 | .ifc t v => by simp [up, real, real_up bs k v]
 | .raw v => by simp [up, real]
theorem W6 (bs : Nat → Nat) (k : Nat) : ∀ l, A8 bs (ups k l) = A8 (fun i => bs (i + k)) l
 | [] => by simp [ups, A8]
 | v :: vs => by simp [ups, A8, real_up bs k v, W6 bs k vs]
end
mutual
theorem closed_up {n k : Nat} : ∀ v, closed n v → closed (n + k) (up k v)
 | .any, _ => by simp [up, closed]
 | .int _ _, _ => by simp [up, closed]
 | .bool _, _ => by simp [up, closed]
 | .str _, _ => by simp [up, closed]
 | .ptr i off, h => by simp only [up, closed] at h ⊢; omega
 | .sl i off len cap, h => by simp only [up, closed] at h ⊢; omega
 | .mp i, h => by simp only [up, closed] at h ⊢; omega
 | .fn f a b, h => by simp only [up, closed] at h ⊢; exact ⟨P0 a h.1, P0 b h.2⟩
 | .agg cs, h => by simp only [up, closed] at h ⊢; exact P0 cs h
 | .tup vs, h => by simp only [up, closed] at h ⊢; exact P0 vs h
 | .ifc t v, h => by simp only [up, closed] at h ⊢; exact closed_up v h
 | .raw v, _ => by simp [up, closed]
theorem P0 {n k : Nat} : ∀ l, A0 n l → A0 (n + k) (ups k l)
 | [], _ => by simp [ups, A0]
 | v :: vs, h => by simp only [ups, A0] at h ⊢; exact ⟨closed_up v h.1, P0 vs h.2⟩
end
def EObj.up (k : Nat) : EObj → EObj
 | .cells cs T fr => .cells (ups k cs) T fr
 | .obj o => .obj o
theorem EObj.real_up (bs : Nat → Nat) (k : Nat) (o : EObj) : (o.up k).real bs = o.real (fun i => bs (i + k)) := by
 cases o <;> simp [EObj.up, EObj.real, W6]
theorem EObj.closed_up {n k : Nat} (o : EObj) (h : o.closed n) : (o.up k).closed (n + k) := by
 cases o <;> simp_all [EObj.up, EObj.closed, P0]
/-- It returns v; the blocks os are new; of what was there nothing has turned. -/
def Cs9 (v : EV) (os : List EObj) (w : World) (e : Ending) (w' : World) : Prop :=
 ∃ bs, e = .returned (real bs v) ∧ Below w.heap.size w w' ∧ (∀ i o, os[i]? = some o → w.heap.size ≤ bs i ∧ w'.heap[bs i]? = some (o.real bs)) ∧ (∀ i j, i < os.length → j < os.length → bs i = bs j → i = j)
def U8 (k : Nat) : Nat → List EObj → List (Nat × Option EObj) → List (Nat × Option EObj)
 | _, [], hs => hs
 | n, o :: os, hs => U8 k (n + 1) os ((n, some (o.up k)) :: hs)
theorem Af4 (k : Nat) : ∀ (os : List EObj) (n : Nat) (hs : List (Nat × Option EObj)) (i : Nat), hget (U8 k n os hs) i = if n ≤ i ∧ i < n + os.length then (os[i - n]?).map (EObj.up k) else hget hs i
 | [], n, hs, i => by
  simp only [U8, List.length_nil, Nat.add_zero]
  rw [if_neg (by omega)]
 | o :: os, n, hs, i => by
  rw [U8, Af4 k os (n + 1), List.length_cons, C0]
  by_cases e : n = i
  ·subst e
   rw [if_neg (by omega), if_pos rfl, if_pos (by omega)]; simp
  ·rw [if_neg e]
   by_cases h : n + 1 ≤ i ∧ i < n + 1 + os.length
   ·rw [if_pos h, if_pos (by omega), show i - n = (i - (n + 1)) + 1 by omega]; simp
   ·rw [if_neg h, if_neg (by omega)]
theorem Ax0 {P : Program} {f : FuncId} {fn : Func} {c : Code} {w : World} (v0 : EV) (os : List EObj) (args : List EV)
  (hf : P.funcs[f]? = some fn) (hb : fn.body = some c) (hin : C5 fn.ntmps c = true) (hl : args.length ≤ fn.ntmps) (hcl : A0 0 args)
  (h : Next (cx0 P fn.ntmps w) (Bn4 (cx0 P fn.ntmps w) fn.results.toList (fun v x => x.B = base w ∧ v = v0 ∧ ∀ i o, os[i]? = some o → hget x.hs i = some o)) [.c c] ⟨argσ 0 args, 0, [], base w, []⟩) :
  Calls P f (A8 (fun _ => 0) args).toArray w (Cs9 v0 os w) := by
 have := N4 (C := cx0 P fn.ntmps w) (K := fun v x => x.B = base w ∧ v = v0 ∧ ∀ i o, os[i]? = some o → hget x.hs i = some o) rfl hf hb rfl hin hl (HRel.start (fun _ => 0)) hcl h
 refine this.mono ?_
 rintro e w' ⟨v, x', bs', rfl, _, hh, hB, rfl, hk⟩
 rw [hB] at hh
 refine ⟨bs', rfl, hh.below, fun i o ho => ⟨?_, (hh.live i o (hk i o ho)).2⟩, fun i j hi hj hb => ?_⟩
 ·have := hh.new i o (hk i o ho)
  simp only [base] at this; omega
 ·exact hh.inj i j _ _ (hk i _ (List.getElem?_eq_getElem hi)) (hk j _ (List.getElem?_eq_getElem hj)) hb
theorem Bm3 {C : Cx} {f : FuncId} {args : List EV} {x : X} {K : EV → Nat → List (Nat × Option EObj) → Prop} (v : EV) (os : List EObj) (hcl : closed os.length v) (hos : ∀ o ∈ os, o.closed os.length)
  (h : ∀ bs w, HRel C x.B x.n x.hs bs w → Calls C.P f (A8 bs args).toArray w (Cs9 v os w))
  (hk : K (up x.n v) (os.length + x.n) (U8 x.n x.n os x.hs)) : Bx7 C f args x K := by
 intro bs w hh _
 refine (h bs w hh).mono ?_
 rintro e w' ⟨bs', rfl, hb, hnew, hinj⟩
 obtain ⟨bs2, hbs2⟩ : ∃ bs2 : Nat → Nat, bs2 = fun i => if i < x.n then bs i else bs' (i - x.n) := ⟨_, rfl⟩
 have hlow : ∀ i, i < x.n → bs2 i = bs i := fun i hi => by rw [hbs2]; simp [hi]
 have hup : (fun i => bs2 (i + x.n)) = bs' := by funext i; rw [hbs2]; simp [show ¬ i + x.n < x.n by omega]
 have hhi : ∀ i, x.n ≤ i → bs2 i = bs' (i - x.n) := fun i hi => by rw [hbs2]; simp [Nat.not_lt.2 hi]
 have hl := hh.later hb
 -- each Bm1 is an old one or a new one
 have hent : ∀ i o, hget (U8 x.n x.n os x.hs) i = some o → (i < x.n ∧ hget x.hs i = some o) ∨ (x.n ≤ i ∧ i - x.n < os.length ∧ ∃ o', os[i - x.n]? = some o' ∧ o = o'.up x.n) := by
  intro i o hi
  rw [Af4] at hi
  split at hi
  ·rename_i hc
   obtain ⟨o', ho', rfl⟩ := Option.map_eq_some_iff.1 hi
   exact .inr ⟨hc.1, by omega, o', ho', rfl⟩
  ·exact .inl ⟨(hh.live i o hi).1, hi⟩
 refine ⟨up x.n v, os.length + x.n, U8 x.n x.n os x.hs, bs2, by rw [real_up, hup], hlow, by omega, closed_up v hcl, ?_, hk⟩
 refine ⟨?_, ?_, ?_, ?_, ?_, hl.frame, hl.os, hl.tape, hl.output, hl.hsize, ?_, hl.frameE, hl.apart, hl.eo⟩
 ·intro i o hi
  rcases hent i o hi with ⟨h1, h2⟩ | ⟨h1, h2, o', h3, rfl⟩
  ·refine ⟨by omega, ?_⟩
   rw [hlow i h1, EObj.real_congr hlow o (hh.cl i o h2)]
   exact (hl.live i o h2).2
  ·refine ⟨by omega, ?_⟩
   rw [hhi i h1, EObj.real_up, hup]
   exact (hnew _ _ h3).2
 ·intro i o hi
  rcases hent i o hi with ⟨h1, h2⟩ | ⟨h1, h2, o', h3, rfl⟩
  ·exact EObj.closed_mono (by omega) o (hh.cl i o h2)
  ·exact EObj.closed_up o' (hos o' (List.mem_of_getElem? h3))
 ·intro i j oi oj hi hj hbb
  rcases hent i oi hi with ⟨h1, h2⟩ | ⟨h1, h2, o', h3, rfl⟩ <;> rcases hent j oj hj with ⟨k1, k2⟩ | ⟨k1, k2, o'', k3, rfl⟩
  ·rw [hlow i h1, hlow j k1] at hbb
   exact hh.inj i j oi oj h2 k2 hbb
  ·rw [hlow i h1, hhi j k1] at hbb
   have := G3 (hh.live i oi h2).2
   have := (hnew _ _ k3).1
   omega
  ·rw [hhi i h1, hlow j k1] at hbb
   have := G3 (hh.live j oj k2).2
   have := (hnew _ _ h3).1
   omega
  ·rw [hhi i h1, hhi j k1] at hbb
   have := hinj _ _ h2 k2 hbb
   omega
 ·intro i b hi
  obtain ⟨h1, h2⟩ := hh.old i b hi
  exact ⟨by rw [hlow i h2]; exact h1, by omega⟩
 ·intro i o hi
  rcases hent i o hi with ⟨h1, h2⟩ | ⟨h1, h2, o', h3, rfl⟩
  ·rw [hlow i h1]; exact hh.new i o h2
  ·rw [hhi i h1]
   intro hD
   have := (hh.frame _ hD).1
   have := (hnew _ _ h3).1
   omega
 ·intro i o hi
  rcases hent i o hi with ⟨h1, h2⟩ | ⟨h1, h2, o', h3, rfl⟩
  ·rw [hlow i h1]; exact hh.newE i o h2
  ·rw [hhi i h1]
   intro hD
   have := (hh.frameE _ hD).1
   have := (hnew _ _ h3).1
   omega
theorem W1 {C : Cx} {Q : Exit → X → Prop} {f : FuncId} {args : List EV} {dst : Option Tmp} {st : List It} {x : X} (v : EV) (os : List EObj) (hE : C6 C.P f) (hcl : closed os.length v) (hos : ∀ o ∈ os, o.closed os.length)
  (h : ∀ bs w, HRel C x.B x.n x.hs bs w → Calls C.P f (A8 bs args).toArray w (Cs9 v os w))
  (hk : Next C Q st { σ := put x.σ dst (up x.n v), n := os.length + x.n, hs := U8 x.n x.n os x.hs, B := x.B, ms := x.ms }) : W3 C Q f args dst st x :=
 fun _ => .inl (.inl ⟨hE, Bm3 v os hcl hos h hk⟩)
attribute [go_sem] up ups EObj.up U8
end Go.Ew
namespace Go.Ew
theorem Cr9 (W : World) : (base W).w = W := rfl
theorem Cs0 (W : World) (b : Nat) : (base W).D b = (b < W.heap.size) := rfl
attribute [go_sem] Cr9 Cs0
end Go.Ew
attribute [go_sem] Go.Ew.assignQ Go.Ew.binds Go.Ew.roundQ
namespace Go.Ew
open Go
/-- n cells of kind k. -/
def C8 (k : IntKind) (x : Nat → Int) (n : Nat) : List EV := (List.range n).map fun i => EV.int k (x i)
def Ar6 (k : IntKind) (x : Nat → Int) (n : Nat) : List Value := (List.range n).map fun i => Value.int k (x i)
def Bp2 (x : Nat → Int) (i : Nat) (v : Int) : Nat → Int := fun j => if j = i then v else x j
theorem X3 (k : IntKind) (x : Nat → Int) (n : Nat) : (C8 k x n).length = n := by simp [C8]
theorem Aj0 (k : IntKind) (x : Nat → Int) (n : Nat) : (Ar6 k x n).length = n := by simp [Ar6]
theorem Ca8 {k : IntKind} {x : Nat → Int} {n i : Nat} (h : i < n) : (C8 k x n).getD i .any = .int k (x i) := by
 simp [C8, List.getD_eq_getElem?_getD, h]
theorem Ca7 (k : IntKind) (x : Nat → Int) (n i : Nat) (v : Int) : (C8 k x n).set i (.int k v) = C8 k (Bp2 x i v) n := by
 apply List.ext_getElem?
 intro j
 simp only [C8, List.getElem?_set, List.getElem?_map, List.length_map, List.length_range, Bp2]
 by_cases e : i = j
 ·subst e
  by_cases h : i < n <;> simp [h]
 ·simp only [e, if_false]
  by_cases h : j < n
  ·simp [h, show ¬ j = i from fun h => e h.symm]
  ·simp [h]
theorem Bt0 (k : IntKind) (x : Nat → Int) (n : Nat) : (C8 k x n).take n = C8 k x n := List.take_of_length_le (by simp [C8])
theorem Ai4 (k : IntKind) (x : Nat → Int) (n : Nat) : H8 (C8 k x n) = true := by
 have : ∀ l : List Nat, H8 (l.map fun i => EV.int k (x i)) = true := by
  intro l; induction l with
  | nil => rfl
  | cons a l ih => simp [H8, EV.one, ih]
 exact this _
theorem W7 (bs : Nat → Nat) (k : IntKind) (x : Nat → Int) (n : Nat) : A8 bs (C8 k x n) = Ar6 k x n := by
 rw [A9]; simp [C8, Ar6, Function.comp_def, real]
theorem A2 (m : Nat) (k : IntKind) (x : Nat → Int) (n : Nat) : A0 m (C8 k x n) := by
 rw [D8]; intro v hv
 obtain ⟨i, _, rfl⟩ := List.mem_map.1 hv
 trivial
theorem X4 {k : IntKind} {x y : Nat → Int} {n : Nat} (h : ∀ i, i < n → x i = y i) : C8 k x n = C8 k y n :=
 List.map_congr_left fun i hi => by rw [h i (by simpa using hi)]
theorem Y6 (k : IntKind) (x y : Nat → Int) (n : Nat) : H7 (C8 k x n) 0 (C8 k y n) = C8 k y n := by
 unfold H7
 split
 ·rename_i v he
  have hn : n = 1 := by have := congrArg List.length he; simpa [C8] using this
  subst hn
  simp only [C8, List.range_one, List.map_cons, List.map_nil, List.cons.injEq] at he ⊢
  simp [he.1]
 ·simp [C8, List.drop_eq_nil_of_le]
attribute [go_sem] X3 Ca8 Ca7 Bt0 Ai4
attribute [go_sem] Y6
end Go.Ew
attribute [go_sem] List.append_eq
