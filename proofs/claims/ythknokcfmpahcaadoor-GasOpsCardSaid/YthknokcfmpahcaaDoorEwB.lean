/- What one operation that writes no memory makes of an abstract state. -/
import Derived.Test.YthknokcfmpahcaaDoorEwA
import Derived.ChangeKeysEq
import Derived.Laws.StructEq
set_option linter.unusedSimpArgs false
set_option linter.unusedVariables false
namespace Go.Ew
open Go

theorem run_underlying (P : Program) (w : World) (t : TypeId) (d : TypeDesc) (h : P.underlying t = some d) : (underlying t).run P w = .ok d w := by
  simp [underlying, h]
theorem info_of_underlying {P : Program} {t : TypeId} {d : TypeDesc} (h : P.underlying t = some d) : ∃ i, P.info? t = some i := by
  unfold Program.underlying at h
  cases hi : P.info? t with
  | none => simp [hi] at h
  | some i => exact ⟨i, rfl⟩
theorem run_sizeOf' (P : Program) (w : World) (t : TypeId) (d : TypeDesc) (h : P.underlying t = some d) : (sizeOf t).run P w = .ok (P.cellsOf t) w := by
  obtain ⟨i, hi⟩ := info_of_underlying h
  simp [sizeOf, typeInfo, hi, Program.cellsOf]
/-- A type whose values take cells of their own. -/
def aggT (P : Program) (T : TypeId) : Option Bool :=
  match P.underlying T with
  | some (.struct _) => some true
  | some (.array _ _) => some true
  | some _ => some false
  | none => none
theorem run_isAgg (P : Program) (w : World) (t : TypeId) (b : Bool) (h : aggT P t = some b) : (isAgg t).run P w = .ok b w := by
  unfold aggT at h
  cases hu : P.underlying t with
  | none => simp [hu] at h
  | some d => cases d <;> simp [hu] at h <;> subst h <;> simp [isAgg, run_underlying _ _ _ _ hu]
theorem und_of_aggT {P : Program} {t : TypeId} {b : Bool} (h : aggT P t = some b) : ∃ d, P.underlying t = some d := by
  unfold aggT at h
  cases hu : P.underlying t with
  | none => simp [hu] at h
  | some d => exact ⟨d, rfl⟩

/-- Bits, shifts. -/
def bAnd (k : IntKind) (a b : Int) : Int := k.wrap (BitVec.ofInt k.bits a &&& BitVec.ofInt k.bits b).toNat
def bOr (k : IntKind) (a b : Int) : Int := k.wrap (BitVec.ofInt k.bits a ||| BitVec.ofInt k.bits b).toNat
def bXor (k : IntKind) (a b : Int) : Int := k.wrap (BitVec.ofInt k.bits a ^^^ BitVec.ofInt k.bits b).toNat
def bAndNot (k : IntKind) (a b : Int) : Int := k.wrap (BitVec.ofInt k.bits a &&& ~~~ BitVec.ofInt k.bits b).toNat
def bShl (k : IntKind) (a b : Int) : Int := k.wrap (a * 2 ^ (min b.toNat k.bits))
def bShr (k : IntKind) (a b : Int) : Int := a.fdiv (2 ^ (min b.toNat k.bits))
/-- Two numbers of one kind. -/
def arith (op : BinOp) (k : IntKind) (a b : Int) : Option (EV × Prop) :=
  match op with
  | .add => some (.int k (k.wrap (a + b)), True)
  | .sub => some (.int k (k.wrap (a - b)), True)
  | .mul => some (.int k (k.wrap (a * b)), True)
  | .quo => some (.int k (k.wrap (a.tdiv b)), b ≠ 0)
  | .rem => some (.int k (a.tmod b), b ≠ 0)
  | .and => some (.int k (bAnd k a b), True)
  | .or => some (.int k (bOr k a b), True)
  | .xor => some (.int k (bXor k a b), True)
  | .andNot => some (.int k (bAndNot k a b), True)
  | .eql => some (.bool (a == b), True)
  | .neq => some (.bool (a != b), True)
  | .lss => some (.bool (decide (a < b)), True)
  | .leq => some (.bool (decide (a ≤ b)), True)
  | .gtr => some (.bool (decide (a > b)), True)
  | .geq => some (.bool (decide (a ≥ b)), True)
  | _ => none
def shiftOf (op : BinOp) (k : IntKind) (a b : Int) : Option (EV × Prop) :=
  match op with
  | .shl => some (.int k (bShl k a b), 0 ≤ b)
  | .shr => some (.int k (bShr k a b), 0 ≤ b)
  | _ => none
def strOf (op : BinOp) (a b : ByteArray) : Option (EV × Prop) :=
  match op with
  | .add => some (.str (a ++ b), ((a.size + b.size : Nat) : Int) ≤ IntKind.i64.max)
  | .eql => some (.bool (a.toList == b.toList), True)
  | .neq => some (.bool (!(a.toList == b.toList)), True)
  | _ => none
/-- The numbers of an array of numbers. -/
def EV.isInt (k : IntKind) : EV → Bool
  | .int k' _ => k' == k
  | _ => false
def EV.num : EV → Int
  | .int _ n => n
  | _ => 0
/-- Arrays of numbers, compared. -/
def aggEq (P : Program) (T : TypeId) (xs ys : List EV) : Option (Bool × Prop) :=
  match P.underlying T with
  | some (.array len e) =>
    match P.underlying e with
    | some (.int k) => some (xs.map EV.num == ys.map EV.num, xs.length = len ∧ ys.length = len ∧ P.cellsOf e = 1 ∧ (xs.all (EV.isInt k) && ys.all (EV.isInt k)) = true)
    | _ => none
  | _ => none
def isNilSlice : Value → Bool
  | .slice none _ _ => true
  | _ => false
def binOf (P : Program) (op : BinOp) (T : TypeId) (x y : EV) : Option (EV × Prop) :=
  match x, y with
  | .int k a, .int k' b =>
    match op with
    | .shl => shiftOf .shl k a b
    | .shr => shiftOf .shr k a b
    | op => match arith op k a b with
      | some (v, c) => some (v, (k == k') = true ∧ c)
      | none => none
  | .bool a, .bool b =>
    match op with
    | .eql => some (.bool (a == b), P.underlying T = some .bool)
    | .neq => some (.bool (!(a == b)), P.underlying T = some .bool)
    | _ => none
  | .str a, .str b => strOf op a b
  | .agg xs, .agg ys =>
    match op with
    | .eql => match aggEq P T xs ys with
      | some (b, c) => some (.bool b, c)
      | none => none
    | .neq => match aggEq P T xs ys with
      | some (b, c) => some (.bool (!b), c)
      | none => none
    | _ => none
  | .sl _ _ _ _, .raw v =>
    match op, v with
    | .eql, .slice none _ _ => some (.bool false, ∃ e, P.underlying T = some (.slice e))
    | .neq, .slice none _ _ => some (.bool true, ∃ e, P.underlying T = some (.slice e))
    | _, _ => none
  | .raw (.slice a _ _), .raw v =>
    match op, v with
    | .eql, .slice none _ _ => some (.bool a.isNone, ∃ e, P.underlying T = some (.slice e))
    | .neq, .slice none _ _ => some (.bool (!a.isNone), ∃ e, P.underlying T = some (.slice e))
    | _, _ => none
  | _, _ => none

theorem arith_sound {P : Program} {w : World} {op : BinOp} {k : IntKind} {a b : Int} {v : EV} {c : Prop} {T : TypeId} (bs : Nat → Nat)
    (h : arith op k a b = some (v, c)) (hc : c) : (binOp op T (.int k a) (.int k b)).run P w = .ok (real bs v) w := by
  cases op <;> simp only [arith, Option.some.injEq, Prod.mk.injEq, reduceCtorEq] at h <;> obtain ⟨rfl, rfl⟩ := h <;>
    simp_all [binOp, real, Op.intArith, Op.intDiv, Op.intBits, Op.intCmp, bAnd, bOr, bXor, bAndNot]
theorem shift_sound {P : Program} {w : World} {op : BinOp} {k k' : IntKind} {a b : Int} {v : EV} {c : Prop} {T : TypeId} (bs : Nat → Nat)
    (h : shiftOf op k a b = some (v, c)) (hc : c) : (binOp op T (.int k a) (.int k' b)).run P w = .ok (real bs v) w := by
  cases op <;> simp only [shiftOf, Option.some.injEq, Prod.mk.injEq, reduceCtorEq] at h <;> obtain ⟨rfl, rfl⟩ := h <;>
    simp [binOp, real, Op.shift, bShl, bShr, show ¬ b < 0 by omega]
theorem str_sound {P : Program} {w : World} {op : BinOp} {a b : ByteArray} {v : EV} {c : Prop} {T : TypeId} (bs : Nat → Nat)
    (h : strOf op a b = some (v, c)) (hc : c) : (binOp op T (.string a) (.string b)).run P w = .ok (real bs v) w := by
  cases op <;> simp only [strOf, Option.some.injEq, Prod.mk.injEq, reduceCtorEq] at h <;> obtain ⟨rfl, rfl⟩ := h
  · have : ¬ (((a.size + b.size : Nat) : Int) > IntKind.i64.max) := by omega
    simp only [binOp, Op.stringOp, this, if_false]; simp [real]
  · simp [binOp, Op.stringOp, real]
  · simp [binOp, Op.stringOp, real]

theorem isInt_real {k : IntKind} {v : EV} (bs : Nat → Nat) (h : v.isInt k = true) : real bs v = .int k v.num := by
  cases v <;> simp_all [EV.isInt, real, EV.num]
theorem eqItems_ints (P : Program) (w : World) (d : Nat) (e : TypeId) (k : IntKind) (he : P.underlying e = some (.int k)) (bs : Nat → Nat) (xs ys : List EV)
    (hx : xs.all (EV.isInt k) = true) (hy : ys.all (EV.isInt k) = true) :
    ∀ (m j : Nat), j + m = xs.length → j + m = ys.length →
      (Op.eqItems (d + 1) e 1 (reals bs xs).toArray (reals bs ys).toArray (List.range' j m)).run P w = .ok ((xs.drop j).map EV.num == (ys.drop j).map EV.num) w
  | 0, j, h1, h2 => by
    rw [List.drop_eq_nil_of_le (by omega), List.drop_eq_nil_of_le (by omega)]
    simp [Op.eqItems]
  | m + 1, j, h1, h2 => by
    have l1 : j < xs.length := by omega
    have l2 : j < ys.length := by omega
    have ix := isInt_real bs (List.all_eq_true.1 hx _ (List.getElem_mem l1))
    have iy := isInt_real bs (List.all_eq_true.1 hy _ (List.getElem_mem l2))
    have ha : aggT P e = some false := by simp [aggT, he]
    have px : (part e (reals bs xs).toArray (j * 1)).run P w = .ok (.int k (xs[j]).num) w := by
      simp [part, run_isAgg P w e false ha, reals_eq, List.getElem?_eq_getElem l1, ix]
    have py : (part e (reals bs ys).toArray (j * 1)).run P w = .ok (.int k (ys[j]).num) w := by
      simp [part, run_isAgg P w e false ha, reals_eq, List.getElem?_eq_getElem l2, iy]
    have ih := eqItems_ints P w d e k he bs xs ys hx hy m (j + 1) (by omega) (by omega)
    rw [List.range'_succ, Op.eqItems]
    simp only [Sem.run_bind, px, py, Result.andThen_ok, run_equalIn_int w d e k k _ _ he]
    rw [List.drop_eq_getElem_cons l1, List.drop_eq_getElem_cons l2, List.map_cons, List.map_cons, List.cons_beq_cons]
    cases hb : (xs[j].num == ys[j].num)
    · simp
    · simp only [Bool.not_true, Bool.false_eq_true, if_false, Bool.true_and]
      exact ih
theorem aggEq_sound {P : Program} {w : World} {T : TypeId} {xs ys : List EV} {b : Bool} {c : Prop} (bs : Nat → Nat) (h : aggEq P T xs ys = some (b, c)) (hc : c) :
    (Op.equalIn 10000 T (.agg (reals bs xs).toArray) (.agg (reals bs ys).toArray)).run P w = .ok b w := by
  unfold aggEq at h
  cases hu : P.underlying T with
  | none => simp [hu] at h
  | some d =>
    cases d <;> simp only [hu, reduceCtorEq] at h
    rename_i len e
    cases he : P.underlying e with
    | none => simp [he] at h
    | some d' =>
      cases d' <;> simp only [he, reduceCtorEq] at h
      rename_i k
      simp only [Option.some.injEq, Prod.mk.injEq] at h
      obtain ⟨rfl, rfl⟩ := h
      obtain ⟨h1, h2, h3, h4⟩ := hc
      rw [Bool.and_eq_true] at h4
      obtain ⟨i, hi⟩ := info_of_underlying he
      rw [run_equalIn_array w 9999 _ _ hu hi, h3, List.range_eq_range']
      have := eqItems_ints P w 9998 e k he bs xs ys h4.1 h4.2 len 0 (by omega) (by omega)
      simpa using this
theorem equalIn_nil_slice {P : Program} (w : World) (d : Nat) {T e : TypeId} (he : P.underlying T = some (.slice e)) (a : Option Addr) (n c m k : Nat) :
    (Op.equalIn (d + 1) T (.slice a n c) (.slice none m k)).run P w = .ok a.isNone w := by
  cases a <;> simp [Op.equalIn, run_underlying _ _ _ _ he]
theorem eql_nil_slice {P : Program} (w : World) {T e : TypeId} (he : P.underlying T = some (.slice e)) (a : Option Addr) (n c m k : Nat) :
    (binOp .eql T (.slice a n c) (.slice none m k)).run P w = .ok (.bool a.isNone) w := by
  have h := equalIn_nil_slice w 9999 he a n c m k
  show ((do pure (Value.bool (← Op.equal T (.slice a n c) (.slice none m k))) : Sem Value)).run P w = _
  simp only [Sem.run_bind, Op.equal, Op.maxDepth, h, Result.andThen_ok, Sem.run_pure]
theorem neq_nil_slice {P : Program} (w : World) {T e : TypeId} (he : P.underlying T = some (.slice e)) (a : Option Addr) (n c m k : Nat) :
    (binOp .neq T (.slice a n c) (.slice none m k)).run P w = .ok (.bool (!a.isNone)) w := by
  have h := equalIn_nil_slice w 9999 he a n c m k
  show ((do pure (Value.bool (!(← Op.equal T (.slice a n c) (.slice none m k)))) : Sem Value)).run P w = _
  simp only [Sem.run_bind, Op.equal, Op.maxDepth, h, Result.andThen_ok, Sem.run_pure]
theorem binOf_sound {P : Program} {w : World} {op : BinOp} {T : TypeId} {x y : EV} {v : EV} {c : Prop} (bs : Nat → Nat)
    (h : binOf P op T x y = some (v, c)) (hc : c) : (binOp op T (real bs x) (real bs y)).run P w = .ok (real bs v) w := by
  unfold binOf at h
  split at h
  · rename_i k a k' b
    simp only [real]
    split at h
    · exact shift_sound bs h hc
    · exact shift_sound bs h hc
    · rename_i op h1 h2
      split at h
      · rename_i v' c' ha
        simp only [Option.some.injEq, Prod.mk.injEq] at h
        obtain ⟨rfl, rfl⟩ := h
        have hk : k = k' := by simpa using hc.1
        subst hk
        exact arith_sound bs ha hc.2
      · simp at h
  · simp only [real]
    split at h <;> simp only [Option.some.injEq, Prod.mk.injEq, reduceCtorEq] at h
    · obtain ⟨rfl, rfl⟩ := h
      simp [binOp, Op.equal, Op.maxDepth, run_equalIn_bool' w 9999 T _ _ hc, real]
    · obtain ⟨rfl, rfl⟩ := h
      simp [binOp, Op.equal, Op.maxDepth, run_equalIn_bool' w 9999 T _ _ hc, real]
  · simp only [real]
    exact str_sound bs h hc
  · simp only [real]
    split at h
    · split at h
      · rename_i ha
        simp only [Option.some.injEq, Prod.mk.injEq] at h
        obtain ⟨rfl, rfl⟩ := h
        rw [run_eql_struct, aggEq_sound bs ha hc]; rfl
      · simp at h
    · split at h
      · rename_i ha
        simp only [Option.some.injEq, Prod.mk.injEq] at h
        obtain ⟨rfl, rfl⟩ := h
        rw [run_neq_struct, aggEq_sound bs ha hc]; rfl
      · simp at h
    · simp at h
  · simp only [real]
    split at h <;> simp only [Option.some.injEq, Prod.mk.injEq, reduceCtorEq] at h
    · obtain ⟨rfl, rfl⟩ := h; obtain ⟨e, he⟩ := hc
      exact eql_nil_slice w he _ _ _ _ _
    · obtain ⟨rfl, rfl⟩ := h; obtain ⟨e, he⟩ := hc
      exact neq_nil_slice w he _ _ _ _ _
  · simp only [real]
    split at h <;> simp only [Option.some.injEq, Prod.mk.injEq, reduceCtorEq] at h
    · obtain ⟨rfl, rfl⟩ := h; obtain ⟨e, he⟩ := hc
      exact eql_nil_slice w he _ _ _ _ _
    · obtain ⟨rfl, rfl⟩ := h; obtain ⟨e, he⟩ := hc
      exact neq_nil_slice w he _ _ _ _ _
  · simp at h
theorem binOf_closed {P : Program} {op : BinOp} {T : TypeId} {x y : EV} {v : EV} {c : Prop} (n : Nat) (h : binOf P op T x y = some (v, c)) : closed n v := by
  unfold binOf at h
  split at h
  · split at h
    · simp only [shiftOf, Option.some.injEq, Prod.mk.injEq] at h; obtain ⟨rfl, _⟩ := h; trivial
    · simp only [shiftOf, Option.some.injEq, Prod.mk.injEq] at h; obtain ⟨rfl, _⟩ := h; trivial
    · split at h
      · rename_i ha
        simp only [Option.some.injEq, Prod.mk.injEq] at h
        obtain ⟨rfl, _⟩ := h
        unfold arith at ha
        split at ha <;> simp only [Option.some.injEq, Prod.mk.injEq, reduceCtorEq] at ha <;> (obtain ⟨rfl, _⟩ := ha; trivial)
      · simp at h
  · split at h <;> simp only [Option.some.injEq, Prod.mk.injEq, reduceCtorEq] at h <;> (obtain ⟨rfl, _⟩ := h; trivial)
  · unfold strOf at h
    split at h <;> simp only [Option.some.injEq, Prod.mk.injEq, reduceCtorEq] at h <;> (obtain ⟨rfl, _⟩ := h; trivial)
  · split at h
    · split at h <;> simp only [Option.some.injEq, Prod.mk.injEq, reduceCtorEq] at h; obtain ⟨rfl, _⟩ := h; trivial
    · split at h <;> simp only [Option.some.injEq, Prod.mk.injEq, reduceCtorEq] at h; obtain ⟨rfl, _⟩ := h; trivial
    · simp at h
  · split at h <;> simp only [Option.some.injEq, Prod.mk.injEq, reduceCtorEq] at h <;> (obtain ⟨rfl, _⟩ := h; trivial)
  · split at h <;> simp only [Option.some.injEq, Prod.mk.injEq, reduceCtorEq] at h <;> (obtain ⟨rfl, _⟩ := h; trivial)
  · simp at h
end Go.Ew
