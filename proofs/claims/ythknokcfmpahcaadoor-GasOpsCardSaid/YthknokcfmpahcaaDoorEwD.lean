/- Operations that only compute or read, all together. -/
import Derived.Test.YthknokcfmpahcaaDoorEwC
set_option linter.unusedSimpArgs false
set_option linter.unusedVariables false
namespace Go.Ew
open Go

/-! ### slices of slices, of arrays, of strings -/
def bnd (o : Option EV) (d : Nat) : Option (Nat × Prop) :=
  match o with
  | none => some (d, True)
  | some (.int _ i) => some (i.toNat, 0 ≤ i)
  | _ => none
theorem bnd_run {P : Program} {w : World} {bs : Nat → Nat} {o : Option EV} {d k : Nat} {c : Prop} (h : bnd o d = some (k, c)) (hc : c) (y : Nat) (hy : o.isSome = true → k ≤ y) (code : BoundsCode) :
    (match o.map (real bs) with | some v => Instr.sliceBound v y code | none => pure d : Sem Nat).run P w = .ok k w := by
  unfold bnd at h
  split at h
  · simp only [Option.some.injEq, Prod.mk.injEq] at h; obtain ⟨rfl, _⟩ := h; rfl
  · rename_i k' i
    simp only [Option.some.injEq, Prod.mk.injEq] at h; obtain ⟨rfl, rfl⟩ := h
    have h1 := hy rfl
    have : 0 ≤ i ∧ i ≤ (y : Int) := by omega
    simp [Instr.sliceBound, real, asIntOf, this]
  · simp at h
theorem bounds_run {P : Program} {w : World} {bs : Nat → Nat} {lo hi mx : Option EV} {len cap l h m : Nat} {cl ch cm : Prop} (isS : Bool)
    (h1 : bnd mx cap = some (m, cm)) (h2 : bnd hi len = some (h, ch)) (h3 : bnd lo 0 = some (l, cl)) (c1 : cm) (c2 : ch) (c3 : cl)
    (hm : m ≤ cap) (hh : h ≤ m) (hl : l ≤ h) (hx : mx.isSome = true → hi.isSome = true) :
    (Instr.sliceBounds isS len cap (lo.map (real bs)) (hi.map (real bs)) (mx.map (real bs))).run P w = .ok (l, h, m) w := by
  have r1 := fun code => bnd_run (P := P) (w := w) (bs := bs) h1 c1 cap (fun _ => hm) code
  have r2 := fun code => bnd_run (P := P) (w := w) (bs := bs) h2 c2 m (fun _ => hh) code
  have r3 := fun code => bnd_run (P := P) (w := w) (bs := bs) h3 c3 h (fun _ => hl) code
  cases mx with
  | none =>
    simp only [bnd, Option.some.injEq, Prod.mk.injEq] at h1
    obtain ⟨rfl, _⟩ := h1
    cases hi with
    | none =>
      simp only [bnd, Option.some.injEq, Prod.mk.injEq] at h2
      obtain ⟨rfl, _⟩ := h2
      cases lo with
      | none =>
        simp only [bnd, Option.some.injEq, Prod.mk.injEq] at h3
        obtain ⟨rfl, _⟩ := h3
        simp [Instr.sliceBounds]
      | some lo => simp only [Option.map_some] at r3; simp [Instr.sliceBounds, r3]
    | some hi =>
      simp only [Option.map_some] at r2
      cases lo with
      | none =>
        simp only [bnd, Option.some.injEq, Prod.mk.injEq] at h3
        obtain ⟨rfl, _⟩ := h3
        simp [Instr.sliceBounds, r2]
      | some lo => simp only [Option.map_some] at r3; simp [Instr.sliceBounds, r2, r3]
  | some mx =>
    cases hi with
    | none => simp at hx
    | some hi =>
      simp only [Option.map_some] at r1 r2
      cases lo with
      | none =>
        simp only [bnd, Option.some.injEq, Prod.mk.injEq] at h3
        obtain ⟨rfl, _⟩ := h3
        simp [Instr.sliceBounds, r1, r2]
      | some lo => simp only [Option.map_some] at r3; simp [Instr.sliceBounds, r1, r2, r3]
def sliceOf (P : Program) (T : TypeId) (x : EV) (lo hi mx : Option EV) : Option (EV × Prop) :=
  match P.underlying T with
  | some (.array len e) =>
    match bnd mx len, bnd hi len, bnd lo 0 with
    | some (m, cm), some (h, ch), some (l, cl) =>
      match x with
      | .ptr b off => some (.sl b (if m = l then off else off + l * P.cellsOf e) (h - l) (m - l), (cm ∧ ch ∧ cl) ∧ (m ≤ len ∧ h ≤ m ∧ l ≤ h) ∧ (mx.isSome = true → hi.isSome = true) ∧ ∃ d, P.underlying e = some d)
      | .raw (.pointer (some a)) => some (.raw (.slice (some (if m = l then a else a.add (l * P.cellsOf e))) (h - l) (m - l)), (cm ∧ ch ∧ cl) ∧ (m ≤ len ∧ h ≤ m ∧ l ≤ h) ∧ (mx.isSome = true → hi.isSome = true) ∧ ∃ d, P.underlying e = some d)
      | _ => none
    | _, _, _ => none
  | some (.slice e) =>
    match x with
    | .sl b off len cap =>
      match bnd mx cap, bnd hi len, bnd lo 0 with
      | some (m, cm), some (h, ch), some (l, cl) => some (.sl b (if m = l then off else off + l * P.cellsOf e) (h - l) (m - l), (cm ∧ ch ∧ cl) ∧ (m ≤ cap ∧ h ≤ m ∧ l ≤ h) ∧ (mx.isSome = true → hi.isSome = true) ∧ ∃ d, P.underlying e = some d)
      | _, _, _ => none
    | .raw (.slice a len cap) =>
      match bnd mx cap, bnd hi len, bnd lo 0 with
      | some (m, cm), some (h, ch), some (l, cl) => some (.raw (.slice (if m = l then a else a.map (·.add (l * P.cellsOf e))) (h - l) (m - l)), (cm ∧ ch ∧ cl) ∧ (m ≤ cap ∧ h ≤ m ∧ l ≤ h) ∧ (mx.isSome = true → hi.isSome = true) ∧ ∃ d, P.underlying e = some d)
      | _, _, _ => none
    | _ => none
  | some .string =>
    match x with
    | .str s =>
      match mx, bnd hi s.size, bnd lo 0 with
      | none, some (h, ch), some (l, cl) => some (.str (s.extract l h), (ch ∧ cl) ∧ h ≤ s.size ∧ l ≤ h)
      | _, _, _ => none
    | _ => none
  | _ => none
theorem sliceOf_sound {P : Program} {w : World} {bs : Nat → Nat} {n : Nat} {T : TypeId} {x v : EV} {lo hi mx : Option EV} {c : Prop} (h : sliceOf P T x lo hi mx = some (v, c)) (hc : c) (hcl : closed n x) :
    (Instr.sliceAt T (real bs x) (lo.map (real bs)) (hi.map (real bs)) (mx.map (real bs))).run P w = .ok (real bs v) w ∧ closed n v := by
  unfold sliceOf at h
  split at h
  · rename_i len e hu
    split at h
    · rename_i m cm hh ch l cl h1 h2 h3
      split at h
      · simp only [Option.some.injEq, Prod.mk.injEq] at h
        obtain ⟨rfl, rfl⟩ := h
        obtain ⟨⟨c1, c2, c3⟩, ⟨b1, b2, b3⟩, hx, d, hd⟩ := hc
        have hr := bounds_run (P := P) (w := w) (bs := bs) false h1 h2 h3 c1 c2 c3 b1 b2 b3 hx
        refine ⟨?_, by simpa [closed] using hcl⟩
        simp only [Instr.sliceAt, Sem.run_bind, run_underlying _ _ _ _ hu, Result.andThen_ok, real, Instr.sureAddr, Sem.run_pure, hr, run_sizeOf' _ _ _ _ hd]
        split <;> simp [add_spot]
      · simp only [Option.some.injEq, Prod.mk.injEq] at h
        obtain ⟨rfl, rfl⟩ := h
        obtain ⟨⟨c1, c2, c3⟩, ⟨b1, b2, b3⟩, hx, d, hd⟩ := hc
        have hr := bounds_run (P := P) (w := w) (bs := bs) false h1 h2 h3 c1 c2 c3 b1 b2 b3 hx
        refine ⟨?_, trivial⟩
        simp only [Instr.sliceAt, Sem.run_bind, run_underlying _ _ _ _ hu, Result.andThen_ok, real, Instr.sureAddr, Sem.run_pure, hr, run_sizeOf' _ _ _ _ hd]
      · simp at h
    · simp at h
  · rename_i e hu
    split at h
    · split at h
      · rename_i m cm hh ch l cl h1 h2 h3
        simp only [Option.some.injEq, Prod.mk.injEq] at h
        obtain ⟨rfl, rfl⟩ := h
        obtain ⟨⟨c1, c2, c3⟩, ⟨b1, b2, b3⟩, hx, d, hd⟩ := hc
        have hr := bounds_run (P := P) (w := w) (bs := bs) true h1 h2 h3 c1 c2 c3 b1 b2 b3 hx
        refine ⟨?_, by simpa [closed] using hcl⟩
        simp only [Instr.sliceAt, Instr.slice, Sem.run_bind, run_underlying _ _ _ _ hu, Result.andThen_ok, real, Sem.run_pure, hr, run_sizeOf' _ _ _ _ hd]
        split <;> simp [add_spot]
      · simp at h
    · split at h
      · rename_i m cm hh ch l cl h1 h2 h3
        simp only [Option.some.injEq, Prod.mk.injEq] at h
        obtain ⟨rfl, rfl⟩ := h
        obtain ⟨⟨c1, c2, c3⟩, ⟨b1, b2, b3⟩, hx, d, hd⟩ := hc
        have hr := bounds_run (P := P) (w := w) (bs := bs) true h1 h2 h3 c1 c2 c3 b1 b2 b3 hx
        refine ⟨?_, trivial⟩
        simp only [Instr.sliceAt, Instr.slice, Sem.run_bind, run_underlying _ _ _ _ hu, Result.andThen_ok, real, Sem.run_pure, hr, run_sizeOf' _ _ _ _ hd]
      · simp at h
    · simp at h
  · rename_i hu
    split at h
    · rename_i s
      split at h
      · rename_i hh ch l cl h2 h3
        simp only [Option.some.injEq, Prod.mk.injEq] at h
        obtain ⟨rfl, rfl⟩ := h
        obtain ⟨⟨c2, c3⟩, b2, b3⟩ := hc
        have hr := bounds_run (P := P) (w := w) (bs := bs) (mx := none) (m := s.size) (cap := s.size) (cm := True) false rfl h2 h3 trivial c2 c3 (Nat.le_refl _) b2 b3 (by simp)
        refine ⟨?_, trivial⟩
        simp only [Option.map_none] at hr
        simp [Instr.sliceAt, Instr.slice, run_underlying _ _ _ _ hu, real, hr]
      · simp at h
    · simp at h
  · simp at h

/-! ### numbers, tuples, functions -/
def unOf (op : UnOp) (x : EV) : Option EV :=
  match op, x with
  | .neg, .int k n => some (.int k (k.wrap (0 - n)))
  | .xor, .int k n => some (.int k (bXor k (if k.signed then -1 else k.max) n))
  | .not, .bool b => some (.bool (!b))
  | _, _ => none
theorem unOf_sound {P : Program} {w : World} {bs : Nat → Nat} {n : Nat} {op : UnOp} {x v : EV} (h : unOf op x = some v) : (Op.unary op (real bs x)).run P w = .ok (real bs v) w ∧ closed n v := by
  unfold unOf at h
  split at h <;> simp only [Option.some.injEq, reduceCtorEq] at h <;> subst h
  · exact ⟨by simp [Op.unary, Op.intArith, real], trivial⟩
  · exact ⟨by simp only [Op.unary, Op.intBits, real]; rfl, trivial⟩
  · exact ⟨by simp [Op.unary, real], trivial⟩
def convOf (P : Program) (s d : TypeId) (x : EV) : Option EV :=
  match P.underlying s, P.underlying d, x with
  | some (.int _), some (.int k), .int _ n => some (.int k (k.wrap n))
  | some .string, some .string, .str t => some (.str t)
  | _, _, _ => none
theorem convOf_sound {P : Program} {w : World} {bs : Nat → Nat} {n : Nat} {s d : TypeId} {x v : EV} (h : convOf P s d x = some v) : (convert s d (real bs x)).run P w = .ok (real bs v) w ∧ closed n v := by
  unfold convOf at h
  split at h
  · rename_i h1 h2
    simp only [Option.some.injEq] at h; subst h
    exact ⟨by simp [convert, run_underlying _ _ _ _ h1, run_underlying _ _ _ _ h2, real, Conv.intToInt], trivial⟩
  · rename_i h1 h2
    simp only [Option.some.injEq] at h; subst h
    exact ⟨by simp [convert, run_underlying _ _ _ _ h1, run_underlying _ _ _ _ h2, real], trivial⟩
  · simp at h
def extractOf (x : EV) (i : Nat) : Option (EV × Prop) :=
  match x with
  | .tup vs => some (vs.getD i .any, i < vs.length)
  | _ => none
theorem extractOf_sound {P : Program} {w : World} {bs : Nat → Nat} {n : Nat} {x v : EV} {i : Nat} {c : Prop} (h : extractOf x i = some (v, c)) (hc : c) (hcl : closed n x) :
    (Instr.extract (real bs x) i).run P w = .ok (real bs v) w ∧ closed n v := by
  unfold extractOf at h
  split at h
  · simp only [Option.some.injEq, Prod.mk.injEq] at h
    obtain ⟨rfl, rfl⟩ := h
    rename_i vs
    have e : vs.getD i .any = vs[i] := by simp [List.getD, List.getElem?_eq_getElem hc]
    rw [e]
    exact ⟨by simp [Instr.extract, real, reals_eq, List.getElem?_eq_getElem hc], closeds_mem (by simpa [closed] using hcl) (List.getElem_mem hc)⟩
  · simp at h

/-! ### len, cap, min, max -/
def lenOf (P : Program) (T : TypeId) (x : EV) : Option EV :=
  match P.underlying T with
  | some .string => match x with
    | .str s => some (.int .i64 s.size)
    | _ => none
  | some (.array n _) => some (.int .i64 n)
  | some (.slice _) => match x with
    | .sl _ _ n _ => some (.int .i64 n)
    | .raw (.slice _ n _) => some (.int .i64 n)
    | _ => none
  | _ => none
theorem lenOf_sound {P : Program} {w : World} {bs : Nat → Nat} {n : Nat} {T ty : TypeId} {x v : EV} (h : lenOf P T x = some v) : (Builtin.len_ #[T] ty #[real bs x]).run P w = .ok (real bs v) w ∧ closed n v := by
  unfold lenOf at h
  split at h
  · rename_i hu
    split at h <;> simp only [Option.some.injEq, reduceCtorEq] at h
    subst h; exact ⟨by simp [Builtin.len_, run_underlying _ _ _ _ hu, real, goInt], trivial⟩
  · rename_i hu
    simp only [Option.some.injEq] at h
    subst h; exact ⟨by simp [Builtin.len_, run_underlying _ _ _ _ hu, real, goInt], trivial⟩
  · rename_i hu
    split at h <;> simp only [Option.some.injEq, reduceCtorEq] at h
    · subst h; exact ⟨by simp [Builtin.len_, run_underlying _ _ _ _ hu, real, goInt], trivial⟩
    · subst h; exact ⟨by simp [Builtin.len_, run_underlying _ _ _ _ hu, real, goInt], trivial⟩
  · simp at h
def minOf : List EV → Option EV
  | [.int k x, .int _ y] => some (.int k (if y < x then y else x))
  | _ => none
def maxOf : List EV → Option EV
  | [.int k x, .int _ y] => some (.int k (if y > x then y else x))
  | _ => none
theorem minOf_sound {P : Program} {w : World} {bs : Nat → Nat} {n : Nat} {Ts : Array TypeId} {ty : TypeId} {xs : List EV} {v : EV} (h : minOf xs = some v) : (Builtin.min_ Ts ty (reals bs xs).toArray).run P w = .ok (real bs v) w ∧ closed n v := by
  unfold minOf at h
  split at h <;> simp only [Option.some.injEq, reduceCtorEq] at h
  subst h; exact ⟨by simp [Builtin.min_, Builtin.min2, reals, real], trivial⟩
theorem maxOf_sound {P : Program} {w : World} {bs : Nat → Nat} {n : Nat} {Ts : Array TypeId} {ty : TypeId} {xs : List EV} {v : EV} (h : maxOf xs = some v) : (Builtin.max_ Ts ty (reals bs xs).toArray).run P w = .ok (real bs v) w ∧ closed n v := by
  unfold maxOf at h
  split at h <;> simp only [Option.some.injEq, reduceCtorEq] at h
  subst h; exact ⟨by simp [Builtin.max_, Builtin.max2, reals, real], trivial⟩

/-! ### values put together -/
/-- cs with c put in from place off on. -/
def splice (cs : List EV) (off : Nat) (c : List EV) : List EV :=
  match c with
  | [v] => cs.set off v
  | c => cs.take off ++ c ++ cs.drop (off + c.length)
def efill (place : Nat → Option (Nat × Nat)) (cells : List EV) : List (Nat × EV) → Option (List EV)
  | [] => some cells
  | (i, v) :: rest =>
    match place i with
    | none => none
    | some (off, size) =>
      bif v.cells.length != size || decide (off + v.cells.length > cells.length) then none
      else efill place (splice cells off v.cells) rest
theorem splice_eq (cs : List EV) (off : Nat) (c : List EV) (h : off + c.length ≤ cs.length) : splice cs off c = cs.take off ++ c ++ cs.drop (off + c.length) := by
  unfold splice
  split
  · rename_i v
    simp only [List.length_cons, List.length_nil] at h ⊢
    rw [List.set_eq_take_append_cons_drop, if_pos (by omega)]
    simp
  · rfl
theorem splice_length (cs : List EV) (off : Nat) (c : List EV) (h : off + c.length ≤ cs.length) : (splice cs off c).length = cs.length := by
  rw [splice_eq cs off c h]; simp; omega
theorem splice_closeds {n : Nat} {cs c : List EV} {off : Nat} (h1 : closeds n cs) (h2 : closeds n c) : closeds n (splice cs off c) := by
  rw [closeds_iff] at *
  unfold splice
  split
  · rename_i v
    intro u hu
    rcases List.mem_or_eq_of_mem_set hu with h | h
    · exact h1 u h
    · subst h; exact h2 u (by simp)
  · intro u hu
    simp only [List.mem_append] at hu
    rcases hu with (h | h) | h
    · exact h1 u (List.mem_of_mem_take h)
    · exact h2 u h
    · exact h1 u (List.mem_of_mem_drop h)
theorem zipIdx_fold (cs : Array Value) : ∀ (c : List Value) (off j : Nat), off + j + c.length ≤ cs.size →
    (c.zipIdx j).foldl (fun cs (x, j) => cs.setIfInBounds (off + j) x) cs = (cs.toList.take (off + j) ++ c ++ cs.toList.drop (off + j + c.length)).toArray := by
  intro c
  induction c generalizing cs with
  | nil => intro off j h; simp
  | cons x c ih =>
    intro off j h
    simp only [List.length_cons] at h
    rw [List.zipIdx_cons, List.foldl_cons, ih _ off (j + 1) (by simp; omega)]
    simp only [Array.toList_setIfInBounds, List.length_cons]
    apply Array.ext'
    simp only
    apply List.ext_getElem?
    intro q
    simp only [List.getElem?_append, List.getElem?_take, List.getElem?_drop, List.length_append, List.length_take, List.length_set, List.getElem?_set, List.length_cons, Array.length_toList]
    by_cases hq : q < off + j
    · have : off + j ≠ q := by omega
      simp [hq, this, show q < off + (j + 1) by omega, show q < min (off + (j+1)) cs.size by omega, show q < min (off+j) cs.size by omega,
        show q < min (off + (j + 1)) cs.size + c.length by omega, show q < min (off + j) cs.size + (c.length + 1) by omega]
    · by_cases hq1 : q = off + j
      · subst hq1
        simp [show off + j < off + (j + 1) by omega, show off + j < min (off + (j + 1)) cs.size by omega, show ¬ off + j < min (off + j) cs.size by omega,
          show off + j < min (off + (j + 1)) cs.size + c.length by omega, show off + j < min (off + j) cs.size + (c.length + 1) by omega, show off + j < cs.size by omega,
          show off + j - min (off + j) cs.size = 0 by omega]
      · have e1 : ¬ q < min (off + (j + 1)) cs.size := by omega
        have e2 : ¬ q < min (off + j) cs.size := by omega
        by_cases hq2 : q < off + j + (c.length + 1)
        · simp [e1, e2, show q < min (off + (j + 1)) cs.size + c.length by omega, show q < min (off + j) cs.size + (c.length + 1) by omega]
          rw [show q - min (off + j) cs.size = (q - min (off + (j + 1)) cs.size) + 1 by omega]
          simp
        · simp [e1, e2, show ¬ q < min (off + (j + 1)) cs.size + c.length by omega, show ¬ q < min (off + j) cs.size + (c.length + 1) by omega]
          have e3 : off + (j + 1) + c.length + (q - (min (off + (j + 1)) cs.size + c.length)) = off + j + (c.length + 1) + (q - (min (off + j) cs.size + (c.length + 1))) := by omega
          rw [e3]
          have : off + j ≠ off + j + (c.length + 1) + (q - (min (off + j) cs.size + (c.length + 1))) := by omega
          simp [this]
theorem efill_sound {bs : Nat → Nat} {n : Nat} (place : Nat → Option (Nat × Nat)) : ∀ (parts : List (Nat × EV)) (cells out : List EV), efill place cells parts = some out → closeds n cells → (∀ p ∈ parts, closed n p.2 ∧ ∀ u, p.2 ≠ .raw u ∨ p.2.one = true) →
    Instr.fill place (reals bs cells).toArray (parts.map fun p => (p.1, real bs p.2)) = some (reals bs out).toArray ∧ closeds n out
  | [], cells, out, h, hc, _ => by
    simp only [efill, Option.some.injEq] at h; subst h; exact ⟨rfl, hc⟩
  | (i, v) :: rest, cells, out, h, hc, hp => by
    simp only [efill] at h
    cases hpl : place i with
    | none => simp [hpl] at h
    | some os =>
      obtain ⟨off, size⟩ := os
      simp only [hpl] at h
      cases hb : (v.cells.length != size || decide (off + v.cells.length > cells.length)) with
      | true => simp [hb] at h
      | false =>
        simp only [hb, cond_false] at h
        simp only [Bool.or_eq_false_iff, bne_eq_false_iff_eq, decide_eq_false_iff_not] at hb
        have hv := hp (i, v) (by simp)
        have hcv : closeds n v.cells := closeds_cells hv.1
        obtain ⟨r1, r2⟩ := efill_sound place rest _ out h (splice_closeds hc hcv) (fun p hp' => hp p (by simp [hp']))
        refine ⟨?_, r2⟩
        have hrc : (real bs v).cells = (reals bs v.cells).toArray := by
          cases v with
          | raw u =>
            have : u.oneCell' = true := by
              rcases hv.2 u with h | h
              · exact absurd rfl h
              · exact h
            cases u <;> simp_all [real, EV.cells, Value.cells, reals, Value.oneCell']
          | _ => exact real_cells bs _ (by intro u; simp)
        have hsz : (real bs v).cells.size = v.cells.length := by rw [hrc]; simp [reals_eq]
        rw [List.map_cons, Instr.fill]
        simp only [hpl]
        have hno : ((decide ((real bs v).cells.size ≠ size)) || decide (off + (real bs v).cells.size > (reals bs cells).toArray.size)) = false := by
          rw [hsz]; simp [reals_eq]; omega
        rw [if_neg (by simpa using hno)]
        have hz : (real bs v).cells.zipIdx.foldl (fun cs (x : Value × Nat) => cs.setIfInBounds (off + x.2) x.1) (reals bs cells).toArray = (reals bs (splice cells off v.cells)).toArray := by
          have := zipIdx_fold (reals bs cells).toArray (reals bs v.cells) off 0 (by simp [reals_eq]; omega)
          rw [hrc, ← Array.foldl_toList, Array.toList_zipIdx]
          simp only [Nat.add_zero] at this
          rw [this, splice_eq _ _ _ (by omega)]
          simp [reals_eq, List.map_append, List.map_take, List.map_drop]
        rw [hz]
        exact r1
/-- The zero value's cells. -/
def zeroOf (P : Program) (T : TypeId) : Option (List EV) :=
  match P.info? T with
  | some i => match i.zero with
    | some z => some (z.cells.toList.map ofScalar)
    | none => none
  | none => none
theorem zeroOf_run {P : Program} {w : World} {T : TypeId} {zs : List EV} (bs : Nat → Nat) (n : Nat) (h : zeroOf P T = some zs) :
    ∃ z, (zeroValue T).run P w = .ok z w ∧ z.cells = (reals bs zs).toArray ∧ closeds n zs := by
  unfold zeroOf at h
  split at h
  · rename_i i hi
    split at h
    · rename_i z hz
      simp only [Option.some.injEq] at h; subst h
      exact ⟨z, by simp [zeroValue, typeInfo, hi, hz], by simp [reals_ofScalars], closeds_ofScalars _ _⟩
    · simp at h
  · simp at h
/-- The places of a struct's fields. -/
def placesOf (P : Program) : List Field → Option (List (Nat × Nat))
  | [] => some []
  | f :: fs => match P.underlying f.type, placesOf P fs with
    | some _, some r => some ((f.offset, P.cellsOf f.type) :: r)
    | _, _ => none
theorem placesOf_run {P : Program} {w : World} : ∀ (fs : List Field) (r : List (Nat × Nat)), placesOf P fs = some r →
    (fs.mapM fun f => (do pure (f.offset, ← sizeOf f.type) : Sem (Nat × Nat))).run P w = .ok r w
  | [], r, h => by simp only [placesOf, Option.some.injEq] at h; subst h; simp
  | f :: fs, r, h => by
    simp only [placesOf] at h
    cases hi : P.underlying f.type with
    | none => simp [hi] at h
    | some i =>
      cases hr : placesOf P fs with
      | none => simp [hi, hr] at h
      | some r' =>
        simp only [hi, hr, Option.some.injEq] at h; subst h
        have ih := placesOf_run (w := w) fs r' hr
        have e := run_sizeOf' P w f.type _ hi
        rw [List.mapM_cons]
        simp only [Sem.run_bind, Sem.run_pure, e, Result.andThen_ok, ih]
def evs (σ : List (Nat × EV)) : List (Nat × Operand) → List (Nat × EV)
  | [] => []
  | (i, o) :: r => (i, ev σ o) :: evs σ r
def onesP : List (Nat × EV) → Bool
  | [] => true
  | (_, v) :: r => (match v with
    | .any => false
    | .tup _ => false
    | .raw u => u.oneCell'
    | _ => true) && onesP r
def buildOf (P : Program) (T : TypeId) (parts : List (Nat × EV)) : Option EV :=
  match zeroOf P T with
  | none => none
  | some zs =>
    bif onesP parts then
      match P.underlying T with
      | some (.struct fields) => match placesOf P fields.toList with
        | none => none
        | some pl => match efill (fun (i : Nat) => pl[i]?) zs parts with
          | some cs => some (.agg cs)
          | none => none
      | some (.array _ e) => match P.underlying e with
        | none => none
        | some _ => match efill (fun i => some (i * P.cellsOf e, P.cellsOf e)) zs parts with
          | some cs => some (.agg cs)
          | none => none
      | _ => none
    else none
theorem onesP_spec : ∀ {parts : List (Nat × EV)}, onesP parts = true → ∀ p ∈ parts, p.2 ≠ .any ∧ ∀ u, p.2 ≠ .raw u ∨ p.2.one = true
  | [], _, p, hp => by simp at hp
  | (i, v) :: r, h, p, hp => by
    simp only [onesP, Bool.and_eq_true] at h
    rcases List.mem_cons.1 hp with rfl | hp
    · refine ⟨fun e => ?_, fun u => ?_⟩
      · simp only at e; subst e; simp at h
      · by_cases e : v = .raw u
        · subst e; right; exact h.1
        · left; exact e
    · exact onesP_spec h.2 p hp
theorem buildOf_sound {P : Program} {w : World} {bs : Nat → Nat} {n : Nat} {T : TypeId} {parts : List (Nat × EV)} {v : EV} (h : buildOf P T parts = some v) (hcl : ∀ p ∈ parts, closed n p.2) :
    (Instr.build T (parts.map fun p => (p.1, real bs p.2)).toArray).run P w = .ok (real bs v) w ∧ closed n v := by
  unfold buildOf at h
  split at h
  · simp at h
  · rename_i zs hz
    cases ho : onesP parts with
    | false => simp [ho] at h
    | true =>
      simp only [ho, cond_true] at h
      have hsp := onesP_spec ho
      have hp : ∀ p ∈ parts, closed n p.2 ∧ ∀ u, p.2 ≠ .raw u ∨ p.2.one = true := fun p hp => ⟨hcl p hp, (hsp p hp).2⟩
      obtain ⟨z, z1, z2, z3⟩ := zeroOf_run (w := w) bs n hz
      split at h
      · rename_i fields hu
        split at h
        · simp at h
        · rename_i pl hpl
          split at h
          · rename_i cs he
            simp only [Option.some.injEq] at h; subst h
            obtain ⟨f1, f2⟩ := efill_sound (bs := bs) (n := n) _ parts zs cs he z3 hp
            refine ⟨?_, by simpa [closed] using f2⟩
            have hm := placesOf_run (w := w) fields.toList pl hpl
            have hm' : (fields.mapM fun f => (do pure (f.offset, ← sizeOf f.type) : Sem (Nat × Nat))).run P w = .ok pl.toArray w := by
              rw [Array.mapM_eq_mapM_toList, Sem.run_map, hm]; rfl
            simp only [Instr.build, Sem.run_bind, z1, Result.andThen_ok, run_underlying _ _ _ _ hu, hm', z2, real]
            have : (fun (i : Nat) => pl.toArray[i]?) = (fun (i : Nat) => pl[i]?) := by funext i; simp
            rw [this, f1]; rfl
          · simp at h
      · rename_i len e hu
        split at h
        · simp at h
        · rename_i ie hi
          split at h
          · rename_i cs he
            simp only [Option.some.injEq] at h; subst h
            obtain ⟨f1, f2⟩ := efill_sound (bs := bs) (n := n) _ parts zs cs he z3 hp
            refine ⟨?_, by simpa [closed] using f2⟩
            have e := run_sizeOf' P w e _ hi
            simp only [Instr.build, Sem.run_bind, z1, Result.andThen_ok, run_underlying _ _ _ _ hu, e, z2, real, f1]; rfl
          · simp at h
      · simp at h
end Go.Ew
