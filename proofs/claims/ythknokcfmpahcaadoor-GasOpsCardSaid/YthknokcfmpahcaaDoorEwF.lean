/- Operations that make blocks, and stores. -/
import Derived.Test.YthknokcfmpahcaaDoorEwE
set_option linter.unusedSimpArgs false
set_option linter.unusedVariables false
namespace Go.Ew
open Go RowKit

/-! ### a new block -/
def upd (bs : Nat → Nat) (n b : Nat) : Nat → Nat := fun i => if i = n then b else bs i
theorem upd_lt {bs : Nat → Nat} {n b : Nat} : ∀ i, i < n → upd bs n b i = bs i := fun i hi => by simp [upd, Nat.ne_of_lt hi]
theorem upd_self {bs : Nat → Nat} {n b : Nat} : upd bs n b n = b := by simp [upd]
theorem EObj.real_congr {n : Nat} {bs bs' : Nat → Nat} (h : ∀ i, i < n → bs' i = bs i) : ∀ o : EObj, o.closed n → o.real bs' = o.real bs
  | .cells cs T fr, hc => by simp only [EObj.real, reals_congr h cs hc]
  | .obj o, _ => rfl
theorem EObj.closed_mono {n m : Nat} (h : n ≤ m) : ∀ o : EObj, o.closed n → o.closed m
  | .cells cs T fr, hc => closeds_mono h cs hc
  | .obj o, _ => trivial
theorem heap_lt {w : World} {b : Nat} {o : Obj} (h : w.heap[b]? = some o) : b < w.heap.size := by
  rcases Nat.lt_or_ge b w.heap.size with hl | hl
  · exact hl
  · rw [Array.getElem?_eq_none hl] at h; simp at h
theorem hget_cons (i j : Nat) (o : Option EObj) (hs : List (Nat × Option EObj)) : hget ((i, o) :: hs) j = if i = j then o else hget hs j := by
  by_cases h : i = j
  · subst h; simp [hget]
  · rw [if_neg h]; simp only [hget]; rw [beq_false_of_ne h]; rfl
theorem HRel.alloc {C : Cx} {n : Nat} {B : Base} {hs : List (Nat × Option EObj)} {bs : Nat → Nat} {w : World} (h : HRel C B n hs bs w) (o : EObj) (ho : o.closed n) :
    HRel C B (n + 1) ((n, some o) :: hs) (upd bs n w.heap.size) { w with heap := w.heap.push (o.real bs) } := by
  have hlt : ∀ i o, hget hs i = some o → i < n ∧ bs i < w.heap.size := fun i o hi => ⟨(h.live i o hi).1, heap_lt (h.live i o hi).2⟩
  refine ⟨?_, ?_, ?_, ?_, ?_, ?_, h.os, h.tape, h.output, ?_, ?_, ?_, h.apart, by have := h.eo.1; simp; omega, h.eo.2⟩
  · intro i o' hi
    rw [hget_cons] at hi
    by_cases e : n = i
    · subst e
      simp only [if_true, Option.some.injEq] at hi; subst hi
      refine ⟨by omega, ?_⟩
      rw [upd_self, EObj.real_congr upd_lt o ho]; simp
    · rw [if_neg e] at hi
      obtain ⟨l1, l2⟩ := hlt i o' hi
      refine ⟨by omega, ?_⟩
      rw [upd_lt i l1, EObj.real_congr upd_lt o' (h.cl i o' hi)]
      show (w.heap.push _)[bs i]? = _
      rw [Array.getElem?_push, if_neg (by omega)]; exact (h.live i o' hi).2
  · intro i o' hi
    rw [hget_cons] at hi
    by_cases e : n = i
    · rw [if_pos e, Option.some.injEq] at hi; subst hi; exact EObj.closed_mono (by omega) o ho
    · rw [if_neg e] at hi; exact EObj.closed_mono (by omega) o' (h.cl i o' hi)
  · intro i j oi oj hi hj hb
    rw [hget_cons] at hi hj
    by_cases ei : n = i
    · by_cases ej : n = j
      · omega
      · rw [if_neg ej] at hj
        obtain ⟨l1, l2⟩ := hlt j oj hj
        rw [← ei, upd_self, upd_lt j l1] at hb; omega
    · rw [if_neg ei] at hi
      obtain ⟨l1, l2⟩ := hlt i oi hi
      by_cases ej : n = j
      · rw [← ej, upd_self, upd_lt i l1] at hb; omega
      · rw [if_neg ej] at hj
        obtain ⟨l3, l4⟩ := hlt j oj hj
        rw [upd_lt i l1, upd_lt j l3] at hb
        exact h.inj i j oi oj hi hj hb
  · intro i b hi
    obtain ⟨h1, h2⟩ := h.old i b hi
    exact ⟨by rw [upd_lt i h2]; exact h1, by omega⟩
  · intro i o' hi
    rw [hget_cons] at hi
    by_cases e : n = i
    · subst e; rw [upd_self]; intro hD; have := (h.frame _ hD).1; omega
    · rw [if_neg e] at hi
      rw [upd_lt i (hlt i o' hi).1]; exact h.new i o' hi
  · intro k hk
    obtain ⟨h1, h2⟩ := h.frame k hk
    refine ⟨by simp; omega, ?_⟩
    show (w.heap.push _)[k]? = _
    rw [Array.getElem?_push, if_neg (by omega)]; exact h2
  · show B.w.heap.size ≤ (w.heap.push _).size
    have := h.hsize; simp; omega
  · intro i o' hi
    rw [hget_cons] at hi
    by_cases e : n = i
    · subst e; rw [upd_self]; intro hD; have := (h.frameE _ hD).1; omega
    · rw [if_neg e] at hi
      rw [upd_lt i (hlt i o' hi).1]; exact h.newE i o' hi
  · intro k hk
    obtain ⟨h1, h2⟩ := h.frameE k hk
    refine ⟨by simp; omega, ?_⟩
    show (w.heap.push _)[k]? = _
    rw [Array.getElem?_push, if_neg (by omega)]; exact h2

/-- zs, n times over. -/
def rep (n : Nat) (zs : List EV) : List EV := (List.replicate n zs).flatten
theorem rep_one (n : Nat) (z : EV) : rep n [z] = List.replicate n z := by simp [rep]
theorem rep_length (n : Nat) (zs : List EV) : (rep n zs).length = n * zs.length := by simp [rep]
theorem rep_get {n : Nat} {zs : List EV} {i : Nat} (hi : i < n * zs.length) : (rep n zs)[i]? = zs[i % zs.length]? := by
  induction n generalizing i with
  | zero => omega
  | succ n ih =>
    have e : rep (n + 1) zs = zs ++ rep n zs := by simp [rep, List.replicate_succ]
    rw [e, List.getElem?_append]
    by_cases hl : i < zs.length
    · rw [if_pos hl, Nat.mod_eq_of_lt hl]
    · have hi' : i < n * zs.length + zs.length := by rw [← Nat.succ_mul]; exact hi
      rw [if_neg hl, ih (by omega), ← Nat.mod_eq_sub_mod (by omega)]
theorem rep_closeds {n m : Nat} {zs : List EV} (h : closeds m zs) : closeds m (rep n zs) := by
  rw [closeds_iff] at *
  intro v hv
  simp only [rep, List.mem_flatten, List.mem_replicate] at hv
  obtain ⟨l, ⟨_, rfl⟩, hl⟩ := hv
  exact h v hl
theorem range_rep {bs : Nat → Nat} {n : Nat} {zs : List EV} (z : Array Value) (hz : z = (reals bs zs).toArray) (hne : zs ≠ []) :
    (Array.range (n * zs.length)).map (z[· % z.size]!) = (reals bs (rep n zs)).toArray := by
  subst hz
  have hpos : 0 < zs.length := List.length_pos_iff.2 hne
  apply Array.ext'
  apply List.ext_getElem?
  intro i
  by_cases hi : i < n * zs.length
  · have hm : i % zs.length < zs.length := Nat.mod_lt _ hpos
    simp only [reals_eq, Array.toList_map, Array.toList_range, List.getElem?_map, List.getElem?_range hi, Option.map_some, rep_get hi, List.getElem?_eq_getElem hm, List.size_toArray, List.length_map]
    simp [hm]
  · rw [List.getElem?_eq_none (by simp; omega), List.getElem?_eq_none (by simp [reals_eq, rep_length]; omega)]

/-- What a new block holds, and the value that tells of it. -/
def allocOf (C : Cx) (x : X) (op : Op) : Option (EV × EObj × Prop) :=
  match op with
  | .alloc T => match zeroOf C.P T with
    | some zs => some (.ptr x.n 0, .cells zs T (0, 0), True)
    | none => none
  | .box T a => match ev x.σ a with
    | .any => none
    | .raw u => some (.ptr x.n 0, .cells [.raw u] T (0, 0), u.oneCell' = true)
    | v => some (.ptr x.n 0, .cells v.cells T (0, 0), True)
  | .buildSlice T len parts =>
    match C.P.underlying T with
    | some (.slice e) =>
      match zeroOf C.P e with
      | some zs =>
        bif onesP (evs x.σ parts.toList) then
          match efill (fun i => some (i * zs.length, zs.length)) (rep len zs) (evs x.σ parts.toList) with
          | some cs => some (.sl x.n 0 len len, .cells cs e (0, 0), (len * zs.length ≤ 16777216 ∧ zs ≠ []) ∧ C.P.cellsOf e = zs.length)
          | none => none
        else none
      | none => none
    | _ => none
  | .makeSlice T l c =>
    match C.P.underlying T, ev x.σ l, ev x.σ c with
    | some (.slice e), .int _ l, .int _ c =>
      match zeroOf C.P e with
      | some zs => some (.sl x.n 0 l.toNat c.toNat, .cells (rep c.toNat zs) e (0, 0), (0 ≤ l ∧ l ≤ c ∧ c < 9223372036854775808 ∧ C.P.bytesOf e * c ≤ 281474976710656 ∧ zs ≠ []) ∧ C.P.cellsOf e = zs.length)
      | none => none
    | _, _, _ => none
  | _ => none
theorem wrap_i64_of {c : Int} (h0 : 0 ≤ c) (h1 : c < 9223372036854775808) : IntKind.i64.wrap c = c := by
  simp [IntKind.wrap, IntKind.bits, IntKind.signed]
  omega
theorem allocOf_sound {C : Cx} {x : X} {bs : Nat → Nat} {a : Act} {w : World} (hr : Rel C x bs a w) {o : Oper} {v : EV} {ob : EObj} {c : Prop} (h : allocOf C x o.op = some (v, ob, c)) (hc : c) :
    (execOp a.eval o).run C.P w = .ok (.value (real (upd bs x.n w.heap.size) v)) { w with heap := w.heap.push (ob.real bs) } ∧ closed (x.n + 1) v ∧ ob.closed x.n := by
  have ht := hr.t
  obtain ⟨dst, op, type, pos, after, guard⟩ := o
  simp only at h
  unfold allocOf at h
  split at h
  · rename_i T
    split at h
    · rename_i zs hz
      simp only [Option.some.injEq, Prod.mk.injEq] at h; obtain ⟨rfl, rfl, rfl⟩ := h
      obtain ⟨z, z1, z2, z3⟩ := zeroOf_run (w := w) bs x.n hz
      refine ⟨?_, by simp [closed], z3⟩
      simp [execOp, Instr.alloc, z1, newVar, newRow, z2, real, upd_self, EObj.real]
    · simp at h
  · rename_i T y
    split at h
    · simp at h
    · rename_i u hu
      simp only [Option.some.injEq, Prod.mk.injEq] at h; obtain ⟨rfl, rfl, rfl⟩ := h
      have hy := eval_ev ht y (by rw [hu]; simp)
      rw [hu] at hy
      refine ⟨?_, by simp [closed], by simp [EObj.closed, closeds, closed]⟩
      have : u.cells = #[u] := by cases u <;> simp_all [Value.cells, Value.oneCell']
      simp [execOp, Instr.box, newVar, newRow, real, upd_self, EObj.real, reals, hy, this]
    · rename_i v' h1 h2
      simp only [Option.some.injEq, Prod.mk.injEq] at h; obtain ⟨rfl, rfl, rfl⟩ := h
      have hy := eval_ev ht y (by intro e; exact h1 e)
      refine ⟨?_, by simp [closed], closeds_cells (closed_ev ht y)⟩
      have := real_cells bs (ev x.σ y) (fun u e => h2 u e)
      simp [execOp, Instr.box, newVar, newRow, real, upd_self, EObj.real, hy, this]
  · rename_i T len parts
    split at h
    · rename_i e hu
      split at h
      · rename_i zs hz
        cases ho : onesP (evs x.σ parts.toList) with
        | false => simp [ho] at h
        | true =>
          simp only [ho, cond_true] at h
          split at h
          · rename_i cs he
            simp only [Option.some.injEq, Prod.mk.injEq] at h; obtain ⟨rfl, rfl, rfl⟩ := h
            obtain ⟨z, z1, z2, z3⟩ := zeroOf_run (w := w) bs x.n hz
            obtain ⟨e1, e2⟩ := evs_map ht parts.toList ho
            have hsp := onesP_spec ho
            obtain ⟨f1, f2⟩ := efill_sound (bs := bs) (n := x.n) _ _ _ cs he (rep_closeds z3) (fun p hp => ⟨e2 p hp, (hsp p hp).2⟩)
            obtain ⟨⟨hlen, hne⟩, hcz⟩ := hc
            refine ⟨?_, by simp [closed], f2⟩
            have hd : ∃ d, C.P.info? e = some d := by
              unfold zeroOf at hz; cases hi : C.P.info? e with
              | none => simp [hi] at hz
              | some i => exact ⟨i, rfl⟩
            obtain ⟨i, hi⟩ := hd
            have hsz : (sizeOf e).run C.P w = .ok zs.length w := by
              rw [← hcz]; simp [sizeOf, typeInfo, hi, Program.cellsOf]
            have e3 : (parts.map fun (i, x) => (i, a.eval x)) = ((evs x.σ parts.toList).map fun p => (p.1, real bs p.2)).toArray := by
              apply Array.ext'; simp [← e1]
            simp only [execOp, Instr.buildSlice, e3, Sem.run_bind, run_underlying _ _ _ _ hu, Result.andThen_ok, hsz, Sem.run_pure]
            rw [if_neg (by have : (2:Nat)^24 = 16777216 := by decide
                           omega)]
            by_cases h0 : len * zs.length = 0
            · have hpos : 0 < zs.length := List.length_pos_iff.2 hne
              have hl0 : len = 0 := by
                rcases Nat.mul_eq_zero.1 h0 with h | h
                · exact h
                · omega
              subst hl0
              have hrow : (Array.range (0 * zs.length)).map ((#[] : Array Value)[· % (#[] : Array Value).size]!) = (reals bs (rep 0 zs)).toArray := by simp [rep, reals]
              simp only [if_pos h0, Sem.run_bind, Sem.run_pure, Result.andThen_ok, hrow, f1]
              simp [newRow, real, upd_self, EObj.real]
            · have hrow := range_rep (bs := bs) (n := len) (zs := zs) _ rfl hne
              simp only [if_neg h0, Sem.run_bind, Sem.run_pure, z1, z2, Result.andThen_ok, hrow, f1]
              simp [newRow, real, upd_self, EObj.real]
          · simp at h
      · simp at h
    · simp at h
  · rename_i T l' c'
    split at h
    · rename_i e k l k' c hu hl hcv
      split at h
      · rename_i zs hz
        simp only [Option.some.injEq, Prod.mk.injEq] at h; obtain ⟨rfl, rfl, rfl⟩ := h
        obtain ⟨z, z1, z2, z3⟩ := zeroOf_run (w := w) bs x.n hz
        obtain ⟨⟨h0, hlc, hcm, hby, hne⟩, hcz⟩ := hc
        have hl' := eval_ev ht l' (by rw [hl]; simp)
        have hc' := eval_ev ht c' (by rw [hcv]; simp)
        rw [hl] at hl'; rw [hcv] at hc'
        refine ⟨?_, by simp [closed], rep_closeds z3⟩
        have hd : ∃ d, C.P.info? e = some d := by
          unfold zeroOf at hz; cases hi : C.P.info? e with
          | none => simp [hi] at hz
          | some i => exact ⟨i, rfl⟩
        obtain ⟨i, hi⟩ := hd
        have hsz : (sizeOf e).run C.P w = .ok zs.length w := by
          rw [← hcz]; simp [sizeOf, typeInfo, hi, Program.cellsOf]
        have hti : (typeInfo e).run C.P w = .ok i w := by simp [typeInfo, hi]
        have hib : (i.bytes : Int) * c ≤ 281474976710656 := by
          have : C.P.bytesOf e = i.bytes := by simp [Program.bytesOf, hi]
          rw [← this]; exact hby
        simp only [execOp, Instr.makeSlice, hl', hc', real, Sem.run_bind, run_underlying _ _ _ _ hu, Result.andThen_ok, asInt, asIntOf, Sem.run_pure, hti, wrap_i64_of h0 (show l < 9223372036854775808 by omega), wrap_i64_of (show 0 ≤ c by omega) hcm]
        have hcond : ((decide (c < 0) || decide ((i.bytes : Int) * c > 2 ^ 48)) || decide (l < 0) || decide (l > c)) = false := by
          have : (2 : Int) ^ 48 = 281474976710656 := by decide
          rw [this]; simp; omega
        rw [if_neg (by simpa using hcond)]
        simp only [Sem.run_bind, Sem.run_pure, Result.andThen_ok, run_askRoom, hsz]
        by_cases h0 : c.toNat * zs.length = 0
        · have hpos : 0 < zs.length := List.length_pos_iff.2 hne
          have hl0 : c.toNat = 0 := by
            rcases Nat.mul_eq_zero.1 h0 with h | h
            · exact h
            · omega
          have hrow : (Array.range (0 * zs.length)).map ((#[] : Array Value)[· % (#[] : Array Value).size]!) = (reals bs (rep 0 zs)).toArray := by simp [rep, reals]
          rw [if_pos h0]
          simp only [hl0, Sem.run_bind, Sem.run_pure, Result.andThen_ok, hrow]
          simp [newRow, real, upd_self, EObj.real]
        · have hrow := range_rep (bs := bs) (n := c.toNat) (zs := zs) _ rfl hne
          rw [if_neg h0]
          simp only [Sem.run_bind, Sem.run_pure, z1, z2, Result.andThen_ok, hrow]
          simp [newRow, real, upd_self, EObj.real]
      · simp at h
    · simp at h
  · simp at h
end Go.Ew
