/- Operations that only compute or read: what they yield. -/
import Derived.Test.YthknokcfmpahcaaDoorEwB
set_option linter.unusedSimpArgs false
set_option linter.unusedVariables false
namespace Go.Ew
open Go

/-! ### memory -/
theorem cell_of_heap {w : World} {b : Nat} {cs : Array Value} {T : TypeId} {fr : Nat × Nat} (h : w.heap[b]? = some (.cells cs T fr)) (off : Nat) : w.cell? ⟨b, off, none⟩ = cs[off]? := by
  simp [World.cell?, h]
theorem cell_frame {C : Cx} {n : Nat} {B : Base} {hs : List (Nat × Option EObj)} {bs : Nat → Nat} {w : World} (h : HRel C B n hs bs w) {a : Addr} (ho : B.D a.block) : w.cell? a = B.w.cell? a :=
  World.cell?_of_block (h.frame _ ho).2
theorem cell_lt {w : World} {a : Addr} (hc : (w.cell? a).isSome = true) : a.block < w.heap.size := by
  unfold World.cell? at hc
  rcases Nat.lt_or_ge a.block w.heap.size with hl | hl
  · exact hl
  · rw [Array.getElem?_eq_none hl] at hc; simp at hc
theorem add_spot (b off n : Nat) : (Addr.add ⟨b, off, none⟩ n) = ⟨b, off + n, none⟩ := by
  unfold Addr.add; split
  · rename_i h; subst h; rfl
  · rfl

/-- A load through an address of whatever make. -/
def rawCell (B : Base) (a : Addr) : EV := ofScalar ((B.w.cell? a).getD undef)
def loadOf (C : Cx) (B : Base) (hs : List (Nat × Option EObj)) (T : TypeId) (p : EV) : Option (EV × Prop) :=
  match p with
  | .ptr i off =>
    match hget hs i with
    | some (.cells cs _ _) =>
      match aggT C.P T with
      | some true => some (.agg ((cs.drop off).take (C.P.cellsOf T)), off + C.P.cellsOf T ≤ cs.length)
      | some false => some (cs.getD off .any, off < cs.length)
      | none => none
    | _ => none
  | .raw (.pointer (some a)) =>
    match aggT C.P T with
    | some true => some (.agg ((List.range (C.P.cellsOf T)).map fun j => rawCell B (a.add j)), B.D a.block ∧ ∀ j, j < C.P.cellsOf T → (B.w.cell? (a.add j)).isSome = true)
    | some false => some (rawCell B a, B.D a.block ∧ (B.w.cell? a).isSome = true)
    | none => none
  | _ => none
theorem closeds_mem {n : Nat} {l : List EV} (h : closeds n l) {v : EV} (hv : v ∈ l) : closed n v := (closeds_iff n l).1 h v hv
theorem loadOf_sound {C : Cx} {n : Nat} {B : Base} {hs : List (Nat × Option EObj)} {bs : Nat → Nat} {w : World} (h : HRel C B n hs bs w) {T : TypeId} {p v : EV} {c : Prop}
    (hl : loadOf C B hs T p = some (v, c)) (hc : c) : (Instr.loadAt T (real bs p)).run C.P w = .ok (real bs v) w ∧ closed n v := by
  unfold loadOf at hl
  split at hl
  · rename_i i off
    split at hl
    · rename_i cs T' fr hg
      obtain ⟨hi, hb⟩ := h.live i _ hg
      have hcl : closeds n cs := h.cl i _ hg
      simp only [EObj.real] at hb
      split at hl
      · rename_i ha
        simp only [Option.some.injEq, Prod.mk.injEq] at hl
        obtain ⟨rfl, rfl⟩ := hl
        obtain ⟨d, hd⟩ := und_of_aggT ha
        have hlen : ((cs.drop off).take (C.P.cellsOf T)).length = C.P.cellsOf T := by simp; omega
        have hrun := run_loadCells_list (P := C.P) w ⟨bs i, off, none⟩ (reals bs ((cs.drop off).take (C.P.cellsOf T))) (by
          intro j v hj
          rw [add_spot, cell_of_heap hb]
          rw [reals_eq] at hj
          simp only [List.getElem?_map, List.getElem?_take, List.getElem?_drop] at hj
          split at hj
          · simpa [reals_eq] using hj
          · simp at hj)
        rw [show (reals bs ((cs.drop off).take (C.P.cellsOf T))).length = C.P.cellsOf T by rw [reals_eq, List.length_map, hlen]] at hrun
        refine ⟨?_, ?_⟩
        · simp [Instr.loadAt, Instr.sureAddr, real, loadVar, run_isAgg _ _ _ _ ha, run_sizeOf' _ _ _ _ hd, hrun]
        · simp only [closed]
          rw [closeds_iff]
          intro v hv
          exact closeds_mem hcl (List.mem_of_mem_drop (List.mem_of_mem_take hv))
      · rename_i ha
        simp only [Option.some.injEq, Prod.mk.injEq] at hl
        obtain ⟨rfl, rfl⟩ := hl
        have e : cs.getD off .any = cs[off] := by simp [List.getD, List.getElem?_eq_getElem hc]
        rw [e]
        refine ⟨?_, closeds_mem hcl (List.getElem_mem hc)⟩
        have hcell : w.cell? ⟨bs i, off, none⟩ = some (real bs cs[off]) := by
          rw [cell_of_heap hb]; simp [reals_eq, List.getElem?_eq_getElem hc]
        simp [Instr.loadAt, Instr.sureAddr, real, loadVar, run_isAgg _ _ _ _ ha, hcell]
      · simp at hl
    · simp at hl
  · rename_i a
    split at hl
    · rename_i ha
      simp only [Option.some.injEq, Prod.mk.injEq] at hl
      obtain ⟨rfl, rfl⟩ := hl
      obtain ⟨d, hd⟩ := und_of_aggT ha
      obtain ⟨ho, hall⟩ := hc
      have hrun := run_loadCells (P := C.P) w a (C.P.cellsOf T) (fun j => (B.w.cell? (a.add j)).getD undef) (fun j hj => by
        have hs := hall j hj
        rw [cell_frame h (by rw [show (a.add j).block = a.block by unfold Addr.add; split <;> rfl]; exact ho)]
        cases hx : B.w.cell? (a.add j) with
        | none => rw [hx] at hs; simp at hs
        | some v => rfl)
      refine ⟨?_, ?_⟩
      · simp only [Instr.loadAt, Instr.sureAddr, real, loadVar, Sem.run_bind, Sem.run_pure, Result.andThen_ok, run_isAgg _ _ _ _ ha, if_true, run_sizeOf' _ _ _ _ hd, hrun]
        simp only [reals_eq, List.map_map]
        congr 3
        apply List.map_congr_left
        intro j _
        simp [rawCell, real_ofScalar]
      · simp only [closed]; rw [closeds_iff]; intro v hv
        obtain ⟨j, _, rfl⟩ := List.mem_map.1 hv
        exact closed_ofScalar _ _
    · rename_i ha
      simp only [Option.some.injEq, Prod.mk.injEq] at hl
      obtain ⟨rfl, rfl⟩ := hl
      obtain ⟨ho, hs⟩ := hc
      refine ⟨?_, closed_ofScalar _ _⟩
      have hcell := cell_frame h ho
      cases hx : B.w.cell? a with
      | none => rw [hx] at hs; simp at hs
      | some v =>
        rw [hx] at hcell
        simp [Instr.loadAt, Instr.sureAddr, real, loadVar, run_isAgg _ _ _ _ ha, hcell, rawCell, hx, real_ofScalar]
    · simp at hl
  · simp at hl

/-! ### parts of values -/
def partOf (P : Program) (T : TypeId) (cs : List EV) (off : Nat) : Option (EV × Prop) :=
  match aggT P T with
  | some true => some (.agg ((cs.drop off).take (P.cellsOf T)), True)
  | some false => some (cs.getD off .any, off < cs.length)
  | none => none
theorem partOf_sound {P : Program} {w : World} {bs : Nat → Nat} {n : Nat} {T : TypeId} {cs : List EV} {off : Nat} {v : EV} {c : Prop} (h : partOf P T cs off = some (v, c)) (hc : c) (hcl : closeds n cs) :
    (part T (reals bs cs).toArray off).run P w = .ok (real bs v) w ∧ closed n v := by
  unfold partOf at h
  split at h
  · rename_i ha
    simp only [Option.some.injEq, Prod.mk.injEq] at h
    obtain ⟨rfl, rfl⟩ := h
    obtain ⟨d, hd⟩ := und_of_aggT ha
    refine ⟨?_, ?_⟩
    · simp only [part, Sem.run_bind, run_isAgg _ _ _ _ ha, Result.andThen_ok, if_true, run_sizeOf' _ _ _ _ hd, Sem.run_pure]
      congr 2
      simp [reals_eq, List.map_drop, List.map_take, List.extract_eq_take_drop, real]
    · simp only [closed]; rw [closeds_iff]; intro v hv
      exact closeds_mem hcl (List.mem_of_mem_drop (List.mem_of_mem_take hv))
  · rename_i ha
    simp only [Option.some.injEq, Prod.mk.injEq] at h
    obtain ⟨rfl, rfl⟩ := h
    have e : cs.getD off .any = cs[off] := by simp [List.getD, List.getElem?_eq_getElem hc]
    rw [e]
    refine ⟨?_, closeds_mem hcl (List.getElem_mem hc)⟩
    simp [part, run_isAgg _ _ _ _ ha, reals_eq, List.getElem?_eq_getElem hc]
  · simp at h
def indexOf (P : Program) (T : TypeId) (x i : EV) : Option (EV × Prop) :=
  match i with
  | .int _ i =>
    match P.underlying T, x with
    | some (.array len e), .agg cs =>
      match partOf P e cs (i.toNat * P.cellsOf e) with
      | some (v, c) => some (v, (0 ≤ i ∧ i < len) ∧ c)
      | none => none
    | some .string, .str s => some (.int .u8 ((s.data.toList.getD i.toNat 0).toNat : Nat), 0 ≤ i ∧ i.toNat < s.size)
    | _, _ => none
  | _ => none
theorem indexOf_sound {P : Program} {w : World} {bs : Nat → Nat} {n : Nat} {T : TypeId} {x i v : EV} {c : Prop} (h : indexOf P T x i = some (v, c)) (hc : c) (hcl : closed n x) :
    (Instr.index T (real bs x) (real bs i)).run P w = .ok (real bs v) w ∧ closed n v := by
  unfold indexOf at h
  split at h
  · rename_i k i
    split at h
    · rename_i len e cs hu
      split at h
      · rename_i v' c' hp
        simp only [Option.some.injEq, Prod.mk.injEq] at h
        obtain ⟨rfl, rfl⟩ := h
        obtain ⟨hb, hc'⟩ := hc
        have hd : ∃ d, P.underlying e = some d := by
          unfold partOf at hp; cases ha : aggT P e with
          | none => simp [ha] at hp
          | some b => exact und_of_aggT ha
        obtain ⟨d, hd⟩ := hd
        obtain ⟨r1, r2⟩ := partOf_sound (w := w) (bs := bs) hp hc' (n := n) (by simpa [closed] using hcl)
        refine ⟨?_, r2⟩
        simp only [Instr.index, real, asIntOf, Sem.run_bind, Sem.run_pure, Result.andThen_ok, run_underlying _ _ _ _ hu]
        rw [if_pos hb]
        simp only [Sem.run_bind, run_sizeOf' _ _ _ _ hd, Result.andThen_ok, r1]
      · simp at h
    · rename_i s hu
      simp only [Option.some.injEq, Prod.mk.injEq] at h
      obtain ⟨rfl, rfl⟩ := h
      refine ⟨?_, trivial⟩
      have h1 : s[i.toNat]? = some (s.data.toList.getD i.toNat 0) := by
        have hh : i.toNat < s.data.size := hc.2
        rw [getElem?_pos s i.toNat hc.2]
        have e : s.data.toList.getD i.toNat 0 = s.data[i.toNat] := by
          rw [List.getD_eq_getElem?_getD, Array.getElem?_toList, Array.getElem?_eq_getElem hh]; rfl
        rw [e]; rfl
      simp only [Instr.index, real, asIntOf, Sem.run_bind, Sem.run_pure, Result.andThen_ok, run_underlying _ _ _ _ hu, if_pos hc.1, h1]
    · simp at h
  · simp at h
def fieldOf (P : Program) (T : TypeId) (x : EV) (f : Nat) : Option (EV × Prop) :=
  match P.underlying T, x with
  | some (.struct fs), .agg cs =>
    match fs[f]? with
    | some fd => partOf P fd.type cs fd.offset
    | none => none
  | _, _ => none
theorem fieldOf_sound {P : Program} {w : World} {bs : Nat → Nat} {n : Nat} {T : TypeId} {x v : EV} {f : Nat} {c : Prop} (h : fieldOf P T x f = some (v, c)) (hc : c) (hcl : closed n x) :
    (Instr.field T (real bs x) f).run P w = .ok (real bs v) w ∧ closed n v := by
  unfold fieldOf at h
  split at h
  · rename_i fs cs hu
    split at h
    · rename_i fd hf
      obtain ⟨r1, r2⟩ := partOf_sound (w := w) (bs := bs) h hc (n := n) (by simpa [closed] using hcl)
      refine ⟨?_, r2⟩
      simp only [Instr.field, real, Sem.run_bind, run_underlying _ _ _ _ hu, Result.andThen_ok, hf, asAgg, Sem.run_pure, r1]
    · simp at h
  · simp at h

/-! ### addresses -/
def indexAddrOf (P : Program) (T : TypeId) (x i : EV) : Option (EV × Prop) :=
  match i with
  | .int _ i =>
    match P.underlying T with
    | some (.array len e) =>
      match x with
      | .ptr b off => some (.ptr b (off + i.toNat * P.cellsOf e), (0 ≤ i ∧ i < len) ∧ (∃ d, P.underlying e = some d))
      | .raw (.pointer (some a)) => some (.raw (.pointer (some (a.add (i.toNat * P.cellsOf e)))), (0 ≤ i ∧ i < len) ∧ (∃ d, P.underlying e = some d))
      | _ => none
    | some (.slice e) =>
      match x with
      | .sl b off len _ => some (.ptr b (off + i.toNat * P.cellsOf e), (0 ≤ i ∧ i < len) ∧ (∃ d, P.underlying e = some d))
      | .raw (.slice (some a) len _) => some (.raw (.pointer (some (a.add (i.toNat * P.cellsOf e)))), (0 ≤ i ∧ i < len) ∧ (∃ d, P.underlying e = some d))
      | _ => none
    | _ => none
  | _ => none
theorem indexAddrOf_sound {P : Program} {w : World} {bs : Nat → Nat} {n : Nat} {T : TypeId} {x i v : EV} {c : Prop} (h : indexAddrOf P T x i = some (v, c)) (hc : c) (hcl : closed n x) :
    (Instr.indexAt T (real bs x) (real bs i)).run P w = .ok (real bs v) w ∧ closed n v := by
  unfold indexAddrOf at h
  split at h
  · rename_i k i
    split at h
    · rename_i len e hu
      split at h
      · rename_i b off
        simp only [Option.some.injEq, Prod.mk.injEq] at h
        obtain ⟨rfl, rfl⟩ := h
        obtain ⟨hb, d, hd⟩ := hc
        refine ⟨?_, by simpa [closed] using hcl⟩
        simp [Instr.indexAt, real, asIntOf, run_underlying _ _ _ _ hu, Instr.sureAddr, hb, run_sizeOf' _ _ _ _ hd, add_spot]
      · rename_i a
        simp only [Option.some.injEq, Prod.mk.injEq] at h
        obtain ⟨rfl, rfl⟩ := h
        obtain ⟨hb, d, hd⟩ := hc
        refine ⟨?_, trivial⟩
        simp [Instr.indexAt, real, asIntOf, run_underlying _ _ _ _ hu, Instr.sureAddr, hb, run_sizeOf' _ _ _ _ hd]
      · simp at h
    · rename_i e hu
      split at h
      · rename_i b off len cap
        simp only [Option.some.injEq, Prod.mk.injEq] at h
        obtain ⟨rfl, rfl⟩ := h
        obtain ⟨hb, d, hd⟩ := hc
        refine ⟨?_, by simpa [closed] using hcl⟩
        simp [Instr.indexAt, real, asIntOf, run_underlying _ _ _ _ hu, Instr.sureAddr, hb, run_sizeOf' _ _ _ _ hd, add_spot]
      · rename_i a len cap
        simp only [Option.some.injEq, Prod.mk.injEq] at h
        obtain ⟨rfl, rfl⟩ := h
        obtain ⟨hb, d, hd⟩ := hc
        refine ⟨?_, trivial⟩
        simp [Instr.indexAt, real, asIntOf, run_underlying _ _ _ _ hu, Instr.sureAddr, hb, run_sizeOf' _ _ _ _ hd]
      · simp at h
    · simp at h
  · simp at h
def fieldAddrOf (P : Program) (T : TypeId) (x : EV) (f : Nat) : Option (EV × Prop) :=
  match P.underlying T with
  | some (.struct fs) =>
    match fs[f]? with
    | some fd =>
      match x with
      | .ptr b off => some (.ptr b (off + fd.offset), (∃ d, P.underlying fd.type = some d) ∧ P.cellsOf fd.type ≠ 0)
      | .raw (.pointer (some a)) => some (.raw (.pointer (some (a.add fd.offset))), (∃ d, P.underlying fd.type = some d) ∧ P.cellsOf fd.type ≠ 0)
      | _ => none
    | none => none
  | _ => none
theorem fieldAddrOf_sound {P : Program} {w : World} {bs : Nat → Nat} {n : Nat} {T : TypeId} {x v : EV} {f : Nat} {c : Prop} (h : fieldAddrOf P T x f = some (v, c)) (hc : c) (hcl : closed n x) :
    (Instr.fieldAt T (real bs x) f).run P w = .ok (real bs v) w ∧ closed n v := by
  unfold fieldAddrOf at h
  split at h
  · rename_i fs hu
    split at h
    · rename_i fd hf
      split at h
      · simp only [Option.some.injEq, Prod.mk.injEq] at h
        obtain ⟨rfl, rfl⟩ := h
        obtain ⟨⟨d, hd⟩, h0⟩ := hc
        refine ⟨?_, by simpa [closed] using hcl⟩
        simp [Instr.fieldAt, real, run_underlying _ _ _ _ hu, hf, Instr.sureAddr, fieldPlace, run_sizeOf' _ _ _ _ hd, h0, add_spot]
      · simp only [Option.some.injEq, Prod.mk.injEq] at h
        obtain ⟨rfl, rfl⟩ := h
        obtain ⟨⟨d, hd⟩, h0⟩ := hc
        refine ⟨?_, trivial⟩
        simp [Instr.fieldAt, real, run_underlying _ _ _ _ hu, hf, Instr.sureAddr, fieldPlace, run_sizeOf' _ _ _ _ hd, h0]
      · simp at h
    · simp at h
  · simp at h
end Go.Ew
