/- A function from its entry to its end; contracts at calls. -/
import Derived.Test.YthknokcfmpahcaaDoorEwH
set_option linter.unusedSimpArgs false
set_option linter.unusedVariables false
namespace Go.Ew
open Go RowKit

/-! ### results -/
def resList (C : Cx) (x : X) : List ResultVar → Option (List EV × Prop)
  | [] => some ([], True)
  | .tmp t :: r => match resList C x r with
    | some (vs, c) => some (tget x.σ t :: vs, c)
    | none => none
  | .cell a T :: r => match loadOf C x.B x.hs T (tget x.σ a), resList C x r with
    | some (v, c'), some (vs, c) => some (v :: vs, c' ∧ c)
    | _, _ => none
def shutE : List EV → EV
  | [v] => v
  | vs => .tup vs
/-- The marks are come to: their blocks are shut. -/
def shutMs : List Nat → List (Nat × Option EObj) → Option (List (Nat × Option EObj))
  | [], hs => some hs
  | i :: r, hs => match hget hs i with
    | some (.obj (.deferred (some []))) => shutMs r ((i, some (.obj (.deferred none))) :: hs)
    | _ => none
def retK (C : Cx) (rs : List ResultVar) (K : EV → X → Prop) (x : X) : Prop :=
  match shutMs x.ms x.hs with
  | some hs' => match resList C { σ := x.σ, n := x.n, hs := hs', B := x.B, ms := [] } rs with
    | some (vs, c) => (c ∧ noAny vs = true) ∧ K (shutE vs) { σ := x.σ, n := x.n, hs := hs', B := x.B, ms := [] }
    | none => False
  | none => False
def retE (C : Cx) (rs : List ResultVar) (K : EV → X → Prop) : Exit → X → Prop
  | .normal, x => retK C rs K x
  | .ret, x => retK C rs K x
  | _, _ => False
def resM (tmps : Array Value) : ResultVar → Sem Value
  | .tmp t => pure (tmps.getD t undef)
  | .cell b t => do loadVar t (← asAddr (tmps.getD b undef))
theorem results_eq (fn : Func) (tmps : Array Value) : results fn tmps = (do
    let vs ← fn.results.mapM (resM tmps)
    pure (if h : vs.size = 1 then vs[0] else .tuple vs)) := by
  unfold results
  congr 1
theorem resList_run {C : Cx} {x : X} {bs : Nat → Nat} {a : Act} {w : World} (hr : Rel C x bs a w) : ∀ (rs : List ResultVar) (vs : List EV) (c : Prop), resList C x rs = some (vs, c) → c → noAny vs = true →
    (rs.mapM (resM a.tmps)).run C.P w = .ok (reals bs vs) w ∧ closeds x.n vs
  | [], vs, c, h, hc, hn => by
    simp only [resList, Option.some.injEq, Prod.mk.injEq] at h; obtain ⟨rfl, rfl⟩ := h
    exact ⟨by simp [reals], trivial⟩
  | .tmp t :: r, vs, c, h, hc, hn => by
    simp only [resList] at h
    split at h
    · rename_i vs' c' hr'
      simp only [Option.some.injEq, Prod.mk.injEq] at h; obtain ⟨rfl, rfl⟩ := h
      have hsp := noAny_spec hn
      simp only [noAny, Bool.and_eq_true] at hn
      obtain ⟨i1, i2⟩ := resList_run hr r vs' c' hr' hc hn.2
      have ht := hr.t.tmps t (hsp _ (by simp))
      refine ⟨?_, by simp only [closeds]; exact ⟨hr.t.cl t, i2⟩⟩
      rw [List.mapM_cons]
      have e1 : (resM a.tmps (.tmp t)).run C.P w = .ok (real bs (tget x.σ t)) w := by simp [resM, Array.getD_eq_getD_getElem?, ht]
      simp only [Sem.run_bind, Sem.run_pure, Result.andThen_ok, e1, i1, reals]
    · simp at h
  | .cell b T :: r, vs, c, h, hc, hn => by
    simp only [resList] at h
    split at h
    · rename_i v c1 vs' c' hl hr'
      simp only [Option.some.injEq, Prod.mk.injEq] at h; obtain ⟨rfl, rfl⟩ := h
      simp only [noAny, Bool.and_eq_true] at hn
      obtain ⟨i1, i2⟩ := resList_run hr r vs' c' hr' hc.2 hn.2
      obtain ⟨l1, l2⟩ := loadOf_sound hr.h hl hc.1
      have ht := hr.t.tmps b (loadOf_any hl)
      have ea : a.tmps.getD b undef = real bs (tget x.σ b) := by simp [Array.getD_eq_getD_getElem?, ht]
      refine ⟨?_, by simp only [closeds]; exact ⟨l2, i2⟩⟩
      have hs : ∃ ad, real bs (tget x.σ b) = .pointer (some ad) := by
        unfold loadOf at hl
        split at hl
        · rename_i e; rw [e]; exact ⟨_, rfl⟩
        · rename_i e; rw [e]; exact ⟨_, rfl⟩
        · simp at hl
      obtain ⟨ad, had⟩ := hs
      rw [had] at l1 ea
      simp only [Instr.loadAt, Instr.sureAddr, Sem.run_bind, Sem.run_pure, Result.andThen_ok] at l1
      rw [List.mapM_cons]
      have e1 : (resM a.tmps (.cell b T)).run C.P w = .ok (real bs v) w := by simp only [resM, ea, asAddr, Sem.run_bind, Sem.run_pure, Result.andThen_ok, l1]
      simp only [Sem.run_bind, Sem.run_pure, Result.andThen_ok, e1, i1, reals]
    · simp at h
theorem results_run {C : Cx} {x : X} {bs : Nat → Nat} {a : Act} {w : World} (hr : Rel C x bs a w) {fn : Func} {vs : List EV} {c : Prop} (h : resList C x fn.results.toList = some (vs, c)) (hc : c) (hn : noAny vs = true) :
    (results fn a.tmps).run C.P w = .ok (real bs (shutE vs)) w ∧ closed x.n (shutE vs) := by
  obtain ⟨h1, h2⟩ := resList_run hr fn.results.toList vs c h hc hn
  refine ⟨?_, ?_⟩
  · rw [results_eq, Array.mapM_eq_mapM_toList]
    simp only [Sem.run_bind, Sem.run_map, h1, Result.andThen_ok, Sem.run_pure]
    congr 1
    match vs with
    | [] => simp [shutE, real, reals]
    | [v] => simp [shutE, reals]
    | v :: u :: vs => simp [shutE, real, reals]
  · match vs, h2 with
    | [], _ => simp [shutE, closed, closeds]
    | [v], h2 => exact h2.1
    | v :: u :: vs, h2 => exact h2

/-! ### the entry -/
def argσ : Nat → List EV → List (Nat × EV)
  | _, [] => []
  | k, v :: vs => (k, v) :: argσ (k + 1) vs
theorem tget_argσ : ∀ (vs : List EV) (k t : Nat), tget (argσ k vs) t = if k ≤ t then vs.getD (t - k) .any else .any
  | [], k, t => by simp [argσ, tget]
  | v :: vs, k, t => by
    rw [argσ, tget_cons, tget_argσ vs (k + 1) t]
    by_cases e : k = t
    · subst e; simp
    · rw [if_neg e]
      by_cases h : k + 1 ≤ t
      · rw [if_pos h, if_pos (by omega), show t - k = (t - (k + 1)) + 1 by omega]; simp
      · rw [if_neg h, if_neg (by omega)]
theorem entry {C : Cx} {n : Nat} {bs : Nat → Nat} {args : List EV} (hcl : closeds n args) (hN : args.length ≤ C.N) :
    TRel C [] n (argσ 0 args) bs { tmps := (reals bs args).toArray ++ Array.replicate (C.N - (reals bs args).toArray.size) undef, defers := [] } := by
  refine ⟨by simp [reals_eq]; omega, rfl, by simp, ?_, ?_⟩
  · intro t ht
    rw [tget_argσ] at ht ⊢
    simp only [Nat.zero_le, if_true, Nat.sub_zero] at ht ⊢
    have hl : t < args.length := by
      rcases Nat.lt_or_ge t args.length with h | h
      · exact h
      · rw [List.getD_eq_getElem?_getD, List.getElem?_eq_none h] at ht; simp at ht
    rw [List.getD_eq_getElem?_getD, List.getElem?_eq_getElem hl]
    rw [Array.getElem?_append_left (by simpa [reals_eq] using hl)]
    simp [reals_eq, List.getElem?_eq_getElem hl]
  · intro t
    rw [tget_argσ]
    simp only [Nat.zero_le, if_true, Nat.sub_zero]
    rw [List.getD_eq_getElem?_getD]
    rcases Nat.lt_or_ge t args.length with h | h
    · rw [List.getElem?_eq_getElem h]; exact closeds_mem hcl (List.getElem_mem h)
    · rw [List.getElem?_eq_none h]; simp [closed]
theorem ret_leaves {C : Cx} {fn : Func} {R : Ending → World → Prop} {K : EV → X → Prop} {bs : Nat → Nat} {a : Act} {n : Nat} {σ : List (Nat × EV)} {B : Base} (ht : TRel C [] n σ bs { a with defers := [] })
    (hR : ∀ v x' w', closed x'.n v → HRel C x'.B x'.n x'.hs bs w' → K v x' → R (.returned (real bs v)) w') : ∀ (ms : List Nat) (hs : List (Nat × Option EObj)) (w : World), (∀ i ∈ ms, i < n) → HRel C B n hs bs w →
    retK C fn.results.toList K ⟨σ, n, hs, B, ms⟩ → LeavesInM (fe C) 0 C.P fn a.tmps R (marks bs ms) .returning w
  | [], hs, w, _, hH, h => by
    simp only [retK, shutMs] at h
    split at h
    · rename_i vs c hv
      obtain ⟨⟨h1, h2⟩, h3⟩ := h
      have hr' : Rel C ⟨σ, n, hs, B, []⟩ bs { a with defers := [] } w := ⟨ht, hH⟩
      obtain ⟨r1, r2⟩ := results_run hr' hv h1 h2
      exact ⟨_, r1, hR _ ⟨σ, n, hs, B, []⟩ w r2 hH h3⟩
    · exact h.elim
  | i :: ms, hs, w, hm, hH, h => by
    simp only [retK, shutMs] at h
    split at h
    · rename_i hs' hh
      split at hh
      · rename_i hg
        obtain ⟨l1, l2⟩ := hH.live i _ hg
        refine ⟨by simp, .inl ⟨bs i, _, rfl, run_takeDeferred l2, ?_⟩⟩
        refine ret_leaves ht hR ms ((i, some (.obj (.deferred none))) :: hs) _ (fun j hj => hm j (by simp [hj])) (hH.store hg (.obj (.deferred none)) trivial) ?_
        simp only [retK, hh]; exact h
      · simp at hh
    · exact h.elim
theorem calls_of {C : Cx} {f : FuncId} {fn : Func} {c : Code} {n : Nat} {B : Base} {hs : List (Nat × Option EObj)} {bs : Nat → Nat} {w : World} {args : List EV} {K : EV → X → Prop} (hrd : C.rd = none)
    (hf : C.P.funcs[f]? = some fn) (hb : fn.body = some c) (hN : fn.ntmps = C.N) (hin : codeIn C.N c = true) (hl : args.length ≤ C.N) (hH : HRel C B n hs bs w) (hcl : closeds n args)
    (h : Next C (retE C fn.results.toList K) [.c c] ⟨argσ 0 args, n, hs, B, []⟩) :
    Calls C.P f (reals bs args).toArray w (fun e w' => ∃ v x' bs', e = .returned (real bs' v) ∧ closed x'.n v ∧ HRel C x'.B x'.n x'.hs bs' w' ∧ K v x') := by
  refine calls_fe.1 (callsIn_of_wp_marks (n := 0) hf hb trivial ?_ hrd)
  have hr : Rel C ⟨argσ 0 args, n, hs, B, []⟩ bs { tmps := (reals bs args).toArray ++ Array.replicate (fn.ntmps - (reals bs args).toArray.size) undef, defers := [] } w := ⟨by rw [hN]; exact entry hcl hl, hH⟩
  refine wpIn_mono (h ⟨hin, trivial⟩ bs _ _ hr) ?_
  rintro e a w' ⟨x', bs', hr', hk⟩
  have key : retK C fn.results.toList K x' → LeavesInM (fe C) 0 C.P fn a.tmps (fun e w' => ∃ v x' bs', e = .returned (real bs' v) ∧ closed x'.n v ∧ HRel C x'.B x'.n x'.hs bs' w' ∧ K v x') a.defers .returning w' := by
    intro hk
    rw [hr'.t.defers]
    exact ret_leaves (K := K) (a := a) ⟨hr'.t.size, rfl, by simp, hr'.t.tmps, hr'.t.cl⟩ (fun v x'' w'' h1 h2 h3 => ⟨v, x'', bs', rfl, h1, h2, h3⟩) x'.ms x'.hs w' hr'.t.msin hr'.h hk
  cases e with
  | normal => exact key hk
  | ret => exact key hk
  | exit id => exact hk.elim
  | goto l => exact hk.elim
  | panic ch => exact hk.elim
  | outgrown => exact hk.elim

/-! ### functions that leave what was there as it was -/
/-- It returns V; of what was there nothing has turned. -/
def Ret (V : Value) (w : World) (e : Ending) (w' : World) : Prop := e = .returned V ∧ Below w.heap.size w w'
/-- The base at a function's entry: all that is there stays. -/
def base (w : World) : Base := ⟨w, fun k => k < w.heap.size⟩
abbrev cx0 (P : Program) (N : Nat) (w : World) : Cx := ⟨P, N, none, [], w, fun _ => False⟩
theorem HRel.start {P : Program} {N : Nat} {w : World} (bs : Nat → Nat) : HRel (cx0 P N w) (base w) 0 [] bs w :=
  ⟨by simp [hget], by simp [hget], by simp [hget], by simp, by simp [hget], fun _ h => ⟨h, rfl⟩, rfl, rfl, rfl, Nat.le_refl _, by simp [hget], fun _ h => h.elim, fun _ h => h.elim, Nat.le_refl _, rfl, rfl, rfl⟩
theorem HRel.below {C : Cx} {w0 w : World} {n : Nat} {hs : List (Nat × Option EObj)} {bs : Nat → Nat} (h : HRel C (base w0) n hs bs w) : Below w0.heap.size w0 w :=
  ⟨h.os, h.tape, h.output, h.hsize, fun k hk => (h.frame k hk).2⟩
theorem pure_calls {P : Program} {f : FuncId} {fn : Func} {c : Code} {w : World} {V : Value} (args : List EV)
    (hf : P.funcs[f]? = some fn) (hb : fn.body = some c) (hin : codeIn fn.ntmps c = true) (hl : args.length ≤ fn.ntmps) (hcl : closeds 0 args)
    (h : Next (cx0 P fn.ntmps w) (retE (cx0 P fn.ntmps w) fn.results.toList (fun v x => x.B = base w ∧ ∀ bs, real bs v = V)) [.c c] ⟨argσ 0 args, 0, [], base w, []⟩) :
    Calls P f (reals (fun _ => 0) args).toArray w (Ret V w) := by
  have := calls_of (C := (cx0 P fn.ntmps w)) (K := fun v x => x.B = base w ∧ ∀ bs, real bs v = V) rfl hf hb rfl hin hl (HRel.start (fun _ => 0)) hcl h
  refine this.mono ?_
  rintro e w' ⟨v, x', bs', rfl, _, hh, hB, hk⟩
  rw [hB] at hh
  exact ⟨by rw [hk], hh.below⟩
/-- Blocks that others have made behind: nothing turns. -/
theorem HRel.later {C : Cx} {B : Base} {n : Nat} {hs : List (Nat × Option EObj)} {bs : Nat → Nat} {w w' : World} (h : HRel C B n hs bs w) (hb : Below w.heap.size w w') : HRel C B n hs bs w' :=
  ⟨fun i o hi => ⟨(h.live i o hi).1, by rw [hb.block _ (heap_lt (h.live i o hi).2)]; exact (h.live i o hi).2⟩, h.cl, h.inj, h.old, h.new,
    fun k hk => ⟨Nat.lt_of_lt_of_le (h.frame k hk).1 hb.size, by rw [hb.block k (h.frame k hk).1]; exact (h.frame k hk).2⟩,
    hb.os.trans h.os, hb.tape.trans h.tape, hb.output.trans h.output, Nat.le_trans h.hsize hb.size, h.newE,
    fun k hk => ⟨Nat.lt_of_lt_of_le (h.frameE k hk).1 hb.size, by rw [hb.block k (h.frameE k hk).1]; exact (h.frameE k hk).2⟩, h.apart, Nat.le_trans h.eo.1 hb.size, hb.os.trans h.eo.2.1, hb.tape.trans h.eo.2.2.1, hb.output.trans h.eo.2.2.2⟩
/-- At a call whose contract says 'Ret'. -/
theorem ecalls_pure {C : Cx} {f : FuncId} {args : List EV} {x : X} {K : EV → Nat → List (Nat × Option EObj) → Prop} (v : EV) (hcl : closed x.n v)
    (h : ∀ bs w, HRel C x.B x.n x.hs bs w → Calls C.P f (reals bs args).toArray w (Ret (real bs v) w)) (hk : K v x.n x.hs) : ECalls C f args x K := by
  intro bs w hh _
  refine (h bs w hh).mono ?_
  rintro e w' ⟨rfl, hb⟩
  exact ⟨v, x.n, x.hs, bs, rfl, fun _ _ => rfl, Nat.le_refl _, hcl, hh.later hb, hk⟩
end Go.Ew
namespace Go.Ew
theorem callS_pure {C : Cx} {Q : Exit → X → Prop} {f : FuncId} {args : List EV} {dst : Option Tmp} {st : List It} {x : X} (v : EV) (hE : Enters C.P f) (hcl : closed x.n v)
    (h : ∀ bs w, HRel C x.B x.n x.hs bs w → Calls C.P f (reals bs args).toArray w (Ret (real bs v) w)) (hk : Next C Q st { σ := put x.σ dst v, n := x.n, hs := x.hs, B := x.B, ms := x.ms }) : callS C Q f args dst st x :=
  fun _ => .inl ⟨hE, ecalls_pure v hcl h hk⟩
theorem callS_ext {C : Cx} {Q : Exit → X → Prop} {f : FuncId} {args : List EV} {dst : Option Tmp} {st : List It} {x : X} (v : EV) (hcl : closed x.n v)
    (h : ∀ bs w, (callFunc f (reals bs args).toArray).run C.P w = .ok (.value (real bs v)) w) (hk : Next C Q st { σ := put x.σ dst v, n := x.n, hs := x.hs, B := x.B, ms := x.ms }) : callS C Q f args dst st x :=
  fun _ => .inr ⟨v, hcl, h, hk⟩
theorem condS_split {C : Cx} {Q : Exit → X → Prop} {n : Nat} {t : Bool} {a b : Code} {st : List It} {x : X} (h1 : t = true → goS C Q n (.c a :: st) x) (h2 : t = false → goS C Q n (.c b :: st) x) : condS C Q (n + 1) t a b st x := by
  simp only [condS]; exact ⟨h1, h2⟩
theorem condS_true {C : Cx} {Q : Exit → X → Prop} {n : Nat} {a b : Code} {st : List It} {x : X} : condS C Q (n + 1) true a b st x = goS C Q n (.c a :: st) x := by
  simp [condS]
theorem condS_false {C : Cx} {Q : Exit → X → Prop} {n : Nat} {a b : Code} {st : List It} {x : X} : condS C Q (n + 1) false a b st x = goS C Q n (.c b :: st) x := by
  simp [condS]
theorem testS_split {C : Cx} {Q : Exit → X → Prop} {n : Nat} {b want : Bool} {d : Tmp} {o : Oper} {st : List It} {x : X} (h1 : b = want → opG C Q n o st { σ := (d, .bool want) :: x.σ, n := x.n, hs := x.hs, B := x.B, ms := x.ms })
    (h2 : b = !want → goS C Q n st { σ := put ((d, .bool (!want)) :: x.σ) o.dst (.tup []), n := x.n, hs := x.hs, B := x.B, ms := x.ms }) : testS C Q (n + 1) b want d o st x := by
  simp only [testS]; exact ⟨h1, h2⟩
theorem testS_tt {C : Cx} {Q : Exit → X → Prop} {n : Nat} {d : Tmp} {o : Oper} {st : List It} {x : X} : testS C Q (n + 1) true true d o st x = opG C Q n o st { σ := (d, .bool true) :: x.σ, n := x.n, hs := x.hs, B := x.B, ms := x.ms } := by
  simp [testS]
theorem testS_ff {C : Cx} {Q : Exit → X → Prop} {n : Nat} {d : Tmp} {o : Oper} {st : List It} {x : X} : testS C Q (n + 1) false false d o st x = opG C Q n o st { σ := (d, .bool false) :: x.σ, n := x.n, hs := x.hs, B := x.B, ms := x.ms } := by
  simp [testS]
theorem testS_tf {C : Cx} {Q : Exit → X → Prop} {n : Nat} {d : Tmp} {o : Oper} {st : List It} {x : X} : testS C Q (n + 1) true false d o st x = goS C Q n st { σ := put ((d, .bool true) :: x.σ) o.dst (.tup []), n := x.n, hs := x.hs, B := x.B, ms := x.ms } := by
  simp [testS]
theorem testS_ft {C : Cx} {Q : Exit → X → Prop} {n : Nat} {d : Tmp} {o : Oper} {st : List It} {x : X} : testS C Q (n + 1) false true d o st x = goS C Q n st { σ := put ((d, .bool false) :: x.σ) o.dst (.tup []), n := x.n, hs := x.hs, B := x.B, ms := x.ms } := by
  simp [testS]
end Go.Ew
