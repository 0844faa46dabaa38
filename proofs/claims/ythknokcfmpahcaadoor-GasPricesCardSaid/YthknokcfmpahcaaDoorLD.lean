/- Part of a proof over the seat YthknokcfmpahcaaDoor. -/
import Derived.Test.YthknokcfmpahcaaDoorLB
set_option linter.unusedSimpArgs false
set_option linter.unusedVariables false
namespace Go.Ew
open Go RowKit
/-! ### regions that draw their order: trees of effects; an operation may have one of many effects, and the base may go on -/
theorem rawCell_ext {B B' : Base} (h : BExt B B') {a : Addr} (ha : B.D a.block) : rawCell B' a = rawCell B a := by
  unfold rawCell; rw [h.cell ha]
theorem loadOf_ext {C : Cx} {B B' : Base} {hs : List (Nat × Option EObj)} {T : TypeId} {p v : EV} {c : Prop} (h : BExt B B') (hl : loadOf C B hs T p = some (v, c)) (hc : c) : ∃ c', loadOf C B' hs T p = some (v, c') ∧ c' := by
  cases p with
  | ptr i off => exact ⟨c, hl, hc⟩
  | raw u =>
    cases u with
    | pointer a =>
      cases a with
      | none => simp [loadOf] at hl
      | some a =>
        simp only [loadOf] at hl ⊢
        cases ha : aggT C.P T with
        | none => simp [ha] at hl
        | some b =>
          cases b with
          | true =>
            simp only [ha, Option.some.injEq, Prod.mk.injEq] at hl
            obtain ⟨rfl, rfl⟩ := hl
            obtain ⟨hD, hall⟩ := hc
            have e : ∀ j, B'.w.cell? (a.add j) = B.w.cell? (a.add j) := fun j => h.cell (by rw [addr_add_block]; exact hD)
            refine ⟨B'.D a.block ∧ ∀ j, j < C.P.cellsOf T → (B'.w.cell? (a.add j)).isSome = true, ?_, h.D _ hD, fun j hj => by rw [e]; exact hall j hj⟩
            have e2 : (List.range (C.P.cellsOf T)).map (fun j => rawCell B' (a.add j)) = (List.range (C.P.cellsOf T)).map (fun j => rawCell B (a.add j)) :=
              List.map_congr_left fun j _ => by unfold rawCell; rw [e]
            simp only [e2]
          | false =>
            simp only [ha, Option.some.injEq, Prod.mk.injEq] at hl
            obtain ⟨rfl, rfl⟩ := hl
            obtain ⟨hD, hall⟩ := hc
            refine ⟨B'.D a.block ∧ (B'.w.cell? a).isSome = true, ?_, h.D _ hD, by rw [h.cell hD]; exact hall⟩
            simp only [rawCell_ext h hD]
    | _ => simp [loadOf] at hl
  | _ => simp [loadOf] at hl
theorem loadOf_none {C : Cx} {B B' : Base} {hs : List (Nat × Option EObj)} {T : TypeId} {p : EV} (hl : loadOf C B hs T p = none) : loadOf C B' hs T p = none := by
  cases p with
  | ptr i off => exact hl
  | raw u =>
    cases u with
    | pointer a =>
      cases a with
      | none => rfl
      | some a =>
        simp only [loadOf] at hl ⊢
        cases ha : aggT C.P T with
        | none => rfl
        | some b => cases b <;> simp [ha] at hl
    | _ => rfl
  | _ => rfl
theorem pureOf_agreeB {C : Cx} {x y : X} {op : Op} (hB : BExt x.B y.B) (h : ∀ t ∈ opLooks op, tget y.σ t = tget x.σ t) (hf : ∀ i ∈ footOf x.σ op, hget y.hs i = hget x.hs i) :
    (∀ v c, pureOf C x op = some (v, c) → c → ∃ c', pureOf C y op = some (v, c') ∧ c') ∧ (pureOf C x op = none → pureOf C y op = none) := by
  have e := pureOf_agree (C := C) (x := x) (y := { σ := y.σ, n := y.n, hs := y.hs, B := x.B, ms := y.ms }) (op := op) rfl h hf
  have key : (∃ T p, op = .load T p) ∨ pureOf C y op = pureOf C { σ := y.σ, n := y.n, hs := y.hs, B := x.B, ms := y.ms } op := by
    cases op with
    | load T p => exact .inl ⟨T, p, rfl⟩
    | call c => obtain ⟨callee, args, Ts⟩ := c; cases callee <;> exact .inr rfl
    | _ => exact .inr rfl
  rcases key with ⟨T, p, rfl⟩ | key
  · constructor
    · intro v c hv hc
      rw [← e] at hv
      exact loadOf_ext hB hv hc
    · intro hn
      rw [← e] at hn
      exact loadOf_none hn
  · constructor
    · intro v c hv hc
      exact ⟨c, by rw [key, e]; exact hv, hc⟩
    · intro hn
      rw [key, e]; exact hn
/-- Alike in what E looks at; the base goes on. -/
structure AgreeB (E : Ef) (y x : X) : Prop where
  B : BExt x.B y.B
  ms : y.ms = x.ms
  σ : ∀ t, t ∈ E.looks → tget y.σ t = tget x.σ t
  hs : ∀ i, i ∈ E.foot → hget y.hs i = hget x.hs i
  n : E.a ≠ 0 → y.n = x.n
  nm : ∀ r ∈ E.nm, Av r y
def LocB (C : Cx) (ops : List Oper) (o : Oper) (E : Ef) (x : X) : Prop := ∀ y, AgreeB E y x → eOp C ops o (fun z => Alike z (E.app y)) y
def Ef.appB (E : Ef) (B' : Base) (x : X) : X := { σ := put x.σ E.dst E.v, n := x.n + E.a, hs := E.ups ++ x.hs, B := B', ms := x.ms }
/-- The base stays, or goes on. -/
def Gon (sm : Bool) (B B' : Base) : Prop := if sm = true then B' = B else BExt B B'
theorem Gon.ext {sm : Bool} {B B' : Base} (h : Gon sm B B') : BExt B B' := by
  unfold Gon at h
  split at h
  · subst h; exact BExt.refl _
  · exact h
def LocF (C : Cx) (ops : List Oper) (o : Oper) (sm : Bool) (E0 : Ef) {S : Type} (F : S → Ef) (R : S → Base → Prop) (x : X) : Prop :=
  ∀ y, AgreeB E0 y x → eOp C ops o (fun z => ∃ s B', Gon sm y.B B' ∧ R s B' ∧ Alike z ((F s).appB B' y)) y
theorem stepF_goesB {C : Cx} {ops : List Oper} {o : Oper} {x y : X} {E : Ef} {c : Prop} (hd : dstIn C.N o.dst = true) (h : stepF C ops o x = some (E, c)) (hc : c) (hy : AgreeB E y x) : Goes C o y (fun z => Alike z (E.app y)) := by
  unfold stepF at h
  split at h
  · rename_i v c' hp
    simp only [Option.some.injEq, Prod.mk.injEq] at h; obtain ⟨rfl, rfl⟩ := h
    obtain ⟨c2, e, hc2⟩ := (pureOf_agreeB (C := C) (x := x) (y := y) (op := o.op) hy.B (fun t ht => hy.σ t (by simp [ht])) (fun i hi => hy.hs i hi)).1 v c' hp hc
    exact stepO_sound hd (x' := { σ := put y.σ o.dst v, n := y.n, hs := y.hs, B := y.B, ms := y.ms }) (c := c2) (by simp only [stepO, e]) hc2 (Alike.rfl' _)
  · rename_i hp
    split at h
    · rename_i v ob c' ha
      split at h
      · rename_i r hres
        simp only [Option.some.injEq, Prod.mk.injEq] at h; obtain ⟨rfl, rfl⟩ := h
        obtain ⟨hc1, hc2, hc3⟩ := hc
        have hA : Av r y := hy.nm r (by simp)
        obtain ⟨v', hv1, hv2, hv3⟩ := alloc_at (C := C) (x := x) (y := y) (op := o.op) (fun t ht => hy.σ t (by simp [ht])) ha r
        intro bs a w hr Q
        obtain ⟨h1, h2, h3⟩ := allocOf_sound hr hv1 hc1
        refine ⟨fun _ _ => trivial, ?_⟩
        rw [Oper.semAt_eq _ _ _ (alloc_nd hv1), h1]
        exact ⟨⟨put y.σ o.dst (atN r v), y.n, (r, some ob) :: y.hs, y.B, y.ms⟩, upd bs r w.heap.size,
          ⟨hr.t.nextA hA.σ hA.ms hd (hv2 bs _) (hv3 y.n hA.n), hr.h.allocA hA.n hA.hs hc2 ob h3 hc3⟩, Alike.rfl' _⟩
      simp only [Option.some.injEq, Prod.mk.injEq] at h; obtain ⟨rfl, rfl⟩ := h
      have e := (pureOf_agreeB (C := C) (x := x) (y := y) (op := o.op) hy.B (fun t ht => hy.σ t (by simp [ht])) (fun i hi => hy.hs i (by simp [hi]))).2 hp
      have hn : y.n = x.n := hy.n (by simp)
      have e2 := allocOf_agree (C := C) (x := x) (y := y) (op := o.op) (fun t ht => hy.σ t (by simp [ht])) hn
      refine stepO_sound hd (x' := { σ := put y.σ o.dst v, n := y.n + 1, hs := (y.n, some ob) :: y.hs, B := y.B, ms := y.ms }) (c := c') (by simp only [stepO, e, e2, ha]) hc ?_
      exact ⟨fun t => rfl, rfl, fun i => by simp [Ef.app, hn], rfl, rfl⟩
    · rename_i ha
      split at h
      · rename_i i ob c' hs
        simp only [Option.some.injEq, Prod.mk.injEq] at h; obtain ⟨rfl, rfl⟩ := h
        have e := (pureOf_agreeB (C := C) (x := x) (y := y) (op := o.op) hy.B (fun t ht => hy.σ t (by simp [ht])) (fun i hi => hy.hs i (by simp [hi]))).2 hp
        have e2 := allocOf_none (C := C) (x := x) (y := y) (op := o.op) (fun t ht => hy.σ t (by simp [ht])) ha
        have e3 := storeOf_agree (C := C) (x := x) (y := y) (op := o.op) (fun t ht => hy.σ t (by simp [ht])) (fun i hi => hy.hs i (by simp [hi]))
        exact stepO_sound hd (x' := { σ := put y.σ o.dst (.tup []), n := y.n, hs := (i, some ob) :: y.hs, B := y.B, ms := y.ms }) (c := c') (by simp only [stepO, e, e2, e3, hs]) hc (Alike.rfl' _)
      · simp at h
theorem locB_of_goes {C : Cx} {ops : List Oper} {o : Oper} {x : X} {E : Ef} (hl : ∀ t ∈ gLook ops o.guard, t ∈ E.looks)
    (hg : RunsIt ops o x) {K : X → X → Prop} (h : ∀ y, AgreeB E y x → Goes C o y (K y)) : ∀ y, AgreeB E y x → eOp C ops o (K y) y := by
  intro y hy
  have e := guardOf_agree (ops := ops) (g := o.guard) (fun t ht => hy.σ t (hl t ht))
  unfold eOp
  rw [e]
  rcases hg with hg | ⟨b, want, d, hg, hb⟩
  · simp only [hg]; exact h y hy
  · simp only [hg]
    subst hb
    exact ⟨fun _ => h y hy, fun hx => by cases b <;> simp at hx⟩
theorem locB_skip {C : Cx} {ops : List Oper} {o : Oper} {x : X} {b want : Bool} {d : Tmp} (hg : guardOf ops x.σ o.guard = .test b want d) (hb : b = !want) :
    LocB C ops o { dst := o.dst, v := .tup [], ups := [], a := 0, looks := gLook ops o.guard, foot := [] } x := by
  intro y hy
  have e := guardOf_agree (ops := ops) (g := o.guard) (fun t ht => hy.σ t ht)
  unfold eOp
  rw [e]
  simp only [hg]
  exact ⟨fun hx => by subst hb; cases want <;> simp at hx, fun _ => ⟨fun _ => rfl, rfl, fun _ => rfl, rfl, rfl⟩⟩
theorem locB_skip' {C : Cx} {ops : List Oper} {o : Oper} {x : X} (hg : guardOf ops x.σ o.guard = .skip) :
    LocB C ops o { dst := o.dst, v := .tup [], ups := [], a := 0, looks := gLook ops o.guard, foot := [] } x := by
  intro y hy
  have e := guardOf_agree (ops := ops) (g := o.guard) (fun t ht => hy.σ t ht)
  unfold eOp
  rw [e]
  simp only [hg]
  exact ⟨fun _ => rfl, rfl, fun _ => rfl, rfl, rfl⟩
/-- A tree of effects. -/
inductive Tr : Type 1
  | nil
  | det (i : Nat) (o : Oper) (E : Ef) (T : Tr)
  | fam (i : Nat) (o : Oper) (sm : Bool) (E0 : Ef) (S : Type) (F : S → Ef) (R : S → Base → Prop) (T : S → Base → Tr)
def TChain (C : Cx) (ops : List Oper) (K : X → Prop) : Tr → X → Prop
  | .nil, x => ∀ y, Alike y x → K y
  | .det _ o E T, x => LocB C ops o E x ∧ TChain C ops K T (E.app x)
  | .fam _ o sm E0 _ F R T, x => LocF C ops o sm E0 F R x ∧ ∀ s B', Gon sm x.B B' → R s B' → TChain C ops K (T s B') ((F s).appB B' x)
theorem agreeB_alike {E : Ef} {y x z : X} (h : AgreeB E y x) (e : Alike x z) : AgreeB E y z :=
  ⟨by rw [← e.B]; exact h.B, h.ms.trans e.ms, fun t ht => (h.σ t ht).trans (e.σ t), fun i hi => (h.hs i hi).trans (e.hs i), fun hn => (h.n hn).trans e.n, h.nm⟩
theorem appB_alike {E : Ef} {B' : Base} {x y : X} (e : Alike x y) : Alike (E.appB B' x) (E.appB B' y) :=
  ⟨fun t => by simp only [Ef.appB, tget_put, e.σ t], by simp only [Ef.appB, e.n], fun i => by simp only [Ef.appB, hget_app, e.hs i], rfl, e.ms⟩
theorem tchain_alike {C : Cx} {ops : List Oper} {K : X → Prop} : ∀ (T : Tr) {x y : X}, TChain C ops K T x → Alike x y → TChain C ops K T y
  | .nil, x, y, h, e => fun z hz => h z (hz.trans e.symm)
  | .det _ o E T, x, y, h, e => ⟨fun z hz => h.1 z (agreeB_alike hz e.symm), tchain_alike T h.2 (app_alike e)⟩
  | .fam _ o _ E0 _ F R T, x, y, h, e => ⟨fun z hz => h.1 z (agreeB_alike hz e.symm), fun s B' hB hR => tchain_alike (T s B') (h.2 s B' (by rw [e.B]; exact hB) hR) (appB_alike e)⟩
structure SameF (E0 E : Ef) : Prop where
  dst : E.dst = E0.dst
  looks : E.looks = E0.looks
  foot : E.foot = E0.foot
  a : E.a = E0.a
  nm : E.nm = E0.nm
  keys : hkeys E.ups = hkeys E0.ups
theorem SameF.apart {E0 E A : Ef} (h : SameF E0 E) (k : A.apart E0 = true) : A.apart E = true := by
  unfold Ef.apart at *
  rw [h.dst, h.looks, h.foot, h.a, h.keys]; exact k
/-- What A does, E does not see. -/
theorem agreeB_app {A E : Ef} (h : A.apart E = true) {y x : X} (hy : AgreeB E y x) : AgreeB E y (A.app x) := by
  simp only [Ef.apart, Bool.and_eq_true] at h
  obtain ⟨⟨⟨⟨⟨a1, a2⟩, a3⟩, a4, a5⟩, a6⟩, a7⟩ := h
  refine ⟨hy.B, hy.ms, fun t ht => ?_, fun k hk => ?_, fun hn => ?_, hy.nm⟩
  · rw [hy.σ t ht]
    simp only [Ef.app, tget_put]
    rw [if_neg]
    intro e
    rw [e] at a1
    simp only [dstApart, Bool.not_eq_true', List.contains_eq_mem, decide_eq_false_iff_not] at a1
    exact a1 ht
  · rw [hy.hs k hk]
    simp only [Ef.app, hget_app]
    rw [if_neg]
    intro e
    exact disj_spec a4 k e hk
  · rw [hy.n hn]
    simp only [Ef.app]
    simp only [Bool.or_eq_true, beq_iff_eq] at a7
    omega
theorem agreeB_unapp {A E : Ef} (h : E.apart A = true) {B' : Base} {y x : X} (hB : BExt x.B B') (hy : AgreeB A y (E.appB B' x)) : AgreeB A y x := by
  simp only [Ef.apart, Bool.and_eq_true] at h
  obtain ⟨⟨⟨⟨⟨h1, h2⟩, h3⟩, h4, h5⟩, h6⟩, h7⟩ := h
  refine ⟨hB.trans hy.B, hy.ms, fun t ht => ?_, fun i hi => ?_, fun hn => ?_, hy.nm⟩
  · rw [hy.σ t ht]
    simp only [Ef.appB, tget_put]
    rw [if_neg]
    intro e
    rw [e] at h1
    simp only [dstApart, Bool.not_eq_true', List.contains_eq_mem, decide_eq_false_iff_not] at h1
    exact h1 ht
  · rw [hy.hs i hi]
    simp only [Ef.appB, hget_app]
    rw [if_neg]
    intro e
    exact disj_spec h4 i e hi
  · rw [hy.n hn]
    simp only [Ef.appB]
    simp only [Bool.or_eq_true, beq_iff_eq] at h7
    omega
theorem app_comm {A E : Ef} (h : A.apart E = true) (B' : Base) (x : X) : Alike (E.appB B' (A.app x)) (A.app (E.appB B' x)) := by
  have h0 := apart_comm h x
  exact ⟨fun t => (h0.σ t).symm, h0.n.symm, fun i => (h0.hs i).symm, rfl, rfl⟩
theorem app_eq_appB (E : Ef) (x : X) : E.app x = E.appB x.B x := rfl
abbrev Nd := Nat × Oper × Ef × Bool
/-- Of each node of the tree. -/
def AllP (φ : Nd → Prop) : Tr → Base → Prop
  | .nil, _ => True
  | .det i o E T, B => φ (i, o, E, false) ∧ AllP φ T B
  | .fam i o sm E0 _ F R T, B => φ (i, o, E0, true) ∧ ∀ s B', Gon sm B B' → R s B' → φ (i, o, F s, true) ∧ AllP φ (T s B') B'
theorem AllP.imp {φ ψ : Nd → Prop} (h : ∀ q, φ q → ψ q) : ∀ {T : Tr} {B : Base}, AllP φ T B → AllP ψ T B
  | .nil, _, _ => trivial
  | .det _ _ _ T, B, k => ⟨h _ k.1, AllP.imp h (T := T) k.2⟩
  | .fam _ _ _ _ _ _ _ T, B, k => ⟨h _ k.1, fun s B' hB hR => ⟨h _ (k.2 s B' hB hR).1, AllP.imp h (T := T s B') (k.2 s B' hB hR).2⟩⟩
theorem AllP.and {φ ψ : Nd → Prop} : ∀ {T : Tr} {B : Base}, AllP φ T B → AllP ψ T B → AllP (fun q => φ q ∧ ψ q) T B
  | .nil, _, _, _ => trivial
  | .det _ _ _ T, B, k, l => ⟨⟨k.1, l.1⟩, AllP.and (T := T) k.2 l.2⟩
  | .fam _ _ _ _ _ _ _ T, B, k, l => ⟨⟨k.1, l.1⟩, fun s B' hB hR => ⟨⟨(k.2 s B' hB hR).1, (l.2 s B' hB hR).1⟩, AllP.and (T := T s B') (k.2 s B' hB hR).2 (l.2 s B' hB hR).2⟩⟩
/-- An earlier and a later node. -/
structure P2 (p q : Nd) : Prop where
  ap : p.2.2.2 = false → hasEdge q.2.1 p.1 = true ∨ p.2.2.1.apart q.2.2.1 = true
  n1 : p.2.2.2 = false → ∀ r ∈ p.2.2.1.nm, hasEdge q.2.1 p.1 = true ∨ q.2.2.1.off r
  n2 : ∀ r ∈ q.2.2.1.nm, p.2.2.1.off r
def WFT : Tr → Base → Prop
  | .nil, _ => True
  | .det i o E T, B => AllP (P2 (i, o, E, false)) T B ∧ WFT T B
  | .fam i o sm E0 _ F R T, B => ∀ s B', Gon sm B B' → R s B' → SameF E0 (F s) ∧ AllP (P2 (i, o, F s, true)) (T s B') B' ∧ WFT (T s B') B'
/-- Each of them waits for one of ls, or for one ahead of it. -/
def depL (ops : List Oper) : List Nat → List Nat → Bool
  | _, [] => true
  | ls, j :: r => (match ops[j]? with
    | some o => ls.any (fun k => hasEdge o k)
    | none => false) && depL ops (j :: ls) r
theorem depL_spec {ops : List Oper} : ∀ {r ls : List Nat}, depL ops ls r = true → ∀ j ∈ r, ∀ o, ops[j]? = some o → ∃ k, (k ∈ ls ∨ k ∈ r) ∧ hasEdge o k = true
  | [], _, _, j, hj, _, _ => by cases hj
  | i :: r, ls, h, j, hj, o, ho => by
    simp only [depL, Bool.and_eq_true] at h
    rcases List.mem_cons.1 hj with rfl | hj
    · rw [ho] at h
      simp only [List.any_eq_true] at h
      obtain ⟨k, hk, he⟩ := h.1
      exact ⟨k, .inl hk, he⟩
    · obtain ⟨k, hk, he⟩ := depL_spec h.2 j hj o ho
      refine ⟨k, ?_, he⟩
      rcases hk with hk | hk
      · rcases List.mem_cons.1 hk with rfl | hk
        · exact .inr (by simp)
        · exact .inl hk
      · exact .inr (List.mem_cons_of_mem _ hk)
def IdxT (N : Nat) (ops : List Oper) : Tr → List Nat → Base → Prop
  | .nil, l, _ => l = []
  | .det i o _ T, l, B => ∃ r, l = i :: r ∧ ops[i]? = some o ∧ dstIn N o.dst = true ∧ IdxT N ops T r B
  | .fam i o sm _ _ _ R T, l, B => ∃ r, l = i :: r ∧ ops[i]? = some o ∧ dstIn N o.dst = true ∧ depL ops [i] r = true ∧ ∀ s B', Gon sm B B' → R s B' → IdxT N ops (T s B') r B'
/-- What has one effect may be taken first. -/
def TakesD (C : Cx) (ops : List Oper) (K : X → Prop) (i : Nat) (ord : List Nat) (T : Tr) (x : X) : Prop :=
  ∃ o E T2, ops[i]? = some o ∧ dstIn C.N o.dst = true ∧ LocB C ops o E x ∧ TChain C ops K T2 (E.app x) ∧ IdxT C.N ops T2 (ord.erase i) x.B ∧ WFT T2 x.B ∧
    (∀ φ, AllP φ T x.B → φ (i, o, E, false) ∧ AllP φ T2 x.B) ∧ AllP (fun q => ∀ r ∈ q.2.2.1.nm, E.off r) T2 x.B
def TakesF (C : Cx) (ops : List Oper) (K : X → Prop) (i : Nat) (ord : List Nat) (T : Tr) (x : X) : Prop :=
  ∃ (o : Oper) (sm : Bool) (E0 : Ef) (S : Type) (F : S → Ef) (R : S → Base → Prop) (T2 : S → Base → Tr), ops[i]? = some o ∧ dstIn C.N o.dst = true ∧ LocF C ops o sm E0 F R x ∧ (∀ φ, AllP φ T x.B → φ (i, o, E0, true)) ∧
    ∀ s B', Gon sm x.B B' → R s B' → SameF E0 (F s) ∧ TChain C ops K (T2 s B') ((F s).appB B' x) ∧ IdxT C.N ops (T2 s B') (ord.erase i) B' ∧ WFT (T2 s B') B' ∧
      (∀ φ, AllP φ T x.B → φ (i, o, F s, true) ∧ AllP φ (T2 s B') B') ∧ AllP (fun q => ∀ r ∈ q.2.2.1.nm, (F s).off r) (T2 s B') B'
theorem take_first {C : Cx} {ops : List Oper} {K : X → Prop} {i : Nat} : ∀ (T : Tr) (ord : List Nat) (x : X), TChain C ops K T x → IdxT C.N ops T ord x.B → WFT T x.B → ord.Nodup → i ∈ ord → (∀ o, ops[i]? = some o → ∀ k ∈ ord, hasEdge o k = false) →
    TakesD C ops K i ord T x ∨ TakesF C ops K i ord T x
  | .nil, ord, x, _, hI, _, _, hi, _ => by
    simp only [IdxT] at hI; subst hI; cases hi
  | .det j oj A T, ord, x, hch, hI, hW, hnd, hi, hne => by
    obtain ⟨r, rfl, hoj, hdj, hI'⟩ := hI
    obtain ⟨hL, hch'⟩ := hch
    obtain ⟨hP, hW'⟩ := hW
    by_cases e : i = j
    · subst e
      exact .inl ⟨oj, A, T, hoj, hdj, hL, hch', by simpa using hI', hW', fun φ h => h, hP.imp fun q hq r hr => hq.n2 r hr⟩
    · have hi' : i ∈ r := (List.mem_cons.1 hi).resolve_left e
      have her : (j :: r).erase i = j :: r.erase i := by rw [List.erase_cons_tail (by simpa using fun h => e h.symm)]
      rcases take_first T r (A.app x) hch' hI' hW' (List.nodup_cons.1 hnd).2 hi' (fun o ho k hk => hne o ho k (List.mem_cons_of_mem _ hk)) with h | h
      · obtain ⟨o, E, T2, h1, h2, h3, h4, h5, h6, h7, h8⟩ := h
        have p2 := (h7 _ hP).1
        have hedge := hne o h1 j (by simp)
        have hap : A.apart E = true := (p2.ap rfl).resolve_left (by simp [hedge])
        refine .inl ⟨o, E, .det j oj A T2, h1, h2, fun y hy => h3 y (agreeB_app hap hy), ⟨fun y hy => hL y (agreeB_unapp (apart_symm hap) (BExt.refl _) hy), tchain_alike T2 h4 (app_comm hap x.B x)⟩, ?_, ⟨(h7 _ hP).2, h6⟩, fun φ hφ => ⟨(h7 φ hφ.2).1, hφ.1, (h7 φ hφ.2).2⟩, fun r hr => (p2.n1 rfl r hr).resolve_left (by simp [hedge]), h8⟩
        rw [her]; exact ⟨_, rfl, hoj, hdj, h5⟩
      · obtain ⟨o, sm, E0, S, F, R, T2, h1, h2, h3, h4, h5⟩ := h
        have p2 := h4 _ hP
        have hedge := hne o h1 j (by simp)
        have hap : A.apart E0 = true := (p2.ap rfl).resolve_left (by simp [hedge])
        refine .inr ⟨o, sm, E0, S, F, R, fun s B' => .det j oj A (T2 s B'), h1, h2, fun y hy => h3 y (agreeB_app hap hy), fun φ hφ => h4 φ hφ.2, fun s B' hB hR => ?_⟩
        obtain ⟨q1, q2, q3, q4, q5, q6⟩ := h5 s B' hB hR
        have hap' := q1.apart hap
        have p2' := (q5 _ hP).1
        refine ⟨q1, ⟨fun y hy => hL y (agreeB_unapp (apart_symm hap') hB.ext hy), tchain_alike (T2 s B') q2 (app_comm hap' B' x)⟩, ?_, ⟨(q5 _ hP).2, q4⟩, fun φ hφ => ⟨(q5 φ hφ.2).1, hφ.1, (q5 φ hφ.2).2⟩, fun r hr => (p2'.n1 rfl r hr).resolve_left (by simp [hedge]), q6⟩
        rw [her]; exact ⟨_, rfl, hoj, hdj, q3⟩
  | .fam j oj sm E0 S F R T, ord, x, hch, hI, hW, hnd, hi, hne => by
    obtain ⟨r, rfl, hoj, hdj, hdep, hI'⟩ := hI
    by_cases e : i = j
    · subst e
      refine .inr ⟨oj, sm, E0, S, F, R, T, hoj, hdj, hch.1, fun φ h => h.1, fun s B' hB hR => ?_⟩
      obtain ⟨w1, w2, w3⟩ := hW s B' hB hR
      exact ⟨w1, hch.2 s B' hB hR, by simpa using hI' s B' hB hR, w3, fun φ h => h.2 s B' hB hR, w2.imp fun q hq r hr => hq.n2 r hr⟩
    · exfalso
      have hi' : i ∈ r := (List.mem_cons.1 hi).resolve_left e
      have hget : ∃ o, ops[i]? = some o := by
        cases h : ops[i]? with
        | some o => exact ⟨o, rfl⟩
        | none =>
          exfalso
          have : ∀ {r ls : List Nat}, depL ops ls r = true → ∀ j ∈ r, ops[j]? ≠ none := by
            intro r
            induction r with
            | nil => intro ls _ j hj; cases hj
            | cons k r ih =>
              intro ls hd j hj
              simp only [depL, Bool.and_eq_true] at hd
              rcases List.mem_cons.1 hj with rfl | hj
              · intro hn; rw [hn] at hd; simp at hd
              · exact ih hd.2 j hj
          exact this hdep i hi' h
      obtain ⟨o, ho⟩ := hget
      obtain ⟨k, hk, he⟩ := depL_spec hdep i hi' o ho
      have := hne o ho k (by rcases hk with hk | hk <;> simp_all)
      rw [this] at he; cases he
theorem Av.appB {r : Nat} {x : X} {E : Ef} {B' : Base} (h : Av r x) (k : E.off r) : Av r (E.appB B' x) := by
  have := h.app k
  exact ⟨this.σ, this.hs, this.n, this.ms⟩
/-- Binding edges lead to what is listed, or stands ahead. -/
def edgOK (ops : List Oper) : List Nat → List Nat → Bool
  | _, [] => true
  | ls, j :: r => (match ops[j]? with
    | some o => o.after.all (fun e => !Region.binds .any e || ls.contains e.on)
    | none => false) && edgOK ops (j :: ls) r
theorem tree_main {C : Cx} {ops : List Oper} {K : X → Prop} {Q : Exit → Act → World → Prop} (hQ : ∀ x bs a w, Rel C x bs a w → K x → Q .normal a w)
    :
    ∀ (fuel : Nat) (T : Tr) (ord : List Nat) (listed : Array Bool) (x : X) (bs : Nat → Nat) (a : Act) (w : World), ord.length = fuel → listed.size = ops.length → ord.Nodup → (∀ i ∈ ord, i < ops.length ∧ listed.getD i true = false) →
      (∀ i, i < ops.length → listed.getD i true = false → i ∈ ord) →
      (∀ l j r, ord = l ++ j :: r → ∀ o, ops[j]? = some o → ∀ e ∈ o.after, Region.binds .any e = true → listed[e.on]? = some true ∨ e.on ∈ l) →
      TChain C ops K T x → IdxT C.N ops T ord x.B → WFT T x.B → AllP (fun q => ∀ r ∈ q.2.2.1.nm, Av r x) T x.B → Rel C x bs a w → wpAnyIn (fe C) 0 C.P .any ops.toArray Q fuel listed a w
  | 0, T, ord, listed, x, bs, a, w, hlen, hsz, hnd, hin, hall, hedg, hch, hI, hW, hav, hr => by
    have hl : ord = [] := List.length_eq_zero_iff.1 hlen
    subst hl
    have hT : TChain C ops K .nil x := by
      cases T with
      | nil => exact hch
      | det i o E T => obtain ⟨r, h, _⟩ := hI; cases h
      | fam i o sm E0 S F R T => obtain ⟨r, h, _⟩ := hI; cases h
    refine ⟨?_, hQ x bs a w hr (hT x (Alike.rfl' x))⟩
    simp only [Region.ready, List.filter_eq_nil_iff, List.mem_range, List.size_toArray]
    intro i hi
    have : listed.getD i true = true := by
      cases hb : listed.getD i true with
      | true => rfl
      | false => have := hall i hi hb; cases this
    simp [Array.getD_eq_getD_getElem?] at this
    simp [this]
  | fuel + 1, T, ord, listed, x, bs, a, w, hlen, hsz, hnd, hin, hall, hedg, hch, hI, hW, hav, hr => by
    refine ⟨?_, ?_⟩
    · intro hready
      exfalso
      cases ord with
      | nil => simp at hlen
      | cons j r =>
        obtain ⟨hlt, hp3⟩ := hin j (by simp)
        have hp1 : ops[j]? = some ops[j] := List.getElem?_eq_getElem hlt
        have : j ∈ Region.ready .any ops.toArray listed := by
          rw [mem_ready]
          refine ⟨hp3, ops[j], by simp, ?_⟩
          intro e he hb
          rcases hedg [] j r rfl _ hp1 e he hb with h | h
          · simp [Array.getD_eq_getD_getElem?, h]
          · cases h
        rw [hready] at this; simp at this
    · intro i hi
      obtain ⟨hun, o, ho, hedges⟩ := mem_ready.1 hi
      have ho' : ops[i]? = some o := by simpa using ho
      have hlt : i < ops.length := by
        rcases Nat.lt_or_ge i ops.length with h | h
        · exact h
        · simp [List.getElem?_eq_none h] at ho
      have himem := hall i hlt hun
      have hne : ∀ o, ops[i]? = some o → ∀ k ∈ ord, hasEdge o k = false := by
        intro o2 ho2 k hk
        rw [ho'] at ho2
        cases ho2
        cases hE : hasEdge o k with
        | false => rfl
        | true =>
          exfalso
          simp only [hasEdge, Array.any_eq_true'] at hE
          obtain ⟨e, he1, he2⟩ := hE
          simp only [Bool.and_eq_true, beq_iff_eq] at he2
          have hlist := hedges e he1 he2.1
          obtain ⟨hklt, hq3⟩ := hin k hk
          rw [he2.2] at hlist
          simp [Array.getD_eq_getD_getElem?, show k < listed.size by omega] at hlist hq3
          rw [hlist] at hq3; simp at hq3
      have hsub : (ord.erase i).Sublist ord := List.erase_sublist
      have hnd' : (ord.erase i).Nodup := hnd.sublist hsub
      have hlen' : (ord.erase i).length = fuel := by rw [List.length_erase_of_mem himem]; omega
      have hin' : ∀ k ∈ ord.erase i, k < ops.length ∧ (listed.setIfInBounds i true).getD k true = false := by
        intro k hk
        obtain ⟨h1, h2⟩ := hin k (hsub.subset hk)
        refine ⟨h1, ?_⟩
        have hki : k ≠ i := by rintro rfl; exact (List.Nodup.not_mem_erase hnd) hk
        rw [getD_set_ne true (Ne.symm hki)]; exact h2
      have hall' : ∀ k, k < ops.length → (listed.setIfInBounds i true).getD k true = false → k ∈ ord.erase i := by
        intro k hk hkl
        by_cases e : k = i
        · subst e
          simp [Array.getD_eq_getD_getElem?, show k < listed.size by omega] at hkl
        · rw [getD_set_ne true (Ne.symm e)] at hkl
          exact (List.mem_erase_of_ne e).2 (hall k hk hkl)
      have hedg' : ∀ l j r, ord.erase i = l ++ j :: r → ∀ o, ops[j]? = some o → ∀ e ∈ o.after, Region.binds .any e = true → (listed.setIfInBounds i true)[e.on]? = some true ∨ e.on ∈ l := by
        intro l j r hs oj hoj e he hb
        have key : (∃ l' r', ord = l' ++ j :: r' ∧ ∀ k ∈ l', k = i ∨ k ∈ l) := by
          obtain ⟨a1, a2, hsplit⟩ := List.append_of_mem himem
          have ha1 : i ∉ a1 := by
            intro h
            rw [hsplit] at hnd
            exact (List.nodup_append.1 hnd).2.2 i h i (by simp) rfl
          have her : ord.erase i = a1 ++ a2 := by rw [hsplit, List.erase_append_right _ ha1, List.erase_cons_head]
          rw [her] at hs
          rcases List.append_eq_append_iff.1 hs with ⟨c1, h1, h2⟩ | ⟨c1, h1, h2⟩
          · refine ⟨a1 ++ i :: c1, r, by rw [hsplit, h2]; simp, fun k hk => ?_⟩
            rcases List.mem_append.1 hk with h | h
            · exact .inr (by rw [h1]; exact List.mem_append.2 (.inl h))
            · rcases List.mem_cons.1 h with rfl | h
              · exact .inl rfl
              · exact .inr (by rw [h1]; exact List.mem_append.2 (.inr h))
          · cases c1 with
            | nil =>
              simp only [List.nil_append] at h2
              simp only [List.append_nil] at h1
              refine ⟨a1 ++ [i], r, by rw [hsplit, ← h2]; simp, fun k hk => ?_⟩
              rcases List.mem_append.1 hk with h | h
              · exact .inr (by rw [← h1]; exact h)
              · exact .inl (by simpa using h)
            | cons c c1 =>
              simp only [List.cons_append, List.cons.injEq] at h2
              obtain ⟨rfl, h2⟩ := h2
              exact ⟨l, c1 ++ i :: a2, by rw [hsplit, h1]; simp, fun k hk => .inr hk⟩
        obtain ⟨l', r', hs', hk⟩ := key
        rcases hedg l' j r' hs' oj hoj e he hb with h | h
        · left
          by_cases ee : e.on = i
          · rw [ee, Array.getElem?_setIfInBounds_self, if_pos (by omega)]
          · rw [Array.getElem?_setIfInBounds_ne (Ne.symm ee)]; exact h
        · rcases hk _ h with h | h
          · left
            rw [h, Array.getElem?_setIfInBounds_self, if_pos (by omega)]
          · exact .inr h
      rcases take_first T ord x hch hI hW hnd himem hne with h | h
      · obtain ⟨o2, E, T2, h1, h2, h3, h4, h5, h6, h7, h8⟩ := h
        have hnm := (h7 _ hav).1
        refine eOp_real (by simpa using h1) h2 (h3 x ⟨BExt.refl _, rfl, fun _ _ => rfl, fun _ _ => rfl, fun _ => rfl, hnm⟩) ?_ hr
        intro x' bs' a' w' hr' hal
        exact tree_main hQ fuel T2 (ord.erase i) _ (E.app x) bs' a' w' hlen' (by simpa using hsz) hnd' hin' hall' hedg' h4 h5 h6 (((h7 _ hav).2.and h8).imp fun q hq r hr => (hq.1 r hr).app (hq.2 r hr)) (hr'.alike hal)
      · obtain ⟨o2, sm, E0, S, F, R, T2, h1, h2, h3, h4, h5⟩ := h
        have hnm := h4 _ hav
        refine eOp_real (by simpa using h1) h2 (h3 x ⟨BExt.refl _, rfl, fun _ _ => rfl, fun _ _ => rfl, fun _ => rfl, hnm⟩) ?_ hr
        rintro x' bs' a' w' hr' ⟨s, B', hB, hR, hal⟩
        obtain ⟨q1, q2, q3, q4, q5, q6⟩ := h5 s B' hB hR
        exact tree_main hQ fuel (T2 s B') (ord.erase i) _ ((F s).appB B' x) bs' a' w' hlen' (by simpa using hsz) hnd' hin' hall' hedg' q2 q3 q4 (((q5 _ hav).2.and q6).imp fun q hq r hr => (hq.1 r hr).appB (hq.2 r hr)) (hr'.alike hal)
end Go.Ew
