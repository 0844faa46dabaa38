/- Part of a proof over the seat YthknokcfmpahcaaDoor. -/
import Derived.Test.YthknokcfmpahcaaDoorLD
set_option linter.unusedSimpArgs false
set_option linter.unusedVariables false
namespace Go.Ew
open Go RowKit
/-! ### the walk of a tree -/
def pwT : List Nd → Bool
  | [] => true
  | p :: r => (p.2.2.2 || r.all (fun q => hasEdge q.2.1 p.1 || p.2.2.1.apart q.2.2.1)) && pwT r
def nmP (p q : Nd) : Prop := (p.2.2.2 = true ∨ ∀ r ∈ p.2.2.1.nm, hasEdge q.2.1 p.1 = true ∨ q.2.2.1.off r) ∧ ∀ r ∈ q.2.2.1.nm, p.2.2.1.off r
def nmW (p : Nd) : List Nd → Prop
  | [] => True
  | q :: r => nmP p q ∧ nmW p r
def nmT : List Nd → Prop
  | [] => True
  | p :: r => (∀ r' ∈ p.2.2.1.nm, 100000 ≤ r' ∧ r' < 200000) ∧ nmW p r ∧ nmT r
def Ck (l : List Nd) : Prop := pwT l = true ∧ nmT l
theorem pwT_append : ∀ {a b : List Nd}, pwT (a ++ b) = true → pwT a = true ∧ ∀ p ∈ a, p.2.2.2 = false → ∀ q ∈ b, hasEdge q.2.1 p.1 = true ∨ p.2.2.1.apart q.2.2.1 = true
  | [], b, h => ⟨rfl, fun p hp => by cases hp⟩
  | p :: a, b, h => by
    simp only [List.cons_append, pwT, Bool.and_eq_true, Bool.or_eq_true, List.all_eq_true, List.mem_append] at h ⊢
    obtain ⟨h1, h2⟩ := h
    obtain ⟨h3, h4⟩ := pwT_append h2
    refine ⟨⟨h1.imp_right fun h q hq => h q (.inl hq), h3⟩, fun p' hp hf q hq => ?_⟩
    rcases List.mem_cons.1 hp with rfl | hp
    · rcases h1 with h1 | h1
      · rw [hf] at h1; cases h1
      · exact h1 q (.inr hq)
    · exact h4 p' hp hf q hq
theorem nmW_append {p : Nd} : ∀ {a b : List Nd}, nmW p (a ++ b) → nmW p a ∧ nmW p b
  | [], b, h => ⟨trivial, h⟩
  | q :: a, b, h => ⟨⟨h.1, (nmW_append (a := a) h.2).1⟩, (nmW_append (a := a) h.2).2⟩
theorem nmT_append : ∀ {a b : List Nd}, nmT (a ++ b) → nmT a ∧ nmT b ∧ ∀ p ∈ a, nmW p b
  | [], b, h => ⟨trivial, h, fun p hp => by cases hp⟩
  | p :: a, b, h => by
    obtain ⟨h1, h2, h3⟩ := h
    obtain ⟨h4, h5⟩ := nmW_append h2
    obtain ⟨h6, h7, h8⟩ := nmT_append h3
    exact ⟨⟨h1, h4, h6⟩, h7, fun p' hp => by
      rcases List.mem_cons.1 hp with rfl | hp
      · exact h5
      · exact h8 p' hp⟩
theorem Ck.left {a b : List Nd} (h : Ck (a ++ b)) : Ck a := ⟨(pwT_append h.1).1, (nmT_append h.2).1⟩
theorem Ck.pair {a : List Nd} {q : Nd} (h : Ck (a ++ [q])) : ∀ p ∈ a, P2 p q := fun p hp => by
  have h1 := (nmT_append h.2).2.2 p hp
  refine ⟨fun hf => (pwT_append h.1).2 p hp hf q (by simp), fun hf r hr => ?_, h1.1.2⟩
  rcases h1.1.1 with h | h
  · rw [hf] at h; cases h
  · exact h r hr
theorem Ck.range {a : List Nd} {q : Nd} (h : Ck (a ++ [q])) : ∀ r ∈ q.2.2.1.nm, 100000 ≤ r ∧ r < 200000 := (nmT_append h.2).2.1.1
def WFacc : List Nd → Tr → Base → Prop
  | acc, .nil, _ => Ck acc.reverse
  | acc, .det i o E T, B => WFacc ((i, o, E, false) :: acc) T B
  | acc, .fam i o sm E0 _ F R T, B => Ck (((i, o, E0, true) :: acc).reverse) ∧ ∀ s B', Gon sm B B' → R s B' → SameF E0 (F s) ∧ WFacc ((i, o, F s, true) :: acc) (T s B') B'
theorem WFacc.ck : ∀ {acc : List Nd} {T : Tr} {B : Base}, WFacc acc T B → Ck acc.reverse
  | acc, .nil, _, h => h
  | acc, .det i o E T, B, h => by
    have := WFacc.ck (acc := (i, o, E, false) :: acc) (T := T) h
    rw [List.reverse_cons] at this
    exact this.left
  | acc, .fam i o sm E0 _ F R T, B, h => by
    have := h.1
    rw [List.reverse_cons] at this
    exact this.left
theorem WFacc.wft : ∀ {acc : List Nd} {T : Tr} {B : Base}, WFacc acc T B → WFT T B ∧ (∀ p ∈ acc, AllP (P2 p) T B) ∧ AllP (fun q => ∀ r ∈ q.2.2.1.nm, 100000 ≤ r ∧ r < 200000) T B
  | acc, .nil, _, h => ⟨trivial, fun _ _ => trivial, trivial⟩
  | acc, .det i o E T, B, h => by
    have hc := WFacc.ck (acc := (i, o, E, false) :: acc) (T := T) h
    rw [List.reverse_cons] at hc
    obtain ⟨h1, h2, h3⟩ := WFacc.wft (acc := (i, o, E, false) :: acc) (T := T) h
    exact ⟨⟨h2 _ (by simp), h1⟩, fun p hp => ⟨hc.pair p (by simpa using hp), h2 p (by simp [hp])⟩, hc.range, h3⟩
  | acc, .fam i o sm E0 _ F R T, B, h => by
    have hc0 := h.1
    rw [List.reverse_cons] at hc0
    have key : ∀ s B', Gon sm B B' → R s B' → Ck (acc.reverse ++ [(i, o, F s, true)]) := fun s B' hB hR => by
      have := WFacc.ck (h.2 s B' hB hR).2
      rwa [List.reverse_cons] at this
    refine ⟨fun s B' hB hR => ?_, fun p hp => ⟨hc0.pair p (by simpa using hp), fun s B' hB hR => ?_⟩, hc0.range, fun s B' hB hR => ?_⟩
    · obtain ⟨h1, h2, h3⟩ := WFacc.wft (h.2 s B' hB hR).2
      exact ⟨(h.2 s B' hB hR).1, h2 _ (by simp), h1⟩
    · obtain ⟨h1, h2, h3⟩ := WFacc.wft (h.2 s B' hB hR).2
      exact ⟨(key s B' hB hR).pair p (by simpa using hp), h2 p (by simp [hp])⟩
    · obtain ⟨h1, h2, h3⟩ := WFacc.wft (h.2 s B' hB hR).2
      exact ⟨(key s B' hB hR).range, h3⟩
/-- The rest of a region, in the order ord. -/
def DT (C : Cx) (Q : Exit → X → Prop) (ops : List Oper) (st : List It) (acc : List Nd) (ord : List Nat) (x : X) : Prop :=
  ∃ T : Tr, IdxT C.N ops T ord x.B ∧ TChain C ops (Next C Q st) T x ∧ WFacc acc T x.B
theorem dt_nil {C : Cx} {Q : Exit → X → Prop} {ops : List Oper} {st : List It} {acc : List Nd} {x : X} (h : Ck acc.reverse) (hk : Next C Q st x) : DT C Q ops st acc [] x :=
  ⟨.nil, rfl, fun y hy => hk.alike hy, h⟩
theorem dt_det {C : Cx} {Q : Exit → X → Prop} {ops : List Oper} {st : List It} {acc : List Nd} {i : Nat} {ord : List Nat} {x : X} {o : Oper} {E : Ef} (ho : ops[i]? = some o) (hd : dstIn C.N o.dst = true) (hL : LocB C ops o E x)
    (hk : DT C Q ops st ((i, o, E, false) :: acc) ord (E.app x)) : DT C Q ops st acc (i :: ord) x := by
  obtain ⟨T, h1, h2, h3⟩ := hk
  exact ⟨.det i o E T, ⟨ord, rfl, ho, hd, h1⟩, ⟨hL, h2⟩, h3⟩
theorem dt_fam {C : Cx} {Q : Exit → X → Prop} {ops : List Oper} {st : List It} {acc : List Nd} {i : Nat} {ord : List Nat} {x : X} {o : Oper} {sm : Bool} {E0 : Ef} {S : Type} {F : S → Ef} {R : S → Base → Prop} (ho : ops[i]? = some o) (hd : dstIn C.N o.dst = true)
    (hdep : depL ops [i] ord = true) (hL : LocF C ops o sm E0 F R x) (hck : Ck ((i, o, E0, true) :: acc).reverse) (hF : ∀ s, SameF E0 (F s))
    (hk : ∀ s B', Gon sm x.B B' → R s B' → DT C Q ops st ((i, o, F s, true) :: acc) ord ((F s).appB B' x)) : DT C Q ops st acc (i :: ord) x := by
  have hk' : ∀ s B', ∃ T : Tr, Gon sm x.B B' → R s B' → IdxT C.N ops T ord B' ∧ TChain C ops (Next C Q st) T ((F s).appB B' x) ∧ WFacc ((i, o, F s, true) :: acc) T B' := by
    intro s B'
    by_cases h : Gon sm x.B B' ∧ R s B'
    · obtain ⟨T, h1, h2, h3⟩ := hk s B' h.1 h.2
      exact ⟨T, fun _ _ => ⟨h1, h2, h3⟩⟩
    · exact ⟨.nil, fun h1 h2 => absurd ⟨h1, h2⟩ h⟩
  refine ⟨.fam i o sm E0 S F R (fun s B' => Classical.choose (hk' s B')), ⟨ord, rfl, ho, hd, hdep, fun s B' hB hR => ?_⟩, ⟨hL, fun s B' hB hR => ?_⟩, hck, fun s B' hB hR => ⟨hF s, ?_⟩⟩
  · exact (Classical.choose_spec (hk' s B') hB hR).1
  · exact (Classical.choose_spec (hk' s B') hB hR).2.1
  · exact (Classical.choose_spec (hk' s B') hB hR).2.2
theorem DT.alike {C : Cx} {Q : Exit → X → Prop} {ops : List Oper} {st : List It} {acc : List Nd} {ord : List Nat} {x y : X} (h : DT C Q ops st acc ord x) (e : Alike x y) : DT C Q ops st acc ord y := by
  obtain ⟨T, h1, h2, h3⟩ := h
  exact ⟨T, by rw [← e.B]; exact h1, tchain_alike T h2 e, by rw [← e.B]; exact h3⟩
def nodupB : List Nat → Bool
  | [] => true
  | i :: r => !r.contains i && nodupB r
theorem nodupB_spec : ∀ {l : List Nat}, nodupB l = true → l.Nodup
  | [], _ => List.nodup_nil
  | i :: r, h => by
    simp only [nodupB, Bool.and_eq_true, Bool.not_eq_true', List.contains_eq_mem, decide_eq_false_iff_not] at h
    exact List.nodup_cons.2 ⟨h.1, nodupB_spec h.2⟩
def ordOK (ops : List Oper) (ord : List Nat) : Bool := Nat.beq ord.length ops.length && ord.all (fun i => Nat.blt i ops.length) && (List.range ops.length).all (fun i => ord.contains i) && edgOK ops [] ord && nodupB ord
theorem allIn_get' {N : Nat} : ∀ {l : List Oper}, allIn N l = true → ∀ {i : Nat} {o : Oper}, l[i]? = some o → dstIn N o.dst = true
  | [], _, i, o, h => by simp at h
  | p :: r, h, i, o, ho => by
    simp only [allIn, Bool.and_eq_true] at h
    cases i with
    | zero => simp only [List.getElem?_cons_zero, Option.some.injEq] at ho; subst ho; exact h.1
    | succ i => exact allIn_get' h.2 (by simpa using ho)
theorem edgOK_spec {ops : List Oper} : ∀ {ord ls : List Nat}, edgOK ops ls ord = true → ∀ l j r, ord = l ++ j :: r → ∀ o, ops[j]? = some o → ∀ e ∈ o.after, Region.binds .any e = true → e.on ∈ ls ∨ e.on ∈ l
  | [], _, _, l, j, r, hs, _, _, _, _, _ => by cases l <;> cases hs
  | k :: ord, ls, h, l, j, r, hs, o, ho, e, he, hb => by
    simp only [edgOK, Bool.and_eq_true] at h
    cases l with
    | nil =>
      simp only [List.nil_append, List.cons.injEq] at hs
      obtain ⟨rfl, rfl⟩ := hs
      rw [ho] at h
      have := (Array.all_eq_true'.1 h.1) e he
      simp only [hb, Bool.not_true, Bool.false_or, List.contains_eq_mem, decide_eq_true_eq] at this
      exact .inl this
    | cons k' l =>
      simp only [List.cons_append, List.cons.injEq] at hs
      obtain ⟨rfl, hs⟩ := hs
      rcases edgOK_spec h.2 l j r hs o ho e he hb with h | h
      · rcases List.mem_cons.1 h with h | h
        · exact .inr (by rw [h]; simp)
        · exact .inl h
      · exact .inr (List.mem_cons_of_mem _ h)
theorem drawT_of {C : Cx} {Q : Exit → X → Prop} {ops : List Oper} {st : List It} {id : Nat} {x : X} (ord : List Nat) (hm : C.P.follows .mixedOrders = true) (ho : ordOK ops ord = true) (hn : x.n ≤ 100000)
    (h : allIn C.N ops = true → DT C Q ops st [] ord ⟨x.σ, 200000, x.hs, x.B, x.ms⟩) : drawS C Q id ops st x := by
  intro hst bs a w hr
  obtain ⟨hin, hst⟩ := hst
  have hin' : allIn C.N ops = true := by simpa [codeIn] using hin
  simp only [contS]
  refine wpIn_region_any hm ?_
  obtain ⟨T, h1, h2, h3⟩ := h hin'
  obtain ⟨w1, _, w2⟩ := h3.wft
  simp only [ordOK, Bool.and_eq_true] at ho
  obtain ⟨⟨⟨⟨o1, o2⟩, o3⟩, o4⟩, o5⟩ := ho
  have ol : ord.length = ops.length := Nat.eq_of_beq_eq_true o1
  have oc : ∀ i, i < ops.length → i ∈ ord := fun i hi => by
    have := (List.all_eq_true.1 o3) i (List.mem_range.2 hi)
    simpa using this
  have hrel : Rel C ⟨x.σ, 200000, x.hs, x.B, x.ms⟩ bs a { w with drawn := w.drawn + 1 } :=
    ⟨⟨hr.t.size, hr.t.defers, fun i hi => Nat.lt_of_lt_of_le (hr.t.msin i hi) (by simp only; omega), hr.t.tmps, fun t => closed_mono (by simp only; omega) _ (hr.t.cl t)⟩,
     ⟨fun i o hi => ⟨Nat.lt_of_lt_of_le (hr.h.live i o hi).1 (by simp only; omega), (hr.h.live i o hi).2⟩, fun i o hi => EObj.closed_mono (by simp only; omega) _ (hr.h.cl i o hi), hr.h.inj, fun i b hi => ⟨(hr.h.old i b hi).1, Nat.lt_of_lt_of_le (hr.h.old i b hi).2 (by simp only; omega)⟩, hr.h.new, hr.h.frame, hr.h.os, hr.h.tape, hr.h.output, hr.h.hsize, hr.h.newE, hr.h.frameE, hr.h.apart, hr.h.eo⟩⟩
  have := tree_main (Q := contS C (Meets C Q) st) (fun x' bs' a' w' hr' hk => hk hst bs' a' w' hr') ops.length T ord (Array.replicate ops.length false) ⟨x.σ, 200000, x.hs, x.B, x.ms⟩ bs a { w with drawn := w.drawn + 1 }
    ol (by simp) (nodupB_spec o5) (fun i hi => by
      have hlt : i < ops.length := by have := (List.all_eq_true.1 o2) i hi; exact Nat.le_of_ble_eq_true this
      exact ⟨hlt, by simp [Array.getD_eq_getD_getElem?, hlt]⟩) (fun i hi _ => oc i hi)
    (fun l j r hs o ho' e he hb => by
      rcases edgOK_spec o4 l j r hs o ho' e he hb with h | h
      · cases h
      · exact .inr h) h2 h1 w1 (w2.imp fun q hq r hr' => by
        obtain ⟨r1, r2⟩ := hq r hr'
        exact ⟨fun t => av_closed (by omega) _ (hr.t.cl t), fun i o hi => ⟨by have := (hr.h.live i o hi).1; omega, EObj.av_closed (by omega) _ (hr.h.cl i o hi)⟩, by simp only; omega, fun hm' => by have := hr.t.msin r hm'; omega⟩) hrel
  simpa using this
def endT (C : Cx) (Q : Exit → X → Prop) (st : List It) (acc : List Nd) (x : X) : Prop := Ck acc.reverse ∧ Next C Q st x
def specT (C : Cx) (Q : Exit → X → Prop) (ops : List Oper) (st : List It) (acc : List Nd) (i : Nat) (o : Oper) (ord : List Nat) (x : X) : Prop :=
  ops[i]? = some o → RunsIt ops o x → dstIn C.N o.dst = true → allIn C.N ops = true → DT C Q ops st acc (i :: ord) x
/-- A call: one of many effects. -/
def callT (C : Cx) (Q : Exit → X → Prop) (ops : List Oper) (st : List It) (f : FuncId) (args : List EV) (acc : List Nd) (i : Nat) (o : Oper) (ord : List Nat) (x : X) : Prop :=
  ∃ (sm : Bool) (E0 : Ef) (S : Type) (F : S → Ef) (R : S → Base → Prop), (∀ t, t ∈ opLooks o.op ++ gLook ops o.guard → t ∈ E0.looks) ∧
    (∀ y, AgreeB E0 y x → CallB C f args o.dst y (fun z => ∃ s B', Gon sm y.B B' ∧ R s B' ∧ Alike z ((F s).appB B' y)) ∨
      (∃ v, closed y.n v ∧ (∀ bs w, (callFunc f (reals bs args).toArray).run C.P w = .ok (.value (real bs v)) w) ∧ ∃ s B', Gon sm y.B B' ∧ R s B' ∧ Alike { σ := put y.σ o.dst v, n := y.n, hs := y.hs, B := y.B, ms := y.ms } ((F s).appB B' y))) ∧
    depL ops [i] ord = true ∧ Ck ((i, o, E0, true) :: acc).reverse ∧ (∀ s, SameF E0 (F s)) ∧
    (allIn C.N ops = true → ∀ s B', Gon sm x.B B' → R s B' → DT C Q ops st ((i, o, F s, true) :: acc) ord ((F s).appB B' x))
mutual
def drawT (C : Cx) (Q : Exit → X → Prop) (ops : List Oper) (st : List It) : Nat → List Nd → List Nat → X → Prop
  | 0, _, _, _ => False
  | _ + 1, acc, [], x => endT C Q st acc x
  | n + 1, acc, i :: ord, x =>
    match ops[i]? with
    | none => False
    | some o =>
      match guardOf ops x.σ o.guard with
      | .run => opT C Q ops st n acc i o ord x
      | .test b want d => testT C Q ops st n b want d acc i o ord x
      | .skip => drawT C Q ops st n ((i, o, { dst := o.dst, v := .tup [], ups := [], a := 0, looks := gLook ops o.guard, foot := [] }, false) :: acc) ord { σ := put x.σ o.dst (.tup []), n := x.n, hs := x.hs, B := x.B, ms := x.ms }
      | .bad => False
def opT (C : Cx) (Q : Exit → X → Prop) (ops : List Oper) (st : List It) : Nat → List Nd → Nat → Oper → List Nat → X → Prop
  | 0, _, _, _, _, _ => False
  | n + 1, acc, i, o, ord, x =>
    match stepF C ops o x with
    | some (E, c) => c ∧ drawT C Q ops st n ((i, o, E, false) :: acc) ord { σ := put x.σ E.dst E.v, n := x.n + E.a, hs := E.ups ++ x.hs, B := x.B, ms := x.ms }
    | none =>
      match o.op with
      | .call { callee := .value (.func f), args, .. } => noAny (args.toList.map (ev x.σ)) = true ∧ callT C Q ops st f (args.toList.map (ev x.σ)) acc i o ord x
      | .call { callee := .value (.tmp t), args, .. } =>
        match tget x.σ t with
        | .fn (.func f) first cap => noAny (args.toList.map (ev x.σ)) = true ∧ callT C Q ops st f (first ++ args.toList.map (ev x.σ) ++ cap) acc i o ord x
        | _ => specT C Q ops st acc i o ord x
      | _ => specT C Q ops st acc i o ord x
def testT (C : Cx) (Q : Exit → X → Prop) (ops : List Oper) (st : List It) : Nat → Bool → Bool → Tmp → List Nd → Nat → Oper → List Nat → X → Prop
  | 0, _, _, _, _, _, _, _, _ => False
  | n + 1, b, want, d, acc, i, o, ord, x =>
    (b = want → opT C Q ops st n acc i o ord { σ := (d, .bool want) :: x.σ, n := x.n, hs := x.hs, B := x.B, ms := x.ms }) ∧
    (b = !want → drawT C Q ops st n ((i, o, { dst := o.dst, v := .tup [], ups := [], a := 0, looks := gLook ops o.guard, foot := [] }, false) :: acc) ord { σ := put ((d, .bool (!want)) :: x.σ) o.dst (.tup []), n := x.n, hs := x.hs, B := x.B, ms := x.ms })
end
theorem testT_tt {C : Cx} {Q : Exit → X → Prop} {ops : List Oper} {st : List It} {n : Nat} {d : Tmp} {acc : List Nd} {i : Nat} {o : Oper} {ord : List Nat} {x : X} :
    testT C Q ops st (n + 1) true true d acc i o ord x = opT C Q ops st n acc i o ord { σ := (d, .bool true) :: x.σ, n := x.n, hs := x.hs, B := x.B, ms := x.ms } := by simp [testT]
theorem testT_ff {C : Cx} {Q : Exit → X → Prop} {ops : List Oper} {st : List It} {n : Nat} {d : Tmp} {acc : List Nd} {i : Nat} {o : Oper} {ord : List Nat} {x : X} :
    testT C Q ops st (n + 1) false false d acc i o ord x = opT C Q ops st n acc i o ord { σ := (d, .bool false) :: x.σ, n := x.n, hs := x.hs, B := x.B, ms := x.ms } := by simp [testT]
theorem testT_tf {C : Cx} {Q : Exit → X → Prop} {ops : List Oper} {st : List It} {n : Nat} {d : Tmp} {acc : List Nd} {i : Nat} {o : Oper} {ord : List Nat} {x : X} :
    testT C Q ops st (n + 1) true false d acc i o ord x = drawT C Q ops st n ((i, o, { dst := o.dst, v := .tup [], ups := [], a := 0, looks := gLook ops o.guard, foot := [] }, false) :: acc) ord { σ := put ((d, .bool true) :: x.σ) o.dst (.tup []), n := x.n, hs := x.hs, B := x.B, ms := x.ms } := by simp [testT]
theorem testT_ft {C : Cx} {Q : Exit → X → Prop} {ops : List Oper} {st : List It} {n : Nat} {d : Tmp} {acc : List Nd} {i : Nat} {o : Oper} {ord : List Nat} {x : X} :
    testT C Q ops st (n + 1) false true d acc i o ord x = drawT C Q ops st n ((i, o, { dst := o.dst, v := .tup [], ups := [], a := 0, looks := gLook ops o.guard, foot := [] }, false) :: acc) ord { σ := put ((d, .bool false) :: x.σ) o.dst (.tup []), n := x.n, hs := x.hs, B := x.B, ms := x.ms } := by simp [testT]
theorem testT_split {C : Cx} {Q : Exit → X → Prop} {ops : List Oper} {st : List It} {n : Nat} {b want : Bool} {d : Tmp} {acc : List Nd} {i : Nat} {o : Oper} {ord : List Nat} {x : X}
    (h1 : b = want → opT C Q ops st n acc i o ord { σ := (d, .bool want) :: x.σ, n := x.n, hs := x.hs, B := x.B, ms := x.ms })
    (h2 : b = !want → drawT C Q ops st n ((i, o, { dst := o.dst, v := .tup [], ups := [], a := 0, looks := gLook ops o.guard, foot := [] }, false) :: acc) ord { σ := put ((d, .bool (!want)) :: x.σ) o.dst (.tup []), n := x.n, hs := x.hs, B := x.B, ms := x.ms }) :
    testT C Q ops st (n + 1) b want d acc i o ord x := by
  simp only [testT]; exact ⟨h1, h2⟩
theorem stepF_looks {C : Cx} {ops : List Oper} {o : Oper} {x : X} {E : Ef} {c : Prop} (h : stepF C ops o x = some (E, c)) : E.looks = opLooks o.op ++ gLook ops o.guard := by
  unfold stepF at h
  split at h
  · simp only [Option.some.injEq, Prod.mk.injEq] at h; rw [← h.1]
  · split at h
    · split at h <;> (simp only [Option.some.injEq, Prod.mk.injEq] at h; rw [← h.1])
    · split at h
      · simp only [Option.some.injEq, Prod.mk.injEq] at h; rw [← h.1]
      · cases h
theorem callT_dt {C : Cx} {Q : Exit → X → Prop} {ops : List Oper} {st : List It} {f : FuncId} {args : List EV} {acc : List Nd} {i : Nat} {o : Oper} {ord : List Nat} {x : X} (h : callT C Q ops st f args acc i o ord x) (ho : ops[i]? = some o) (hrun : RunsIt ops o x) (hd : dstIn C.N o.dst = true) (hin : allIn C.N ops = true)
    (hnd : ∀ c, o.op ≠ .defer c) (hexec : ∀ y, (∀ t ∈ opLooks o.op, tget y.σ t = tget x.σ t) → ∀ bs a w, Rel C y bs a w → (execOp a.eval o).run C.P w = (callFunc f (reals bs args).toArray).run C.P w ∧ closeds y.n args) : DT C Q ops st acc (i :: ord) x := by
  obtain ⟨sm, E0, S, F, R, hlk, hcall, hdep, hck, hF, hk⟩ := h
  refine dt_fam ho hd hdep (locB_of_goes (fun t ht => hlk t (List.mem_append.2 (.inr ht))) hrun (K := fun y z => ∃ s B', Gon sm y.B B' ∧ R s B' ∧ Alike z ((F s).appB B' y)) (fun y hy => ?_)) hck hF (hk hin)
  have hex := hexec y (fun t ht => hy.σ t (hlk t (List.mem_append.2 (.inl ht))))
  rcases hcall y hy with h | ⟨v, hcl, hv, hk⟩
  · exact goes_callB hnd hex hd h
  · exact goes_call hnd hex hd (f := f) (args := args) (K := fun z => ∃ s B', Gon sm y.B B' ∧ R s B' ∧ Alike z ((F s).appB B' y)) (.inr ⟨v, hcl, hv, hk⟩)
theorem drawT_sound_all {C : Cx} {Q : Exit → X → Prop} {ops : List Oper} {st : List It} (hin : allIn C.N ops = true) (n : Nat) :
    (∀ acc ord x, drawT C Q ops st n acc ord x → DT C Q ops st acc ord x) ∧
    (∀ acc i o ord x, opT C Q ops st n acc i o ord x → ops[i]? = some o → RunsIt ops o x → dstIn C.N o.dst = true → DT C Q ops st acc (i :: ord) x) ∧
    (∀ b want d acc i o ord x, testT C Q ops st n b want d acc i o ord x → ops[i]? = some o → guardOf ops x.σ o.guard = .test b want d → dstIn C.N o.dst = true → DT C Q ops st acc (i :: ord) x) := by
  induction n with
  | zero => exact ⟨fun _ _ _ h => by simp [drawT] at h, fun _ _ _ _ _ h => by simp [opT] at h, fun _ _ _ _ _ _ _ _ h => by simp [testT] at h⟩
  | succ n ih =>
    obtain ⟨ih1, ih2, ih3⟩ := ih
    refine ⟨?_, ?_, ?_⟩
    · intro acc ord x h
      cases ord with
      | nil => simp only [drawT] at h; exact dt_nil h.1 h.2
      | cons i ord =>
        simp only [drawT] at h
        split at h
        · exact h.elim
        · rename_i o ho
          have hd := allIn_get' hin ho
          split at h
          · rename_i hg; exact ih2 acc i o ord x h ho (.inl hg) hd
          · rename_i b want d hg; exact ih3 b want d acc i o ord x h ho hg hd
          · rename_i hg; exact dt_det ho hd (locB_skip' hg) (ih1 _ _ _ h)
          · exact h.elim
    · intro acc i o ord x h ho hrun hd
      simp only [opT] at h
      split at h
      · rename_i E c hs
        refine dt_det ho hd (locB_of_goes (fun t ht => by rw [stepF_looks hs]; exact List.mem_append.2 (.inr ht)) hrun (fun y hy => stepF_goesB hd hs h.1 hy)) (ih1 _ _ _ h.2)
      · split at h
        · rename_i f args _ hop
          obtain ⟨h1, h2⟩ := h
          refine callT_dt h2 ho hrun hd hin (by rw [hop]; intro c; simp) (fun y hy bs a w hr => ?_)
          have el := evl_agree (σ := x.σ) (σ' := y.σ) (l := args.toList) (fun t ht => hy t (by rw [hop]; simp [opLooks, oLook, ht]))
          have e := evals_eq hr.t args.toList (by rw [el]; exact h1)
          have e2 : args.map a.eval = (reals bs (args.toList.map (ev x.σ))).toArray := by apply Array.ext'; rw [← el]; simpa using e
          obtain ⟨dst, op, type, pos, after, guard⟩ := o
          simp only at hop; subst hop
          exact ⟨by simp [execOp, resolve, Act.eval, Deferred.ofValue, invoke, e2], by rw [← el]; exact closeds_evs hr.t _⟩
        · rename_i t args _ hop
          split at h
          · rename_i f first cap hg
            obtain ⟨h1, h2⟩ := h
            refine callT_dt h2 ho hrun hd hin (by rw [hop]; intro c; simp) (fun y hy bs a w hr => ?_)
            have el := evl_agree (σ := x.σ) (σ' := y.σ) (l := args.toList) (fun t ht => hy t (by rw [hop]; simp [opLooks, ht]))
            have e := evals_eq hr.t args.toList (by rw [el]; exact h1)
            have e2 : args.map a.eval = (reals bs (args.toList.map (ev x.σ))).toArray := by apply Array.ext'; rw [← el]; simpa using e
            have eg : tget y.σ t = .fn (.func f) first cap := by rw [hy t (by rw [hop]; simp [opLooks, oLook])]; exact hg
            have ef := eval_ev hr.t (.tmp t) (by simp [ev, eg])
            simp only [ev, eg] at ef
            have hcl := hr.t.cl t
            rw [eg] at hcl
            simp only [closed] at hcl
            obtain ⟨dst, op, type, pos, after, guard⟩ := o
            simp only at hop; subst hop
            refine ⟨?_, ?_⟩
            · simp [execOp, resolve, ef, real, Deferred.ofValue, invoke, e2, reals_eq]
            · rw [closeds_append, closeds_append]
              exact ⟨⟨hcl.1, by rw [← el]; exact closeds_evs hr.t _⟩, hcl.2⟩
          · exact h ho hrun hd hin
        · exact h ho hrun hd hin
    · intro b want d acc i o ord x h ho hg hd
      simp only [testT] at h
      obtain ⟨h1, h2⟩ := h
      obtain ⟨g1, g2⟩ := guardOf_test hg
      by_cases e : b = want
      · have hal : Alike ⟨(d, .bool want) :: x.σ, x.n, x.hs, x.B, x.ms⟩ x := by subst e; exact alike_known g1
        refine (ih2 acc i o ord _ (h1 e) ho (.inr ⟨want, want, d, by have := g2 want; simpa using this, rfl⟩) hd).alike hal
      · have e' : b = !want := by cases b <;> cases want <;> simp_all
        refine dt_det ho hd (locB_skip hg e') ((ih1 _ _ _ (h2 e')).alike ?_)
        have hal : Alike ⟨(d, .bool (!want)) :: x.σ, x.n, x.hs, x.B, x.ms⟩ x := by rw [← e']; exact alike_known g1
        exact ⟨fun t => by simp only [Ef.app, tget_put]; split
                           · rfl
                           · exact hal.σ t, rfl, fun i => rfl, rfl, rfl⟩
theorem dt_of {C : Cx} {Q : Exit → X → Prop} {ops : List Oper} {st : List It} {acc : List Nd} {ord : List Nat} {x : X} (n : Nat) (hin : allIn C.N ops = true) (h : drawT C Q ops st n acc ord x) : DT C Q ops st acc ord x := (drawT_sound_all hin n).1 acc ord x h
end Go.Ew
