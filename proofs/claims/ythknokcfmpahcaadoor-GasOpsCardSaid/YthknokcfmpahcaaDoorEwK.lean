/- Regions that draw their order: one walk in the order of the text serves every order. -/
import Derived.Test.YthknokcfmpahcaaDoorEwJ
set_option linter.unusedSimpArgs false
set_option linter.unusedVariables false
namespace Go.Ew
open Go RowKit

/-- The same states, told otherwise. -/
structure Alike (x y : X) : Prop where
  σ : ∀ t, tget x.σ t = tget y.σ t
  n : x.n = y.n
  hs : ∀ i, hget x.hs i = hget y.hs i
  B : x.B = y.B
  ms : x.ms = y.ms
theorem Alike.rfl' (x : X) : Alike x x := ⟨fun _ => rfl, rfl, fun _ => rfl, rfl, rfl⟩
theorem Alike.symm {x y : X} (h : Alike x y) : Alike y x := ⟨fun t => (h.σ t).symm, h.n.symm, fun i => (h.hs i).symm, h.B.symm, h.ms.symm⟩
theorem Alike.trans {x y z : X} (h : Alike x y) (k : Alike y z) : Alike x z := ⟨fun t => (h.σ t).trans (k.σ t), h.n.trans k.n, fun i => (h.hs i).trans (k.hs i), h.B.trans k.B, h.ms.trans k.ms⟩
theorem Rel.alike {C : Cx} {x y : X} {bs : Nat → Nat} {a : Act} {w : World} (h : Rel C x bs a w) (e : Alike x y) : Rel C y bs a w := by
  refine ⟨⟨h.t.size, by rw [← e.ms]; exact h.t.defers, by rw [← e.ms, ← e.n]; exact h.t.msin, ?_, ?_⟩, ?_⟩
  · intro t ht; rw [← e.σ t] at ht ⊢; exact h.t.tmps t ht
  · intro t; rw [← e.σ t, ← e.n]; exact h.t.cl t
  · rw [← e.B]
    refine ⟨?_, ?_, ?_, ?_, ?_, h.h.frame, h.h.os, h.h.tape, h.h.output, h.h.hsize, fun i o hi => by rw [← e.hs i] at hi; exact h.h.newE i o hi, h.h.frameE, h.h.apart, h.h.eo⟩
    · intro i o hi; rw [← e.hs i] at hi; rw [← e.n]; exact h.h.live i o hi
    · intro i o hi; rw [← e.hs i] at hi; rw [← e.n]; exact h.h.cl i o hi
    · intro i j oi oj hi hj hb; rw [← e.hs i] at hi; rw [← e.hs j] at hj; exact h.h.inj i j oi oj hi hj hb
    · intro i b hi; rw [← e.n]; exact h.h.old i b hi
    · intro i o hi; rw [← e.hs i] at hi; exact h.h.new i o hi
/-- What an operation makes of a state, and what it looks at. -/
structure Ef where
  dst : Option Tmp
  v : EV
  ups : List (Nat × Option EObj)
  a : Nat
  looks : List Nat
  foot : List Nat
def Ef.app (E : Ef) (x : X) : X := { σ := put x.σ E.dst E.v, n := x.n + E.a, hs := E.ups ++ x.hs, B := x.B, ms := x.ms }
/-- Alike in what E looks at. -/
structure Agree (E : Ef) (x y : X) : Prop where
  B : x.B = y.B
  ms : x.ms = y.ms
  σ : ∀ t, t ∈ E.looks → tget x.σ t = tget y.σ t
  hs : ∀ i, i ∈ E.foot → hget x.hs i = hget y.hs i
  n : E.a ≠ 0 → x.n = y.n
def eOp (C : Cx) (ops : List Oper) (o : Oper) (K : X → Prop) (x : X) : Prop :=
  match guardOf ops x.σ o.guard with
  | .run => Goes C o x K
  | .test b want _ => (b = want → Goes C o x K) ∧ (b = !want → K { σ := put x.σ o.dst (.tup []), n := x.n, hs := x.hs, B := x.B, ms := x.ms })
  | .bad => False
/-- In each state that is like x in what E looks at, operation o does what E says. -/
def Loc (C : Cx) (ops : List Oper) (o : Oper) (E : Ef) (x : X) : Prop := ∀ y, Agree E y x → eOp C ops o (fun z => Alike z (E.app y)) y
def hkeys : List (Nat × Option EObj) → List Nat
  | [] => []
  | (i, _) :: r => i :: hkeys r
def disj : List Nat → List Nat → Bool
  | [], _ => true
  | i :: r, l => !l.contains i && disj r l
def dstApart (dst : Option Nat) (l : List Nat) : Bool :=
  match dst with
  | some d => !l.contains d
  | none => true
/-- Two operations of which neither sees what the other does. -/
def Ef.apart (A B : Ef) : Bool :=
  (dstApart A.dst B.looks && dstApart B.dst A.looks) && (A.dst.isNone || A.dst != B.dst) &&
  (disj (hkeys A.ups) B.foot && disj (hkeys B.ups) A.foot) && disj (hkeys A.ups) (hkeys B.ups) && (A.a == 0 || B.a == 0)
theorem hget_app (l hs : List (Nat × Option EObj)) (i : Nat) : hget (l ++ hs) i = if i ∈ hkeys l then hget l i else hget hs i := by
  induction l with
  | nil => simp [hkeys]
  | cons p r ih =>
    obtain ⟨j, o⟩ := p
    rw [List.cons_append, hget_cons, hget_cons, ih]
    simp only [hkeys, List.mem_cons]
    by_cases e : j = i
    · subst e; simp
    · have : ¬ i = j := fun h => e h.symm
      simp [e, this]
theorem disj_spec : ∀ {l m : List Nat}, disj l m = true → ∀ i, i ∈ l → i ∉ m
  | [], m, _, i, hi => by simp at hi
  | j :: r, m, h, i, hi => by
    simp only [disj, Bool.and_eq_true, Bool.not_eq_true', List.contains_eq_mem, decide_eq_false_iff_not] at h
    rcases List.mem_cons.1 hi with rfl | hi
    · exact h.1
    · exact disj_spec h.2 i hi
theorem tget_put (σ : List (Nat × EV)) (dst : Option Tmp) (v : EV) (t : Nat) : tget (put σ dst v) t = if dst = some t then v else tget σ t := by
  cases dst with
  | none => simp [put]
  | some d =>
    simp only [put, tget_cons, Option.some.injEq]
theorem apart_agree {A B : Ef} (h : A.apart B = true) (x y : X) (hxy : Agree B x (A.app y)) : Agree B x y := by
  simp only [Ef.apart, Bool.and_eq_true] at h
  obtain ⟨⟨⟨⟨⟨h1, h2⟩, h3⟩, h4, h5⟩, h6⟩, h7⟩ := h
  refine ⟨hxy.B, hxy.ms, fun t ht => ?_, fun i hi => ?_, fun hn => ?_⟩
  · rw [hxy.σ t ht]
    simp only [Ef.app, tget_put]
    rw [if_neg]
    intro e
    rw [e] at h1
    simp only [dstApart, Bool.not_eq_true', List.contains_eq_mem, decide_eq_false_iff_not] at h1
    exact h1 ht
  · rw [hxy.hs i hi]
    simp only [Ef.app, hget_app]
    rw [if_neg]
    intro e
    exact disj_spec h4 i e hi
  · rw [hxy.n hn]
    simp only [Ef.app]
    simp only [Bool.or_eq_true, beq_iff_eq] at h7
    omega
theorem apart_symm {A B : Ef} (h : A.apart B = true) : B.apart A = true := by
  have d2 : ∀ (l m : List Nat), disj l m = true → disj m l = true := by
    intro l m hd
    induction m with
    | nil => rfl
    | cons j r ih =>
      have hs := disj_spec hd
      simp only [disj, Bool.and_eq_true, Bool.not_eq_true', List.contains_eq_mem, decide_eq_false_iff_not]
      refine ⟨fun hj => hs j hj (by simp), ih ?_⟩
      clear ih
      induction l with
      | nil => rfl
      | cons i q ihq =>
        have := hs i (by simp)
        simp only [disj, Bool.and_eq_true, Bool.not_eq_true', List.contains_eq_mem, decide_eq_false_iff_not]
        refine ⟨fun hi => this (by simp [hi]), ihq ?_ (fun k hk => hs k (by simp [hk]))⟩
        simp only [disj, Bool.and_eq_true] at hd; exact hd.2
  simp only [Ef.apart, Bool.and_eq_true] at h ⊢
  obtain ⟨⟨⟨⟨⟨h1, h2⟩, h3⟩, h4, h5⟩, h6⟩, h7⟩ := h
  refine ⟨⟨⟨⟨⟨h2, h1⟩, ?_⟩, h5, h4⟩, d2 _ _ h6⟩, ?_⟩
  · cases ha : A.dst <;> cases hb : B.dst <;> simp_all
    exact fun e => h3 e.symm
  · rw [Bool.or_comm]; exact h7
theorem apart_comm {A B : Ef} (h : A.apart B = true) (x : X) : Alike (A.app (B.app x)) (B.app (A.app x)) := by
  simp only [Ef.apart, Bool.and_eq_true] at h
  obtain ⟨⟨⟨⟨⟨h1, h2⟩, h3⟩, h4, h5⟩, h6⟩, h7⟩ := h
  refine ⟨fun t => ?_, ?_, fun i => ?_, rfl, rfl⟩
  · simp only [Ef.app, tget_put]
    by_cases ea : A.dst = some t
    · by_cases eb : B.dst = some t
      · simp [ea, eb] at h3
      · simp [ea, eb]
    · simp [ea]
  · simp only [Ef.app]; omega
  · simp only [Ef.app, hget_app]
    by_cases ea : i ∈ hkeys A.ups
    · have := disj_spec h6 i ea
      simp [ea, this]
    · simp [ea]
theorem agree_alike {E : Ef} {x y z : X} (h : Agree E x y) (e : Alike y z) : Agree E x z :=
  ⟨h.B.trans e.B, h.ms.trans e.ms, fun t ht => (h.σ t ht).trans (e.σ t), fun i hi => (h.hs i hi).trans (e.hs i), fun hn => (h.n hn).trans e.n⟩
theorem app_alike {E : Ef} {x y : X} (e : Alike x y) : Alike (E.app x) (E.app y) :=
  ⟨fun t => by simp only [Ef.app, tget_put, e.σ t], by simp only [Ef.app, e.n], fun i => by simp only [Ef.app, hget_app, e.hs i], e.B, e.ms⟩
theorem loc_alike {C : Cx} {ops : List Oper} {o : Oper} {E : Ef} {x y : X} (h : Loc C ops o E x) (e : Alike x y) : Loc C ops o E y :=
  fun z hz => h z (agree_alike hz e.symm)
/-- The walk in the order of the text. -/
def Chain (C : Cx) (ops : List Oper) (K : X → Prop) : List (Nat × Oper × Ef) → X → Prop
  | [], x => ∀ y, Alike y x → K y
  | (_, o, E) :: r, x => Loc C ops o E x ∧ Chain C ops K r (E.app x)
theorem chain_alike {C : Cx} {ops : List Oper} {K : X → Prop} : ∀ (l : List (Nat × Oper × Ef)) {x y : X}, Chain C ops K l x → Alike x y → Chain C ops K l y
  | [], x, y, h, e => fun z hz => h z (hz.trans e.symm)
  | (_, o, E) :: r, x, y, h, e => ⟨loc_alike h.1 e, chain_alike r h.2 (app_alike e)⟩
theorem chain_swap {C : Cx} {ops : List Oper} {K : X → Prop} {i j : Nat} {oi oj : Oper} {A B : Ef} {r : List (Nat × Oper × Ef)} {x : X} (hap : A.apart B = true)
    (h : Chain C ops K ((j, oj, A) :: (i, oi, B) :: r) x) : Chain C ops K ((i, oi, B) :: (j, oj, A) :: r) x := by
  obtain ⟨h1, h2, h3⟩ := h
  refine ⟨?_, ?_, ?_⟩
  · intro y hy
    refine h2 y ?_
    -- y agrees with x on B's looks: so with A.app x
    have := hap
    simp only [Ef.apart, Bool.and_eq_true] at hap
    obtain ⟨⟨⟨⟨⟨a1, a2⟩, a3⟩, a4, a5⟩, a6⟩, a7⟩ := hap
    refine ⟨hy.B, hy.ms, fun t ht => ?_, fun k hk => ?_, fun hn => ?_⟩
    · rw [hy.σ t ht]
      simp only [Ef.app, tget_put]
      rw [if_neg]
      intro e
      rw [e] at a1
      simp only [dstApart, Bool.not_eq_true', List.contains_eq_mem, decide_eq_false_iff_not] at a1
      exact a1 ht
    · rw [hy.hs k hk]
      simp only [Ef.app, hget_app]
      rw [if_neg]
      intro e
      exact disj_spec a4 k e hk
    · rw [hy.n hn]
      simp only [Ef.app]
      simp only [Bool.or_eq_true, beq_iff_eq] at a7
      omega
  · intro y hy
    exact h1 y (apart_agree (apart_symm hap) y x hy)
  · exact chain_alike r h3 (apart_comm (apart_symm hap) x)
theorem chain_first {C : Cx} {ops : List Oper} {K : X → Prop} {i : Nat} {oi : Oper} {B : Ef} {l2 : List (Nat × Oper × Ef)} : ∀ (l1 : List (Nat × Oper × Ef)) {x : X}, (∀ p ∈ l1, p.2.2.apart B = true) →
    Chain C ops K (l1 ++ (i, oi, B) :: l2) x → Chain C ops K ((i, oi, B) :: (l1 ++ l2)) x
  | [], x, _, h => h
  | (j, oj, A) :: r, x, hap, h => by
    have h2 : Chain C ops K ((j, oj, A) :: (i, oi, B) :: (r ++ l2)) x := ⟨h.1, chain_first r (fun p hp => hap p (by simp [hp])) h.2⟩
    exact chain_swap (hap (j, oj, A) (by simp)) h2
theorem eOp_real {C : Cx} {ops : List Oper} {i : Nat} {o : Oper} (h0 : ops.toArray[i]? = some o) {K : X → Prop} {K' : Act → World → Prop} {Q' : Exit → Act → World → Prop} {x : X} (hd : dstIn C.N o.dst = true) (h : eOp C ops o K x)
    (hk : ∀ x' bs' a' w', Rel C x' bs' a' w' → K x' → K' a' w') {bs : Nat → Nat} {a : Act} {w : World} (hr : Rel C x bs a w) : wpOpIn (fe C) 0 C.P ops.toArray Q' i K' a w := by
  unfold wpOpIn
  simp only [h0]
  obtain ⟨g1, g2⟩ := guardOf_sound hr.t (ops := ops) (o := o)
  unfold eOp at h
  cases hg : guardOf ops x.σ o.guard with
  | run =>
    simp only [hg] at h
    rw [if_pos (g1 hg)]
    exact (Oper.wpIn_mono (fun a' w' ⟨x', bs', hr', hk'⟩ => hk x' bs' a' w' hr' hk') (h bs a w hr _))
  | test b want d =>
    simp only [hg] at h
    obtain ⟨g3, g4⟩ := g2 b want d hg
    rw [g3]
    by_cases e : b = want
    · subst e
      rw [if_pos (by simp)]
      exact (Oper.wpIn_mono (fun a' w' ⟨x', bs', hr', hk'⟩ => hk x' bs' a' w' hr' hk') (h.1 rfl bs a w hr _))
    · rw [if_neg (by simpa using e)]
      have e' : b = !want := by cases b <;> cases want <;> simp_all
      exact ⟨fun _ _ => trivial, hk ⟨put x.σ o.dst (.tup []), x.n, x.hs, x.B, x.ms⟩ bs _ w ⟨hr.t.next (Nat.le_refl _) (fun _ _ => rfl) hd (v := .tup []) (.inr (by simp [real, reals, undef])) (by simp [closed, closeds]), hr.h⟩ (h.2 e')⟩
  | bad => simp only [hg] at h
def hasEdge (o : Oper) (j : Nat) : Bool := o.after.any fun e => Region.binds .any e && e.on == j
/-- Of each two operations the later one waits for the earlier, or they are apart. -/
def PW (l : List (Nat × Oper × Ef)) : Prop := l.Pairwise fun p q => hasEdge q.2.1 p.1 = true ∨ p.2.2.apart q.2.2 = true
theorem draw_main {C : Cx} {ops : List Oper} {K : X → Prop} {Q : Exit → Act → World → Prop} (hQ : ∀ x bs a w, Rel C x bs a w → K x → Q .normal a w)
    (hback : ∀ i o, ops[i]? = some o → ∀ e ∈ o.after, Region.binds .any e = true → e.on < i) :
    ∀ (fuel : Nat) (l : List (Nat × Oper × Ef)) (listed : Array Bool) (x : X) (bs : Nat → Nat) (a : Act) (w : World), l.length = fuel → listed.size = ops.length →
      (∀ p ∈ l, ops[p.1]? = some p.2.1 ∧ dstIn C.N p.2.1.dst = true ∧ listed.getD p.1 true = false) → (∀ i, i < ops.length → listed.getD i true = false → ∃ p ∈ l, p.1 = i) → (l.Pairwise fun p q => p.1 < q.1) →
      PW l → Chain C ops K l x → Rel C x bs a w → wpAnyIn (fe C) 0 C.P .any ops.toArray Q fuel listed a w
  | 0, l, listed, x, bs, a, w, hlen, hsz, hin, hall, hsort, hpw, hch, hr => by
    have hl : l = [] := List.length_eq_zero_iff.1 hlen
    subst hl
    refine ⟨?_, hQ x bs a w hr (hch x (Alike.rfl' x))⟩
    simp only [Region.ready, List.filter_eq_nil_iff, List.mem_range, List.size_toArray]
    intro i hi
    have : listed.getD i true = true := by
      cases hb : listed.getD i true with
      | true => rfl
      | false => obtain ⟨p, hp, _⟩ := hall i hi hb; simp at hp
    simp [Array.getD_eq_getD_getElem?] at this
    simp [this]
  | fuel + 1, l, listed, x, bs, a, w, hlen, hsz, hin, hall, hsort, hpw, hch, hr => by
    refine ⟨?_, ?_⟩
    · intro hready
      exfalso
      cases l with
      | nil => simp at hlen
      | cons p r =>
        obtain ⟨hp1, hp2, hp3⟩ := hin p (by simp)
        have hlt : p.1 < ops.length := by
          rcases Nat.lt_or_ge p.1 ops.length with h | h
          · exact h
          · rw [List.getElem?_eq_none h] at hp1; simp at hp1
        have : p.1 ∈ Region.ready .any ops.toArray listed := by
          rw [mem_ready]
          refine ⟨hp3, p.2.1, by simpa using hp1, ?_⟩
          intro e he hb
          have hon := hback p.1 p.2.1 hp1 e he hb
          cases hle : listed.getD e.on true with
          | true =>
            have : e.on < listed.size := by omega
            simpa [Array.getD_eq_getD_getElem?, this] using hle
          | false =>
            obtain ⟨q, hq, hq1⟩ := hall e.on (by omega) hle
            rcases List.mem_cons.1 hq with rfl | hq
            · omega
            · have := (List.pairwise_cons.1 hsort).1 q hq
              omega
        rw [hready] at this; simp at this
    · intro i hi
      obtain ⟨hun, o, ho, hedges⟩ := mem_ready.1 hi
      have hlt : i < ops.length := by
        rcases Nat.lt_or_ge i ops.length with h | h
        · exact h
        · simp [List.getElem?_eq_none h] at ho
      obtain ⟨p, hp, hpi⟩ := hall i hlt hun
      obtain ⟨l1, l2, rfl⟩ := List.append_of_mem hp
      obtain ⟨i', oi, E⟩ := p
      simp only at hpi
      subst hpi
      obtain ⟨hp1, hp2, hp3⟩ := hin (i', oi, E) hp
      have hoo : oi = o := by simp at ho hp1; rw [hp1] at ho; simpa using ho
      subst hoo
      have hap : ∀ q ∈ l1, q.2.2.apart E = true := by
        intro q hq
        have hpq := (List.pairwise_append.1 hpw).2.2 q hq (i', oi, E) (by simp)
        rcases hpq with he | he
        · exfalso
          simp only [hasEdge, Array.any_eq_true'] at he
          obtain ⟨e, he1, he2⟩ := he
          simp only [Bool.and_eq_true, beq_iff_eq] at he2
          have hlist := hedges e he1 he2.1
          obtain ⟨_, _, hq3⟩ := hin q (by simp [hq])
          rw [he2.2] at hlist
          rcases Nat.lt_or_ge q.1 listed.size with h | h
          · simp [Array.getD_eq_getD_getElem?, h] at hlist hq3
            rw [hlist] at hq3; simp at hq3
          · simp [Array.getD_eq_getD_getElem?, Array.getElem?_eq_none h] at hlist
        · exact he
      have hch' := chain_first l1 hap hch
      have hns : ∀ q ∈ l1 ++ l2, q.1 ≠ i' := by
        intro q hq e
        rcases List.mem_append.1 hq with h | h
        · have := (List.pairwise_append.1 hsort).2.2 q h (i', oi, E) (by simp); omega
        · have := (List.pairwise_cons.1 (List.pairwise_append.1 hsort).2.1).1 q h; simp only at this; omega
      have hsub : (l1 ++ l2).Sublist (l1 ++ (i', oi, E) :: l2) := List.Sublist.append (List.Sublist.refl _) (List.sublist_cons_self _ _)
      refine eOp_real (by simpa using hp1) hp2 (hch'.1 x ⟨rfl, rfl, fun _ _ => rfl, fun _ _ => rfl, fun _ => rfl⟩) ?_ hr
      intro x' bs' a' w' hr' hal
      refine draw_main hQ hback fuel (l1 ++ l2) _ (E.app x) bs' a' w' ?_ (by simpa using hsz) ?_ ?_ (hsort.sublist hsub) (hpw.sublist hsub) hch'.2 (hr'.alike hal)
      · simp at hlen ⊢; omega
      · intro q hq
        obtain ⟨q1, q2, q3⟩ := hin q (hsub.subset hq)
        refine ⟨q1, q2, ?_⟩
        rw [getD_set_ne true (Ne.symm (hns q hq))]; exact q3
      · intro k hk hkl
        by_cases e : k = i'
        · subst e
          simp [Array.getD_eq_getD_getElem?, show k < listed.size by omega] at hkl
        · rw [getD_set_ne true (Ne.symm e)] at hkl
          obtain ⟨q, hq, hq1⟩ := hall k hk hkl
          refine ⟨q, ?_, hq1⟩
          rcases List.mem_append.1 hq with h | h
          · exact List.mem_append.2 (.inl h)
          · rcases List.mem_cons.1 h with rfl | h
            · exact absurd hq1.symm e
            · exact List.mem_append.2 (.inr h)
end Go.Ew
