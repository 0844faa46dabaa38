/- Part of a proof over the seat Ytncjbfkkgdepoaa. -/
import Derived.Test.YtncjbfkkgdepoaaEng1
import Derived.Deep.AppendSrc
import Derived.Lib.ConvBytes
import Derived.Lib.BitFns
import Derived.WideKeyArr
import Derived.Scope
set_option linter.unusedSimpArgs false
set_option linter.unusedVariables false
set_option maxRecDepth 100000
namespace Go.Ew
open Go RowKit
mutual
/-- The same value under other names. -/
def ren (ρ : Nat → Nat) : EV → EV
 | .ptr i off => .ptr (ρ i) off
 | .sl i off len cap => .sl (ρ i) off len cap
 | .mp i => .mp (ρ i)
 | .fn f a b => .fn f (Z8 ρ a) (Z8 ρ b)
 | .agg cs => .agg (Z8 ρ cs)
 | .tup vs => .tup (Z8 ρ vs)
 | .ifc t v => .ifc t (ren ρ v)
 | v => v
def Z8 (ρ : Nat → Nat) : List EV → List EV
 | [] => []
 | v :: vs => ren ρ v :: Z8 ρ vs
end
mutual
theorem real_ren (bs ρ : Nat → Nat) : ∀ v, real bs (ren ρ v) = real (fun i => bs (ρ i)) v
 | .any => by simp [ren, real]
 | .int _ _ => by simp [ren, real]
 | .bool _ => by simp [ren, real]
 | .str _ => by simp [ren, real]
 | .ptr i off => by simp [ren, real]
 | .sl i off len cap => by simp [ren, real]
 | .mp i => by simp [ren, real]
 | .fn f a b => by simp [ren, real, P4 bs ρ a, P4 bs ρ b]
 | .agg cs => by simp [ren, real, P4 bs ρ cs]
 | .tup vs => by simp [ren, real, P4 bs ρ vs]
 | .ifc t v => by simp [ren, real, real_ren bs ρ v]
 | .raw v => by simp [ren, real]
theorem P4 (bs ρ : Nat → Nat) : ∀ l, A8 bs (Z8 ρ l) = A8 (fun i => bs (ρ i)) l
 | [] => by simp [Z8, A8]
 | v :: vs => by simp [Z8, A8, real_ren bs ρ v, P4 bs ρ vs]
end
mutual
theorem closed_ren {n m : Nat} {ρ : Nat → Nat} (hρ : ∀ i, i < n → ρ i < m) : ∀ v, closed n v → closed m (ren ρ v)
 | .any, _ => by simp [ren, closed]
 | .int _ _, _ => by simp [ren, closed]
 | .bool _, _ => by simp [ren, closed]
 | .str _, _ => by simp [ren, closed]
 | .ptr i off, h => by simp only [ren, closed] at h ⊢; exact hρ i h
 | .sl i off len cap, h => by simp only [ren, closed] at h ⊢; exact hρ i h
 | .mp i, h => by simp only [ren, closed] at h ⊢; exact hρ i h
 | .fn f a b, h => by simp only [ren, closed] at h ⊢; exact ⟨M6 hρ a h.1, M6 hρ b h.2⟩
 | .agg cs, h => by simp only [ren, closed] at h ⊢; exact M6 hρ cs h
 | .tup vs, h => by simp only [ren, closed] at h ⊢; exact M6 hρ vs h
 | .ifc t v, h => by simp only [ren, closed] at h ⊢; exact closed_ren hρ v h
 | .raw v, _ => by simp [ren, closed]
theorem M6 {n m : Nat} {ρ : Nat → Nat} (hρ : ∀ i, i < n → ρ i < m) : ∀ l, A0 n l → A0 m (Z8 ρ l)
 | [], _ => by simp [Z8, A0]
 | v :: vs, h => by simp only [Z8, A0] at h ⊢; exact ⟨closed_ren hρ v h.1, M6 hρ vs h.2⟩
end
mutual
theorem ren_id {n : Nat} {ρ : Nat → Nat} (hρ : ∀ i, i < n → ρ i = i) : ∀ v, closed n v → ren ρ v = v
 | .any, _ => by simp [ren]
 | .int _ _, _ => by simp [ren]
 | .bool _, _ => by simp [ren]
 | .str _, _ => by simp [ren]
 | .ptr i off, h => by simp only [closed] at h; simp only [ren, hρ i h]
 | .sl i off len cap, h => by simp only [closed] at h; simp only [ren, hρ i h]
 | .mp i, h => by simp only [closed] at h; simp only [ren, hρ i h]
 | .fn f a b, h => by simp only [closed] at h; simp only [ren, V3 hρ a h.1, V3 hρ b h.2]
 | .agg cs, h => by simp only [closed] at h; simp only [ren, V3 hρ cs h]
 | .tup vs, h => by simp only [closed] at h; simp only [ren, V3 hρ vs h]
 | .ifc t v, h => by simp only [closed] at h; simp only [ren, ren_id hρ v h]
 | .raw v, _ => by simp [ren]
theorem V3 {n : Nat} {ρ : Nat → Nat} (hρ : ∀ i, i < n → ρ i = i) : ∀ l, A0 n l → Z8 ρ l = l
 | [], _ => by simp [Z8]
 | v :: vs, h => by simp only [A0] at h; simp only [Z8, ren_id hρ v h.1, V3 hρ vs h.2]
end
def EObj.ren (ρ : Nat → Nat) : EObj → EObj
 | .cells cs T fr => .cells (Z8 ρ cs) T fr
 | .obj o => .obj o
theorem EObj.real_ren (bs ρ : Nat → Nat) (o : EObj) : (o.ren ρ).real bs = o.real (fun i => bs (ρ i)) := by
 cases o <;> simp [EObj.ren, EObj.real, P4]
theorem EObj.closed_ren {n m : Nat} {ρ : Nat → Nat} (hρ : ∀ i, i < n → ρ i < m) (o : EObj) (h : o.closed n) : (o.ren ρ).closed m := by
 cases o with
 | cells cs T fr => exact M6 hρ cs h
 | obj o => trivial
theorem EObj.ren_id {n : Nat} {ρ : Nat → Nat} (hρ : ∀ i, i < n → ρ i = i) (o : EObj) (h : o.closed n) : o.ren ρ = o := by
 cases o with
 | cells cs T fr => simp only [EObj.ren, V3 hρ cs h]
 | obj o => rfl

/-- It returns v; the blocks olds hold the first of os, new blocks the rest; of what else was there nothing has turned. -/
def Cs8 (olds : List Nat) (v : EV) (n : Nat) (os : List (Option EObj)) (w : World) (e : Ending) (w' : World) : Prop :=
 ∃ bs : Nat → Nat, e = .returned (real bs v) ∧ closed n v ∧ Stay (fun b => b < w.heap.size ∧ b ∉ olds) w w' ∧ (∀ i b, olds[i]? = some b → bs i = b) ∧
  (∀ i o, os[i]? = some (some o) → o.closed n ∧ w'.heap[bs i]? = some (o.real bs) ∧ (olds.length ≤ i → w.heap.size ≤ bs i)) ∧
  (∀ i j oi oj, os[i]? = some (some oi) → os[j]? = some (some oj) → bs i = bs j → i = j)
def Bx8 : Nat → List EObj → List (Nat × Option EObj)
 | _, [] => []
 | k, o :: os => (k, some o) :: Bx8 (k + 1) os
theorem Ab1 : ∀ (os : List EObj) (k i : Nat), hget (Bx8 k os) i = if k ≤ i then os[i - k]? else none
 | [], k, i => by simp [Bx8, hget]
 | o :: os, k, i => by
  rw [Bx8, C0, Ab1 os (k + 1) i]
  by_cases e : k = i
  ·subst e; simp
  ·rw [if_neg e]
   by_cases h : k + 1 ≤ i
   ·rw [if_pos h, if_pos (by omega), show i - k = (i - (k + 1)) + 1 by omega]; simp
   ·rw [if_neg h, if_neg (by omega)]
def Ba5 (olds : List Nat) : Nat → Nat := fun i => olds.getD i 0
def Bw6 (w : World) (olds : List Nat) : Base := ⟨w, fun b => b < w.heap.size ∧ b ∉ olds⟩
abbrev cxW (P : Program) (N : Nat) (w : World) (olds : List Nat) : Cx := ⟨P, N, none, olds, w, fun _ => False⟩
theorem U5 {olds : List Nat} {i b : Nat} (h : olds[i]? = some b) : Ba5 olds i = b := by simp [Ba5, List.getD_eq_getElem?_getD, h]
theorem HRel.startW {P : Program} {N : Nat} {w : World} {olds : List Nat} {objs : List EObj} (hl : objs.length = olds.length) (hnd : olds.Nodup)
  (h : ∀ (i b : Nat) (o : EObj), olds[i]? = some b → objs[i]? = some o → w.heap[b]? = some (o.real (Ba5 olds)) ∧ o.closed olds.length) : HRel (cxW P N w olds) (Bw6 w olds) olds.length (Bx8 0 objs) (Ba5 olds) w := by
 have key : ∀ i o, hget (Bx8 0 objs) i = some o → ∃ b, olds[i]? = some b ∧ objs[i]? = some o := by
  intro i o hi
  rw [Ab1] at hi
  simp only [Nat.zero_le, if_true, Nat.sub_zero] at hi
  have hlt : i < objs.length := by
   rcases Nat.lt_or_ge i objs.length with h | h
   ·exact h
   ·rw [List.getElem?_eq_none h] at hi; simp at hi
  exact ⟨olds[i]'(by omega), List.getElem?_eq_getElem (by omega), hi⟩
 have lt : ∀ i b, olds[i]? = some b → i < olds.length := by
  intro i b hi
  rcases Nat.lt_or_ge i olds.length with h | h
  ·exact h
  ·rw [List.getElem?_eq_none h] at hi; simp at hi
 refine ⟨?_, ?_, ?_, ?_, ?_, fun _ h => ⟨h.1, rfl⟩, rfl, rfl, rfl, Nat.le_refl _, fun _ _ _ h => h, fun _ h => h.elim, fun _ h => h.elim, Nat.le_refl _, rfl, rfl, rfl⟩
 ·intro i o hi
  obtain ⟨b, hb, ho⟩ := key i o hi
  exact ⟨lt i b hb, by rw [U5 hb]; exact (h i b o hb ho).1⟩
 ·intro i o hi
  obtain ⟨b, hb, ho⟩ := key i o hi
  exact (h i b o hb ho).2
 ·intro i j oi oj hi hj hbb
  obtain ⟨b, hb, ho⟩ := key i oi hi
  obtain ⟨b', hb', ho'⟩ := key j oj hj
  rw [U5 hb, U5 hb'] at hbb
  subst hbb
  exact (List.getElem?_inj (lt i b hb) hnd).1 (hb.trans hb'.symm)
 ·intro i b hi
  exact ⟨U5 hi, lt i b hi⟩
 ·rintro i o hi ⟨_, hD⟩
  obtain ⟨b, hb, ho⟩ := key i o hi
  rw [U5 hb] at hD
  exact hD (List.mem_of_getElem? hb)
theorem By3 {P : Program} {f : FuncId} {fn : Func} {c : Code} {w : World} {S : Type} (G : S → Prop) (vf : S → EV) (nf : S → Nat) (osf : S → List (Option EObj)) (olds : List Nat) (objs : List EObj) (args : List EV)
  (hf : P.funcs[f]? = some fn) (hb : fn.body = some c) (hin : C5 fn.ntmps c = true) (hl : args.length ≤ fn.ntmps) (hcl : A0 olds.length args)
  (hlen : objs.length = olds.length) (hnd : olds.Nodup) (hh : ∀ (i b : Nat) (o : EObj), olds[i]? = some b → objs[i]? = some o → w.heap[b]? = some (o.real (Ba5 olds)) ∧ o.closed olds.length)
  (h : Next (cxW P fn.ntmps w olds) (Bn4 (cxW P fn.ntmps w olds) fn.results.toList (fun v x => x.B = Bw6 w olds ∧ ∃ s, G s ∧ v = vf s ∧ x.n ≤ nf s ∧ (∀ j, j < olds.length → ∃ o, (osf s)[j]? = some (some o)) ∧ ∀ i o, (osf s)[i]? = some (some o) → hget x.hs i = some o)) [.c c] ⟨argσ 0 args, olds.length, Bx8 0 objs, Bw6 w olds, []⟩) :
  Calls P f (A8 (Ba5 olds) args).toArray w (fun e w' => ∃ s, G s ∧ Cs8 olds (vf s) (nf s) (osf s) w e w') := by
 have := N4 (C := cxW P fn.ntmps w olds) (K := fun v x => x.B = Bw6 w olds ∧ ∃ s, G s ∧ v = vf s ∧ x.n ≤ nf s ∧ (∀ j, j < olds.length → ∃ o, (osf s)[j]? = some (some o)) ∧ ∀ i o, (osf s)[i]? = some (some o) → hget x.hs i = some o) rfl hf hb rfl hin hl (HRel.startW hlen hnd hh) hcl h
 refine this.mono ?_
 rintro e w' ⟨v, x', bs', rfl, hcv, hr, hB, s, hG, rfl, hn, ho, hk⟩
 rw [hB] at hr
 refine ⟨s, hG, bs', rfl, closed_mono hn _ hcv, ⟨hr.hsize, fun k hk => (hr.frame k hk).2, hr.os, hr.tape, hr.output⟩, fun i b hi => (hr.old i b hi).1, fun i o hi => ?_, fun i j oi oj hi hj hbb => hr.inj i j oi oj (hk i oi hi) (hk j oj hj) hbb⟩
 refine ⟨EObj.closed_mono hn _ (hr.cl i o (hk i o hi)), (hr.live i o (hk i o hi)).2, fun hge => ?_⟩
 rcases Nat.lt_or_ge (bs' i) w.heap.size with hlt | hge'
 ·exfalso
  by_cases hmem : bs' i ∈ olds
  ·obtain ⟨j, hj⟩ := List.getElem?_of_mem hmem
   have hjl : j < olds.length := by
    rcases Nat.lt_or_ge j olds.length with h | h
    ·exact h
    ·rw [List.getElem?_eq_none h] at hj; simp at hj
   obtain ⟨oj, hoj⟩ := ho j hjl
   have := hr.inj i j o oj (hk i o hi) (hk j oj hoj) (hr.old j _ hj).1.symm
   omega
  ·exact hr.new i o (hk i o hi) ⟨hlt, hmem⟩
 ·exact hge'
/-- Where a callee's name lies among the caller's. -/
def rho : List Nat → Nat → Nat → Nat
 | [], n, i => n + i
 | a :: _, _, 0 => a
 | _ :: m, n, i + 1 => rho m n i
theorem Av5 {m : List Nat} {n i : Nat} (h : i < m.length) : rho m n i = m[i] := by
 induction m generalizing i with
 | nil => simp at h
 | cons a m ih =>
  cases i with
  | zero => rfl
  | succ i => simp only [rho, List.getElem_cons_succ]; exact ih (by simpa using h)
theorem Ce5 {m : List Nat} {n i : Nat} (h : m.length ≤ i) : rho m n i = n + (i - m.length) := by
 induction m generalizing i with
 | nil => simp [rho]
 | cons a m ih =>
  cases i with
  | zero => simp at h
  | succ i => simp only [rho, List.length_cons] at h ⊢; rw [ih (by omega)]; omega
def Bf0 (ρ : Nat → Nat) : Nat → List (Option EObj) → List (Nat × Option EObj) → List (Nat × Option EObj)
 | _, [], hs => hs
 | i, none :: os, hs => Bf0 ρ (i + 1) os ((ρ i, none) :: hs)
 | i, some o :: os, hs => Bf0 ρ (i + 1) os ((ρ i, some (o.ren ρ)) :: hs)
theorem Bj6 {ρ : Nat → Nat} : ∀ (os : List (Option EObj)) (j : Nat) (hs : List (Nat × Option EObj)) (t : Nat) (o : EObj), hget (Bf0 ρ j os hs) t = some o →
  (∃ i o', os[i]? = some (some o') ∧ ρ (j + i) = t ∧ o = o'.ren ρ) ∨ (hget hs t = some o ∧ ∀ i, i < os.length → ρ (j + i) ≠ t)
 | [], j, hs, t, o, h => .inr ⟨h, by simp⟩
 | o0 :: os, j, hs, t, o, h => by
  have h' : hget (Bf0 ρ (j + 1) os ((ρ j, o0.map (EObj.ren ρ)) :: hs)) t = some o := by cases o0 <;> exact h
  rcases Bj6 os (j + 1) _ t o h' with ⟨i, o', h1, h2, h3⟩ | ⟨h1, h2⟩
  ·exact .inl ⟨i + 1, o', by simpa using h1, by rw [← h2]; congr 1; omega, h3⟩
  ·rw [C0] at h1
   by_cases e : ρ j = t
   ·rw [if_pos e] at h1
    cases o0 with
    | none => simp at h1
    | some o0 =>
     simp only [Option.map_some, Option.some.injEq] at h1
     exact .inl ⟨0, o0, by simp, by simpa using e, h1.symm⟩
   ·rw [if_neg e] at h1
    refine .inr ⟨h1, fun i hi => ?_⟩
    cases i with
    | zero => simpa using e
    | succ i => have := h2 i (by simpa using hi); rw [show j + (i + 1) = j + 1 + i by omega]; exact this
attribute [go_sem] ren Z8 EObj.ren Bf0 Bx8
/-- Whatever x tells of, y tells of. -/
def Sub (C : Cx) (x y : X) : Prop := ∀ bs a w, Rel C x bs a w → ∃ bs', Rel C y bs' a w
theorem Weak.sub {C : Cx} {x y : X} (h : Weak C x y) : Sub C x y := fun bs _ _ hr => ⟨bs, hr.weak h⟩
theorem Sub.trans {C : Cx} {x y z : X} (h : Sub C x y) (k : Sub C y z) : Sub C x z := fun bs a w hr => by
 obtain ⟨bs', hr'⟩ := h bs a w hr
 exact k bs' a w hr'
/-- What y tells under the names that ρ gives is told by x. -/
structure WeakR (C : Cx) (ρ : Nat → Nat) (x y : X) : Prop where
 σ : ∀ t, G2 y.σ t = .any ∨ ren ρ (G2 y.σ t) = G2 x.σ t
 hs : ∀ i o, hget y.hs i = some o → hget x.hs (ρ i) = some (o.ren ρ)
 cl : ∀ t, closed y.n (G2 y.σ t)
 hcl : ∀ i o, hget y.hs i = some o → i < y.n ∧ o.closed y.n
 inj : ∀ i j oi oj, hget y.hs i = some oi → hget y.hs j = some oj → ρ i = ρ j → i = j
 olds : C.olds.length ≤ y.n
 fix : ∀ i, i < C.olds.length → ρ i = i
 B : y.B = x.B
 ms : x.ms = y.ms.map ρ
 msin : ∀ i ∈ y.ms, i < y.n
theorem Ci4 {ρ : Nat → Nat} {v : EV} (h : ren ρ v = .any) : v = .any := by cases v <;> simp [ren] at h ⊢
theorem WeakR.sub {C : Cx} {ρ : Nat → Nat} {x y : X} (h : WeakR C ρ x y) : Sub C x y := by
 intro bs a w hr
 refine ⟨fun i => bs (ρ i), ⟨hr.t.size, ?_, h.msin, ?_, h.cl⟩, ?_⟩
 ·rw [hr.t.defers, h.ms]; simp [Am1, List.map_map, Function.comp_def]
 ·intro t ht
  rcases h.σ t with e | e
  ·exact absurd e ht
  ·rw [← real_ren, e]
   exact hr.t.tmps t (fun h0 => ht (Ci4 (e.trans h0)))
 ·have hh := hr.h
  rw [h.B]
  refine ⟨?_, fun i o hi => (h.hcl i o hi).2, ?_, ?_, ?_, hh.frame, hh.os, hh.tape, hh.output, hh.hsize, ?_, hh.frameE, hh.apart, hh.eo⟩
  ·intro i o hi
   exact ⟨(h.hcl i o hi).1, by rw [← EObj.real_ren]; exact (hh.live _ _ (h.hs i o hi)).2⟩
  ·intro i j oi oj hi hj hb
   exact h.inj i j oi oj hi hj (hh.inj _ _ _ _ (h.hs i oi hi) (h.hs j oj hj) hb)
  ·intro i b hi
   have hl : i < C.olds.length := by
    rcases Nat.lt_or_ge i C.olds.length with h | h
    ·exact h
    ·rw [List.getElem?_eq_none h] at hi; simp at hi
   have := h.olds
   exact ⟨by rw [h.fix i hl]; exact (hh.old i b hi).1, by omega⟩
  ·intro i o hi
   exact hh.new _ _ (h.hs i o hi)
  ·intro i o hi
   exact hh.newE _ _ (h.hs i o hi)
def rσ (ρ : Nat → Nat) (n : Nat) (σ : List (Nat × EV)) : List (Nat × EV) → Prop
 | [] => True
 | (t, v) :: r => (G2 σ t = ren ρ v ∧ closed n v) ∧ rσ ρ n σ r
def rhs (ρ : Nat → Nat) (n : Nat) (hs : List (Nat × Option EObj)) : List (Nat × Option EObj) → Prop
 | [] => True
 | (i, none) :: r => rhs ρ n hs r
 | (i, some o) :: r => (hget hs (ρ i) = some (o.ren ρ) ∧ i < n ∧ o.closed n) ∧ rhs ρ n hs r
/-- A loop: S tells the states at the head. -/
theorem G1 {C : Cx} {Q : Exit → X → Prop} {c : Code} {st : List It} {x : X} {S : Type} (I : S → Prop) (Xs : S → X) (μ : S → Nat) (s0 : S) (hI : I s0) (h0 : Sub C x (Xs s0))
  (round : ∀ s, I s → Next C (As7 C Q st (fun x' => ∃ s', I s' ∧ Sub C x' (Xs s') ∧ μ s' < μ s)) [.c c] (Xs s)) : Bu8 C Q (.loop c) st x := by
 intro hst bs a w hr
 simp only [H4]
 obtain ⟨hin, hst⟩ := hst
 simp only [C5] at hin
 intro b k cs hro hb hrm
 have key : ∀ n s a w, μ s = n → I s → (∃ bs, Rel C (Xs s) bs a w) →
   ∃ e a' w', H4 C (Au3 C Q) st e a' w' ∧ ArrivesIn (Machine.fenced C.P (fe C)) C.P (lone (b.atR a (.code c :: .inLoop c :: k)) cs w) b k cs e a' w' := by
  intro n
  induction n using Nat.strongRecOn with
  | _ n ih =>
   intro s a w hn hs hr
   obtain ⟨bs, hr⟩ := hr
   have hround := round s hs ⟨hin, trivial⟩ bs a w hr
   simp only [H4] at hround
   obtain ⟨e, a₁, w₁, hq, harr⟩ := hround b (.inLoop c :: k) cs hro hb hrm
   obtain ⟨x₁, bs₁, hr₁, hq⟩ := hq
   cases e with
   | normal =>
    simp only [As7] at hq
    obtain ⟨s', hI', hw', hlt⟩ := hq
    obtain ⟨e₂, a₂, w₂, hq₂, harr₂⟩ := ih (μ s') (hn ▸ hlt) s' a₁ w₁ rfl hI' (hw' bs₁ a₁ w₁ hr₁)
    exact ⟨e₂, a₂, w₂, hq₂, .of_steps (StepsIn.trans harr (.one (fenced_calm hb hrm rfl) stepR_inLoop)) harr₂⟩
   | exit id => exact ⟨_, a₁, w₁, M5 hst hr₁ hq (by simp), .pass (x := .inLoop c) rfl (fun _ _ => .inl (by simp)) harr⟩
   | goto l => exact hq.elim
   | ret => exact ⟨_, a₁, w₁, M5 hst hr₁ hq (by simp), .pass (x := .inLoop c) rfl (fun _ _ => .inl (by simp)) harr⟩
   | panic ch => exact hq.elim
   | outgrown => exact hq.elim
 obtain ⟨e, a', w', hq, harr⟩ := key _ s0 a w rfl hI (h0 bs a w hr)
 exact ⟨e, a', w', hq, .of_steps (.one (fenced_calm hb hrm rfl) stepR_loop) harr⟩
attribute [go_sem] rσ rhs
end Go.Ew
namespace Go.Ew
open Go RowKit
def R1 (s : ByteArray) : List EV := s.data.toList.map fun b => EV.int .u8 b.toNat
theorem Av9 (bs : Nat → Nat) (s : ByteArray) : A8 bs (R1 s) = byteCells s := by
 rw [A9]; simp [R1, byteCells, Function.comp_def, real]
theorem N3 (n : Nat) (s : ByteArray) : A0 n (R1 s) := by
 rw [D8]; intro v hv
 obtain ⟨b, _, rfl⟩ := List.mem_map.1 hv
 trivial
theorem Bn0 (s : ByteArray) : (R1 s).length = s.size := by
 unfold R1; rw [List.length_map, Array.length_toList]; rfl
/-- What is appended, what is copied: how many, their cells. -/
def R6 (B : Base) (hs : List (Nat × Option EObj)) (sz : Nat) (x : EV) : Option (Nat × List EV × Prop) :=
 match x with
 | .sl i off m _ => match hget hs i with
  | some (.cells cs _ _) => some (m, (cs.drop off).take (m * sz), off + m * sz ≤ cs.length)
  | _ => none
 | .raw (.slice (some a) m _) => some (m, (List.range (m * sz)).map fun j => F5 B (a.add j), ∀ j, j < m * sz → B.D a.block ∧ (B.w.cell? (a.add j)).isSome = true)
 | .raw (.slice none m _) => some (0, [], m = 0)
 | .str s => some (s.size, R1 s, sz = 1)
 | _ => none
theorem Y5 {C : Cx} {n : Nat} {B : Base} {hs : List (Nat × Option EObj)} {bs : Nat → Nat} {w : World} (h : HRel C B n hs bs w) {sz m : Nat} {x : EV} {news : List EV} {c : Prop}
  (hx : R6 B hs sz x = some (m, news, c)) (hc : c) :
  (∀ w' : World, (Builtin.lenOf (real bs x)).run C.P w' = .ok m w') ∧ (∀ k, k ≤ m → (Builtin.firstCells sz k (real bs x)).run C.P w = .ok (A8 bs (news.take (k * sz))).toArray w) ∧ news.length = m * sz ∧ A0 n news := by
 unfold R6 at hx
 split at hx
 ·rename_i i off m' cap
  split at hx
  ·rename_i cs T fr hg
   simp only [Option.some.injEq, Prod.mk.injEq] at hx; obtain ⟨rfl, rfl, rfl⟩ := hx
   obtain ⟨l1, l2⟩ := h.live i _ hg
   have hcl : A0 n cs := h.cl i _ hg
   simp only [EObj.real] at l2
   refine ⟨fun _ => rfl, ?_, by simp; omega, ?_⟩
   ·intro k hk
    have hkm : k * sz ≤ m' * sz := Nat.mul_le_mul_right _ hk
    refine run_firstCells_some (P := C.P) w sz k ⟨bs i, off, none⟩ m' cap (A8 bs (((cs.drop off).take (m' * sz)).take (k * sz))) (by simp [A9]; omega) ?_
    intro j v hj
    rw [K8, K1 l2]
    rw [A9] at hj
    simp only [List.getElem?_map, List.getElem?_take, List.getElem?_drop] at hj
    split at hj
    ·split at hj
     ·simpa [A9] using hj
     ·simp at hj
    ·simp at hj
   ·rw [D8]; intro v hv
    exact G4 hcl (List.mem_of_mem_drop (List.mem_of_mem_take hv))
  ·simp at hx
 ·rename_i a m' cap
  simp only [Option.some.injEq, Prod.mk.injEq] at hx; obtain ⟨rfl, rfl, rfl⟩ := hx
  refine ⟨fun _ => rfl, ?_, by simp, ?_⟩
  ·intro k hk
   have hkm : k * sz ≤ m' * sz := Nat.mul_le_mul_right _ hk
   refine run_firstCells_some (P := C.P) w sz k a m' cap _ (by rw [A9, List.length_map, List.length_take, List.length_map, List.length_range]; omega) ?_
   intro j v hj
   have hjl : j < m' * sz := by
    have := (List.getElem?_eq_some_iff.1 hj).1
    rw [A9, List.length_map, List.length_take, List.length_map, List.length_range] at this
    omega
   rw [Ae2 h (by rw [show (a.add j).block = a.block by unfold Addr.add; split <;> rfl]; exact (hc j hjl).1)]
   rw [A9] at hj
   simp only [List.getElem?_map, List.getElem?_take, List.map_map] at hj
   split at hj
   ·rename_i hlt
    rw [List.getElem?_range (by omega)] at hj
    simp only [Option.map_some, Option.some.injEq] at hj
    have hs := (hc j (by omega)).2
    cases hxx : B.w.cell? (a.add j) with
    | none => rw [hxx] at hs; simp at hs
    | some u => rw [← hj]; simp [F5, hxx, J0]
   ·simp at hj
  ·rw [D8]; intro v hv
   obtain ⟨j, _, rfl⟩ := List.mem_map.1 hv
   exact I7 _ _
 ·simp only [Option.some.injEq, Prod.mk.injEq] at hx; obtain ⟨rfl, rfl, rfl⟩ := hx
  subst hc
  exact ⟨fun _ => rfl, fun k hk => by simp [real, Builtin.firstCells, A8], by simp, by simp [A0]⟩
 ·rename_i s
  simp only [Option.some.injEq, Prod.mk.injEq] at hx; obtain ⟨rfl, rfl, rfl⟩ := hx
  subst hc
  refine ⟨fun _ => rfl, ?_, by rw [Bn0]; omega, N3 _ _⟩
  intro k hk
  have e : A8 bs ((R1 s).take (k * 1)) = (byteCells s).take k := by rw [← Av9 bs, A9, A9, List.map_take, Nat.mul_one]
  rw [e]
  simp only [real, Builtin.firstCells, Sem.run_pure]
  congr 1
  apply Array.ext'
  simp [byteCells, ByteArray.data_extract, List.map_take]
 ·simp at hx
theorem HRel.drew {C : Cx} {n : Nat} {B : Base} {hs : List (Nat × Option EObj)} {bs : Nat → Nat} {w : World} (h : HRel C B n hs bs w) : HRel C B n hs bs w.drew :=
 ⟨h.live, h.cl, h.inj, h.old, h.new, h.frame, h.os, h.tape, h.output, h.hsize, h.newE, h.frameE, h.apart, h.eo⟩
theorem Ci2 {n : Nat} {zs : List EV} {v : EV} (h : v ∈ rep n zs) : v ∈ zs := by
 simp only [rep, List.mem_flatten] at h
 obtain ⟨l, hl, hv⟩ := h
 rw [(List.mem_replicate.1 hl).2] at hv; exact hv
/-- A slice of the call's own, or none as yet: block r. -/
def Own (n : Nat) (T : TypeId) (zs : List EV) (r : Nat) (e : EV) (oo : Option EObj) (len : Nat) (xs : List EV) : Prop :=
 xs.length = len * zs.length ∧ ((e = .raw (.slice none 0 0) ∧ oo = none ∧ len = 0) ∨
  ∃ cap rest, e = .sl r 0 len cap ∧ len ≤ cap ∧ cap ≤ maxLen ∧ (rest.length = (cap - len) * zs.length ∧ ∀ v ∈ rest, v ∈ zs) ∧ oo = some (.cells (xs ++ rest) T (0, 0)) ∧ A0 n (xs ++ rest))
theorem closeds_append {n : Nat} {a b : List EV} : A0 n (a ++ b) ↔ A0 n a ∧ A0 n b := by
 simp only [D8, List.mem_append]
 exact ⟨fun h => ⟨fun v hv => h v (.inl hv), fun v hv => h v (.inr hv)⟩, fun h v hv => hv.elim (h.1 v) (h.2 v)⟩
theorem Ah0 {bs : Nat → Nat} {z : Array Value} {zs : List EV} (hz : z = (A8 bs zs).toArray) (hne : zs ≠ []) (n : Nat) : Builtin.zeroCells z n = (A8 bs (rep n zs)).toArray := by
 have := Ai1 (bs := bs) (n := n) (zs := zs) z hz hne
 rw [← this]; unfold Builtin.zeroCells
 rw [hz]; simp [A9]
theorem HRel.grow {C : Cx} {n : Nat} {B : Base} {hs : List (Nat × Option EObj)} {bs : Nat → Nat} {w : World} (h : HRel C B n hs bs w) (r : Nat) : HRel C B n ((r, none) :: hs) bs w := by
 have key : ∀ i o, hget ((r, none) :: hs) i = some o → hget hs i = some o := by
  intro i o hi
  rw [C0] at hi
  split at hi
  ·simp at hi
  ·exact hi
 exact ⟨fun i o hi => h.live i o (key i o hi), fun i o hi => h.cl i o (key i o hi), fun i j oi oj hi hj => h.inj i j oi oj (key i oi hi) (key j oj hj), h.old, fun i o hi => h.new i o (key i o hi), h.frame, h.os, h.tape, h.output, h.hsize,
  fun i o hi => h.newE i o (key i o hi), h.frameE, h.apart, h.eo⟩
/-- Block r goes on under the name n. -/
theorem HRel.move {C : Cx} {n : Nat} {B : Base} {hs : List (Nat × Option EObj)} {bs : Nat → Nat} {w : World} (h : HRel C B n hs bs w) {r : Nat} {o : EObj} (hr : hget hs r = some o) :
  HRel C B (n + 1) ((n, some o) :: (r, none) :: hs) (upd bs n (bs r)) w := by
 have hrn := (h.live r o hr).1
 have key : ∀ i o', hget ((n, some o) :: (r, none) :: hs) i = some o' → (i = n ∧ o' = o) ∨ (i ≠ n ∧ i ≠ r ∧ hget hs i = some o') := by
  intro i o' hi
  rw [C0, C0] at hi
  split at hi
  ·rename_i e; simp only [Option.some.injEq] at hi; exact .inl ⟨e.symm, hi.symm⟩
  ·rename_i e
   split at hi
   ·simp at hi
   ·rename_i e'; exact .inr ⟨fun h => e h.symm, fun h => e' h.symm, hi⟩
 refine ⟨?_, ?_, ?_, ?_, ?_, h.frame, h.os, h.tape, h.output, h.hsize, ?_, h.frameE, h.apart, h.eo⟩
 ·intro i o' hi
  rcases key i o' hi with ⟨rfl, rfl⟩ | ⟨h1, h2, h3⟩
  ·refine ⟨by omega, ?_⟩
   rw [E7, EObj.real_congr I2 _ (h.cl r _ hr)]; exact (h.live r _ hr).2
  ·have l := (h.live i o' h3)
   refine ⟨by omega, ?_⟩
   rw [I2 i l.1, EObj.real_congr I2 _ (h.cl i _ h3)]; exact l.2
 ·intro i o' hi
  rcases key i o' hi with ⟨rfl, rfl⟩ | ⟨h1, h2, h3⟩
  ·exact EObj.closed_mono (by omega) _ (h.cl r _ hr)
  ·exact EObj.closed_mono (by omega) _ (h.cl i _ h3)
 ·intro i j oi oj hi hj hb
  rcases key i oi hi with ⟨rfl, rfl⟩ | ⟨h1, h2, h3⟩ <;> rcases key j oj hj with ⟨rfl, rfl⟩ | ⟨k1, k2, k3⟩
  ·rfl
  ·rw [E7, I2 j (h.live j oj k3).1] at hb
   exact absurd (h.inj r j _ oj hr k3 hb).symm k2
  ·rw [E7, I2 i (h.live i oi h3).1] at hb
   exact absurd (h.inj i r oi _ h3 hr hb) h2
  ·rw [I2 i (h.live i oi h3).1, I2 j (h.live j oj k3).1] at hb
   exact h.inj i j oi oj h3 k3 hb
 ·intro i b hi
  obtain ⟨h1, h2⟩ := h.old i b hi
  exact ⟨by rw [I2 i h2]; exact h1, by omega⟩
 ·intro i o' hi
  rcases key i o' hi with ⟨rfl, rfl⟩ | ⟨h1, h2, h3⟩
  ·rw [E7]; exact h.new r _ hr
  ·rw [I2 i (h.live i o' h3).1]; exact h.new i o' h3
 ·intro i o' hi
  rcases key i o' hi with ⟨rfl, rfl⟩ | ⟨h1, h2, h3⟩
  ·rw [E7]; exact h.newE r _ hr
  ·rw [I2 i (h.live i o' h3).1]; exact h.newE i o' h3
theorem Be7 {need bytes : Nat} (h : need * bytes ≤ 140737488355328) {old : Nat} (ho : old < need) : Builtin.nextslicecap need old * bytes ≤ 281474976710656 := growslice_fits ho h
/-- append. -/
theorem Bx3 {C : Cx} {Q : Exit → X → Prop} {o : Oper} {st : List It} {x : X} {a b : Operand} {t t2 T : TypeId} (r len : Nat) (xs : List EV) {m : Nat} {e b' : EV} {news zs : List EV} {c : Prop}
  (hop : o.op = .call { callee := .builtin .append, args := #[a, b], argTypes := #[t, t2] })
  (ht : C.P.underlying t = some (.slice T)) (ht2 : (∃ e', C.P.underlying t2 = some (.slice e')) ∨ C.P.underlying t2 = some .string)
  (hz : G5 C.P T = some zs) (hcz : C.P.cellsOf T = zs.length) (hzne : zs ≠ [])
  (ha : ev x.σ a = e) (hb : ev x.σ b = b') (hOwn : Own x.n T zs r e (hget x.hs r) len xs)
  (hsrc : R6 x.B x.hs zs.length b' = some (m, news, c)) (hc : c) (hone : H8 news = true)
  (hmax : len + m ≤ maxLen) (hby : (len + m) * C.P.bytesOf T ≤ 140737488355328)
  (hk : ∀ e' oo', Own (x.n + 1) T zs x.n e' oo' (len + m) (xs ++ news) → Next C Q st { σ := put x.σ o.dst e', n := x.n + 1, hs := (x.n, oo') :: (r, none) :: x.hs, B := x.B, ms := x.ms }) : opS C Q o st x := by
 intro hd bs ac w hr Q'
 obtain ⟨dst, op, type, pos, after, guard⟩ := o
 simp only at hop hd hk; subst hop
 have hane : e ≠ .any := by
  rcases hOwn.2 with ⟨rfl, _⟩ | ⟨cap, rest, rfl, _⟩ <;> simp
 have hbne : b' ≠ .any := by rintro rfl; simp [R6] at hsrc
 have ea := D0 hr.t a (by rw [ha]; exact hane)
 have eb := D0 hr.t b (by rw [hb]; exact hbne)
 rw [ha] at ea; rw [hb] at eb
 obtain ⟨s1, s2, s3, s4⟩ := Y5 hr.h hsrc hc
 obtain ⟨s1', s2', _, _⟩ := Y5 hr.h.drew hsrc hc
 obtain ⟨z, z1, z2, z3⟩ := R5 (w := w) bs x.n hz
 have hinfo : ∃ i, C.P.info? T = some i ∧ i.zero = some z := by
  unfold G5 at hz
  cases hi : C.P.info? T with
  | none => simp [hi] at hz
  | some i =>
   simp only [hi] at hz
   cases hzz : i.zero with
   | none => simp [hzz] at hz
   | some z' =>
    refine ⟨i, rfl, ?_⟩
    have : (zeroValue T).run C.P w = .ok z' w := by simp [zeroValue, typeInfo, hi, hzz]
    rw [this] at z1; simp at z1; rw [← z1]; exact hzz
 obtain ⟨i, hi, hzi⟩ := hinfo
 have hisz : i.size = zs.length := by rw [← hcz]; simp [Program.cellsOf, hi]
 have hiby : i.bytes = C.P.bytesOf T := by simp [Program.bytesOf, hi]
 have hsrcP : Src C.P i.size t2 (real bs b') m (A8 bs news) w := by
  refine ⟨ht2, s1, ?_, ?_, by rw [A9, List.length_map, s3, hisz], ?_⟩
  ·have := s2 m (Nat.le_refl _)
   rw [List.take_of_length_le (by omega)] at this
   rw [hisz]; exact this
  ·have := s2' m (Nat.le_refl _)
   rw [List.take_of_length_le (by omega)] at this
   rw [hisz]; exact this
  ·intro u hu
   rw [A9] at hu
   obtain ⟨q, hq, rfl⟩ := List.mem_map.1 hu
   exact Ar0 (T9 hone q hq)
 refine ⟨fun _ _ => trivial, ?_⟩
 rw [Oper.semAt_eq _ _ _ (by intro c; simp)]
 have hexec : ∀ V w', (Builtin.append_ #[t, t2] type #[real bs e, real bs b']).run C.P w = .ok V w' →
   (execOp ac.eval { dst := dst, op := .call { callee := .builtin .append, args := #[a, b], argTypes := #[t, t2] }, type := type, pos := pos, after := after, guard := guard }).run C.P w = .ok (.value V) w' := by
  intro V w' h
  simp only [execOp, resolve, invoke, builtin, Sem.run_bind, Sem.run_pure, Result.andThen_ok, List.map_toArray, List.map_cons, List.map_nil, ea, eb, h]
 have h63 : len + m ≤ 9223372036854775807 := by simp only [maxLen] at hmax; omega
 -- a new row
 have hgrow : ∀ (base : Option Addr) (cap : Nat) (hreal : real bs e = .slice base len cap) (hcap : cap < len + m)
   (hold : (Builtin.firstCells i.size len (.slice base len cap)).run C.P w.drew = .ok (A8 bs xs).toArray w.drew) (hxs : A0 x.n xs),
   ∃ V w' x' bs', (Builtin.append_ #[t, t2] type #[real bs e, real bs b']).run C.P w = .ok V w' ∧ Rel C x' bs' (ac.put dst V) w' ∧ Next C Q st x' := by
  intro base cap hreal hcap hold hxs
  have hrun := run_append_grow_src (P := C.P) w t t2 type T i z ht hi hzi base len cap (A8 bs xs) hold (real bs b') m (A8 bs news) hsrcP hcap (by omega) (by rw [hiby]; exact Be7 hby hcap)
  rw [← hreal] at hrun
  have hge := grownCap_ge w (len + m) cap T
  have hcm := grownCap_le_maxLen w (len + m) cap T hmax
  obtain ⟨gc, hgc⟩ : ∃ gc, gc = grownCap w (len + m) cap T := ⟨_, rfl⟩
  rw [← hgc] at hrun hge hcm
  have hown : Own (x.n + 1) T zs x.n (.sl x.n 0 (len + m) gc) (some (.cells ((xs ++ news) ++ rep (gc - (len + m)) zs) T (0, 0))) (len + m) (xs ++ news) := by
   refine ⟨by rw [List.length_append, hOwn.1, s3, Nat.add_mul], .inr ⟨gc, rep (gc - (len + m)) zs, rfl, hge, hcm, ⟨An3 _ _, fun v hv => Ci2 hv⟩, rfl, ?_⟩⟩
   exact D7 (Nat.le_succ _) _ (closeds_append.2 ⟨closeds_append.2 ⟨hxs, s4⟩, T5 z3⟩)
  have hcl : A0 x.n ((xs ++ news) ++ rep (gc - (len + m)) zs) := closeds_append.2 ⟨closeds_append.2 ⟨hxs, s4⟩, T5 z3⟩
  have hH := (hr.h.drew.grow r).alloc (.cells ((xs ++ news) ++ rep (gc - (len + m)) zs) T (0, 0)) hcl
  refine ⟨_, _, _, upd bs x.n w.heap.size, hrun, ⟨?_, ?_⟩, hk _ _ hown⟩
  ·exact hr.t.next (Nat.le_succ _) I2 hd (.inr (by simp [real, E7])) (by simp [closed])
  ·have e1 : w.drew.alloc (.cells (((A8 bs xs) ++ (A8 bs news)).toArray ++ Builtin.zeroCells z.cells (gc - (len + m))) T) = { w.drew with heap := w.drew.heap.push ((EObj.cells ((xs ++ news) ++ rep (gc - (len + m)) zs) T (0, 0)).real bs) } := by
    rw [Ah0 z2 hzne]
    simp [World.alloc, EObj.real, A9]
   rw [e1]; exact hH
 rcases hOwn.2 with ⟨rfl, hoo, hl0⟩ | ⟨cap, rest, rfl, hlc, hcm, ⟨hrl, hrz⟩, hoo, hclx⟩
 ·have hxs : xs = [] := List.eq_nil_of_length_eq_zero (by rw [hOwn.1, hl0]; simp)
  subst hxs; subst hl0
  by_cases hm0 : m = 0
  ·subst hm0
   have hn0 : news = [] := List.eq_nil_of_length_eq_zero (by rw [s3]; simp)
   subst hn0
   have hrun : (Builtin.append_ #[t, t2] type #[real bs (.raw (.slice none 0 0)), real bs b']).run C.P w = .ok (.slice none 0 0) w := by
    have hf := hsrcP.cells
    simp only [A8] at hf
    rcases ht2 with ⟨e', hk2⟩ | hk2 <;> simp [real, Builtin.append_, run_underlying _ _ _ _ ht, run_underlying _ _ _ _ hk2, sizeOf, typeInfo, hi, s1, hf]
   rw [hexec _ _ hrun]
   refine ⟨_, bs, ⟨hr.t.next (Nat.le_succ _) (fun _ _ => rfl) hd (v := .raw (.slice none 0 0)) (.inr rfl) trivial, ?_⟩, hk _ none ⟨by simp, .inl ⟨rfl, rfl, by simp⟩⟩⟩
   have hH := hr.h.grow r
   have key : ∀ i o, hget ((x.n, none) :: (r, none) :: x.hs) i = some o → hget ((r, none) :: x.hs) i = some o := by
    intro i o hi
    rw [C0] at hi
    split at hi
    ·simp at hi
    ·exact hi
   exact ⟨fun i o hi => ⟨Nat.lt_succ_of_lt (hH.live i o (key i o hi)).1, (hH.live i o (key i o hi)).2⟩, fun i o hi => EObj.closed_mono (Nat.le_succ _) _ (hH.cl i o (key i o hi)), fun i j oi oj hi hj => hH.inj i j oi oj (key i oi hi) (key j oj hj),
    fun i b hi => ⟨(hH.old i b hi).1, Nat.lt_succ_of_lt (hH.old i b hi).2⟩, fun i o hi => hH.new i o (key i o hi), hH.frame, hH.os, hH.tape, hH.output, hH.hsize, fun i o hi => hH.newE i o (key i o hi), hH.frameE, hH.apart, hH.eo⟩
  ·obtain ⟨V, w', x', bs', h1, h2, h3⟩ := hgrow none 0 rfl (by omega) (by simp [Builtin.firstCells, A8]) (by simp [A0])
   rw [hexec _ _ h1]
   exact ⟨x', bs', h2, h3⟩
 ·obtain ⟨l1, l2⟩ := hr.h.live r _ hoo
  simp only [EObj.real] at l2
  by_cases hroom : len + m ≤ cap
  ·have hlen : (xs ++ rest).length = cap * zs.length := by
    rw [List.length_append, hOwn.1, hrl, ← Nat.add_mul]; congr 1; omega
   have hfit : len * zs.length + news.length ≤ (xs ++ rest).length := by rw [s3, hlen, ← Nat.add_mul]; exact Nat.mul_le_mul_right _ hroom
   obtain ⟨cs', r1, r2⟩ := R3 (P := C.P) (T := T) (fr := (0, 0)) (A8 bs news) w _ (len * zs.length) 0 l2 (by simp only [A9, Nat.add_zero, List.length_map, List.size_toArray]; exact hfit) (.inl (by simp)) (by
    intro u hu
    rw [A9] at hu
    obtain ⟨q, hq, rfl⟩ := List.mem_map.1 hu
    exact Ar0 (T9 hone q hq))
   have hcs' : cs' = (A8 bs ((xs ++ news) ++ rest.drop news.length)).toArray := by
    apply Array.ext'
    rw [r2]
    have hxl : len * zs.length = (A8 bs xs).length := by rw [A9, List.length_map, hOwn.1]
    simp only [Nat.add_zero]
    rw [hxl]
    simp only [A9, List.map_append, List.length_map]
    rw [List.take_left' (by simp), ← List.drop_drop, List.drop_left' (by simp), List.map_drop]
   have hrun : (Builtin.append_ #[t, t2] type #[real bs (.sl r 0 len cap), real bs b']).run C.P w = .ok (.slice (some ⟨bs r, 0, none⟩) (len + m) cap) (J1 w (bs r) (.cells cs' T (0, 0))) := by
    have hf := hsrcP.cells
    rw [hisz] at hf
    rcases ht2 with ⟨e', hk2⟩ | hk2 <;>
     simp [real, Builtin.append_, run_underlying _ _ _ _ ht, run_underlying _ _ _ _ hk2, sizeOf, typeInfo, hi, s1, hroom, hisz, hf, K8, r1]
   rw [hexec _ _ hrun]
   have hcl' : A0 x.n ((xs ++ news) ++ rest.drop news.length) := by
    rw [closeds_append] at hclx
    refine closeds_append.2 ⟨closeds_append.2 ⟨hclx.1, s4⟩, ?_⟩
    rw [D8]; intro v hv; exact G4 hclx.2 (List.mem_of_mem_drop hv)
   have hH := hr.h.store hoo (.cells ((xs ++ news) ++ rest.drop news.length) T (0, 0)) hcl'
   have hH2 := hH.move (r := r) (o := .cells ((xs ++ news) ++ rest.drop news.length) T (0, 0)) (by rw [C0, if_pos rfl])
   have hown : Own (x.n + 1) T zs x.n (.sl x.n 0 (len + m) cap) (some (.cells ((xs ++ news) ++ rest.drop news.length) T (0, 0))) (len + m) (xs ++ news) := by
    refine ⟨by rw [List.length_append, hOwn.1, s3, Nat.add_mul], .inr ⟨cap, _, rfl, hroom, hcm, ?_, rfl, D7 (Nat.le_succ _) _ hcl'⟩⟩
    refine ⟨?_, fun v hv => hrz v (List.mem_of_mem_drop hv)⟩
    rw [List.length_drop, hrl, s3, ← Nat.sub_mul]; congr 1; omega
   refine ⟨_, upd bs x.n (bs r), ⟨hr.t.next (Nat.le_succ _) I2 hd (.inr (by simp [real, E7])) (by simp [closed]), ?_⟩, hk _ _ hown⟩
   rw [hcs']
   have key : ∀ i o, hget ((x.n, some (EObj.cells ((xs ++ news) ++ rest.drop news.length) T (0, 0))) :: (r, none) :: x.hs) i = some o →
     hget ((x.n, some (EObj.cells ((xs ++ news) ++ rest.drop news.length) T (0, 0))) :: (r, none) :: (r, some (EObj.cells ((xs ++ news) ++ rest.drop news.length) T (0, 0))) :: x.hs) i = some o := by
    intro i o hi
    rw [C0, C0] at hi
    rw [C0, C0, C0]
    by_cases e1 : x.n = i
    ·rw [if_pos e1] at hi ⊢; exact hi
    ·rw [if_neg e1] at hi ⊢
     by_cases e2 : r = i
     ·rw [if_pos e2] at hi; simp at hi
     ·rw [if_neg e2] at hi ⊢; rw [if_neg e2]; exact hi
   exact ⟨fun i o hi => hH2.live i o (key i o hi), fun i o hi => hH2.cl i o (key i o hi), fun i j oi oj hi hj => hH2.inj i j oi oj (key i oi hi) (key j oj hj), hH2.old, fun i o hi => hH2.new i o (key i o hi), hH2.frame, hH2.os, hH2.tape, hH2.output, hH2.hsize,
    fun i o hi => hH2.newE i o (key i o hi), hH2.frameE, hH2.apart, hH2.eo⟩
  ·have hold : (Builtin.firstCells i.size len (.slice (some ⟨bs r, 0, none⟩) len cap)).run C.P w.drew = .ok (A8 bs xs).toArray w.drew := by
    refine run_firstCells_some (P := C.P) w.drew i.size len ⟨bs r, 0, none⟩ len cap (A8 bs xs) (by rw [A9, List.length_map, hOwn.1, hisz]) ?_
    intro j v hj
    rw [K8, K1 (show w.drew.heap[bs r]? = _ from l2)]
    simp only [A9, List.map_append, Nat.zero_add] at hj ⊢
    have hjl : j < (xs.map (real bs)).length := by
     rcases Nat.lt_or_ge j (xs.map (real bs)).length with h | h
     ·exact h
     ·rw [List.getElem?_eq_none h] at hj; simp at hj
    simp only [List.getElem?_toArray]
    rw [List.getElem?_append_left hjl]; exact hj
   obtain ⟨V, w', x', bs', h1, h2, h3⟩ := hgrow (some ⟨bs r, 0, none⟩) cap rfl (by omega) hold (closeds_append.1 hclx).1
   rw [hexec _ _ h1]
   exact ⟨x', bs', h2, h3⟩
/-- An operation that only yields a value, by its own law. -/
theorem Y2 {C : Cx} {Q : Exit → X → Prop} {o : Oper} {st : List It} {x : X} (v : EV) (hnd : ∀ c, o.op ≠ .defer c) (hcl : closed x.n v)
  (h : ∀ bs a w, Rel C x bs a w → (execOp a.eval o).run C.P w = .ok (.value (real bs v)) w)
  (hk : Next C Q st { σ := put x.σ o.dst v, n := x.n, hs := x.hs, B := x.B, ms := x.ms }) : opS C Q o st x := by
 intro hd bs ac w hr Q'
 refine ⟨fun _ _ => trivial, ?_⟩
 rw [Oper.semAt_eq _ _ _ hnd, h bs ac w hr]
 exact ⟨{ σ := put x.σ o.dst v, n := x.n, hs := x.hs, B := x.B, ms := x.ms }, bs, ⟨hr.t.next (Nat.le_refl _) (fun _ _ => rfl) hd (.inr rfl) hcl, hr.h⟩, hk⟩
/-- The bytes of cells. -/
def L9 (l : List EV) : ByteArray := ⟨(l.map fun v => UInt8.ofNat v.num.toNat).toArray⟩
theorem Aw1 {g : Value → ByteArray → Sem (ForInStep ByteArray)} : ∀ (l : List EV) (bs : Nat → Nat) (s : ByteArray) (w : World) (P : Program), l.all (EV.isInt .u8) = true →
  (∀ n s, (g (.int .u8 n) s).run P w = .ok (ForInStep.yield (s.push (UInt8.ofNat n.toNat))) w) →
  (forIn (A8 bs l) s g).run P w = .ok (ByteArray.mk (s.data ++ (L9 l).data)) w
 | [], bs, s, w, P, _, _ => by simp [A8, L9]
 | v :: l, bs, s, w, P, h, hg => by
  simp only [List.all_cons, Bool.and_eq_true] at h
  have hv := Ad5 bs h.1
  have ih := Aw1 l bs (s.push (UInt8.ofNat v.num.toNat)) w P h.2 hg
  simp only [A8, hv, List.forIn_cons, Sem.run_bind, hg, Result.andThen_ok] at ih ⊢
  rw [ih]
  congr 1
  show ByteArray.mk (s.data.push _ ++ (l.map _).toArray) = ByteArray.mk (s.data ++ (_ :: l.map _).toArray)
  congr 1
  apply Array.ext'; simp
theorem Cn8 {C : Cx} {Q : Exit → X → Prop} {o : Oper} {st : List It} {x : X} {s d T : TypeId} {a : Operand} {b' : EV} {m : Nat} {news : List EV} {c : Prop} (hop : o.op = .convert s d a)
  (hs : C.P.underlying s = some (.slice T)) (hT : C.P.underlying T = some (.int .u8)) (hd : C.P.underlying d = some .string) (ha : ev x.σ a = b') (hsl : ∀ u, b' ≠ .str u)
  (hsrc : R6 x.B x.hs 1 b' = some (m, news, c)) (hc : c) (hall : news.all (EV.isInt .u8) = true)
  (hk : Next C Q st { σ := put x.σ o.dst (.str (L9 news)), n := x.n, hs := x.hs, B := x.B, ms := x.ms }) : opS C Q o st x := by
 refine Y2 (.str (L9 news)) (by rw [hop]; simp) trivial ?_ hk
 intro bs ac w hr
 obtain ⟨dst, op, type, pos, after, guard⟩ := o
 simp only at hop; subst hop
 have hbne : b' ≠ .any := by rintro rfl; simp [R6] at hsrc
 have ea := D0 hr.t a (by rw [ha]; exact hbne)
 rw [ha] at ea
 obtain ⟨s1, s2, s3, s4⟩ := Y5 hr.h hsrc hc
 have hf := s2 m (Nat.le_refl _)
 rw [List.take_of_length_le (by omega)] at hf
 have key : ∀ base l cp, real bs b' = .slice base l cp → (Conv.bytesToString (.slice base l cp)).run C.P w = .ok (.string (L9 news)) w := by
  intro base l cp he
  rw [he] at hf
  have hl := s1 w
  rw [he] at hl
  simp only [Builtin.lenOf, Sem.run_pure, Result.ok.injEq] at hl
  cases base with
  | none =>
   have hnn : news = [] := by
    simp only [Builtin.firstCells, Sem.run_pure, Result.ok.injEq] at hf
    have h2 : (A8 bs news).length = 0 := by
     have h3 := congrArg Array.size hf.1
     simpa using h3.symm
    rw [A9, List.length_map] at h2
    exact List.eq_nil_of_length_eq_zero h2
   subst hnn
   simp [Conv.bytesToString, L9]; rfl
  | some ad =>
   have hf' : (loadCells ad l).run C.P w = .ok (A8 bs news).toArray w := by
    rw [hl.1]; simpa [Builtin.firstCells] using hf
   simp only [Conv.bytesToString, Sem.run_bind, hf', Result.andThen_ok, Sem.run_pure]
   rw [← Array.forIn_toList, Aw1 news bs _ w C.P hall (fun n s => by simp)]
   have he : (ByteArray.mk (ByteArray.empty.data ++ (L9 news).data)) = L9 news := by
    show ByteArray.mk (_ ++ _) = ByteArray.mk (L9 news).data
    congr 1
    exact Array.empty_append
   rw [he]; rfl
 have hsl' : ∃ base l cp, real bs b' = .slice base l cp := by
  unfold R6 at hsrc
  split at hsrc
  ·exact ⟨_, _, _, rfl⟩
  ·exact ⟨_, _, _, rfl⟩
  ·exact ⟨_, _, _, rfl⟩
  ·exact absurd rfl (hsl _)
  ·simp at hsrc
 obtain ⟨base, l, cp, he⟩ := hsl'
 have hk2 := key base l cp he
 simp only [execOp, ea, he, Sem.run_bind]
 simp [convert, run_underlying _ _ _ _ hs, run_underlying _ _ _ _ hd, run_underlying _ _ _ _ hT, hk2, real]
/-- []byte of a string. -/
theorem Bi7 {C : Cx} {Q : Exit → X → Prop} {o : Oper} {st : List It} {x : X} {s d T : TypeId} {a : Operand} {t : ByteArray} {u : TypeDesc} (hop : o.op = .convert s d a)
  (hs : C.P.underlying s = some u) (hT : C.P.underlying T = some (.int .u8)) (hdd : C.P.underlying d = some (.slice T)) (ha : ev x.σ a = .str t) (hmax : t.size ≤ maxLen)
  (hk : ∀ cap, t.size ≤ cap → cap ≤ maxLen → Next C Q st { σ := put x.σ o.dst (.sl x.n 0 t.size cap), n := x.n + 1, hs := (x.n, some (.cells (R1 t ++ List.replicate (cap - t.size) (.int .u8 0)) T (cap, cap + 1))) :: x.hs, B := x.B, ms := x.ms }) : opS C Q o st x := by
 intro hd bs ac w hr Q'
 obtain ⟨dst, op, type, pos, after, guard⟩ := o
 simp only at hop hd hk; subst hop
 have ea := D0 hr.t a (by rw [ha]; simp)
 rw [ha] at ea
 have hrun := Lib.run_convert_string_bytes (P := C.P) w s d T t hs hdd hT
 have hge := grownCap_ge w t.size 0 T
 have hcm := grownCap_le_maxLen w t.size 0 T hmax
 refine ⟨fun _ _ => trivial, ?_⟩
 rw [Oper.semAt_eq _ _ _ (by intro c; simp)]
 have hexec : (execOp ac.eval { dst := dst, op := .convert s d a, type := type, pos := pos, after := after, guard := guard }).run C.P w = .ok (.value (.slice (some ⟨w.heap.size, 0, none⟩) t.size (grownCap w t.size 0 T))) (Lib.bytesWorld w T t) := by
  simp only [execOp, ea, real, Sem.run_bind, hrun, Result.andThen_ok, Sem.run_pure]
 rw [hexec]
 obtain ⟨gc, hgc⟩ : ∃ gc, gc = grownCap w t.size 0 T := ⟨_, rfl⟩
 have hsz : (Lib.bytesCells w T t).size = gc := by
  have hts : t.data.size = t.size := rfl
  simp only [Lib.bytesCells, Array.size_append, Array.size_map, Array.size_replicate, hts, ← hgc]; omega
 have hcl : A0 x.n (R1 t ++ List.replicate (gc - t.size) (.int .u8 0)) := by
  refine closeds_append.2 ⟨N3 _ _, ?_⟩
  rw [D8]; intro v hv; rw [List.eq_of_mem_replicate hv]; trivial
 have hH := hr.h.drew.alloc (.cells (R1 t ++ List.replicate (gc - t.size) (EV.int .u8 0)) T (gc, gc + 1)) hcl
 have hw : Lib.bytesWorld w T t = { w.drew with heap := w.drew.heap.push ((EObj.cells (R1 t ++ List.replicate (gc - t.size) (.int .u8 0)) T (gc, gc + 1)).real bs) } := by
  have hc1 : (Lib.bytesCells w T t) = (A8 bs (R1 t ++ List.replicate (gc - t.size) (.int .u8 0))).toArray := by
   apply Array.ext'
   simp [Lib.bytesCells, A9, R1, hgc, real, Function.comp_def]
  have hheap : (Lib.bytesWorld w T t).heap = w.drew.heap.push ((EObj.cells (R1 t ++ List.replicate (gc - t.size) (.int .u8 0)) T (gc, gc + 1)).real bs) := by
   apply Array.ext_getElem?
   intro k
   rcases Nat.lt_trichotomy k w.heap.size with h | h | h
   ·rw [Lib.bytesWorld_at_old w T t k h, Array.getElem?_push, if_neg (by show k ≠ w.heap.size; omega)]; rfl
   ·subst h
    rw [Lib.bytesWorld_at_new, hsz, hc1, Array.getElem?_push, if_pos (show w.heap.size = w.drew.heap.size from rfl)]; rfl
   ·rw [Array.getElem?_eq_none (by rw [Lib.bytesWorld_size]; omega), Array.getElem?_eq_none (by simp; show w.heap.size + 1 ≤ k; omega)]
  have hrest : Lib.bytesWorld w T t = { w.drew with heap := (Lib.bytesWorld w T t).heap } := by
   simp [Lib.bytesWorld, World.freeze, World.alloc, World.drew, -World.alloc_eq, -World.drew_eq]
  rw [hrest, hheap]
 rw [← hgc] at hge hcm ⊢
 rw [hw]
 exact ⟨_, upd bs x.n w.heap.size, ⟨hr.t.next (Nat.le_succ _) I2 hd (v := .sl x.n 0 t.size gc) (.inr (by simp [real, E7])) (by simp [closed]), hH⟩, hk gc hge hcm⟩
attribute [go_sem] R6
end Go.Ew
namespace Go.Ew
open Go RowKit
/-- Called with args, function f hands v back; nothing that was there turns. -/
structure Pure (P : Program) (f : FuncId) (args : List EV) (v : EV) : Prop where
 en : C6 P f
 cl : closed 0 v
 run : ∀ bs w, Calls P f (A8 bs args).toArray w (Ret (real bs v) w)
theorem V5 {P : Program} {f : FuncId} {fn : Func} {c : Code} {args : List EV} {v : EV} (hE : C6 P f) (hv : closed 0 v)
  (hf : P.funcs[f]? = some fn) (hb : fn.body = some c) (hin : C5 fn.ntmps c = true) (hl : args.length ≤ fn.ntmps) (hcl : A0 0 args)
  (h : ∀ w, Next (cx0 P fn.ntmps w) (Bn4 (cx0 P fn.ntmps w) fn.results.toList (fun v' x => x.B = base w ∧ v' = v)) [.c c] ⟨argσ 0 args, 0, [], base w, []⟩) : Pure P f args v := by
 refine ⟨hE, hv, fun bs w => ?_⟩
 have := N4 (C := (cx0 P fn.ntmps w)) (K := fun v' x => x.B = base w ∧ v' = v) rfl hf hb rfl hin hl (HRel.start bs) hcl (h w)
 refine this.mono ?_
 rintro e w' ⟨v', x', bs', rfl, _, hh, hB, rfl⟩
 rw [hB] at hh
 exact ⟨by rw [real_congr (n := 0) (bs := bs) (bs' := bs') (fun i hi => absurd hi (by omega)) _ hv], hh.below⟩
theorem R4 {C : Cx} {Q : Exit → X → Prop} {f : FuncId} {args : List EV} {dst : Option Tmp} {st : List It} {x : X} {v : EV} (h : Pure C.P f args v)
  (hk : Next C Q st { σ := put x.σ dst v, n := x.n, hs := x.hs, B := x.B, ms := x.ms }) : W3 C Q f args dst st x :=
 Bm7 v h.en (closed_mono (Nat.zero_le _) _ h.cl) (fun bs w _ => h.run bs w) hk
theorem Be1 {C : Cx} {Q : Exit → X → Prop} {ops : List Oper} {st : List It} {f : FuncId} {args : List EV} {acc : List (Nat × Oper × Ef)} {k : Nat} {o : Oper} {rest : List Oper} {x : X} {v : EV} (h : Pure C.P f args v)
  (hk : L3 C.N rest = true → DG C Q ops st ((k, o, { dst := o.dst, v := v, ups := [], a := 0, looks := C2 o.op ++ F7 ops o.guard, foot := [] }) :: acc) (k + 1) rest { σ := put x.σ o.dst v, n := x.n, hs := x.hs, B := x.B, ms := x.ms }) :
  Cl2 C Q ops st f args acc k o rest x := Bm8 v [] h.en h.cl (fun y bs w _ _ _ => h.run bs w) hk
/-- The cells of a word of value n. -/
def wC (n : Nat) : List EV := [.int .u64 (n % 18446744073709551616 : Nat), .int .u64 (n / 18446744073709551616 % 18446744073709551616 : Nat), .int .u64 (n / 340282366920938463463374607431768211456 % 18446744073709551616 : Nat),
 .int .u64 (n / 6277101735386680763835789423207666416102355444464034512896 % 18446744073709551616 : Nat)]
/-- A word of value n. -/
def wE (n : Nat) : EV := .agg (wC n)
theorem Cv0 (n : Nat) : wE n = .agg (wC n) := rfl
theorem Cn4 (n : Nat) : (wC n).length = 4 := rfl
theorem Ch1 (n : Nat) : (wC n).take 4 = wC n := rfl
theorem Cn3 (n : Nat) : H8 (wC n) = true := rfl
theorem Ao7 (m n : Nat) : A0 m (wC n) := by simp [wC, closed, A0]
theorem C4 (m n : Nat) : closed m (wE n) := Ao7 m n
/-- Its limbs. -/
structure Limbs (n : Nat) (a b c d : Int) : Prop where
 a0 : 0 ≤ a
 a1 : a < 18446744073709551616
 b0 : 0 ≤ b
 b1 : b < 18446744073709551616
 c0 : 0 ≤ c
 c1 : c < 18446744073709551616
 d0 : 0 ≤ d
 d1 : d < 18446744073709551616
 v : (n : Int) = a + b * 18446744073709551616 + c * 340282366920938463463374607431768211456 + d * 6277101735386680763835789423207666416102355444464034512896
theorem Cg9 (n : Nat) (h : n < 115792089237316195423570985008687907853269984665640564039457584007913129639936) : ∃ a b c d, wE n = .agg [.int .u64 a, .int .u64 b, .int .u64 c, .int .u64 d] ∧ Limbs n a b c d := by
 refine ⟨_, _, _, _, rfl, ?_⟩
 constructor <;> omega
theorem Cu9 {n : Nat} {a b c d : Int} (h : Limbs n a b c d) : EV.agg [.int .u64 a, .int .u64 b, .int .u64 c, .int .u64 d] = wE n := by
 obtain ⟨a0, a1, b0, b1, c0, c1, d0, d1, v⟩ := h
 show _ = EV.agg (wC n)
 unfold wC
 have e1 : a = ((n % 18446744073709551616 : Nat) : Int) := by omega
 have e2 : b = ((n / 18446744073709551616 % 18446744073709551616 : Nat) : Int) := by omega
 have e3 : c = ((n / 340282366920938463463374607431768211456 % 18446744073709551616 : Nat) : Int) := by omega
 have e4 : d = ((n / 6277101735386680763835789423207666416102355444464034512896 % 18446744073709551616 : Nat) : Int) := by omega
 rw [← e1, ← e2, ← e3, ← e4]
attribute [go_sem] Cv0 Cn4 Ch1 Cn3 Ao7 C4
end Go.Ew
namespace Go.Ew
open Go
def dig (b n i : Nat) : Int := ((n / b ^ i % b : Nat) : Int)
def num (b : Nat) (z : Nat → Int) : Nat → Int
 | 0 => 0
 | k + 1 => num b z k + z k * (b ^ k : Nat)
theorem Cr2 (b n i : Nat) : 0 ≤ dig b n i := Int.natCast_nonneg _
theorem Ch0 (n : Nat) : wE n = .agg (C8 .u64 (dig 18446744073709551616 n) 4) := by
 simp [wE, wC, C8, dig, List.range, List.range.loop]
theorem Bj1 {a b : Int} (ha : 0 ≤ a) (hb : 0 ≤ b) (hb' : b < 64) : Cg4 .u64 a b = a / (2 : Int) ^ b.toNat := by
 unfold Cg4
 have e : min b.toNat (IntKind.bits .u64) = b.toNat := by show min b.toNat 64 = _; omega
 rw [e, Int.fdiv_eq_ediv_of_nonneg]
 exact Int.le_of_lt (Int.pow_pos (by omega))
theorem Bj2 {a b : Int} (hb : 0 ≤ b) (hb' : b < 64) : Bw9 .u64 a b = a * (2 : Int) ^ b.toNat % 18446744073709551616 := by
 unfold Bw9
 have e : min b.toNat (IntKind.bits .u64) = b.toNat := by show min b.toNat 64 = _; omega
 rw [e, Ae6]
theorem Cl8 (a : Int) (k m : Nat) (hm : m = 2 ^ k - 1) (ha : 0 ≤ a) (ha' : a < 18446744073709551616) (hk : k ≤ 64) : Bj3 .u64 a m = a % (2 ^ k : Nat) := by
 have hpos : 0 < 2 ^ k := Nat.pow_pos (by omega)
 have hle : 2 ^ k ≤ 2 ^ 64 := Nat.pow_le_pow_right (by omega) hk
 have h64 : (2 : Nat) ^ 64 = 18446744073709551616 := by decide
 rw [Cd5 ha ha' (by omega) (by omega)]
 have e : ((m : Int)).toNat = m := by omega
 rw [e, hm, Nat.and_two_pow_sub_one_eq_mod, Int.natCast_emod, Int.toNat_of_nonneg ha]
theorem Bj0 {a : Int} (ha : 0 ≤ a) (ha' : a < 18446744073709551616) : By0 .u64 18446744073709551615 a = 18446744073709551615 - a := by
 rw [Cd4 (by omega) (by omega) ha ha']
 have e : (18446744073709551615 : Int).toNat = 2 ^ 64 - 1 := by decide
 have h : (2 ^ 64 - 1) ^^^ a.toNat = 2 ^ 64 - 1 - a.toNat := by
  have hlt : a.toNat < 2 ^ 64 := by omega
  apply Nat.eq_of_testBit_eq
  intro i
  rw [Nat.testBit_xor, Nat.testBit_two_pow_sub_one]
  have e2 : 2 ^ 64 - 1 - a.toNat = 2 ^ 64 - (a.toNat + 1) := by omega
  rw [e2, Nat.testBit_two_pow_sub_succ hlt]
  by_cases hi : i < 64
  ·simp [hi]
  ·have : a.toNat.testBit i = false := Nat.testBit_lt_two_pow (Nat.lt_of_lt_of_le hlt (Nat.pow_le_pow_right (by omega) (by omega)))
   simp [hi, this]
 rw [e, h]; omega
attribute [go_sem] Bj1 Bj2 Bj0
theorem Cj6 : IntKind.max .u64 = 18446744073709551615 := by decide
theorem Bk6 : IntKind.signed .u64 = false := rfl
attribute [go_sem] Cj6 Bk6
end Go.Ew
namespace Go.Ew
open Go
def nd (b x : Nat) : Nat := if h : 2 ≤ b ∧ b ≤ x then nd b (x / b) + 1 else 1
termination_by x
decreasing_by exact Nat.div_lt_self (by omega) (by omega)
end Go.Ew
namespace Go.Ew
open Go RowKit
/-- A list of len elements (its cells xs, len * |zs| of them) in block r: not there yet, or with its room and what lies behind. -/
abbrev Lst := Option (Nat × List EV)
def lE (r len : Nat) : Lst → EV
 | none => .raw (.slice none 0 0)
 | some (cap, _) => .sl r 0 len cap
def lO (T : TypeId) (xs : List EV) : Lst → Option EObj
 | none => none
 | some (_, rest) => some (.cells (xs ++ rest) T (0, 0))
def lOk (zs : List EV) (len : Nat) : Lst → Prop
 | none => len = 0
 | some (cap, rest) => len ≤ cap ∧ cap ≤ maxLen ∧ rest.length = (cap - len) * zs.length ∧ ∀ v ∈ rest, v ∈ zs
theorem Bp8 {n r len : Nat} {T : TypeId} {zs xs : List EV} {e : EV} {oo : Option EObj} (h : Own n T zs r e oo len xs) : ∃ l : Lst, e = lE r len l ∧ oo = lO T xs l ∧ lOk zs len l ∧ xs.length = len * zs.length ∧ A0 n xs := by
 obtain ⟨h1, ⟨rfl, rfl, h3⟩ | ⟨cap, rest, rfl, h4, h5, ⟨h6, h7⟩, rfl, h8⟩⟩ := h
 ·refine ⟨none, rfl, rfl, h3, h1, ?_⟩
  have : xs = [] := List.eq_nil_of_length_eq_zero (by rw [h1, h3]; simp)
  subst this; simp [A0]
 ·exact ⟨some (cap, rest), rfl, rfl, ⟨h4, h5, h6, h7⟩, h1, (closeds_append.1 h8).1⟩
theorem Bs0 {n r len : Nat} {T : TypeId} {zs xs : List EV} {l : Lst} (h : lOk zs len l) (hx : xs.length = len * zs.length) (hc : A0 n xs) (hz : A0 n zs) : Own n T zs r (lE r len l) (lO T xs l) len xs := by
 cases l with
 | none => exact ⟨hx, .inl ⟨rfl, rfl, h⟩⟩
 | some p =>
  obtain ⟨cap, rest⟩ := p
  refine ⟨hx, .inr ⟨cap, rest, rfl, h.1, h.2.1, h.2.2, rfl, closeds_append.2 ⟨hc, ?_⟩⟩⟩
  rw [D8] at hz ⊢
  exact fun v hv => hz v (h.2.2.2 v hv)
end Go.Ew
namespace Go.Ew
open Go RowKit
/-- B' goes on from B. -/
structure BExt (B B' : Base) : Prop where
 D : ∀ b, B.D b → B'.D b
 same : ∀ b, B.D b → B'.w.heap[b]? = B.w.heap[b]?
 size : B.w.heap.size ≤ B'.w.heap.size
 os : B'.w.os = B.w.os
 tape : B'.w.tape = B.w.tape
 output : B'.w.output = B.w.output
theorem BExt.refl (B : Base) : BExt B B := ⟨fun _ h => h, fun _ _ => rfl, Nat.le_refl _, rfl, rfl, rfl⟩
theorem BExt.trans {A B C : Base} (h : BExt A B) (k : BExt B C) : BExt A C :=
 ⟨fun b hb => k.D b (h.D b hb), fun b hb => (k.same b (h.D b hb)).trans (h.same b hb), Nat.le_trans h.size k.size, k.os.trans h.os, k.tape.trans h.tape, k.output.trans h.output⟩
theorem HRel.ext {C : Cx} {B : Base} {n : Nat} {hs : List (Nat × Option EObj)} {bs : Nat → Nat} {w : World} (h : HRel C B n hs bs w) : BExt B ⟨w, B.D⟩ :=
 ⟨fun _ h => h, fun b hb => (h.frame b hb).2, h.hsize, h.os, h.tape, h.output⟩
theorem BExt.cell {B B' : Base} (h : BExt B B') {a : Addr} (ha : B.D a.block) : B'.w.cell? a = B.w.cell? a := World.cell?_of_block (h.same _ ha)
theorem K6 (a : Addr) (j : Nat) : (a.add j).block = a.block := by unfold Addr.add; split <;> rfl
/-- The base behind a call: what stayed, and what bears no name. -/
def after (D : Nat → Prop) (olds : List Nat) (w w' : World) (nm : Nat → Prop) : Base := ⟨w', fun b => D b ∨ ((w.heap.size ≤ b ∨ b ∈ olds) ∧ b < w'.heap.size ∧ ¬ nm b)⟩
def Bl2 (bs : Nat → Nat) (os : List (Option EObj)) : Nat → Prop := fun b => ∃ i o, os[i]? = some (some o) ∧ bs i = b
/-- It returns v; the blocks olds hold what os says, or nothing that counts; R holds of the base behind. -/
def Ct0 (D : Nat → Prop) (olds : List Nat) (v : EV) (n : Nat) (os : List (Option EObj)) (R : Base → Prop) (w : World) (e : Ending) (w' : World) : Prop :=
 ∃ bs : Nat → Nat, e = .returned (real bs v) ∧ closed n v ∧ Stay (fun b => b < w.heap.size ∧ b ∉ olds) w w' ∧ (∀ i b, olds[i]? = some b → bs i = b) ∧
  (∀ i o, os[i]? = some (some o) → o.closed n ∧ w'.heap[bs i]? = some (o.real bs) ∧ (w.heap.size ≤ bs i ∨ bs i ∈ olds)) ∧
  (∀ i j oi oj, os[i]? = some (some oi) → os[j]? = some (some oj) → bs i = bs j → i = j) ∧ R (after D olds w w' (Bl2 bs os))
abbrev cxG (P : Program) (N : Nat) (w : World) (D : Nat → Prop) (olds : List Nat) : Cx := ⟨P, N, none, olds, w, fun b => b < w.heap.size ∧ ¬ D b ∧ b ∉ olds⟩
theorem HRel.startG {P : Program} {N : Nat} {w : World} {D : Nat → Prop} {olds : List Nat} {objs : List EObj} (hD : ∀ b, D b → b < w.heap.size ∧ b ∉ olds) (hl : objs.length = olds.length) (hnd : olds.Nodup)
  (h : ∀ (i b : Nat) (o : EObj), olds[i]? = some b → objs[i]? = some o → w.heap[b]? = some (o.real (Ba5 olds)) ∧ o.closed olds.length) : HRel (cxG P N w D olds) ⟨w, D⟩ olds.length (Bx8 0 objs) (Ba5 olds) w := by
 have h0 := HRel.startW (P := P) (N := N) hl hnd h
 refine ⟨h0.live, h0.cl, h0.inj, h0.old, fun i o hi hd => ?_, fun k hk => ⟨(hD k hk).1, rfl⟩, rfl, rfl, rfl, Nat.le_refl _, fun i o hi he => ?_, fun k hk => ⟨hk.1, rfl⟩, fun k hk => hk.2.1, Nat.le_refl _, rfl, rfl, rfl⟩
 all_goals
  have hm : Ba5 olds i ∈ olds := by
   have hb := Ab1 objs 0 i
   rw [hi] at hb
   simp only [Nat.zero_le, if_true, Nat.sub_zero] at hb
   have hlt : i < objs.length := by
    rcases Nat.lt_or_ge i objs.length with h | h
    ·exact h
    ·rw [List.getElem?_eq_none h] at hb; cases hb
   rw [U5 (List.getElem?_eq_getElem (show i < olds.length by omega))]
   exact List.getElem_mem _
 ·exact (hD _ hd).2 hm
 ·exact he.2.2 hm
theorem At5 {C : Cx} {K : X → Prop} {f : FuncId} {args : List EV} {dst : Option Tmp} {x : X} {S : Type} (vf : S → EV) (nf : S → Nat) (osf : S → List (Option EObj)) (R : S → Base → Prop) (m : List Nat) (hE : C6 C.P f)
  (hlive : ∀ i ∈ m, (hget x.hs i).isSome = true) (hnd : m.Nodup) (hos : ∀ s, (m.length ≤ (osf s).length ∧ (osf s).length ≤ nf s))
  (h : ∀ bs w, HRel C x.B x.n x.hs bs w → Calls C.P f (A8 bs args).toArray w (fun e w' => ∃ s, Ct0 x.B.D (m.map bs) (vf s) (nf s) (osf s) (R s) w e w'))
  (hk : ∀ s B', BExt x.B B' → R s B' → K { σ := put x.σ dst (ren (rho m x.n) (vf s)), n := x.n + (nf s - m.length), hs := Bf0 (rho m x.n) 0 (osf s) x.hs, B := B', ms := x.ms }) : V0 C f args dst x K := by
 refine ⟨hE, ?_⟩
 intro bs w hh _
 refine (h bs w hh).mono ?_
 rintro e w' ⟨s, bs', rfl, hcv, hstay, hold, hnew, hinj, hR⟩
 obtain ⟨hos1, hos2⟩ := hos s
 obtain ⟨bs2, hbs2⟩ : ∃ bs2 : Nat → Nat, bs2 = fun i => if i < x.n then bs i else bs' (m.length + (i - x.n)) := ⟨_, rfl⟩
 have hlv : ∀ i, i ∈ m → ∃ o, hget x.hs i = some o := fun i hi => Option.isSome_iff_exists.1 (hlive i hi)
 have hml : ∀ i, i ∈ m → i < x.n := fun i hi => by obtain ⟨o, ho⟩ := hlv i hi; exact (hh.live i o ho).1
 have hlow : ∀ i, i < x.n → bs2 i = bs i := fun i hi => by rw [hbs2]; simp [hi]
 have hρ : (fun i => bs2 (rho m x.n i)) = bs' := by
  funext i
  rcases Nat.lt_or_ge i m.length with h | h
  ·rw [Av5 h, hlow _ (hml _ (List.getElem_mem h))]
   exact (hold i (bs m[i]) (by simp [h])).symm
  ·rw [Ce5 h, hbs2]
   simp only [show ¬ x.n + (i - m.length) < x.n by omega, if_false]
   congr 1; omega
 have hρb : ∀ i, bs2 (rho m x.n i) = bs' i := fun i => congrFun hρ i
 have hρn : ∀ i, i < nf s → rho m x.n i < x.n + (nf s - m.length) := by
  intro i hi
  rcases Nat.lt_or_ge i m.length with h | h
  ·rw [Av5 h]; have := hml _ (List.getElem_mem h); omega
  ·rw [Ce5 h]; omega
 have hent := Bj6 (ρ := rho m x.n) (osf s) 0 x.hs
 simp only [Nat.zero_add] at hent
 have holen : ∀ i o, (osf s)[i]? = some (some o) → i < (osf s).length := by
  intro i o hi
  rcases Nat.lt_or_ge i (osf s).length with h | h
  ·exact h
  ·rw [List.getElem?_eq_none h] at hi; simp at hi
 have hnm : ∀ t, (∀ i, i < (osf s).length → rho m x.n i ≠ t) → t ∉ m := by
  intro t ht hm
  obtain ⟨i, hi, rfl⟩ := List.mem_iff_getElem.1 hm
  exact ht i (by omega) (Av5 hi)
 have hapart : ∀ t o, hget x.hs t = some o → t ∉ m → bs t ∉ m.map bs := by
  intro t o ht hm hmem
  obtain ⟨u, hu, hub⟩ := List.mem_map.1 hmem
  obtain ⟨ou, hou⟩ := hlv u hu
  exact hm (hh.inj u t ou o hou ht hub ▸ hu)
 have hDapart : ∀ k, k ∈ m.map bs → ¬ x.B.D k := by
  rintro k hk hD
  obtain ⟨u, hu, rfl⟩ := List.mem_map.1 hk
  obtain ⟨ou, hou⟩ := hlv u hu
  exact hh.new u ou hou hD
 have hEapart : ∀ k, k ∈ m.map bs → ¬ C.E k := by
  rintro k hk hD
  obtain ⟨u, hu, rfl⟩ := List.mem_map.1 hk
  obtain ⟨ou, hou⟩ := hlv u hu
  exact hh.newE u ou hou hD
 have hB' : BExt x.B (after x.B.D (m.map bs) w w' (Bl2 bs' (osf s))) :=
  ⟨fun b hb => .inl hb, fun b hb => (hstay.same b ⟨(hh.frame b hb).1, fun hm => hDapart b hm hb⟩).trans (hh.frame b hb).2, Nat.le_trans hh.hsize hstay.size, hstay.os.trans hh.os, hstay.tape.trans hh.tape, hstay.output.trans hh.output⟩
 refine ⟨ren (rho m x.n) (vf s), x.n + (nf s - m.length), Bf0 (rho m x.n) 0 (osf s) x.hs, after x.B.D (m.map bs) w w' (Bl2 bs' (osf s)), bs2, by rw [real_ren, hρ], hlow, by omega, closed_ren hρn _ hcv, ?_, hk s _ hB' hR⟩
 -- the other names' blocks are those that they were
 have hoth : ∀ t o, hget x.hs t = some o → (∀ i, i < (osf s).length → rho m x.n i ≠ t) → bs2 t = bs t ∧ bs t < w.heap.size ∧ bs t ∉ m.map bs := fun t o h1 h2 =>
  ⟨hlow t (hh.live t o h1).1, G3 (hh.live t o h1).2, hapart t o h1 (hnm t h2)⟩
 have hcross : ∀ i o' t o, (osf s)[i]? = some (some o') → hget x.hs t = some o → (∀ i, i < (osf s).length → rho m x.n i ≠ t) → bs2 (rho m x.n i) ≠ bs2 t := by
  intro i o' t o h1 k1 k2 hb
  obtain ⟨q1, q2, q3⟩ := hoth t o k1 k2
  rw [hρb, q1] at hb
  rcases (hnew i o' h1).2.2 with h | h
  ·omega
  ·rw [hb] at h; exact q3 h
 refine ⟨?_, ?_, ?_, ?_, ?_, ?_, rfl, rfl, rfl, Nat.le_refl _, ?_, ?_, ?_, Nat.le_trans hh.eo.1 hstay.size, hstay.os.trans hh.eo.2.1, hstay.tape.trans hh.eo.2.2.1, hstay.output.trans hh.eo.2.2.2⟩
 ·intro t o ht
  rcases hent t o ht with ⟨i, o', h1, rfl, rfl⟩ | ⟨h1, h2⟩
  ·have hi := holen i o' h1
   refine ⟨hρn i (by omega), ?_⟩
   rw [hρb, EObj.real_ren, hρ]
   exact (hnew i o' h1).2.1
  ·obtain ⟨l1, l2⟩ := hh.live t o h1
   refine ⟨by omega, ?_⟩
   rw [hlow t l1, EObj.real_congr hlow o (hh.cl t o h1), hstay.same _ ⟨G3 l2, hapart t o h1 (hnm t h2)⟩]
   exact l2
 ·intro t o ht
  rcases hent t o ht with ⟨i, o', h1, rfl, rfl⟩ | ⟨h1, h2⟩
  ·exact EObj.closed_ren hρn o' (hnew i o' h1).1
  ·exact EObj.closed_mono (by omega) o (hh.cl t o h1)
 ·intro t u ot ou ht hu hb
  rcases hent t ot ht with ⟨i, o', h1, rfl, rfl⟩ | ⟨h1, h2⟩ <;> rcases hent u ou hu with ⟨j, o'', k1, rfl, rfl⟩ | ⟨k1, k2⟩
  ·rw [hρb, hρb] at hb
   rw [hinj i j o' o'' h1 k1 hb]
  ·exact absurd hb (hcross i o' u ou h1 k1 k2)
  ·exact absurd hb.symm (hcross j o'' t ot k1 h1 h2)
  ·rw [hlow t (hh.live t ot h1).1, hlow u (hh.live u ou k1).1] at hb
   exact hh.inj t u ot ou h1 k1 hb
 ·intro i b hi
  obtain ⟨h1, h2⟩ := hh.old i b hi
  exact ⟨by rw [hlow i h2]; exact h1, by omega⟩
 ·intro t o ht hD
  rcases hent t o ht with ⟨i, o', h1, rfl, rfl⟩ | ⟨h1, h2⟩
  ·rw [hρb] at hD
   rcases hD with hD | ⟨_, _, hD⟩
   ·rcases (hnew i o' h1).2.2 with h | h
    ·have := (hh.frame _ hD).1; omega
    ·exact hDapart _ h hD
   ·exact hD ⟨i, o', h1, rfl⟩
  ·obtain ⟨q1, q2, q3⟩ := hoth t o h1 h2
   rw [q1] at hD
   rcases hD with hD | ⟨hD | hD, _, _⟩
   ·exact hh.new t o h1 hD
   ·omega
   ·exact q3 hD
 ·rintro k (hk | ⟨_, hk, _⟩)
  ·exact ⟨Nat.lt_of_lt_of_le (hh.frame k hk).1 hstay.size, rfl⟩
  ·exact ⟨hk, rfl⟩
 ·intro t o ht hD
  rcases hent t o ht with ⟨i, o', h1, rfl, rfl⟩ | ⟨h1, h2⟩
  ·rw [hρb] at hD
   rcases (hnew i o' h1).2.2 with h | h
   ·have := (hh.frameE _ hD).1; omega
   ·exact hEapart _ h hD
  ·rw [hlow t (hh.live t o h1).1] at hD
   exact hh.newE t o h1 hD
 ·intro k hk
  obtain ⟨f1, f2⟩ := hh.frameE k hk
  exact ⟨Nat.lt_of_lt_of_le f1 hstay.size, by rw [hstay.same k ⟨f1, fun hm => hEapart k hm hk⟩]; exact f2⟩
 ·rintro k hk (hD | ⟨hD | hD, _, _⟩)
  ·exact hh.apart k hk hD
  ·have := (hh.frameE k hk).1; omega
  ·exact hEapart k hD hk
/-- Called at a base that goes on from B, function f hands some vf s back, of which R tells; what was there is as it was. -/
structure Does {S : Type} (P : Program) (f : FuncId) (args : List EV) (B : Base) (vf : S → EV) (R : S → Base → Prop) : Prop where
 en : C6 P f
 cl : A0 0 args
 run : ∀ B', BExt B B' → (∀ b, B'.D b → b < B'.w.heap.size) → Calls P f (A8 (fun _ => 0) args).toArray B'.w (fun e w' => ∃ s, Ct0 B'.D [] (vf s) 0 [] (R s) B'.w e w')
theorem D5 (bs bs' : Nat → Nat) {l : List EV} (h : A0 0 l) : A8 bs l = A8 bs' l := J6 (n := 0) (fun i hi => absurd hi (Nat.not_lt_zero i)) l h
theorem I8 (bs bs' : Nat → Nat) {v : EV} (h : closed 0 v) : real bs v = real bs' v := real_congr (n := 0) (fun i hi => absurd hi (Nat.not_lt_zero i)) v h
theorem Bb5 {n : Nat} {v : EV} (h : closed 0 v) : ren (rho [] n) v = v := ren_id (n := 0) (fun i hi => absurd hi (Nat.not_lt_zero i)) v h
theorem Ak6 {C : Cx} {K : X → Prop} {f : FuncId} {args : List EV} {dst : Option Tmp} {x : X} {S : Type} {B : Base} {vf : S → EV} {R : S → Base → Prop} (h : Does C.P f args B vf R) (hB : BExt B x.B) (hv : ∀ s, closed 0 (vf s))
  (hk : ∀ s B', BExt x.B B' → R s B' → K { σ := put x.σ dst (vf s), n := x.n, hs := x.hs, B := B', ms := x.ms }) : V0 C f args dst x K := by
 refine At5 vf (fun _ => 0) (fun _ => []) R [] h.en (by simp) (by simp) (fun s => ⟨Nat.le_refl _, Nat.le_refl _⟩) (fun bs w hh => ?_) (fun s B' hE hR => ?_)
 ·rw [D5 bs (fun _ => 0) h.cl]
  exact h.run ⟨w, x.B.D⟩ (hB.trans hh.ext) (fun b hb => (hh.frame b hb).1)
 ·rw [Bb5 (hv s)]
  exact hk s B' hE hR
theorem F4 {C : Cx} {Q : Exit → X → Prop} {f : FuncId} {args : List EV} {dst : Option Tmp} {st : List It} {x : X} {S : Type} {vf : S → EV} {R : S → Base → Prop} (h : Does C.P f args x.B vf R) (hv : ∀ s, closed 0 (vf s))
  (hk : ∀ s B', BExt x.B B' → R s B' → Next C Q st { σ := put x.σ dst (vf s), n := x.n, hs := x.hs, B := B', ms := x.ms }) : W3 C Q f args dst st x :=
 fun _ => .inr (Ak6 h (BExt.refl _) hv hk)
theorem J9 {S : Type} {P : Program} {f : FuncId} {fn : Func} {c : Code} {args : List EV} {B : Base} {vf : S → EV} {R : S → Base → Prop} (hE : C6 P f) (hRm : ∀ s B B', BExt B B' → R s B → R s B')
  (hf : P.funcs[f]? = some fn) (hb : fn.body = some c) (hin : C5 fn.ntmps c = true) (hl : args.length ≤ fn.ntmps) (hcl : A0 0 args)
  (h : ∀ B0, BExt B B0 → Next (cxG P fn.ntmps B0.w B0.D []) (Bn4 (cxG P fn.ntmps B0.w B0.D []) fn.results.toList (fun v x => BExt B0 x.B ∧ ∃ s, v = vf s ∧ closed 0 (vf s) ∧ R s x.B)) [.c c] ⟨argσ 0 args, 0, [], B0, []⟩) : Does P f args B vf R := by
 refine ⟨hE, hcl, fun B0 hw hlt => ?_⟩
 obtain ⟨w, D⟩ := B0
 simp only at hlt
 have h1 := N4 (C := cxG P fn.ntmps w D []) (B := ⟨w, D⟩) (bs := fun _ => 0) (n := 0) (hs := []) (K := fun v x => BExt ⟨w, D⟩ x.B ∧ ∃ s, v = vf s ∧ closed 0 (vf s) ∧ R s x.B) rfl hf hb rfl hin hl
  (by
   have := HRel.startG (P := P) (N := fn.ntmps) (w := w) (D := D) (olds := []) (objs := []) (fun b hb => ⟨hlt b hb, by simp⟩) rfl (by simp) (fun i b o hi => by simp at hi)
   exact ⟨by simp [hget], by simp [hget], by simp [hget], by simp, by simp [hget], this.frame, rfl, rfl, rfl, Nat.le_refl _, by simp [hget], this.frameE, this.apart, Nat.le_refl _, rfl, rfl, rfl⟩) hcl (h ⟨w, D⟩ hw)
 refine h1.mono ?_
 rintro e w' ⟨v, x', bs', rfl, hcv, hr, hE', s, rfl, hc0, hR⟩
 have hlow : ∀ k, k < w.heap.size → ¬ D k ∨ D k := fun k _ => (Classical.em _).symm
 refine ⟨s, bs', rfl, hc0, ⟨hr.eo.1, fun k hk => ?_, hr.eo.2.1, hr.eo.2.2.1, hr.eo.2.2.2⟩, fun i b hi => by simp at hi, fun i o hi => by simp at hi, fun i j oi oj hi => by simp at hi, ?_⟩
 ·rcases hlow k hk.1 with h | h
  ·exact (hr.frameE k ⟨hk.1, h, by simp⟩).2
  ·exact ((hr.frame k (hE'.D k h)).2).trans (hE'.same k h)
 ·refine hRm s x'.B _ ⟨fun b hb => ?_, fun b hb => (hr.frame b hb).2, hr.hsize, hr.os, hr.tape, hr.output⟩ hR
  have hbw := (hr.frame b hb).1
  rcases Nat.lt_or_ge b w.heap.size with hlt' | hge
  ·rcases hlow _ hlt' with h | h
   ·exact absurd hb (hr.apart b ⟨hlt', h, by simp⟩)
   ·exact .inl h
  ·exact .inr ⟨.inl hge, hbw, by rintro ⟨i, o, hi, _⟩; simp at hi⟩
mutual
def frz (i b : Nat) : EV → EV
 | .ptr j off => if j = i then .raw (.pointer (some ⟨b, off, none⟩)) else .ptr j off
 | .sl j off len cap => if j = i then .raw (.slice (some ⟨b, off, none⟩) len cap) else .sl j off len cap
 | .mp j => if j = i then .raw (.map (some b)) else .mp j
 | .fn f a c => .fn f (Ag3 i b a) (Ag3 i b c)
 | .agg cs => .agg (Ag3 i b cs)
 | .tup vs => .tup (Ag3 i b vs)
 | .ifc t v => .ifc t (frz i b v)
 | v => v
def Ag3 (i b : Nat) : List EV → List EV
 | [] => []
 | v :: vs => frz i b v :: Ag3 i b vs
end
mutual
theorem real_frz (bs : Nat → Nat) (i : Nat) : ∀ v, real bs (frz i (bs i) v) = real bs v
 | .any | .int _ _ | .bool _ | .str _ | .raw _ => rfl
 | .ptr j off => by simp only [frz]; split <;> simp_all [real]
 | .sl j off _ _ => by simp only [frz]; split <;> simp_all [real]
 | .mp j => by simp only [frz]; split <;> simp_all [real]
 | .fn _ a b => by simp [frz, real, R7 bs i a, R7 bs i b]
 | .agg cs => by simp [frz, real, R7 bs i cs]
 | .tup vs => by simp [frz, real, R7 bs i vs]
 | .ifc t v => by simp [frz, real, real_frz bs i v]
theorem R7 (bs : Nat → Nat) (i : Nat) : ∀ l, A8 bs (Ag3 i (bs i) l) = A8 bs l
 | [] => rfl
 | v :: vs => by simp [Ag3, A8, real_frz bs i v, R7 bs i vs]
end
mutual
theorem closed_frz {n : Nat} (i b : Nat) : ∀ v, closed n v → closed n (frz i b v)
 | .any, h | .int _ _, h | .bool _, h | .str _, h | .raw _, h => h
 | .ptr j off, h => by simp only [frz]; split <;> simp_all [closed]
 | .sl j off _ _, h => by simp only [frz]; split <;> simp_all [closed]
 | .mp j, h => by simp only [frz]; split <;> simp_all [closed]
 | .fn _ a c, h => by simp only [frz, closed] at h ⊢; exact ⟨M7 i b a h.1, M7 i b c h.2⟩
 | .agg cs, h => by simp only [frz, closed] at h ⊢; exact M7 i b cs h
 | .tup vs, h => by simp only [frz, closed] at h ⊢; exact M7 i b vs h
 | .ifc t v, h => by simp only [frz, closed] at h ⊢; exact closed_frz i b v h
theorem M7 {n : Nat} (i b : Nat) : ∀ l, A0 n l → A0 n (Ag3 i b l)
 | [], h => h
 | v :: vs, h => by simp only [Ag3, A0] at h ⊢; exact ⟨closed_frz i b v h.1, M7 i b vs h.2⟩
end
def EObj.frz (i b : Nat) : EObj → EObj
 | .cells cs T fr => .cells (Ag3 i b cs) T fr
 | .obj o => .obj o
theorem EObj.real_frz (bs : Nat → Nat) (i : Nat) (o : EObj) : (o.frz i (bs i)).real bs = o.real bs := by
 cases o <;> simp [EObj.frz, EObj.real, R7]
theorem EObj.closed_frz {n : Nat} (i b : Nat) (o : EObj) (h : o.closed n) : (o.frz i b).closed n := by
 cases o with
 | cells cs T fr => exact M7 i b cs h
 | obj o => exact h
def frzσ (i b : Nat) : List (Nat × EV) → List (Nat × EV)
 | [] => []
 | (t, v) :: r => (t, frz i b v) :: frzσ i b r
def Au5 (i b : Nat) : List (Nat × Option EObj) → List (Nat × Option EObj)
 | [] => []
 | (j, none) :: r => (j, none) :: Au5 i b r
 | (j, some o) :: r => (j, if j = i then none else some (o.frz i b)) :: Au5 i b r
theorem tget_frzσ (i b : Nat) : ∀ (σ : List (Nat × EV)) (t : Nat), G2 (frzσ i b σ) t = frz i b (G2 σ t)
 | [], t => rfl
 | (t', v) :: r, t => by simp only [frzσ, G2]; cases hb : (t' == t) <;> simp [tget_frzσ i b r t]
theorem Ab2 (i b : Nat) : ∀ (hs : List (Nat × Option EObj)) (j : Nat), hget (Au5 i b hs) j = if j = i then none else (hget hs j).map (EObj.frz i b)
 | [], j => by simp [Au5, hget]
 | (j', none) :: r, j => by
  simp only [Au5, hget]
  cases hb : (j' == j) with
  | true => simp
  | false => simp only [cond_false]; exact Ab2 i b r j
 | (j', some o) :: r, j => by
  simp only [Au5, hget]
  cases hb : (j' == j) with
  | true =>
   have : j' = j := by simpa using hb
   subst this
   simp only [cond_true]
   split <;> rfl
  | false => simp only [cond_false]; exact Ab2 i b r j
theorem Rel.frz {C : Cx} {x : X} {bs : Nat → Nat} {a : Act} {w : World} (hr : Rel C x bs a w) (i : Nat) (hms : i ∉ x.ms) (D' : Nat → Prop) (hD' : ∀ k, D' k ↔ x.B.D k ∨ (k = bs i ∧ (hget x.hs i).isSome = true)) :
  Rel C ⟨frzσ i (bs i) x.σ, x.n, Au5 i (bs i) x.hs, ⟨w, D'⟩, x.ms⟩ bs a w := by
 have hlive : (hget x.hs i).isSome = true → bs i < w.heap.size ∧ ¬ C.E (bs i) := fun h => by
  obtain ⟨o, ho⟩ := Option.isSome_iff_exists.1 h
  exact ⟨G3 (hr.h.live i o ho).2, hr.h.newE i o ho⟩
 have hk : ∀ j o, hget (Au5 i (bs i) x.hs) j = some o → j ≠ i ∧ ∃ o', hget x.hs j = some o' ∧ o = o'.frz i (bs i) := by
  intro j o hj
  rw [Ab2] at hj
  split at hj
  ·cases hj
  ·rename_i hji
   cases ho : hget x.hs j with
   | none => rw [ho] at hj; cases hj
   | some o' => rw [ho] at hj; simp only [Option.map_some, Option.some.injEq] at hj; exact ⟨hji, o', rfl, hj.symm⟩
 refine ⟨⟨hr.t.size, hr.t.defers, hr.t.msin, fun t ht => ?_, fun t => ?_⟩, ?_⟩
 ·simp only at ht ⊢
  rw [tget_frzσ] at ht ⊢
  rw [real_frz]
  exact hr.t.tmps t (fun e => ht (by rw [e]; rfl))
 ·simp only; rw [tget_frzσ]; exact closed_frz _ _ _ (hr.t.cl t)
 ·refine ⟨fun j o hj => ?_, fun j o hj => ?_, fun j k oj ok hj hk' hb => ?_, hr.h.old, fun j o hj hD => ?_, fun k hD => ?_, rfl, rfl, rfl, Nat.le_refl _, fun j o hj => ?_, hr.h.frameE, fun k hE hD => ?_, hr.h.eo⟩
  ·obtain ⟨_, o', ho, rfl⟩ := hk j o hj
   rw [EObj.real_frz]; exact hr.h.live j o' ho
  ·obtain ⟨_, o', ho, rfl⟩ := hk j o hj
   exact EObj.closed_frz _ _ _ (hr.h.cl j o' ho)
  ·obtain ⟨_, oj', hoj, rfl⟩ := hk j oj hj
   obtain ⟨_, ok', hok, rfl⟩ := hk k ok hk'
   exact hr.h.inj j k oj' ok' hoj hok hb
  ·obtain ⟨hji, o', ho, rfl⟩ := hk j o hj
   rcases (hD' _).1 hD with h | ⟨h, hs⟩
   ·exact hr.h.new j o' ho h
   ·obtain ⟨oi, hoi⟩ := Option.isSome_iff_exists.1 hs
    exact hji (hr.h.inj j i o' oi ho hoi h)
  ·rcases (hD' _).1 hD with h | ⟨rfl, hs⟩
   ·exact ⟨(hr.h.frame k h).1, rfl⟩
   ·exact ⟨(hlive hs).1, rfl⟩
  ·obtain ⟨_, o', ho, rfl⟩ := hk j o hj
   exact hr.h.newE j o' ho
  ·rcases (hD' _).1 hD with h | ⟨rfl, hs⟩
   ·exact hr.h.apart k hE h
   ·exact (hlive hs).2 hE
theorem Rel.frz_ext {C : Cx} {x : X} {bs : Nat → Nat} {a : Act} {w : World} (hr : Rel C x bs a w) (D' : Nat → Prop) (hD' : ∀ k, x.B.D k → D' k) : BExt x.B ⟨w, D'⟩ :=
 ⟨hD', fun b hb => (hr.h.frame b hb).2, hr.h.hsize, hr.h.os, hr.h.tape, hr.h.output⟩
theorem As3 {C : Cx} {Q : Exit → X → Prop} {st : List It} {x : X} (i : Nat) {cs : List EV} {T : TypeId} {fr : Nat × Nat} (hg : hget x.hs i = some (.cells cs T fr)) (hcs : A0 0 cs) (hms : i ∉ x.ms)
  (hk : ∀ b B', BExt x.B B' → B'.D b → B'.w.heap[b]? = some (.cells (A8 (fun _ => 0) cs).toArray T fr) → Next C Q st ⟨frzσ i b x.σ, x.n, Au5 i b x.hs, B', x.ms⟩) : Next C Q st x := by
 intro hst bs a w hr
 refine hk (bs i) ⟨w, fun k => x.B.D k ∨ k = bs i⟩ (hr.frz_ext _ (fun k h => .inl h)) (.inr rfl) ?_ hst bs a w (hr.frz i hms _ (fun k => by simp [hg]))
 have := (hr.h.live i _ hg).2
 simp only [EObj.real] at this
 rw [D5 (fun _ => 0) bs hcs]; exact this
/-- A list's own block becomes part of the base. -/
theorem As4 {C : Cx} {Q : Exit → X → Prop} {st : List It} {x : X} (r len : Nat) {l : Lst} {xs zs : List EV} {T : TypeId} (hg : hget x.hs r = lO T xs l) (hl : lOk zs len l) (hx : xs.length = len * zs.length) (hc : A0 0 xs) (hz : A0 0 zs) (hms : r ∉ x.ms)
  (hk : ∀ b ad cap B', BExt x.B B' → frz r b (lE r len l) = .raw (.slice ad len cap) → (∀ a, ad = some a → a = ⟨b, 0, none⟩ ∧ B'.D b) → (0 < len → ad.isSome = true) →
   (∀ j, j < xs.length → B'.w.cell? (I0 ad j) = some (real (fun _ => 0) (xs.getD j .any))) → Next C Q st ⟨frzσ r b x.σ, x.n, Au5 r b x.hs, B', x.ms⟩) : Next C Q st x := by
 intro hst bs a w hr
 cases l with
 | none =>
  have hg' : hget x.hs r = none := hg
  have h0 : len = 0 := hl
  subst h0
  refine hk (bs r) none 0 ⟨w, x.B.D⟩ (hr.frz_ext _ (fun k h => h)) rfl (fun a ha => by cases ha) (fun h => absurd h (by omega)) (fun j hj => by rw [hx] at hj; omega) hst bs a w (hr.frz r hms _ (fun k => by simp [hg']))
 | some p =>
  obtain ⟨cap, rest⟩ := p
  have hg' : hget x.hs r = some (.cells (xs ++ rest) T (0, 0)) := hg
  refine hk (bs r) (some ⟨bs r, 0, none⟩) cap ⟨w, fun k => x.B.D k ∨ k = bs r⟩ (hr.frz_ext _ (fun k h => .inl h)) (by simp [lE, frz]) (fun a ha => by cases ha; exact ⟨rfl, .inr rfl⟩) (fun _ => rfl) (fun j hj => ?_) hst bs a w (hr.frz r hms _ (fun k => by simp [hg']))
  have := (hr.h.live r _ hg').2
  simp only [EObj.real] at this
  rw [E8, K8, K1 this]
  have hcr : A0 0 xs := hc
  simp only [Nat.zero_add]
  rw [List.getElem?_toArray, A9, List.getElem?_map, List.getElem?_append_left hj, List.getElem?_eq_getElem hj, List.getD_eq_getElem?_getD, List.getElem?_eq_getElem hj]
  simp only [Option.map_some, Option.getD_some]
  congr 1
  exact I8 _ _ (G4 hcr (List.getElem_mem hj))
def fzO (i b : Nat) (o : Option EObj) : Option EObj := o.map (EObj.frz i b)
theorem Cb3 (i b : Nat) : fzO i b none = none := rfl
theorem As2 (i b : Nat) (o : EObj) : fzO i b (some o) = some (o.frz i b) := rfl
theorem N1 (i b : Nat) : Au5 i b [] = [] := rfl
theorem I6 (i b j : Nat) (o : Option EObj) (r : List (Nat × Option EObj)) : Au5 i b ((j, o) :: r) = (j, if j = i then none else fzO i b o) :: Au5 i b r := by
 cases o with
 | none => simp [Au5, fzO]
 | some o => rfl
attribute [go_sem] frz Ag3 EObj.frz frzσ N1 I6 Cb3 As2
end Go.Ew
namespace Go.Ew
open Go RowKit
theorem Bb7 {B B' : Base} (h : BExt B B') {a : Addr} (ha : B.D a.block) : F5 B' a = F5 B a := by
 unfold F5; rw [h.cell ha]
theorem Bl5 {C : Cx} {B B' : Base} {hs : List (Nat × Option EObj)} {T : TypeId} {p v : EV} {c : Prop} (h : BExt B B') (hl : M2 C B hs T p = some (v, c)) (hc : c) : ∃ c', M2 C B' hs T p = some (v, c') ∧ c' := by
 cases p with
 | ptr i off => exact ⟨c, hl, hc⟩
 | raw u =>
  cases u with
  | pointer a =>
   cases a with
   | none => simp [M2] at hl
   | some a =>
    simp only [M2] at hl ⊢
    cases ha : Bn3 C.P T with
    | none => simp [ha] at hl
    | some b =>
     cases b with
     | true =>
      simp only [ha, Option.some.injEq, Prod.mk.injEq] at hl
      obtain ⟨rfl, rfl⟩ := hl
      obtain ⟨hD, hall⟩ := hc
      have e : ∀ j, B'.w.cell? (a.add j) = B.w.cell? (a.add j) := fun j => h.cell (by rw [K6]; exact hD)
      refine ⟨B'.D a.block ∧ Ap5 B' a (C.P.cellsOf T), ?_, h.D _ hD, fun j hj => by rw [e]; exact hall j hj⟩
      have e2 : M9 B' a (C.P.cellsOf T) = M9 B a (C.P.cellsOf T) :=
       List.map_congr_left fun j _ => by unfold F5; rw [e]
      simp only [e2]
     | false =>
      simp only [ha, Option.some.injEq, Prod.mk.injEq] at hl
      obtain ⟨rfl, rfl⟩ := hl
      obtain ⟨hD, hall⟩ := hc
      refine ⟨B'.D a.block ∧ (B'.w.cell? a).isSome = true, ?_, h.D _ hD, by rw [h.cell hD]; exact hall⟩
      simp only [Bb7 h hD]
  | _ => simp [M2] at hl
 | _ => simp [M2] at hl
theorem Bc6 {C : Cx} {B B' : Base} {hs : List (Nat × Option EObj)} {T : TypeId} {p : EV} (hl : M2 C B hs T p = none) : M2 C B' hs T p = none := by
 cases p with
 | ptr i off => exact hl
 | raw u =>
  cases u with
  | pointer a =>
   cases a with
   | none => rfl
   | some a =>
    simp only [M2] at hl ⊢
    cases ha : Bn3 C.P T with
    | none => rfl
    | some b => cases b <;> simp [ha] at hl
  | _ => rfl
 | _ => rfl
theorem T7 {C : Cx} {x y : X} {op : Op} (hB : BExt x.B y.B) (h : ∀ t ∈ C2 op, G2 y.σ t = G2 x.σ t) (hf : ∀ i ∈ Af6 x.σ op, hget y.hs i = hget x.hs i) :
  (∀ v c, H1 C x op = some (v, c) → c → ∃ c', H1 C y op = some (v, c') ∧ c') ∧ (H1 C x op = none → H1 C y op = none) := by
 have e := Q6 (C := C) (x := x) (y := { σ := y.σ, n := y.n, hs := y.hs, B := x.B, ms := y.ms }) (op := op) rfl h hf
 have key : (∃ T p, op = .load T p) ∨ H1 C y op = H1 C { σ := y.σ, n := y.n, hs := y.hs, B := x.B, ms := y.ms } op := by
  cases op with
  | load T p => exact .inl ⟨T, p, rfl⟩
  | call c => obtain ⟨callee, args, Ts⟩ := c; cases callee <;> exact .inr rfl
  | _ => exact .inr rfl
 rcases key with ⟨T, p, rfl⟩ | key
 ·constructor
  ·intro v c hv hc
   rw [← e] at hv
   exact Bl5 hB hv hc
  ·intro hn
   rw [← e] at hn
   exact Bc6 hn
 ·constructor
  ·intro v c hv hc
   exact ⟨c, by rw [key, e]; exact hv, hc⟩
  ·intro hn
   rw [key, e]; exact hn
/-- Alike in what E looks at; the base goes on. -/
structure AgreeB (E : Ef) (y x : X) : Prop where
 B : BExt x.B y.B
 ms : y.ms = x.ms
 σ : ∀ t, t ∈ E.looks → G2 y.σ t = G2 x.σ t
 hs : ∀ i, i ∈ E.foot → hget y.hs i = hget x.hs i
 n : E.a ≠ 0 → y.n = x.n
 nm : ∀ r ∈ E.nm, Av r y
def Ct1 (C : Cx) (ops : List Oper) (o : Oper) (E : Ef) (x : X) : Prop := ∀ y, AgreeB E y x → eOp C ops o (fun z => Alike z (E.app y)) y
def Ef.appB (E : Ef) (B' : Base) (x : X) : X := { σ := put x.σ E.dst E.v, n := x.n + E.a, hs := E.ups ++ x.hs, B := B', ms := x.ms }
/-- The base stays, or goes on. -/
def Gon (sm : Bool) (B B' : Base) : Prop := if sm = true then B' = B else BExt B B'
theorem Gon.ext {sm : Bool} {B B' : Base} (h : Gon sm B B') : BExt B B' := by
 unfold Gon at h
 split at h
 ·subst h; exact BExt.refl _
 ·exact h
def Db6 (C : Cx) (ops : List Oper) (o : Oper) (sm : Bool) (E0 : Ef) {S : Type} (F : S → Ef) (R : S → Base → Prop) (x : X) : Prop :=
 ∀ y, AgreeB E0 y x → eOp C ops o (fun z => ∃ s B', Gon sm y.B B' ∧ R s B' ∧ Alike z ((F s).appB B' y)) y
theorem Bb1 {C : Cx} {ops : List Oper} {o : Oper} {x y : X} {E : Ef} {c : Prop} (hd : K3 C.N o.dst = true) (h : Al9 C ops o x = some (E, c)) (hc : c) (hy : AgreeB E y x) : Au6 C o y (fun z => Alike z (E.app y)) := by
 unfold Al9 at h
 split at h
 ·rename_i v c' hp
  simp only [Option.some.injEq, Prod.mk.injEq] at h; obtain ⟨rfl, rfl⟩ := h
  obtain ⟨c2, e, hc2⟩ := (T7 (C := C) (x := x) (y := y) (op := o.op) hy.B (fun t ht => hy.σ t (by simp [ht])) (fun i hi => hy.hs i hi)).1 v c' hp hc
  exact K9 hd (x' := { σ := put y.σ o.dst v, n := y.n, hs := y.hs, B := y.B, ms := y.ms }) (c := c2) (by simp only [Al8, e]) hc2 (Alike.rfl' _)
 ·rename_i hp
  split at h
  ·rename_i v ob c' ha
   split at h
   ·rename_i r hres
    simp only [Option.some.injEq, Prod.mk.injEq] at h; obtain ⟨rfl, rfl⟩ := h
    obtain ⟨hc1, hc2, hc3⟩ := hc
    have hA : Av r y := hy.nm r (by simp)
    obtain ⟨v', hv1, hv2, hv3⟩ := Bj5 (C := C) (x := x) (y := y) (op := o.op) (fun t ht => hy.σ t (by simp [ht])) ha r
    intro bs a w hr Q
    obtain ⟨h1, h2, h3⟩ := U6 hr hv1 hc1
    refine ⟨fun _ _ => trivial, ?_⟩
    rw [Oper.semAt_eq _ _ _ (Au1 hv1), h1]
    exact ⟨⟨put y.σ o.dst (atN r v), y.n, (r, some ob) :: y.hs, y.B, y.ms⟩, upd bs r w.heap.size,
     ⟨hr.t.nextA hA.σ hA.ms hd (hv2 bs _) (hv3 y.n hA.n), hr.h.allocA hA.n hA.hs hc2 ob h3 hc3⟩, Alike.rfl' _⟩
   simp only [Option.some.injEq, Prod.mk.injEq] at h; obtain ⟨rfl, rfl⟩ := h
   have e := (T7 (C := C) (x := x) (y := y) (op := o.op) hy.B (fun t ht => hy.σ t (by simp [ht])) (fun i hi => hy.hs i (by simp [hi]))).2 hp
   have hn : y.n = x.n := hy.n (by simp)
   have e2 := Ac4 (C := C) (x := x) (y := y) (op := o.op) (fun t ht => hy.σ t (by simp [ht])) hn
   refine K9 hd (x' := { σ := put y.σ o.dst v, n := y.n + 1, hs := (y.n, some ob) :: y.hs, B := y.B, ms := y.ms }) (c := c') (by simp only [Al8, e, e2, ha]) hc ?_
   exact ⟨fun t => rfl, rfl, fun i => by simp [Ef.app, hn], rfl, rfl⟩
  ·rename_i ha
   split at h
   ·rename_i i ob c' hs
    simp only [Option.some.injEq, Prod.mk.injEq] at h; obtain ⟨rfl, rfl⟩ := h
    have e := (T7 (C := C) (x := x) (y := y) (op := o.op) hy.B (fun t ht => hy.σ t (by simp [ht])) (fun i hi => hy.hs i (by simp [hi]))).2 hp
    have e2 := Af9 (C := C) (x := x) (y := y) (op := o.op) (fun t ht => hy.σ t (by simp [ht])) ha
    have e3 := Aa4 (C := C) (x := x) (y := y) (op := o.op) (fun t ht => hy.σ t (by simp [ht])) (fun i hi => hy.hs i (by simp [hi]))
    exact K9 hd (x' := { σ := put y.σ o.dst (.tup []), n := y.n, hs := (i, some ob) :: y.hs, B := y.B, ms := y.ms }) (c := c') (by simp only [Al8, e, e2, e3, hs]) hc (Alike.rfl' _)
   ·simp at h
theorem Q7 {C : Cx} {ops : List Oper} {o : Oper} {x : X} {E : Ef} (hl : ∀ t ∈ F7 ops o.guard, t ∈ E.looks)
  (hg : Ba3 ops o x) {K : X → X → Prop} (h : ∀ y, AgreeB E y x → Au6 C o y (K y)) : ∀ y, AgreeB E y x → eOp C ops o (K y) y := by
 intro y hy
 have e := K2 (ops := ops) (g := o.guard) (fun t ht => hy.σ t (hl t ht))
 unfold eOp
 rw [e]
 rcases hg with hg | ⟨b, want, d, hg, hb⟩
 ·simp only [hg]; exact h y hy
 ·simp only [hg]
  subst hb
  exact ⟨fun _ => h y hy, fun hx => by cases b <;> simp at hx⟩
theorem Bs3 {C : Cx} {ops : List Oper} {o : Oper} {x : X} {b want : Bool} {d : Tmp} (hg : F3 ops x.σ o.guard = .test b want d) (hb : b = !want) :
  Ct1 C ops o { dst := o.dst, v := .tup [], ups := [], a := 0, looks := F7 ops o.guard, foot := [] } x := by
 intro y hy
 have e := K2 (ops := ops) (g := o.guard) (fun t ht => hy.σ t ht)
 unfold eOp
 rw [e]
 simp only [hg]
 exact ⟨fun hx => by subst hb; cases want <;> simp at hx, fun _ => ⟨fun _ => rfl, rfl, fun _ => rfl, rfl, rfl⟩⟩
theorem Bl4 {C : Cx} {ops : List Oper} {o : Oper} {x : X} (hg : F3 ops x.σ o.guard = .skip) :
  Ct1 C ops o { dst := o.dst, v := .tup [], ups := [], a := 0, looks := F7 ops o.guard, foot := [] } x := by
 intro y hy
 have e := K2 (ops := ops) (g := o.guard) (fun t ht => hy.σ t ht)
 unfold eOp
 rw [e]
 simp only [hg]
 exact ⟨fun _ => rfl, rfl, fun _ => rfl, rfl, rfl⟩
/-- A tree of effects. -/
inductive Tr : Type 1
 | nil
 | det (i : Nat) (o : Oper) (E : Ef) (T : Tr)
 | fam (i : Nat) (o : Oper) (sm : Bool) (E0 : Ef) (S : Type) (F : S → Ef) (R : S → Base → Prop) (T : S → Base → Tr)
def W4 (C : Cx) (ops : List Oper) (K : X → Prop) : Tr → X → Prop
 | .nil, x => ∀ y, Alike y x → K y
 | .det _ o E T, x => Ct1 C ops o E x ∧ W4 C ops K T (E.app x)
 | .fam _ o sm E0 _ F R T, x => Db6 C ops o sm E0 F R x ∧ ∀ s B', Gon sm x.B B' → R s B' → W4 C ops K (T s B') ((F s).appB B' x)
theorem Ag1 {E : Ef} {y x z : X} (h : AgreeB E y x) (e : Alike x z) : AgreeB E y z :=
 ⟨by rw [← e.B]; exact h.B, h.ms.trans e.ms, fun t ht => (h.σ t ht).trans (e.σ t), fun i hi => (h.hs i hi).trans (e.hs i), fun hn => (h.n hn).trans e.n, h.nm⟩
theorem Bn2 {E : Ef} {B' : Base} {x y : X} (e : Alike x y) : Alike (E.appB B' x) (E.appB B' y) :=
 ⟨fun t => by simp only [Ef.appB, J3, e.σ t], by simp only [Ef.appB, e.n], fun i => by simp only [Ef.appB, Q9, e.hs i], rfl, e.ms⟩
theorem N6 {C : Cx} {ops : List Oper} {K : X → Prop} : ∀ (T : Tr) {x y : X}, W4 C ops K T x → Alike x y → W4 C ops K T y
 | .nil, x, y, h, e => fun z hz => h z (hz.trans e.symm)
 | .det _ o E T, x, y, h, e => ⟨fun z hz => h.1 z (Ag1 hz e.symm), N6 T h.2 (Ba1 e)⟩
 | .fam _ o _ E0 _ F R T, x, y, h, e => ⟨fun z hz => h.1 z (Ag1 hz e.symm), fun s B' hB hR => N6 (T s B') (h.2 s B' (by rw [e.B]; exact hB) hR) (Bn2 e)⟩
structure SameF (E0 E : Ef) : Prop where
 dst : E.dst = E0.dst
 looks : E.looks = E0.looks
 foot : E.foot = E0.foot
 a : E.a = E0.a
 nm : E.nm = E0.nm
 keys : Aj1 E.ups = Aj1 E0.ups
theorem SameF.apart {E0 E A : Ef} (h : SameF E0 E) (k : A.apart E0 = true) : A.apart E = true := by
 unfold Ef.apart at *
 rw [h.dst, h.looks, h.foot, h.a, h.keys]; exact k
/-- What A does, E does not see. -/
theorem Ap3 {A E : Ef} (h : A.apart E = true) {y x : X} (hy : AgreeB E y x) : AgreeB E y (A.app x) := by
 simp only [Ef.apart, Bool.and_eq_true] at h
 obtain ⟨⟨⟨⟨⟨a1, a2⟩, a3⟩, a4, a5⟩, a6⟩, a7⟩ := h
 refine ⟨hy.B, hy.ms, fun t ht => ?_, fun k hk => ?_, fun hn => ?_, hy.nm⟩
 ·rw [hy.σ t ht]
  simp only [Ef.app, J3]
  rw [if_neg]
  intro e
  rw [e] at a1
  simp only [X7, Bool.not_eq_true', List.contains_eq_mem, decide_eq_false_iff_not] at a1
  exact a1 ht
 ·rw [hy.hs k hk]
  simp only [Ef.app, Q9]
  rw [if_neg]
  intro e
  exact P7 a4 k e hk
 ·rw [hy.n hn]
  simp only [Ef.app]
  simp only [Bool.or_eq_true, beq_iff_eq] at a7
  omega
theorem Ag0 {A E : Ef} (h : E.apart A = true) {B' : Base} {y x : X} (hB : BExt x.B B') (hy : AgreeB A y (E.appB B' x)) : AgreeB A y x := by
 simp only [Ef.apart, Bool.and_eq_true] at h
 obtain ⟨⟨⟨⟨⟨h1, h2⟩, h3⟩, h4, h5⟩, h6⟩, h7⟩ := h
 refine ⟨hB.trans hy.B, hy.ms, fun t ht => ?_, fun i hi => ?_, fun hn => ?_, hy.nm⟩
 ·rw [hy.σ t ht]
  simp only [Ef.appB, J3]
  rw [if_neg]
  intro e
  rw [e] at h1
  simp only [X7, Bool.not_eq_true', List.contains_eq_mem, decide_eq_false_iff_not] at h1
  exact h1 ht
 ·rw [hy.hs i hi]
  simp only [Ef.appB, Q9]
  rw [if_neg]
  intro e
  exact P7 h4 i e hi
 ·rw [hy.n hn]
  simp only [Ef.appB]
  simp only [Bool.or_eq_true, beq_iff_eq] at h7
  omega
theorem Bj4 {A E : Ef} (h : A.apart E = true) (B' : Base) (x : X) : Alike (E.appB B' (A.app x)) (A.app (E.appB B' x)) := by
 have h0 := Ap1 h x
 exact ⟨fun t => (h0.σ t).symm, h0.n.symm, fun i => (h0.hs i).symm, rfl, rfl⟩
abbrev Nd := Nat × Oper × Ef × Bool
/-- Of each node of the tree. -/
def AllP (φ : Nd → Prop) : Tr → Base → Prop
 | .nil, _ => True
 | .det i o E T, B => φ (i, o, E, false) ∧ AllP φ T B
 | .fam i o sm E0 _ F R T, B => φ (i, o, E0, true) ∧ ∀ s B', Gon sm B B' → R s B' → φ (i, o, F s, true) ∧ AllP φ (T s B') B'
theorem AllP.imp {φ ψ : Nd → Prop} (h : ∀ q, φ q → ψ q) : ∀ {T : Tr} {B : Base}, AllP φ T B → AllP ψ T B
 | .nil, _, _ => trivial
 | .det _ _ _ T, B, k => ⟨h _ k.1, AllP.imp h (T := T) k.2⟩
 | .fam _ _ _ _ _ _ _ T, B, k => ⟨h _ k.1, fun s B' hB hR => ⟨h _ (k.2 s B' hB hR).1, AllP.imp h (T := T s B') (k.2 s B' hB hR).2⟩⟩
theorem AllP.and {φ ψ : Nd → Prop} : ∀ {T : Tr} {B : Base}, AllP φ T B → AllP ψ T B → AllP (fun q => φ q ∧ ψ q) T B
 | .nil, _, _, _ => trivial
 | .det _ _ _ T, B, k, l => ⟨⟨k.1, l.1⟩, AllP.and (T := T) k.2 l.2⟩
 | .fam _ _ _ _ _ _ _ T, B, k, l => ⟨⟨k.1, l.1⟩, fun s B' hB hR => ⟨⟨(k.2 s B' hB hR).1, (l.2 s B' hB hR).1⟩, AllP.and (T := T s B') (k.2 s B' hB hR).2 (l.2 s B' hB hR).2⟩⟩
/-- An earlier and a later node. -/
structure P2 (p q : Nd) : Prop where
 ap : p.2.2.2 = false → I5 q.2.1 p.1 = true ∨ p.2.2.1.apart q.2.2.1 = true
 n1 : p.2.2.2 = false → ∀ r ∈ p.2.2.1.nm, I5 q.2.1 p.1 = true ∨ q.2.2.1.off r
 n2 : ∀ r ∈ q.2.2.1.nm, p.2.2.1.off r
def WFT : Tr → Base → Prop
 | .nil, _ => True
 | .det i o E T, B => AllP (P2 (i, o, E, false)) T B ∧ WFT T B
 | .fam i o sm E0 _ F R T, B => ∀ s B', Gon sm B B' → R s B' → SameF E0 (F s) ∧ AllP (P2 (i, o, F s, true)) (T s B') B' ∧ WFT (T s B') B'
/-- Each of them waits for one of ls, or for one ahead of it. -/
def Bd6 (ops : List Oper) : List Nat → List Nat → Bool
 | _, [] => true
 | ls, j :: r => (match ops[j]? with
  | some o => ls.any (fun k => I5 o k)
  | none => false) && Bd6 ops (j :: ls) r
theorem Ay0 {ops : List Oper} : ∀ {r ls : List Nat}, Bd6 ops ls r = true → ∀ j ∈ r, ∀ o, ops[j]? = some o → ∃ k, (k ∈ ls ∨ k ∈ r) ∧ I5 o k = true
 | [], _, _, j, hj, _, _ => by cases hj
 | i :: r, ls, h, j, hj, o, ho => by
  simp only [Bd6, Bool.and_eq_true] at h
  rcases List.mem_cons.1 hj with rfl | hj
  ·rw [ho] at h
   simp only [List.any_eq_true] at h
   obtain ⟨k, hk, he⟩ := h.1
   exact ⟨k, .inl hk, he⟩
  ·obtain ⟨k, hk, he⟩ := Ay0 h.2 j hj o ho
   refine ⟨k, ?_, he⟩
   rcases hk with hk | hk
   ·rcases List.mem_cons.1 hk with rfl | hk
    ·exact .inr (by simp)
    ·exact .inl hk
   ·exact .inr (List.mem_cons_of_mem _ hk)
def Cd8 (N : Nat) (ops : List Oper) : Tr → List Nat → Base → Prop
 | .nil, l, _ => l = []
 | .det i o _ T, l, B => ∃ r, l = i :: r ∧ ops[i]? = some o ∧ K3 N o.dst = true ∧ Cd8 N ops T r B
 | .fam i o sm _ _ _ R T, l, B => ∃ r, l = i :: r ∧ ops[i]? = some o ∧ K3 N o.dst = true ∧ Bd6 ops [i] r = true ∧ ∀ s B', Gon sm B B' → R s B' → Cd8 N ops (T s B') r B'
/-- What has one effect may be taken first. -/
def Cs7 (C : Cx) (ops : List Oper) (K : X → Prop) (i : Nat) (ord : List Nat) (T : Tr) (x : X) : Prop :=
 ∃ o E T2, ops[i]? = some o ∧ K3 C.N o.dst = true ∧ Ct1 C ops o E x ∧ W4 C ops K T2 (E.app x) ∧ Cd8 C.N ops T2 (ord.erase i) x.B ∧ WFT T2 x.B ∧
  (∀ φ, AllP φ T x.B → φ (i, o, E, false) ∧ AllP φ T2 x.B) ∧ AllP (fun q => ∀ r ∈ q.2.2.1.nm, E.off r) T2 x.B
def Cs6 (C : Cx) (ops : List Oper) (K : X → Prop) (i : Nat) (ord : List Nat) (T : Tr) (x : X) : Prop :=
 ∃ (o : Oper) (sm : Bool) (E0 : Ef) (S : Type) (F : S → Ef) (R : S → Base → Prop) (T2 : S → Base → Tr), ops[i]? = some o ∧ K3 C.N o.dst = true ∧ Db6 C ops o sm E0 F R x ∧ (∀ φ, AllP φ T x.B → φ (i, o, E0, true)) ∧
  ∀ s B', Gon sm x.B B' → R s B' → SameF E0 (F s) ∧ W4 C ops K (T2 s B') ((F s).appB B' x) ∧ Cd8 C.N ops (T2 s B') (ord.erase i) B' ∧ WFT (T2 s B') B' ∧
   (∀ φ, AllP φ T x.B → φ (i, o, F s, true) ∧ AllP φ (T2 s B') B') ∧ AllP (fun q => ∀ r ∈ q.2.2.1.nm, (F s).off r) (T2 s B') B'
theorem Am8 {C : Cx} {ops : List Oper} {K : X → Prop} {i : Nat} : ∀ (T : Tr) (ord : List Nat) (x : X), W4 C ops K T x → Cd8 C.N ops T ord x.B → WFT T x.B → ord.Nodup → i ∈ ord → (∀ o, ops[i]? = some o → ∀ k ∈ ord, I5 o k = false) →
  Cs7 C ops K i ord T x ∨ Cs6 C ops K i ord T x
 | .nil, ord, x, _, hI, _, _, hi, _ => by
  simp only [Cd8] at hI; subst hI; cases hi
 | .det j oj A T, ord, x, hch, hI, hW, hnd, hi, hne => by
  obtain ⟨r, rfl, hoj, hdj, hI'⟩ := hI
  obtain ⟨hL, hch'⟩ := hch
  obtain ⟨hP, hW'⟩ := hW
  by_cases e : i = j
  ·subst e
   exact .inl ⟨oj, A, T, hoj, hdj, hL, hch', by simpa using hI', hW', fun φ h => h, hP.imp fun q hq r hr => hq.n2 r hr⟩
  ·have hi' : i ∈ r := (List.mem_cons.1 hi).resolve_left e
   have her : (j :: r).erase i = j :: r.erase i := by rw [List.erase_cons_tail (by simpa using fun h => e h.symm)]
   rcases Am8 T r (A.app x) hch' hI' hW' (List.nodup_cons.1 hnd).2 hi' (fun o ho k hk => hne o ho k (List.mem_cons_of_mem _ hk)) with h | h
   ·obtain ⟨o, E, T2, h1, h2, h3, h4, h5, h6, h7, h8⟩ := h
    have p2 := (h7 _ hP).1
    have hedge := hne o h1 j (by simp)
    have hap : A.apart E = true := (p2.ap rfl).resolve_left (by simp [hedge])
    refine .inl ⟨o, E, .det j oj A T2, h1, h2, fun y hy => h3 y (Ap3 hap hy), ⟨fun y hy => hL y (Ag0 (X9 hap) (BExt.refl _) hy), N6 T2 h4 (Bj4 hap x.B x)⟩, ?_, ⟨(h7 _ hP).2, h6⟩, fun φ hφ => ⟨(h7 φ hφ.2).1, hφ.1, (h7 φ hφ.2).2⟩, fun r hr => (p2.n1 rfl r hr).resolve_left (by simp [hedge]), h8⟩
    rw [her]; exact ⟨_, rfl, hoj, hdj, h5⟩
   ·obtain ⟨o, sm, E0, S, F, R, T2, h1, h2, h3, h4, h5⟩ := h
    have p2 := h4 _ hP
    have hedge := hne o h1 j (by simp)
    have hap : A.apart E0 = true := (p2.ap rfl).resolve_left (by simp [hedge])
    refine .inr ⟨o, sm, E0, S, F, R, fun s B' => .det j oj A (T2 s B'), h1, h2, fun y hy => h3 y (Ap3 hap hy), fun φ hφ => h4 φ hφ.2, fun s B' hB hR => ?_⟩
    obtain ⟨q1, q2, q3, q4, q5, q6⟩ := h5 s B' hB hR
    have hap' := q1.apart hap
    have p2' := (q5 _ hP).1
    refine ⟨q1, ⟨fun y hy => hL y (Ag0 (X9 hap') hB.ext hy), N6 (T2 s B') q2 (Bj4 hap' B' x)⟩, ?_, ⟨(q5 _ hP).2, q4⟩, fun φ hφ => ⟨(q5 φ hφ.2).1, hφ.1, (q5 φ hφ.2).2⟩, fun r hr => (p2'.n1 rfl r hr).resolve_left (by simp [hedge]), q6⟩
    rw [her]; exact ⟨_, rfl, hoj, hdj, q3⟩
 | .fam j oj sm E0 S F R T, ord, x, hch, hI, hW, hnd, hi, hne => by
  obtain ⟨r, rfl, hoj, hdj, hdep, hI'⟩ := hI
  by_cases e : i = j
  ·subst e
   refine .inr ⟨oj, sm, E0, S, F, R, T, hoj, hdj, hch.1, fun φ h => h.1, fun s B' hB hR => ?_⟩
   obtain ⟨w1, w2, w3⟩ := hW s B' hB hR
   exact ⟨w1, hch.2 s B' hB hR, by simpa using hI' s B' hB hR, w3, fun φ h => h.2 s B' hB hR, w2.imp fun q hq r hr => hq.n2 r hr⟩
  ·exfalso
   have hi' : i ∈ r := (List.mem_cons.1 hi).resolve_left e
   have hget : ∃ o, ops[i]? = some o := by
    cases h : ops[i]? with
    | some o => exact ⟨o, rfl⟩
    | none =>
     exfalso
     have : ∀ {r ls : List Nat}, Bd6 ops ls r = true → ∀ j ∈ r, ops[j]? ≠ none := by
      intro r
      induction r with
      | nil => intro ls _ j hj; cases hj
      | cons k r ih =>
       intro ls hd j hj
       simp only [Bd6, Bool.and_eq_true] at hd
       rcases List.mem_cons.1 hj with rfl | hj
       ·intro hn; rw [hn] at hd; simp at hd
       ·exact ih hd.2 j hj
     exact this hdep i hi' h
   obtain ⟨o, ho⟩ := hget
   obtain ⟨k, hk, he⟩ := Ay0 hdep i hi' o ho
   have := hne o ho k (by rcases hk with hk | hk <;> simp_all)
   rw [this] at he; cases he
theorem Av.appB {r : Nat} {x : X} {E : Ef} {B' : Base} (h : Av r x) (k : E.off r) : Av r (E.appB B' x) := by
 have := h.app k
 exact ⟨this.σ, this.hs, this.n, this.ms⟩
/-- Binding edges lead to what is listed, or stands ahead. -/
def Cb9 (ops : List Oper) : List Nat → List Nat → Bool
 | _, [] => true
 | ls, j :: r => (match ops[j]? with
  | some o => o.after.all (fun e => !Region.binds .any e || ls.contains e.on)
  | none => false) && Cb9 ops (j :: ls) r
theorem Ah4 {C : Cx} {ops : List Oper} {K : X → Prop} {Q : Exit → Act → World → Prop} (hQ : ∀ x bs a w, Rel C x bs a w → K x → Q .normal a w)
  :
  ∀ (fuel : Nat) (T : Tr) (ord : List Nat) (listed : Array Bool) (x : X) (bs : Nat → Nat) (a : Act) (w : World), ord.length = fuel → listed.size = ops.length → ord.Nodup → (∀ i ∈ ord, i < ops.length ∧ listed.getD i true = false) →
   (∀ i, i < ops.length → listed.getD i true = false → i ∈ ord) →
   (∀ l j r, ord = l ++ j :: r → ∀ o, ops[j]? = some o → ∀ e ∈ o.after, Region.binds .any e = true → listed[e.on]? = some true ∨ e.on ∈ l) →
   W4 C ops K T x → Cd8 C.N ops T ord x.B → WFT T x.B → AllP (fun q => ∀ r ∈ q.2.2.1.nm, Av r x) T x.B → Rel C x bs a w → wpAnyIn (fe C) 0 C.P .any ops.toArray Q fuel listed a w
 | 0, T, ord, listed, x, bs, a, w, hlen, hsz, hnd, hin, hall, hedg, hch, hI, hW, hav, hr => by
  have hl : ord = [] := List.length_eq_zero_iff.1 hlen
  subst hl
  have hT : W4 C ops K .nil x := by
   cases T with
   | nil => exact hch
   | det i o E T => obtain ⟨r, h, _⟩ := hI; cases h
   | fam i o sm E0 S F R T => obtain ⟨r, h, _⟩ := hI; cases h
  refine ⟨?_, hQ x bs a w hr (hT x (Alike.rfl' x))⟩
  simp only [Region.ready, List.filter_eq_nil_iff, List.mem_range, List.size_toArray]
  intro i hi
  have : listed.getD i true = true := by
   cases hb : listed.getD i true with
   | true => rfl
   | false => have := hall i hi hb; cases this
  simp [Array.getD_eq_getD_getElem?] at this
  simp [this]
 | fuel + 1, T, ord, listed, x, bs, a, w, hlen, hsz, hnd, hin, hall, hedg, hch, hI, hW, hav, hr => by
  refine ⟨?_, ?_⟩
  ·intro hready
   exfalso
   cases ord with
   | nil => simp at hlen
   | cons j r =>
    obtain ⟨hlt, hp3⟩ := hin j (by simp)
    have hp1 : ops[j]? = some ops[j] := List.getElem?_eq_getElem hlt
    have : j ∈ Region.ready .any ops.toArray listed := by
     rw [mem_ready]
     refine ⟨hp3, ops[j], by simp, ?_⟩
     intro e he hb
     rcases hedg [] j r rfl _ hp1 e he hb with h | h
     ·simp [Array.getD_eq_getD_getElem?, h]
     ·cases h
    rw [hready] at this; simp at this
  ·intro i hi
   obtain ⟨hun, o, ho, hedges⟩ := mem_ready.1 hi
   have ho' : ops[i]? = some o := by simpa using ho
   have hlt : i < ops.length := by
    rcases Nat.lt_or_ge i ops.length with h | h
    ·exact h
    ·simp [List.getElem?_eq_none h] at ho
   have himem := hall i hlt hun
   have hne : ∀ o, ops[i]? = some o → ∀ k ∈ ord, I5 o k = false := by
    intro o2 ho2 k hk
    rw [ho'] at ho2
    cases ho2
    cases hE : I5 o k with
    | false => rfl
    | true =>
     exfalso
     simp only [I5, Array.any_eq_true'] at hE
     obtain ⟨e, he1, he2⟩ := hE
     simp only [Bool.and_eq_true, beq_iff_eq] at he2
     have hlist := hedges e he1 he2.1
     obtain ⟨hklt, hq3⟩ := hin k hk
     rw [he2.2] at hlist
     simp [Array.getD_eq_getD_getElem?, show k < listed.size by omega] at hlist hq3
     rw [hlist] at hq3; simp at hq3
   have hsub : (ord.erase i).Sublist ord := List.erase_sublist
   have hnd' : (ord.erase i).Nodup := hnd.sublist hsub
   have hlen' : (ord.erase i).length = fuel := by rw [List.length_erase_of_mem himem]; omega
   have hin' : ∀ k ∈ ord.erase i, k < ops.length ∧ (listed.setIfInBounds i true).getD k true = false := by
    intro k hk
    obtain ⟨h1, h2⟩ := hin k (hsub.subset hk)
    refine ⟨h1, ?_⟩
    have hki : k ≠ i := by rintro rfl; exact (List.Nodup.not_mem_erase hnd) hk
    rw [getD_set_ne true (Ne.symm hki)]; exact h2
   have hall' : ∀ k, k < ops.length → (listed.setIfInBounds i true).getD k true = false → k ∈ ord.erase i := by
    intro k hk hkl
    by_cases e : k = i
    ·subst e
     simp [Array.getD_eq_getD_getElem?, show k < listed.size by omega] at hkl
    ·rw [getD_set_ne true (Ne.symm e)] at hkl
     exact (List.mem_erase_of_ne e).2 (hall k hk hkl)
   have hedg' : ∀ l j r, ord.erase i = l ++ j :: r → ∀ o, ops[j]? = some o → ∀ e ∈ o.after, Region.binds .any e = true → (listed.setIfInBounds i true)[e.on]? = some true ∨ e.on ∈ l := by
    intro l j r hs oj hoj e he hb
    have key : (∃ l' r', ord = l' ++ j :: r' ∧ ∀ k ∈ l', k = i ∨ k ∈ l) := by
     obtain ⟨a1, a2, hsplit⟩ := List.append_of_mem himem
     have ha1 : i ∉ a1 := by
      intro h
      rw [hsplit] at hnd
      exact (List.nodup_append.1 hnd).2.2 i h i (by simp) rfl
     have her : ord.erase i = a1 ++ a2 := by rw [hsplit, List.erase_append_right _ ha1, List.erase_cons_head]
     rw [her] at hs
     rcases List.append_eq_append_iff.1 hs with ⟨c1, h1, h2⟩ | ⟨c1, h1, h2⟩
     ·refine ⟨a1 ++ i :: c1, r, by rw [hsplit, h2]; simp, fun k hk => ?_⟩
      rcases List.mem_append.1 hk with h | h
      ·exact .inr (by rw [h1]; exact List.mem_append.2 (.inl h))
      ·rcases List.mem_cons.1 h with rfl | h
       ·exact .inl rfl
       ·exact .inr (by rw [h1]; exact List.mem_append.2 (.inr h))
     ·cases c1 with
      | nil =>
       simp only [List.nil_append] at h2
       simp only [List.append_nil] at h1
       refine ⟨a1 ++ [i], r, by rw [hsplit, ← h2]; simp, fun k hk => ?_⟩
       rcases List.mem_append.1 hk with h | h
       ·exact .inr (by rw [← h1]; exact h)
       ·exact .inl (by simpa using h)
      | cons c c1 =>
       simp only [List.cons_append, List.cons.injEq] at h2
       obtain ⟨rfl, h2⟩ := h2
       exact ⟨l, c1 ++ i :: a2, by rw [hsplit, h1]; simp, fun k hk => .inr hk⟩
    obtain ⟨l', r', hs', hk⟩ := key
    rcases hedg l' j r' hs' oj hoj e he hb with h | h
    ·left
     by_cases ee : e.on = i
     ·rw [ee, Array.getElem?_setIfInBounds_self, if_pos (by omega)]
     ·rw [Array.getElem?_setIfInBounds_ne (Ne.symm ee)]; exact h
    ·rcases hk _ h with h | h
     ·left
      rw [h, Array.getElem?_setIfInBounds_self, if_pos (by omega)]
     ·exact .inr h
   rcases Am8 T ord x hch hI hW hnd himem hne with h | h
   ·obtain ⟨o2, E, T2, h1, h2, h3, h4, h5, h6, h7, h8⟩ := h
    have hnm := (h7 _ hav).1
    refine As9 (by simpa using h1) h2 (h3 x ⟨BExt.refl _, rfl, fun _ _ => rfl, fun _ _ => rfl, fun _ => rfl, hnm⟩) ?_ hr
    intro x' bs' a' w' hr' hal
    exact Ah4 hQ fuel T2 (ord.erase i) _ (E.app x) bs' a' w' hlen' (by simpa using hsz) hnd' hin' hall' hedg' h4 h5 h6 (((h7 _ hav).2.and h8).imp fun q hq r hr => (hq.1 r hr).app (hq.2 r hr)) (hr'.alike hal)
   ·obtain ⟨o2, sm, E0, S, F, R, T2, h1, h2, h3, h4, h5⟩ := h
    have hnm := h4 _ hav
    refine As9 (by simpa using h1) h2 (h3 x ⟨BExt.refl _, rfl, fun _ _ => rfl, fun _ _ => rfl, fun _ => rfl, hnm⟩) ?_ hr
    rintro x' bs' a' w' hr' ⟨s, B', hB, hR, hal⟩
    obtain ⟨q1, q2, q3, q4, q5, q6⟩ := h5 s B' hB hR
    exact Ah4 hQ fuel (T2 s B') (ord.erase i) _ ((F s).appB B' x) bs' a' w' hlen' (by simpa using hsz) hnd' hin' hall' hedg' q2 q3 q4 (((q5 _ hav).2.and q6).imp fun q hq r hr => (hq.1 r hr).appB (hq.2 r hr)) (hr'.alike hal)
end Go.Ew
namespace Go.Ew
open Go RowKit
def pwT : List Nd → Bool
  | [] => true
  | p :: r => (p.2.2.2 || r.all (fun q => I5 q.2.1 p.1 || p.2.2.1.apart q.2.2.1)) && pwT r
def nmP (p q : Nd) : Prop := (p.2.2.2 = true ∨ ∀ r ∈ p.2.2.1.nm, I5 q.2.1 p.1 = true ∨ q.2.2.1.off r) ∧ ∀ r ∈ q.2.2.1.nm, p.2.2.1.off r
def nmW (p : Nd) : List Nd → Prop
  | [] => True
  | q :: r => nmP p q ∧ nmW p r
def nmT : List Nd → Prop
  | [] => True
  | p :: r => (∀ r' ∈ p.2.2.1.nm, 100000 ≤ r' ∧ r' < 200000) ∧ nmW p r ∧ nmT r
def Ck (l : List Nd) : Prop := pwT l = true ∧ nmT l
theorem Ad0 : ∀ {a b : List Nd}, pwT (a ++ b) = true → pwT a = true ∧ ∀ p ∈ a, p.2.2.2 = false → ∀ q ∈ b, I5 q.2.1 p.1 = true ∨ p.2.2.1.apart q.2.2.1 = true
  | [], b, h => ⟨rfl, fun p hp => by cases hp⟩
  | p :: a, b, h => by
    simp only [List.cons_append, pwT, Bool.and_eq_true, Bool.or_eq_true, List.all_eq_true, List.mem_append] at h ⊢
    obtain ⟨h1, h2⟩ := h
    obtain ⟨h3, h4⟩ := Ad0 h2
    refine ⟨⟨h1.imp_right fun h q hq => h q (.inl hq), h3⟩, fun p' hp hf q hq => ?_⟩
    rcases List.mem_cons.1 hp with rfl | hp
    · rcases h1 with h1 | h1
      · rw [hf] at h1; cases h1
      · exact h1 q (.inr hq)
    · exact h4 p' hp hf q hq
theorem Ad2 {p : Nd} : ∀ {a b : List Nd}, nmW p (a ++ b) → nmW p a ∧ nmW p b
  | [], b, h => ⟨trivial, h⟩
  | q :: a, b, h => ⟨⟨h.1, (Ad2 (a := a) h.2).1⟩, (Ad2 (a := a) h.2).2⟩
theorem X1 : ∀ {a b : List Nd}, nmT (a ++ b) → nmT a ∧ nmT b ∧ ∀ p ∈ a, nmW p b
  | [], b, h => ⟨trivial, h, fun p hp => by cases hp⟩
  | p :: a, b, h => by
    obtain ⟨h1, h2, h3⟩ := h
    obtain ⟨h4, h5⟩ := Ad2 h2
    obtain ⟨h6, h7, h8⟩ := X1 h3
    exact ⟨⟨h1, h4, h6⟩, h7, fun p' hp => by
      rcases List.mem_cons.1 hp with rfl | hp
      · exact h5
      · exact h8 p' hp⟩
theorem Ck.left {a b : List Nd} (h : Ck (a ++ b)) : Ck a := ⟨(Ad0 h.1).1, (X1 h.2).1⟩
theorem Ck.pair {a : List Nd} {q : Nd} (h : Ck (a ++ [q])) : ∀ p ∈ a, P2 p q := fun p hp => by
  have h1 := (X1 h.2).2.2 p hp
  refine ⟨fun hf => (Ad0 h.1).2 p hp hf q (by simp), fun hf r hr => ?_, h1.1.2⟩
  rcases h1.1.1 with h | h
  · rw [hf] at h; cases h
  · exact h r hr
theorem Ck.range {a : List Nd} {q : Nd} (h : Ck (a ++ [q])) : ∀ r ∈ q.2.2.1.nm, 100000 ≤ r ∧ r < 200000 := (X1 h.2).2.1.1
def WFacc : List Nd → Tr → Base → Prop
  | acc, .nil, _ => Ck acc.reverse
  | acc, .det i o E T, B => WFacc ((i, o, E, false) :: acc) T B
  | acc, .fam i o sm E0 _ F R T, B => Ck (((i, o, E0, true) :: acc).reverse) ∧ ∀ s B', Gon sm B B' → R s B' → SameF E0 (F s) ∧ WFacc ((i, o, F s, true) :: acc) (T s B') B'
theorem WFacc.ck : ∀ {acc : List Nd} {T : Tr} {B : Base}, WFacc acc T B → Ck acc.reverse
  | acc, .nil, _, h => h
  | acc, .det i o E T, B, h => by
    have := WFacc.ck (acc := (i, o, E, false) :: acc) (T := T) h
    rw [List.reverse_cons] at this
    exact this.left
  | acc, .fam i o sm E0 _ F R T, B, h => by
    have := h.1
    rw [List.reverse_cons] at this
    exact this.left
theorem WFacc.wft : ∀ {acc : List Nd} {T : Tr} {B : Base}, WFacc acc T B → WFT T B ∧ (∀ p ∈ acc, AllP (P2 p) T B) ∧ AllP (fun q => ∀ r ∈ q.2.2.1.nm, 100000 ≤ r ∧ r < 200000) T B
  | acc, .nil, _, h => ⟨trivial, fun _ _ => trivial, trivial⟩
  | acc, .det i o E T, B, h => by
    have hc := WFacc.ck (acc := (i, o, E, false) :: acc) (T := T) h
    rw [List.reverse_cons] at hc
    obtain ⟨h1, h2, h3⟩ := WFacc.wft (acc := (i, o, E, false) :: acc) (T := T) h
    exact ⟨⟨h2 _ (by simp), h1⟩, fun p hp => ⟨hc.pair p (by simpa using hp), h2 p (by simp [hp])⟩, hc.range, h3⟩
  | acc, .fam i o sm E0 _ F R T, B, h => by
    have hc0 := h.1
    rw [List.reverse_cons] at hc0
    have key : ∀ s B', Gon sm B B' → R s B' → Ck (acc.reverse ++ [(i, o, F s, true)]) := fun s B' hB hR => by
      have := WFacc.ck (h.2 s B' hB hR).2
      rwa [List.reverse_cons] at this
    refine ⟨fun s B' hB hR => ?_, fun p hp => ⟨hc0.pair p (by simpa using hp), fun s B' hB hR => ?_⟩, hc0.range, fun s B' hB hR => ?_⟩
    · obtain ⟨h1, h2, h3⟩ := WFacc.wft (h.2 s B' hB hR).2
      exact ⟨(h.2 s B' hB hR).1, h2 _ (by simp), h1⟩
    · obtain ⟨h1, h2, h3⟩ := WFacc.wft (h.2 s B' hB hR).2
      exact ⟨(key s B' hB hR).pair p (by simpa using hp), h2 p (by simp [hp])⟩
    · obtain ⟨h1, h2, h3⟩ := WFacc.wft (h.2 s B' hB hR).2
      exact ⟨(key s B' hB hR).range, h3⟩
/-- The rest of a region, in the order ord. -/
def DT (C : Cx) (Q : Exit → X → Prop) (ops : List Oper) (st : List It) (acc : List Nd) (ord : List Nat) (x : X) : Prop :=
  ∃ T : Tr, Cd8 C.N ops T ord x.B ∧ W4 C ops (Next C Q st) T x ∧ WFacc acc T x.B
theorem Cr1 {C : Cx} {Q : Exit → X → Prop} {ops : List Oper} {st : List It} {acc : List Nd} {x : X} (h : Ck acc.reverse) (hk : Next C Q st x) : DT C Q ops st acc [] x :=
  ⟨.nil, rfl, fun y hy => hk.alike hy, h⟩
theorem Bh9 {C : Cx} {Q : Exit → X → Prop} {ops : List Oper} {st : List It} {acc : List Nd} {i : Nat} {ord : List Nat} {x : X} {o : Oper} {E : Ef} (ho : ops[i]? = some o) (hd : K3 C.N o.dst = true) (hL : Ct1 C ops o E x)
    (hk : DT C Q ops st ((i, o, E, false) :: acc) ord (E.app x)) : DT C Q ops st acc (i :: ord) x := by
  obtain ⟨T, h1, h2, h3⟩ := hk
  exact ⟨.det i o E T, ⟨ord, rfl, ho, hd, h1⟩, ⟨hL, h2⟩, h3⟩
theorem Cg0 {C : Cx} {Q : Exit → X → Prop} {ops : List Oper} {st : List It} {acc : List Nd} {i : Nat} {ord : List Nat} {x : X} {o : Oper} {sm : Bool} {E0 : Ef} {S : Type} {F : S → Ef} {R : S → Base → Prop} (ho : ops[i]? = some o) (hd : K3 C.N o.dst = true)
    (hdep : Bd6 ops [i] ord = true) (hL : Db6 C ops o sm E0 F R x) (hck : Ck ((i, o, E0, true) :: acc).reverse) (hF : ∀ s, SameF E0 (F s))
    (hk : ∀ s B', Gon sm x.B B' → R s B' → DT C Q ops st ((i, o, F s, true) :: acc) ord ((F s).appB B' x)) : DT C Q ops st acc (i :: ord) x := by
  have hk' : ∀ s B', ∃ T : Tr, Gon sm x.B B' → R s B' → Cd8 C.N ops T ord B' ∧ W4 C ops (Next C Q st) T ((F s).appB B' x) ∧ WFacc ((i, o, F s, true) :: acc) T B' := by
    intro s B'
    by_cases h : Gon sm x.B B' ∧ R s B'
    · obtain ⟨T, h1, h2, h3⟩ := hk s B' h.1 h.2
      exact ⟨T, fun _ _ => ⟨h1, h2, h3⟩⟩
    · exact ⟨.nil, fun h1 h2 => absurd ⟨h1, h2⟩ h⟩
  refine ⟨.fam i o sm E0 S F R (fun s B' => Classical.choose (hk' s B')), ⟨ord, rfl, ho, hd, hdep, fun s B' hB hR => ?_⟩, ⟨hL, fun s B' hB hR => ?_⟩, hck, fun s B' hB hR => ⟨hF s, ?_⟩⟩
  · exact (Classical.choose_spec (hk' s B') hB hR).1
  · exact (Classical.choose_spec (hk' s B') hB hR).2.1
  · exact (Classical.choose_spec (hk' s B') hB hR).2.2
theorem DT.alike {C : Cx} {Q : Exit → X → Prop} {ops : List Oper} {st : List It} {acc : List Nd} {ord : List Nat} {x y : X} (h : DT C Q ops st acc ord x) (e : Alike x y) : DT C Q ops st acc ord y := by
  obtain ⟨T, h1, h2, h3⟩ := h
  exact ⟨T, by rw [← e.B]; exact h1, N6 T h2 e, by rw [← e.B]; exact h3⟩
def Bg5 : List Nat → Bool
  | [] => true
  | i :: r => !r.contains i && Bg5 r
theorem Ai5 : ∀ {l : List Nat}, Bg5 l = true → l.Nodup
  | [], _ => List.nodup_nil
  | i :: r, h => by
    simp only [Bg5, Bool.and_eq_true, Bool.not_eq_true', List.contains_eq_mem, decide_eq_false_iff_not] at h
    exact List.nodup_cons.2 ⟨h.1, Ai5 h.2⟩
def Co7 (ops : List Oper) (ord : List Nat) : Bool := Nat.beq ord.length ops.length && ord.all (fun i => Nat.blt i ops.length) && (List.range ops.length).all (fun i => ord.contains i) && Cb9 ops [] ord && Bg5 ord
theorem Ap2 {N : Nat} : ∀ {l : List Oper}, L3 N l = true → ∀ {i : Nat} {o : Oper}, l[i]? = some o → K3 N o.dst = true
  | [], _, i, o, h => by simp at h
  | p :: r, h, i, o, ho => by
    simp only [L3, Bool.and_eq_true] at h
    cases i with
    | zero => simp only [List.getElem?_cons_zero, Option.some.injEq] at ho; subst ho; exact h.1
    | succ i => exact Ap2 h.2 (by simpa using ho)
theorem Ao5 {ops : List Oper} : ∀ {ord ls : List Nat}, Cb9 ops ls ord = true → ∀ l j r, ord = l ++ j :: r → ∀ o, ops[j]? = some o → ∀ e ∈ o.after, Region.binds .any e = true → e.on ∈ ls ∨ e.on ∈ l
  | [], _, _, l, j, r, hs, _, _, _, _, _ => by cases l <;> cases hs
  | k :: ord, ls, h, l, j, r, hs, o, ho, e, he, hb => by
    simp only [Cb9, Bool.and_eq_true] at h
    cases l with
    | nil =>
      simp only [List.nil_append, List.cons.injEq] at hs
      obtain ⟨rfl, rfl⟩ := hs
      rw [ho] at h
      have := (Array.all_eq_true'.1 h.1) e he
      simp only [hb, Bool.not_true, Bool.false_or, List.contains_eq_mem, decide_eq_true_eq] at this
      exact .inl this
    | cons k' l =>
      simp only [List.cons_append, List.cons.injEq] at hs
      obtain ⟨rfl, hs⟩ := hs
      rcases Ao5 h.2 l j r hs o ho e he hb with h | h
      · rcases List.mem_cons.1 h with h | h
        · exact .inr (by rw [h]; simp)
        · exact .inl h
      · exact .inr (List.mem_cons_of_mem _ h)
theorem D6 {C : Cx} {Q : Exit → X → Prop} {ops : List Oper} {st : List It} {id : Nat} {x : X} (ord : List Nat) (hm : C.P.follows .mixedOrders = true) (ho : Co7 ops ord = true) (hn : x.n ≤ 100000)
    (h : L3 C.N ops = true → DT C Q ops st [] ord ⟨x.σ, 200000, x.hs, x.B, x.ms⟩) : Ck7 C Q id ops st x := by
  intro hst bs a w hr
  obtain ⟨hin, hst⟩ := hst
  have hin' : L3 C.N ops = true := by simpa [C5] using hin
  simp only [H4]
  refine wpIn_region_any hm ?_
  obtain ⟨T, h1, h2, h3⟩ := h hin'
  obtain ⟨w1, _, w2⟩ := h3.wft
  simp only [Co7, Bool.and_eq_true] at ho
  obtain ⟨⟨⟨⟨o1, o2⟩, o3⟩, o4⟩, o5⟩ := ho
  have ol : ord.length = ops.length := Nat.eq_of_beq_eq_true o1
  have oc : ∀ i, i < ops.length → i ∈ ord := fun i hi => by
    have := (List.all_eq_true.1 o3) i (List.mem_range.2 hi)
    simpa using this
  have hrel : Rel C ⟨x.σ, 200000, x.hs, x.B, x.ms⟩ bs a { w with drawn := w.drawn + 1 } :=
    ⟨⟨hr.t.size, hr.t.defers, fun i hi => Nat.lt_of_lt_of_le (hr.t.msin i hi) (by simp only; omega), hr.t.tmps, fun t => closed_mono (by simp only; omega) _ (hr.t.cl t)⟩,
     ⟨fun i o hi => ⟨Nat.lt_of_lt_of_le (hr.h.live i o hi).1 (by simp only; omega), (hr.h.live i o hi).2⟩, fun i o hi => EObj.closed_mono (by simp only; omega) _ (hr.h.cl i o hi), hr.h.inj, fun i b hi => ⟨(hr.h.old i b hi).1, Nat.lt_of_lt_of_le (hr.h.old i b hi).2 (by simp only; omega)⟩, hr.h.new, hr.h.frame, hr.h.os, hr.h.tape, hr.h.output, hr.h.hsize, hr.h.newE, hr.h.frameE, hr.h.apart, hr.h.eo⟩⟩
  have := Ah4 (Q := H4 C (Au3 C Q) st) (fun x' bs' a' w' hr' hk => hk hst bs' a' w' hr') ops.length T ord (Array.replicate ops.length false) ⟨x.σ, 200000, x.hs, x.B, x.ms⟩ bs a { w with drawn := w.drawn + 1 }
    ol (by simp) (Ai5 o5) (fun i hi => by
      have hlt : i < ops.length := by have := (List.all_eq_true.1 o2) i hi; exact Nat.le_of_ble_eq_true this
      exact ⟨hlt, by simp [Array.getD_eq_getD_getElem?, hlt]⟩) (fun i hi _ => oc i hi)
    (fun l j r hs o ho' e he hb => by
      rcases Ao5 o4 l j r hs o ho' e he hb with h | h
      · cases h
      · exact .inr h) h2 h1 w1 (w2.imp fun q hq r hr' => by
        obtain ⟨r1, r2⟩ := hq r hr'
        exact ⟨fun t => av_closed (by omega) _ (hr.t.cl t), fun i o hi => ⟨by have := (hr.h.live i o hi).1; omega, EObj.av_closed (by omega) _ (hr.h.cl i o hi)⟩, by simp only; omega, fun hm' => by have := hr.t.msin r hm'; omega⟩) hrel
  simpa using this
def Dc9 (C : Cx) (Q : Exit → X → Prop) (st : List It) (acc : List Nd) (x : X) : Prop := Ck acc.reverse ∧ Next C Q st x
def Bo8 (C : Cx) (Q : Exit → X → Prop) (ops : List Oper) (st : List It) (acc : List Nd) (i : Nat) (o : Oper) (ord : List Nat) (x : X) : Prop :=
  ops[i]? = some o → Ba3 ops o x → K3 C.N o.dst = true → L3 C.N ops = true → DT C Q ops st acc (i :: ord) x
/-- A call: one of many effects. -/
def Az0 (C : Cx) (Q : Exit → X → Prop) (ops : List Oper) (st : List It) (f : FuncId) (args : List EV) (acc : List Nd) (i : Nat) (o : Oper) (ord : List Nat) (x : X) : Prop :=
  ∃ (sm : Bool) (E0 : Ef) (S : Type) (F : S → Ef) (R : S → Base → Prop), (∀ t, t ∈ C2 o.op ++ F7 ops o.guard → t ∈ E0.looks) ∧
    (∀ y, AgreeB E0 y x → V0 C f args o.dst y (fun z => ∃ s B', Gon sm y.B B' ∧ R s B' ∧ Alike z ((F s).appB B' y)) ∨
      (∃ v, closed y.n v ∧ (∀ bs w, (callFunc f (A8 bs args).toArray).run C.P w = .ok (.value (real bs v)) w) ∧ ∃ s B', Gon sm y.B B' ∧ R s B' ∧ Alike { σ := put y.σ o.dst v, n := y.n, hs := y.hs, B := y.B, ms := y.ms } ((F s).appB B' y)) ∨
      (∀ bs a w, Rel C y bs a w → V0 C f args o.dst y (fun z => ∃ z', Sub C z z' ∧ ∃ s B', Gon sm y.B B' ∧ R s B' ∧ Alike z' ((F s).appB B' y)))) ∧
    Bd6 ops [i] ord = true ∧ Ck ((i, o, E0, true) :: acc).reverse ∧ (∀ s, SameF E0 (F s)) ∧
    (L3 C.N ops = true → ∀ s B', Gon sm x.B B' → R s B' → DT C Q ops st ((i, o, F s, true) :: acc) ord ((F s).appB B' x))
mutual
def Ak1 (C : Cx) (Q : Exit → X → Prop) (ops : List Oper) (st : List It) : Nat → List Nd → List Nat → X → Prop
  | 0, _, _, _ => False
  | _ + 1, acc, [], x => Dc9 C Q st acc x
  | n + 1, acc, i :: ord, x =>
    match ops[i]? with
    | none => False
    | some o =>
      match F3 ops x.σ o.guard with
      | .run => opT C Q ops st n acc i o ord x
      | .test b want d => Al7 C Q ops st n b want d acc i o ord x
      | .skip => Ak1 C Q ops st n ((i, o, { dst := o.dst, v := .tup [], ups := [], a := 0, looks := F7 ops o.guard, foot := [] }, false) :: acc) ord { σ := put x.σ o.dst (.tup []), n := x.n, hs := x.hs, B := x.B, ms := x.ms }
      | .bad => False
def opT (C : Cx) (Q : Exit → X → Prop) (ops : List Oper) (st : List It) : Nat → List Nd → Nat → Oper → List Nat → X → Prop
  | 0, _, _, _, _, _ => False
  | n + 1, acc, i, o, ord, x =>
    match Al9 C ops o x with
    | some (E, c) => c ∧ Ak1 C Q ops st n ((i, o, E, false) :: acc) ord { σ := put x.σ E.dst E.v, n := x.n + E.a, hs := E.ups ++ x.hs, B := x.B, ms := x.ms }
    | none =>
      match o.op with
      | .call { callee := .value (.func f), args, .. } => O3 (args.toList.map (ev x.σ)) = true ∧ Az0 C Q ops st f (args.toList.map (ev x.σ)) acc i o ord x
      | .call { callee := .value (.tmp t), args, .. } =>
        match G2 x.σ t with
        | .fn (.func f) first cap => O3 (args.toList.map (ev x.σ)) = true ∧ Az0 C Q ops st f (first ++ args.toList.map (ev x.σ) ++ cap) acc i o ord x
        | _ => Bo8 C Q ops st acc i o ord x
      | _ => Bo8 C Q ops st acc i o ord x
def Al7 (C : Cx) (Q : Exit → X → Prop) (ops : List Oper) (st : List It) : Nat → Bool → Bool → Tmp → List Nd → Nat → Oper → List Nat → X → Prop
  | 0, _, _, _, _, _, _, _, _ => False
  | n + 1, b, want, d, acc, i, o, ord, x =>
    (b = want → opT C Q ops st n acc i o ord { σ := (d, .bool want) :: x.σ, n := x.n, hs := x.hs, B := x.B, ms := x.ms }) ∧
    (b = !want → Ak1 C Q ops st n ((i, o, { dst := o.dst, v := .tup [], ups := [], a := 0, looks := F7 ops o.guard, foot := [] }, false) :: acc) ord { σ := put ((d, .bool (!want)) :: x.σ) o.dst (.tup []), n := x.n, hs := x.hs, B := x.B, ms := x.ms })
end
theorem By8 {C : Cx} {Q : Exit → X → Prop} {ops : List Oper} {st : List It} {n : Nat} {d : Tmp} {acc : List Nd} {i : Nat} {o : Oper} {ord : List Nat} {x : X} :
    Al7 C Q ops st (n + 1) true true d acc i o ord x = opT C Q ops st n acc i o ord { σ := (d, .bool true) :: x.σ, n := x.n, hs := x.hs, B := x.B, ms := x.ms } := by simp [Al7]
theorem By9 {C : Cx} {Q : Exit → X → Prop} {ops : List Oper} {st : List It} {n : Nat} {d : Tmp} {acc : List Nd} {i : Nat} {o : Oper} {ord : List Nat} {x : X} :
    Al7 C Q ops st (n + 1) false true d acc i o ord x = Ak1 C Q ops st n ((i, o, { dst := o.dst, v := .tup [], ups := [], a := 0, looks := F7 ops o.guard, foot := [] }, false) :: acc) ord { σ := put ((d, .bool false) :: x.σ) o.dst (.tup []), n := x.n, hs := x.hs, B := x.B, ms := x.ms } := by simp [Al7]
theorem E9 {C : Cx} {Q : Exit → X → Prop} {ops : List Oper} {st : List It} {n : Nat} {b want : Bool} {d : Tmp} {acc : List Nd} {i : Nat} {o : Oper} {ord : List Nat} {x : X}
    (h1 : b = want → opT C Q ops st n acc i o ord { σ := (d, .bool want) :: x.σ, n := x.n, hs := x.hs, B := x.B, ms := x.ms })
    (h2 : b = !want → Ak1 C Q ops st n ((i, o, { dst := o.dst, v := .tup [], ups := [], a := 0, looks := F7 ops o.guard, foot := [] }, false) :: acc) ord { σ := put ((d, .bool (!want)) :: x.σ) o.dst (.tup []), n := x.n, hs := x.hs, B := x.B, ms := x.ms }) :
    Al7 C Q ops st (n + 1) b want d acc i o ord x := by
  simp only [Al7]; exact ⟨h1, h2⟩
theorem Bb0 {C : Cx} {ops : List Oper} {o : Oper} {x : X} {E : Ef} {c : Prop} (h : Al9 C ops o x = some (E, c)) : E.looks = C2 o.op ++ F7 ops o.guard := by
  unfold Al9 at h
  split at h
  · simp only [Option.some.injEq, Prod.mk.injEq] at h; rw [← h.1]
  · split at h
    · split at h <;> (simp only [Option.some.injEq, Prod.mk.injEq] at h; rw [← h.1])
    · split at h
      · simp only [Option.some.injEq, Prod.mk.injEq] at h; rw [← h.1]
      · cases h
theorem Cb1 {C : Cx} {o : Oper} {x : X} {K : X → Prop} (h : Au6 C o x (fun z => ∃ z', Sub C z z' ∧ K z')) : Au6 C o x K := fun bs a w hr Q =>
  Oper.wpIn_mono (fun a' w' hx => by
    obtain ⟨x', bs', hr', z', hs, hk⟩ := hx
    obtain ⟨bs2, hr2⟩ := hs bs' a' w' hr'
    exact ⟨z', bs2, hr2, hk⟩) (h bs a w hr Q)
theorem Bi5 {C : Cx} {Q : Exit → X → Prop} {ops : List Oper} {st : List It} {f : FuncId} {args : List EV} {acc : List Nd} {i : Nat} {o : Oper} {ord : List Nat} {x : X} (h : Az0 C Q ops st f args acc i o ord x) (ho : ops[i]? = some o) (hrun : Ba3 ops o x) (hd : K3 C.N o.dst = true) (hin : L3 C.N ops = true)
    (hnd : ∀ c, o.op ≠ .defer c) (hexec : ∀ y, (∀ t ∈ C2 o.op, G2 y.σ t = G2 x.σ t) → ∀ bs a w, Rel C y bs a w → (execOp a.eval o).run C.P w = (callFunc f (A8 bs args).toArray).run C.P w ∧ A0 y.n args) : DT C Q ops st acc (i :: ord) x := by
  obtain ⟨sm, E0, S, F, R, hlk, hcall, hdep, hck, hF, hk⟩ := h
  refine Cg0 ho hd hdep (Q7 (fun t ht => hlk t (List.mem_append.2 (.inr ht))) hrun (K := fun y z => ∃ s B', Gon sm y.B B' ∧ R s B' ∧ Alike z ((F s).appB B' y)) (fun y hy => ?_)) hck hF (hk hin)
  have hex := hexec y (fun t ht => hy.σ t (hlk t (List.mem_append.2 (.inl ht))))
  rcases hcall y hy with h | ⟨v, hcl, hv, hk⟩ | h
  · exact Ae0 hnd hex hd h
  · exact Ab4 hnd hex hd (f := f) (args := args) (K := fun z => ∃ s B', Gon sm y.B B' ∧ R s B' ∧ Alike z ((F s).appB B' y)) (.inr ⟨v, hcl, hv, hk⟩)
  · intro bs a w hr Q
    exact Cb1 (K := fun z => ∃ s B', Gon sm y.B B' ∧ R s B' ∧ Alike z ((F s).appB B' y)) (Ae0 hnd hex hd (h bs a w hr)) bs a w hr Q
theorem Ak0 {C : Cx} {Q : Exit → X → Prop} {ops : List Oper} {st : List It} (hin : L3 C.N ops = true) (n : Nat) :
    (∀ acc ord x, Ak1 C Q ops st n acc ord x → DT C Q ops st acc ord x) ∧
    (∀ acc i o ord x, opT C Q ops st n acc i o ord x → ops[i]? = some o → Ba3 ops o x → K3 C.N o.dst = true → DT C Q ops st acc (i :: ord) x) ∧
    (∀ b want d acc i o ord x, Al7 C Q ops st n b want d acc i o ord x → ops[i]? = some o → F3 ops x.σ o.guard = .test b want d → K3 C.N o.dst = true → DT C Q ops st acc (i :: ord) x) := by
  induction n with
  | zero => exact ⟨fun _ _ _ h => by simp [Ak1] at h, fun _ _ _ _ _ h => by simp [opT] at h, fun _ _ _ _ _ _ _ _ h => by simp [Al7] at h⟩
  | succ n ih =>
    obtain ⟨ih1, ih2, ih3⟩ := ih
    refine ⟨?_, ?_, ?_⟩
    · intro acc ord x h
      cases ord with
      | nil => simp only [Ak1] at h; exact Cr1 h.1 h.2
      | cons i ord =>
        simp only [Ak1] at h
        split at h
        · exact h.elim
        · rename_i o ho
          have hd := Ap2 hin ho
          split at h
          · rename_i hg; exact ih2 acc i o ord x h ho (.inl hg) hd
          · rename_i b want d hg; exact ih3 b want d acc i o ord x h ho hg hd
          · rename_i hg; exact Bh9 ho hd (Bl4 hg) (ih1 _ _ _ h)
          · exact h.elim
    · intro acc i o ord x h ho hrun hd
      simp only [opT] at h
      split at h
      · rename_i E c hs
        refine Bh9 ho hd (Q7 (fun t ht => by rw [Bb0 hs]; exact List.mem_append.2 (.inr ht)) hrun (fun y hy => Bb1 hd hs h.1 hy)) (ih1 _ _ _ h.2)
      · split at h
        · rename_i f args _ hop
          obtain ⟨h1, h2⟩ := h
          refine Bi5 h2 ho hrun hd hin (by rw [hop]; intro c; simp) (fun y hy bs a w hr => ?_)
          have el := O1 (σ := x.σ) (σ' := y.σ) (l := args.toList) (fun t ht => hy t (by rw [hop]; simp [C2, K4, ht]))
          have e := K7 hr.t args.toList (by rw [el]; exact h1)
          have e2 : args.map a.eval = (A8 bs (args.toList.map (ev x.σ))).toArray := by apply Array.ext'; rw [← el]; simpa using e
          obtain ⟨dst, op, type, pos, after, guard⟩ := o
          simp only at hop; subst hop
          exact ⟨by simp [execOp, resolve, Act.eval, Deferred.ofValue, invoke, e2], by rw [← el]; exact K0 hr.t _⟩
        · rename_i t args _ hop
          split at h
          · rename_i f first cap hg
            obtain ⟨h1, h2⟩ := h
            refine Bi5 h2 ho hrun hd hin (by rw [hop]; intro c; simp) (fun y hy bs a w hr => ?_)
            have el := O1 (σ := x.σ) (σ' := y.σ) (l := args.toList) (fun t ht => hy t (by rw [hop]; simp [C2, ht]))
            have e := K7 hr.t args.toList (by rw [el]; exact h1)
            have e2 : args.map a.eval = (A8 bs (args.toList.map (ev x.σ))).toArray := by apply Array.ext'; rw [← el]; simpa using e
            have eg : G2 y.σ t = .fn (.func f) first cap := by rw [hy t (by rw [hop]; simp [C2, K4])]; exact hg
            have ef := D0 hr.t (.tmp t) (by simp [ev, eg])
            simp only [ev, eg] at ef
            have hcl := hr.t.cl t
            rw [eg] at hcl
            simp only [closed] at hcl
            obtain ⟨dst, op, type, pos, after, guard⟩ := o
            simp only at hop; subst hop
            refine ⟨?_, ?_⟩
            · simp [execOp, resolve, ef, real, Deferred.ofValue, invoke, e2, A9]
            · rw [closeds_append, closeds_append]
              exact ⟨⟨hcl.1, by rw [← el]; exact K0 hr.t _⟩, hcl.2⟩
          · exact h ho hrun hd hin
        · exact h ho hrun hd hin
    · intro b want d acc i o ord x h ho hg hd
      simp only [Al7] at h
      obtain ⟨h1, h2⟩ := h
      obtain ⟨g1, g2⟩ := Af5 hg
      by_cases e : b = want
      · have hal : Alike ⟨(d, .bool want) :: x.σ, x.n, x.hs, x.B, x.ms⟩ x := by subst e; exact Z7 g1
        refine (ih2 acc i o ord _ (h1 e) ho (.inr ⟨want, want, d, by have := g2 want; simpa using this, rfl⟩) hd).alike hal
      · have e' : b = !want := by cases b <;> cases want <;> simp_all
        refine Bh9 ho hd (Bs3 hg e') ((ih1 _ _ _ (h2 e')).alike ?_)
        have hal : Alike ⟨(d, .bool (!want)) :: x.σ, x.n, x.hs, x.B, x.ms⟩ x := by rw [← e']; exact Z7 g1
        exact ⟨fun t => by simp only [Ef.app, J3]; split
                           · rfl
                           · exact hal.σ t, rfl, fun i => rfl, rfl, rfl⟩
theorem D4 {C : Cx} {Q : Exit → X → Prop} {ops : List Oper} {st : List It} {acc : List Nd} {ord : List Nat} {x : X} (n : Nat) (hin : L3 C.N ops = true) (h : Ak1 C Q ops st n acc ord x) : DT C Q ops st acc ord x := (Ak0 hin n).1 acc ord x h
end Go.Ew
namespace Go.Ew
open Go RowKit
theorem G8 {C : Cx} {Q : Exit → X → Prop} {ops : List Oper} {st : List It} {f : FuncId} {args : List EV} {acc : List Nd} {i : Nat} {o : Oper} {ord : List Nat} {x : X} {S : Type} {vf : S → EV} {R : S → Base → Prop} (h : Does C.P f args x.B vf R) (hv : ∀ s, closed 0 (vf s)) (hdep : Bd6 ops [i] ord = true)
  (hck : Ck ((i, o, { dst := o.dst, v := .any, ups := [], a := 0, looks := C2 o.op ++ F7 ops o.guard, foot := [] }, true) :: acc).reverse)
  (hk : L3 C.N ops = true → ∀ s B', BExt x.B B' → R s B' → DT C Q ops st ((i, o, { dst := o.dst, v := vf s, ups := [], a := 0, looks := C2 o.op ++ F7 ops o.guard, foot := [] }, true) :: acc) ord { σ := put x.σ o.dst (vf s), n := x.n, hs := x.hs, B := B', ms := x.ms }) : Az0 C Q ops st f args acc i o ord x :=
 ⟨false, { dst := o.dst, v := .any, ups := [], a := 0, looks := C2 o.op ++ F7 ops o.guard, foot := [] }, S, fun s => { dst := o.dst, v := vf s, ups := [], a := 0, looks := C2 o.op ++ F7 ops o.guard, foot := [] }, R, fun t h => h,
  fun y hy => .inl (Ak6 h hy.B hv (fun s B' hB hR => ⟨s, B', hB, hR, Alike.rfl' _⟩)), hdep, hck, fun _ => ⟨rfl, rfl, rfl, rfl, rfl, rfl⟩, fun hin s B' hB hR => hk hin s B' hB hR⟩
theorem Aj2 {C : Cx} {o : Oper} {x : X} {K : X → Prop} (h : opS C (fun e z => e = .normal ∧ K z) o [] x) (hd : K3 C.N o.dst = true) : Au6 C o x K := by
 intro bs a w hr Q
 refine Oper.wpIn_mono ?_ (h hd bs a w hr Q)
 rintro a' w' ⟨x', bs', hr', hn⟩
 obtain ⟨z, bs'', h1, _, h2⟩ := hn trivial bs' a' w' hr'
 exact ⟨z, bs'', h1, h2⟩
mutual
theorem ren_av {ρ : Nat → Nat} {r : Nat} (h : ∀ i, i ≠ r → ρ i = i) : ∀ v, av r v → ren ρ v = v
 | .any, _ | .int _ _, _ | .bool _, _ | .str _, _ | .raw _, _ => rfl
 | .ptr i _, hv => by simp only [av] at hv; simp [ren, h i hv]
 | .sl i _ _ _, hv => by simp only [av] at hv; simp [ren, h i hv]
 | .mp i, hv => by simp only [av] at hv; simp [ren, h i hv]
 | .fn _ a b, hv => by simp only [av] at hv; simp [ren, Ac8 h a hv.1, Ac8 h b hv.2]
 | .agg cs, hv => by simp only [av] at hv; simp [ren, Ac8 h cs hv]
 | .tup vs, hv => by simp only [av] at hv; simp [ren, Ac8 h vs hv]
 | .ifc _ v, hv => by simp only [av] at hv; simp [ren, ren_av h v hv]
theorem Ac8 {ρ : Nat → Nat} {r : Nat} (h : ∀ i, i ≠ r → ρ i = i) : ∀ l, avs r l → Z8 ρ l = l
 | [], _ => rfl
 | v :: vs, hv => by simp only [avs] at hv; simp [Z8, ren_av h v hv.1, Ac8 h vs hv.2]
end
theorem EObj.ren_av {ρ : Nat → Nat} {r : Nat} (h : ∀ i, i ≠ r → ρ i = i) (o : EObj) (hv : o.av r) : o.ren ρ = o := by
 cases o with
 | cells cs T fr => simp only [EObj.ren, Ac8 h cs hv]
 | obj o => rfl
theorem Bs8 (ρ : Nat → Nat) (r len : Nat) (l : Lst) : ren ρ (lE r len l) = lE (ρ r) len l := by cases l <;> rfl
theorem A4 {n r len : Nat} {l : Lst} (h : r < n) : closed n (lE r len l) := by cases l <;> simp [lE, closed, h]
theorem J7 {T : TypeId} {xs zs : List EV} {len : Nat} {l : Lst} {o : EObj} {n : Nat} (hl : lOk zs len l) (hx : A0 0 xs) (hz : A0 0 zs) (h : lO T xs l = some o) : o.closed n ∧ o.closed 0 := by
 cases l with
 | none => cases h
 | some p =>
  obtain ⟨cap, rest⟩ := p
  simp only [lO, Option.some.injEq] at h
  subst h
  have h0 : A0 0 (xs ++ rest) := closeds_append.2 ⟨hx, by rw [D8] at hz ⊢; exact fun v hv => hz v (hl.2.2.2 v hv)⟩
  exact ⟨D7 (Nat.zero_le _) _ h0, h0⟩
/-- append, its block under the name r'. -/
theorem Be6 {C : Cx} {o : Oper} {x : X} {a b : Operand} {t t2 T : TypeId} (r' r len : Nat) {l : Lst} {xs : List EV} {m : Nat} {b' : EV} {news zs : List EV} {c : Prop}
  (hop : o.op = .call { callee := .builtin .append, args := #[a, b], argTypes := #[t, t2] })
  (ht : C.P.underlying t = some (.slice T)) (ht2 : (∃ e', C.P.underlying t2 = some (.slice e')) ∨ C.P.underlying t2 = some .string)
  (hz : G5 C.P T = some zs) (hcz : C.P.cellsOf T = zs.length) (hzne : zs ≠ []) (hz0 : A0 0 zs)
  (ha : ev x.σ a = lE r len l) (hb : ev x.σ b = b') (hg : hget x.hs r = lO T xs l) (hl : lOk zs len l) (hx : xs.length = len * zs.length) (hx0 : A0 0 xs)
  (hsrc : R6 x.B x.hs zs.length b' = some (m, news, c)) (hc : c) (hone : H8 news = true) (hn0 : A0 0 news)
  (hmax : len + m ≤ maxLen) (hby : (len + m) * C.P.bytesOf T ≤ 140737488355328) (hd : K3 C.N o.dst = true) (hav : Av r' x) (hold : C.olds.length ≤ r') :
  Au6 C o x (fun z => ∃ l', lOk zs (len + m) l' ∧ Alike z { σ := put x.σ o.dst (lE r' (len + m) l'), n := x.n, hs := (r', lO T (xs ++ news) l') :: (r, none) :: x.hs, B := x.B, ms := x.ms }) := by
 intro bs0 a0 w0 hr0 Q0
 refine Aj2 (K := fun z => ∃ l', lOk zs (len + m) l' ∧ Alike z { σ := put x.σ o.dst (lE r' (len + m) l'), n := x.n, hs := (r', lO T (xs ++ news) l') :: (r, none) :: x.hs, B := x.B, ms := x.ms }) ?_ hd bs0 a0 w0 hr0 Q0
 refine Bx3 r len xs hop ht ht2 hz hcz hzne ha hb (by rw [hg]; exact Bs0 hl hx (D7 (Nat.zero_le _) _ hx0) (D7 (Nat.zero_le _) _ hz0)) hsrc hc hone hmax hby (fun e' oo' hO => ?_)
 obtain ⟨l', rfl, rfl, hl', hx', hc'⟩ := Bp8 hO
 intro _ bs ac w hr
 have hxn0 : A0 0 (xs ++ news) := closeds_append.2 ⟨hx0, hn0⟩
 have hρ : ∀ i, i ≠ r' → (fun i => if i = r' then x.n else i) i = i := fun i hi => if_neg hi
 have hw : WeakR C (fun i => if i = r' then x.n else i) { σ := put x.σ o.dst (lE x.n (len + m) l'), n := x.n + 1, hs := (x.n, lO T (xs ++ news) l') :: (r, none) :: x.hs, B := x.B, ms := x.ms }
   { σ := put x.σ o.dst (lE r' (len + m) l'), n := x.n, hs := (r', lO T (xs ++ news) l') :: (r, none) :: x.hs, B := x.B, ms := x.ms } := by
  have hlive : ∀ i o', hget ((r', lO T (xs ++ news) l') :: (r, none) :: x.hs) i = some o' → (i = r' ∧ lO T (xs ++ news) l' = some o') ∨ (i ≠ r' ∧ i ≠ r ∧ hget x.hs i = some o') := by
   intro i o' hi
   rw [C0] at hi
   by_cases e : r' = i
   ·rw [if_pos e] at hi; exact .inl ⟨e.symm, hi⟩
   ·rw [if_neg e, C0] at hi
    by_cases e2 : r = i
    ·rw [if_pos e2] at hi; cases hi
    ·rw [if_neg e2] at hi; exact .inr ⟨Ne.symm e, Ne.symm e2, hi⟩
  refine ⟨fun t => .inr ?_, fun i o' hi => ?_, fun t => ?_, fun i o' hi => ?_, fun i j oi oj hi hj hij => ?_, ?_, fun i hi => ?_, rfl, ?_, hr0.t.msin⟩
  ·simp only [J3]
   split
   ·rw [Bs8]; simp
   ·exact ren_av hρ _ (hav.σ t)
  ·rcases hlive i o' hi with ⟨rfl, h1⟩ | ⟨h1, h2, h3⟩
   ·simp only [if_true, C0, h1]
    congr 1
    exact (EObj.ren_id (n := 0) (fun i hi => absurd hi (Nat.not_lt_zero i)) o' (J7 (n := 0) hl' hxn0 hz0 h1).2).symm
   ·have hlt := (hr0.h.live i o' h3).1
    simp only [if_neg h1, C0]
    rw [if_neg (by omega), if_neg (Ne.symm h2), h3]
    congr 1
    exact (EObj.ren_av hρ o' (hav.hs i o' h3).2).symm
  ·simp only [J3]
   split
   ·exact A4 hav.n
   ·exact hr0.t.cl t
  ·rcases hlive i o' hi with ⟨rfl, h1⟩ | ⟨h1, h2, h3⟩
   ·exact ⟨hav.n, (J7 hl' hxn0 hz0 h1).1⟩
   ·exact ⟨(hr0.h.live i o' h3).1, hr0.h.cl i o' h3⟩
  ·rcases hlive i oi hi with ⟨rfl, h1⟩ | ⟨h1, h2, h3⟩ <;> rcases hlive j oj hj with ⟨rfl, k1⟩ | ⟨k1, k2, k3⟩
   ·rfl
   ·have := (hr0.h.live j oj k3).1
    simp only [if_true, if_neg k1] at hij; omega
   ·have := (hr0.h.live i oi h3).1
    simp only [if_true, if_neg h1] at hij; omega
   ·simpa only [if_neg h1, if_neg k1] using hij
  ·have := hav.n; show C.olds.length ≤ x.n; omega
  ·show (if i = r' then x.n else i) = i; rw [if_neg (by omega)]
  ·simp only
   conv => lhs; rw [← List.map_id x.ms]
   refine List.map_congr_left fun i hi => ?_
   have : i ≠ r' := fun e => hav.ms (e ▸ hi)
   simp [this]
 obtain ⟨bs', hr'⟩ := hw.sub bs ac w hr
 exact ⟨_, bs', hr', rfl, l', hl', Alike.rfl' _⟩
/-- append in a region that draws its order. -/
theorem Cs4 {C : Cx} {Q : Exit → X → Prop} {ops : List Oper} {st : List It} {acc : List Nd} {i : Nat} {o : Oper} {ord : List Nat} {x : X} {ta : Nat} {tb : Nat} {t t2 T : TypeId} (d r len : Nat) {l : Lst} {xs : List EV} {m : Nat} {b' : EV} {news zs : List EV} {c : Prop} (fb : List Nat)
  (hop : o.op = .call { callee := .builtin .append, args := #[.tmp ta, .tmp tb], argTypes := #[t, t2] }) (hdst : o.dst = some d)
  (ht : C.P.underlying t = some (.slice T)) (ht2 : (∃ e', C.P.underlying t2 = some (.slice e')) ∨ C.P.underlying t2 = some .string)
  (hz : G5 C.P T = some zs) (hcz : C.P.cellsOf T = zs.length) (hzne : zs ≠ []) (hz0 : A0 0 zs)
  (ha : G2 x.σ ta = lE r len l) (hb : G2 x.σ tb = b') (hg : hget x.hs r = lO T xs l) (hl : lOk zs len l) (hx : xs.length = len * zs.length) (hx0 : A0 0 xs)
  (hsrc : ∀ B hs, BExt x.B B → (∀ i ∈ fb, hget hs i = hget x.hs i) → ∃ c, R6 B hs zs.length b' = some (m, news, c) ∧ c) (hone : H8 news = true) (hn0 : A0 0 news)
  (hmax : len + m ≤ maxLen) (hby : (len + m) * C.P.bytesOf T ≤ 140737488355328) (hold : C.olds.length ≤ 100000 + d) (hdep : Bd6 ops [i] ord = true)
  (hck : Ck ((i, o, { dst := o.dst, v := .any, ups := [(100000 + d, none), (r, none)], a := 0, looks := [ta, tb] ++ F7 ops o.guard, foot := r :: fb, nm := [100000 + d] }, true) :: acc).reverse)
  (hk : ∀ l', lOk zs (len + m) l' → DT C Q ops st ((i, o, { dst := o.dst, v := lE (100000 + d) (len + m) l', ups := [(100000 + d, lO T (xs ++ news) l'), (r, none)], a := 0, looks := [ta, tb] ++ F7 ops o.guard, foot := r :: fb, nm := [100000 + d] }, true) :: acc) ord
   { σ := put x.σ o.dst (lE (100000 + d) (len + m) l'), n := x.n, hs := (100000 + d, lO T (xs ++ news) l') :: (r, none) :: x.hs, B := x.B, ms := x.ms }) : Bo8 C Q ops st acc i o ord x := by
 intro ho hrun hd hin
 refine Cg0 (sm := true) (S := Lst) (R := fun l' _ => lOk zs (len + m) l') ho hd hdep (Q7 (fun t ht => by simp [ht]) hrun (K := fun y z => ∃ s B', Gon true y.B B' ∧ lOk zs (len + m) s ∧ Alike z (Ef.appB { dst := o.dst, v := lE (100000 + d) (len + m) s, ups := [(100000 + d, lO T (xs ++ news) s), (r, none)], a := 0, looks := [ta, tb] ++ F7 ops o.guard, foot := r :: fb, nm := [100000 + d] } B' y)) (fun y hy => ?_)) hck (fun _ => ⟨rfl, rfl, rfl, rfl, rfl, rfl⟩) (fun s B' hB hR => ?_)
 ·obtain ⟨c', hs1, hs2⟩ := hsrc y.B y.hs hy.B (fun j hj => hy.hs j (List.mem_cons_of_mem _ hj))
  refine S2 (Be6 (100000 + d) r len hop ht ht2 hz hcz hzne hz0 (a := .tmp ta) (b := .tmp tb) (x := y) (by simp only [ev]; rw [hy.σ ta (by simp)]; exact ha) (by simp only [ev]; rw [hy.σ tb (by simp)]; exact hb) (by rw [hy.hs r (by simp)]; exact hg) hl hx hx0 hs1 hs2 hone hn0 hmax hby hd (hy.nm _ (by simp)) hold) ?_
  rintro z ⟨l', h1, h2⟩
  exact ⟨l', y.B, rfl, h1, h2⟩
 ·have hB : B' = x.B := hB
  subst hB
  exact hk s hR
/-- append to a list of one's own. -/
theorem Au0 {C : Cx} {Q : Exit → X → Prop} {o : Oper} {st : List It} {x : X} {a b : Operand} {t t2 T : TypeId} (r len : Nat) {l : Lst} {xs : List EV} {m : Nat} {b' : EV} {news zs : List EV} {c : Prop}
  (hop : o.op = .call { callee := .builtin .append, args := #[a, b], argTypes := #[t, t2] })
  (ht : C.P.underlying t = some (.slice T)) (ht2 : (∃ e', C.P.underlying t2 = some (.slice e')) ∨ C.P.underlying t2 = some .string)
  (hz : G5 C.P T = some zs) (hcz : C.P.cellsOf T = zs.length) (hzne : zs ≠ []) (hz0 : A0 0 zs)
  (ha : ev x.σ a = lE r len l) (hb : ev x.σ b = b') (hg : hget x.hs r = lO T xs l) (hl : lOk zs len l) (hx : xs.length = len * zs.length) (hx0 : A0 0 xs)
  (hsrc : R6 x.B x.hs zs.length b' = some (m, news, c)) (hc : c) (hone : H8 news = true)
  (hmax : len + m ≤ maxLen) (hby : (len + m) * C.P.bytesOf T ≤ 140737488355328)
  (hk : ∀ l', lOk zs (len + m) l' → Next C Q st { σ := put x.σ o.dst (lE x.n (len + m) l'), n := x.n + 1, hs := (x.n, lO T (xs ++ news) l') :: (r, none) :: x.hs, B := x.B, ms := x.ms }) : opS C Q o st x := by
 refine Bx3 r len xs hop ht ht2 hz hcz hzne ha hb (by rw [hg]; exact Bs0 hl hx (D7 (Nat.zero_le _) _ hx0) (D7 (Nat.zero_le _) _ hz0)) hsrc hc hone hmax hby (fun e' oo' hO => ?_)
 obtain ⟨l', rfl, rfl, hl', hx', hc'⟩ := Bp8 hO
 exact hk l' hl'
def Cf7 (i : Nat) : List Nat → Nat → Option Nat
 | [], _ => none
 | j :: r, k => bif Nat.beq j i then some k else Cf7 i r (k + 1)
/-- The new name of i: below k it stays; one of the kept ones gets a name from k on. -/
def cmp (ks : List Nat) (k i : Nat) : Option Nat := if i < k then some i else Cf7 i ks k
mutual
def okC (ks : List Nat) (k : Nat) : EV → Bool
 | .ptr i _ => (cmp ks k i).isSome
 | .sl i _ _ _ => (cmp ks k i).isSome
 | .mp i => (cmp ks k i).isSome
 | .fn _ a b => U9 ks k a && U9 ks k b
 | .agg cs => U9 ks k cs
 | .tup vs => U9 ks k vs
 | .ifc _ v => okC ks k v
 | _ => true
def U9 (ks : List Nat) (k : Nat) : List EV → Bool
 | [] => true
 | v :: vs => okC ks k v && U9 ks k vs
end
def Be0 (ks : List Nat) (k : Nat) (i : Nat) : Nat := (cmp ks k i).getD 0
theorem Ax5 : ∀ {l : List Nat} {i k p : Nat}, Cf7 i l k = some p → k ≤ p ∧ p < k + l.length ∧ l[p - k]? = some i
 | [], i, k, p, h => by cases h
 | j :: r, i, k, p, h => by
  simp only [Cf7] at h
  cases hb : Nat.beq j i with
  | true =>
   rw [hb] at h
   simp only [cond_true, Option.some.injEq] at h
   subst h
   have := Nat.eq_of_beq_eq_true hb
   subst this
   exact ⟨Nat.le_refl _, by simp, by simp⟩
  | false =>
   rw [hb] at h
   simp only [cond_false] at h
   obtain ⟨h1, h2, h3⟩ := Ax5 h
   refine ⟨by omega, by simp; omega, ?_⟩
   rw [show p - k = (p - (k + 1)) + 1 by omega]
   simpa using h3
/-- Where a small name comes from. -/
def Av1 (ks : List Nat) (k : Nat) (bs : Nat → Nat) : Nat → Nat := fun i => if i < k then bs i else bs (ks.getD (i - k) 0)
theorem N2 {ks : List Nat} {k i p : Nat} (h : cmp ks k i = some p) : p < k + ks.length ∧ ∀ bs, Av1 ks k bs p = bs i := by
 unfold cmp at h
 split at h
 ·rename_i hlt
  simp only [Option.some.injEq] at h
  subst h
  exact ⟨by omega, fun bs => if_pos hlt⟩
 ·obtain ⟨h1, h2, h3⟩ := Ax5 h
  refine ⟨h2, fun bs => ?_⟩
  unfold Av1
  rw [if_neg (by omega), List.getD_eq_getElem?_getD, h3]; rfl
mutual
theorem real_cmp {ks : List Nat} {k : Nat} (bs : Nat → Nat) : ∀ v, okC ks k v = true → real (Av1 ks k bs) (ren (Be0 ks k) v) = real bs v ∧ closed (k + ks.length) (ren (Be0 ks k) v)
 | .any, _ | .int _ _, _ | .bool _, _ | .str _, _ | .raw _, _ => ⟨rfl, trivial⟩
 | .ptr i _, h => by
  simp only [okC] at h
  obtain ⟨p, hp⟩ := Option.isSome_iff_exists.1 h
  obtain ⟨h1, h2⟩ := N2 hp
  simp [ren, real, closed, Be0, hp, h1, h2]
 | .sl i _ _ _, h => by
  simp only [okC] at h
  obtain ⟨p, hp⟩ := Option.isSome_iff_exists.1 h
  obtain ⟨h1, h2⟩ := N2 hp
  simp [ren, real, closed, Be0, hp, h1, h2]
 | .mp i, h => by
  simp only [okC] at h
  obtain ⟨p, hp⟩ := Option.isSome_iff_exists.1 h
  obtain ⟨h1, h2⟩ := N2 hp
  simp [ren, real, closed, Be0, hp, h1, h2]
 | .fn _ a b, h => by
  simp only [okC, Bool.and_eq_true] at h
  obtain ⟨a1, a2⟩ := R8 bs a h.1
  obtain ⟨b1, b2⟩ := R8 bs b h.2
  simp [ren, real, closed, a1, a2, b1, b2]
 | .agg cs, h => by
  simp only [okC] at h
  obtain ⟨a1, a2⟩ := R8 bs cs h
  simp [ren, real, closed, a1, a2]
 | .tup vs, h => by
  simp only [okC] at h
  obtain ⟨a1, a2⟩ := R8 bs vs h
  simp [ren, real, closed, a1, a2]
 | .ifc _ v, h => by
  simp only [okC] at h
  obtain ⟨a1, a2⟩ := real_cmp bs v h
  simp [ren, real, closed, a1, a2]
theorem R8 {ks : List Nat} {k : Nat} (bs : Nat → Nat) : ∀ l, U9 ks k l = true → A8 (Av1 ks k bs) (Z8 (Be0 ks k) l) = A8 bs l ∧ A0 (k + ks.length) (Z8 (Be0 ks k) l)
 | [], _ => ⟨rfl, trivial⟩
 | v :: vs, h => by
  simp only [U9, Bool.and_eq_true] at h
  obtain ⟨a1, a2⟩ := real_cmp bs v h.1
  obtain ⟨b1, b2⟩ := R8 bs vs h.2
  simp [Z8, A8, A0, a1, a2, b1, b2]
end
def okE (ks : List Nat) (k : Nat) : EObj → Bool
 | .cells cs _ _ => U9 ks k cs
 | .obj _ => true
theorem EObj.real_cmp {ks : List Nat} {k : Nat} (bs : Nat → Nat) (o : EObj) (h : okE ks k o = true) : (o.ren (Be0 ks k)).real (Av1 ks k bs) = o.real bs ∧ (o.ren (Be0 ks k)).closed (k + ks.length) := by
 cases o with
 | cells cs T fr =>
  obtain ⟨a1, a2⟩ := R8 bs cs h
  simp [EObj.ren, EObj.real, EObj.closed, a1, a2]
 | obj o => simp [EObj.ren, EObj.real, EObj.closed]
def pkσ (ks : List Nat) (k : Nat) : List (Nat × EV) → List (Nat × EV)
 | [] => []
 | (t, v) :: r => (t, match okC ks k v with
  | true => ren (Be0 ks k) v
  | false => .any) :: pkσ ks k r
def pkO (ks : List Nat) (k : Nat) : Option EObj → Option EObj
 | none => none
 | some o => match okE ks k o with
  | true => some (o.ren (Be0 ks k))
  | false => none
def pkh (ks : List Nat) (k : Nat) : List (Nat × Option EObj) → List (Nat × Option EObj)
 | [] => []
 | (i, o) :: r => match cmp ks k i with
  | some p => (p, pkO ks k o) :: pkh ks k r
  | none => pkh ks k r
theorem tget_pkσ (ks : List Nat) (k : Nat) : ∀ (σ : List (Nat × EV)) (t : Nat), G2 (pkσ ks k σ) t = (match okC ks k (G2 σ t) with
  | true => ren (Be0 ks k) (G2 σ t)
  | false => .any)
 | [], t => rfl
 | (t', v) :: r, t => by
  simp only [pkσ, G2]
  cases hb : (t' == t) with
  | true => simp only [cond_true]
  | false => simp only [cond_false]; exact tget_pkσ ks k r t
theorem Ar8 {ks : List Nat} {k : Nat} (hnd : ks.Nodup) (hge : ∀ i ∈ ks, k ≤ i) : ∀ {hs : List (Nat × Option EObj)} {j : Nat} {o : EObj}, hget (pkh ks k hs) j = some o → ∃ i o', cmp ks k i = some j ∧ hget hs i = some o' ∧ okE ks k o' = true ∧ o = o'.ren (Be0 ks k)
 | [], j, o, h => by cases h
 | (i, oo) :: r, j, o, h => by
  have inj : ∀ i i' p, cmp ks k i = some p → cmp ks k i' = some p → i = i' := by
   intro i i' p h1 h2
   have e := (N2 h1).2 (fun q => q)
   rw [(N2 h2).2 (fun q => q)] at e
   exact e.symm
  simp only [pkh] at h
  cases hc : cmp ks k i with
  | none =>
   rw [hc] at h
   obtain ⟨i', o', h1, h2, h3, h4⟩ := Ar8 hnd hge h
   refine ⟨i', o', h1, ?_, h3, h4⟩
   rw [C0, if_neg (by rintro rfl; rw [hc] at h1; cases h1)]; exact h2
  | some p =>
   rw [hc] at h
   simp only at h
   rw [C0] at h
   by_cases e : p = j
   ·subst e
    rw [if_pos rfl] at h
    cases oo with
    | none => cases h
    | some o' =>
     simp only [pkO] at h
     cases hk : okE ks k o' with
     | false => rw [hk] at h; cases h
     | true =>
      rw [hk] at h
      simp only [Option.some.injEq] at h
      exact ⟨i, o', hc, by rw [C0, if_pos rfl], hk, h.symm⟩
   ·rw [if_neg e] at h
    obtain ⟨i', o', h1, h2, h3, h4⟩ := Ar8 hnd hge h
    refine ⟨i', o', h1, ?_, h3, h4⟩
    rw [C0, if_neg (by rintro rfl; rw [hc] at h1; exact e (Option.some.inj h1))]; exact h2
theorem L0 {C : Cx} {Q : Exit → X → Prop} {st : List It} {x : X} (ks : List Nat) (k : Nat) (hnd : ks.Nodup) (hge : ∀ i ∈ ks, k ≤ i) (hold : C.olds.length ≤ k) (hms : ∀ i ∈ x.ms, i < k)
  (hk : Next C Q st ⟨pkσ ks k x.σ, k + ks.length, pkh ks k x.hs, x.B, x.ms⟩) : Next C Q st x := by
 intro hst bs a w hr
 refine hk hst (Av1 ks k bs) a w ⟨⟨hr.t.size, ?_, fun i hi => Nat.lt_of_lt_of_le (hms i hi) (Nat.le_add_right _ _), fun t ht => ?_, fun t => ?_⟩, ?_⟩
 ·rw [hr.t.defers]
  exact List.map_congr_left fun i hi => by unfold Av1; rw [if_pos (hms i hi)]
 ·simp only at ht ⊢
  rw [tget_pkσ] at ht ⊢
  cases ho : okC ks k (G2 x.σ t) with
  | false => rw [ho] at ht; exact absurd rfl ht
  | true =>
   rw [ho] at ht
   simp only
   rw [(real_cmp bs _ ho).1]
   refine hr.t.tmps t (fun e => ht ?_)
   rw [e]; rfl
 ·simp only
  rw [tget_pkσ]
  cases ho : okC ks k (G2 x.σ t) with
  | false => trivial
  | true => exact (real_cmp bs _ ho).2
 ·have key := fun j o (h : hget (pkh ks k x.hs) j = some o) => Ar8 hnd hge h
  refine ⟨fun j o hj => ?_, fun j o hj => ?_, fun i j oi oj hi hj hb => ?_, fun i b hi => ?_, fun j o hj => ?_, hr.h.frame, hr.h.os, hr.h.tape, hr.h.output, hr.h.hsize, fun j o hj => ?_, hr.h.frameE, hr.h.apart, hr.h.eo⟩
  ·obtain ⟨i, o', h1, h2, h3, rfl⟩ := key j o hj
   obtain ⟨h4, h5⟩ := N2 h1
   rw [h5, (EObj.real_cmp bs o' h3).1]
   exact ⟨h4, (hr.h.live i o' h2).2⟩
  ·obtain ⟨i, o', h1, h2, h3, rfl⟩ := key j o hj
   exact (EObj.real_cmp bs o' h3).2
  ·obtain ⟨i', o', h1, h2, h3, rfl⟩ := key i oi hi
   obtain ⟨j', p', k1, k2, k3, rfl⟩ := key j oj hj
   rw [(N2 h1).2, (N2 k1).2] at hb
   have := hr.h.inj i' j' o' p' h2 k2 hb
   subst this
   rw [h1] at k1; exact Option.some.inj k1
  ·obtain ⟨h1, h2⟩ := hr.h.old i b hi
   have hik : i < k := by
    have : i < C.olds.length := by
     rcases Nat.lt_or_ge i C.olds.length with h | h
     ·exact h
     ·rw [List.getElem?_eq_none h] at hi; cases hi
    omega
   exact ⟨by unfold Av1; rw [if_pos hik]; exact h1, by simp only; omega⟩
  ·obtain ⟨i, o', h1, h2, h3, rfl⟩ := key j o hj
   rw [(N2 h1).2]; exact hr.h.new i o' h2
  ·obtain ⟨i, o', h1, h2, h3, rfl⟩ := key j o hj
   rw [(N2 h1).2]; exact hr.h.newE i o' h2
theorem Cp1 {ks : List Nat} {k r len : Nat} {l : Lst} (h : (cmp ks k r).isSome = true) : okC ks k (lE r len l) = true := by cases l <;> simp [lE, okC, h]
mutual
theorem An9 {ks : List Nat} {k n : Nat} (hn : n ≤ k) : ∀ v, closed n v → okC ks k v = true
 | .any, _ | .int _ _, _ | .bool _, _ | .str _, _ | .raw _, _ => rfl
 | .ptr i _, h => by simp only [closed] at h; simp [okC, cmp, show i < k by omega]
 | .sl i _ _ _, h => by simp only [closed] at h; simp [okC, cmp, show i < k by omega]
 | .mp i, h => by simp only [closed] at h; simp [okC, cmp, show i < k by omega]
 | .fn _ a b, h => by simp only [closed] at h; simp [okC, L1 hn a h.1, L1 hn b h.2]
 | .agg cs, h => by simp only [closed] at h; simp [okC, L1 hn cs h]
 | .tup vs, h => by simp only [closed] at h; simp [okC, L1 hn vs h]
 | .ifc _ v, h => by simp only [closed] at h; simp [okC, An9 hn v h]
theorem L1 {ks : List Nat} {k n : Nat} (hn : n ≤ k) : ∀ l, A0 n l → U9 ks k l = true
 | [], _ => rfl
 | v :: vs, h => by simp only [A0] at h; simp [U9, An9 hn v h.1, L1 hn vs h.2]
end
theorem H2 {ks : List Nat} {k : Nat} {T : TypeId} {xs zs : List EV} {len : Nat} {l : Lst} (hl : lOk zs len l) (hx : A0 0 xs) (hz : A0 0 zs) : pkO ks k (lO T xs l) = lO T xs l := by
 cases h : lO T xs l with
 | none => rfl
 | some o =>
  have h0 := (J7 (n := 0) hl hx hz h).2
  have e1 : okE ks k o = true := by
   cases o with
   | cells cs T' fr => exact L1 (Nat.zero_le _) _ h0
   | obj o => rfl
  simp only [pkO, e1]
  congr 1
  exact EObj.ren_id (n := 0) (fun i hi => absurd hi (Nat.not_lt_zero i)) o h0
theorem J4 {T : TypeId} {xs zs : List EV} {len : Nat} {l : Lst} {n : Nat} (hl : lOk zs len l) (hx : A0 0 xs) (hz : A0 0 zs) : clO n (lO T xs l) = True := by
 simp only [eq_iff_iff, iff_true]
 exact fun o' h => (J7 hl hx hz h).1
theorem Z0 {ks : List Nat} {k r len : Nat} {l : Lst} (h : (cmp ks k r).isSome = true) : okC ks k (lE r len l) = true := Cp1 h
mutual
theorem Aj4 {i b : Nat} : ∀ v, closed 0 v → frz i b v = v
 | .any, _ | .int _ _, _ | .bool _, _ | .str _, _ | .raw _, _ => rfl
 | .ptr i _, h => by simp [closed] at h
 | .sl i _ _ _, h => by simp [closed] at h
 | .mp i, h => by simp [closed] at h
 | .fn _ a c, h => by simp only [closed] at h; simp [frz, I9 a h.1, I9 c h.2]
 | .agg cs, h => by simp only [closed] at h; simp [frz, I9 cs h]
 | .tup vs, h => by simp only [closed] at h; simp [frz, I9 vs h]
 | .ifc _ v, h => by simp only [closed] at h; simp [frz, Aj4 v h]
theorem I9 {i b : Nat} : ∀ l, A0 0 l → Ag3 i b l = l
 | [], _ => rfl
 | v :: vs, h => by simp only [A0] at h; simp [Ag3, Aj4 v h.1, I9 vs h.2]
end
theorem Cf8 {i b : Nat} {T : TypeId} {xs zs : List EV} {len : Nat} {l : Lst} (hl : lOk zs len l) (hx : A0 0 xs) (hz : A0 0 zs) : fzO i b (lO T xs l) = lO T xs l := by
 cases h : lO T xs l with
 | none => rfl
 | some o =>
  have h0 := (J7 (n := 0) hl hx hz h).2
  cases o with
  | cells cs T' fr => simp only [fzO, Option.map_some, EObj.frz, I9 cs h0]
  | obj o => rfl
theorem Cf9 {i b r len : Nat} {l : Lst} (h : r ≠ i) : frz i b (lE r len l) = lE r len l := by cases l <;> simp [lE, frz, h]
attribute [go_sem ↓] Ak1 opT By8 By9
theorem E3 (ks : List Nat) (k : Nat) : pkO ks k none = none := rfl
theorem F2 (ks : List Nat) (k : Nat) (o : EObj) : pkO ks k (some o) = match okE ks k o with
  | true => some (o.ren (Be0 ks k))
  | false => none := rfl
theorem Bt2 (i j : Nat) (r : List Nat) (k : Nat) : Cf7 i (j :: r) k = if j = i then some k else Cf7 i r (k + 1) := by
 simp only [Cf7]
 by_cases e : j = i
 ·simp [e]
 ·simp [e, show Nat.beq j i = false from by rw [Ao0]; simp [e]]
theorem Ca9 (i k : Nat) : Cf7 i [] k = none := rfl
attribute [go_sem] E3 F2 Bt2 Ca9 Nat.reduceEqDiff Option.getD_some Option.getD_none Option.isSome_none
attribute [go_sem] pkσ pkh Be0 cmp okC U9 okE cond_true cond_false Bs8
end Go.Ew
namespace Go.Ew
open Go RowKit
theorem Al4 (a : Addr) (i j : Nat) : (a.add i).add j = a.add (i + j) := by
 unfold Addr.add
 by_cases hi : i = 0
 ·subst hi; simp
 ·by_cases hj : j = 0
  ·subst hj; simp [hi]
  ·simp [hi, hj, Nat.add_assoc]
/-- Where there is something, there is an address. -/
def SlOk (ad : Option Addr) (n : Nat) : Prop := 0 < n → ad.isSome = true
theorem SlOk.so {ad : Option Addr} {n : Nat} (h : SlOk ad n) (h0 : 0 < n) : ad.isSome = true := h h0
/-- The cells from an address on. -/
structure CellsAt (B : Base) (ad : Option Addr) (cs : List Value) : Prop where
 D : ∀ a, ad = some a → 0 < cs.length → B.D a.block
 so : SlOk ad cs.length
 cell : ∀ j, j < cs.length → B.w.cell? (I0 ad j) = cs[j]?
theorem CellsAt.ext {B B' : Base} {ad : Option Addr} {cs : List Value} (h : CellsAt B ad cs) (k : BExt B B') : CellsAt B' ad cs :=
 ⟨fun a ha h0 => k.D _ (h.D a ha h0), h.so, fun j hj => by
  obtain ⟨a, ha⟩ := Option.isSome_iff_exists.1 (h.so (by omega))
  have e : I0 ad j = a.add j := by rw [ha]; rfl
  rw [e, k.cell (by rw [K6]; exact h.D a ha (by omega)), ← e]
  exact h.cell j hj⟩
theorem CellsAt.lD {B : Base} {ad : Option Addr} {cs : List Value} (h : CellsAt B ad cs) {j : Nat} (hj : j < cs.length) : B.D (I0 ad j).block := by
 obtain ⟨a, ha⟩ := Option.isSome_iff_exists.1 (h.so (by omega))
 rw [U7, ha]; exact h.D a ha (by omega)
theorem CellsAt.nil (B : Base) : CellsAt B none [] := ⟨fun a ha _ => (by cases ha), fun h => absurd h (by simp), fun j hj => absurd hj (by simp)⟩
theorem CellsAt.src {B : Base} {ad : Option Addr} {cs : List Value} {sz n cap : Nat} (h : CellsAt B ad cs) (h0 : 0 < sz) (hn : cs.length = n * sz) (hs : List (Nat × Option EObj)) :
  ∃ c, R6 B hs sz (.raw (.slice ad n cap)) = some (n, cs.map C9, c) ∧ c := by
 cases ad with
 | none =>
  have hl : cs = [] := by
   cases cs with
   | nil => rfl
   | cons v l => have := h.so (by simp); cases this
  subst hl
  have hn0 : n = 0 := by
   rcases Nat.eq_zero_or_pos n with h | h
   ·exact h
   ·have := Nat.mul_pos h h0; simp only [List.length_nil] at hn; omega
  subst hn0
  exact ⟨(0 : Nat) = 0, by simp [R6], rfl⟩
 | some a =>
  refine ⟨∀ j, j < n * sz → B.D a.block ∧ (B.w.cell? (a.add j)).isSome = true, ?_, fun j hj => ⟨h.D a rfl (by omega), ?_⟩⟩
  ·simp only [R6]
   have : (List.range (n * sz)).map (fun j => F5 B (a.add j)) = cs.map C9 := by
    apply List.ext_getElem (by simp [hn])
    intro j h1 h2
    simp only [List.length_map] at h2
    simp only [List.getElem_map, List.getElem_range]
    have := h.cell j h2
    rw [E8, List.getElem?_eq_getElem h2] at this
    simp only [F5, this, Option.getD_some]
   rw [this]
  ·have := h.cell j (by omega)
   rw [E8, List.getElem?_eq_getElem (by omega)] at this
   rw [this]; rfl
theorem CellsAt.raw {B : Base} {ad : Option Addr} {cs : List Value} (h : CellsAt B ad cs) {j : Nat} {v : Value} (hj : cs[j]? = some v) : F5 B (I0 ad j) = C9 v ∧ B.D (adr ad).block ∧ (B.w.cell? (I0 ad j)).isSome = true := by
 have hl : j < cs.length := by
  rcases Nat.lt_or_ge j cs.length with h | h
  ·exact h
  ·rw [List.getElem?_eq_none h] at hj; cases hj
 have e := h.cell j hl
 have d := h.lD hl
 rw [U7] at d
 rw [hj] at e
 exact ⟨by simp only [F5, e, Option.getD_some], d, by rw [e]; rfl⟩
theorem U3 {B : Base} {ad : Option Addr} {b len : Nat} {xs : List EV} {cs : List Value} (hD : ∀ a, ad = some a → a = ⟨b, 0, none⟩ ∧ B.D b) (hso : 0 < len → ad.isSome = true) (h0 : len = 0 → xs = [])
  (hc : ∀ j, j < xs.length → B.w.cell? (I0 ad j) = some (real (fun _ => 0) (xs.getD j .any))) (hcs : A8 (fun _ => 0) xs = cs) : CellsAt B ad cs := by
 subst hcs
 refine ⟨fun a ha _ => ?_, fun h => hso ?_, fun j hj => ?_⟩
 ·obtain ⟨rfl, h⟩ := hD a ha; exact h
 ·rcases Nat.eq_zero_or_pos len with h1 | h1
  ·rw [h0 h1] at h; simp [A8] at h
  ·exact h1
 ·rw [A9] at hj ⊢
  simp only [List.length_map] at hj
  rw [hc j hj, List.getElem?_map, List.getD_eq_getElem?_getD, List.getElem?_eq_getElem hj]; rfl
theorem Bl0 {α : Type} (f : α → List EV) (g : α → List Value) (bs : Nat → Nat) (h : ∀ a, A8 bs (f a) = g a) (l : List α) : A8 bs (l.flatMap f) = l.flatMap g := by
 rw [A9, List.map_flatMap]
 congr 1
 funext a
 rw [← A9]; exact h a
theorem Cv6 (zs : List EV) : rep 1 zs = zs := by simp [rep]
theorem Cv5 (zs : List EV) : rep 2 zs = zs ++ zs := by simp [rep, List.replicate]
theorem Cv4 (zs : List EV) : rep 4 zs = zs ++ (zs ++ (zs ++ zs)) := by simp [rep, List.replicate]
attribute [go_sem] Value.oneCell'
attribute [go_sem] K6 Al4 Cv6 Cv5 Cv4
end Go.Ew
namespace Go.Ew
open Go RowKit
def bE (x : UInt8) : EV := .int .u8 (x.toNat : Int)
def bV (x : UInt8) : Value := .int .u8 (x.toNat : Int)
theorem Aq9 (bs : Nat → Nat) (l : List UInt8) : A8 bs (l.map bE) = l.map bV := by rw [A9, List.map_map]; rfl
theorem A7 (n : Nat) (l : List UInt8) : A0 n (l.map bE) := by
 rw [D8]; intro v hv; obtain ⟨p, _, rfl⟩ := List.mem_map.1 hv; simp [bE, closed]
theorem Aw4 (l : List UInt8) : H8 (l.map bE) = true := by
 induction l with
 | nil => rfl
 | cons x l ih => simp [H8, ih, bE, EV.one]
/-- The bytes of a slice. -/
def BytesAt (B : Base) (ad : Option Addr) (l : List UInt8) : Prop := CellsAt B ad (l.map bV)
theorem BytesAt.ext {B B' : Base} {ad : Option Addr} {l : List UInt8} (h : BytesAt B ad l) (e : BExt B B') : BytesAt B' ad l := CellsAt.ext h e
theorem BytesAt.ok {B : Base} {ad : Option Addr} {l : List UInt8} (h : BytesAt B ad l) : SlOk ad l.length := by have := CellsAt.so h; simpa using this
theorem BytesAt.lD {B : Base} {ad : Option Addr} {l : List UInt8} (h : BytesAt B ad l) (hj : 0 < l.length) : B.D (adr ad).block := by have := CellsAt.lD h (j := 0) (by simpa using hj); rwa [U7] at this
theorem BytesAt.lc {B : Base} {ad : Option Addr} {l : List UInt8} (h : BytesAt B ad l) (j : Nat) (hj : j < l.length) : B.w.cell? (I0 ad j) = some (bV (l.getD j 0)) := by
 rw [CellsAt.cell h j (by simpa using hj), List.getElem?_map, List.getD_eq_getElem?_getD, List.getElem?_eq_getElem hj]; rfl
theorem BytesAt.lS {B : Base} {ad : Option Addr} {l : List UInt8} (h : BytesAt B ad l) (j : Nat) (hj : j < l.length) : (B.w.cell? (I0 ad j)).isSome = true := by rw [h.lc j hj]; rfl
theorem BytesAt.ld {B : Base} {ad : Option Addr} {l : List UInt8} (h : BytesAt B ad l) (j : Nat) (hj : j < l.length) : F5 B (I0 ad j) = bE (l.getD j 0) := by
 simp only [F5, h.lc j hj, Option.getD_some, C9]; rfl
theorem BytesAt.src {B : Base} {ad : Option Addr} {l : List UInt8} {cap : Nat} (h : BytesAt B ad l) (hs : List (Nat × Option EObj)) : ∃ c, R6 B hs 1 (.raw (.slice ad l.length cap)) = some (l.length, l.map bE, c) ∧ c := by
 have := CellsAt.src (n := l.length) (cap := cap) (sz := 1) h (by omega) (by simp) hs
 rw [List.map_map] at this
 exact this
theorem BytesAt.nil (B : Base) : BytesAt B none [] := CellsAt.nil B
/-- From a place on. -/
theorem BytesAt.drop {B : Base} {ad : Option Addr} {l : List UInt8} (h : BytesAt B ad l) (k : Nat) : BytesAt B (ad.map (·.add k)) (l.drop k) := by
 refine ⟨fun a ha hl0 => ?_, fun h0 => ?_, fun j hj => ?_⟩
 ·obtain ⟨a', ha', rfl⟩ := Option.map_eq_some_iff.1 ha
  rw [K6]; exact CellsAt.D h a' ha' (by simp at hl0 ⊢; omega)
 ·simp only [List.length_map, List.length_drop] at h0
  have := h.ok (by omega)
  rw [Option.isSome_map]; exact this
 ·simp only [List.length_map, List.length_drop] at hj
  obtain ⟨a, ha⟩ := Option.isSome_iff_exists.1 (h.ok (by omega))
  have e := CellsAt.cell h (k + j) (by simp; omega)
  rw [ha] at e ⊢
  rw [Option.map_some, E8, Al4, List.getElem?_map, List.getElem?_drop, ← List.getElem?_map]
  exact e
theorem BytesAt.take {B : Base} {ad : Option Addr} {l : List UInt8} (h : BytesAt B ad l) (k : Nat) : BytesAt B ad (l.take k) := by
 refine ⟨fun a ha hl0 => CellsAt.D h a ha (by simp at hl0 ⊢; omega), fun h0 => ?_, fun j hj => ?_⟩
 ·simp only [List.length_map, List.length_take] at h0
  exact h.ok (by omega)
 ·simp only [List.length_map, List.length_take] at hj
  rw [CellsAt.cell h j (by simp; omega), List.getElem?_map, List.getElem?_map, List.getElem?_take_of_lt (by omega)]
theorem Ak7 {B : Base} {ad : Option Addr} {b : Nat} {l : List UInt8} (hD : ∀ a, ad = some a → a = ⟨b, 0, none⟩ ∧ B.D b) (hso : 0 < l.length → ad.isSome = true)
  (hc : ∀ j, j < (l.map bE).length → B.w.cell? (I0 ad j) = some (real (fun _ => 0) ((l.map bE).getD j .any))) : BytesAt B ad l :=
 U3 hD hso (fun h => by rw [List.length_eq_zero_iff.1 h]; rfl) hc (Aq9 _ _)
end Go.Ew
namespace Go.Ew
open Go RowKit
theorem Bi6 {C : Cx} {K : X → Prop} {f : FuncId} {args : List EV} {dst : Option Tmp} {x : X} {B : Base} {v : EV} (h : Does C.P f args B (fun _ : Unit => v) (fun _ _ => True)) (hB : BExt B x.B) (hv : closed 0 v)
  (hk : K { σ := put x.σ dst v, n := x.n, hs := x.hs, B := x.B, ms := x.ms }) : V0 C f args dst x K := by
 refine ⟨h.en, fun bs w hh _ => ?_⟩
 rw [D5 bs (fun _ => 0) h.cl]
 refine (h.run ⟨w, x.B.D⟩ (hB.trans hh.ext) (fun b hb => (hh.frame b hb).1)).mono ?_
 rintro e w' ⟨_, bs', rfl, _, hst, _, _, _, _⟩
 refine ⟨v, x.n, x.hs, x.B, bs, by rw [I8 bs' bs hv], fun _ _ => rfl, Nat.le_refl _, closed_mono (Nat.zero_le _) _ hv, hh.later ⟨hst.os, hst.tape, hst.output, hst.size, fun k hk => hst.same k ⟨hk, by simp⟩⟩, hk⟩
theorem G9 {C : Cx} {Q : Exit → X → Prop} {f : FuncId} {args : List EV} {dst : Option Tmp} {st : List It} {x : X} {v : EV} (h : Does C.P f args x.B (fun _ : Unit => v) (fun _ _ => True)) (hv : closed 0 v)
  (hk : Next C Q st { σ := put x.σ dst v, n := x.n, hs := x.hs, B := x.B, ms := x.ms }) : W3 C Q f args dst st x := fun _ => .inr (Bi6 h (BExt.refl _) hv hk)
theorem At4 {C : Cx} {Q : Exit → X → Prop} {ops : List Oper} {st : List It} {f : FuncId} {args : List EV} {acc : List Nd} {i : Nat} {o : Oper} {ord : List Nat} {x : X} {v : EV} (h : Does C.P f args x.B (fun _ : Unit => v) (fun _ _ => True)) (hv : closed 0 v) (hdep : Bd6 ops [i] ord = true)
  (hck : Ck ((i, o, { dst := o.dst, v := v, ups := [], a := 0, looks := C2 o.op ++ F7 ops o.guard, foot := [] }, true) :: acc).reverse)
  (hk : L3 C.N ops = true → DT C Q ops st ((i, o, { dst := o.dst, v := v, ups := [], a := 0, looks := C2 o.op ++ F7 ops o.guard, foot := [] }, true) :: acc) ord { σ := put x.σ o.dst v, n := x.n, hs := x.hs, B := x.B, ms := x.ms }) : Az0 C Q ops st f args acc i o ord x := by
 refine ⟨true, { dst := o.dst, v := v, ups := [], a := 0, looks := C2 o.op ++ F7 ops o.guard, foot := [] }, Unit, fun _ => { dst := o.dst, v := v, ups := [], a := 0, looks := C2 o.op ++ F7 ops o.guard, foot := [] }, fun _ _ => True, fun t h => h, fun y hy => .inl (Bi6 h hy.B hv ⟨(), y.B, rfl, trivial, Alike.rfl' _⟩), hdep, hck, fun _ => ⟨rfl, rfl, rfl, rfl, rfl, rfl⟩, fun hin s B' hB _ => ?_⟩
 have hB : B' = x.B := hB
 subst hB
 exact hk hin
theorem Cd0 {C : Cx} {K : X → Prop} {f : FuncId} {args : List EV} {dst : Option Tmp} {x : X} {v : EV} {j : Nat} {o0 o1 : EObj} (hE : C6 C.P f) (hg : hget x.hs j = some o0) (hv : closed 0 v) (ho : o1.closed 0)
  (h : ∀ bs w, w.heap[bs j]? = some (o0.real bs) → Calls C.P f (A8 bs args).toArray w (fun e w' => ∃ s : Unit, True ∧ Cs8 [bs j] v 1 [some o1] w e w'))
  (hk : K { σ := put x.σ dst v, n := x.n, hs := (j, some o1) :: x.hs, B := x.B, ms := x.ms }) : V0 C f args dst x K := by
 refine ⟨hE, fun bs w hh _ => (h bs w (hh.live j _ hg).2).mono ?_⟩
 rintro e w' ⟨_, _, bs', rfl, _, hst, hold, hnew, _⟩
 have hb : bs' 0 = bs j := hold 0 (bs j) rfl
 have hn := (hnew 0 o1 rfl).2.1
 rw [hb] at hn
 have hreal : o1.real bs' = o1.real bs := by
  cases o1 with
  | cells cs T fr => simp only [EObj.real]; rw [D5 bs' bs ho]
  | obj o => rfl
 rw [hreal] at hn
 have hlive := hh.live j _ hg
 have hother : ∀ i o, hget x.hs i = some o → i ≠ j → bs i ≠ bs j := fun i o hi hne he => hne (hh.inj i j o o0 hi hg he)
 have hent : ∀ i o, hget ((j, some o1) :: x.hs) i = some o → (i = j ∧ o = o1) ∨ (i ≠ j ∧ hget x.hs i = some o) := by
  intro i o hi
  rw [C0] at hi
  by_cases e : j = i
  ·rw [if_pos e] at hi; exact .inl ⟨e.symm, (Option.some.inj hi).symm⟩
  ·rw [if_neg e] at hi; exact .inr ⟨Ne.symm e, hi⟩
 refine ⟨v, x.n, (j, some o1) :: x.hs, x.B, bs, by rw [I8 bs' bs hv], fun _ _ => rfl, Nat.le_refl _, closed_mono (Nat.zero_le _) _ hv, ?_, hk⟩
 have hsame : ∀ k, k < w.heap.size → k ≠ bs j → w'.heap[k]? = w.heap[k]? := fun k hk hne => hst.same k ⟨hk, by simpa using hne⟩
 refine ⟨fun i o hi => ?_, fun i o hi => ?_, fun i k oi ok hi hk' hb' => ?_, hh.old, fun i o hi => ?_, fun k hk' => ?_, hst.os.trans hh.os, hst.tape.trans hh.tape, hst.output.trans hh.output, Nat.le_trans hh.hsize hst.size, fun i o hi => ?_, fun k hk' => ?_, hh.apart, Nat.le_trans hh.eo.1 hst.size, hst.os.trans hh.eo.2.1, hst.tape.trans hh.eo.2.2.1, hst.output.trans hh.eo.2.2.2⟩
 ·rcases hent i o hi with ⟨rfl, rfl⟩ | ⟨h1, h2⟩
  ·exact ⟨hlive.1, hn⟩
  ·obtain ⟨l1, l2⟩ := hh.live i o h2
   exact ⟨l1, by rw [hsame _ (G3 l2) (hother i o h2 h1)]; exact l2⟩
 ·rcases hent i o hi with ⟨rfl, rfl⟩ | ⟨h1, h2⟩
  ·exact EObj.closed_mono (Nat.zero_le _) _ ho
  ·exact hh.cl i o h2
 ·rcases hent i oi hi with ⟨rfl, rfl⟩ | ⟨h1, h2⟩ <;> rcases hent k ok hk' with ⟨rfl, rfl⟩ | ⟨k1, k2⟩
  ·rfl
  ·exact absurd hb'.symm (hother k ok k2 k1)
  ·exact absurd hb' (hother i oi h2 h1)
  ·exact hh.inj i k oi ok h2 k2 hb'
 ·rcases hent i o hi with ⟨rfl, rfl⟩ | ⟨h1, h2⟩
  ·exact hh.new _ _ hg
  ·exact hh.new i o h2
 ·have hne : k ≠ bs j := fun e => hh.new j _ hg (e ▸ hk')
  exact ⟨Nat.lt_of_lt_of_le (hh.frame k hk').1 hst.size, by rw [hsame k (hh.frame k hk').1 hne]; exact (hh.frame k hk').2⟩
 ·rcases hent i o hi with ⟨rfl, rfl⟩ | ⟨h1, h2⟩
  ·exact hh.newE _ _ hg
  ·exact hh.newE i o h2
 ·have hne : k ≠ bs j := fun e => hh.newE j _ hg (e ▸ hk')
  exact ⟨Nat.lt_of_lt_of_le (hh.frameE k hk').1 hst.size, by rw [hsame k (hh.frameE k hk').1 hne]; exact (hh.frameE k hk').2⟩
theorem Cc9 {C : Cx} {Q : Exit → X → Prop} {ops : List Oper} {st : List It} {f : FuncId} {args : List EV} {acc : List Nd} {i : Nat} {o : Oper} {ord : List Nat} {x : X} {v : EV} {o0 o1 : EObj} (j : Nat) (hE : C6 C.P f) (hg : hget x.hs j = some o0) (hv : closed 0 v) (ho : o1.closed 0)
  (h : ∀ bs w, w.heap[bs j]? = some (o0.real bs) → Calls C.P f (A8 bs args).toArray w (fun e w' => ∃ s : Unit, True ∧ Cs8 [bs j] v 1 [some o1] w e w')) (hdep : Bd6 ops [i] ord = true)
  (hck : Ck ((i, o, { dst := o.dst, v := v, ups := [(j, some o1)], a := 0, looks := C2 o.op ++ F7 ops o.guard, foot := [j] }, true) :: acc).reverse)
  (hk : L3 C.N ops = true → DT C Q ops st ((i, o, { dst := o.dst, v := v, ups := [(j, some o1)], a := 0, looks := C2 o.op ++ F7 ops o.guard, foot := [j] }, true) :: acc) ord { σ := put x.σ o.dst v, n := x.n, hs := (j, some o1) :: x.hs, B := x.B, ms := x.ms }) : Az0 C Q ops st f args acc i o ord x := by
 refine ⟨true, { dst := o.dst, v := v, ups := [(j, some o1)], a := 0, looks := C2 o.op ++ F7 ops o.guard, foot := [j] }, Unit, fun _ => { dst := o.dst, v := v, ups := [(j, some o1)], a := 0, looks := C2 o.op ++ F7 ops o.guard, foot := [j] }, fun _ _ => True, fun t h => h,
  fun y hy => .inl (Cd0 hE (by rw [hy.hs j (by simp)]; exact hg) hv ho h ⟨(), y.B, rfl, trivial, Alike.rfl' _⟩), hdep, hck, fun _ => ⟨rfl, rfl, rfl, rfl, rfl, rfl⟩, fun hin s B' hB _ => ?_⟩
 have hB : B' = x.B := hB
 subst hB
 exact hk hin
theorem E1 {C : Cx} {Q : Exit → X → Prop} {st : List It} {acc : List Nd} {x : X} (h : pwT acc.reverse = true) (h2 : nmT acc.reverse) (hk : Next C Q st x) : Dc9 C Q st acc x := ⟨⟨h, h2⟩, hk⟩
theorem F9 {l : List Nd} (h : pwT l = true) (h2 : nmT l) : Ck l := ⟨h, h2⟩
end Go.Ew
namespace Go.Ew
open Go RowKit
theorem hz8 : A0 0 [EV.int .u8 0] := by simp [A0, closed]
theorem appB {C : Cx} {Q : Exit → X → Prop} {o : Oper} {st : List It} {x : X} {a b : Operand} {t t2 T : TypeId} (r n : Nat) {l : Lst} {xs : List UInt8} (ys : List UInt8)
  (hop : o.op = .call { callee := .builtin .append, args := #[a, b], argTypes := #[t, t2] })
  (ht : C.P.underlying t = some (.slice T)) (ht2 : (∃ e', C.P.underlying t2 = some (.slice e')) ∨ C.P.underlying t2 = some .string)
  (hz : G5 C.P T = some [.int .u8 0]) (hcz : C.P.cellsOf T = 1) (hb1 : C.P.bytesOf T = 1)
  (hn : xs.length = n) (ha : ev x.σ a = lE r n l) (hg : hget x.hs r = lO T (xs.map bE) l) (hl : lOk [.int .u8 0] n l)
  (hsrc : ∃ c, R6 x.B x.hs 1 (ev x.σ b) = some (ys.length, ys.map bE, c) ∧ c) (hmax : n + ys.length ≤ 140737488355328)
  (hk : ∀ l', lOk [.int .u8 0] (n + ys.length) l' → Next C Q st { σ := put x.σ o.dst (lE x.n (n + ys.length) l'), n := x.n + 1, hs := (x.n, lO T ((xs ++ ys).map bE) l') :: (r, none) :: x.hs, B := x.B, ms := x.ms }) : opS C Q o st x := by
 obtain ⟨c, h1, h2⟩ := hsrc
 refine Au0 (zs := [.int .u8 0]) (xs := xs.map bE) (news := ys.map bE) r n hop ht ht2 hz hcz (by simp) hz8 ha rfl hg hl (by simp [hn]) (A7 0 _) h1 h2 (Aw4 _) (by simp only [maxLen]; omega) (by rw [hb1]; omega) (fun l' hl' => ?_)
 have := hk l' hl'
 rwa [List.map_append] at this
theorem Ac3 {C : Cx} {Q : Exit → X → Prop} {ops : List Oper} {st : List It} {acc : List Nd} {i : Nat} {o : Oper} {ord : List Nat} {x : X} {ta : Nat} {tb : Nat} {t t2 T : TypeId} (d r n : Nat) {l : Lst} {xs : List UInt8} (ys : List UInt8) (fb : List Nat)
  (hop : o.op = .call { callee := .builtin .append, args := #[.tmp ta, .tmp tb], argTypes := #[t, t2] }) (hdst : o.dst = some d)
  (ht : C.P.underlying t = some (.slice T)) (ht2 : (∃ e', C.P.underlying t2 = some (.slice e')) ∨ C.P.underlying t2 = some .string)
  (hz : G5 C.P T = some [.int .u8 0]) (hcz : C.P.cellsOf T = 1) (hb1 : C.P.bytesOf T = 1)
  (hn : xs.length = n) (ha : G2 x.σ ta = lE r n l) (hg : hget x.hs r = lO T (xs.map bE) l) (hl : lOk [.int .u8 0] n l)
  (hsrc : ∀ B hs, BExt x.B B → (∀ i ∈ fb, hget hs i = hget x.hs i) → ∃ c, R6 B hs 1 (G2 x.σ tb) = some (ys.length, ys.map bE, c) ∧ c)
  (hmax : n + ys.length ≤ 140737488355328) (hold : C.olds.length ≤ 100000 + d) (hdep : Bd6 ops [i] ord = true)
  (hck : Ck ((i, o, { dst := o.dst, v := .any, ups := [(100000 + d, none), (r, none)], a := 0, looks := [ta, tb] ++ F7 ops o.guard, foot := r :: fb, nm := [100000 + d] }, true) :: acc).reverse)
  (hk : ∀ l', lOk [.int .u8 0] (n + ys.length) l' → DT C Q ops st ((i, o, { dst := o.dst, v := lE (100000 + d) (n + ys.length) l', ups := [(100000 + d, lO T ((xs ++ ys).map bE) l'), (r, none)], a := 0, looks := [ta, tb] ++ F7 ops o.guard, foot := r :: fb, nm := [100000 + d] }, true) :: acc) ord
   { σ := put x.σ o.dst (lE (100000 + d) (n + ys.length) l'), n := x.n, hs := (100000 + d, lO T ((xs ++ ys).map bE) l') :: (r, none) :: x.hs, B := x.B, ms := x.ms }) : Bo8 C Q ops st acc i o ord x := by
 refine Cs4 (c := True) (zs := [.int .u8 0]) (xs := xs.map bE) (news := ys.map bE) d r n fb hop hdst ht ht2 hz hcz (by simp) hz8 ha rfl hg hl (by simp [hn]) (A7 0 _) hsrc (Aw4 _) (A7 0 _) (by simp only [maxLen]; omega) (by rw [hb1]; omega) hold hdep hck (fun l' hl' => ?_)
 have := hk l' hl'
 rwa [List.map_append] at this
theorem J8 {C : Cx} {Q : Exit → X → Prop} {st : List It} {x : X} (r n : Nat) {l : Lst} {xs : List UInt8} {T : TypeId} (hg : hget x.hs r = lO T (xs.map bE) l) (hn : xs.length = n) (hl : lOk [.int .u8 0] n l) (hms : r ∉ x.ms)
  (hk : ∀ b ad cap B', BExt x.B B' → frz r b (lE r n l) = .raw (.slice ad n cap) → BytesAt B' ad xs → n ≤ cap → Next C Q st ⟨frzσ r b x.σ, x.n, Au5 r b x.hs, B', x.ms⟩) : Next C Q st x := by
 subst hn
 refine As4 r xs.length hg hl (by simp) (A7 0 _) hz8 hms (fun b ad cap B' hE hf hD hso hc => ?_)
 refine hk b ad cap B' hE hf (Ak7 hD hso hc) ?_
 cases l with
 | none => simp only [lE, frz] at hf; have := hl; simp only [lOk] at this; injection hf with hf; injection hf with _ h1 h2; omega
 | some q => obtain ⟨c, z⟩ := q; simp only [lE, frz, ↓reduceIte] at hf; have := hl.1; injection hf with hf; injection hf with _ h1 h2; omega
theorem Aq8 (ρ : Nat → Nat) (l : List EV) (h : A0 0 l) : Z8 ρ l = l := V3 (n := 0) (fun i hi => absurd hi (Nat.not_lt_zero i)) l h
theorem Bt9 (i b : Nat) (k : IntKind) (f : Nat → Int) (n : Nat) : Ag3 i b (C8 k f n) = C8 k f n := I9 _ (A2 _ _ _ _)
theorem Bq0 (ks : List Nat) (m : Nat) (k : IntKind) (f : Nat → Int) (n : Nat) : U9 ks m (C8 k f n) = true := L1 (Nat.zero_le _) _ (A2 0 _ _ _)
theorem Ac7 (ρ : Nat → Nat) (k : IntKind) (f : Nat → Int) (n : Nat) : Z8 ρ (C8 k f n) = C8 k f n := Aq8 _ _ (A2 _ _ _ _)
attribute [go_sem] Bt9 Bq0 Ac7
theorem C1 (r n cap : Nat) (rest : List EV) : lE r n (some (cap, rest)) = .sl r 0 n cap := rfl
theorem H3 (T : TypeId) (xs : List EV) (cap : Nat) (rest : List EV) : lO T xs (some (cap, rest)) = some (.cells (xs ++ rest) T (0, 0)) := rfl
theorem E6 {zs : List EV} {n : Nat} {l : Lst} (h : lOk zs n l) (h0 : 0 < n) : ∃ cap rest, l = some (cap, rest) ∧ n ≤ cap ∧ cap ≤ maxLen ∧ rest.length = (cap - n) * zs.length ∧ ∀ v ∈ rest, v ∈ zs := by
 cases l with
 | none => simp only [lOk] at h; omega
 | some q => exact ⟨q.1, q.2, rfl, h⟩
theorem Bw0 {xs : List UInt8} {rest : List EV} {i : Nat} {v : UInt8} (h : i < xs.length) : (xs.map bE ++ rest).set i (bE v) = (xs.set i v).map bE ++ rest := by
 rw [List.set_append_left _ _ (by simpa using h), List.map_set]
theorem Az6 {xs : List UInt8} {rest : List EV} {i : Nat} (h : i < xs.length) : (xs.map bE ++ rest)[i]? = some (bE (xs.getD i 0)) := by
 rw [List.getElem?_append_left (by simpa using h), List.getElem?_map, List.getD_eq_getElem?_getD, List.getElem?_eq_getElem h]; rfl
theorem Bm9 {xs : List UInt8} {rest : List EV} {i : Nat} {d : EV} (h : i < xs.length) : (xs.map bE ++ rest).getD i d = bE (xs.getD i 0) := by
 rw [List.getD_eq_getElem?_getD, Az6 h]; rfl
end Go.Ew
namespace Go.Ew
open Go RowKit
theorem Ag6 {w : World} {b i : Nat} {cs : Array Value} {T : TypeId} {fr : Nat × Nat} (h : w.heap[b]? = some (.cells cs T fr)) : w.cell? ⟨b, i, none⟩ = cs[i]? := by
 simp [World.cell?, h]
end Go.Ew
namespace Go.Ew
open Go RowKit
mutual
def avB (r : Nat) : EV → Bool
 | .ptr i _ => !(Nat.beq i r)
 | .sl i _ _ _ => !(Nat.beq i r)
 | .mp i => !(Nat.beq i r)
 | .fn _ a b => Cg5 r a && Cg5 r b
 | .agg cs => Cg5 r cs
 | .tup vs => Cg5 r vs
 | .ifc _ v => avB r v
 | _ => true
def Cg5 (r : Nat) : List EV → Bool
 | [] => true
 | v :: vs => avB r v && Cg5 r vs
end
theorem Ct6 {i r : Nat} (h : (!(Nat.beq i r)) = true) : i ≠ r := by
 rintro rfl
 simp at h
mutual
theorem At9 {r : Nat} : ∀ v, avB r v = true → av r v
 | .any, _ => by simp [av]
 | .int _ _, _ => by simp [av]
 | .bool _, _ => by simp [av]
 | .str _, _ => by simp [av]
 | .raw _, _ => by simp [av]
 | .ptr i _, h => by simp only [avB] at h; simp only [av]; exact Ct6 h
 | .sl i _ _ _, h => by simp only [avB] at h; simp only [av]; exact Ct6 h
 | .mp i, h => by simp only [avB] at h; simp only [av]; exact Ct6 h
 | .fn _ a b, h => by simp only [avB, Bool.and_eq_true] at h; simp only [av]; exact ⟨S9 a h.1, S9 b h.2⟩
 | .agg cs, h => by simp only [avB] at h; simp only [av]; exact S9 cs h
 | .tup vs, h => by simp only [avB] at h; simp only [av]; exact S9 vs h
 | .ifc _ v, h => by simp only [avB] at h; simp only [av]; exact At9 v h
theorem S9 {r : Nat} : ∀ l, Cg5 r l = true → avs r l
 | [], _ => by simp [avs]
 | v :: vs, h => by simp only [Cg5, Bool.and_eq_true] at h; simp only [avs]; exact ⟨At9 v h.1, S9 vs h.2⟩
end
def De4 (r : Nat) : Option EObj → Bool
 | none => true
 | some (.cells cs _ _) => Cg5 r cs
 | some (.obj _) => true
def Ct3 (r : Nat) : List (Nat × Option EObj) → Bool
 | [] => true
 | (k, o) :: l => !(Nat.beq k r) && De4 r o && Ct3 r l
def Ct4 (r : Nat) (E : Ef) : Bool := avB r E.v && Ct3 r E.ups
theorem Aw5 {r : Nat} : ∀ {l : List (Nat × Option EObj)}, Ct3 r l = true → ∀ k o, (k, o) ∈ l → k ≠ r ∧ ∀ o', o = some o' → o'.av r
 | [], _, _, _, h => by cases h
 | (k, o) :: l, h, k', o', hm => by
  simp only [Ct3, Bool.and_eq_true] at h
  rcases List.mem_cons.1 hm with e | hm
  ·cases e
   refine ⟨Ct6 h.1.1, fun o' ho => ?_⟩
   subst ho
   cases o' with
   | cells cs T fr => exact S9 cs h.1.2
   | obj o => trivial
  ·exact Aw5 h.2 k' o' hm
theorem Aw6 {r : Nat} {E : Ef} (h : Ct4 r E = true) : E.off r := by
 simp only [Ct4, Bool.and_eq_true] at h
 exact ⟨At9 _ h.1, Aw5 h.2⟩
def Dc3 (p q : Nd) : Bool := (p.2.2.2 || p.2.2.1.nm.all (fun r => I5 q.2.1 p.1 || Ct4 r q.2.2.1)) && q.2.2.1.nm.all (fun r => Ct4 r p.2.2.1)
def Ct5 (p : Nd) : List Nd → Bool
 | [] => true
 | q :: r => Dc3 p q && Ct5 p r
def nmB : List Nd → Bool
 | [] => true
 | p :: r => p.2.2.1.nm.all (fun r' => Nat.ble 100000 r' && Nat.blt r' 200000) && Ct5 p r && nmB r
theorem Aw8 {p : Nd} : ∀ {l : List Nd}, Ct5 p l = true → nmW p l
 | [], _ => trivial
 | q :: r, h => by
  simp only [Ct5, Dc3, Bool.and_eq_true, Bool.or_eq_true, List.all_eq_true] at h
  obtain ⟨⟨h1, h2⟩, h3⟩ := h
  refine ⟨⟨?_, fun r' hr' => Aw6 (h2 r' hr')⟩, Aw8 h3⟩
  rcases h1 with h1 | h1
  ·exact .inl h1
  ·refine .inr fun r' hr' => ?_
   rcases h1 r' hr' with h | h
   ·exact .inl h
   ·exact .inr (Aw6 h)
theorem C3 : ∀ {l : List Nd}, nmB l = true → nmT l
 | [], _ => trivial
 | p :: r, h => by
  simp only [nmB, Bool.and_eq_true, List.all_eq_true] at h
  obtain ⟨⟨h1, h2⟩, h3⟩ := h
  refine ⟨fun r' hr' => ?_, Aw8 h2, C3 h3⟩
  obtain ⟨a, b⟩ := h1 r' hr'
  exact ⟨Nat.le_of_ble_eq_true a, Nat.le_of_ble_eq_true b⟩
end Go.Ew
namespace Go.Ew
open Go RowKit
mutual
theorem Z5 {i b : Nat} : ∀ v, closed i v → frz i b v = v
 | .any, _ | .int _ _, _ | .bool _, _ | .str _, _ | .raw _, _ => rfl
 | .ptr j _, h => by simp only [closed] at h; simp [frz, Nat.ne_of_lt h]
 | .sl j _ _ _, h => by simp only [closed] at h; simp [frz, Nat.ne_of_lt h]
 | .mp j, h => by simp only [closed] at h; simp [frz, Nat.ne_of_lt h]
 | .fn _ a c, h => by simp only [closed] at h; simp [frz, L4 a h.1, L4 c h.2]
 | .agg cs, h => by simp only [closed] at h; simp [frz, L4 cs h]
 | .tup vs, h => by simp only [closed] at h; simp [frz, L4 vs h]
 | .ifc _ v, h => by simp only [closed] at h; simp [frz, Z5 v h]
theorem L4 {i b : Nat} : ∀ l, A0 i l → Ag3 i b l = l
 | [], _ => rfl
 | v :: vs, h => by simp only [A0] at h; simp [Ag3, Z5 v h.1, L4 vs h.2]
end
theorem Ax6 {i b : Nat} (o : EObj) (h : o.closed i) : o.frz i b = o := by
 cases o with
 | cells cs T fr => simp only [EObj.frz, L4 cs h]
 | obj o => rfl
theorem Next.subL {C : Cx} {Q : Exit → X → Prop} {st : List It} {x y : X} (h : Sub C x y) (k : Next C Q st y) : Next C Q st x := fun hst bs a w hr => by
 obtain ⟨bs', hr'⟩ := h bs a w hr
 exact k hst bs' a w hr'
/-- What was just made (name x.n) and is base from now on: the state is as it was, but for what bears its address. -/
theorem Ck5 {C : Cx} {x : X} {bs : Nat → Nat} {a : Act} {w : World} (hr : Rel C x bs a w) {dst : Option Tmp} {v u : EV} {oo : Option EObj} {b : Nat} {B' : Base} (hf : frz x.n b v = u) (hu : closed 0 u) :
  Sub C ⟨frzσ x.n b (put x.σ dst v), x.n + 1, Au5 x.n b ((x.n, oo) :: (x.n, none) :: x.hs), B', x.ms⟩ ⟨put x.σ dst u, x.n, x.hs, B', x.ms⟩ := by
 refine Weak.sub ⟨fun t => .inr ?_, fun i o hi => ?_, fun t => ?_, fun i o hi => ⟨(hr.h.live i o hi).1, hr.h.cl i o hi⟩, ?_, rfl, rfl, hr.t.msin⟩
 ·simp only [tget_frzσ, J3]
  split
  ·exact hf.symm
  ·exact (Z5 _ (hr.t.cl t)).symm
 ·have hlt := (hr.h.live i o hi).1
  simp only [I6, C0, if_neg (show ¬ x.n = i by omega)]
  rw [Ab2, if_neg (by omega), hi]
  exact congrArg some (Ax6 o (hr.h.cl i o hi))
 ·simp only [J3]
  split
  ·exact closed_mono (Nat.zero_le _) _ hu
  ·exact hr.t.cl t
 ·rcases Nat.lt_or_ge x.n C.olds.length with h | h
  ·have := (hr.h.old x.n _ (List.getElem?_eq_getElem h)).2
   omega
  ·exact h
theorem Dl8 {C : Cx} {Q : Exit → X → Prop} {o : Oper} {st : List It} {x : X} {a b : Operand} {t t2 T : TypeId} {m : Nat} {cs : List Value} {zs : List EV} (sz : Nat)
  (hop : o.op = .call { callee := .builtin .append, args := #[a, b], argTypes := #[t, t2] })
  (ht : C.P.underlying t = some (.slice T)) (ht2 : (∃ e', C.P.underlying t2 = some (.slice e')) ∨ C.P.underlying t2 = some .string)
  (hz : G5 C.P T = some zs) (hcz : C.P.cellsOf T = sz) (hsz : zs.length = sz) (hsz0 : 0 < sz) (hz0 : A0 0 zs)
  (ha : ev x.σ a = .raw (.slice none 0 0)) (hsrc : ∃ c, R6 x.B x.hs sz (ev x.σ b) = some (m, cs.map C9, c) ∧ c) (hlen : cs.length = m * sz) (hone : H8 (cs.map C9) = true)
  (hmax : m ≤ maxLen) (hby : m * C.P.bytesOf T ≤ 140737488355328)
  (hk : ∀ ad cap B', BExt x.B B' → CellsAt B' ad cs → m ≤ cap → Next C Q st { σ := put x.σ o.dst (.raw (.slice ad m cap)), n := x.n, hs := x.hs, B := B', ms := x.ms }) : opS C Q o st x := by
 subst hsz
 have hzne : zs ≠ [] := fun h => by rw [h] at hsz0; exact absurd hsz0 (by simp)
 obtain ⟨c, hsrc, hc⟩ := hsrc
 intro hd bs a' w hr
 have hn : hget x.hs x.n = none := by
  cases h : hget x.hs x.n with
  | none => rfl
  | some o => have := (hr.h.live _ _ h).1; omega
 have hms : x.n ∉ x.ms := fun h => by have := hr.t.msin _ h; omega
 have hc0 : A0 0 (cs.map C9) := by
  rw [D8]; intro v hv
  obtain ⟨u, _, rfl⟩ := List.mem_map.1 hv
  exact I7 _ _
 refine Au0 (l := none) (xs := []) x.n 0 hop ht ht2 hz hcz hzne hz0 ha rfl hn rfl (by simp) trivial hsrc hc hone (by simpa using hmax) (by simpa using hby) (fun l' hl' => ?_) hd bs a' w hr
 simp only [Nat.zero_add, List.nil_append] at hl' ⊢
 refine As4 (xs := cs.map C9) (T := T) x.n m (by simp [C0]) hl' (by simpa using hlen) hc0 hz0 hms (fun b ad cap B' hE hf hD hso hcell => ?_)
 refine Next.subL (Ck5 hr hf (by simp [closed])) (hk ad cap B' hE (U3 hD hso (fun h => ?_) hcell ?_) ?_)
 ·subst h; rw [Nat.zero_mul, List.length_eq_zero_iff] at hlen; rw [hlen]; rfl
 ·rw [A9, List.map_map]
  conv => rhs; rw [← List.map_id cs]
  exact List.map_congr_left fun v hv => by simp [J0]
 ·cases l' with
  | none => have h0 : m = 0 := hl'; omega
  | some q => have := hl'.1; simp only [lE, frz, ↓reduceIte] at hf; injection hf with hf; injection hf with _ _ h2; omega
theorem J5 {B : Base} {hs : List (Nat × Option EObj)} {sz j off m cap : Nat} {cs news : List EV} {T : TypeId} {fr : Nat × Nat} (hg : hget hs j = some (.cells cs T fr)) (hcs : (cs.drop off).take (m * sz) = news) : R6 B hs sz (.sl j off m cap) = some (m, news, off + m * sz ≤ cs.length) := by
 simp only [R6, hg, hcs]
end Go.Ew
namespace Go.Ew
open Go RowKit
theorem Below.refl' (B : Nat) (w : World) : Below B w w := ⟨rfl, rfl, rfl, Nat.le_refl _, fun _ _ => rfl⟩
def blen (n : Nat) : Nat := if n = 0 then 0 else n.log2 + 1
theorem blen_le {n k : Nat} : blen n ≤ k ↔ n < 2 ^ k := by
 unfold blen
 by_cases h : n = 0
 ·subst h; simp [Nat.pow_pos]
 ·rw [if_neg h, ← Nat.log2_lt h]; omega
theorem Bw4 {n : Nat} (h : n ≠ 0) : blen n = 1 + blen (n / 2) := by
 have h1 : ∀ k, blen n ≤ k ↔ 1 + blen (n / 2) ≤ k := by
  intro k
  rw [blen_le]
  cases k with
  | zero => simp; omega
  | succ k =>
   have : 1 + blen (n / 2) ≤ k + 1 ↔ n / 2 < 2 ^ k := by rw [← blen_le]; omega
   rw [this, Nat.pow_succ, Nat.div_lt_iff_lt_mul (by omega)]
 have := (h1 (blen n)).1 (Nat.le_refl _)
 have := (h1 (1 + blen (n / 2))).2 (Nat.le_refl _)
 omega
theorem Af8 : ∀ (f x : Nat), x < 2 ^ f → Lib.bitLenAux f x = blen x
 | 0, x, h => by
  have : x = 0 := by simpa using h
  subst this; rfl
 | f + 1, x, h => by
  rw [Lib.bitLenAux]
  by_cases e : x = 0
  ·subst e; simp [blen]
  ·rw [if_neg e, Af8 f (x / 2) (by rw [Nat.div_lt_iff_lt_mul (by omega), ← Nat.pow_succ]; exact h), Bw4 e]
theorem Bw5 {x : Nat} (h : x < 18446744073709551616) : Lib.bitLen x = blen x := Af8 64 x h
theorem At7 {d r s : Nat} (hd : d ≠ 0) (hr : r < 2 ^ s) : blen (d * 2 ^ s + r) = s + blen d := by
 have h1 : ∀ k, blen (d * 2 ^ s + r) ≤ k ↔ s + blen d ≤ k := by
  intro k
  rw [blen_le]
  rcases Nat.lt_or_ge k s with h | h
  ·have hlt : 2 ^ k < 2 ^ s := Nat.pow_lt_pow_right (by omega) h
   have : 1 * 2 ^ s ≤ d * 2 ^ s := Nat.mul_le_mul_right _ (by omega)
   constructor
   ·intro h'; omega
   ·intro h'; omega
  ·obtain ⟨j, rfl⟩ : ∃ j, k = s + j := ⟨k - s, by omega⟩
   have : s + blen d ≤ s + j ↔ d < 2 ^ j := by rw [← blen_le]; omega
   rw [this, Nat.pow_add, Nat.mul_comm (2 ^ s)]
   constructor
   ·intro h'
    have : d * 2 ^ s < 2 ^ j * 2 ^ s := by omega
    exact Nat.lt_of_mul_lt_mul_right this
   ·intro h'
    have : (d + 1) * 2 ^ s ≤ 2 ^ j * 2 ^ s := Nat.mul_le_mul_right _ h'
    rw [Nat.add_mul] at this; omega
 have := (h1 (blen (d * 2 ^ s + r))).1 (Nat.le_refl _)
 have := (h1 (s + blen d)).2 (Nat.le_refl _)
 omega
theorem At8 {n : Nat} (h : n < 18446744073709551616) : blen n ≤ 64 := blen_le.2 (by simpa using h)
end Go.Ew
namespace Go.Ew
open Go RowKit
/-- What v tells, told as a part of the base. -/
def Lays (x : X) (v : EV) (G : EV → Base → Prop) : Prop :=
 ∀ C bs w, HRel C x.B x.n x.hs bs w → ∃ v' D', real bs v = real (fun _ => 0) v' ∧ closed 0 v' ∧ (∀ b, x.B.D b → D' b) ∧ (∀ b, D' b → x.B.D b ∨ ∃ i o, hget x.hs i = some o ∧ b = bs i) ∧ G v' ⟨w, D'⟩
theorem Cp8 {x : X} {v : EV} {G : EV → Base → Prop} (r len : Nat) {l : Lst} {xs zs : List EV} {T : TypeId} (hg : hget x.hs r = lO T xs l) (hl : lOk zs len l) (hx : xs.length = len * zs.length) (hc : A0 0 xs)
  (h : ∀ b ad cap B', BExt x.B B' → frz r b (lE r len l) = .raw (.slice ad len cap) → CellsAt B' ad (A8 (fun _ => 0) xs) → len ≤ cap → closed 0 (frz r b v) ∧ G (frz r b v) B') : Lays x v G := fun C bs w hh => by
 cases l with
 | none =>
  have h0 : len = 0 := hl
  subst h0
  have hx0 : xs = [] := by rw [Nat.zero_mul] at hx; exact List.length_eq_zero_iff.1 hx
  subst hx0
  obtain ⟨h1, h2⟩ := h (bs r) none 0 ⟨w, x.B.D⟩ hh.ext rfl (CellsAt.nil _) (Nat.le_refl _)
  exact ⟨frz r (bs r) v, x.B.D, by rw [← real_frz bs r v]; exact I8 _ _ h1, h1, fun _ h => h, fun _ h => .inl h, h2⟩
 | some p =>
  obtain ⟨cap, rest⟩ := p
  have hg' : hget x.hs r = some (.cells (xs ++ rest) T (0, 0)) := hg
  have hlive := (hh.live r _ hg').2
  simp only [EObj.real] at hlive
  have hE : BExt x.B ⟨w, fun k => x.B.D k ∨ k = bs r⟩ := ⟨fun _ h => .inl h, hh.ext.same, hh.ext.size, hh.ext.os, hh.ext.tape, hh.ext.output⟩
  obtain ⟨h1, h2⟩ := h (bs r) (some ⟨bs r, 0, none⟩) cap ⟨w, fun k => x.B.D k ∨ k = bs r⟩ hE (by simp [lE, frz]) (by
   refine ⟨fun a ha _ => ?_, fun _ => rfl, fun j hj => ?_⟩
   ·cases ha; exact .inr rfl
   ·have e : I0 (some (⟨bs r, 0, none⟩ : Addr)) j = ⟨bs r, j, none⟩ := by
     rw [E8]
     unfold Addr.add
     split
     ·rename_i h0; subst h0; rfl
     ·simp
    have hj' : j < xs.length := by rw [A9] at hj; simpa using hj
    rw [e, Ag6 hlive, List.getElem?_toArray, A9, List.map_append, List.getElem?_append_left (by simpa using hj'), ← A9, D5 bs (fun _ => 0) hc]) hl.1
  refine ⟨frz r (bs r) v, fun k => x.B.D k ∨ k = bs r, by rw [← real_frz bs r v]; exact I8 _ _ h1, h1, fun _ h => .inl h, ?_, h2⟩
  rintro b (hb | rfl)
  ·exact .inl hb
  ·exact .inr ⟨r, _, hg', rfl⟩
theorem Bs5 {x : X} {v : EV} {G : EV → Base → Prop} (r n : Nat) {l : Lst} {xs : List UInt8} {T : TypeId} (hg : hget x.hs r = lO T (xs.map bE) l) (hn : xs.length = n) (hl : lOk [.int .u8 0] n l)
  (h : ∀ b ad cap B', BExt x.B B' → frz r b (lE r n l) = .raw (.slice ad n cap) → BytesAt B' ad xs → n ≤ cap → closed 0 (frz r b v) ∧ G (frz r b v) B') : Lays x v G :=
 Cp8 r n hg hl (by simp [hn]) (A7 0 _) (fun b ad cap B' hB hf hC hc => h b ad cap B' hB hf (by rw [Aq9] at hC; exact hC) hc)
theorem Bu2 {S : Type} {P : Program} {f : FuncId} {fn : Func} {c : Code} {args : List EV} {B : Base} {vf : S → EV} {R : S → Base → Prop} (hE : C6 P f) (hRm : ∀ s B B', BExt B B' → R s B → R s B')
  (hf : P.funcs[f]? = some fn) (hb : fn.body = some c) (hin : C5 fn.ntmps c = true) (hl : args.length ≤ fn.ntmps) (hcl : A0 0 args)
  (h : ∀ B0, BExt B B0 → Next (cxG P fn.ntmps B0.w B0.D []) (Bn4 (cxG P fn.ntmps B0.w B0.D []) fn.results.toList (fun v x => BExt B0 x.B ∧ Lays x v (fun v' B' => ∃ s, v' = vf s ∧ R s B'))) [.c c] ⟨argσ 0 args, 0, [], B0, []⟩) : Does P f args B vf R := by
 refine ⟨hE, hcl, fun B0 hw hlt => ?_⟩
 obtain ⟨w, D⟩ := B0
 simp only at hlt
 have h1 := N4 (C := cxG P fn.ntmps w D []) (B := ⟨w, D⟩) (bs := fun _ => 0) (n := 0) (hs := []) (K := fun v x => BExt ⟨w, D⟩ x.B ∧ Lays x v (fun v' B' => ∃ s, v' = vf s ∧ R s B')) rfl hf hb rfl hin hl
  (by
   have := HRel.startG (P := P) (N := fn.ntmps) (w := w) (D := D) (olds := []) (objs := []) (fun b hb => ⟨hlt b hb, by simp⟩) rfl (by simp) (fun i b o hi => by simp at hi)
   exact ⟨by simp [hget], by simp [hget], by simp [hget], by simp, by simp [hget], this.frame, rfl, rfl, rfl, Nat.le_refl _, by simp [hget], this.frameE, this.apart, Nat.le_refl _, rfl, rfl, rfl⟩) hcl (h ⟨w, D⟩ hw)
 refine h1.mono ?_
 rintro e w' ⟨v, x', bs', rfl, hcv, hr, hE', hL⟩
 obtain ⟨v', D', e1, c1, d1, d2, s, rfl, hR⟩ := hL _ bs' w' hr
 have hlow : ∀ k, k < w.heap.size → ¬ D k ∨ D k := fun k _ => (Classical.em _).symm
 refine ⟨s, fun _ => 0, by rw [e1], c1, ⟨hr.eo.1, fun k hk => ?_, hr.eo.2.1, hr.eo.2.2.1, hr.eo.2.2.2⟩, fun i b hi => by simp at hi, fun i o hi => by simp at hi, fun i j oi oj hi => by simp at hi, ?_⟩
 ·rcases hlow k hk.1 with h | h
  ·exact (hr.frameE k ⟨hk.1, h, by simp⟩).2
  ·exact ((hr.frame k (hE'.D k h)).2).trans (hE'.same k h)
 ·refine hRm s ⟨w', D'⟩ _ ⟨fun b hb => ?_, fun b hb => rfl, Nat.le_refl _, rfl, rfl, rfl⟩ hR
  rcases d2 b hb with hb | ⟨i, o, hi, rfl⟩
  ·have hbw := (hr.frame b hb).1
   rcases Nat.lt_or_ge b w.heap.size with hlt' | hge
   ·rcases hlow _ hlt' with h | h
    ·exact absurd hb (hr.apart b ⟨hlt', h, by simp⟩)
    ·exact .inl h
   ·exact .inr ⟨.inl hge, hbw, by rintro ⟨i, o, hi, _⟩; simp at hi⟩
  ·have hbw := G3 (hr.live i o hi).2
   rcases Nat.lt_or_ge (bs' i) w.heap.size with hlt' | hge
   ·rcases hlow _ hlt' with h | h
    ·exact absurd ⟨hlt', h, by simp⟩ (hr.newE i o hi)
    ·exact .inl h
   ·exact .inr ⟨.inl hge, hbw, by rintro ⟨i, o, hi, _⟩; simp at hi⟩
end Go.Ew
namespace Go.Ew
open Go RowKit
def L5 : Lst → Nat → List Nat
 | none, _ => []
 | some _, b => [b]
/-- It hands back the list ys: in olds, or in a new block. -/
def Ct2 (T : TypeId) (ys : List UInt8) (olds : List Nat) (w : World) (e : Ending) (w' : World) : Prop :=
 ∃ (l' : Lst) (b : Nat), e = .returned (real (fun _ => b) (lE 0 ys.length l')) ∧ lOk [.int .u8 0] ys.length l' ∧ Stay (fun k => k < w.heap.size ∧ k ∉ olds) w w' ∧
  (∀ o, lO T (ys.map bE) l' = some o → w'.heap[b]? = some (o.real (fun _ => 0)) ∧ (w.heap.size ≤ b ∨ b ∈ olds))
/-- f puts ys behind its first argument. -/
structure Apps (P : Program) (f : FuncId) (T : TypeId) (args : List EV) (B : Base) (ys : List UInt8) : Prop where
 en : C6 P f
 cl : A0 0 args
 run : ∀ B0, BExt B B0 → (∀ b, B0.D b → b < B0.w.heap.size) → ∀ (n : Nat) (l : Lst) (xs : List UInt8) (b : Nat), xs.length = n → lOk [.int .u8 0] n l → n + ys.length ≤ 70368744177664 →
  (∀ o, lO T (xs.map bE) l = some o → B0.w.heap[b]? = some (o.real (fun _ => 0)) ∧ ¬ B0.D b) →
  Calls P f (A8 (fun _ => b) (lE 0 n l :: args)).toArray B0.w (Ct2 T (xs ++ ys) (L5 l b) B0.w)
theorem Apps.ext {P : Program} {f : FuncId} {T : TypeId} {args : List EV} {B B' : Base} {ys : List UInt8} (h : Apps P f T args B ys) (e : BExt B B') : Apps P f T args B' ys := ⟨h.en, h.cl, fun B0 hB => h.run B0 (e.trans hB)⟩
theorem Ar4 {T : TypeId} {xs : List UInt8} {n : Nat} {l : Lst} {o : EObj} (hl : lOk [.int .u8 0] n l) (h : lO T (xs.map bE) l = some o) (bs bs' : Nat → Nat) : o.real bs = o.real bs' := by
 have h0 := (J7 (n := 0) hl (A7 0 _) hz8 h).2
 cases o with
 | cells cs T' fr => simp only [EObj.real]; rw [D5 bs bs' h0]
 | obj o => rfl
theorem Cl7 {P : Program} {f : FuncId} {fn : Func} {c : Code} {T : TypeId} {args : List EV} {B : Base} {ys : List UInt8} (hE : C6 P f)
  (hf : P.funcs[f]? = some fn) (hb : fn.body = some c) (hin : C5 fn.ntmps c = true) (hl : args.length + 1 ≤ fn.ntmps) (hcl : A0 0 args)
  (h : ∀ B0, BExt B B0 → ∀ (n : Nat) (l : Lst) (xs : List UInt8) (olds : List Nat), olds.length ≤ 1 → xs.length = n → lOk [.int .u8 0] n l → n + ys.length ≤ 70368744177664 →
   Next (cxG P fn.ntmps B0.w B0.D olds) (Bn4 (cxG P fn.ntmps B0.w B0.D olds) fn.results.toList (fun v x => BExt B0 x.B ∧ ∃ r l', v = lE r (xs.length + ys.length) l' ∧ hget x.hs r = lO T ((xs ++ ys).map bE) l' ∧ lOk [.int .u8 0] (xs.length + ys.length) l')) [.c c] ⟨argσ 0 (lE 0 n l :: args), 1, [(0, lO T (xs.map bE) l)], B0, []⟩) : Apps P f T args B ys := by
 refine ⟨hE, hcl, fun B0 hw hlt n l xs b hn hlo hmax hown => ?_⟩
 obtain ⟨w, D⟩ := B0
 simp only at hlt hown
 have h1 := N4 (C := cxG P fn.ntmps w D (L5 l b)) (B := ⟨w, D⟩) (bs := fun _ => b) (n := 1) (hs := [(0, lO T (xs.map bE) l)]) (args := lE 0 n l :: args) (K := fun v x => BExt ⟨w, D⟩ x.B ∧ ∃ r l', v = lE r (xs.length + ys.length) l' ∧ hget x.hs r = lO T ((xs ++ ys).map bE) l' ∧ lOk [.int .u8 0] (xs.length + ys.length) l') rfl hf hb rfl hin (by simpa using hl)
  (by
   have hg : ∀ i o, hget [(0, lO T (xs.map bE) l)] i = some o → i = 0 ∧ lO T (xs.map bE) l = some o := by
    intro i o hi
    simp only [C0] at hi
    split at hi
    ·rename_i h; exact ⟨h.symm, hi⟩
    ·simp [hget] at hi
   have hin' : ∀ o, lO T (xs.map bE) l = some o → b ∈ L5 l b := fun o ho => by cases l <;> simp [L5, lO] at ho ⊢
   refine ⟨fun i o hi => ?_, fun i o hi => ?_, fun i j oi oj hi hj _ => ?_, fun i b' hi => ?_, fun i o hi => ?_, fun k hk => ⟨hlt k hk, rfl⟩, rfl, rfl, rfl, Nat.le_refl _, fun i o hi he => ?_, fun k hk => ⟨hk.1, rfl⟩, fun k hk => hk.2.1, Nat.le_refl _, rfl, rfl, rfl⟩
   ·obtain ⟨rfl, ho⟩ := hg i o hi
    exact ⟨by omega, by rw [(hown o ho).1]; exact congrArg some (Ar4 hlo ho _ _)⟩
   ·obtain ⟨rfl, ho⟩ := hg i o hi
    exact (J7 hlo (A7 0 _) hz8 ho).1
   ·rw [(hg i oi hi).1, (hg j oj hj).1]
   ·cases l with
    | none => simp [L5] at hi
    | some q =>
     cases i with
     | zero => simp [L5] at hi; exact ⟨hi, by omega⟩
     | succ i => simp [L5] at hi
   ·obtain ⟨rfl, ho⟩ := hg i o hi
    exact (hown o ho).2
   ·obtain ⟨rfl, ho⟩ := hg i o hi
    exact he.2.2 (hin' o ho)) ⟨A4 (by omega), D7 (Nat.zero_le _) _ hcl⟩ (h ⟨w, D⟩ hw n l xs (L5 l b) (by cases l <;> simp [L5]) hn hlo hmax)
 refine h1.mono ?_
 rintro e w' ⟨v, x', bs', rfl, hcv, hr, hE', r, l', rfl, hg, hl'⟩
 have hlow : ∀ k, k < w.heap.size → k ∉ L5 l b → ¬ D k ∨ D k := fun k _ _ => (Classical.em _).symm
 refine ⟨l', bs' r, ?_, by rw [List.length_append]; exact hl', ⟨hr.eo.1, fun k hk => ?_, hr.eo.2.1, hr.eo.2.2.1, hr.eo.2.2.2⟩, fun o ho => ?_⟩
 ·rw [List.length_append]
  congr 1
  cases l' <;> rfl
 ·rcases hlow k hk.1 hk.2 with h | h
  ·exact (hr.frameE k ⟨hk.1, h, hk.2⟩).2
  ·exact ((hr.frame k (hE'.D k h)).2).trans (hE'.same k h)
 ·have hg' : hget x'.hs r = some o := by rw [hg]; exact ho
  refine ⟨by rw [(hr.live r o hg').2]; exact congrArg some (Ar4 hl' ho _ _), ?_⟩
  rcases Nat.lt_or_ge (bs' r) w.heap.size with hlt' | hge
  ·by_cases hm : bs' r ∈ L5 l b
   ·exact .inr hm
   ·rcases hlow _ hlt' hm with h | h
    ·exact absurd ⟨hlt', h, hm⟩ (hr.newE r o hg')
    ·exact absurd (hE'.D _ h) (hr.new r o hg')
  ·exact .inl hge
theorem Bv9 {C : Cx} {K : X → Prop} {f : FuncId} {args : List EV} {dst : Option Tmp} {x : X} {T : TypeId} {ys : List UInt8} (r n : Nat) {l : Lst} {xs : List UInt8} (h : Apps C.P f T args x.B ys) (hg : hget x.hs r = lO T (xs.map bE) l) (hn : xs.length = n) (hl : lOk [.int .u8 0] n l) (hmax : n + ys.length ≤ 70368744177664)
  (hk : ∀ l', lOk [.int .u8 0] (n + ys.length) l' → K { σ := put x.σ dst (lE x.n (n + ys.length) l'), n := x.n + 1, hs := (x.n, lO T ((xs ++ ys).map bE) l') :: (r, none) :: x.hs, B := x.B, ms := x.ms }) : V0 C f (lE r n l :: args) dst x K := by
 refine ⟨h.en, fun bs w hh hcl => ?_⟩
 have hargs : A8 bs (lE r n l :: args) = A8 (fun _ => bs r) (lE 0 n l :: args) := by
  simp only [A8]
  rw [D5 bs (fun _ => bs r) h.cl]
  congr 1
  cases l <;> rfl
 rw [hargs]
 have hlive : ∀ o, lO T (xs.map bE) l = some o → w.heap[bs r]? = some (o.real (fun _ => 0)) ∧ ¬ x.B.D (bs r) := fun o ho => by
  have hg' : hget x.hs r = some o := by rw [hg]; exact ho
  exact ⟨by rw [(hh.live r o hg').2]; exact congrArg some (Ar4 hl ho _ _), hh.new r o hg'⟩
 refine (h.run ⟨w, x.B.D⟩ hh.ext (fun b hb => (hh.frame b hb).1) n l xs (bs r) hn hl hmax hlive).mono ?_
 rintro e w' ⟨l', b, rfl, hl', hst, hnew⟩
 simp only at hst hnew
 have hlen : (xs ++ ys).length = n + ys.length := by rw [List.length_append, hn]
 rw [hlen] at hl'
 have hold : ∀ k, k ∈ L5 l (bs r) → k = bs r ∧ ∃ o, hget x.hs r = some o := by
  intro k hk
  cases l with
  | none => simp [L5] at hk
  | some q => simp [L5] at hk; exact ⟨hk, _, hg⟩
 have hD : ∀ k, k ∈ L5 l (bs r) → ¬ x.B.D k ∧ ¬ C.E k := fun k hk => by
  obtain ⟨rfl, o, ho⟩ := hold k hk
  exact ⟨hh.new r o ho, hh.newE r o ho⟩
 have hkeep : ∀ i o, i ≠ r → hget x.hs i = some o → w'.heap[bs i]? = w.heap[bs i]? ∧ bs i < w.heap.size ∧ bs i ∉ L5 l (bs r) := by
  intro i o hir ho
  have hlt := G3 (hh.live i o ho).2
  have hno : bs i ∉ L5 l (bs r) := fun hm => by
   obtain ⟨h1, o', ho'⟩ := hold _ hm
   exact hir (hh.inj i r o o' ho ho' h1)
  exact ⟨hst.same _ ⟨hlt, hno⟩, hlt, hno⟩
 have hent : ∀ i o, hget ((x.n, lO T ((xs ++ ys).map bE) l') :: (r, none) :: x.hs) i = some o → (i = x.n ∧ lO T ((xs ++ ys).map bE) l' = some o) ∨ (i ≠ x.n ∧ i < x.n ∧ i ≠ r ∧ hget x.hs i = some o) := by
  intro i o hi
  simp only [C0] at hi
  split at hi
  ·rename_i h0; exact .inl ⟨h0.symm, hi⟩
  ·split at hi
   ·cases hi
   ·rename_i h0 h1
    exact .inr ⟨fun h => h0 h.symm, (hh.live i o hi).1, fun h => h1 h.symm, hi⟩
 have hub : ∀ i, i < x.n → upd bs x.n b i = bs i := fun i hi => I2 i hi
 have hun : upd bs x.n b x.n = b := by simp [upd]
 have hbD : ∀ o, lO T ((xs ++ ys).map bE) l' = some o → ¬ x.B.D b ∧ ¬ C.E b := fun o ho => by
  rcases (hnew o ho).2 with h | h
  ·exact ⟨fun hd => by have := (hh.frame b hd).1; omega, fun he => by have := (hh.frameE b he).1; omega⟩
  ·exact hD b h
 refine ⟨lE x.n (n + ys.length) l', x.n + 1, _, x.B, upd bs x.n b, ?_, hub, by omega, A4 (by omega), ?_, hk l' hl'⟩
 ·rw [hlen]
  congr 1
  cases l' with
  | none => rfl
  | some q => simp [lE, real, hun]
 ·refine ⟨fun i o hi => ?_, fun i o hi => ?_, fun i j oi oj hi hj hb => ?_, fun i b' hi => ?_, fun i o hi => ?_, fun k hk => ?_, hst.os.trans hh.os, hst.tape.trans hh.tape, hst.output.trans hh.output, Nat.le_trans hh.hsize hst.size, fun i o hi => ?_, fun k hk => ?_, hh.apart, Nat.le_trans hh.eo.1 hst.size, hst.os.trans hh.eo.2.1, hst.tape.trans hh.eo.2.2.1, hst.output.trans hh.eo.2.2.2⟩
  ·rcases hent i o hi with ⟨rfl, ho⟩ | ⟨_, h1, h2, ho⟩
   ·exact ⟨by omega, by rw [hun, (hnew o ho).1]; exact congrArg some (Ar4 (n := n + ys.length) hl' ho _ _)⟩
   ·refine ⟨by omega, ?_⟩
    rw [hub i h1, (hkeep i o h2 ho).1, (hh.live i o ho).2]
    exact congrArg some (EObj.real_congr (fun j hj => (hub j hj).symm) o (hh.cl i o ho))
  ·rcases hent i o hi with ⟨rfl, ho⟩ | ⟨_, h1, h2, ho⟩
   ·exact (J7 hl' (A7 0 _) hz8 ho).1
   ·exact EObj.closed_mono (by omega) _ (hh.cl i o ho)
  ·rcases hent i oi hi with ⟨rfl, hoi⟩ | ⟨hin, h1, h2, hoi⟩
   ·rcases hent j oj hj with ⟨rfl, _⟩ | ⟨_, k1, k2, hoj⟩
    ·rfl
    ·rw [hun, hub j k1] at hb
     rcases (hnew oi hoi).2 with h | h
     ·have := (hkeep j oj k2 hoj).2.1; omega
     ·rw [hb] at h; exact absurd h (hkeep j oj k2 hoj).2.2
   ·rcases hent j oj hj with ⟨rfl, hoj⟩ | ⟨_, k1, k2, hoj⟩
    ·rw [hun, hub i h1] at hb
     rcases (hnew oj hoj).2 with h | h
     ·have := (hkeep i oi h2 hoi).2.1; omega
     ·rw [← hb] at h; exact absurd h (hkeep i oi h2 hoi).2.2
    ·rw [hub i h1, hub j k1] at hb
     exact hh.inj i j oi oj hoi hoj hb
  ·obtain ⟨h1, h2⟩ := hh.old i b' hi
   exact ⟨by rw [hub i h2, h1], by omega⟩
  ·rcases hent i o hi with ⟨rfl, ho⟩ | ⟨_, h1, h2, ho⟩
   ·rw [hun]; exact (hbD o ho).1
   ·rw [hub i h1]; exact hh.new i o ho
  ·obtain ⟨h1, h2⟩ := hh.frame k hk
   have hno : k ∉ L5 l (bs r) := fun hm => (hD k hm).1 hk
   exact ⟨Nat.lt_of_lt_of_le h1 hst.size, (hst.same k ⟨h1, hno⟩).trans h2⟩
  ·rcases hent i o hi with ⟨rfl, ho⟩ | ⟨_, h1, h2, ho⟩
   ·rw [hun]; exact (hbD o ho).2
   ·rw [hub i h1]; exact hh.newE i o ho
  ·obtain ⟨h1, h2⟩ := hh.frameE k hk
   have hno : k ∉ L5 l (bs r) := fun hm => (hD k hm).2 hk
   exact ⟨Nat.lt_of_lt_of_le h1 hst.size, (hst.same k ⟨h1, hno⟩).trans h2⟩
theorem W2 {C : Cx} {Q : Exit → X → Prop} {f : FuncId} {args : List EV} {dst : Option Tmp} {st : List It} {x : X} {T : TypeId} {ys : List UInt8} (r n : Nat) {l : Lst} {xs : List UInt8} (h : Apps C.P f T args x.B ys) (hg : hget x.hs r = lO T (xs.map bE) l) (hn : xs.length = n) (hl : lOk [.int .u8 0] n l) (hmax : n + ys.length ≤ 70368744177664)
  (hk : ∀ l', lOk [.int .u8 0] (n + ys.length) l' → Next C Q st { σ := put x.σ dst (lE x.n (n + ys.length) l'), n := x.n + 1, hs := (x.n, lO T ((xs ++ ys).map bE) l') :: (r, none) :: x.hs, B := x.B, ms := x.ms }) : W3 C Q f (lE r n l :: args) dst st x :=
 fun _ => .inr (Bv9 r n h hg hn hl hmax hk)
end Go.Ew
namespace Go.Ew
open Go RowKit
theorem HRel.give {C : Cx} {B : Base} {n : Nat} {hs : List (Nat × Option EObj)} {bs : Nat → Nat} {w : World} (h : HRel C B n hs bs w) {j : Nat} {o : EObj} (hj : hget hs j = some o) : HRel C ⟨w, fun k => B.D k ∨ k = bs j⟩ n ((j, none) :: hs) bs w := by
 have hk : ∀ i o', hget ((j, none) :: hs) i = some o' → i ≠ j ∧ hget hs i = some o' := by
  intro i o' hi
  simp only [C0] at hi
  split at hi
  ·cases hi
  ·rename_i h0; exact ⟨fun h => h0 h.symm, hi⟩
 refine ⟨fun i o' hi => h.live i o' (hk i o' hi).2, fun i o' hi => h.cl i o' (hk i o' hi).2, fun i k oi ok hi hk' hb => h.inj i k oi ok (hk i oi hi).2 (hk k ok hk').2 hb, h.old, fun i o' hi hD => ?_, fun k hD => ?_, rfl, rfl, rfl, Nat.le_refl _, fun i o' hi => h.newE i o' (hk i o' hi).2, h.frameE, fun k hE hD => ?_, h.eo⟩
 ·rcases hD with hD | hD
  ·exact h.new i o' (hk i o' hi).2 hD
  ·exact (hk i o' hi).1 (h.inj i j o' o (hk i o' hi).2 hj hD)
 ·rcases hD with hD | rfl
  ·exact ⟨(h.frame k hD).1, rfl⟩
  ·exact ⟨G3 (h.live j o hj).2, rfl⟩
 ·rcases hD with hD | rfl
  ·exact h.apart k hE hD
  ·exact h.newE j o hj hE
theorem Bb9 {C : Cx} {B : Base} {n : Nat} {hs : List (Nat × Option EObj)} {bs : Nat → Nat} {w : World} (hh : HRel C B n hs bs w) {j off m : Nat} {cs : List EV} {T : TypeId} {fr : Nat × Nat} {xs : List UInt8}
  (hg : hget hs j = some (.cells cs T fr)) (hcs : (cs.drop off).take m = xs.map bE) (D : Nat → Prop) (hD : D (bs j)) : BytesAt ⟨w, D⟩ (some ⟨bs j, off, none⟩) xs := by
 have hlive := (hh.live j _ hg).2
 simp only [EObj.real] at hlive
 refine ⟨?_, fun _ => rfl, fun i hi => ?_⟩
 ·intro a ha _
  cases ha
  exact hD
 ·have e : I0 (some (⟨bs j, off, none⟩ : Addr)) i = ⟨bs j, off + i, none⟩ := by
   rw [E8]
   unfold Addr.add
   split
   ·rename_i h0; subst h0; rfl
   ·simp
  have hi' : i < xs.length := by simpa using hi
  have e3 : cs[off + i]? = (xs.map bE)[i]? := by
   have h3 := congrArg (fun l => l[i]?) hcs
   simp only [List.getElem?_take, List.getElem?_drop] at h3
   split at h3
   ·exact h3
   ·rw [List.getElem?_eq_getElem (by simpa using hi')] at h3; cases h3
  rw [e, Ag6 hlive, List.getElem?_toArray, A9, List.getElem?_map, e3, ← List.getElem?_map, ← A9, Aq9]
theorem Bv6 {C : Cx} {K : X → Prop} {f : FuncId} {dst : Option Tmp} {x : X} {S : Type} {vf : S → EV} {R : S → Base → Prop} {args : List EV} (j off n cap : Nat) (as : List EV) (xs : List UInt8) {cs : List EV} {T : TypeId} {fr : Nat × Nat} (hE : C6 C.P f) (hcl : A0 0 as)
  (hargs : args = as ++ [.sl j off n cap]) (hg : hget x.hs j = some (.cells cs T fr)) (hcs : (cs.drop off).take n = xs.map bE) (hv : ∀ s, closed 0 (vf s))
  (h : ∀ B ad cap, BExt x.B B → BytesAt B ad xs → Does C.P f (as ++ [.raw (.slice ad n cap)]) B vf R)
  (hk : ∀ s B', BExt x.B B' → R s B' → K { σ := put x.σ dst (vf s), n := x.n, hs := (j, none) :: x.hs, B := B', ms := x.ms }) : V0 C f args dst x K := by
 subst hargs
 refine ⟨hE, fun bs w hh hcla => ?_⟩
 have hh2 := hh.give hg
 have hb := Bb9 hh hg hcs (fun k => x.B.D k ∨ k = bs j) (.inr rfl)
 have e0 : A8 bs (as ++ [.sl j off n cap]) = A8 bs (as ++ [.raw (.slice (some ⟨bs j, off, none⟩) n cap)]) := by
  rw [A9, A9, List.map_append, List.map_append]; rfl
 rw [e0]
 have hB : BExt x.B ⟨w, fun k => x.B.D k ∨ k = bs j⟩ := ⟨fun _ h => .inl h, hh.ext.same, hh.ext.size, hh.ext.os, hh.ext.tape, hh.ext.output⟩
 have hd := h ⟨w, fun k => x.B.D k ∨ k = bs j⟩ (some ⟨bs j, off, none⟩) cap hB hb
 have := (Ak6 (C := C) (K := K) (dst := dst) (x := { x with hs := (j, none) :: x.hs, B := ⟨w, fun k => x.B.D k ∨ k = bs j⟩ }) hd (BExt.refl _) hv (fun s B' hB' hR => hk s B' (hB.trans hB') hR)).2 bs w hh2 (D7 (Nat.zero_le _) _ hd.cl)
 exact this
theorem Ac2 {C : Cx} {Q : Exit → X → Prop} {f : FuncId} {dst : Option Tmp} {st : List It} {x : X} {S : Type} {vf : S → EV} {R : S → Base → Prop} {args : List EV} (j off n cap : Nat) (as : List EV) (xs : List UInt8) {cs : List EV} {T : TypeId} {fr : Nat × Nat} (hE : C6 C.P f) (hcl : A0 0 as)
  (hargs : args = as ++ [.sl j off n cap]) (hg : hget x.hs j = some (.cells cs T fr)) (hcs : (cs.drop off).take n = xs.map bE) (hv : ∀ s, closed 0 (vf s))
  (h : ∀ B ad cap, BExt x.B B → BytesAt B ad xs → Does C.P f (as ++ [.raw (.slice ad n cap)]) B vf R)
  (hk : ∀ s B', BExt x.B B' → R s B' → Next C Q st { σ := put x.σ dst (vf s), n := x.n, hs := (j, none) :: x.hs, B := B', ms := x.ms }) : W3 C Q f args dst st x :=
 fun _ => .inr (Bv6 j off n cap as xs hE hcl hargs hg hcs hv h hk)
theorem Ai3 {C : Cx} {B : Base} {n : Nat} {hs : List (Nat × Option EObj)} {bs : Nat → Nat} {w : World} (hh : HRel C B n hs bs w) {j off : Nat} {cs : List EV} {T : TypeId} {fr : Nat × Nat} {vs : List Value}
  (hg : hget hs j = some (.cells cs T fr)) (hcs : (cs.drop off).take vs.length = vs.map C9) (D : Nat → Prop) (hD : D (bs j)) : CellsAt ⟨w, D⟩ (some ⟨bs j, off, none⟩) vs := by
 have hlive := (hh.live j _ hg).2
 simp only [EObj.real] at hlive
 refine ⟨?_, fun _ => rfl, fun i hi => ?_⟩
 ·intro a ha _
  cases ha
  exact hD
 ·have e : I0 (some (⟨bs j, off, none⟩ : Addr)) i = ⟨bs j, off + i, none⟩ := by
   rw [E8]
   unfold Addr.add
   split
   ·rename_i h0; subst h0; rfl
   ·simp
  have e3 : cs[off + i]? = (vs.map C9)[i]? := by
   have h3 := congrArg (fun l => l[i]?) hcs
   simp only [List.getElem?_take, List.getElem?_drop, if_pos hi] at h3
   exact h3
  rw [e, Ag6 hlive, List.getElem?_toArray, A9, List.getElem?_map, e3, List.getElem?_map, List.getElem?_eq_getElem hi]
  simp [J0]
theorem Az5 {C : Cx} {K : X → Prop} {f : FuncId} {dst : Option Tmp} {x : X} {S : Type} {vf : S → EV} {R : S → Base → Prop} {args : List EV} (j off n cap : Nat) (as : List EV) (vs : List Value) {cs : List EV} {T : TypeId} {fr : Nat × Nat} (hE : C6 C.P f)
  (hargs : args = as ++ [.sl j off n cap]) (hg : hget x.hs j = some (.cells cs T fr)) (hcs : (cs.drop off).take vs.length = vs.map C9) (hv : ∀ s, closed 0 (vf s))
  (h : ∀ B ad cap, BExt x.B B → CellsAt B ad vs → Does C.P f (as ++ [.raw (.slice ad n cap)]) B vf R)
  (hk : ∀ s B', BExt x.B B' → R s B' → K { σ := put x.σ dst (vf s), n := x.n, hs := (j, none) :: x.hs, B := B', ms := x.ms }) : V0 C f args dst x K := by
 subst hargs
 refine ⟨hE, fun bs w hh hcla => ?_⟩
 have hh2 := hh.give hg
 have hb := Ai3 hh hg hcs (fun k => x.B.D k ∨ k = bs j) (.inr rfl)
 have e0 : A8 bs (as ++ [.sl j off n cap]) = A8 bs (as ++ [.raw (.slice (some ⟨bs j, off, none⟩) n cap)]) := by
  rw [A9, A9, List.map_append, List.map_append]; rfl
 rw [e0]
 have hB : BExt x.B ⟨w, fun k => x.B.D k ∨ k = bs j⟩ := ⟨fun _ h => .inl h, hh.ext.same, hh.ext.size, hh.ext.os, hh.ext.tape, hh.ext.output⟩
 have hd := h ⟨w, fun k => x.B.D k ∨ k = bs j⟩ (some ⟨bs j, off, none⟩) cap hB hb
 have := (Ak6 (C := C) (K := K) (dst := dst) (x := { x with hs := (j, none) :: x.hs, B := ⟨w, fun k => x.B.D k ∨ k = bs j⟩ }) hd (BExt.refl _) hv (fun s B' hB' hR => hk s B' (hB.trans hB') hR)).2 bs w hh2 (D7 (Nat.zero_le _) _ hd.cl)
 exact this
theorem Az2 {C : Cx} {Q : Exit → X → Prop} {f : FuncId} {dst : Option Tmp} {st : List It} {x : X} {S : Type} {vf : S → EV} {R : S → Base → Prop} {args : List EV} (j off n cap : Nat) (as : List EV) (vs : List Value) {cs : List EV} {T : TypeId} {fr : Nat × Nat} (hE : C6 C.P f)
  (hargs : args = as ++ [.sl j off n cap]) (hg : hget x.hs j = some (.cells cs T fr)) (hcs : (cs.drop off).take vs.length = vs.map C9) (hv : ∀ s, closed 0 (vf s))
  (h : ∀ B ad cap, BExt x.B B → CellsAt B ad vs → Does C.P f (as ++ [.raw (.slice ad n cap)]) B vf R)
  (hk : ∀ s B', BExt x.B B' → R s B' → Next C Q st { σ := put x.σ dst (vf s), n := x.n, hs := (j, none) :: x.hs, B := B', ms := x.ms }) : W3 C Q f args dst st x :=
 fun _ => .inr (Az5 j off n cap as vs hE hargs hg hcs hv h hk)
theorem Ay9 {C : Cx} {Q : Exit → X → Prop} {ops : List Oper} {st : List It} {f : FuncId} {acc : List Nd} {i : Nat} {o : Oper} {ord : List Nat} {x : X} {S : Type} {vf : S → EV} {R : S → Base → Prop} {args : List EV} (j off n cap : Nat) (as : List EV) (vs : List Value) {cs : List EV} {T : TypeId} {fr : Nat × Nat} (hE : C6 C.P f)
  (hargs : args = as ++ [.sl j off n cap]) (hg : hget x.hs j = some (.cells cs T fr)) (hcs : (cs.drop off).take vs.length = vs.map C9) (hv : ∀ s, closed 0 (vf s))
  (h : ∀ B ad cap, BExt x.B B → CellsAt B ad vs → Does C.P f (as ++ [.raw (.slice ad n cap)]) B vf R) (hdep : Bd6 ops [i] ord = true)
  (hck : Ck ((i, o, { dst := o.dst, v := .any, ups := [(j, none)], a := 0, looks := C2 o.op ++ F7 ops o.guard, foot := [j] }, true) :: acc).reverse)
  (hk : L3 C.N ops = true → ∀ s B', BExt x.B B' → R s B' → DT C Q ops st ((i, o, { dst := o.dst, v := vf s, ups := [(j, none)], a := 0, looks := C2 o.op ++ F7 ops o.guard, foot := [j] }, true) :: acc) ord { σ := put x.σ o.dst (vf s), n := x.n, hs := (j, none) :: x.hs, B := B', ms := x.ms }) : Az0 C Q ops st f args acc i o ord x :=
 ⟨false, { dst := o.dst, v := .any, ups := [(j, none)], a := 0, looks := C2 o.op ++ F7 ops o.guard, foot := [j] }, S, fun s => { dst := o.dst, v := vf s, ups := [(j, none)], a := 0, looks := C2 o.op ++ F7 ops o.guard, foot := [j] }, R, fun t h => h,
  fun y hy => .inl (Az5 j off n cap as vs hE hargs (by rw [hy.hs j (by simp)]; exact hg) hcs hv (fun B ad cap hB hC => h B ad cap (hy.B.trans hB) hC) (fun s B' hB hR => ⟨s, B', hB, hR, Alike.rfl' _⟩)), hdep, hck, fun _ => ⟨rfl, rfl, rfl, rfl, rfl, rfl⟩, fun hin s B' hB hR => hk hin s B' hB hR⟩
theorem M4 {B : Base} {b : Nat} {vs : List Value} {T : TypeId} {fr : Nat × Nat} (hD : B.D b) (h : B.w.heap[b]? = some (.cells vs.toArray T fr)) : CellsAt B (some ⟨b, 0, none⟩) vs := by
 refine ⟨fun a ha _ => by cases ha; exact hD, fun _ => rfl, fun j hj => ?_⟩
 have e : I0 (some (⟨b, 0, none⟩ : Addr)) j = ⟨b, j, none⟩ := by
  rw [E8]
  unfold Addr.add
  split
  ·rename_i h0; subst h0; rfl
  ·simp
 rw [e, Ag6 h, List.getElem?_toArray]
end Go.Ew
namespace Go.Ew
open Go RowKit
structure Owns {S : Type} (P : Program) (f : FuncId) (T : TypeId) (zs : List EV) (args : List EV) (B : Base) (nf : S → Nat) (xs : S → List EV) (ls : S → Lst) (R : S → Base → Prop) : Prop where
 en : C6 P f
 cl : A0 0 args
 run : ∀ B0, BExt B B0 → (∀ b, B0.D b → b < B0.w.heap.size) → Calls P f (A8 (fun _ => 0) args).toArray B0.w (fun e w' => ∃ s, Ct0 B0.D [] (lE 0 (nf s) (ls s)) 1 [lO T (xs s) (ls s)] (fun B' => R s B' ∧ lOk zs (nf s) (ls s) ∧ A0 0 (xs s)) B0.w e w')
theorem Cq0 {ρ : Nat → Nat} {T : TypeId} {xs zs : List EV} {len : Nat} {l : Lst} (hl : lOk zs len l) (hx : A0 0 xs) (hz : A0 0 zs) : (lO T xs l).map (EObj.ren ρ) = lO T xs l := by
 cases h : lO T xs l with
 | none => rfl
 | some o =>
  simp only [Option.map_some]
  congr 1
  exact EObj.ren_id (n := 0) (fun i hi => absurd hi (Nat.not_lt_zero i)) o (J7 (n := 0) hl hx hz h).2
theorem Bv7 {C : Cx} {K : X → Prop} {f : FuncId} {args : List EV} {dst : Option Tmp} {x : X} {S : Type} {T : TypeId} {zs : List EV} {nf : S → Nat} {xs : S → List EV} {ls : S → Lst} {R : S → Base → Prop} (h : Owns C.P f T zs args x.B nf xs ls R) (hz : A0 0 zs)
  (hk : ∀ s B', BExt x.B B' → R s B' → lOk zs (nf s) (ls s) → A0 0 (xs s) → K { σ := put x.σ dst (lE x.n (nf s) (ls s)), n := x.n + 1, hs := (x.n, lO T (xs s) (ls s)) :: x.hs, B := B', ms := x.ms }) : V0 C f args dst x K := by
 refine At5 (fun s => lE 0 (nf s) (ls s)) (fun _ => 1) (fun s => [lO T (xs s) (ls s)]) (fun s B' => R s B' ∧ lOk zs (nf s) (ls s) ∧ A0 0 (xs s)) [] h.en (by simp) (by simp) (fun s => ⟨by simp, by simp⟩) (fun bs w hh => ?_) (fun s B' hE hR => ?_)
 ·rw [D5 bs (fun _ => 0) h.cl]
  exact h.run ⟨w, x.B.D⟩ hh.ext (fun b hb => (hh.frame b hb).1)
 ·obtain ⟨h1, h2, h3⟩ := hR
  have := hk s B' hE h1 h2 h3
  have e1 : ren (rho [] x.n) (lE 0 (nf s) (ls s)) = lE x.n (nf s) (ls s) := by rw [Bs8]; rfl
  have e2 : Bf0 (rho [] x.n) 0 [lO T (xs s) (ls s)] x.hs = (x.n, lO T (xs s) (ls s)) :: x.hs := by
   have := Cq0 (ρ := rho [] x.n) (T := T) h2 h3 hz
   cases hc : lO T (xs s) (ls s) with
   | none => rfl
   | some o =>
    rw [hc] at this
    simp only [Option.map_some, Option.some.injEq] at this
    simp only [Bf0, this]
    rfl
  simp only [e1, e2, List.length_nil, Nat.sub_zero]
  exact this
theorem Az3 {C : Cx} {Q : Exit → X → Prop} {f : FuncId} {args : List EV} {dst : Option Tmp} {st : List It} {x : X} {S : Type} {T : TypeId} {zs : List EV} {nf : S → Nat} {xs : S → List EV} {ls : S → Lst} {R : S → Base → Prop} (h : Owns C.P f T zs args x.B nf xs ls R) (hz : A0 0 zs)
  (hk : ∀ s B', BExt x.B B' → R s B' → lOk zs (nf s) (ls s) → A0 0 (xs s) → Next C Q st { σ := put x.σ dst (lE x.n (nf s) (ls s)), n := x.n + 1, hs := (x.n, lO T (xs s) (ls s)) :: x.hs, B := B', ms := x.ms }) : W3 C Q f args dst st x :=
 fun _ => .inr (Bv7 h hz hk)
theorem Cj1 {S : Type} {P : Program} {f : FuncId} {fn : Func} {c : Code} {T : TypeId} {zs : List EV} {args : List EV} {B : Base} {nf : S → Nat} {xs : S → List EV} {ls : S → Lst} {R : S → Base → Prop} (hE : C6 P f) (hRm : ∀ s B B', BExt B B' → R s B → R s B')
  (hf : P.funcs[f]? = some fn) (hb : fn.body = some c) (hin : C5 fn.ntmps c = true) (hl : args.length ≤ fn.ntmps) (hcl : A0 0 args)
  (h : ∀ B0, BExt B B0 → Next (cxG P fn.ntmps B0.w B0.D []) (Bn4 (cxG P fn.ntmps B0.w B0.D []) fn.results.toList (fun v x => BExt B0 x.B ∧ ∃ s, v = lE 0 (nf s) (ls s) ∧ hget x.hs 0 = lO T (xs s) (ls s) ∧ R s x.B ∧ lOk zs (nf s) (ls s) ∧ A0 0 (xs s))) [.c c] ⟨argσ 0 args, 0, [], B0, []⟩) (hz : A0 0 zs) : Owns P f T zs args B nf xs ls R := by
 refine ⟨hE, hcl, fun B0 hw hlt => ?_⟩
 obtain ⟨w, D⟩ := B0
 simp only at hlt
 have h1 := N4 (C := cxG P fn.ntmps w D []) (B := ⟨w, D⟩) (bs := fun _ => 0) (n := 0) (hs := []) (K := fun v x => BExt ⟨w, D⟩ x.B ∧ ∃ s, v = lE 0 (nf s) (ls s) ∧ hget x.hs 0 = lO T (xs s) (ls s) ∧ R s x.B ∧ lOk zs (nf s) (ls s) ∧ A0 0 (xs s)) rfl hf hb rfl hin hl
  (by
   have := HRel.startG (P := P) (N := fn.ntmps) (w := w) (D := D) (olds := []) (objs := []) (fun b hb => ⟨hlt b hb, by simp⟩) rfl (by simp) (fun i b o hi => by simp at hi)
   exact ⟨by simp [hget], by simp [hget], by simp [hget], by simp, by simp [hget], this.frame, rfl, rfl, rfl, Nat.le_refl _, by simp [hget], this.frameE, this.apart, Nat.le_refl _, rfl, rfl, rfl⟩) hcl (h ⟨w, D⟩ hw)
 refine h1.mono ?_
 rintro e w' ⟨v, x', bs', rfl, hcv, hr, hE', s, rfl, hg, hR, hlk, hxs⟩
 have hlow : ∀ k, k < w.heap.size → ¬ D k ∨ D k := fun k _ => (Classical.em _).symm
 have hent : ∀ i o, [lO T (xs s) (ls s)][i]? = some (some o) → i = 0 ∧ hget x'.hs 0 = some o ∧ lO T (xs s) (ls s) = some o := by
  intro i o hi
  cases i with
  | zero => simp at hi; exact ⟨rfl, by rw [hg, hi], hi⟩
  | succ i => simp at hi
 refine ⟨s, bs', rfl, A4 (by omega), ⟨hr.eo.1, fun k hk => ?_, hr.eo.2.1, hr.eo.2.2.1, hr.eo.2.2.2⟩, fun i b hi => by simp at hi, fun i o hi => ?_, fun i j oi oj hi hj _ => by rw [(hent i oi hi).1, (hent j oj hj).1], hRm s x'.B _ ⟨fun b hb => ?_, fun b hb => (hr.frame b hb).2, hr.hsize, hr.os, hr.tape, hr.output⟩ hR, hlk, hxs⟩
 ·rcases hlow k hk.1 with h | h
  ·exact (hr.frameE k ⟨hk.1, h, by simp⟩).2
  ·exact ((hr.frame k (hE'.D k h)).2).trans (hE'.same k h)
 ·obtain ⟨rfl, h1, h2⟩ := hent i o hi
  refine ⟨(J7 hlk hxs hz h2).1, (hr.live 0 o h1).2, .inl ?_⟩
  rcases Nat.lt_or_ge (bs' 0) w.heap.size with hlt' | hge
  ·rcases hlow _ hlt' with h | h
   ·exact absurd ⟨hlt', h, by simp⟩ (hr.newE 0 o h1)
   ·exact absurd (hE'.D _ h) (hr.new 0 o h1)
  ·exact hge
 ·have hbw := (hr.frame b hb).1
  have hnn : ¬ Bl2 bs' [lO T (xs s) (ls s)] b := by
   rintro ⟨i, o, hi, rfl⟩
   obtain ⟨rfl, h1, _⟩ := hent i o hi
   exact hr.new 0 o h1 hb
  rcases Nat.lt_or_ge b w.heap.size with hlt' | hge
  ·rcases hlow _ hlt' with h | h
   ·exact absurd hb (hr.apart b ⟨hlt', h, by simp⟩)
   ·exact .inl h
  ·exact .inr ⟨.inl hge, hbw, hnn⟩
end Go.Ew
namespace Go.Ew
open Go RowKit
mutual
theorem Ap0 {r : Nat} : ∀ v, closed 0 v → av r v
 | .any, _ | .int _ _, _ | .bool _, _ | .str _, _ | .raw _, _ => by simp [av]
 | .ptr i _, h => by simp [closed] at h
 | .sl i _ _ _, h => by simp [closed] at h
 | .mp i, h => by simp [closed] at h
 | .fn _ a c, h => by simp only [closed] at h; simp only [av]; exact ⟨M8 a h.1, M8 c h.2⟩
 | .agg cs, h => by simp only [closed] at h; simp only [av]; exact M8 cs h
 | .tup vs, h => by simp only [closed] at h; simp only [av]; exact M8 vs h
 | .ifc _ v, h => by simp only [closed] at h; simp only [av]; exact Ap0 v h
theorem M8 {r : Nat} : ∀ l, A0 0 l → avs r l
 | [], _ => by simp [avs]
 | v :: vs, h => by simp only [A0] at h; simp only [avs]; exact ⟨Ap0 v h.1, M8 vs h.2⟩
end
theorem Ck0 {T : TypeId} {xs zs : List EV} {len : Nat} {l : Lst} (hl : lOk zs len l) (hx : A0 0 xs) (hz : A0 0 zs) : ∀ o', lO T xs l = some o' → ∀ r, o'.av r := fun o' ho r => by
 have h0 := (J7 (n := 0) hl hx hz ho).2
 cases o' with
 | cells cs T' fr => exact M8 cs h0
 | obj o => trivial
end Go.Ew
namespace Go.Ew
open Go RowKit
theorem Bg9 {C : Cx} {Q : Exit → X → Prop} {o : Oper} {st : List It} {x : X} {T : TypeId} (hop : o.op = .makeMap T none)
  (hk : Next C Q st { σ := put x.σ o.dst (.mp x.n), n := x.n + 1, hs := (x.n, some (.obj (.map #[] 0))) :: x.hs, B := x.B, ms := x.ms }) : opS C Q o st x := by
 intro hd bs ac w hr Q'
 obtain ⟨dst, op, type, pos, after, guard⟩ := o
 simp only at hop hd hk; subst hop
 refine ⟨fun _ _ => trivial, ?_⟩
 rw [Oper.semAt_eq _ _ _ (by intro c; simp)]
 have hrun : (execOp ac.eval { dst := dst, op := .makeMap T none, type := type, pos := pos, after := after, guard := guard }).run C.P w = .ok (.value (real (upd bs x.n w.heap.size) (.mp x.n))) { w with heap := w.heap.push ((EObj.obj (.map #[] 0)).real bs) } := by
  simp [execOp, Instr.makeMap, newObj, Sem.run, real, E7, EObj.real]
 rw [hrun]
 exact ⟨_, upd bs x.n w.heap.size, ⟨hr.t.next (Nat.le_succ _) I2 hd (.inr rfl) (by simp [closed]), hr.h.alloc (.obj (.map #[] 0)) trivial⟩, hk⟩
/-- What an Bm1 more makes of a map. -/
def Bx6 (es : Array MapEntry) (clock : Nat) (K V : Value) (es' : Array MapEntry) : Prop :=
 ((∀ e ∈ es.toList, e.key ≠ K) ∧ es'.toList = es.toList ++ [⟨K, V, clock⟩]) ∨ ∃ j e, es.toList[j]? = some e ∧ e.key = K ∧ es'.toList = es.toList.set j ⟨K, V, e.born⟩
def Al5 (P : Program) (kt : TypeId) (es : Array MapEntry) : Prop := ∀ e ∈ es.toList, ∃ l, keyOf P kt e.key = some l
theorem Ad4 {es : Array MapEntry} {j : Nat} {e : MapEntry} (f : MapEntry → MapEntry) (h : es[j]? = some e) : (es.modify j f).toList = es.toList.set j (f e) := by
 apply List.ext_getElem?
 intro q
 rw [Array.getElem?_toList, Array.getElem?_modify, List.getElem?_set]
 have hj : j < es.toList.length := by
  rcases Nat.lt_or_ge j es.size with h1 | h1
  ·simpa using h1
  ·rw [Array.getElem?_eq_none h1] at h; cases h
 by_cases hq : j = q
 ·subst hq; simp [h, hj]; exact hj
 ·simp [hq]
theorem Bk7 {P : Program} {w : World} {b : Nat} {t kt et : TypeId} {es : Array MapEntry} {clock : Nat} {K V : Value} {kl : Lit} (L : WideMaps.KeyLaw P kt) (ht : P.underlying t = some (.map kt et)) (hb : w.heap[b]? = some (.map es clock)) (hes : Al5 P kt es) (hK : keyOf P kt K = some kl) :
  ∃ es' clock', (Instr.mapUpdate t (.map (some b)) K V).run P w = .ok () (J1 w b (.map es' clock')) ∧ Bx6 es clock K V es' := by
 rcases L.find w hK es.toList hes with ⟨h1, h2⟩ | ⟨j, e0, h1, h2, h3⟩
 ·refine ⟨es.push ⟨K, V, clock⟩, clock + 1, ?_, .inl ⟨h2, by simp⟩⟩
  simp [Instr.mapUpdate, run_underlying _ _ _ _ ht, MapKept.run_getObj_map hb, L.check w false hK, h1, MapKept.run_setObj_map _ hb, Result.andThen, J1]
 ·have hj : es[j]? = some e0 := by simpa using h2
  refine ⟨es.modify j (fun e' => { e' with key := K, val := V }), clock, ?_, .inr ⟨j, e0, h2, h3, by rw [Ad4 _ hj]⟩⟩
  simp [Instr.mapUpdate, run_underlying _ _ _ _ ht, MapKept.run_getObj_map hb, L.check w false hK, h1, hj, h3, L.stays w hK, MapKept.run_setObj_map _ hb, Result.andThen, J1]
theorem Cj7 {C : Cx} {Q : Exit → X → Prop} {o : Oper} {st : List It} {x : X} {t kt et : TypeId} {m k v : Operand} (i : Nat) {es : Array MapEntry} {clock : Nat} {K V : Value} {kl : Lit} (hop : o.op = .mapUpdate t m k v) (L : WideMaps.KeyLaw C.P kt)
  (ht : C.P.underlying t = some (.map kt et)) (hm : ev x.σ m = .mp i) (hkn : (ev x.σ k).isAny = false) (hvn : (ev x.σ v).isAny = false) (hKr : ∀ bs, real bs (ev x.σ k) = K) (hVr : ∀ bs, real bs (ev x.σ v) = V)
  (hg : hget x.hs i = some (.obj (.map es clock))) (hes : Al5 C.P kt es) (hK : keyOf C.P kt K = some kl)
  (hk : ∀ es' clock', Bx6 es clock K V es' → Next C Q st { σ := put x.σ o.dst (.tup []), n := x.n, hs := (i, some (.obj (.map es' clock'))) :: x.hs, B := x.B, ms := x.ms }) : opS C Q o st x := by
 intro hd bs ac w hr Q'
 obtain ⟨dst, op, type, pos, after, guard⟩ := o
 simp only at hop hd hk; subst hop
 have em := D0 hr.t m (by rw [hm]; simp)
 have ek := D0 hr.t k (by intro e; rw [e] at hkn; simp [EV.isAny] at hkn)
 have ee := D0 hr.t v (by intro e; rw [e] at hvn; simp [EV.isAny] at hvn)
 rw [hm] at em; rw [hKr] at ek; rw [hVr] at ee
 have hlive := (hr.h.live i _ hg).2
 simp only [EObj.real] at hlive
 obtain ⟨es', clock', h1, h2⟩ := Bk7 (V := V) L ht hlive hes hK
 refine ⟨fun _ _ => trivial, ?_⟩
 rw [Oper.semAt_eq _ _ _ (by intro c; simp)]
 have hrun : (execOp ac.eval { dst := dst, op := .mapUpdate t m k v, type := type, pos := pos, after := after, guard := guard }).run C.P w = .ok .skip (J1 w (bs i) ((EObj.obj (.map es' clock')).real bs)) := by
  simp only [execOp, em, ek, ee, real, Sem.run_bind, h1, Result.andThen_ok, Sem.run_pure, EObj.real]
 rw [hrun]
 exact ⟨_, bs, ⟨hr.t.next (Nat.le_refl _) (fun _ _ => rfl) hd (v := .tup []) (.inr (by simp [real, A8, undef])) (by simp [closed, A0]), hr.h.store hg (.obj (.map es' clock')) trivial⟩, hk es' clock' h2⟩
/-- A map that is read: what it holds. -/
def Cp4 (B : Base) (hs : List (Nat × Option EObj)) (m : EV) (es : Array MapEntry) : Prop :=
 (∃ b clock, m = .raw (.map (some b)) ∧ B.D b ∧ B.w.heap[b]? = some (.map es clock)) ∨ ∃ i clock, m = .mp i ∧ hget hs i = some (.obj (.map es clock))
theorem Bl3 {C : Cx} {x : X} {bs : Nat → Nat} {w : World} {m : EV} {es : Array MapEntry} (hh : HRel C x.B x.n x.hs bs w) (h : Cp4 x.B x.hs m es) : ∃ b clock, real bs m = .map (some b) ∧ w.heap[b]? = some (.map es clock) ∧ m.isAny = false := by
 rcases h with ⟨b, clock, rfl, hD, hb⟩ | ⟨i, clock, rfl, hg⟩
 ·exact ⟨b, clock, rfl, (hh.frame b hD).2.trans hb, rfl⟩
 ·exact ⟨bs i, clock, rfl, (hh.live i _ hg).2, rfl⟩
theorem Bq3 {v : EV} (h : v.isAny = false) : v ≠ .any := by rintro rfl; cases h
theorem Bk8 {P : Program} {w : World} {b : Nat} {t kt et : TypeId} {es : Array MapEntry} {clock : Nat} {K Z : Value} {kl : Lit} (ok : Bool) (L : WideMaps.KeyLaw P kt) (ht : P.underlying t = some (.map kt et)) (hz : (zeroValue et).run P w = .ok Z w) (hb : w.heap[b]? = some (.map es clock)) (hes : Al5 P kt es) (hK : keyOf P kt K = some kl) :
  ((∀ e ∈ es.toList, e.key ≠ K) ∧ (Instr.lookup t (.map (some b)) K ok).run P w = .ok (if ok then .tuple #[Z, .bool false] else Z) w) ∨ ∃ e ∈ es.toList, e.key = K ∧ (Instr.lookup t (.map (some b)) K ok).run P w = .ok (if ok then .tuple #[e.val, .bool true] else e.val) w := by
 rcases L.find w hK es.toList hes with ⟨h1, h2⟩ | ⟨j, e0, h1, h2, h3⟩
 ·exact .inl ⟨h2, by simp [Instr.lookup, run_underlying _ _ _ _ ht, MapKept.run_getObj_map hb, L.check w _ hK, h1, hz, Result.andThen]⟩
 ·exact .inr ⟨e0, List.mem_of_getElem? h2, h3, by simp [Instr.lookup, run_underlying _ _ _ _ ht, MapKept.run_getObj_map hb, L.check w _ hK, h1, Result.andThen]⟩
/-- A look into a map: v answers at every Bm1 that it may find. -/
theorem Bc5 {C : Cx} {Q : Exit → X → Prop} {o : Oper} {st : List It} {x : X} {t kt et : TypeId} {m k : Operand} {es : Array MapEntry} {K : Value} {kl : Lit} (z v : EV) (hop : o.op = .lookup t m k false) (L : WideMaps.KeyLaw C.P kt)
  (ht : C.P.underlying t = some (.map kt et)) (hz : ∀ w, (zeroValue et).run C.P w = .ok (real (fun _ => 0) z) w) (hz0 : closed 0 z) (hv0 : closed 0 v) (hm : Cp4 x.B x.hs (ev x.σ m) es) (hkn : (ev x.σ k).isAny = false) (hKr : ∀ bs, real bs (ev x.σ k) = K)
  (hes : Al5 C.P kt es) (hK : keyOf C.P kt K = some kl) (hno : (∀ e ∈ es.toList, e.key ≠ K) → v = z) (hyes : ∀ e ∈ es.toList, e.key = K → e.val = real (fun _ => 0) v)
  (hk : Next C Q st { σ := put x.σ o.dst v, n := x.n, hs := x.hs, B := x.B, ms := x.ms }) : opS C Q o st x := by
 refine Y2 v (by rw [hop]; simp) (closed_mono (Nat.zero_le _) _ hv0) ?_ hk
 intro bs ac w hr
 obtain ⟨dst, op, type, pos, after, guard⟩ := o
 simp only at hop; subst hop
 obtain ⟨b, clock, h1, h2, h3⟩ := Bl3 hr.h hm
 have em := D0 hr.t m (Bq3 h3)
 have ek := D0 hr.t k (Bq3 hkn)
 rw [h1] at em; rw [hKr] at ek
 have hrun : (Instr.lookup t (.map (some b)) K false).run C.P w = .ok (real bs v) w := by
  rcases Bk8 false L ht (hz w) h2 hes hK with ⟨g1, g2⟩ | ⟨e, g1, g2, g3⟩
  ·rw [g2, hno g1]; simp [I8 bs (fun _ => 0) hz0]
  ·rw [g3, hyes e g1 g2]; simp [I8 bs (fun _ => 0) hv0]
 simp only [execOp, em, ek, Sem.run_bind, hrun, Result.andThen_ok, Sem.run_pure]
end Go.Ew
namespace Go.Ew
open Go RowKit
def Aa3 (l : List UInt8) : ByteArray := L9 (l.map bE)
theorem Aq2 (l : List UInt8) : Aa3 l = ⟨l.toArray⟩ := by
 simp only [Aa3, L9, List.map_map]
 congr 2
 conv => rhs; rw [← List.map_id l]
 exact List.map_congr_left fun b _ => by simp [bE, EV.num]
theorem Bo7 (l : List UInt8) : (Aa3 l).size = l.length := by rw [Aq2]; rfl
theorem Bk1 {C : Cx} {Q : Exit → X → Prop} {o : Oper} {st : List It} {x : X} {s d T : TypeId} {a : Operand} {ad : Option Addr} {cap n : Nat} (l : List UInt8) (hop : o.op = .convert s d a)
  (hs : C.P.underlying s = some (.slice T)) (hT : C.P.underlying T = some (.int .u8)) (hd : C.P.underlying d = some .string) (ha : ev x.σ a = .raw (.slice ad n cap)) (hn : l.length = n) (hb : BytesAt x.B ad l)
  (hk : Next C Q st { σ := put x.σ o.dst (.str (Aa3 l)), n := x.n, hs := x.hs, B := x.B, ms := x.ms }) : opS C Q o st x := by
 subst hn
 obtain ⟨c, h1, h2⟩ := hb.src (cap := cap) x.hs
 exact Cn8 hop hs hT hd ha (fun u => by simp) h1 h2 (by simp [bE, EV.isInt]) hk
theorem Ag2 {C : Cx} {Q : Exit → X → Prop} {ops : List Oper} {st : List It} {acc : List Nd} {i : Nat} {o : Oper} {ord : List Nat} {x : X} {s d T : TypeId} {ta : Nat} {ad : Option Addr} {cap n : Nat} (l : List UInt8) (hop : o.op = .convert s d (.tmp ta))
  (hs : C.P.underlying s = some (.slice T)) (hT : C.P.underlying T = some (.int .u8)) (hd : C.P.underlying d = some .string) (ha : G2 x.σ ta = .raw (.slice ad n cap)) (hn : l.length = n) (hb : BytesAt x.B ad l)
  (hk : L3 C.N ops = true → DT C Q ops st ((i, o, { dst := o.dst, v := .str (Aa3 l), ups := [], a := 0, looks := [ta] ++ F7 ops o.guard, foot := [] }, false) :: acc) ord
   { σ := put x.σ o.dst (.str (Aa3 l)), n := x.n, hs := x.hs, B := x.B, ms := x.ms }) : Bo8 C Q ops st acc i o ord x := by
 intro ho hrun hdi hin
 refine Bh9 (E := { dst := o.dst, v := .str (Aa3 l), ups := [], a := 0, looks := [ta] ++ F7 ops o.guard, foot := [] }) ho hdi
  (Q7 (fun t ht => by simp [ht]) hrun (K := fun y z => Alike z (Ef.app { dst := o.dst, v := .str (Aa3 l), ups := [], a := 0, looks := [ta] ++ F7 ops o.guard, foot := [] } y)) (fun y hy => ?_)) (hk hin)
 refine Aj2 (Bk1 (ad := ad) (cap := cap) l hop hs hT hd ?_ hn (hb.ext hy.B) ?_) hdi
 ·simp only [ev]; rw [hy.σ ta (by simp)]; exact ha
 ·intro _ bs a w hr
  exact ⟨_, bs, hr, rfl, Alike.rfl' _⟩
end Go.Ew
namespace Go.Ew
open Go RowKit
theorem Bg2 {C : Cx} {x : X} (ks : List Nat) (k : Nat) (hnd : ks.Nodup) (hge : ∀ i ∈ ks, k ≤ i) (hold : C.olds.length ≤ k) (hms : ∀ i ∈ x.ms, i < k) : Sub C x ⟨pkσ ks k x.σ, k + ks.length, pkh ks k x.hs, x.B, x.ms⟩ := fun bs a w hr => by
 have h := L0 (Q := fun _ z => z = ⟨pkσ ks k x.σ, k + ks.length, pkh ks k x.hs, x.B, x.ms⟩) (st := []) ks k hnd hge hold hms (fun _ bs a w hr => ⟨_, bs, hr, rfl⟩) trivial bs a w hr
 obtain ⟨z, bs', hr', rfl⟩ := h
 exact ⟨bs', hr'⟩
end Go.Ew
namespace Go.Ew
open Go RowKit
theorem EObj.real_0 {o : EObj} (h : o.closed 0) (bs bs' : Nat → Nat) : o.real bs = o.real bs' := by
 cases o with
 | cells cs T fr => simp only [EObj.real]; rw [D5 bs bs' h]
 | obj o => rfl
end Go.Ew
namespace Go.Ew
open Go RowKit
theorem Cw0 {C : Cx} {Q : Exit → X → Prop} {o : Oper} {st : List It} {x : X} {T e : TypeId} {a : Operand} (v : EV) (hop : o.op = .makeInterface T a) (ht : C.P.underlying T = some (.pointer e))
  (ha : ev x.σ a = v) (hv : v ≠ .any) (hcl : closed x.n v) (hk : Next C Q st { σ := put x.σ o.dst (.ifc T v), n := x.n, hs := x.hs, B := x.B, ms := x.ms }) : opS C Q o st x := by
 refine Y2 (.ifc T v) (by rw [hop]; simp) hcl ?_ hk
 intro bs ac w hr
 obtain ⟨dst, op, type, pos, after, guard⟩ := o
 simp only at hop; subst hop
 have ea := D0 hr.t a (by rw [ha]; exact hv)
 rw [ha] at ea
 simp [execOp, ea, real, Instr.makeInterface, run_underlying _ _ _ _ ht]
theorem Bc2 {C : Cx} {Q : Exit → X → Prop} {o : Oper} {st : List It} {x : X} {T e : TypeId} {a : Operand} {v : Value} (hop : o.op = .makeInterface T a) (ht : C.P.underlying T = some (.pointer e))
  (ha : ev x.σ a = .raw v) (hk : Next C Q st { σ := put x.σ o.dst (.raw (.iface T v)), n := x.n, hs := x.hs, B := x.B, ms := x.ms }) : opS C Q o st x := by
 refine Y2 (.raw (.iface T v)) (by rw [hop]; simp) trivial ?_ hk
 intro bs ac w hr
 obtain ⟨dst, op, type, pos, after, guard⟩ := o
 simp only at hop; subst hop
 have ea := D0 hr.t a (by rw [ha]; simp)
 rw [ha] at ea
 simp [execOp, ea, real, Instr.makeInterface, run_underlying _ _ _ _ ht]
theorem Ap8 {C : Cx} {Q : Exit → X → Prop} {o : Oper} {st : List It} {x : X} {T from' e : TypeId} {a : Operand} {v : Value} (hop : o.op = .typeAssert a from' T true) (ht : C.P.underlying T = some (.pointer e))
  (ha : ev x.σ a = .raw (.iface T v)) (hk : Next C Q st { σ := put x.σ o.dst (.tup [.raw v, .bool true]), n := x.n, hs := x.hs, B := x.B, ms := x.ms }) : opS C Q o st x := by
 refine Y2 (.tup [.raw v, .bool true]) (by rw [hop]; simp) (by simp [closed, A0]) ?_ hk
 intro bs ac w hr
 obtain ⟨dst, op, type, pos, after, guard⟩ := o
 simp only at hop; subst hop
 have ea := D0 hr.t a (by rw [ha]; simp)
 rw [ha] at ea
 simp [execOp, ea, real, A8, Instr.typeAssert, run_underlying _ _ _ _ ht]
theorem Am6 {C : Cx} {Q : Exit → X → Prop} {o : Oper} {st : List It} {x : X} {T T' from' e : TypeId} {a : Operand} {v : Value} (hop : o.op = .typeAssert a from' T true) (ht : C.P.underlying T = some (.pointer e))
  (hz : ∀ w, (zeroValue T).run C.P w = .ok (.pointer none) w) (ha : ev x.σ a = .raw (.iface T' v)) (hne : T' ≠ T) (hk : Next C Q st { σ := put x.σ o.dst (.tup [.raw (.pointer none), .bool false]), n := x.n, hs := x.hs, B := x.B, ms := x.ms }) : opS C Q o st x := by
 refine Y2 (.tup [.raw (.pointer none), .bool false]) (by rw [hop]; simp) (by simp [closed, A0]) ?_ hk
 intro bs ac w hr
 obtain ⟨dst, op, type, pos, after, guard⟩ := o
 simp only at hop; subst hop
 have ea := D0 hr.t a (by rw [ha]; simp)
 rw [ha] at ea
 simp [execOp, ea, real, A8, Instr.typeAssert, run_underlying _ _ _ _ ht, hne, hz]
theorem Ao3 {P : Program} {w : World} {I T : TypeId} {ms : Array (String × TypeId)} {v : Value} (ht : P.underlying I = some (.interface ms)) (d : Nat) : (Op.equalIn (d + 1) I (.iface T v) .nilIface).run P w = .ok false w := by
 rw [Op.equalIn]
 simp only [Sem.run_bind, run_underlying _ _ _ _ ht, Result.andThen_ok]
 rfl
theorem Bd4 {P : Program} {w : World} {I : TypeId} {ms : Array (String × TypeId)} (ht : P.underlying I = some (.interface ms)) (d : Nat) : (Op.equalIn (d + 1) I .nilIface .nilIface).run P w = .ok true w := by
 rw [Op.equalIn]
 simp only [Sem.run_bind, run_underlying _ _ _ _ ht, Result.andThen_ok]
 rfl
theorem Ab8 {C : Cx} {Q : Exit → X → Prop} {o : Oper} {st : List It} {x : X} {I T R : TypeId} {ms : Array (String × TypeId)} {a : Operand} {v : Value} (hop : o.op = .binOp .eql I a (.const .nilIface) R) (ht : C.P.underlying I = some (.interface ms))
  (ha : ev x.σ a = .raw (.iface T v)) (hk : Next C Q st { σ := put x.σ o.dst (.bool false), n := x.n, hs := x.hs, B := x.B, ms := x.ms }) : opS C Q o st x := by
 refine Y2 (.bool false) (by rw [hop]; simp) trivial ?_ hk
 intro bs ac w hr
 obtain ⟨dst, op, type, pos, after, guard⟩ := o
 simp only at hop; subst hop
 have ea := D0 hr.t a (by rw [ha]; simp)
 rw [ha] at ea
 have eb : ac.eval (.const .nilIface) = .nilIface := rfl
 have h1 : eqGuard .eql I a (.const .nilIface) (.iface T v) .nilIface = pure () := rfl
 have h2 : binOp .eql I (.iface T v) .nilIface = (do pure (.bool (← Op.equalIn (9999 + 1) I (.iface T v) .nilIface))) := rfl
 simp only [execOp, ea, eb, real, h1, h2, Sem.run_bind, Sem.run_pure, Result.andThen_ok, Ao3 ht]
theorem As8 {C : Cx} {Q : Exit → X → Prop} {o : Oper} {st : List It} {x : X} {I R : TypeId} {ms : Array (String × TypeId)} {a : Operand} (hop : o.op = .binOp .eql I a (.const .nilIface) R) (ht : C.P.underlying I = some (.interface ms))
  (ha : ev x.σ a = .raw .nilIface) (hk : Next C Q st { σ := put x.σ o.dst (.bool true), n := x.n, hs := x.hs, B := x.B, ms := x.ms }) : opS C Q o st x := by
 refine Y2 (.bool true) (by rw [hop]; simp) trivial ?_ hk
 intro bs ac w hr
 obtain ⟨dst, op, type, pos, after, guard⟩ := o
 simp only at hop; subst hop
 have ea := D0 hr.t a (by rw [ha]; simp)
 rw [ha] at ea
 have eb : ac.eval (.const .nilIface) = .nilIface := rfl
 have h1 : eqGuard .eql I a (.const .nilIface) .nilIface .nilIface = pure () := by
  cases a <;> rfl
 have h2 : binOp .eql I .nilIface .nilIface = (do pure (.bool (← Op.equalIn (9999 + 1) I .nilIface .nilIface))) := rfl
 simp only [execOp, ea, eb, real, h1, h2, Sem.run_bind, Sem.run_pure, Result.andThen_ok, Bd4 ht]
/-- A method of what an interface value holds, without arguments. -/
theorem Dc4 {C : Cx} {Q : Exit → X → Prop} {o : Oper} {st : List It} {x : X} {T : TypeId} {f : FuncId} {r : Operand} {name : String} {ts : Array TypeId} {ad : Option Addr} (hop : o.op = .call { callee := .invoke r name, args := #[], argTypes := ts })
  (ha : ev x.σ r = .raw (.iface T (.pointer ad))) (hm : ∀ w, (method (C.P.types.size + Made.depth) T (.pointer ad) name).run C.P w = .ok (f, .pointer ad) w) (h : W3 C Q f [.raw (.pointer ad)] o.dst st x) : opS C Q o st x := by
 intro hd
 refine Ad9 (by rw [hop]; simp) ?_ hd h
 intro bs ac w hr
 obtain ⟨dst, op, type, pos, after, guard⟩ := o
 simp only at hop; subst hop
 have ea := D0 hr.t r (by rw [ha]; simp)
 rw [ha] at ea
 refine ⟨?_, by simp [A0, closed]⟩
 have hp : ∀ w, (program).run C.P w = .ok C.P w := fun w => rfl
 simp only [execOp, resolve, Sem.run_bind, Sem.run_pure, Result.andThen_ok, ea, real, Array.map_empty, Array.append_empty]
 have h1 : invoke (.fn (.method name) #[]) #[Value.iface T (.pointer ad)] = callMethod (.iface T (.pointer ad)) name #[] := rfl
 first | rw [h1] | skip
 unfold callMethod
 simp only [Sem.run_bind, hp, Result.andThen_ok, hm]
 rfl
/-- A block that was just made, made base, and the interface value of its address. -/
theorem V6 {C : Cx} {Q : Exit → X → Prop} {o : Oper} {st : List It} {x : X} {T e T' : TypeId} {a : Operand} {cs : List EV} {fr : Nat × Nat} (i : Nat) (hop : o.op = .makeInterface T a) (ht : C.P.underlying T = some (.pointer e))
  (ha : ev x.σ a = .ptr i 0) (hg : hget x.hs i = some (.cells cs T' fr)) (hcs : A0 0 cs) (hms : i ∉ x.ms) (hi : i < x.n)
  (hk : ∀ b B', BExt x.B B' → B'.D b → B'.w.heap[b]? = some (.cells (A8 (fun _ => 0) cs).toArray T' fr) → Next C Q st ⟨put (frzσ i b x.σ) o.dst (.raw (.iface T (.pointer (some ⟨b, 0, none⟩)))), x.n, Au5 i b x.hs, B', x.ms⟩) : opS C Q o st x := by
 refine Cw0 (.ptr i 0) hop ht ha (by simp) hi ?_
 refine As3 i hg hcs hms (fun b B' hB hD hH => Next.subL ?_ (hk b B' hB hD hH))
 intro bs a' w hr
 have key : ∀ t, G2 (put (frzσ i b x.σ) o.dst (.raw (.iface T (.pointer (some ⟨b, 0, none⟩))))) t = G2 (frzσ i b (put x.σ o.dst (.ifc T (.ptr i 0)))) t ∨
   (G2 (put (frzσ i b x.σ) o.dst (.raw (.iface T (.pointer (some ⟨b, 0, none⟩))))) t = .raw (.iface T (.pointer (some ⟨b, 0, none⟩))) ∧ G2 (frzσ i b (put x.σ o.dst (.ifc T (.ptr i 0)))) t = .ifc T (.raw (.pointer (some ⟨b, 0, none⟩)))) := by
  intro t
  cases o.dst with
  | none => exact .inl rfl
  | some d =>
   simp only [put, frzσ, I4]
   by_cases h : d = t
   ·right; simp [h, frz]
   ·left; simp [h]
 refine ⟨bs, ⟨⟨hr.t.size, hr.t.defers, hr.t.msin, fun t h => ?_, fun t => ?_⟩, hr.h⟩⟩
 ·rcases key t with e1 | ⟨e1, e2⟩
  ·rw [e1] at h ⊢; exact hr.t.tmps t h
  ·rw [e1]
   have := hr.t.tmps t (by simp only; rw [e2]; simp)
   simp only at this
   rw [e2] at this
   exact this
 ·rcases key t with e1 | ⟨e1, e2⟩
  ·rw [e1]; exact hr.t.cl t
  ·rw [e1]; trivial
end Go.Ew
namespace Go.Ew
open Go RowKit
structure Turn2 {S : Type} (P : Program) (f : FuncId) (args : List EV) (o0 : EObj) (B : Base) (vf : S → EV) (o1 : S → EObj) (R : S → Base → Prop) : Prop where
 en : C6 P f
 cl : A0 0 args
 run : ∀ B0, BExt B B0 → (∀ b, B0.D b → b < B0.w.heap.size) → ∀ b, B0.w.heap[b]? = some (o0.real (fun _ => 0)) → ¬ B0.D b →
  Calls P f (A8 (fun _ => b) (.ptr 0 0 :: args)).toArray B0.w (fun e w' => ∃ s, Ct0 B0.D [b] (vf s) 1 [some (o1 s)] (R s) B0.w e w')
theorem Q3 {S : Type} {P : Program} {f : FuncId} {fn : Func} {c : Code} {args : List EV} {o0 : EObj} {o1 : S → EObj} {B : Base} {vf : S → EV} {R : S → Base → Prop} (hE : C6 P f) (hRm : ∀ s B B', BExt B B' → R s B → R s B')
  (hf : P.funcs[f]? = some fn) (hb : fn.body = some c) (hin : C5 fn.ntmps c = true) (hl : args.length + 1 ≤ fn.ntmps) (hcl : A0 0 args) (ho0 : o0.closed 0) (ho1 : ∀ s, (o1 s).closed 0)
  (h : ∀ B0, BExt B B0 → ∀ b, Next (cxG P fn.ntmps B0.w B0.D [b]) (Bn4 (cxG P fn.ntmps B0.w B0.D [b]) fn.results.toList (fun v x => BExt B0 x.B ∧ ∃ s, v = vf s ∧ closed 0 (vf s) ∧ hget x.hs 0 = some (o1 s) ∧ R s x.B)) [.c c] ⟨argσ 0 (.ptr 0 0 :: args), 1, [(0, some o0)], B0, []⟩) : Turn2 P f args o0 B vf o1 R := by
 refine ⟨hE, hcl, fun B0 hw hlt b hb0 hbD => ?_⟩
 obtain ⟨w, D⟩ := B0
 simp only at hlt hb0 hbD
 have hg : ∀ i o, hget [(0, some o0)] i = some o → i = 0 ∧ o = o0 := by
  intro i o hi
  simp only [C0] at hi
  split at hi
  ·rename_i h; exact ⟨h.symm, (Option.some.inj hi).symm⟩
  ·simp [hget] at hi
 have h1 := N4 (C := cxG P fn.ntmps w D [b]) (B := ⟨w, D⟩) (bs := fun _ => b) (n := 1) (hs := [(0, some o0)]) (args := .ptr 0 0 :: args) (K := fun v x => BExt ⟨w, D⟩ x.B ∧ ∃ s, v = vf s ∧ closed 0 (vf s) ∧ hget x.hs 0 = some (o1 s) ∧ R s x.B) rfl hf hb rfl hin (by simpa using hl)
  (by
   refine ⟨fun i o hi => ?_, fun i o hi => ?_, fun i j oi oj hi hj _ => ?_, fun i b' hi => ?_, fun i o hi => ?_, fun k hk => ⟨hlt k hk, rfl⟩, rfl, rfl, rfl, Nat.le_refl _, fun i o hi he => ?_, fun k hk => ⟨hk.1, rfl⟩, fun k hk => hk.2.1, Nat.le_refl _, rfl, rfl, rfl⟩
   ·obtain ⟨rfl, rfl⟩ := hg i o hi
    exact ⟨by omega, by rw [hb0]; exact congrArg some (EObj.real_0 ho0 _ _)⟩
   ·obtain ⟨rfl, rfl⟩ := hg i o hi
    exact EObj.closed_mono (Nat.zero_le _) _ ho0
   ·rw [(hg i oi hi).1, (hg j oj hj).1]
   ·cases i with
    | zero => simp at hi; exact ⟨hi, by omega⟩
    | succ i => simp at hi
   ·exact hbD
   ·exact he.2.2 (by simp)) ⟨by simp [closed], D7 (Nat.zero_le _) _ hcl⟩ (h ⟨w, D⟩ hw b)
 refine h1.mono ?_
 rintro e w' ⟨v, x', bs', rfl, hcv, hr, hE', s, rfl, hc0, hgo, hR⟩
 have hlow : ∀ k, k < w.heap.size → (¬ D k ∧ k ∉ [b]) ∨ D k ∨ k ∈ [b] := fun k _ => by
  by_cases h1 : D k
  ·exact .inr (.inl h1)
  ·by_cases h2 : k ∈ [b]
   ·exact .inr (.inr h2)
   ·exact .inl ⟨h1, h2⟩
 have hb' : bs' 0 = b := (hr.old 0 b rfl).1
 refine ⟨s, bs', rfl, closed_mono (Nat.zero_le _) _ hc0, ⟨hr.eo.1, fun k hk => ?_, hr.eo.2.1, hr.eo.2.2.1, hr.eo.2.2.2⟩, fun i b1 hi => ?_, fun i o hi => ?_, fun i j oi oj hi hj _ => ?_, ?_⟩
 ·rcases hlow k hk.1 with h | h | h
  ·exact (hr.frameE k ⟨hk.1, h⟩).2
  ·exact ((hr.frame k (hE'.D k h)).2).trans (hE'.same k h)
  ·exact absurd h hk.2
 ·cases i with
  | zero => simp at hi; rw [hb', hi]
  | succ i => simp at hi
 ·cases i with
  | zero =>
   simp only [List.getElem?_cons_zero, Option.some.injEq] at hi
   subst hi
   exact ⟨EObj.closed_mono (Nat.zero_le _) _ (ho1 s), (hr.live 0 _ hgo).2, .inr (by rw [hb']; simp)⟩
  | succ i => simp at hi
 ·cases i with
  | zero => cases j with
   | zero => rfl
   | succ j => simp at hj
  | succ i => simp at hi
 ·refine hRm s x'.B _ ⟨fun b1 hb1 => ?_, fun b1 hb1 => (hr.frame b1 hb1).2, hr.hsize, hr.os, hr.tape, hr.output⟩ hR
  have hbw := (hr.frame b1 hb1).1
  have hnn : ¬ Bl2 bs' [some (o1 s)] b1 := by
   rintro ⟨i, o, hi, rfl⟩
   cases i with
   | zero => exact hr.new 0 _ hgo hb1
   | succ i => simp at hi
  rcases Nat.lt_or_ge b1 w.heap.size with hlt' | hge
  ·rcases hlow _ hlt' with h | h | h
   ·exact absurd hb1 (hr.apart b1 ⟨hlt', h⟩)
   ·exact .inl h
   ·exact .inr ⟨.inr h, hbw, hnn⟩
  ·exact .inr ⟨.inl hge, hbw, hnn⟩
theorem Ag7 {C : Cx} {K : X → Prop} {f : FuncId} {args : List EV} {dst : Option Tmp} {x : X} {S : Type} {B : Base} {o0 : EObj} {o1 : S → EObj} {vf : S → EV} {R : S → Base → Prop} (j : Nat) (h : Turn2 C.P f args o0 B vf o1 R) (hB : BExt B x.B) (hg : hget x.hs j = some o0) (hv : ∀ s, closed 0 (vf s)) (ho0 : o0.closed 0) (ho1 : ∀ s, (o1 s).closed 0)
  (hk : ∀ s B', BExt x.B B' → R s B' → K { σ := put x.σ dst (vf s), n := x.n, hs := (j, some (o1 s)) :: x.hs, B := B', ms := x.ms }) : V0 C f (.ptr j 0 :: args) dst x K := by
 refine At5 vf (fun _ => 1) (fun s => [some (o1 s)]) R [j] h.en (by simp [hg]) (by simp) (fun s => ⟨Nat.le_refl _, Nat.le_refl _⟩) (fun bs w hh => ?_) (fun s B' hE hR => ?_)
 ·have e : A8 bs (.ptr j 0 :: args) = A8 (fun _ => bs j) (.ptr 0 0 :: args) := by
   simp only [A8, real]
   rw [D5 bs (fun _ => bs j) h.cl]
  rw [e]
  exact h.run ⟨w, x.B.D⟩ (hB.trans hh.ext) (fun b hb => (hh.frame b hb).1) (bs j) (by rw [(hh.live j _ hg).2]; exact congrArg some (EObj.real_0 ho0 _ _)) (hh.new j _ hg)
 ·have e1 : ren (rho [j] x.n) (vf s) = vf s := ren_id (n := 0) (fun i hi => absurd hi (Nat.not_lt_zero i)) _ (hv s)
  have e2 : Bf0 (rho [j] x.n) 0 [some (o1 s)] x.hs = (j, some (o1 s)) :: x.hs := by
   simp only [Bf0]
   have r0 : rho [j] x.n 0 = j := Av5 (m := [j]) (by simp)
   have e3 : (o1 s).ren (rho [j] x.n) = o1 s := by
    have ho1s := ho1 s
    generalize o1 s = o1 at ho1s ⊢
    cases o1 with
    | cells cs T fr => simp only [EObj.ren]; rw [V3 (n := 0) (fun i hi => absurd hi (Nat.not_lt_zero i)) _ ho1s]
    | obj o => rfl
   simp [r0, e3]
  rw [e1, e2]
  exact hk s B' hE hR
theorem O9 {C : Cx} {Q : Exit → X → Prop} {f : FuncId} {args : List EV} {dst : Option Tmp} {st : List It} {x : X} {S : Type} {o0 : EObj} {o1 : S → EObj} {vf : S → EV} {R : S → Base → Prop} (j : Nat) (h : Turn2 C.P f args o0 x.B vf o1 R) (hg : hget x.hs j = some o0) (hv : ∀ s, closed 0 (vf s)) (ho0 : o0.closed 0) (ho1 : ∀ s, (o1 s).closed 0)
  (hk : ∀ s B', BExt x.B B' → R s B' → Next C Q st { σ := put x.σ dst (vf s), n := x.n, hs := (j, some (o1 s)) :: x.hs, B := B', ms := x.ms }) : W3 C Q f (.ptr j 0 :: args) dst st x :=
 fun _ => .inr (Ag7 j h (BExt.refl _) hg hv ho0 ho1 hk)
theorem Ac1 {C : Cx} {Q : Exit → X → Prop} {ops : List Oper} {st : List It} {f : FuncId} {args : List EV} {acc : List Nd} {i : Nat} {o : Oper} {ord : List Nat} {x : X} {S : Type} {o0 : EObj} {o1 : S → EObj} {vf : S → EV} {R : S → Base → Prop} (j : Nat) (h : Turn2 C.P f args o0 x.B vf o1 R) (hg : hget x.hs j = some o0) (hv : ∀ s, closed 0 (vf s)) (ho0 : o0.closed 0) (ho1 : ∀ s, (o1 s).closed 0) (hdep : Bd6 ops [i] ord = true)
  (hck : Ck ((i, o, { dst := o.dst, v := .any, ups := [(j, none)], a := 0, looks := C2 o.op ++ F7 ops o.guard, foot := [j] }, true) :: acc).reverse)
  (hk : L3 C.N ops = true → ∀ s B', BExt x.B B' → R s B' → DT C Q ops st ((i, o, { dst := o.dst, v := vf s, ups := [(j, some (o1 s))], a := 0, looks := C2 o.op ++ F7 ops o.guard, foot := [j] }, true) :: acc) ord { σ := put x.σ o.dst (vf s), n := x.n, hs := (j, some (o1 s)) :: x.hs, B := B', ms := x.ms }) : Az0 C Q ops st f (.ptr j 0 :: args) acc i o ord x :=
 ⟨false, { dst := o.dst, v := .any, ups := [(j, none)], a := 0, looks := C2 o.op ++ F7 ops o.guard, foot := [j] }, S, fun s => { dst := o.dst, v := vf s, ups := [(j, some (o1 s))], a := 0, looks := C2 o.op ++ F7 ops o.guard, foot := [j] }, R, fun t h => h,
  fun y hy => .inl (Ag7 j h hy.B (by rw [hy.hs j (by simp)]; exact hg) hv ho0 ho1 (fun s B' hB hR => ⟨s, B', hB, hR, Alike.rfl' _⟩)), hdep, hck, fun _ => ⟨rfl, rfl, rfl, rfl, rfl, rfl⟩, fun hin s B' hB hR => hk hin s B' hB hR⟩
theorem Bv5 {C : Cx} {K : X → Prop} {f : FuncId} {dst : Option Tmp} {x : X} {S : Type} {vf : S → EV} {R : S → Base → Prop} {args : List EV} (j : Nat) (as : List EV) {cs : List EV} {T : TypeId} {fr : Nat × Nat} (hE : C6 C.P f)
  (hargs : args = as ++ [.ptr j 0]) (hg : hget x.hs j = some (.cells cs T fr)) (hcs : A0 0 cs) (hv : ∀ s, closed 0 (vf s))
  (h : ∀ B b, BExt x.B B → B.D b → B.w.heap[b]? = some (.cells (A8 (fun _ => 0) cs).toArray T fr) → Does C.P f (as ++ [.raw (.pointer (some ⟨b, 0, none⟩))]) B vf R)
  (hk : ∀ s B', BExt x.B B' → R s B' → K { σ := put x.σ dst (vf s), n := x.n, hs := (j, none) :: x.hs, B := B', ms := x.ms }) : V0 C f args dst x K := by
 subst hargs
 refine ⟨hE, fun bs w hh hcla => ?_⟩
 have hh2 := hh.give hg
 have hlive := (hh.live j _ hg).2
 simp only [EObj.real] at hlive
 rw [D5 bs (fun _ => 0) hcs] at hlive
 have e0 : A8 bs (as ++ [.ptr j 0]) = A8 bs (as ++ [.raw (.pointer (some ⟨bs j, 0, none⟩))]) := by
  rw [A9, A9, List.map_append, List.map_append]; rfl
 rw [e0]
 have hB : BExt x.B ⟨w, fun k => x.B.D k ∨ k = bs j⟩ := ⟨fun _ h => .inl h, hh.ext.same, hh.ext.size, hh.ext.os, hh.ext.tape, hh.ext.output⟩
 have hd := h ⟨w, fun k => x.B.D k ∨ k = bs j⟩ (bs j) hB (.inr rfl) hlive
 have := (Ak6 (C := C) (K := K) (dst := dst) (x := { x with hs := (j, none) :: x.hs, B := ⟨w, fun k => x.B.D k ∨ k = bs j⟩ }) hd (BExt.refl _) hv (fun s B' hB' hR => hk s B' (hB.trans hB') hR)).2 bs w hh2 (D7 (Nat.zero_le _) _ hd.cl)
 exact this
theorem Az1 {C : Cx} {Q : Exit → X → Prop} {f : FuncId} {dst : Option Tmp} {st : List It} {x : X} {S : Type} {vf : S → EV} {R : S → Base → Prop} {args : List EV} (j : Nat) (as : List EV) {cs : List EV} {T : TypeId} {fr : Nat × Nat} (hE : C6 C.P f)
  (hargs : args = as ++ [.ptr j 0]) (hg : hget x.hs j = some (.cells cs T fr)) (hcs : A0 0 cs) (hv : ∀ s, closed 0 (vf s))
  (h : ∀ B b, BExt x.B B → B.D b → B.w.heap[b]? = some (.cells (A8 (fun _ => 0) cs).toArray T fr) → Does C.P f (as ++ [.raw (.pointer (some ⟨b, 0, none⟩))]) B vf R)
  (hk : ∀ s B', BExt x.B B' → R s B' → Next C Q st { σ := put x.σ dst (vf s), n := x.n, hs := (j, none) :: x.hs, B := B', ms := x.ms }) : W3 C Q f args dst st x :=
 fun _ => .inr (Bv5 j as hE hargs hg hcs hv h hk)
end Go.Ew
namespace Go.Ew
open Go RowKit
structure Gen {S : Type} (P : Program) (f : FuncId) (args : List EV) (obs : List EObj) (B : Base) (vf : S → EV) (nf : S → Nat) (os : S → List (Option EObj)) (R : S → Base → Prop) : Prop where
 en : C6 P f
 cl : A0 obs.length args
 run : ∀ B0, BExt B B0 → (∀ b, B0.D b → b < B0.w.heap.size) → ∀ olds : List Nat, olds.length = obs.length → olds.Nodup → (∀ b ∈ olds, ¬ B0.D b) →
  (∀ (i b : Nat) (o : EObj), olds[i]? = some b → obs[i]? = some o → B0.w.heap[b]? = some (o.real (Ba5 olds))) →
  Calls P f (A8 (Ba5 olds) args).toArray B0.w (fun e w' => ∃ s, Ct0 B0.D olds (vf s) (nf s) (os s) (R s) B0.w e w')
/-- What a walk of such a function is to end in. -/
def Bt8 {S : Type} (k : Nat) (B0 : Base) (vf : S → EV) (nf : S → Nat) (os : S → List (Option EObj)) (R : S → Base → Prop) (v : EV) (x : X) : Prop :=
 BExt B0 x.B ∧ ∃ (s : S) (ρ : Nat → Nat), v = ren ρ (vf s) ∧ closed (nf s) (vf s) ∧ (∀ i, i < k → ρ i = i) ∧
  (∀ i o, (os s)[i]? = some (some o) → o.closed (nf s) ∧ hget x.hs (ρ i) = some (o.ren ρ)) ∧
  (∀ i j oi oj, (os s)[i]? = some (some oi) → (os s)[j]? = some (some oj) → ρ i = ρ j → i = j) ∧ R s x.B
theorem Cq7 {S : Type} {P : Program} {f : FuncId} {fn : Func} {c : Code} {args : List EV} {obs : List EObj} {B : Base} {vf : S → EV} {nf : S → Nat} {os : S → List (Option EObj)} {R : S → Base → Prop} (n0 : Nat) (hs0 : List (Nat × Option EObj)) (hE : C6 P f) (hRm : ∀ s B B', BExt B B' → R s B → R s B')
  (hf : P.funcs[f]? = some fn) (hb : fn.body = some c) (hin : C5 fn.ntmps c = true) (hl : args.length ≤ fn.ntmps) (hcl : A0 obs.length args) (hob : ∀ o ∈ obs, o.closed obs.length) (hn0 : obs.length ≤ n0) (hhs : ∀ i, hget hs0 i = obs[i]?)
  (h : ∀ B0, BExt B B0 → ∀ olds : List Nat, olds.length = obs.length → Next (cxG P fn.ntmps B0.w B0.D olds) (Bn4 (cxG P fn.ntmps B0.w B0.D olds) fn.results.toList (Bt8 obs.length B0 vf nf os R)) [.c c] ⟨argσ 0 args, n0, hs0, B0, []⟩) : Gen P f args obs B vf nf os R := by
 refine ⟨hE, hcl, fun B0 hw hlt olds hol hnd hoD hheap => ?_⟩
 obtain ⟨w, D⟩ := B0
 simp only at hlt hoD hheap
 have H0 := HRel.startG (P := P) (N := fn.ntmps) (w := w) (D := D) (olds := olds) (objs := obs) (fun b hb => ⟨hlt b hb, fun hm => hoD b hm hb⟩) hol.symm hnd
  (fun i b o h1 h2 => ⟨hheap i b o h1 h2, by
   have : o ∈ obs := List.mem_of_getElem? h2
   rw [hol]; exact hob o this⟩)
 have hge : ∀ i, hget hs0 i = hget (Bx8 0 obs) i := fun i => by rw [hhs, Ab1]; simp
 have H : HRel (cxG P fn.ntmps w D olds) ⟨w, D⟩ n0 hs0 (Ba5 olds) w := by
  refine ⟨fun i o hi => ?_, fun i o hi => ?_, fun i j oi oj hi hj => H0.inj i j oi oj (hge i ▸ hi) (hge j ▸ hj), fun i b hi => ?_, fun i o hi => H0.new i o (hge i ▸ hi), H0.frame, H0.os, H0.tape, H0.output, H0.hsize, fun i o hi => H0.newE i o (hge i ▸ hi), H0.frameE, H0.apart, H0.eo⟩
  ·have := H0.live i o (hge i ▸ hi)
   exact ⟨by have := this.1; omega, this.2⟩
  ·exact EObj.closed_mono (by omega) o (H0.cl i o (hge i ▸ hi))
  ·have := H0.old i b hi
   exact ⟨this.1, by have := this.2; omega⟩
 have h1 := N4 (C := cxG P fn.ntmps w D olds) (B := ⟨w, D⟩) (bs := Ba5 olds) (n := n0) (hs := hs0) (args := args) (K := Bt8 obs.length ⟨w, D⟩ vf nf os R) rfl hf hb rfl hin hl H (D7 hn0 _ hcl) (h ⟨w, D⟩ hw olds hol)
 refine h1.mono ?_
 rintro e w' ⟨v, x', bs', rfl, hcv, hr, hE', s, ρ, rfl, hc0, hρk, hos, hinj, hR⟩
 have hlow : ∀ k, k < w.heap.size → (¬ D k ∧ k ∉ olds) ∨ D k ∨ k ∈ olds := fun k _ => by
  by_cases h1 : D k
  ·exact .inr (.inl h1)
  ·by_cases h2 : k ∈ olds
   ·exact .inr (.inr h2)
   ·exact .inl ⟨h1, h2⟩
 refine ⟨s, fun i => bs' (ρ i), by rw [real_ren], hc0, ⟨hr.eo.1, fun k hk => ?_, hr.eo.2.1, hr.eo.2.2.1, hr.eo.2.2.2⟩, fun i b1 hi => ?_, fun i o hi => ?_, fun i j oi oj hi hj hb => ?_, ?_⟩
 ·rcases hlow k hk.1 with h | h | h
  ·exact (hr.frameE k ⟨hk.1, h⟩).2
  ·exact ((hr.frame k (hE'.D k h)).2).trans (hE'.same k h)
  ·exact absurd h hk.2
 ·have hil : i < obs.length := by
   rw [← hol]
   rcases Nat.lt_or_ge i olds.length with h | h
   ·exact h
   ·rw [List.getElem?_eq_none h] at hi; cases hi
  simp only [hρk i hil]
  exact (hr.old i b1 hi).1
 ·obtain ⟨h1, h2⟩ := hos i o hi
  have h3 := (hr.live _ _ h2).2
  rw [EObj.real_ren] at h3
  refine ⟨h1, h3, ?_⟩
  simp only
  rcases Nat.lt_or_ge (bs' (ρ i)) w.heap.size with hlt' | hge'
  ·rcases hlow _ hlt' with h | h | h
   ·exact absurd ⟨hlt', h⟩ (hr.newE _ _ h2)
   ·exact absurd (hE'.D _ h) (hr.new _ _ h2)
   ·exact .inr h
  ·exact .inl hge'
 ·exact hinj i j oi oj hi hj (hr.inj _ _ _ _ (hos i oi hi).2 (hos j oj hj).2 hb)
 ·refine hRm s x'.B _ ⟨fun b1 hb1 => ?_, fun b1 hb1 => (hr.frame b1 hb1).2, hr.hsize, hr.os, hr.tape, hr.output⟩ hR
  have hbw := (hr.frame b1 hb1).1
  have hnn : ¬ Bl2 (fun i => bs' (ρ i)) (os s) b1 := by
   rintro ⟨i, o, hi, rfl⟩
   exact hr.new _ _ (hos i o hi).2 hb1
  rcases Nat.lt_or_ge b1 w.heap.size with hlt' | hge'
  ·rcases hlow _ hlt' with h | h | h
   ·exact absurd hb1 (hr.apart b1 ⟨hlt', h⟩)
   ·exact .inl h
   ·exact .inr ⟨.inr h, hbw, hnn⟩
  ·exact .inr ⟨.inl hge', hbw, hnn⟩
theorem Bv8 {C : Cx} {K : X → Prop} {f : FuncId} {args args' : List EV} {dst : Option Tmp} {x : X} {S : Type} {B : Base} {obs : List EObj} {vf : S → EV} {nf : S → Nat} {os : S → List (Option EObj)} {R : S → Base → Prop} (m : List Nat) (h : Gen C.P f args obs B vf nf os R) (hB : BExt B x.B)
  (ha : args' = Z8 (rho m x.n) args) (hm : m.length = obs.length) (hnd : m.Nodup) (hg : ∀ (i j : Nat) (o : EObj), m[i]? = some j → obs[i]? = some o → hget x.hs j = some (o.ren (rho m x.n))) (hob : ∀ o ∈ obs, o.closed obs.length) (hos : ∀ s, obs.length ≤ (os s).length ∧ (os s).length ≤ nf s)
  (hk : ∀ s B', BExt x.B B' → R s B' → K { σ := put x.σ dst (ren (rho m x.n) (vf s)), n := x.n + (nf s - m.length), hs := Bf0 (rho m x.n) 0 (os s) x.hs, B := B', ms := x.ms }) : V0 C f args' dst x K := by
 subst ha
 have hget : ∀ j ∈ m, ∃ i o, m[i]? = some j ∧ obs[i]? = some o := fun j hj => by
  obtain ⟨i, hi, rfl⟩ := List.mem_iff_getElem.1 hj
  exact ⟨i, obs[i]'(by omega), List.getElem?_eq_getElem hi, List.getElem?_eq_getElem _⟩
 refine At5 vf nf os R m h.en (fun j hj => ?_) hnd (fun s => by rw [hm]; exact hos s) (fun bs w hh => ?_) (fun s B' hE hR => hk s B' hE hR)
 ·obtain ⟨i, o, h1, h2⟩ := hget j hj
  rw [hg i j o h1 h2]; rfl
 ·have hbs : ∀ i, i < obs.length → bs (rho m x.n i) = Ba5 (m.map bs) i := fun i hi => by
   rw [Av5 (by omega)]
   exact (U5 (by rw [List.getElem?_map, List.getElem?_eq_getElem (by omega)]; rfl)).symm
  have e : A8 bs (Z8 (rho m x.n) args) = A8 (Ba5 (m.map bs)) args := by
   rw [P4]
   exact J6 (n := obs.length) (fun i hi => hbs i hi) _ h.cl
  rw [e]
  refine h.run ⟨w, x.B.D⟩ (hB.trans hh.ext) (fun b hb => (hh.frame b hb).1) (m.map bs) (by rw [List.length_map, hm]) ?_ ?_ ?_
  ·rw [List.nodup_iff_pairwise_ne, List.pairwise_map]
   refine List.Pairwise.imp_of_mem ?_ hnd
   intro a b ha hb hab heq
   obtain ⟨i, o, h1, h2⟩ := hget a ha
   obtain ⟨i', o', h1', h2'⟩ := hget b hb
   exact hab (hh.inj a b _ _ (hg i a o h1 h2) (hg i' b o' h1' h2') heq)
  ·intro b hb
   obtain ⟨j, hj, rfl⟩ := List.mem_map.1 hb
   obtain ⟨i, o, h1, h2⟩ := hget j hj
   exact hh.new j _ (hg i j o h1 h2)
  ·intro i b o hi ho
   rw [List.getElem?_map] at hi
   obtain ⟨j, hj, rfl⟩ := Option.map_eq_some_iff.1 hi
   have := (hh.live j _ (hg i j o hj ho)).2
   simp only
   rw [this, EObj.real_ren]
   have hmem : o ∈ obs := List.mem_of_getElem? ho
   exact congrArg some (EObj.real_congr (n := obs.length) (fun i hi => (hbs i hi)) o (hob o hmem))
theorem Az4 {C : Cx} {Q : Exit → X → Prop} {f : FuncId} {args args' : List EV} {dst : Option Tmp} {st : List It} {x : X} {S : Type} {obs : List EObj} {vf : S → EV} {nf : S → Nat} {os : S → List (Option EObj)} {R : S → Base → Prop} (m : List Nat) (h : Gen C.P f args obs x.B vf nf os R)
  (ha : args' = Z8 (rho m x.n) args) (hm : m.length = obs.length) (hnd : m.Nodup) (hg : ∀ (i j : Nat) (o : EObj), m[i]? = some j → obs[i]? = some o → hget x.hs j = some (o.ren (rho m x.n))) (hob : ∀ o ∈ obs, o.closed obs.length) (hos : ∀ s, obs.length ≤ (os s).length ∧ (os s).length ≤ nf s)
  (hk : ∀ s B', BExt x.B B' → R s B' → Next C Q st { σ := put x.σ dst (ren (rho m x.n) (vf s)), n := x.n + (nf s - m.length), hs := Bf0 (rho m x.n) 0 (os s) x.hs, B := B', ms := x.ms }) : W3 C Q f args' dst st x :=
 fun _ => .inr (Bv8 m h (BExt.refl _) ha hm hnd hg hob hos hk)
end Go.Ew
