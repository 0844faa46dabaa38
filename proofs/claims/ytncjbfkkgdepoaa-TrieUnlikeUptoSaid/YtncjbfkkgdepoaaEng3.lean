/- Part of a proof over the seat Ytncjbfkkgdepoaa. -/
import Derived.Test.YtncjbfkkgdepoaaEng2
set_option linter.unusedSimpArgs false
set_option linter.unusedVariables false
set_option maxRecDepth 100000
namespace Go.Ew
open Go RowKit
def Bi6 (TB T : TypeId) (n : Nat) (xs : List EV) : Lst → List EObj
 | none => [.cells [.raw (.slice none 0 0)] TB (0, 0)]
 | some (cap, rest) => [.cells [.sl 1 0 n cap] TB (0, 0), .cells (xs ++ rest) T (0, 0)]
def bK : Lst → Nat
 | none => 1
 | some _ => 2
def bO (TB : TypeId) (r n : Nat) (l : Lst) : EObj := .cells [lE r n l] TB (0, 0)
def bOs (TB T : TypeId) (k n : Nat) (xs : List EV) (l : Lst) : List (Option EObj) := some (bO TB k n l) :: (List.replicate (k - 1) none ++ [lO T xs l])
abbrev Bld {S : Type} (P : Program) (f : FuncId) (TB T : TypeId) (zs : List EV) (args : List EV) (B : Base) (n : Nat) (l : Lst) (xs : List EV) (vf : S → EV) (n' : S → Nat) (l' : S → Lst) (xs' : S → List EV) (R : S → Base → Prop) : Prop :=
 Gen P f (.ptr 0 0 :: args) (Bi6 TB T n xs l) B vf (fun _ => bK l + 1) (fun s => bOs TB T (bK l) (n' s) (xs' s) (l' s)) (fun s B' => R s B' ∧ lOk zs (n' s) (l' s) ∧ A0 0 (xs' s))
theorem Cu2 (TB T : TypeId) (n : Nat) (xs : List EV) (l : Lst) : (Bi6 TB T n xs l).length = bK l := by cases l <;> rfl
theorem Ae2 {TB T : TypeId} {n : Nat} {xs zs : List EV} {l : Lst} (hl : lOk zs n l) (hx : A0 0 xs) (hz : A0 0 zs) : ∀ o ∈ Bi6 TB T n xs l, o.closed (Bi6 TB T n xs l).length := by
 intro o ho
 cases l with
 | none => simp [Bi6] at ho; subst ho; simp [EObj.closed, A0, closed]
 | some q =>
  obtain ⟨cap, rest⟩ := q
  simp only [Bi6, List.mem_cons, List.not_mem_nil, or_false] at ho
  rcases ho with rfl | rfl
  ·simp [EObj.closed, A0, closed, Bi6]
  ·exact (G4 (n := 2) (T := T) hl hx hz rfl).1
def Cx5 {S : Type} (TB T : TypeId) (zs : List EV) (B0 : Base) (vf : S → EV) (n' : S → Nat) (l' : S → Lst) (xs' : S → List EV) (R : S → Base → Prop) (v : EV) (x : X) : Prop :=
 BExt B0 x.B ∧ ∃ (s : S) (r' : Nat), v = vf s ∧ closed 0 (vf s) ∧ hget x.hs 0 = some (bO TB r' (n' s) (l' s)) ∧ hget x.hs r' = lO T (xs' s) (l' s) ∧ r' ≠ 0 ∧ R s x.B ∧ lOk zs (n' s) (l' s) ∧ A0 0 (xs' s)
theorem Cc0 {C : Cx} {rs : List ResultVar} {K K' : EV → X → Prop} (h : ∀ v x, K v x → K' v x) (e : Exit) (x : X) (hq : Bj3 C rs K e x) : Bj3 C rs K' e x := by
 have key : Cb9 C rs K x → Cb9 C rs K' x := by
  unfold Cb9
  split
  ·split
   ·exact fun ⟨h1, h2⟩ => ⟨h1, h _ _ h2⟩
   ·exact id
  ·exact id
 cases e with
 | normal => exact key hq
 | ret => exact key hq
 | _ => exact hq
theorem Dj8 {S : Type} {P : Program} {f : FuncId} {fn : Func} {c : Code} {TB T : TypeId} {zs args : List EV} {B : Base} {n : Nat} {l : Lst} {xs : List EV} {vf : S → EV} {n' : S → Nat} {l' : S → Lst} {xs' : S → List EV} {R : S → Base → Prop} (hE : D4 P f) (hRm : ∀ s B B', BExt B B' → R s B → R s B')
  (hf : P.funcs[f]? = some fn) (hb : fn.body = some c) (hin : D0 fn.ntmps c = true) (hl : args.length + 1 ≤ fn.ntmps) (hcl : A0 0 args) (hlo : lOk zs n l) (hx : A0 0 xs) (hz : A0 0 zs)
  (h : ∀ B0, BExt B B0 → ∀ olds : List Nat, olds.length ≤ 2 → Next (cxG P fn.ntmps B0.w B0.D olds) (Bj3 (cxG P fn.ntmps B0.w B0.D olds) fn.results.toList (Cx5 TB T zs B0 vf n' l' xs' R)) [.c c] ⟨argσ 0 (.ptr 0 0 :: args), 2, [(1, lO T xs l), (0, some (bO TB 1 n l))], B0, []⟩) : Bld P f TB T zs args B n l xs vf n' l' xs' R := by
 have hk : (Bi6 TB T n xs l).length = bK l := Cu2 TB T n xs l
 have hk2 : bK l ≤ 2 := by cases l <;> simp [bK]
 have hk1 : 1 ≤ bK l := by cases l <;> simp [bK]
 refine Cx2 (fn := fn) (c := c) 2 [(1, lO T xs l), (0, some (bO TB 1 n l))] hE (fun s B B' hB hR => ⟨hRm s B B' hB hR.1, hR.2⟩) hf hb hin (by simpa using hl) ⟨by rw [hk]; exact hk1, E8 (Nat.zero_le _) _ hcl⟩ (Ae2 hlo hx hz) (by rw [hk]; exact hk2) (fun i => ?_) (fun B0 hB0 olds hol => ?_)
 ·cases l with
  | none =>
   rcases i with _ | _ | i
   ·rfl
   ·rfl
   ·simp [C0, hget, Bi6]
  | some q =>
   rcases i with _ | _ | i
   ·rfl
   ·rfl
   ·simp [C0, hget, Bi6]
 ·rw [hk] at hol ⊢
  refine Next.mono (h B0 hB0 olds (by omega)) (Cc0 ?_)
  rintro v x ⟨hBx, s, r', rfl, hc0, h0, hr', hr0, hR, hlk, hxs⟩
  have hent : ∀ i o, (bOs TB T (bK l) (n' s) (xs' s) (l' s))[i]? = some (some o) → (i = 0 ∧ o = bO TB (bK l) (n' s) (l' s)) ∨ (i = bK l ∧ lO T (xs' s) (l' s) = some o) := by
   intro i o hi
   rcases Nat.lt_trichotomy i (bK l) with h1 | h1 | h1
   ·rcases i with _ | i
    ·simp [bOs] at hi; exact .inl ⟨rfl, hi.symm⟩
    ·have : i < bK l - 1 := by omega
     simp [bOs, List.getElem?_append, this] at hi
   ·subst h1
    obtain ⟨k, hkk⟩ : ∃ k, bK l = k + 1 := ⟨bK l - 1, by omega⟩
    rw [hkk] at hi
    simp [bOs, List.getElem?_append] at hi
    exact .inr ⟨rfl, hi⟩
   ·obtain ⟨k, hkk⟩ : ∃ k, i = k + 1 := ⟨i - 1, by omega⟩
    rw [hkk, bOs, List.getElem?_cons_succ, List.getElem?_eq_none (by simp; omega)] at hi
    cases hi
  refine ⟨hBx, s, fun i => if i < bK l then i else r', (ren_id (n := 0) (fun i hi => absurd hi (Nat.not_lt_zero i)) _ hc0).symm, closed_mono (Nat.zero_le _) _ hc0, fun i hi => if_pos hi, fun i o hi => ?_, fun i j oi oj hi hj hij => ?_, hR, hlk, hxs⟩
  ·rcases hent i o hi with ⟨rfl, rfl⟩ | ⟨rfl, ho⟩
   ·refine ⟨⟨A4 (show bK l < bK l + 1 by omega), trivial⟩, ?_⟩
    simp only
    rw [if_pos (by omega), h0]
    simp only [bO, EObj.ren, W6, M4]
    rw [if_neg (by omega)]
   ·refine ⟨(G4 hlk hxs hz ho).1, ?_⟩
    simp only
    rw [if_neg (by omega), hr', ho]
    congr 1
    exact (EObj.ren_id (n := 0) (fun i hi => absurd hi (Nat.not_lt_zero i)) o (G4 (n := 0) hlk hxs hz ho).2).symm
  ·rcases hent i oi hi with ⟨rfl, _⟩ | ⟨rfl, _⟩ <;> rcases hent j oj hj with ⟨rfl, _⟩ | ⟨rfl, _⟩
   ·rfl
   ·simp only at hij; rw [if_pos (by omega), if_neg (by omega)] at hij; exact absurd hij.symm hr0
   ·simp only at hij; rw [if_neg (by omega), if_pos (by omega)] at hij; exact absurd hij hr0
   ·rfl
theorem Bi0 {C : Cx} {K : X → Prop} {f : FuncId} {args : List EV} {dst : Option Tmp} {x : X} {S : Type} {TB T : TypeId} {zs : List EV} {B : Base} {n : Nat} {l : Lst} {xs : List EV} {vf : S → EV} {n' : S → Nat} {l' : S → Lst} {xs' : S → List EV} {R : S → Base → Prop} (j r : Nat)
  (h : Bld C.P f TB T zs args B n l xs vf n' l' xs' R) (hB : BExt B x.B) (hj : hget x.hs j = some (bO TB r n l)) (hr : hget x.hs r = lO T xs l) (hjr : j ≠ r) (hlo : lOk zs n l) (hx : A0 0 xs) (hz : A0 0 zs) (ha : A0 0 args) (hv : ∀ s, closed 0 (vf s))
  (hk : ∀ s B', BExt x.B B' → R s B' → lOk zs (n' s) (l' s) → A0 0 (xs' s) → ∀ z, (∀ bs w, HRel C x.B x.n x.hs bs w → Alike z { σ := put x.σ dst (vf s), n := x.n + 1, hs := (j, some (bO TB x.n (n' s) (l' s))) :: (x.n, lO T (xs' s) (l' s)) :: (r, none) :: x.hs, B := B', ms := x.ms }) → K z) : Y6 C f (.ptr j 0 :: args) dst x K := by
 have hren : ∀ (ρ : Nat → Nat) (s : S), lOk zs (n' s) (l' s) → A0 0 (xs' s) → (lO T (xs' s) (l' s)).map (EObj.ren ρ) = lO T (xs' s) (l' s) := fun ρ s h1 h2 => Cw6 h1 h2 hz
 cases l with
 | none =>
  refine Aq7 [j] h hB ?_ (by simp [Bi6]) (by simp) ?_ (Ae2 hlo hx hz) (fun s => by simp [bOs, bK, Bi6]) (fun s B' hE hR => ?_)
  ·simp only [W6, ren, rho]
   rw [U9 (n := 0) (fun i hi => absurd hi (Nat.not_lt_zero i)) _ ha]
  ·intro i j' o h1 h2
   rcases i with _ | i
   ·simp at h1 h2; subst h1
    rw [hj]
    simp [Bi6] at h2
    subst h2; rfl
   ·simp at h1
  ·refine hk s B' hE hR.1 hR.2.1 hR.2.2 _ (fun bs w hh => ?_)
   have hjn : j < x.n := (hh.live j _ hj).1
   refine ⟨fun t => ?_, ?_, fun i => ?_, rfl, rfl⟩
   ·simp only [ren_id (n := 0) (fun i hi => absurd hi (Nat.not_lt_zero i)) _ (hv s)]
   ·simp [bK]
   ·have hrn := hren (rho [j] x.n) s hR.2.1 hR.2.2
    have e0 : rho [j] x.n 0 = j := rfl
    have e1 : rho [j] x.n 1 = x.n := rfl
    have ea : Ar6 (rho [j] x.n) 0 (bOs TB T (bK none) (n' s) (xs' s) (l' s)) x.hs = (x.n, lO T (xs' s) (l' s)) :: (j, some (bO TB x.n (n' s) (l' s))) :: x.hs := by
     simp only [bOs, bK, Nat.sub_self, List.replicate_zero, List.nil_append, Ar6, Nat.zero_add, e0]
     cases hc : lO T (xs' s) (l' s) with
     | none => simp only [Ar6, bO, EObj.ren, W6, M4, e1]
     | some o =>
      rw [hc] at hrn
      simp only [Option.map_some, Option.some.injEq] at hrn
      simp only [Ar6]
      rw [hrn]
      simp only [bO, EObj.ren, W6, M4, e1]
    rw [ea]
    simp only [C0]
    have hrn0 : hget x.hs r = none := hr
    by_cases h1 : j = i
    ·subst h1
     rw [if_neg (by omega)]
     simp
    ·by_cases h2 : x.n = i
     ·simp [h1, h2]
     ·by_cases h3 : r = i
      ·subst h3; simp [h1, h2, hrn0]
      ·simp [h1, h2, h3]
 | some q =>
  obtain ⟨cap, rest⟩ := q
  refine Aq7 [j, r] h hB ?_ (by simp [Bi6]) (by simp [hjr]) ?_ (Ae2 hlo hx hz) (fun s => by simp [bOs, bK, Bi6]) (fun s B' hE hR => ?_)
  ·simp only [W6, ren, rho]
   rw [U9 (n := 0) (fun i hi => absurd hi (Nat.not_lt_zero i)) _ ha]
  ·intro i j' o h1 h2
   rcases i with _ | _ | i
   ·simp at h1 h2; subst h1
    rw [hj]
    simp [Bi6] at h2
    subst h2; rfl
   ·simp at h1 h2; subst h1
    rw [hr]
    simp [Bi6] at h2
    subst h2
    have hlc := (G4 (n := 0) (T := T) hlo hx hz rfl).2
    simp only [lO]
    congr 1
    exact (EObj.ren_id (n := 0) (fun i hi => absurd hi (Nat.not_lt_zero i)) _ hlc).symm
   ·simp at h1
  ·refine hk s B' hE hR.1 hR.2.1 hR.2.2 _ (fun bs w hh => ?_)
   have hjn : j < x.n := (hh.live j _ hj).1
   have hrn' : r < x.n := (hh.live r _ hr).1
   refine ⟨fun t => ?_, ?_, fun i => ?_, rfl, rfl⟩
   ·simp only [ren_id (n := 0) (fun i hi => absurd hi (Nat.not_lt_zero i)) _ (hv s)]
   ·simp [bK]
   ·have hrn := hren (rho [j, r] x.n) s hR.2.1 hR.2.2
    have e0 : rho [j, r] x.n 0 = j := rfl
    have e1 : rho [j, r] x.n 1 = r := rfl
    have e2 : rho [j, r] x.n 2 = x.n := rfl
    have ea : Ar6 (rho [j, r] x.n) 0 (bOs TB T (bK (some (cap, rest))) (n' s) (xs' s) (l' s)) x.hs = (x.n, lO T (xs' s) (l' s)) :: (r, none) :: (j, some (bO TB x.n (n' s) (l' s))) :: x.hs := by
     simp only [bOs, bK, Nat.reduceSub, List.replicate_succ, List.replicate_zero, List.cons_append, List.nil_append, Ar6, Nat.zero_add, Nat.reduceAdd, e0, e1]
     cases hc : lO T (xs' s) (l' s) with
     | none => simp only [Ar6, bO, EObj.ren, W6, M4, e2]
     | some o =>
      rw [hc] at hrn
      simp only [Option.map_some, Option.some.injEq] at hrn
      simp only [Ar6]
      rw [hrn]
      simp only [bO, EObj.ren, W6, M4, e2]
    rw [ea]
    simp only [C0]
    by_cases h1 : j = i
    ·subst h1
     rw [if_neg (by omega), if_neg (by omega)]
     simp
    ·by_cases h2 : x.n = i
     ·simp [h1, h2]
     ·by_cases h3 : r = i
      ·subst h3; simp [h1, h2]
      ·simp [h1, h2, h3]
theorem Aq6 {C : Cx} {Q : Exit → X → Prop} {f : FuncId} {args : List EV} {dst : Option Tmp} {st : List It} {x : X} {S : Type} {TB T : TypeId} {zs : List EV} {n : Nat} {l : Lst} {xs : List EV} {vf : S → EV} {n' : S → Nat} {l' : S → Lst} {xs' : S → List EV} {R : S → Base → Prop} (j r : Nat)
  (h : Bld C.P f TB T zs args x.B n l xs vf n' l' xs' R) (hj : hget x.hs j = some (bO TB r n l)) (hr : hget x.hs r = lO T xs l) (hjr : j ≠ r) (hlo : lOk zs n l) (hx : A0 0 xs) (hz : A0 0 zs) (ha : A0 0 args) (hv : ∀ s, closed 0 (vf s))
  (hk : ∀ s B', BExt x.B B' → R s B' → lOk zs (n' s) (l' s) → A0 0 (xs' s) → Next C Q st { σ := put x.σ dst (vf s), n := x.n + 1, hs := (j, some (bO TB x.n (n' s) (l' s))) :: (x.n, lO T (xs' s) (l' s)) :: (r, none) :: x.hs, B := B', ms := x.ms }) : Y8 C Q f (.ptr j 0 :: args) dst st x := by
 intro hd
 refine .inr ⟨h.en, fun bs w hh hcl => ?_⟩
 exact (Bi0 (K := fun z => Next C Q st z) j r h (BExt.refl _) hj hr hjr hlo hx hz ha hv (fun s B' hE hR h1 h2 z hz' => by
  have := hk s B' hE hR h1 h2
  exact fun hst bs' a w' hr' => this hst bs' a w' (hr'.alike (hz' bs w hh)))).2 bs w hh hcl
theorem Alike.sub {C : Cx} {x y : X} (h : Alike x y) : Sub C x y := fun bs _ _ hr => ⟨bs, hr.alike h⟩
theorem Ce2 {C : Cx} {x : X} {bs0 : Nat → Nat} {a0 : Act} {w0 : World} (hr0 : Rel C x bs0 a0 w0) {r' j r n' : Nat} (hav : Av r' x) (hold : C.olds.length ≤ r') (hjn : j < x.n) (hrj : r' ≠ j) {dst : Option Tmp} {v : EV} (hv : closed 0 v) {TB T : TypeId} {xs zs : List EV} {l' : Lst} (hl' : lOk zs n' l') (hxn0 : A0 0 xs) (hz0 : A0 0 zs) (B' : Base) :
  Sub C { σ := put x.σ dst v, n := x.n + 1, hs := (j, some (bO TB x.n n' l')) :: (x.n, lO T xs l') :: (r, none) :: x.hs, B := B', ms := x.ms } { σ := put x.σ dst v, n := x.n, hs := (j, some (bO TB r' n' l')) :: (r', lO T xs l') :: (r, none) :: x.hs, B := B', ms := x.ms } := by
 have hρ : ∀ i, i ≠ r' → (fun i => if i = r' then x.n else i) i = i := fun i hi => if_neg hi
 have hw : WeakR C (fun i => if i = r' then x.n else i) { σ := put x.σ dst v, n := x.n + 1, hs := (j, some (bO TB x.n n' l')) :: (x.n, lO T xs l') :: (r, none) :: x.hs, B := B', ms := x.ms }
   { σ := put x.σ dst v, n := x.n, hs := (j, some (bO TB r' n' l')) :: (r', lO T xs l') :: (r, none) :: x.hs, B := B', ms := x.ms } := by
  have hlive : ∀ i o', hget ((j, some (bO TB r' n' l')) :: (r', lO T xs l') :: (r, none) :: x.hs) i = some o' → (i = j ∧ o' = bO TB r' n' l') ∨ (i = r' ∧ i ≠ j ∧ lO T xs l' = some o') ∨ (i ≠ j ∧ i ≠ r' ∧ i ≠ r ∧ hget x.hs i = some o') := by
   intro i o' hi
   simp only [C0] at hi
   by_cases e0 : j = i
   ·rw [if_pos e0] at hi; exact .inl ⟨e0.symm, (Option.some.inj hi).symm⟩
   ·rw [if_neg e0] at hi
    by_cases e : r' = i
    ·rw [if_pos e] at hi; exact .inr (.inl ⟨e.symm, Ne.symm e0, hi⟩)
    ·rw [if_neg e] at hi
     by_cases e3 : r = i
     ·rw [if_pos e3] at hi; cases hi
     ·rw [if_neg e3] at hi; exact .inr (.inr ⟨Ne.symm e0, Ne.symm e, Ne.symm e3, hi⟩)
  have hn := hav.n
  refine ⟨fun t => .inr ?_, fun i o' hi => ?_, fun t => ?_, fun i o' hi => ?_, fun i j2 oi oj hi hj hij => ?_, ?_, fun i hi => ?_, rfl, ?_, hr0.t.msin⟩
  ·simp only [I7]
   split
   ·exact ren_id (n := 0) (fun i hi => absurd hi (Nat.not_lt_zero i)) _ hv
   ·exact ren_av hρ _ (hav.σ t)
  ·rcases hlive i o' hi with ⟨rfl, rfl⟩ | ⟨rfl, h0, h1⟩ | ⟨h0, h1, h2, h3⟩
   ·simp only [if_neg (Ne.symm hrj), C0, if_true, bO, EObj.ren, W6, M4]
   ·simp only [if_true, C0, h1]
    rw [if_neg (by omega)]
    congr 1
    exact (EObj.ren_id (n := 0) (fun i hi => absurd hi (Nat.not_lt_zero i)) o' (G4 (n := 0) hl' hxn0 hz0 h1).2).symm
   ·have hlt := (hr0.h.live i o' h3).1
    simp only [if_neg h1, C0]
    rw [if_neg (Ne.symm h0), if_neg (by omega), if_neg (Ne.symm h2), h3]
    congr 1
    exact (EObj.ren_av hρ o' (hav.hs i o' h3).2).symm
  ·simp only [I7]
   split
   ·exact closed_mono (Nat.zero_le _) _ hv
   ·exact hr0.t.cl t
  ·rcases hlive i o' hi with ⟨rfl, rfl⟩ | ⟨rfl, h0, h1⟩ | ⟨h0, h1, h2, h3⟩
   ·exact ⟨hjn, A4 hn, trivial⟩
   ·exact ⟨hn, (G4 hl' hxn0 hz0 h1).1⟩
   ·exact ⟨(hr0.h.live i o' h3).1, hr0.h.cl i o' h3⟩
  ·have key : ∀ i o', hget ((j, some (bO TB r' n' l')) :: (r', lO T xs l') :: (r, none) :: x.hs) i = some o' → i < x.n := by
    intro i o' hi
    rcases hlive i o' hi with ⟨rfl, rfl⟩ | ⟨rfl, h0, h1⟩ | ⟨h0, h1, h2, h3⟩
    ·exact hjn
    ·exact hn
    ·exact (hr0.h.live i o' h3).1
   have k1 := key i oi hi
   have k2 := key j2 oj hj
   split at hij <;> split at hij <;> omega
  ·show C.olds.length ≤ x.n; omega
  ·show (if i = r' then x.n else i) = i; rw [if_neg (by omega)]
  ·simp only
   conv => lhs; rw [← List.map_id x.ms]
   refine List.map_congr_left fun i hi => ?_
   have : i ≠ r' := fun e => hav.ms (e ▸ hi)
   simp [this]
 exact hw.sub
theorem W2 {C : Cx} {Q : Exit → X → Prop} {ops : List Oper} {st : List It} {f : FuncId} {args : List EV} {acc : List Nd} {i : Nat} {o : Oper} {ord : List Nat} {x : X} {S : Type} {TB T : TypeId} {zs : List EV} {n : Nat} {l : Lst} {xs : List EV} {vf : S → EV} {n' : S → Nat} {l' : S → Lst} {xs' : S → List EV} {R : S → Base → Prop} (d j r : Nat)
  (h : Bld C.P f TB T zs args x.B n l xs vf n' l' xs' R) (hj : hget x.hs j = some (bO TB r n l)) (hr : hget x.hs r = lO T xs l) (hjr : j ≠ r) (hjd : 100000 + d ≠ j) (hlo : lOk zs n l) (hx : A0 0 xs) (hz : A0 0 zs) (ha : A0 0 args) (hv : ∀ s, closed 0 (vf s)) (hdst : o.dst = some d) (hold : C.olds.length ≤ 100000 + d) (hdep : Bc4 ops [i] ord = true)
  (hck : Ck ((i, o, { dst := o.dst, v := .any, ups := [(j, none), (100000 + d, none), (r, none)], a := 0, looks := C5 o.op ++ G6 ops o.guard, foot := [j, r], nm := [100000 + d] }, true) :: acc).reverse)
  (hk : N7 C.N ops = true → ∀ s B', BExt x.B B' → R s B' → lOk zs (n' s) (l' s) → A0 0 (xs' s) → DT C Q ops st ((i, o, { dst := o.dst, v := vf s, ups := [(j, some (bO TB (100000 + d) (n' s) (l' s))), (100000 + d, lO T (xs' s) (l' s)), (r, none)], a := 0, looks := C5 o.op ++ G6 ops o.guard, foot := [j, r], nm := [100000 + d] }, true) :: acc) ord
   { σ := put x.σ o.dst (vf s), n := x.n, hs := (j, some (bO TB (100000 + d) (n' s) (l' s))) :: (100000 + d, lO T (xs' s) (l' s)) :: (r, none) :: x.hs, B := B', ms := x.ms }) : At2 C Q ops st f (.ptr j 0 :: args) acc i o ord x := by
 refine ⟨false, { dst := o.dst, v := .any, ups := [(j, none), (100000 + d, none), (r, none)], a := 0, looks := C5 o.op ++ G6 ops o.guard, foot := [j, r], nm := [100000 + d] }, S, fun s => { dst := o.dst, v := vf s, ups := [(j, some (bO TB (100000 + d) (n' s) (l' s))), (100000 + d, lO T (xs' s) (l' s)), (r, none)], a := 0, looks := C5 o.op ++ G6 ops o.guard, foot := [j, r], nm := [100000 + d] },
  fun s B' => R s B' ∧ lOk zs (n' s) (l' s) ∧ A0 0 (xs' s), fun t h => h, fun y hy => .inr (.inr fun bs a w hr0 => ?_), hdep, hck, fun _ => ⟨rfl, rfl, rfl, rfl, rfl, rfl⟩, fun hin s B' hB hR => hk hin s B' hB hR.1 hR.2.1 hR.2.2⟩
 have hyj : hget y.hs j = some (bO TB r n l) := by rw [hy.hs j (by simp)]; exact hj
 have hyr : hget y.hs r = lO T xs l := by rw [hy.hs r (by simp)]; exact hr
 have hjn : j < y.n := (hr0.h.live j _ hyj).1
 refine Bi0 j r h hy.B hyj hyr hjr hlo hx hz ha hv (fun s B' hB hR hl1 hx1 z hz' => ⟨_, ?_, s, B', hB, ⟨hR, hl1, hx1⟩, Alike.rfl' _⟩)
 exact ((hz' bs w hr0.h).sub).trans (Ce2 hr0 (hy.nm _ (by simp)) hold hjn hjd (hv s) hl1 hx1 hz B')
end Go.Ew
namespace Go.Ew
open Go RowKit
theorem Aq2 {n : Nat} : ∀ {l : List EV} {t : Nat}, A0 n l → closed n (l.getD t .any)
 | [], t, _ => by simp [closed]
 | v :: l, 0, h => h.1
 | v :: l, t + 1, h => by simpa using Aq2 (t := t) h.2
theorem Ck1 {S : Type} {P : Program} {f : FuncId} {fn : Func} {c : Code} {TB T : TypeId} {zs args : List EV} {B : Base} {n : Nat} {l : Lst} {xs : List EV} {vf : S → EV} {n' : S → Nat} {l' : S → Lst} {xs' : S → List EV} {R : S → Base → Prop} (hE : D4 P f) (hRm : ∀ s B B', BExt B B' → R s B → R s B')
  (hf : P.funcs[f]? = some fn) (hb : fn.body = some c) (hin : D0 fn.ntmps c = true) (hl : args.length + 1 ≤ fn.ntmps) (hcl : A0 0 args) (hlo : lOk zs n l) (hx : A0 0 xs) (hz : A0 0 zs)
  (h : ∀ B0, BExt B B0 → ∀ olds : List Nat, olds.length ≤ 2 → Next (cxG P fn.ntmps B0.w B0.D olds) (Bj3 (cxG P fn.ntmps B0.w B0.D olds) fn.results.toList (Cx5 TB T zs B0 vf n' l' xs' R)) [.c c] ⟨argσ 0 (.ptr 0 0 :: args), 3, [(2, lO T xs l), (0, some (bO TB 2 n l))], B0, []⟩) : Bld P f TB T zs args B n l xs vf n' l' xs' R := by
 refine Dj8 hE hRm hf hb hin hl hcl hlo hx hz (fun B0 hB0 olds hol => Next.subL (WeakR.sub (ρ := fun i => if i = 2 then 1 else i) ?_) (h B0 hB0 olds hol))
 have hc1 : ∀ t, closed 1 (I1 (argσ 0 (.ptr 0 0 :: args)) t) := fun t => by
  rw [tget_argσ]
  simp only [Nat.zero_le, if_true, Nat.sub_zero]
  exact Aq2 (n := 1) ⟨by simp [closed], E8 (Nat.zero_le _) _ hcl⟩
 have hlive : ∀ i o, hget [(2, lO T xs l), (0, some (bO TB 2 n l))] i = some o → (i = 2 ∧ lO T xs l = some o) ∨ (i = 0 ∧ o = bO TB 2 n l) := by
  intro i o hi
  simp only [C0] at hi
  by_cases e : 2 = i
  ·rw [if_pos e] at hi; exact .inl ⟨e.symm, hi⟩
  ·rw [if_neg e] at hi
   by_cases e2 : 0 = i
   ·rw [if_pos e2] at hi; exact .inr ⟨e2.symm, (Option.some.inj hi).symm⟩
   ·rw [if_neg e2] at hi; simp [hget] at hi
 refine ⟨fun t => .inr ?_, fun i o hi => ?_, fun t => closed_mono (by simp) _ (hc1 t), fun i o hi => ?_, fun i j oi oj hi hj hij => ?_, by show olds.length ≤ 3; omega, fun i hi => ?_, rfl, rfl, fun i hi => by cases hi⟩
 ·exact ren_id (n := 1) (fun i hi => by
   have : i = 0 := by omega
   subst this; rfl) _ (hc1 t)
 ·rcases hlive i o hi with ⟨rfl, ho⟩ | ⟨rfl, rfl⟩
  ·simp only [if_true, C0]
   rw [ho]
   congr 1
   exact (EObj.ren_id (n := 0) (fun i hi => absurd hi (Nat.not_lt_zero i)) o (G4 (n := 0) hlo hx hz ho).2).symm
  ·simp only [C0, bO, EObj.ren, W6, M4]
   rfl
 ·rcases hlive i o hi with ⟨rfl, ho⟩ | ⟨rfl, rfl⟩
  ·exact ⟨by simp, (G4 hlo hx hz ho).1⟩
  ·exact ⟨by simp, A4 (by simp), trivial⟩
 ·rcases hlive i oi hi with ⟨rfl, _⟩ | ⟨rfl, _⟩ <;> rcases hlive j oj hj with ⟨rfl, _⟩ | ⟨rfl, _⟩ <;> simp_all
 ·have hi' : i < olds.length := hi
  show (if i = 2 then 1 else i) = i
  rw [if_neg (by omega)]
end Go.Ew
namespace Go.Ew
open Go RowKit
theorem Cu5 {C : Cx} {Q : Exit → X → Prop} {o : Oper} {st : List It} {x : X} {a b : Operand} {t t2 T : TypeId} (k : Nat) {ad : Option Addr} {cs : List Value} {m : Nat} {b' : EV} {news zs : List EV} {c : Prop}
  (hop : o.op = .call { callee := .builtin .append, args := #[a, b], argTypes := #[t, t2] })
  (ht : C.P.underlying t = some (.slice T)) (ht2 : (∃ e', C.P.underlying t2 = some (.slice e')) ∨ C.P.underlying t2 = some .string)
  (hz : H4 C.P T = some zs) (hcz : C.P.cellsOf T = zs.length) (hzne : zs ≠ []) (hz0 : A0 0 zs)
  (ha : ev x.σ a = .raw (.slice ad k k)) (hb : ev x.σ b = b') (hC : CellsAt x.B ad cs) (hcs : cs.length = k * zs.length)
  (hsrc : O6 x.B x.hs zs.length b' = some (m, news, c)) (hc : c) (hone : G2 news = true) (h0 : 0 < m)
  (hmax : k + m ≤ maxLen) (hby : (k + m) * C.P.bytesOf T ≤ 140737488355328)
  (hk : ∀ l', lOk zs (k + m) l' → Next C Q st { σ := put x.σ o.dst (lE x.n (k + m) l'), n := x.n + 1, hs := (x.n, lO T (cs.map D9 ++ news) l') :: x.hs, B := x.B, ms := x.ms }) : opS C Q o st x := by
 intro hd bs ac w hr Q'
 obtain ⟨dst, op, type, pos, after, guard⟩ := o
 simp only at hop hd hk; subst hop
 have hzl : 0 < zs.length := List.length_pos_iff.2 hzne
 have hbne : b' ≠ .any := by rintro rfl; simp [O6] at hsrc
 have ea := E7 hr.t a (by rw [ha]; simp)
 have eb := E7 hr.t b (by rw [hb]; exact hbne)
 rw [ha] at ea; rw [hb] at eb
 obtain ⟨c2, hsrc2, hc2⟩ := CellsAt.src (cap := k) hC hzl hcs x.hs
 obtain ⟨s1, s2, s3, s4⟩ := P6 hr.h hsrc hc
 obtain ⟨s1', s2', _, _⟩ := P6 hr.h.drew hsrc hc
 obtain ⟨q1, q2, q3, q4⟩ := P6 hr.h.drew hsrc2 hc2
 obtain ⟨z, z1, z2, z3⟩ := R8 (w := w) bs x.n hz
 have hinfo : ∃ i, C.P.info? T = some i ∧ i.zero = some z := by
  unfold H4 at hz
  cases hi : C.P.info? T with
  | none => simp [hi] at hz
  | some i =>
   simp only [hi] at hz
   cases hzz : i.zero with
   | none => simp [hzz] at hz
   | some z' =>
    refine ⟨i, rfl, ?_⟩
    have : (zeroValue T).run C.P w = .ok z' w := by simp [zeroValue, typeInfo, hi, hzz]
    rw [this] at z1; simp at z1; rw [← z1]; exact hzz
 obtain ⟨i, hi, hzi⟩ := hinfo
 have hisz : i.size = zs.length := by rw [← hcz]; simp [Program.cellsOf, hi]
 have hiby : i.bytes = C.P.bytesOf T := by simp [Program.bytesOf, hi]
 have hsrcP : Src C.P i.size t2 (real bs b') m (C2 bs news) w := by
  refine ⟨ht2, s1, ?_, ?_, by rw [C3, List.length_map, s3, hisz], ?_⟩
  ·have := s2 m (Nat.le_refl _)
   rw [List.take_of_length_le (by omega)] at this
   rw [hisz]; exact this
  ·have := s2' m (Nat.le_refl _)
   rw [List.take_of_length_le (by omega)] at this
   rw [hisz]; exact this
  ·intro u hu
   rw [C3] at hu
   obtain ⟨q, hq, rfl⟩ := List.mem_map.1 hu
   exact Al8 (S7 hone q hq)
 refine ⟨fun _ _ => trivial, ?_⟩
 rw [Oper.semAt_eq _ _ _ (by intro c; simp)]
 have hexec : ∀ V w', (Builtin.append_ #[t, t2] type #[real bs (.raw (.slice ad k k)), real bs b']).run C.P w = .ok V w' →
   (execOp ac.eval { dst := dst, op := .call { callee := .builtin .append, args := #[a, b], argTypes := #[t, t2] }, type := type, pos := pos, after := after, guard := guard }).run C.P w = .ok (.value V) w' := by
  intro V w' h
  simp only [execOp, resolve, invoke, builtin, Sem.run_bind, Sem.run_pure, Result.andThen_ok, List.map_toArray, List.map_cons, List.map_nil, ea, eb, h]
 have h63 : k + m ≤ 9223372036854775807 := by simp only [maxLen] at hmax; omega
 obtain ⟨xs, hxs⟩ : ∃ xs, xs = cs.map D9 := ⟨_, rfl⟩
 rw [← hxs] at hk q2 q3 q4
 have hxl : xs.length = k * zs.length := by rw [hxs, List.length_map, hcs]
 have hold : (Builtin.firstCells i.size k (.slice ad k k)).run C.P w.drew = .ok (C2 bs xs).toArray w.drew := by
  have := q2 k (Nat.le_refl _)
  rw [List.take_of_length_le (by omega)] at this
  rw [hisz]; exact this
 have hx0 : A0 0 xs := by
  rw [hxs, F1]; intro v hv
  obtain ⟨u, _, rfl⟩ := List.mem_map.1 hv
  exact I4 _ _
 have hrun := run_append_grow_src (P := C.P) w t t2 type T i z ht hi hzi ad k k (C2 bs xs) hold (real bs b') m (C2 bs news) hsrcP (by omega) (by omega) (by rw [hiby]; exact Ar3 hby (by omega))
 have hge := grownCap_ge w (k + m) k T
 have hcm := grownCap_le_maxLen w (k + m) k T hmax
 obtain ⟨gc, hgc⟩ : ∃ gc, gc = grownCap w (k + m) k T := ⟨_, rfl⟩
 rw [← hgc] at hrun hge hcm
 have hcl : A0 x.n ((xs ++ news) ++ rep (gc - (k + m)) zs) := closeds_append.2 ⟨closeds_append.2 ⟨E8 (Nat.zero_le _) _ hx0, s4⟩, S5 z3⟩
 have hH := hr.h.drew.alloc (.cells ((xs ++ news) ++ rep (gc - (k + m)) zs) T (0, 0)) hcl
 rw [hexec _ _ hrun]
 refine ⟨_, upd bs x.n w.heap.size, ⟨?_, ?_⟩, hk (some (gc, rep (gc - (k + m)) zs)) ⟨hge, hcm, Ah6 _ _, fun v hv => Cc1 hv⟩⟩
 ·exact hr.t.next (Nat.le_succ _) K0 hd (v := .sl x.n 0 (k + m) gc) (.inr (by simp [real, F9])) (by simp [closed])
 ·have e1 : w.drew.alloc (.cells (((C2 bs xs) ++ (C2 bs news)).toArray ++ Builtin.zeroCells z.cells (gc - (k + m))) T) = { w.drew with heap := w.drew.heap.push ((EObj.cells ((xs ++ news) ++ rep (gc - (k + m)) zs) T (0, 0)).real bs) } := by
   rw [Y9 z2 hzne]
   simp [World.alloc, EObj.real, C3]
  rw [e1]; exact hH
theorem Bj0 {C : Cx} {o : Oper} {x : X} {a b : Operand} {t t2 T : TypeId} (r' k : Nat) {ad : Option Addr} {cs : List Value} {m : Nat} {b' : EV} {news zs : List EV} {c : Prop}
  (hop : o.op = .call { callee := .builtin .append, args := #[a, b], argTypes := #[t, t2] })
  (ht : C.P.underlying t = some (.slice T)) (ht2 : (∃ e', C.P.underlying t2 = some (.slice e')) ∨ C.P.underlying t2 = some .string)
  (hz : H4 C.P T = some zs) (hcz : C.P.cellsOf T = zs.length) (hzne : zs ≠ []) (hz0 : A0 0 zs)
  (ha : ev x.σ a = .raw (.slice ad k k)) (hb : ev x.σ b = b') (hC : CellsAt x.B ad cs) (hcs : cs.length = k * zs.length)
  (hsrc : O6 x.B x.hs zs.length b' = some (m, news, c)) (hc : c) (hone : G2 news = true) (hn0 : A0 0 news) (h0 : 0 < m)
  (hmax : k + m ≤ maxLen) (hby : (k + m) * C.P.bytesOf T ≤ 140737488355328) (hd : M5 C.N o.dst = true) (hav : Av r' x) (hold : C.olds.length ≤ r') :
  Bc2 C o x (fun z => ∃ l', lOk zs (k + m) l' ∧ Alike z { σ := put x.σ o.dst (lE r' (k + m) l'), n := x.n, hs := (r', lO T (cs.map D9 ++ news) l') :: x.hs, B := x.B, ms := x.ms }) := by
 intro bs0 a0 w0 hr0 Q0
 obtain ⟨xs, hxs⟩ : ∃ xs, xs = cs.map D9 := ⟨_, rfl⟩
 have hx0 : A0 0 xs := by
  rw [hxs, F1]; intro v hv
  obtain ⟨u, _, rfl⟩ := List.mem_map.1 hv
  exact I4 _ _
 refine Ad8 (K := fun z => ∃ l', lOk zs (k + m) l' ∧ Alike z { σ := put x.σ o.dst (lE r' (k + m) l'), n := x.n, hs := (r', lO T (cs.map D9 ++ news) l') :: x.hs, B := x.B, ms := x.ms }) ?_ hd bs0 a0 w0 hr0 Q0
 refine Cu5 k hop ht ht2 hz hcz hzne hz0 ha hb hC hcs hsrc hc hone h0 hmax hby (fun l' hl' => ?_)
 rw [← hxs]
 intro _ bs ac w hr
 have hxn0 : A0 0 (xs ++ news) := closeds_append.2 ⟨hx0, hn0⟩
 have hρ : ∀ i, i ≠ r' → (fun i => if i = r' then x.n else i) i = i := fun i hi => if_neg hi
 have hw : WeakR C (fun i => if i = r' then x.n else i) { σ := put x.σ o.dst (lE x.n (k + m) l'), n := x.n + 1, hs := (x.n, lO T (xs ++ news) l') :: x.hs, B := x.B, ms := x.ms }
   { σ := put x.σ o.dst (lE r' (k + m) l'), n := x.n, hs := (r', lO T (xs ++ news) l') :: x.hs, B := x.B, ms := x.ms } := by
  have hlive : ∀ i o', hget ((r', lO T (xs ++ news) l') :: x.hs) i = some o' → (i = r' ∧ lO T (xs ++ news) l' = some o') ∨ (i ≠ r' ∧ hget x.hs i = some o') := by
   intro i o' hi
   rw [C0] at hi
   by_cases e : r' = i
   ·rw [if_pos e] at hi; exact .inl ⟨e.symm, hi⟩
   ·rw [if_neg e] at hi; exact .inr ⟨Ne.symm e, hi⟩
  refine ⟨fun t => .inr ?_, fun i o' hi => ?_, fun t => ?_, fun i o' hi => ?_, fun i j oi oj hi hj hij => ?_, ?_, fun i hi => ?_, rfl, ?_, hr0.t.msin⟩
  ·simp only [I7]
   split
   ·rw [M4]; simp
   ·exact ren_av hρ _ (hav.σ t)
  ·rcases hlive i o' hi with ⟨rfl, h1⟩ | ⟨h1, h3⟩
   ·simp only [if_true, C0, h1]
    congr 1
    exact (EObj.ren_id (n := 0) (fun i hi => absurd hi (Nat.not_lt_zero i)) o' (G4 (n := 0) hl' hxn0 hz0 h1).2).symm
   ·have hlt := (hr0.h.live i o' h3).1
    simp only [if_neg h1, C0]
    rw [if_neg (by omega), h3]
    congr 1
    exact (EObj.ren_av hρ o' (hav.hs i o' h3).2).symm
  ·simp only [I7]
   split
   ·exact A4 hav.n
   ·exact hr0.t.cl t
  ·rcases hlive i o' hi with ⟨rfl, h1⟩ | ⟨h1, h3⟩
   ·exact ⟨hav.n, (G4 hl' hxn0 hz0 h1).1⟩
   ·exact ⟨(hr0.h.live i o' h3).1, hr0.h.cl i o' h3⟩
  ·rcases hlive i oi hi with ⟨rfl, h1⟩ | ⟨h1, h3⟩ <;> rcases hlive j oj hj with ⟨rfl, k1⟩ | ⟨k1, k3⟩
   ·rfl
   ·have := (hr0.h.live j oj k3).1
    simp only [if_true, if_neg k1] at hij; omega
   ·have := (hr0.h.live i oi h3).1
    simp only [if_true, if_neg h1] at hij; omega
   ·simpa only [if_neg h1, if_neg k1] using hij
  ·have := hav.n; show C.olds.length ≤ x.n; omega
  ·show (if i = r' then x.n else i) = i; rw [if_neg (by omega)]
  ·simp only
   conv => lhs; rw [← List.map_id x.ms]
   refine List.map_congr_left fun i hi => ?_
   have : i ≠ r' := fun e => hav.ms (e ▸ hi)
   simp [this]
 obtain ⟨bs', hr'⟩ := hw.sub bs ac w hr
 exact ⟨_, bs', hr', rfl, l', hl', Alike.rfl' _⟩
theorem Bu1 {C : Cx} {Q : Exit → X → Prop} {ops : List Oper} {st : List It} {acc : List Nd} {i : Nat} {o : Oper} {ord : List Nat} {x : X} {ta : Nat} {tb : Nat} {t t2 T : TypeId} (d k : Nat) {ad : Option Addr} {cs : List Value} {m : Nat} {b' : EV} {news zs : List EV} (fb : List Nat)
  (hop : o.op = .call { callee := .builtin .append, args := #[.tmp ta, .tmp tb], argTypes := #[t, t2] }) (hdst : o.dst = some d)
  (ht : C.P.underlying t = some (.slice T)) (ht2 : (∃ e', C.P.underlying t2 = some (.slice e')) ∨ C.P.underlying t2 = some .string)
  (hz : H4 C.P T = some zs) (hcz : C.P.cellsOf T = zs.length) (hzne : zs ≠ []) (hz0 : A0 0 zs)
  (ha : I1 x.σ ta = .raw (.slice ad k k)) (hb : I1 x.σ tb = b') (hC : CellsAt x.B ad cs) (hcs : cs.length = k * zs.length)
  (hsrc : ∀ B hs, BExt x.B B → (∀ i ∈ fb, hget hs i = hget x.hs i) → ∃ c, O6 B hs zs.length b' = some (m, news, c) ∧ c) (hone : G2 news = true) (hn0 : A0 0 news) (h0 : 0 < m)
  (hmax : k + m ≤ maxLen) (hby : (k + m) * C.P.bytesOf T ≤ 140737488355328) (hold : C.olds.length ≤ 100000 + d) (hdep : Bc4 ops [i] ord = true)
  (hck : Ck ((i, o, { dst := o.dst, v := .any, ups := [(100000 + d, none)], a := 0, looks := [ta, tb] ++ G6 ops o.guard, foot := fb, nm := [100000 + d] }, true) :: acc).reverse)
  (hk : ∀ l', lOk zs (k + m) l' → DT C Q ops st ((i, o, { dst := o.dst, v := lE (100000 + d) (k + m) l', ups := [(100000 + d, lO T (cs.map D9 ++ news) l')], a := 0, looks := [ta, tb] ++ G6 ops o.guard, foot := fb, nm := [100000 + d] }, true) :: acc) ord
   { σ := put x.σ o.dst (lE (100000 + d) (k + m) l'), n := x.n, hs := (100000 + d, lO T (cs.map D9 ++ news) l') :: x.hs, B := x.B, ms := x.ms }) : Bv8 C Q ops st acc i o ord x := by
 intro ho hrun hd hin
 refine Ch5 (sm := true) (S := Lst) (R := fun l' _ => lOk zs (k + m) l') ho hd hdep (R0 (fun t ht => by simp [ht]) hrun (K := fun y z => ∃ s B', Gon true y.B B' ∧ lOk zs (k + m) s ∧ Alike z (Ef.appB { dst := o.dst, v := lE (100000 + d) (k + m) s, ups := [(100000 + d, lO T (cs.map D9 ++ news) s)], a := 0, looks := [ta, tb] ++ G6 ops o.guard, foot := fb, nm := [100000 + d] } B' y)) (fun y hy => ?_)) hck (fun _ => ⟨rfl, rfl, rfl, rfl, rfl, rfl⟩) (fun s B' hB hR => ?_)
 ·obtain ⟨c', hs1, hs2⟩ := hsrc y.B y.hs hy.B (fun j hj => hy.hs j hj)
  refine S8 (Bj0 (100000 + d) k hop ht ht2 hz hcz hzne hz0 (a := .tmp ta) (b := .tmp tb) (x := y) (by simp only [ev]; rw [hy.σ ta (by simp)]; exact ha) (by simp only [ev]; rw [hy.σ tb (by simp)]; exact hb) (hC.ext hy.B) hcs hs1 hs2 hone hn0 h0 hmax hby hd (hy.nm _ (by simp)) hold) ?_
  rintro z ⟨l', h1, h2⟩
  exact ⟨l', y.B, rfl, h1, h2⟩
 ·have hB : B' = x.B := hB
  subst hB
  exact hk s hR
end Go.Ew
