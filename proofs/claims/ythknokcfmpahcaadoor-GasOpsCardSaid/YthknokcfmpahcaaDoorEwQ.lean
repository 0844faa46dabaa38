/- Functions that hand new blocks back. -/
import Derived.Test.YthknokcfmpahcaaDoorEwP
set_option linter.unusedSimpArgs false
set_option linter.unusedVariables false
namespace Go.Ew
open Go RowKit
mutual
/-- The same value, its blocks' names k further on. -/
def up (k : Nat) : EV → EV
  | .ptr i off => .ptr (i + k) off
  | .sl i off len cap => .sl (i + k) off len cap
  | .mp i => .mp (i + k)
  | .fn f a b => .fn f (ups k a) (ups k b)
  | .agg cs => .agg (ups k cs)
  | .tup vs => .tup (ups k vs)
  | .ifc t v => .ifc t (up k v)
  | v => v
def ups (k : Nat) : List EV → List EV
  | [] => []
  | v :: vs => up k v :: ups k vs
end
mutual
theorem real_up (bs : Nat → Nat) (k : Nat) : ∀ v, real bs (up k v) = real (fun i => bs (i + k)) v
  | .any => by simp [up, real]
  | .int _ _ => by simp [up, real]
  | .bool _ => by simp [up, real]
  | .str _ => by simp [up, real]
  | .ptr i off => by simp [up, real]
  | .sl i off len cap => by simp [up, real]
  | .mp i => by simp [up, real]
  | .fn f a b => by simp [up, real, reals_up bs k a, reals_up bs k b]
  | .agg cs => by simp [up, real, reals_up bs k cs]
  | .tup vs => by simp [up, real, reals_up bs k vs]
  | .ifc t v => by simp [up, real, real_up bs k v]
  | .raw v => by simp [up, real]
theorem reals_up (bs : Nat → Nat) (k : Nat) : ∀ l, reals bs (ups k l) = reals (fun i => bs (i + k)) l
  | [] => by simp [ups, reals]
  | v :: vs => by simp [ups, reals, real_up bs k v, reals_up bs k vs]
end
mutual
theorem closed_up {n k : Nat} : ∀ v, closed n v → closed (n + k) (up k v)
  | .any, _ => by simp [up, closed]
  | .int _ _, _ => by simp [up, closed]
  | .bool _, _ => by simp [up, closed]
  | .str _, _ => by simp [up, closed]
  | .ptr i off, h => by simp only [up, closed] at h ⊢; omega
  | .sl i off len cap, h => by simp only [up, closed] at h ⊢; omega
  | .mp i, h => by simp only [up, closed] at h ⊢; omega
  | .fn f a b, h => by simp only [up, closed] at h ⊢; exact ⟨closeds_up a h.1, closeds_up b h.2⟩
  | .agg cs, h => by simp only [up, closed] at h ⊢; exact closeds_up cs h
  | .tup vs, h => by simp only [up, closed] at h ⊢; exact closeds_up vs h
  | .ifc t v, h => by simp only [up, closed] at h ⊢; exact closed_up v h
  | .raw v, _ => by simp [up, closed]
theorem closeds_up {n k : Nat} : ∀ l, closeds n l → closeds (n + k) (ups k l)
  | [], _ => by simp [ups, closeds]
  | v :: vs, h => by simp only [ups, closeds] at h ⊢; exact ⟨closed_up v h.1, closeds_up vs h.2⟩
end
def EObj.up (k : Nat) : EObj → EObj
  | .cells cs T fr => .cells (ups k cs) T fr
  | .obj o => .obj o
theorem EObj.real_up (bs : Nat → Nat) (k : Nat) (o : EObj) : (o.up k).real bs = o.real (fun i => bs (i + k)) := by
  cases o <;> simp [EObj.up, EObj.real, reals_up]
theorem EObj.closed_up {n k : Nat} (o : EObj) (h : o.closed n) : (o.up k).closed (n + k) := by
  cases o <;> simp_all [EObj.up, EObj.closed, closeds_up]
/-- It returns v; the blocks os are new; of what was there nothing has turned. -/
def RetN (v : EV) (os : List EObj) (w : World) (e : Ending) (w' : World) : Prop :=
  ∃ bs, e = .returned (real bs v) ∧ Below w.heap.size w w' ∧ (∀ i o, os[i]? = some o → w.heap.size ≤ bs i ∧ w'.heap[bs i]? = some (o.real bs)) ∧ (∀ i j, i < os.length → j < os.length → bs i = bs j → i = j)
def addBlks (k : Nat) : Nat → List EObj → List (Nat × Option EObj) → List (Nat × Option EObj)
  | _, [], hs => hs
  | n, o :: os, hs => addBlks k (n + 1) os ((n, some (o.up k)) :: hs)
theorem hget_addBlks (k : Nat) : ∀ (os : List EObj) (n : Nat) (hs : List (Nat × Option EObj)) (i : Nat), hget (addBlks k n os hs) i = if n ≤ i ∧ i < n + os.length then (os[i - n]?).map (EObj.up k) else hget hs i
  | [], n, hs, i => by
    simp only [addBlks, List.length_nil, Nat.add_zero]
    rw [if_neg (by omega)]
  | o :: os, n, hs, i => by
    rw [addBlks, hget_addBlks k os (n + 1), List.length_cons, hget_cons]
    by_cases e : n = i
    · subst e
      rw [if_neg (by omega), if_pos rfl, if_pos (by omega)]; simp
    · rw [if_neg e]
      by_cases h : n + 1 ≤ i ∧ i < n + 1 + os.length
      · rw [if_pos h, if_pos (by omega), show i - n = (i - (n + 1)) + 1 by omega]; simp
      · rw [if_neg h, if_neg (by omega)]
theorem new_calls {P : Program} {f : FuncId} {fn : Func} {c : Code} {w : World} (v0 : EV) (os : List EObj) (args : List EV)
    (hf : P.funcs[f]? = some fn) (hb : fn.body = some c) (hin : codeIn fn.ntmps c = true) (hl : args.length ≤ fn.ntmps) (hcl : closeds 0 args)
    (h : Next (cx0 P fn.ntmps w) (retE (cx0 P fn.ntmps w) fn.results.toList (fun v x => x.B = base w ∧ v = v0 ∧ ∀ i o, os[i]? = some o → hget x.hs i = some o)) [.c c] ⟨argσ 0 args, 0, [], base w, []⟩) :
    Calls P f (reals (fun _ => 0) args).toArray w (RetN v0 os w) := by
  have := calls_of (C := cx0 P fn.ntmps w) (K := fun v x => x.B = base w ∧ v = v0 ∧ ∀ i o, os[i]? = some o → hget x.hs i = some o) rfl hf hb rfl hin hl (HRel.start (fun _ => 0)) hcl h
  refine this.mono ?_
  rintro e w' ⟨v, x', bs', rfl, _, hh, hB, rfl, hk⟩
  rw [hB] at hh
  refine ⟨bs', rfl, hh.below, fun i o ho => ⟨?_, (hh.live i o (hk i o ho)).2⟩, fun i j hi hj hb => ?_⟩
  · have := hh.new i o (hk i o ho)
    simp only [base] at this; omega
  · exact hh.inj i j _ _ (hk i _ (List.getElem?_eq_getElem hi)) (hk j _ (List.getElem?_eq_getElem hj)) hb
theorem callS_new {C : Cx} {Q : Exit → X → Prop} {f : FuncId} {args : List EV} {dst : Option Tmp} {st : List It} {x : X} (v : EV) (os : List EObj) (hE : Enters C.P f) (hcl : closed os.length v) (hos : ∀ o ∈ os, o.closed os.length)
    (h : ∀ bs w, HRel C x.B x.n x.hs bs w → Calls C.P f (reals bs args).toArray w (RetN v os w))
    (hk : Next C Q st { σ := put x.σ dst (up x.n v), n := os.length + x.n, hs := addBlks x.n x.n os x.hs, B := x.B, ms := x.ms }) : callS C Q f args dst st x := by
  refine fun _ => .inl ⟨hE, ?_⟩
  intro bs w hh _
  refine (h bs w hh).mono ?_
  rintro e w' ⟨bs', rfl, hb, hnew, hinj⟩
  obtain ⟨bs2, hbs2⟩ : ∃ bs2 : Nat → Nat, bs2 = fun i => if i < x.n then bs i else bs' (i - x.n) := ⟨_, rfl⟩
  have hlow : ∀ i, i < x.n → bs2 i = bs i := fun i hi => by rw [hbs2]; simp [hi]
  have hup : (fun i => bs2 (i + x.n)) = bs' := by funext i; rw [hbs2]; simp [show ¬ i + x.n < x.n by omega]
  have hhi : ∀ i, x.n ≤ i → bs2 i = bs' (i - x.n) := fun i hi => by rw [hbs2]; simp [Nat.not_lt.2 hi]
  have hl := hh.later hb
  -- each entry is an old one or a new one
  have hent : ∀ i o, hget (addBlks x.n x.n os x.hs) i = some o → (i < x.n ∧ hget x.hs i = some o) ∨ (x.n ≤ i ∧ i - x.n < os.length ∧ ∃ o', os[i - x.n]? = some o' ∧ o = o'.up x.n) := by
    intro i o hi
    rw [hget_addBlks] at hi
    split at hi
    · rename_i hc
      obtain ⟨o', ho', rfl⟩ := Option.map_eq_some_iff.1 hi
      exact .inr ⟨hc.1, by omega, o', ho', rfl⟩
    · exact .inl ⟨(hh.live i o hi).1, hi⟩
  refine ⟨up x.n v, os.length + x.n, addBlks x.n x.n os x.hs, bs2, by rw [real_up, hup], hlow, by omega, closed_up v hcl, ?_, hk⟩
  refine ⟨?_, ?_, ?_, ?_, ?_, hl.frame, hl.os, hl.tape, hl.output, hl.hsize, ?_, hl.frameE, hl.apart, hl.eo⟩
  · intro i o hi
    rcases hent i o hi with ⟨h1, h2⟩ | ⟨h1, h2, o', h3, rfl⟩
    · refine ⟨by omega, ?_⟩
      rw [hlow i h1, EObj.real_congr hlow o (hh.cl i o h2)]
      exact (hl.live i o h2).2
    · refine ⟨by omega, ?_⟩
      rw [hhi i h1, EObj.real_up, hup]
      exact (hnew _ _ h3).2
  · intro i o hi
    rcases hent i o hi with ⟨h1, h2⟩ | ⟨h1, h2, o', h3, rfl⟩
    · exact EObj.closed_mono (by omega) o (hh.cl i o h2)
    · exact EObj.closed_up o' (hos o' (List.mem_of_getElem? h3))
  · intro i j oi oj hi hj hbb
    rcases hent i oi hi with ⟨h1, h2⟩ | ⟨h1, h2, o', h3, rfl⟩ <;> rcases hent j oj hj with ⟨k1, k2⟩ | ⟨k1, k2, o'', k3, rfl⟩
    · rw [hlow i h1, hlow j k1] at hbb
      exact hh.inj i j oi oj h2 k2 hbb
    · rw [hlow i h1, hhi j k1] at hbb
      have := heap_lt (hh.live i oi h2).2
      have := (hnew _ _ k3).1
      omega
    · rw [hhi i h1, hlow j k1] at hbb
      have := heap_lt (hh.live j oj k2).2
      have := (hnew _ _ h3).1
      omega
    · rw [hhi i h1, hhi j k1] at hbb
      have := hinj _ _ h2 k2 hbb
      omega
  · intro i b hi
    obtain ⟨h1, h2⟩ := hh.old i b hi
    exact ⟨by rw [hlow i h2]; exact h1, by omega⟩
  · intro i o hi
    rcases hent i o hi with ⟨h1, h2⟩ | ⟨h1, h2, o', h3, rfl⟩
    · rw [hlow i h1]; exact hh.new i o h2
    · rw [hhi i h1]
      intro hD
      have := (hh.frame _ hD).1
      have := (hnew _ _ h3).1
      omega
  · intro i o hi
    rcases hent i o hi with ⟨h1, h2⟩ | ⟨h1, h2, o', h3, rfl⟩
    · rw [hlow i h1]; exact hh.newE i o h2
    · rw [hhi i h1]
      intro hD
      have := (hh.frameE _ hD).1
      have := (hnew _ _ h3).1
      omega
attribute [go_sem] up ups EObj.up addBlks
end Go.Ew
namespace Go.Ew
theorem base_w (W : World) : (base W).w = W := rfl
theorem base_D (W : World) (b : Nat) : (base W).D b = (b < W.heap.size) := rfl
attribute [go_sem] base_w base_D
end Go.Ew
attribute [go_sem] Go.Ew.assignQ Go.Ew.binds Go.Ew.roundQ
