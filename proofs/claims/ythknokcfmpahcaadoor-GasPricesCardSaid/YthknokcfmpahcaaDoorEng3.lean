/- An engine for walks, part 3 of a proof over the seat YthknokcfmpahcaaDoor. -/
import Derived.Test.YthknokcfmpahcaaDoorEng2
import Derived.Deep.AppendSrc
import Derived.Lib.ConvBytes
import Derived.Lib.BitFns
/- Functions that hand new blocks back. -/
set_option linter.unusedSimpArgs false
set_option linter.unusedVariables false
namespace Go.Ew
open Go RowKit
mutual
/-- The same value, its blocks' names k further on. -/
def up (k : Nat) : EV → EV
  | .ptr i off => .ptr (i + k) off
  | .sl i off len cap => .sl (i + k) off len cap
  | .mp i => .mp (i + k)
  | .fn f a b => .fn f (ups k a) (ups k b)
  | .agg cs => .agg (ups k cs)
  | .tup vs => .tup (ups k vs)
  | .ifc t v => .ifc t (up k v)
  | v => v
def ups (k : Nat) : List EV → List EV
  | [] => []
  | v :: vs => up k v :: ups k vs
end
mutual
theorem real_up (bs : Nat → Nat) (k : Nat) : ∀ v, real bs (up k v) = real (fun i => bs (i + k)) v
  | .any => by simp [up, real]
  | .int _ _ => by simp [up, real]
  | .bool _ => by simp [up, real]
  | .str _ => by simp [up, real]
  | .ptr i off => by simp [up, real]
  | .sl i off len cap => by simp [up, real]
  | .mp i => by simp [up, real]
  | .fn f a b => by simp [up, real, reals_up bs k a, reals_up bs k b]
  | .agg cs => by simp [up, real, reals_up bs k cs]
  | .tup vs => by simp [up, real, reals_up bs k vs]
  | .ifc t v => by simp [up, real, real_up bs k v]
  | .raw v => by simp [up, real]
theorem reals_up (bs : Nat → Nat) (k : Nat) : ∀ l, reals bs (ups k l) = reals (fun i => bs (i + k)) l
  | [] => by simp [ups, reals]
  | v :: vs => by simp [ups, reals, real_up bs k v, reals_up bs k vs]
end
mutual
theorem closed_up {n k : Nat} : ∀ v, closed n v → closed (n + k) (up k v)
  | .any, _ => by simp [up, closed]
  | .int _ _, _ => by simp [up, closed]
  | .bool _, _ => by simp [up, closed]
  | .str _, _ => by simp [up, closed]
  | .ptr i off, h => by simp only [up, closed] at h ⊢; omega
  | .sl i off len cap, h => by simp only [up, closed] at h ⊢; omega
  | .mp i, h => by simp only [up, closed] at h ⊢; omega
  | .fn f a b, h => by simp only [up, closed] at h ⊢; exact ⟨closeds_up a h.1, closeds_up b h.2⟩
  | .agg cs, h => by simp only [up, closed] at h ⊢; exact closeds_up cs h
  | .tup vs, h => by simp only [up, closed] at h ⊢; exact closeds_up vs h
  | .ifc t v, h => by simp only [up, closed] at h ⊢; exact closed_up v h
  | .raw v, _ => by simp [up, closed]
theorem closeds_up {n k : Nat} : ∀ l, closeds n l → closeds (n + k) (ups k l)
  | [], _ => by simp [ups, closeds]
  | v :: vs, h => by simp only [ups, closeds] at h ⊢; exact ⟨closed_up v h.1, closeds_up vs h.2⟩
end
def EObj.up (k : Nat) : EObj → EObj
  | .cells cs T fr => .cells (ups k cs) T fr
  | .obj o => .obj o
theorem EObj.real_up (bs : Nat → Nat) (k : Nat) (o : EObj) : (o.up k).real bs = o.real (fun i => bs (i + k)) := by
  cases o <;> simp [EObj.up, EObj.real, reals_up]
theorem EObj.closed_up {n k : Nat} (o : EObj) (h : o.closed n) : (o.up k).closed (n + k) := by
  cases o <;> simp_all [EObj.up, EObj.closed, closeds_up]
/-- It returns v; the blocks os are new; of what was there nothing has turned. -/
def RetN (v : EV) (os : List EObj) (w : World) (e : Ending) (w' : World) : Prop :=
  ∃ bs, e = .returned (real bs v) ∧ Below w.heap.size w w' ∧ (∀ i o, os[i]? = some o → w.heap.size ≤ bs i ∧ w'.heap[bs i]? = some (o.real bs)) ∧ (∀ i j, i < os.length → j < os.length → bs i = bs j → i = j)
def addBlks (k : Nat) : Nat → List EObj → List (Nat × Option EObj) → List (Nat × Option EObj)
  | _, [], hs => hs
  | n, o :: os, hs => addBlks k (n + 1) os ((n, some (o.up k)) :: hs)
theorem hget_addBlks (k : Nat) : ∀ (os : List EObj) (n : Nat) (hs : List (Nat × Option EObj)) (i : Nat), hget (addBlks k n os hs) i = if n ≤ i ∧ i < n + os.length then (os[i - n]?).map (EObj.up k) else hget hs i
  | [], n, hs, i => by
    simp only [addBlks, List.length_nil, Nat.add_zero]
    rw [if_neg (by omega)]
  | o :: os, n, hs, i => by
    rw [addBlks, hget_addBlks k os (n + 1), List.length_cons, hget_cons]
    by_cases e : n = i
    · subst e
      rw [if_neg (by omega), if_pos rfl, if_pos (by omega)]; simp
    · rw [if_neg e]
      by_cases h : n + 1 ≤ i ∧ i < n + 1 + os.length
      · rw [if_pos h, if_pos (by omega), show i - n = (i - (n + 1)) + 1 by omega]; simp
      · rw [if_neg h, if_neg (by omega)]
theorem new_calls {P : Program} {f : FuncId} {fn : Func} {c : Code} {w : World} (v0 : EV) (os : List EObj) (args : List EV)
    (hf : P.funcs[f]? = some fn) (hb : fn.body = some c) (hin : codeIn fn.ntmps c = true) (hl : args.length ≤ fn.ntmps) (hcl : closeds 0 args)
    (h : Next (cx0 P fn.ntmps w) (retE (cx0 P fn.ntmps w) fn.results.toList (fun v x => x.B = base w ∧ v = v0 ∧ ∀ i o, os[i]? = some o → hget x.hs i = some o)) [.c c] ⟨argσ 0 args, 0, [], base w, []⟩) :
    Calls P f (reals (fun _ => 0) args).toArray w (RetN v0 os w) := by
  have := calls_of (C := cx0 P fn.ntmps w) (K := fun v x => x.B = base w ∧ v = v0 ∧ ∀ i o, os[i]? = some o → hget x.hs i = some o) rfl hf hb rfl hin hl (HRel.start (fun _ => 0)) hcl h
  refine this.mono ?_
  rintro e w' ⟨v, x', bs', rfl, _, hh, hB, rfl, hk⟩
  rw [hB] at hh
  refine ⟨bs', rfl, hh.below, fun i o ho => ⟨?_, (hh.live i o (hk i o ho)).2⟩, fun i j hi hj hb => ?_⟩
  · have := hh.new i o (hk i o ho)
    simp only [base] at this; omega
  · exact hh.inj i j _ _ (hk i _ (List.getElem?_eq_getElem hi)) (hk j _ (List.getElem?_eq_getElem hj)) hb
theorem ecalls_new {C : Cx} {f : FuncId} {args : List EV} {x : X} {K : EV → Nat → List (Nat × Option EObj) → Prop} (v : EV) (os : List EObj) (hcl : closed os.length v) (hos : ∀ o ∈ os, o.closed os.length)
    (h : ∀ bs w, HRel C x.B x.n x.hs bs w → Calls C.P f (reals bs args).toArray w (RetN v os w))
    (hk : K (up x.n v) (os.length + x.n) (addBlks x.n x.n os x.hs)) : ECalls C f args x K := by
  intro bs w hh _
  refine (h bs w hh).mono ?_
  rintro e w' ⟨bs', rfl, hb, hnew, hinj⟩
  obtain ⟨bs2, hbs2⟩ : ∃ bs2 : Nat → Nat, bs2 = fun i => if i < x.n then bs i else bs' (i - x.n) := ⟨_, rfl⟩
  have hlow : ∀ i, i < x.n → bs2 i = bs i := fun i hi => by rw [hbs2]; simp [hi]
  have hup : (fun i => bs2 (i + x.n)) = bs' := by funext i; rw [hbs2]; simp [show ¬ i + x.n < x.n by omega]
  have hhi : ∀ i, x.n ≤ i → bs2 i = bs' (i - x.n) := fun i hi => by rw [hbs2]; simp [Nat.not_lt.2 hi]
  have hl := hh.later hb
  -- each entry is an old one or a new one
  have hent : ∀ i o, hget (addBlks x.n x.n os x.hs) i = some o → (i < x.n ∧ hget x.hs i = some o) ∨ (x.n ≤ i ∧ i - x.n < os.length ∧ ∃ o', os[i - x.n]? = some o' ∧ o = o'.up x.n) := by
    intro i o hi
    rw [hget_addBlks] at hi
    split at hi
    · rename_i hc
      obtain ⟨o', ho', rfl⟩ := Option.map_eq_some_iff.1 hi
      exact .inr ⟨hc.1, by omega, o', ho', rfl⟩
    · exact .inl ⟨(hh.live i o hi).1, hi⟩
  refine ⟨up x.n v, os.length + x.n, addBlks x.n x.n os x.hs, bs2, by rw [real_up, hup], hlow, by omega, closed_up v hcl, ?_, hk⟩
  refine ⟨?_, ?_, ?_, ?_, ?_, hl.frame, hl.os, hl.tape, hl.output, hl.hsize, ?_, hl.frameE, hl.apart, hl.eo⟩
  · intro i o hi
    rcases hent i o hi with ⟨h1, h2⟩ | ⟨h1, h2, o', h3, rfl⟩
    · refine ⟨by omega, ?_⟩
      rw [hlow i h1, EObj.real_congr hlow o (hh.cl i o h2)]
      exact (hl.live i o h2).2
    · refine ⟨by omega, ?_⟩
      rw [hhi i h1, EObj.real_up, hup]
      exact (hnew _ _ h3).2
  · intro i o hi
    rcases hent i o hi with ⟨h1, h2⟩ | ⟨h1, h2, o', h3, rfl⟩
    · exact EObj.closed_mono (by omega) o (hh.cl i o h2)
    · exact EObj.closed_up o' (hos o' (List.mem_of_getElem? h3))
  · intro i j oi oj hi hj hbb
    rcases hent i oi hi with ⟨h1, h2⟩ | ⟨h1, h2, o', h3, rfl⟩ <;> rcases hent j oj hj with ⟨k1, k2⟩ | ⟨k1, k2, o'', k3, rfl⟩
    · rw [hlow i h1, hlow j k1] at hbb
      exact hh.inj i j oi oj h2 k2 hbb
    · rw [hlow i h1, hhi j k1] at hbb
      have := heap_lt (hh.live i oi h2).2
      have := (hnew _ _ k3).1
      omega
    · rw [hhi i h1, hlow j k1] at hbb
      have := heap_lt (hh.live j oj k2).2
      have := (hnew _ _ h3).1
      omega
    · rw [hhi i h1, hhi j k1] at hbb
      have := hinj _ _ h2 k2 hbb
      omega
  · intro i b hi
    obtain ⟨h1, h2⟩ := hh.old i b hi
    exact ⟨by rw [hlow i h2]; exact h1, by omega⟩
  · intro i o hi
    rcases hent i o hi with ⟨h1, h2⟩ | ⟨h1, h2, o', h3, rfl⟩
    · rw [hlow i h1]; exact hh.new i o h2
    · rw [hhi i h1]
      intro hD
      have := (hh.frame _ hD).1
      have := (hnew _ _ h3).1
      omega
  · intro i o hi
    rcases hent i o hi with ⟨h1, h2⟩ | ⟨h1, h2, o', h3, rfl⟩
    · rw [hlow i h1]; exact hh.newE i o h2
    · rw [hhi i h1]
      intro hD
      have := (hh.frameE _ hD).1
      have := (hnew _ _ h3).1
      omega
theorem callS_new {C : Cx} {Q : Exit → X → Prop} {f : FuncId} {args : List EV} {dst : Option Tmp} {st : List It} {x : X} (v : EV) (os : List EObj) (hE : Enters C.P f) (hcl : closed os.length v) (hos : ∀ o ∈ os, o.closed os.length)
    (h : ∀ bs w, HRel C x.B x.n x.hs bs w → Calls C.P f (reals bs args).toArray w (RetN v os w))
    (hk : Next C Q st { σ := put x.σ dst (up x.n v), n := os.length + x.n, hs := addBlks x.n x.n os x.hs, B := x.B, ms := x.ms }) : callS C Q f args dst st x :=
  fun _ => .inl (.inl ⟨hE, ecalls_new v os hcl hos h hk⟩)
theorem callD_new {C : Cx} {Q : Exit → X → Prop} {ops : List Oper} {st : List It} {f : FuncId} {args : List EV} {acc : List (Nat × Oper × Ef)} {k : Nat} {o : Oper} {rest : List Oper} {x : X} (v : EV) (os : List EObj) (foot : List Nat) (hE : Enters C.P f) (hcl : closed os.length v) (hos : ∀ o ∈ os, o.closed os.length) (hne : os ≠ [])
    (h : ∀ (y : X) bs w, y.B = x.B → (∀ i ∈ foot, hget y.hs i = hget x.hs i) → HRel C y.B y.n y.hs bs w → Calls C.P f (reals bs args).toArray w (RetN v os w))
    (hk : allIn C.N rest = true → DG C Q ops st ((k, o, { dst := o.dst, v := up x.n v, ups := addBlks x.n x.n os [], a := os.length, looks := opLooks o.op ++ gLook ops o.guard, foot := foot }) :: acc) (k + 1) rest { σ := put x.σ o.dst (up x.n v), n := x.n + os.length, hs := addBlks x.n x.n os [] ++ x.hs, B := x.B, ms := x.ms }) :
    callD C Q ops st f args acc k o rest x := by
  refine .inr ⟨up x.n v, addBlks x.n x.n os [], os.length, foot, fun y hy => .inl ⟨hE, ?_⟩, hk⟩
  have hn : y.n = x.n := hy.n (by simpa using hne)
  refine ecalls_new v os hcl hos (fun bs w hh => h y bs w hy.B (fun i hi => hy.hs i hi) hh) ?_
  refine ⟨fun t => by simp only [Ef.app, hn], by simp only [Ef.app]; omega, fun i => ?_, rfl, rfl⟩
  simp only [Ef.app]
  rw [hget_app, hget_addBlks, hget_addBlks, hn]
  have hkeys : ∀ (os : List EObj) (n m : Nat) (hs : List (Nat × Option EObj)), i ∈ hkeys (addBlks m n os hs) ↔ (n ≤ i ∧ i < n + os.length) ∨ i ∈ hkeys hs := by
    intro os
    induction os with
    | nil =>
      intro n m hs
      simp only [addBlks, List.length_nil]
      constructor
      · exact .inr
      · rintro (h | h)
        · omega
        · exact h
    | cons o os ih =>
      intro n m hs
      rw [addBlks, ih]; simp only [hkeys, List.mem_cons, List.length_cons]
      constructor
      · rintro (h | h | h)
        · exact .inl (by omega)
        · exact .inl (by omega)
        · exact .inr h
      · rintro (h | h)
        · by_cases e : i = n
          · exact .inr (.inl e)
          · exact .inl (by omega)
        · exact .inr (.inr h)
  by_cases hi : x.n ≤ i ∧ i < x.n + os.length
  · rw [if_pos hi, if_pos ((hkeys _ _ _ _).2 (.inl hi)), if_pos hi]
  · rw [if_neg hi, if_neg (fun hm => ((hkeys _ _ _ []).1 hm).elim hi (fun h => absurd (show i ∈ ([] : List Nat) from h) (by simp)))]
attribute [go_sem] up ups EObj.up addBlks
end Go.Ew
namespace Go.Ew
theorem base_w (W : World) : (base W).w = W := rfl
theorem base_D (W : World) (b : Nat) : (base W).D b = (b < W.heap.size) := rfl
attribute [go_sem] base_w base_D
end Go.Ew
attribute [go_sem] Go.Ew.assignQ Go.Ew.binds Go.Ew.roundQ
/- Rows of numbers, by a function. -/
set_option linter.unusedSimpArgs false
set_option linter.unusedVariables false
namespace Go.Ew
open Go
/-- n cells of kind k. -/
def ints (k : IntKind) (x : Nat → Int) (n : Nat) : List EV := (List.range n).map fun i => EV.int k (x i)
def intsV (k : IntKind) (x : Nat → Int) (n : Nat) : List Value := (List.range n).map fun i => Value.int k (x i)
def setF (x : Nat → Int) (i : Nat) (v : Int) : Nat → Int := fun j => if j = i then v else x j
theorem ints_len (k : IntKind) (x : Nat → Int) (n : Nat) : (ints k x n).length = n := by simp [ints]
theorem intsV_len (k : IntKind) (x : Nat → Int) (n : Nat) : (intsV k x n).length = n := by simp [intsV]
theorem ints_get {k : IntKind} {x : Nat → Int} {n i : Nat} (h : i < n) : (ints k x n).getD i .any = .int k (x i) := by
  simp [ints, List.getD_eq_getElem?_getD, h]
theorem ints_set (k : IntKind) (x : Nat → Int) (n i : Nat) (v : Int) : (ints k x n).set i (.int k v) = ints k (setF x i v) n := by
  apply List.ext_getElem?
  intro j
  simp only [ints, List.getElem?_set, List.getElem?_map, List.length_map, List.length_range, setF]
  by_cases e : i = j
  · subst e
    by_cases h : i < n <;> simp [h]
  · simp only [e, if_false]
    by_cases h : j < n
    · simp [h, show ¬ j = i from fun h => e h.symm]
    · simp [h]
theorem ints_take (k : IntKind) (x : Nat → Int) (n : Nat) : (ints k x n).take n = ints k x n := List.take_of_length_le (by simp [ints])
theorem oneAll_ints (k : IntKind) (x : Nat → Int) (n : Nat) : oneAll (ints k x n) = true := by
  have : ∀ l : List Nat, oneAll (l.map fun i => EV.int k (x i)) = true := by
    intro l; induction l with
    | nil => rfl
    | cons a l ih => simp [oneAll, EV.one, ih]
  exact this _
theorem reals_ints (bs : Nat → Nat) (k : IntKind) (x : Nat → Int) (n : Nat) : reals bs (ints k x n) = intsV k x n := by
  rw [reals_eq]; simp [ints, intsV, Function.comp_def, real]
theorem closeds_ints (m : Nat) (k : IntKind) (x : Nat → Int) (n : Nat) : closeds m (ints k x n) := by
  rw [closeds_iff]; intro v hv
  obtain ⟨i, _, rfl⟩ := List.mem_map.1 hv
  trivial
theorem intsV_congr {k : IntKind} {x y : Nat → Int} {n : Nat} (h : ∀ i, i < n → x i = y i) : intsV k x n = intsV k y n :=
  List.map_congr_left fun i hi => by rw [h i (by simpa using hi)]
theorem ints_congr {k : IntKind} {x y : Nat → Int} {n : Nat} (h : ∀ i, i < n → x i = y i) : ints k x n = ints k y n :=
  List.map_congr_left fun i hi => by rw [h i (by simpa using hi)]
theorem splice_ints (k : IntKind) (x y : Nat → Int) (n : Nat) : splice (ints k x n) 0 (ints k y n) = ints k y n := by
  unfold splice
  split
  · rename_i v he
    have hn : n = 1 := by have := congrArg List.length he; simpa [ints] using this
    subst hn
    simp only [ints, List.range_one, List.map_cons, List.map_nil, List.cons.injEq] at he ⊢
    simp [he.1]
  · simp [ints, List.drop_eq_nil_of_le]
theorem avs_ints (r : Nat) (k : IntKind) (x : Nat → Int) (n : Nat) : avs r (ints k x n) := avs_closed (n := 0) (Nat.zero_le _) _ (closeds_ints 0 k x n)
attribute [go_sem] avs_ints
attribute [go_sem] ints_len ints_get ints_set ints_take oneAll_ints
attribute [go_sem] splice_ints
end Go.Ew
attribute [go_sem] List.append_eq
/- Contracts of functions that turn blocks that were there and hand new ones back, told by a parameter; states under other names. -/
set_option linter.unusedSimpArgs false
set_option linter.unusedVariables false
namespace Go.Ew
open Go RowKit
mutual
/-- The same value under other names. -/
def ren (ρ : Nat → Nat) : EV → EV
  | .ptr i off => .ptr (ρ i) off
  | .sl i off len cap => .sl (ρ i) off len cap
  | .mp i => .mp (ρ i)
  | .fn f a b => .fn f (rens ρ a) (rens ρ b)
  | .agg cs => .agg (rens ρ cs)
  | .tup vs => .tup (rens ρ vs)
  | .ifc t v => .ifc t (ren ρ v)
  | v => v
def rens (ρ : Nat → Nat) : List EV → List EV
  | [] => []
  | v :: vs => ren ρ v :: rens ρ vs
end
mutual
theorem real_ren (bs ρ : Nat → Nat) : ∀ v, real bs (ren ρ v) = real (fun i => bs (ρ i)) v
  | .any => by simp [ren, real]
  | .int _ _ => by simp [ren, real]
  | .bool _ => by simp [ren, real]
  | .str _ => by simp [ren, real]
  | .ptr i off => by simp [ren, real]
  | .sl i off len cap => by simp [ren, real]
  | .mp i => by simp [ren, real]
  | .fn f a b => by simp [ren, real, reals_ren bs ρ a, reals_ren bs ρ b]
  | .agg cs => by simp [ren, real, reals_ren bs ρ cs]
  | .tup vs => by simp [ren, real, reals_ren bs ρ vs]
  | .ifc t v => by simp [ren, real, real_ren bs ρ v]
  | .raw v => by simp [ren, real]
theorem reals_ren (bs ρ : Nat → Nat) : ∀ l, reals bs (rens ρ l) = reals (fun i => bs (ρ i)) l
  | [] => by simp [rens, reals]
  | v :: vs => by simp [rens, reals, real_ren bs ρ v, reals_ren bs ρ vs]
end
mutual
theorem closed_ren {n m : Nat} {ρ : Nat → Nat} (hρ : ∀ i, i < n → ρ i < m) : ∀ v, closed n v → closed m (ren ρ v)
  | .any, _ => by simp [ren, closed]
  | .int _ _, _ => by simp [ren, closed]
  | .bool _, _ => by simp [ren, closed]
  | .str _, _ => by simp [ren, closed]
  | .ptr i off, h => by simp only [ren, closed] at h ⊢; exact hρ i h
  | .sl i off len cap, h => by simp only [ren, closed] at h ⊢; exact hρ i h
  | .mp i, h => by simp only [ren, closed] at h ⊢; exact hρ i h
  | .fn f a b, h => by simp only [ren, closed] at h ⊢; exact ⟨closeds_ren hρ a h.1, closeds_ren hρ b h.2⟩
  | .agg cs, h => by simp only [ren, closed] at h ⊢; exact closeds_ren hρ cs h
  | .tup vs, h => by simp only [ren, closed] at h ⊢; exact closeds_ren hρ vs h
  | .ifc t v, h => by simp only [ren, closed] at h ⊢; exact closed_ren hρ v h
  | .raw v, _ => by simp [ren, closed]
theorem closeds_ren {n m : Nat} {ρ : Nat → Nat} (hρ : ∀ i, i < n → ρ i < m) : ∀ l, closeds n l → closeds m (rens ρ l)
  | [], _ => by simp [rens, closeds]
  | v :: vs, h => by simp only [rens, closeds] at h ⊢; exact ⟨closed_ren hρ v h.1, closeds_ren hρ vs h.2⟩
end
mutual
theorem ren_id {n : Nat} {ρ : Nat → Nat} (hρ : ∀ i, i < n → ρ i = i) : ∀ v, closed n v → ren ρ v = v
  | .any, _ => by simp [ren]
  | .int _ _, _ => by simp [ren]
  | .bool _, _ => by simp [ren]
  | .str _, _ => by simp [ren]
  | .ptr i off, h => by simp only [closed] at h; simp only [ren, hρ i h]
  | .sl i off len cap, h => by simp only [closed] at h; simp only [ren, hρ i h]
  | .mp i, h => by simp only [closed] at h; simp only [ren, hρ i h]
  | .fn f a b, h => by simp only [closed] at h; simp only [ren, rens_id hρ a h.1, rens_id hρ b h.2]
  | .agg cs, h => by simp only [closed] at h; simp only [ren, rens_id hρ cs h]
  | .tup vs, h => by simp only [closed] at h; simp only [ren, rens_id hρ vs h]
  | .ifc t v, h => by simp only [closed] at h; simp only [ren, ren_id hρ v h]
  | .raw v, _ => by simp [ren]
theorem rens_id {n : Nat} {ρ : Nat → Nat} (hρ : ∀ i, i < n → ρ i = i) : ∀ l, closeds n l → rens ρ l = l
  | [], _ => by simp [rens]
  | v :: vs, h => by simp only [closeds] at h; simp only [rens, ren_id hρ v h.1, rens_id hρ vs h.2]
end
theorem rens_eq (ρ : Nat → Nat) (l : List EV) : rens ρ l = l.map (ren ρ) := by
  induction l with
  | nil => simp [rens]
  | cons v vs ih => simp [rens, ih]
theorem rens_zero (ρ : Nat → Nat) (l : List EV) (h : closeds 0 l) : rens ρ l = l := rens_id (n := 0) (fun i hi => absurd hi (by omega)) l h
def EObj.ren (ρ : Nat → Nat) : EObj → EObj
  | .cells cs T fr => .cells (rens ρ cs) T fr
  | .obj o => .obj o
theorem EObj.real_ren (bs ρ : Nat → Nat) (o : EObj) : (o.ren ρ).real bs = o.real (fun i => bs (ρ i)) := by
  cases o <;> simp [EObj.ren, EObj.real, reals_ren]
theorem EObj.closed_ren {n m : Nat} {ρ : Nat → Nat} (hρ : ∀ i, i < n → ρ i < m) (o : EObj) (h : o.closed n) : (o.ren ρ).closed m := by
  cases o with
  | cells cs T fr => exact closeds_ren hρ cs h
  | obj o => trivial
theorem EObj.ren_id {n : Nat} {ρ : Nat → Nat} (hρ : ∀ i, i < n → ρ i = i) (o : EObj) (h : o.closed n) : o.ren ρ = o := by
  cases o with
  | cells cs T fr => simp only [EObj.ren, rens_id hρ cs h]
  | obj o => rfl

/-! ### contracts -/
/-- It returns v; the blocks olds hold the first of os, new blocks the rest; of what else was there nothing has turned. -/
def RetW (olds : List Nat) (v : EV) (n : Nat) (os : List (Option EObj)) (w : World) (e : Ending) (w' : World) : Prop :=
  ∃ bs : Nat → Nat, e = .returned (real bs v) ∧ closed n v ∧ Stay (fun b => b < w.heap.size ∧ b ∉ olds) w w' ∧ (∀ i b, olds[i]? = some b → bs i = b) ∧
    (∀ i o, os[i]? = some (some o) → o.closed n ∧ w'.heap[bs i]? = some (o.real bs) ∧ (olds.length ≤ i → w.heap.size ≤ bs i)) ∧
    (∀ i j oi oj, os[i]? = some (some oi) → os[j]? = some (some oj) → bs i = bs j → i = j)
def oldH : Nat → List EObj → List (Nat × Option EObj)
  | _, [] => []
  | k, o :: os => (k, some o) :: oldH (k + 1) os
theorem hget_oldH : ∀ (os : List EObj) (k i : Nat), hget (oldH k os) i = if k ≤ i then os[i - k]? else none
  | [], k, i => by simp [oldH, hget]
  | o :: os, k, i => by
    rw [oldH, hget_cons, hget_oldH os (k + 1) i]
    by_cases e : k = i
    · subst e; simp
    · rw [if_neg e]
      by_cases h : k + 1 ≤ i
      · rw [if_pos h, if_pos (by omega), show i - k = (i - (k + 1)) + 1 by omega]; simp
      · rw [if_neg h, if_neg (by omega)]
def bsOf (olds : List Nat) : Nat → Nat := fun i => olds.getD i 0
def baseW (w : World) (olds : List Nat) : Base := ⟨w, fun b => b < w.heap.size ∧ b ∉ olds⟩
abbrev cxW (P : Program) (N : Nat) (w : World) (olds : List Nat) : Cx := ⟨P, N, none, olds, w, fun _ => False⟩
theorem bsOf_get {olds : List Nat} {i b : Nat} (h : olds[i]? = some b) : bsOf olds i = b := by simp [bsOf, List.getD_eq_getElem?_getD, h]
theorem HRel.startW {P : Program} {N : Nat} {w : World} {olds : List Nat} {objs : List EObj} (hl : objs.length = olds.length) (hnd : olds.Nodup)
    (h : ∀ (i b : Nat) (o : EObj), olds[i]? = some b → objs[i]? = some o → w.heap[b]? = some (o.real (bsOf olds)) ∧ o.closed olds.length) : HRel (cxW P N w olds) (baseW w olds) olds.length (oldH 0 objs) (bsOf olds) w := by
  have key : ∀ i o, hget (oldH 0 objs) i = some o → ∃ b, olds[i]? = some b ∧ objs[i]? = some o := by
    intro i o hi
    rw [hget_oldH] at hi
    simp only [Nat.zero_le, if_true, Nat.sub_zero] at hi
    have hlt : i < objs.length := by
      rcases Nat.lt_or_ge i objs.length with h | h
      · exact h
      · rw [List.getElem?_eq_none h] at hi; simp at hi
    exact ⟨olds[i]'(by omega), List.getElem?_eq_getElem (by omega), hi⟩
  have lt : ∀ i b, olds[i]? = some b → i < olds.length := by
    intro i b hi
    rcases Nat.lt_or_ge i olds.length with h | h
    · exact h
    · rw [List.getElem?_eq_none h] at hi; simp at hi
  refine ⟨?_, ?_, ?_, ?_, ?_, fun _ h => ⟨h.1, rfl⟩, rfl, rfl, rfl, Nat.le_refl _, fun _ _ _ h => h, fun _ h => h.elim, fun _ h => h.elim, Nat.le_refl _, rfl, rfl, rfl⟩
  · intro i o hi
    obtain ⟨b, hb, ho⟩ := key i o hi
    exact ⟨lt i b hb, by rw [bsOf_get hb]; exact (h i b o hb ho).1⟩
  · intro i o hi
    obtain ⟨b, hb, ho⟩ := key i o hi
    exact (h i b o hb ho).2
  · intro i j oi oj hi hj hbb
    obtain ⟨b, hb, ho⟩ := key i oi hi
    obtain ⟨b', hb', ho'⟩ := key j oj hj
    rw [bsOf_get hb, bsOf_get hb'] at hbb
    subst hbb
    exact (List.getElem?_inj (lt i b hb) hnd).1 (hb.trans hb'.symm)
  · intro i b hi
    exact ⟨bsOf_get hi, lt i b hi⟩
  · rintro i o hi ⟨_, hD⟩
    obtain ⟨b, hb, ho⟩ := key i o hi
    rw [bsOf_get hb] at hD
    exact hD (List.mem_of_getElem? hb)
theorem wr_calls {P : Program} {f : FuncId} {fn : Func} {c : Code} {w : World} {S : Type} (G : S → Prop) (vf : S → EV) (nf : S → Nat) (osf : S → List (Option EObj)) (olds : List Nat) (objs : List EObj) (args : List EV)
    (hf : P.funcs[f]? = some fn) (hb : fn.body = some c) (hin : codeIn fn.ntmps c = true) (hl : args.length ≤ fn.ntmps) (hcl : closeds olds.length args)
    (hlen : objs.length = olds.length) (hnd : olds.Nodup) (hh : ∀ (i b : Nat) (o : EObj), olds[i]? = some b → objs[i]? = some o → w.heap[b]? = some (o.real (bsOf olds)) ∧ o.closed olds.length)
    (h : Next (cxW P fn.ntmps w olds) (retE (cxW P fn.ntmps w olds) fn.results.toList (fun v x => x.B = baseW w olds ∧ ∃ s, G s ∧ v = vf s ∧ x.n ≤ nf s ∧ (∀ j, j < olds.length → ∃ o, (osf s)[j]? = some (some o)) ∧ ∀ i o, (osf s)[i]? = some (some o) → hget x.hs i = some o)) [.c c] ⟨argσ 0 args, olds.length, oldH 0 objs, baseW w olds, []⟩) :
    Calls P f (reals (bsOf olds) args).toArray w (fun e w' => ∃ s, G s ∧ RetW olds (vf s) (nf s) (osf s) w e w') := by
  have := calls_of (C := cxW P fn.ntmps w olds) (K := fun v x => x.B = baseW w olds ∧ ∃ s, G s ∧ v = vf s ∧ x.n ≤ nf s ∧ (∀ j, j < olds.length → ∃ o, (osf s)[j]? = some (some o)) ∧ ∀ i o, (osf s)[i]? = some (some o) → hget x.hs i = some o) rfl hf hb rfl hin hl (HRel.startW hlen hnd hh) hcl h
  refine this.mono ?_
  rintro e w' ⟨v, x', bs', rfl, hcv, hr, hB, s, hG, rfl, hn, ho, hk⟩
  rw [hB] at hr
  refine ⟨s, hG, bs', rfl, closed_mono hn _ hcv, ⟨hr.hsize, fun k hk => (hr.frame k hk).2, hr.os, hr.tape, hr.output⟩, fun i b hi => (hr.old i b hi).1, fun i o hi => ?_, fun i j oi oj hi hj hbb => hr.inj i j oi oj (hk i oi hi) (hk j oj hj) hbb⟩
  refine ⟨EObj.closed_mono hn _ (hr.cl i o (hk i o hi)), (hr.live i o (hk i o hi)).2, fun hge => ?_⟩
  rcases Nat.lt_or_ge (bs' i) w.heap.size with hlt | hge'
  · exfalso
    by_cases hmem : bs' i ∈ olds
    · obtain ⟨j, hj⟩ := List.getElem?_of_mem hmem
      have hjl : j < olds.length := by
        rcases Nat.lt_or_ge j olds.length with h | h
        · exact h
        · rw [List.getElem?_eq_none h] at hj; simp at hj
      obtain ⟨oj, hoj⟩ := ho j hjl
      have := hr.inj i j o oj (hk i o hi) (hk j oj hoj) (hr.old j _ hj).1.symm
      omega
    · exact hr.new i o (hk i o hi) ⟨hlt, hmem⟩
  · exact hge'
/-- Where a callee's name lies among the caller's. -/
def rho : List Nat → Nat → Nat → Nat
  | [], n, i => n + i
  | a :: _, _, 0 => a
  | _ :: m, n, i + 1 => rho m n i
theorem rho_lt {m : List Nat} {n i : Nat} (h : i < m.length) : rho m n i = m[i] := by
  induction m generalizing i with
  | nil => simp at h
  | cons a m ih =>
    cases i with
    | zero => rfl
    | succ i => simp only [rho, List.getElem_cons_succ]; exact ih (by simpa using h)
theorem rho_ge {m : List Nat} {n i : Nat} (h : m.length ≤ i) : rho m n i = n + (i - m.length) := by
  induction m generalizing i with
  | nil => simp [rho]
  | cons a m ih =>
    cases i with
    | zero => simp at h
    | succ i => simp only [rho, List.length_cons] at h ⊢; rw [ih (by omega)]; omega
def addW (ρ : Nat → Nat) : Nat → List (Option EObj) → List (Nat × Option EObj) → List (Nat × Option EObj)
  | _, [], hs => hs
  | i, none :: os, hs => addW ρ (i + 1) os ((ρ i, none) :: hs)
  | i, some o :: os, hs => addW ρ (i + 1) os ((ρ i, some (o.ren ρ)) :: hs)
theorem addW_ent {ρ : Nat → Nat} : ∀ (os : List (Option EObj)) (j : Nat) (hs : List (Nat × Option EObj)) (t : Nat) (o : EObj), hget (addW ρ j os hs) t = some o →
    (∃ i o', os[i]? = some (some o') ∧ ρ (j + i) = t ∧ o = o'.ren ρ) ∨ (hget hs t = some o ∧ ∀ i, i < os.length → ρ (j + i) ≠ t)
  | [], j, hs, t, o, h => .inr ⟨h, by simp⟩
  | o0 :: os, j, hs, t, o, h => by
    have h' : hget (addW ρ (j + 1) os ((ρ j, o0.map (EObj.ren ρ)) :: hs)) t = some o := by cases o0 <;> exact h
    rcases addW_ent os (j + 1) _ t o h' with ⟨i, o', h1, h2, h3⟩ | ⟨h1, h2⟩
    · exact .inl ⟨i + 1, o', by simpa using h1, by rw [← h2]; congr 1; omega, h3⟩
    · rw [hget_cons] at h1
      by_cases e : ρ j = t
      · rw [if_pos e] at h1
        cases o0 with
        | none => simp at h1
        | some o0 =>
          simp only [Option.map_some, Option.some.injEq] at h1
          exact .inl ⟨0, o0, by simp, by simpa using e, h1.symm⟩
      · rw [if_neg e] at h1
        refine .inr ⟨h1, fun i hi => ?_⟩
        cases i with
        | zero => simpa using e
        | succ i => have := h2 i (by simpa using hi); rw [show j + (i + 1) = j + 1 + i by omega]; exact this
theorem callS_wr {C : Cx} {Q : Exit → X → Prop} {f : FuncId} {args : List EV} {dst : Option Tmp} {st : List It} {x : X} {S : Type} (G : S → Prop) (vf : S → EV) (nf : S → Nat) (osf : S → List (Option EObj)) (m : List Nat) (hE : Enters C.P f)
    (hlive : ∀ i ∈ m, (hget x.hs i).isSome = true) (hnd : m.Nodup) (hos : ∀ s, G s → (m.length ≤ (osf s).length ∧ (osf s).length ≤ nf s))
    (h : ∀ bs w, HRel C x.B x.n x.hs bs w → Calls C.P f (reals bs args).toArray w (fun e w' => ∃ s, G s ∧ RetW (m.map bs) (vf s) (nf s) (osf s) w e w'))
    (hk : ∀ s, G s → Next C Q st { σ := put x.σ dst (ren (rho m x.n) (vf s)), n := x.n + (nf s - m.length), hs := addW (rho m x.n) 0 (osf s) x.hs, B := x.B, ms := x.ms }) : callS C Q f args dst st x := by
  refine fun _ => .inl (.inl ⟨hE, ?_⟩)
  intro bs w hh _
  refine (h bs w hh).mono ?_
  rintro e w' ⟨s, hG, bs', rfl, hcv, hstay, hold, hnew, hinj⟩
  obtain ⟨hos1, hos2⟩ := hos s hG
  obtain ⟨bs2, hbs2⟩ : ∃ bs2 : Nat → Nat, bs2 = fun i => if i < x.n then bs i else bs' (m.length + (i - x.n)) := ⟨_, rfl⟩
  have hlv : ∀ i, i ∈ m → ∃ o, hget x.hs i = some o := fun i hi => Option.isSome_iff_exists.1 (hlive i hi)
  have hml : ∀ i, i ∈ m → i < x.n := fun i hi => by obtain ⟨o, ho⟩ := hlv i hi; exact (hh.live i o ho).1
  have hlow : ∀ i, i < x.n → bs2 i = bs i := fun i hi => by rw [hbs2]; simp [hi]
  have hρ : (fun i => bs2 (rho m x.n i)) = bs' := by
    funext i
    rcases Nat.lt_or_ge i m.length with h | h
    · rw [rho_lt h, hlow _ (hml _ (List.getElem_mem h))]
      exact (hold i (bs m[i]) (by simp [h])).symm
    · rw [rho_ge h, hbs2]
      simp only [show ¬ x.n + (i - m.length) < x.n by omega, if_false]
      congr 1; omega
  have hρb : ∀ i, bs2 (rho m x.n i) = bs' i := fun i => congrFun hρ i
  have hρn : ∀ i, i < nf s → rho m x.n i < x.n + (nf s - m.length) := by
    intro i hi
    rcases Nat.lt_or_ge i m.length with h | h
    · rw [rho_lt h]; have := hml _ (List.getElem_mem h); omega
    · rw [rho_ge h]; omega
  have hent := addW_ent (ρ := rho m x.n) (osf s) 0 x.hs
  simp only [Nat.zero_add] at hent
  have holen : ∀ i o, (osf s)[i]? = some (some o) → i < (osf s).length := by
    intro i o hi
    rcases Nat.lt_or_ge i (osf s).length with h | h
    · exact h
    · rw [List.getElem?_eq_none h] at hi; simp at hi
  have hnm : ∀ t, (∀ i, i < (osf s).length → rho m x.n i ≠ t) → t ∉ m := by
    intro t ht hm
    obtain ⟨i, hi, rfl⟩ := List.mem_iff_getElem.1 hm
    exact ht i (by omega) (rho_lt hi)
  have hapart : ∀ t o, hget x.hs t = some o → t ∉ m → bs t ∉ m.map bs := by
    intro t o ht hm hmem
    obtain ⟨u, hu, hub⟩ := List.mem_map.1 hmem
    obtain ⟨ou, hou⟩ := hlv u hu
    exact hm (hh.inj u t ou o hou ht hub ▸ hu)
  have hDapart : ∀ k, ¬ (k ∈ m.map bs ∧ x.B.D k) := by
    rintro k ⟨hk, hD⟩
    obtain ⟨u, hu, rfl⟩ := List.mem_map.1 hk
    obtain ⟨ou, hou⟩ := hlv u hu
    exact hh.new u ou hou hD
  have hEapart : ∀ k, ¬ (k ∈ m.map bs ∧ C.E k) := by
    rintro k ⟨hk, hD⟩
    obtain ⟨u, hu, rfl⟩ := List.mem_map.1 hk
    obtain ⟨ou, hou⟩ := hlv u hu
    exact hh.newE u ou hou hD
  refine ⟨ren (rho m x.n) (vf s), x.n + (nf s - m.length), addW (rho m x.n) 0 (osf s) x.hs, bs2, by rw [real_ren, hρ], hlow, by omega, closed_ren hρn _ hcv, ?_, hk s hG⟩
  refine ⟨?_, ?_, ?_, ?_, ?_, ?_, hstay.os.trans hh.os, hstay.tape.trans hh.tape, hstay.output.trans hh.output, Nat.le_trans hh.hsize hstay.size, ?_, ?_, hh.apart, Nat.le_trans hh.eo.1 hstay.size, hstay.os.trans hh.eo.2.1, hstay.tape.trans hh.eo.2.2.1, hstay.output.trans hh.eo.2.2.2⟩
  · intro t o ht
    rcases hent t o ht with ⟨i, o', h1, rfl, rfl⟩ | ⟨h1, h2⟩
    · have hi := holen i o' h1
      refine ⟨hρn i (by omega), ?_⟩
      rw [hρb, EObj.real_ren, hρ]
      exact (hnew i o' h1).2.1
    · obtain ⟨l1, l2⟩ := hh.live t o h1
      refine ⟨by omega, ?_⟩
      rw [hlow t l1, EObj.real_congr hlow o (hh.cl t o h1), hstay.same _ ⟨heap_lt l2, hapart t o h1 (hnm t h2)⟩]
      exact l2
  · intro t o ht
    rcases hent t o ht with ⟨i, o', h1, rfl, rfl⟩ | ⟨h1, h2⟩
    · exact EObj.closed_ren hρn o' (hnew i o' h1).1
    · exact EObj.closed_mono (by omega) o (hh.cl t o h1)
  · intro t u ot ou ht hu hb
    rcases hent t ot ht with ⟨i, o', h1, rfl, rfl⟩ | ⟨h1, h2⟩ <;> rcases hent u ou hu with ⟨j, o'', k1, rfl, rfl⟩ | ⟨k1, k2⟩
    · rw [hρb, hρb] at hb
      rw [hinj i j o' o'' h1 k1 hb]
    · exfalso
      rw [hρb, hlow u (hh.live u ou k1).1] at hb
      rcases Nat.lt_or_ge i m.length with h | h
      · exact hapart u ou k1 (hnm u k2) (by rw [← hb, hold i (bs m[i]) (by simp [h])]; exact List.mem_map.2 ⟨_, List.getElem_mem h, rfl⟩)
      · have := (hnew i o' h1).2.2 (by simpa using h)
        have := heap_lt (hh.live u ou k1).2
        omega
    · exfalso
      rw [hρb, hlow t (hh.live t ot h1).1] at hb
      rcases Nat.lt_or_ge j m.length with h | h
      · exact hapart t ot h1 (hnm t h2) (by rw [hb, hold j (bs m[j]) (by simp [h])]; exact List.mem_map.2 ⟨_, List.getElem_mem h, rfl⟩)
      · have := (hnew j o'' k1).2.2 (by simpa using h)
        have := heap_lt (hh.live t ot h1).2
        omega
    · rw [hlow t (hh.live t ot h1).1, hlow u (hh.live u ou k1).1] at hb
      exact hh.inj t u ot ou h1 k1 hb
  · intro i b hi
    obtain ⟨h1, h2⟩ := hh.old i b hi
    exact ⟨by rw [hlow i h2]; exact h1, by omega⟩
  · intro t o ht hD
    rcases hent t o ht with ⟨i, o', h1, rfl, rfl⟩ | ⟨h1, h2⟩
    · rw [hρb] at hD
      rcases Nat.lt_or_ge i m.length with h | h
      · exact hDapart _ ⟨by rw [hold i (bs m[i]) (by simp [h])]; exact List.mem_map.2 ⟨_, List.getElem_mem h, rfl⟩, hD⟩
      · have := (hnew i o' h1).2.2 (by simpa using h)
        have := (hh.frame _ hD).1
        omega
    · rw [hlow t (hh.live t o h1).1] at hD
      exact hh.new t o h1 hD
  · intro k hk
    obtain ⟨f1, f2⟩ := hh.frame k hk
    exact ⟨Nat.lt_of_lt_of_le f1 hstay.size, by rw [hstay.same k ⟨f1, fun hm => hDapart k ⟨hm, hk⟩⟩]; exact f2⟩
  · intro t o ht hD
    rcases hent t o ht with ⟨i, o', h1, rfl, rfl⟩ | ⟨h1, h2⟩
    · rw [hρb] at hD
      rcases Nat.lt_or_ge i m.length with h | h
      · exact hEapart _ ⟨by rw [hold i (bs m[i]) (by simp [h])]; exact List.mem_map.2 ⟨_, List.getElem_mem h, rfl⟩, hD⟩
      · have := (hnew i o' h1).2.2 (by simpa using h)
        have := (hh.frameE _ hD).1
        omega
    · rw [hlow t (hh.live t o h1).1] at hD
      exact hh.newE t o h1 hD
  · intro k hk
    obtain ⟨f1, f2⟩ := hh.frameE k hk
    exact ⟨Nat.lt_of_lt_of_le f1 hstay.size, by rw [hstay.same k ⟨f1, fun hm => hEapart k ⟨hm, hk⟩⟩]; exact f2⟩
attribute [go_sem] ren rens EObj.ren addW oldH

/-! ### states told with less, under other names -/
/-- Whatever x tells of, y tells of. -/
def Sub (C : Cx) (x y : X) : Prop := ∀ bs a w, Rel C x bs a w → ∃ bs', Rel C y bs' a w
theorem Weak.sub {C : Cx} {x y : X} (h : Weak C x y) : Sub C x y := fun bs _ _ hr => ⟨bs, hr.weak h⟩
theorem Sub.trans {C : Cx} {x y z : X} (h : Sub C x y) (k : Sub C y z) : Sub C x z := fun bs a w hr => by
  obtain ⟨bs', hr'⟩ := h bs a w hr
  exact k bs' a w hr'
/-- What y tells under the names that ρ gives is told by x. -/
structure WeakR (C : Cx) (ρ : Nat → Nat) (x y : X) : Prop where
  σ : ∀ t, tget y.σ t = .any ∨ ren ρ (tget y.σ t) = tget x.σ t
  hs : ∀ i o, hget y.hs i = some o → hget x.hs (ρ i) = some (o.ren ρ)
  cl : ∀ t, closed y.n (tget y.σ t)
  hcl : ∀ i o, hget y.hs i = some o → i < y.n ∧ o.closed y.n
  inj : ∀ i j oi oj, hget y.hs i = some oi → hget y.hs j = some oj → ρ i = ρ j → i = j
  olds : C.olds.length ≤ y.n
  fix : ∀ i, i < C.olds.length → ρ i = i
  B : y.B = x.B
  ms : x.ms = y.ms.map ρ
  msin : ∀ i ∈ y.ms, i < y.n
theorem ren_any {ρ : Nat → Nat} {v : EV} (h : ren ρ v = .any) : v = .any := by cases v <;> simp [ren] at h ⊢
theorem WeakR.sub {C : Cx} {ρ : Nat → Nat} {x y : X} (h : WeakR C ρ x y) : Sub C x y := by
  intro bs a w hr
  refine ⟨fun i => bs (ρ i), ⟨hr.t.size, ?_, h.msin, ?_, h.cl⟩, ?_⟩
  · rw [hr.t.defers, h.ms]; simp [marks, List.map_map, Function.comp_def]
  · intro t ht
    rcases h.σ t with e | e
    · exact absurd e ht
    · rw [← real_ren, e]
      exact hr.t.tmps t (fun h0 => ht (ren_any (e.trans h0)))
  · have hh := hr.h
    rw [h.B]
    refine ⟨?_, fun i o hi => (h.hcl i o hi).2, ?_, ?_, ?_, hh.frame, hh.os, hh.tape, hh.output, hh.hsize, ?_, hh.frameE, hh.apart, hh.eo⟩
    · intro i o hi
      exact ⟨(h.hcl i o hi).1, by rw [← EObj.real_ren]; exact (hh.live _ _ (h.hs i o hi)).2⟩
    · intro i j oi oj hi hj hb
      exact h.inj i j oi oj hi hj (hh.inj _ _ _ _ (h.hs i oi hi) (h.hs j oj hj) hb)
    · intro i b hi
      have hl : i < C.olds.length := by
        rcases Nat.lt_or_ge i C.olds.length with h | h
        · exact h
        · rw [List.getElem?_eq_none h] at hi; simp at hi
      have := h.olds
      exact ⟨by rw [h.fix i hl]; exact (hh.old i b hi).1, by omega⟩
    · intro i o hi
      exact hh.new _ _ (h.hs i o hi)
    · intro i o hi
      exact hh.newE _ _ (h.hs i o hi)
def rσ (ρ : Nat → Nat) (n : Nat) (σ : List (Nat × EV)) : List (Nat × EV) → Prop
  | [] => True
  | (t, v) :: r => (tget σ t = ren ρ v ∧ closed n v) ∧ rσ ρ n σ r
def rhs (ρ : Nat → Nat) (n : Nat) (hs : List (Nat × Option EObj)) : List (Nat × Option EObj) → Prop
  | [] => True
  | (i, none) :: r => rhs ρ n hs r
  | (i, some o) :: r => (hget hs (ρ i) = some (o.ren ρ) ∧ i < n ∧ o.closed n) ∧ rhs ρ n hs r
theorem rσ_spec {ρ : Nat → Nat} {n : Nat} {σ : List (Nat × EV)} : ∀ {l : List (Nat × EV)}, rσ ρ n σ l → ∀ t, (tget l t = .any ∨ ren ρ (tget l t) = tget σ t) ∧ closed n (tget l t)
  | [], _, t => by simp [tget, closed]
  | (t', v) :: r, h, t => by
    rw [tget_cons]
    by_cases e : t' = t
    · rw [if_pos e]; subst e; exact ⟨.inr h.1.1.symm, h.1.2⟩
    · rw [if_neg e]; exact rσ_spec h.2 t
theorem rhs_spec {ρ : Nat → Nat} {n : Nat} {hs : List (Nat × Option EObj)} : ∀ {l : List (Nat × Option EObj)}, rhs ρ n hs l → ∀ i o, hget l i = some o → hget hs (ρ i) = some (o.ren ρ) ∧ i < n ∧ o.closed n
  | [], _, i, o, hi => by simp [hget] at hi
  | (i', none) :: r, h, i, o, hi => by
    rw [hget_cons] at hi
    by_cases e : i' = i
    · rw [if_pos e] at hi; simp at hi
    · rw [if_neg e] at hi; exact rhs_spec (l := r) h i o hi
  | (i', some o') :: r, h, i, o, hi => by
    rw [hget_cons] at hi
    by_cases e : i' = i
    · rw [if_pos e, Option.some.injEq] at hi; subst e; subst hi
      exact h.1
    · rw [if_neg e] at hi; exact rhs_spec h.2 i o hi
theorem sub_ren {C : Cx} (ρ : Nat → Nat) {x y : X} (h1 : rσ ρ y.n x.σ y.σ) (h2 : rhs ρ y.n x.hs y.hs) (hi : ∀ i j, i < y.n → j < y.n → ρ i = ρ j → i = j) (h3 : C.olds.length ≤ y.n) (hf : ∀ i, i < C.olds.length → ρ i = i) (h4 : y.B = x.B) (h5 : x.ms = y.ms.map ρ) (h6 : ∀ i ∈ y.ms, i < y.n) : Sub C x y :=
  (WeakR.mk (fun t => (rσ_spec h1 t).1) (fun i o hi => (rhs_spec h2 i o hi).1) (fun t => (rσ_spec h1 t).2) (fun i o hi => (rhs_spec h2 i o hi).2)
    (fun i j oi oj k1 k2 hb => hi i j (rhs_spec h2 i oi k1).2.1 (rhs_spec h2 j oj k2).2.1 hb) h3 hf h4 h5 h6 : WeakR C ρ x y).sub
/-- A loop: S tells the states at the head. -/
theorem loopU {C : Cx} {Q : Exit → X → Prop} {c : Code} {st : List It} {x : X} {S : Type} (I : S → Prop) (Xs : S → X) (μ : S → Nat) (s0 : S) (hI : I s0) (h0 : Sub C x (Xs s0))
    (round : ∀ s, I s → Next C (exitS C Q st (fun x' => ∃ s', I s' ∧ Sub C x' (Xs s') ∧ μ s' < μ s)) [.c c] (Xs s)) : codeS C Q (.loop c) st x := by
  intro hst bs a w hr
  simp only [contS]
  obtain ⟨hin, hst⟩ := hst
  simp only [codeIn] at hin
  intro b k cs hro hb hrm
  have key : ∀ n s a w, μ s = n → I s → (∃ bs, Rel C (Xs s) bs a w) →
      ∃ e a' w', contS C (Meets C Q) st e a' w' ∧ ArrivesIn (Machine.fenced C.P (fe C)) C.P (lone (b.atR a (.code c :: .inLoop c :: k)) cs w) b k cs e a' w' := by
    intro n
    induction n using Nat.strongRecOn with
    | _ n ih =>
      intro s a w hn hs hr
      obtain ⟨bs, hr⟩ := hr
      have hround := round s hs ⟨hin, trivial⟩ bs a w hr
      simp only [contS] at hround
      obtain ⟨e, a₁, w₁, hq, harr⟩ := hround b (.inLoop c :: k) cs hro hb hrm
      obtain ⟨x₁, bs₁, hr₁, hq⟩ := hq
      cases e with
      | normal =>
        simp only [exitS] at hq
        obtain ⟨s', hI', hw', hlt⟩ := hq
        obtain ⟨e₂, a₂, w₂, hq₂, harr₂⟩ := ih (μ s') (hn ▸ hlt) s' a₁ w₁ rfl hI' (hw' bs₁ a₁ w₁ hr₁)
        exact ⟨e₂, a₂, w₂, hq₂, .of_steps (StepsIn.trans harr (.one (fenced_calm hb hrm rfl) stepR_inLoop)) harr₂⟩
      | exit id => exact ⟨_, a₁, w₁, contS_exits hst hr₁ hq (by simp), .pass (x := .inLoop c) rfl (fun _ _ => .inl (by simp)) harr⟩
      | goto l => exact hq.elim
      | ret => exact ⟨_, a₁, w₁, contS_exits hst hr₁ hq (by simp), .pass (x := .inLoop c) rfl (fun _ _ => .inl (by simp)) harr⟩
      | panic ch => exact hq.elim
      | outgrown => exact hq.elim
  obtain ⟨e, a', w', hq, harr⟩ := key _ s0 a w rfl hI (h0 bs a w hr)
  exact ⟨e, a', w', hq, .of_steps (.one (fenced_calm hb hrm rfl) stepR_loop) harr⟩
theorem cutU {C : Cx} {Q : Exit → X → Prop} {c : Code} {st : List It} {x : X} {S : Type} (I : S → Prop) (Xs : S → X)
    (h : Next C (exitS C Q st (fun x' => ∃ s', I s' ∧ Sub C x' (Xs s'))) [.c c] x) (hk : ∀ s, I s → Next C Q st (Xs s)) : Next C Q (.c c :: st) x := by
  intro hst bs a w hr
  obtain ⟨hin, hst⟩ := hst
  have h1 := h ⟨hin, trivial⟩ bs a w hr
  simp only [contS] at h1 ⊢
  refine wpIn_mono h1 ?_
  rintro e a' w' ⟨x', bs', hr', hq⟩
  cases e with
  | normal =>
    simp only [exitS] at hq
    obtain ⟨s', hI', hw'⟩ := hq
    obtain ⟨bs2, hr2⟩ := hw' bs' a' w' hr'
    exact hk s' hI' hst bs2 a' w' hr2
  | exit id => exact contS_exits hst hr' hq (by simp)
  | goto l => exact hq.elim
  | ret => exact contS_exits hst hr' hq (by simp)
  | panic ch => exact hq.elim
  | outgrown => exact hq.elim
theorem Next.sub {C : Cx} {Q : Exit → X → Prop} {st : List It} {x y : X} (h : Next C Q st y) (k : Sub C x y) : Next C Q st x :=
  fun hst bs a w hr => by
    obtain ⟨bs', hr'⟩ := k bs a w hr
    exact h hst bs' a w hr'
attribute [go_sem] rσ rhs
end Go.Ew
/- append, copy, bytes of strings and strings of bytes, arrays of slices. -/
set_option linter.unusedSimpArgs false
set_option linter.unusedVariables false
namespace Go.Ew
open Go RowKit
def bytesE (s : ByteArray) : List EV := s.data.toList.map fun b => EV.int .u8 b.toNat
theorem reals_bytesE (bs : Nat → Nat) (s : ByteArray) : reals bs (bytesE s) = byteCells s := by
  rw [reals_eq]; simp [bytesE, byteCells, Function.comp_def, real]
theorem closeds_bytesE (n : Nat) (s : ByteArray) : closeds n (bytesE s) := by
  rw [closeds_iff]; intro v hv
  obtain ⟨b, _, rfl⟩ := List.mem_map.1 hv
  trivial
theorem bytesE_len (s : ByteArray) : (bytesE s).length = s.size := by
  unfold bytesE; rw [List.length_map, Array.length_toList]; rfl
/-- What is appended, what is copied: how many, their cells. -/
def srcOf (B : Base) (hs : List (Nat × Option EObj)) (sz : Nat) (x : EV) : Option (Nat × List EV × Prop) :=
  match x with
  | .sl i off m _ => match hget hs i with
    | some (.cells cs _ _) => some (m, (cs.drop off).take (m * sz), off + m * sz ≤ cs.length)
    | _ => none
  | .raw (.slice (some a) m _) => some (m, (List.range (m * sz)).map fun j => rawCell B (a.add j), B.D a.block ∧ ∀ j, j < m * sz → (B.w.cell? (a.add j)).isSome = true)
  | .raw (.slice none m _) => some (0, [], m = 0)
  | .str s => some (s.size, bytesE s, sz = 1)
  | _ => none
theorem srcOf_sound {C : Cx} {n : Nat} {B : Base} {hs : List (Nat × Option EObj)} {bs : Nat → Nat} {w : World} (h : HRel C B n hs bs w) {sz m : Nat} {x : EV} {news : List EV} {c : Prop}
    (hx : srcOf B hs sz x = some (m, news, c)) (hc : c) :
    (∀ w' : World, (Builtin.lenOf (real bs x)).run C.P w' = .ok m w') ∧ (∀ k, k ≤ m → (Builtin.firstCells sz k (real bs x)).run C.P w = .ok (reals bs (news.take (k * sz))).toArray w) ∧ news.length = m * sz ∧ closeds n news := by
  unfold srcOf at hx
  split at hx
  · rename_i i off m' cap
    split at hx
    · rename_i cs T fr hg
      simp only [Option.some.injEq, Prod.mk.injEq] at hx; obtain ⟨rfl, rfl, rfl⟩ := hx
      obtain ⟨l1, l2⟩ := h.live i _ hg
      have hcl : closeds n cs := h.cl i _ hg
      simp only [EObj.real] at l2
      refine ⟨fun _ => rfl, ?_, by simp; omega, ?_⟩
      · intro k hk
        have hkm : k * sz ≤ m' * sz := Nat.mul_le_mul_right _ hk
        refine run_firstCells_some (P := C.P) w sz k ⟨bs i, off, none⟩ m' cap (reals bs (((cs.drop off).take (m' * sz)).take (k * sz))) (by simp [reals_eq]; omega) ?_
        intro j v hj
        rw [add_spot, cell_of_heap l2]
        rw [reals_eq] at hj
        simp only [List.getElem?_map, List.getElem?_take, List.getElem?_drop] at hj
        split at hj
        · split at hj
          · simpa [reals_eq] using hj
          · simp at hj
        · simp at hj
      · rw [closeds_iff]; intro v hv
        exact closeds_mem hcl (List.mem_of_mem_drop (List.mem_of_mem_take hv))
    · simp at hx
  · rename_i a m' cap
    simp only [Option.some.injEq, Prod.mk.injEq] at hx; obtain ⟨rfl, rfl, rfl⟩ := hx
    obtain ⟨ho, hall⟩ := hc
    refine ⟨fun _ => rfl, ?_, by simp, ?_⟩
    · intro k hk
      have hkm : k * sz ≤ m' * sz := Nat.mul_le_mul_right _ hk
      refine run_firstCells_some (P := C.P) w sz k a m' cap _ (by rw [reals_eq, List.length_map, List.length_take, List.length_map, List.length_range]; omega) ?_
      intro j v hj
      rw [cell_frame h (by rw [show (a.add j).block = a.block by unfold Addr.add; split <;> rfl]; exact ho)]
      rw [reals_eq] at hj
      simp only [List.getElem?_map, List.getElem?_take, List.map_map] at hj
      split at hj
      · rename_i hlt
        rw [List.getElem?_range (by omega)] at hj
        simp only [Option.map_some, Option.some.injEq] at hj
        have hs := hall j (by omega)
        cases hxx : B.w.cell? (a.add j) with
        | none => rw [hxx] at hs; simp at hs
        | some u => rw [← hj]; simp [rawCell, hxx, real_ofScalar]
      · simp at hj
    · rw [closeds_iff]; intro v hv
      obtain ⟨j, _, rfl⟩ := List.mem_map.1 hv
      exact closed_ofScalar _ _
  · simp only [Option.some.injEq, Prod.mk.injEq] at hx; obtain ⟨rfl, rfl, rfl⟩ := hx
    subst hc
    exact ⟨fun _ => rfl, fun k hk => by simp [real, Builtin.firstCells, reals], by simp, by simp [closeds]⟩
  · rename_i s
    simp only [Option.some.injEq, Prod.mk.injEq] at hx; obtain ⟨rfl, rfl, rfl⟩ := hx
    subst hc
    refine ⟨fun _ => rfl, ?_, by rw [bytesE_len]; omega, closeds_bytesE _ _⟩
    intro k hk
    have e : reals bs ((bytesE s).take (k * 1)) = (byteCells s).take k := by rw [← reals_bytesE bs, reals_eq, reals_eq, List.map_take, Nat.mul_one]
    rw [e]
    simp only [real, Builtin.firstCells, Sem.run_pure]
    congr 1
    apply Array.ext'
    simp [byteCells, ByteArray.data_extract, List.map_take]
  · simp at hx
theorem HRel.drew {C : Cx} {n : Nat} {B : Base} {hs : List (Nat × Option EObj)} {bs : Nat → Nat} {w : World} (h : HRel C B n hs bs w) : HRel C B n hs bs w.drew :=
  ⟨h.live, h.cl, h.inj, h.old, h.new, h.frame, h.os, h.tape, h.output, h.hsize, h.newE, h.frameE, h.apart, h.eo⟩
theorem rep_mem {n : Nat} {zs : List EV} {v : EV} (h : v ∈ rep n zs) : v ∈ zs := by
  simp only [rep, List.mem_flatten] at h
  obtain ⟨l, hl, hv⟩ := h
  rw [(List.mem_replicate.1 hl).2] at hv; exact hv
/-- A slice of the call's own, or none as yet: block r. -/
def Own (n : Nat) (T : TypeId) (zs : List EV) (r : Nat) (e : EV) (oo : Option EObj) (len : Nat) (xs : List EV) : Prop :=
  xs.length = len * zs.length ∧ ((e = .raw (.slice none 0 0) ∧ oo = none ∧ len = 0) ∨
    ∃ cap rest, e = .sl r 0 len cap ∧ len ≤ cap ∧ cap ≤ maxLen ∧ (rest.length = (cap - len) * zs.length ∧ ∀ v ∈ rest, v ∈ zs) ∧ oo = some (.cells (xs ++ rest) T (0, 0)) ∧ closeds n (xs ++ rest))
theorem Own.nil (n : Nat) (T : TypeId) (sz : List EV) (r : Nat) : Own n T sz r (.raw (.slice none 0 0)) none 0 [] := ⟨by simp, .inl ⟨rfl, rfl, rfl⟩⟩
theorem closeds_append {n : Nat} {a b : List EV} : closeds n (a ++ b) ↔ closeds n a ∧ closeds n b := by
  simp only [closeds_iff, List.mem_append]
  exact ⟨fun h => ⟨fun v hv => h v (.inl hv), fun v hv => h v (.inr hv)⟩, fun h v hv => hv.elim (h.1 v) (h.2 v)⟩
theorem Own.closedE {n T sz r e oo len xs} (h : Own n T sz r e oo len xs) (hr : r < n) : closed n e := by
  rcases h.2 with ⟨rfl, _, _⟩ | ⟨cap, rest, rfl, _⟩
  · trivial
  · exact hr
theorem Own.ren {n T sz r e oo len xs} (h : Own n T sz r e oo len xs) (ρ : Nat → Nat) (r' : Nat) (hr : ρ r = r') : Ew.ren ρ e = (match e with | .sl _ off l c => .sl r' off l c | e => e) := by
  rcases h.2 with ⟨rfl, _, _⟩ | ⟨cap, rest, rfl, _⟩ <;> simp [Ew.ren, hr]
theorem zeroCells_reals {bs : Nat → Nat} {z : Array Value} {zs : List EV} (hz : z = (reals bs zs).toArray) (hne : zs ≠ []) (n : Nat) : Builtin.zeroCells z n = (reals bs (rep n zs)).toArray := by
  have := range_rep (bs := bs) (n := n) (zs := zs) z hz hne
  rw [← this]; unfold Builtin.zeroCells
  rw [hz]; simp [reals_eq]
theorem HRel.grow {C : Cx} {n : Nat} {B : Base} {hs : List (Nat × Option EObj)} {bs : Nat → Nat} {w : World} (h : HRel C B n hs bs w) (r : Nat) : HRel C B n ((r, none) :: hs) bs w := by
  have key : ∀ i o, hget ((r, none) :: hs) i = some o → hget hs i = some o := by
    intro i o hi
    rw [hget_cons] at hi
    split at hi
    · simp at hi
    · exact hi
  exact ⟨fun i o hi => h.live i o (key i o hi), fun i o hi => h.cl i o (key i o hi), fun i j oi oj hi hj => h.inj i j oi oj (key i oi hi) (key j oj hj), h.old, fun i o hi => h.new i o (key i o hi), h.frame, h.os, h.tape, h.output, h.hsize,
    fun i o hi => h.newE i o (key i o hi), h.frameE, h.apart, h.eo⟩
/-- Block r goes on under the name n. -/
theorem HRel.move {C : Cx} {n : Nat} {B : Base} {hs : List (Nat × Option EObj)} {bs : Nat → Nat} {w : World} (h : HRel C B n hs bs w) {r : Nat} {o : EObj} (hr : hget hs r = some o) :
    HRel C B (n + 1) ((n, some o) :: (r, none) :: hs) (upd bs n (bs r)) w := by
  have hrn := (h.live r o hr).1
  have key : ∀ i o', hget ((n, some o) :: (r, none) :: hs) i = some o' → (i = n ∧ o' = o) ∨ (i ≠ n ∧ i ≠ r ∧ hget hs i = some o') := by
    intro i o' hi
    rw [hget_cons, hget_cons] at hi
    split at hi
    · rename_i e; simp only [Option.some.injEq] at hi; exact .inl ⟨e.symm, hi.symm⟩
    · rename_i e
      split at hi
      · simp at hi
      · rename_i e'; exact .inr ⟨fun h => e h.symm, fun h => e' h.symm, hi⟩
  refine ⟨?_, ?_, ?_, ?_, ?_, h.frame, h.os, h.tape, h.output, h.hsize, ?_, h.frameE, h.apart, h.eo⟩
  · intro i o' hi
    rcases key i o' hi with ⟨rfl, rfl⟩ | ⟨h1, h2, h3⟩
    · refine ⟨by omega, ?_⟩
      rw [upd_self, EObj.real_congr upd_lt _ (h.cl r _ hr)]; exact (h.live r _ hr).2
    · have l := (h.live i o' h3)
      refine ⟨by omega, ?_⟩
      rw [upd_lt i l.1, EObj.real_congr upd_lt _ (h.cl i _ h3)]; exact l.2
  · intro i o' hi
    rcases key i o' hi with ⟨rfl, rfl⟩ | ⟨h1, h2, h3⟩
    · exact EObj.closed_mono (by omega) _ (h.cl r _ hr)
    · exact EObj.closed_mono (by omega) _ (h.cl i _ h3)
  · intro i j oi oj hi hj hb
    rcases key i oi hi with ⟨rfl, rfl⟩ | ⟨h1, h2, h3⟩ <;> rcases key j oj hj with ⟨rfl, rfl⟩ | ⟨k1, k2, k3⟩
    · rfl
    · rw [upd_self, upd_lt j (h.live j oj k3).1] at hb
      exact absurd (h.inj r j _ oj hr k3 hb).symm k2
    · rw [upd_self, upd_lt i (h.live i oi h3).1] at hb
      exact absurd (h.inj i r oi _ h3 hr hb) h2
    · rw [upd_lt i (h.live i oi h3).1, upd_lt j (h.live j oj k3).1] at hb
      exact h.inj i j oi oj h3 k3 hb
  · intro i b hi
    obtain ⟨h1, h2⟩ := h.old i b hi
    exact ⟨by rw [upd_lt i h2]; exact h1, by omega⟩
  · intro i o' hi
    rcases key i o' hi with ⟨rfl, rfl⟩ | ⟨h1, h2, h3⟩
    · rw [upd_self]; exact h.new r _ hr
    · rw [upd_lt i (h.live i o' h3).1]; exact h.new i o' h3
  · intro i o' hi
    rcases key i o' hi with ⟨rfl, rfl⟩ | ⟨h1, h2, h3⟩
    · rw [upd_self]; exact h.newE r _ hr
    · rw [upd_lt i (h.live i o' h3).1]; exact h.newE i o' h3
theorem append_fits {need bytes : Nat} (h : need * bytes ≤ 140737488355328) {old : Nat} (ho : old < need) : Builtin.nextslicecap need old * bytes ≤ 281474976710656 := growslice_fits ho h
/-- append. -/
theorem appendS {C : Cx} {Q : Exit → X → Prop} {o : Oper} {st : List It} {x : X} {a b : Operand} {t t2 T : TypeId} (r len : Nat) (xs : List EV) {m : Nat} {e b' : EV} {news zs : List EV} {c : Prop}
    (hop : o.op = .call { callee := .builtin .append, args := #[a, b], argTypes := #[t, t2] })
    (ht : C.P.underlying t = some (.slice T)) (ht2 : (∃ e', C.P.underlying t2 = some (.slice e')) ∨ C.P.underlying t2 = some .string)
    (hz : zeroOf C.P T = some zs) (hcz : C.P.cellsOf T = zs.length) (hzne : zs ≠ [])
    (ha : ev x.σ a = e) (hb : ev x.σ b = b') (hOwn : Own x.n T zs r e (hget x.hs r) len xs)
    (hsrc : srcOf x.B x.hs zs.length b' = some (m, news, c)) (hc : c) (hone : oneAll news = true)
    (hmax : len + m ≤ maxLen) (hby : (len + m) * C.P.bytesOf T ≤ 140737488355328)
    (hk : ∀ e' oo', Own (x.n + 1) T zs x.n e' oo' (len + m) (xs ++ news) → Next C Q st { σ := put x.σ o.dst e', n := x.n + 1, hs := (x.n, oo') :: (r, none) :: x.hs, B := x.B, ms := x.ms }) : opS C Q o st x := by
  intro hd bs ac w hr Q'
  obtain ⟨dst, op, type, pos, after, guard⟩ := o
  simp only at hop hd hk; subst hop
  have hane : e ≠ .any := by
    rcases hOwn.2 with ⟨rfl, _⟩ | ⟨cap, rest, rfl, _⟩ <;> simp
  have hbne : b' ≠ .any := by rintro rfl; simp [srcOf] at hsrc
  have ea := eval_ev hr.t a (by rw [ha]; exact hane)
  have eb := eval_ev hr.t b (by rw [hb]; exact hbne)
  rw [ha] at ea; rw [hb] at eb
  obtain ⟨s1, s2, s3, s4⟩ := srcOf_sound hr.h hsrc hc
  obtain ⟨s1', s2', _, _⟩ := srcOf_sound hr.h.drew hsrc hc
  obtain ⟨z, z1, z2, z3⟩ := zeroOf_run (w := w) bs x.n hz
  have hinfo : ∃ i, C.P.info? T = some i ∧ i.zero = some z := by
    unfold zeroOf at hz
    cases hi : C.P.info? T with
    | none => simp [hi] at hz
    | some i =>
      simp only [hi] at hz
      cases hzz : i.zero with
      | none => simp [hzz] at hz
      | some z' =>
        refine ⟨i, rfl, ?_⟩
        have : (zeroValue T).run C.P w = .ok z' w := by simp [zeroValue, typeInfo, hi, hzz]
        rw [this] at z1; simp at z1; rw [← z1]; exact hzz
  obtain ⟨i, hi, hzi⟩ := hinfo
  have hisz : i.size = zs.length := by rw [← hcz]; simp [Program.cellsOf, hi]
  have hiby : i.bytes = C.P.bytesOf T := by simp [Program.bytesOf, hi]
  have hsrcP : Src C.P i.size t2 (real bs b') m (reals bs news) w := by
    refine ⟨ht2, s1, ?_, ?_, by rw [reals_eq, List.length_map, s3, hisz], ?_⟩
    · have := s2 m (Nat.le_refl _)
      rw [List.take_of_length_le (by omega)] at this
      rw [hisz]; exact this
    · have := s2' m (Nat.le_refl _)
      rw [List.take_of_length_le (by omega)] at this
      rw [hisz]; exact this
    · intro u hu
      rw [reals_eq] at hu
      obtain ⟨q, hq, rfl⟩ := List.mem_map.1 hu
      exact real_one (oneAll_spec hone q hq)
  refine ⟨fun _ _ => trivial, ?_⟩
  rw [Oper.semAt_eq _ _ _ (by intro c; simp)]
  have hexec : ∀ V w', (Builtin.append_ #[t, t2] type #[real bs e, real bs b']).run C.P w = .ok V w' →
      (execOp ac.eval { dst := dst, op := .call { callee := .builtin .append, args := #[a, b], argTypes := #[t, t2] }, type := type, pos := pos, after := after, guard := guard }).run C.P w = .ok (.value V) w' := by
    intro V w' h
    simp only [execOp, resolve, invoke, builtin, Sem.run_bind, Sem.run_pure, Result.andThen_ok, List.map_toArray, List.map_cons, List.map_nil, ea, eb, h]
  have h63 : len + m ≤ 9223372036854775807 := by simp only [maxLen] at hmax; omega
  -- a new row
  have hgrow : ∀ (base : Option Addr) (cap : Nat) (hreal : real bs e = .slice base len cap) (hcap : cap < len + m)
      (hold : (Builtin.firstCells i.size len (.slice base len cap)).run C.P w.drew = .ok (reals bs xs).toArray w.drew) (hxs : closeds x.n xs),
      ∃ V w' x' bs', (Builtin.append_ #[t, t2] type #[real bs e, real bs b']).run C.P w = .ok V w' ∧ Rel C x' bs' (ac.put dst V) w' ∧ Next C Q st x' := by
    intro base cap hreal hcap hold hxs
    have hrun := run_append_grow_src (P := C.P) w t t2 type T i z ht hi hzi base len cap (reals bs xs) hold (real bs b') m (reals bs news) hsrcP hcap (by omega) (by rw [hiby]; exact append_fits hby hcap)
    rw [← hreal] at hrun
    have hge := grownCap_ge w (len + m) cap T
    have hcm := grownCap_le_maxLen w (len + m) cap T hmax
    obtain ⟨gc, hgc⟩ : ∃ gc, gc = grownCap w (len + m) cap T := ⟨_, rfl⟩
    rw [← hgc] at hrun hge hcm
    have hown : Own (x.n + 1) T zs x.n (.sl x.n 0 (len + m) gc) (some (.cells ((xs ++ news) ++ rep (gc - (len + m)) zs) T (0, 0))) (len + m) (xs ++ news) := by
      refine ⟨by rw [List.length_append, hOwn.1, s3, Nat.add_mul], .inr ⟨gc, rep (gc - (len + m)) zs, rfl, hge, hcm, ⟨rep_length _ _, fun v hv => rep_mem hv⟩, rfl, ?_⟩⟩
      exact closeds_mono (Nat.le_succ _) _ (closeds_append.2 ⟨closeds_append.2 ⟨hxs, s4⟩, rep_closeds z3⟩)
    have hcl : closeds x.n ((xs ++ news) ++ rep (gc - (len + m)) zs) := closeds_append.2 ⟨closeds_append.2 ⟨hxs, s4⟩, rep_closeds z3⟩
    have hH := (hr.h.drew.grow r).alloc (.cells ((xs ++ news) ++ rep (gc - (len + m)) zs) T (0, 0)) hcl
    refine ⟨_, _, _, upd bs x.n w.heap.size, hrun, ⟨?_, ?_⟩, hk _ _ hown⟩
    · exact hr.t.next (Nat.le_succ _) upd_lt hd (.inr (by simp [real, upd_self])) (by simp [closed])
    · have e1 : w.drew.alloc (.cells (((reals bs xs) ++ (reals bs news)).toArray ++ Builtin.zeroCells z.cells (gc - (len + m))) T) = { w.drew with heap := w.drew.heap.push ((EObj.cells ((xs ++ news) ++ rep (gc - (len + m)) zs) T (0, 0)).real bs) } := by
        rw [zeroCells_reals z2 hzne]
        simp [World.alloc, EObj.real, reals_eq]
      rw [e1]; exact hH
  rcases hOwn.2 with ⟨rfl, hoo, hl0⟩ | ⟨cap, rest, rfl, hlc, hcm, ⟨hrl, hrz⟩, hoo, hclx⟩
  · have hxs : xs = [] := List.eq_nil_of_length_eq_zero (by rw [hOwn.1, hl0]; simp)
    subst hxs; subst hl0
    by_cases hm0 : m = 0
    · subst hm0
      have hn0 : news = [] := List.eq_nil_of_length_eq_zero (by rw [s3]; simp)
      subst hn0
      have hrun : (Builtin.append_ #[t, t2] type #[real bs (.raw (.slice none 0 0)), real bs b']).run C.P w = .ok (.slice none 0 0) w := by
        have hf := hsrcP.cells
        simp only [reals] at hf
        rcases ht2 with ⟨e', hk2⟩ | hk2 <;> simp [real, Builtin.append_, run_underlying _ _ _ _ ht, run_underlying _ _ _ _ hk2, sizeOf, typeInfo, hi, s1, hf]
      rw [hexec _ _ hrun]
      refine ⟨_, bs, ⟨hr.t.next (Nat.le_succ _) (fun _ _ => rfl) hd (v := .raw (.slice none 0 0)) (.inr rfl) trivial, ?_⟩, hk _ none ⟨by simp, .inl ⟨rfl, rfl, by simp⟩⟩⟩
      have hH := hr.h.grow r
      have key : ∀ i o, hget ((x.n, none) :: (r, none) :: x.hs) i = some o → hget ((r, none) :: x.hs) i = some o := by
        intro i o hi
        rw [hget_cons] at hi
        split at hi
        · simp at hi
        · exact hi
      exact ⟨fun i o hi => ⟨Nat.lt_succ_of_lt (hH.live i o (key i o hi)).1, (hH.live i o (key i o hi)).2⟩, fun i o hi => EObj.closed_mono (Nat.le_succ _) _ (hH.cl i o (key i o hi)), fun i j oi oj hi hj => hH.inj i j oi oj (key i oi hi) (key j oj hj),
        fun i b hi => ⟨(hH.old i b hi).1, Nat.lt_succ_of_lt (hH.old i b hi).2⟩, fun i o hi => hH.new i o (key i o hi), hH.frame, hH.os, hH.tape, hH.output, hH.hsize, fun i o hi => hH.newE i o (key i o hi), hH.frameE, hH.apart, hH.eo⟩
    · obtain ⟨V, w', x', bs', h1, h2, h3⟩ := hgrow none 0 rfl (by omega) (by simp [Builtin.firstCells, reals]) (by simp [closeds])
      rw [hexec _ _ h1]
      exact ⟨x', bs', h2, h3⟩
  · obtain ⟨l1, l2⟩ := hr.h.live r _ hoo
    simp only [EObj.real] at l2
    by_cases hroom : len + m ≤ cap
    · have hlen : (xs ++ rest).length = cap * zs.length := by
        rw [List.length_append, hOwn.1, hrl, ← Nat.add_mul]; congr 1; omega
      have hfit : len * zs.length + news.length ≤ (xs ++ rest).length := by rw [s3, hlen, ← Nat.add_mul]; exact Nat.mul_le_mul_right _ hroom
      obtain ⟨cs', r1, r2⟩ := storeCells_run (P := C.P) (T := T) (fr := (0, 0)) (reals bs news) w _ (len * zs.length) 0 l2 (by simp only [reals_eq, Nat.add_zero, List.length_map, List.size_toArray]; exact hfit) (.inl (by simp)) (by
        intro u hu
        rw [reals_eq] at hu
        obtain ⟨q, hq, rfl⟩ := List.mem_map.1 hu
        exact real_one (oneAll_spec hone q hq))
      have hcs' : cs' = (reals bs ((xs ++ news) ++ rest.drop news.length)).toArray := by
        apply Array.ext'
        rw [r2]
        have hxl : len * zs.length = (reals bs xs).length := by rw [reals_eq, List.length_map, hOwn.1]
        simp only [Nat.add_zero]
        rw [hxl]
        simp only [reals_eq, List.map_append, List.length_map]
        rw [List.take_left' (by simp), ← List.drop_drop, List.drop_left' (by simp), List.map_drop]
      have hrun : (Builtin.append_ #[t, t2] type #[real bs (.sl r 0 len cap), real bs b']).run C.P w = .ok (.slice (some ⟨bs r, 0, none⟩) (len + m) cap) (setBlk w (bs r) (.cells cs' T (0, 0))) := by
        have hf := hsrcP.cells
        rw [hisz] at hf
        rcases ht2 with ⟨e', hk2⟩ | hk2 <;>
          simp [real, Builtin.append_, run_underlying _ _ _ _ ht, run_underlying _ _ _ _ hk2, sizeOf, typeInfo, hi, s1, hroom, hisz, hf, add_spot, r1]
      rw [hexec _ _ hrun]
      have hcl' : closeds x.n ((xs ++ news) ++ rest.drop news.length) := by
        rw [closeds_append] at hclx
        refine closeds_append.2 ⟨closeds_append.2 ⟨hclx.1, s4⟩, ?_⟩
        rw [closeds_iff]; intro v hv; exact closeds_mem hclx.2 (List.mem_of_mem_drop hv)
      have hH := hr.h.store hoo (.cells ((xs ++ news) ++ rest.drop news.length) T (0, 0)) hcl'
      have hH2 := hH.move (r := r) (o := .cells ((xs ++ news) ++ rest.drop news.length) T (0, 0)) (by rw [hget_cons, if_pos rfl])
      have hown : Own (x.n + 1) T zs x.n (.sl x.n 0 (len + m) cap) (some (.cells ((xs ++ news) ++ rest.drop news.length) T (0, 0))) (len + m) (xs ++ news) := by
        refine ⟨by rw [List.length_append, hOwn.1, s3, Nat.add_mul], .inr ⟨cap, _, rfl, hroom, hcm, ?_, rfl, closeds_mono (Nat.le_succ _) _ hcl'⟩⟩
        refine ⟨?_, fun v hv => hrz v (List.mem_of_mem_drop hv)⟩
        rw [List.length_drop, hrl, s3, ← Nat.sub_mul]; congr 1; omega
      refine ⟨_, upd bs x.n (bs r), ⟨hr.t.next (Nat.le_succ _) upd_lt hd (.inr (by simp [real, upd_self])) (by simp [closed]), ?_⟩, hk _ _ hown⟩
      rw [hcs']
      have key : ∀ i o, hget ((x.n, some (EObj.cells ((xs ++ news) ++ rest.drop news.length) T (0, 0))) :: (r, none) :: x.hs) i = some o →
          hget ((x.n, some (EObj.cells ((xs ++ news) ++ rest.drop news.length) T (0, 0))) :: (r, none) :: (r, some (EObj.cells ((xs ++ news) ++ rest.drop news.length) T (0, 0))) :: x.hs) i = some o := by
        intro i o hi
        rw [hget_cons, hget_cons] at hi
        rw [hget_cons, hget_cons, hget_cons]
        by_cases e1 : x.n = i
        · rw [if_pos e1] at hi ⊢; exact hi
        · rw [if_neg e1] at hi ⊢
          by_cases e2 : r = i
          · rw [if_pos e2] at hi; simp at hi
          · rw [if_neg e2] at hi ⊢; rw [if_neg e2]; exact hi
      exact ⟨fun i o hi => hH2.live i o (key i o hi), fun i o hi => hH2.cl i o (key i o hi), fun i j oi oj hi hj => hH2.inj i j oi oj (key i oi hi) (key j oj hj), hH2.old, fun i o hi => hH2.new i o (key i o hi), hH2.frame, hH2.os, hH2.tape, hH2.output, hH2.hsize,
        fun i o hi => hH2.newE i o (key i o hi), hH2.frameE, hH2.apart, hH2.eo⟩
    · have hold : (Builtin.firstCells i.size len (.slice (some ⟨bs r, 0, none⟩) len cap)).run C.P w.drew = .ok (reals bs xs).toArray w.drew := by
        refine run_firstCells_some (P := C.P) w.drew i.size len ⟨bs r, 0, none⟩ len cap (reals bs xs) (by rw [reals_eq, List.length_map, hOwn.1, hisz]) ?_
        intro j v hj
        rw [add_spot, cell_of_heap (show w.drew.heap[bs r]? = _ from l2)]
        simp only [reals_eq, List.map_append, Nat.zero_add] at hj ⊢
        have hjl : j < (xs.map (real bs)).length := by
          rcases Nat.lt_or_ge j (xs.map (real bs)).length with h | h
          · exact h
          · rw [List.getElem?_eq_none h] at hj; simp at hj
        simp only [List.getElem?_toArray]
        rw [List.getElem?_append_left hjl]; exact hj
      obtain ⟨V, w', x', bs', h1, h2, h3⟩ := hgrow (some ⟨bs r, 0, none⟩) cap rfl (by omega) hold (closeds_append.1 hclx).1
      rw [hexec _ _ h1]
      exact ⟨x', bs', h2, h3⟩
/-- copy. -/
theorem copyS {C : Cx} {Q : Exit → X → Prop} {o : Oper} {st : List It} {x : X} {a b : Operand} {t t2 T : TypeId} {i off dl cap m : Nat} {b' : EV} {news cs : List EV} {c : Prop} {T' : TypeId} {fr : Nat × Nat}
    (hop : o.op = .call { callee := .builtin .copy, args := #[a, b], argTypes := #[t, t2] })
    (ht : C.P.underlying t = some (.slice T)) (sz : Nat) (hcz : C.P.cellsOf T = sz) (hT : ∃ d, C.P.underlying T = some d)
    (ha : ev x.σ a = .sl i off dl cap) (hb : ev x.σ b = b') (hg : hget x.hs i = some (.cells cs T' fr))
    (hsrc : srcOf x.B x.hs sz b' = some (m, news, c)) (hc : c) (hone : oneAll news = true) (hfit : off + dl * sz ≤ cs.length) (hfr : fr.2 ≤ off ∨ off + dl * sz ≤ fr.1)
    (hk : Next C Q st { σ := put x.σ o.dst (.int .i64 ((min m dl : Nat) : Int)), n := x.n, hs := (i, some (.cells (cs.take off ++ news.take (min m dl * sz) ++ cs.drop (off + min m dl * sz)) T' fr)) :: x.hs, B := x.B, ms := x.ms }) : opS C Q o st x := by
  intro hd bs ac w hr Q'
  obtain ⟨dst, op, type, pos, after, guard⟩ := o
  simp only at hop hd hk; subst hop
  have hbne : b' ≠ .any := by rintro rfl; simp [srcOf] at hsrc
  have ea := eval_ev hr.t a (by rw [ha]; simp)
  have eb := eval_ev hr.t b (by rw [hb]; exact hbne)
  rw [ha] at ea; rw [hb] at eb
  obtain ⟨s1, s2, s3, s4⟩ := srcOf_sound hr.h hsrc hc
  obtain ⟨l1, l2⟩ := hr.h.live i _ hg
  have hccl : closeds x.n cs := hr.h.cl i _ hg
  simp only [EObj.real] at l2
  obtain ⟨d, hd'⟩ := hT
  have hm1 : min m dl * sz ≤ m * sz := Nat.mul_le_mul_right _ (Nat.min_le_left _ _)
  have hm2 : min m dl * sz ≤ dl * sz := Nat.mul_le_mul_right _ (Nat.min_le_right _ _)
  have hnl : (news.take (min m dl * sz)).length = min m dl * sz := by rw [List.length_take, s3]; omega
  obtain ⟨cs', r1, r2⟩ := storeCells_run (P := C.P) (T := T') (fr := fr) (reals bs (news.take (min m dl * sz))) w _ off 0 l2 (by simp only [reals_eq, Nat.add_zero, List.length_map, List.size_toArray, hnl]; omega) (by simp only [reals_eq, Nat.add_zero, List.length_map, hnl]; omega) (by
    intro u hu
    rw [reals_eq] at hu
    obtain ⟨q, hq, rfl⟩ := List.mem_map.1 hu
    exact real_one (oneAll_spec hone q (List.mem_of_mem_take hq)))
  have hcs' : cs' = (reals bs (cs.take off ++ news.take (min m dl * sz) ++ cs.drop (off + min m dl * sz))).toArray := by
    apply Array.ext'
    rw [r2]
    simp [reals_eq, List.map_take, List.map_drop, hnl]
    omega
  refine ⟨fun _ _ => trivial, ?_⟩
  rw [Oper.semAt_eq _ _ _ (by intro c; simp)]
  have hrun : (Builtin.copy_ #[t, t2] type #[real bs (.sl i off dl cap), real bs b']).run C.P w = .ok (.int .i64 ((min m dl : Nat) : Int)) (setBlk w (bs i) (.cells cs' T' fr)) := by
    have hf := s2 (min m dl) (Nat.min_le_left _ _)
    have e1 : Nat.min m dl = min m dl := rfl
    simp [real, Builtin.copy_, run_underlying _ _ _ _ ht, run_sizeOf' _ _ _ _ hd', hcz, s1, hf, e1, r1, goInt]
  have hexec : (execOp ac.eval { dst := dst, op := .call { callee := .builtin .copy, args := #[a, b], argTypes := #[t, t2] }, type := type, pos := pos, after := after, guard := guard }).run C.P w = .ok (.value (.int .i64 ((min m dl : Nat) : Int))) (setBlk w (bs i) (.cells cs' T' fr)) := by
    simp only [execOp, resolve, invoke, builtin, Sem.run_bind, Sem.run_pure, Result.andThen_ok, List.map_toArray, List.map_cons, List.map_nil, ea, eb, hrun]
  rw [hexec]
  have hcl' : closeds x.n (cs.take off ++ news.take (min m dl * sz) ++ cs.drop (off + min m dl * sz)) := by
    refine closeds_append.2 ⟨closeds_append.2 ⟨?_, ?_⟩, ?_⟩
    · rw [closeds_iff]; intro v hv; exact closeds_mem hccl (List.mem_of_mem_take hv)
    · rw [closeds_iff]; intro v hv; exact closeds_mem s4 (List.mem_of_mem_take hv)
    · rw [closeds_iff]; intro v hv; exact closeds_mem hccl (List.mem_of_mem_drop hv)
  have hH := hr.h.store hg (.cells (cs.take off ++ news.take (min m dl * sz) ++ cs.drop (off + min m dl * sz)) T' fr) hcl'
  refine ⟨_, bs, ⟨hr.t.next (Nat.le_refl _) (fun _ _ => rfl) hd (v := .int .i64 ((min m dl : Nat) : Int)) (.inr rfl) trivial, ?_⟩, hk⟩
  rw [hcs']; exact hH
/-- An operation that only yields a value, by its own law. -/
theorem valueS {C : Cx} {Q : Exit → X → Prop} {o : Oper} {st : List It} {x : X} (v : EV) (hnd : ∀ c, o.op ≠ .defer c) (hcl : closed x.n v)
    (h : ∀ bs a w, Rel C x bs a w → (execOp a.eval o).run C.P w = .ok (.value (real bs v)) w)
    (hk : Next C Q st { σ := put x.σ o.dst v, n := x.n, hs := x.hs, B := x.B, ms := x.ms }) : opS C Q o st x := by
  intro hd bs ac w hr Q'
  refine ⟨fun _ _ => trivial, ?_⟩
  rw [Oper.semAt_eq _ _ _ hnd, h bs ac w hr]
  exact ⟨{ σ := put x.σ o.dst v, n := x.n, hs := x.hs, B := x.B, ms := x.ms }, bs, ⟨hr.t.next (Nat.le_refl _) (fun _ _ => rfl) hd (.inr rfl) hcl, hr.h⟩, hk⟩
theorem arrayOfS {C : Cx} {Q : Exit → X → Prop} {o : Oper} {st : List It} {x : X} {arr : TypeId} {a : Operand} {i off len cap n : Nat} {T : TypeId} (hop : o.op = .sliceToArrayPointer arr a) (ht : C.P.underlying arr = some (.array n T))
    (ha : ev x.σ a = .sl i off len cap) (hn : n ≤ len) (hi : i < x.n) (hk : Next C Q st { σ := put x.σ o.dst (.ptr i off), n := x.n, hs := x.hs, B := x.B, ms := x.ms }) : opS C Q o st x := by
  refine valueS (.ptr i off) (by rw [hop]; simp) hi ?_ hk
  intro bs ac w hr
  obtain ⟨dst, op, type, pos, after, guard⟩ := o
  simp only at hop; subst hop
  have ea := eval_ev hr.t a (by rw [ha]; simp)
  rw [ha] at ea
  have : ¬ len < n := by omega
  simp [execOp, ea, real, Instr.arrayAt, run_underlying _ _ _ _ ht, this]
/-- The bytes of cells. -/
def bytesOfE (l : List EV) : ByteArray := ⟨(l.map fun v => UInt8.ofNat v.num.toNat).toArray⟩
theorem push_fold {g : Value → ByteArray → Sem (ForInStep ByteArray)} : ∀ (l : List EV) (bs : Nat → Nat) (s : ByteArray) (w : World) (P : Program), l.all (EV.isInt .u8) = true →
    (∀ n s, (g (.int .u8 n) s).run P w = .ok (ForInStep.yield (s.push (UInt8.ofNat n.toNat))) w) →
    (forIn (reals bs l) s g).run P w = .ok (ByteArray.mk (s.data ++ (bytesOfE l).data)) w
  | [], bs, s, w, P, _, _ => by simp [reals, bytesOfE]
  | v :: l, bs, s, w, P, h, hg => by
    simp only [List.all_cons, Bool.and_eq_true] at h
    have hv := isInt_real bs h.1
    have ih := push_fold l bs (s.push (UInt8.ofNat v.num.toNat)) w P h.2 hg
    simp only [reals, hv, List.forIn_cons, Sem.run_bind, hg, Result.andThen_ok] at ih ⊢
    rw [ih]
    congr 1
    show ByteArray.mk (s.data.push _ ++ (l.map _).toArray) = ByteArray.mk (s.data ++ (_ :: l.map _).toArray)
    congr 1
    apply Array.ext'; simp
theorem strOfS {C : Cx} {Q : Exit → X → Prop} {o : Oper} {st : List It} {x : X} {s d T : TypeId} {a : Operand} {b' : EV} {m : Nat} {news : List EV} {c : Prop} (hop : o.op = .convert s d a)
    (hs : C.P.underlying s = some (.slice T)) (hT : C.P.underlying T = some (.int .u8)) (hd : C.P.underlying d = some .string) (ha : ev x.σ a = b') (hsl : ∀ u, b' ≠ .str u)
    (hsrc : srcOf x.B x.hs 1 b' = some (m, news, c)) (hc : c) (hall : news.all (EV.isInt .u8) = true)
    (hk : Next C Q st { σ := put x.σ o.dst (.str (bytesOfE news)), n := x.n, hs := x.hs, B := x.B, ms := x.ms }) : opS C Q o st x := by
  refine valueS (.str (bytesOfE news)) (by rw [hop]; simp) trivial ?_ hk
  intro bs ac w hr
  obtain ⟨dst, op, type, pos, after, guard⟩ := o
  simp only at hop; subst hop
  have hbne : b' ≠ .any := by rintro rfl; simp [srcOf] at hsrc
  have ea := eval_ev hr.t a (by rw [ha]; exact hbne)
  rw [ha] at ea
  obtain ⟨s1, s2, s3, s4⟩ := srcOf_sound hr.h hsrc hc
  have hf := s2 m (Nat.le_refl _)
  rw [List.take_of_length_le (by omega)] at hf
  have key : ∀ base l cp, real bs b' = .slice base l cp → (Conv.bytesToString (.slice base l cp)).run C.P w = .ok (.string (bytesOfE news)) w := by
    intro base l cp he
    rw [he] at hf
    have hl := s1 w
    rw [he] at hl
    simp only [Builtin.lenOf, Sem.run_pure, Result.ok.injEq] at hl
    cases base with
    | none =>
      have hnn : news = [] := by
        simp only [Builtin.firstCells, Sem.run_pure, Result.ok.injEq] at hf
        have h2 : (reals bs news).length = 0 := by
          have h3 := congrArg Array.size hf.1
          simpa using h3.symm
        rw [reals_eq, List.length_map] at h2
        exact List.eq_nil_of_length_eq_zero h2
      subst hnn
      simp [Conv.bytesToString, bytesOfE]; rfl
    | some ad =>
      have hf' : (loadCells ad l).run C.P w = .ok (reals bs news).toArray w := by
        rw [hl.1]; simpa [Builtin.firstCells] using hf
      simp only [Conv.bytesToString, Sem.run_bind, hf', Result.andThen_ok, Sem.run_pure]
      rw [← Array.forIn_toList, push_fold news bs _ w C.P hall (fun n s => by simp)]
      have he : (ByteArray.mk (ByteArray.empty.data ++ (bytesOfE news).data)) = bytesOfE news := by
        show ByteArray.mk (_ ++ _) = ByteArray.mk (bytesOfE news).data
        congr 1
        exact Array.empty_append
      rw [he]; rfl
  have hsl' : ∃ base l cp, real bs b' = .slice base l cp := by
    unfold srcOf at hsrc
    split at hsrc
    · exact ⟨_, _, _, rfl⟩
    · exact ⟨_, _, _, rfl⟩
    · exact ⟨_, _, _, rfl⟩
    · exact absurd rfl (hsl _)
    · simp at hsrc
  obtain ⟨base, l, cp, he⟩ := hsl'
  have hk2 := key base l cp he
  simp only [execOp, ea, he, Sem.run_bind]
  simp [convert, run_underlying _ _ _ _ hs, run_underlying _ _ _ _ hd, run_underlying _ _ _ _ hT, hk2, real]
/-- []byte of a string. -/
theorem bytesOfS {C : Cx} {Q : Exit → X → Prop} {o : Oper} {st : List It} {x : X} {s d T : TypeId} {a : Operand} {t : ByteArray} {u : TypeDesc} (hop : o.op = .convert s d a)
    (hs : C.P.underlying s = some u) (hT : C.P.underlying T = some (.int .u8)) (hdd : C.P.underlying d = some (.slice T)) (ha : ev x.σ a = .str t) (hmax : t.size ≤ maxLen)
    (hk : ∀ cap, t.size ≤ cap → cap ≤ maxLen → Next C Q st { σ := put x.σ o.dst (.sl x.n 0 t.size cap), n := x.n + 1, hs := (x.n, some (.cells (bytesE t ++ List.replicate (cap - t.size) (.int .u8 0)) T (cap, cap + 1))) :: x.hs, B := x.B, ms := x.ms }) : opS C Q o st x := by
  intro hd bs ac w hr Q'
  obtain ⟨dst, op, type, pos, after, guard⟩ := o
  simp only at hop hd hk; subst hop
  have ea := eval_ev hr.t a (by rw [ha]; simp)
  rw [ha] at ea
  have hrun := Lib.run_convert_string_bytes (P := C.P) w s d T t hs hdd hT
  have hge := grownCap_ge w t.size 0 T
  have hcm := grownCap_le_maxLen w t.size 0 T hmax
  refine ⟨fun _ _ => trivial, ?_⟩
  rw [Oper.semAt_eq _ _ _ (by intro c; simp)]
  have hexec : (execOp ac.eval { dst := dst, op := .convert s d a, type := type, pos := pos, after := after, guard := guard }).run C.P w = .ok (.value (.slice (some ⟨w.heap.size, 0, none⟩) t.size (grownCap w t.size 0 T))) (Lib.bytesWorld w T t) := by
    simp only [execOp, ea, real, Sem.run_bind, hrun, Result.andThen_ok, Sem.run_pure]
  rw [hexec]
  obtain ⟨gc, hgc⟩ : ∃ gc, gc = grownCap w t.size 0 T := ⟨_, rfl⟩
  have hsz : (Lib.bytesCells w T t).size = gc := by
    have hts : t.data.size = t.size := rfl
    simp only [Lib.bytesCells, Array.size_append, Array.size_map, Array.size_replicate, hts, ← hgc]; omega
  have hcl : closeds x.n (bytesE t ++ List.replicate (gc - t.size) (.int .u8 0)) := by
    refine closeds_append.2 ⟨closeds_bytesE _ _, ?_⟩
    rw [closeds_iff]; intro v hv; rw [List.eq_of_mem_replicate hv]; trivial
  have hH := hr.h.drew.alloc (.cells (bytesE t ++ List.replicate (gc - t.size) (EV.int .u8 0)) T (gc, gc + 1)) hcl
  have hw : Lib.bytesWorld w T t = { w.drew with heap := w.drew.heap.push ((EObj.cells (bytesE t ++ List.replicate (gc - t.size) (.int .u8 0)) T (gc, gc + 1)).real bs) } := by
    have hc1 : (Lib.bytesCells w T t) = (reals bs (bytesE t ++ List.replicate (gc - t.size) (.int .u8 0))).toArray := by
      apply Array.ext'
      simp [Lib.bytesCells, reals_eq, bytesE, hgc, real, Function.comp_def]
    have hheap : (Lib.bytesWorld w T t).heap = w.drew.heap.push ((EObj.cells (bytesE t ++ List.replicate (gc - t.size) (.int .u8 0)) T (gc, gc + 1)).real bs) := by
      apply Array.ext_getElem?
      intro k
      rcases Nat.lt_trichotomy k w.heap.size with h | h | h
      · rw [Lib.bytesWorld_at_old w T t k h, Array.getElem?_push, if_neg (by show k ≠ w.heap.size; omega)]; rfl
      · subst h
        rw [Lib.bytesWorld_at_new, hsz, hc1, Array.getElem?_push, if_pos (show w.heap.size = w.drew.heap.size from rfl)]; rfl
      · rw [Array.getElem?_eq_none (by rw [Lib.bytesWorld_size]; omega), Array.getElem?_eq_none (by simp; show w.heap.size + 1 ≤ k; omega)]
    have hrest : Lib.bytesWorld w T t = { w.drew with heap := (Lib.bytesWorld w T t).heap } := by
      simp [Lib.bytesWorld, World.freeze, World.alloc, World.drew, -World.alloc_eq, -World.drew_eq]
    rw [hrest, hheap]
  rw [← hgc] at hge hcm ⊢
  rw [hw]
  exact ⟨_, upd bs x.n w.heap.size, ⟨hr.t.next (Nat.le_succ _) upd_lt hd (v := .sl x.n 0 t.size gc) (.inr (by simp [real, upd_self])) (by simp [closed]), hH⟩, hk gc hge hcm⟩
attribute [go_sem] srcOf
end Go.Ew
/- Contracts as one word: a function that hands a value back and turns nothing; words by their values. -/
set_option linter.unusedSimpArgs false
set_option linter.unusedVariables false
namespace Go.Ew
open Go RowKit
/-- Called with args, function f hands v back; nothing that was there turns. -/
structure Pure (P : Program) (f : FuncId) (args : List EV) (v : EV) : Prop where
  en : Enters P f
  cl : closed 0 v
  run : ∀ bs w, Calls P f (reals bs args).toArray w (Ret (real bs v) w)
theorem pure_p {P : Program} {f : FuncId} {fn : Func} {c : Code} {args : List EV} {v : EV} (hE : Enters P f) (hv : closed 0 v)
    (hf : P.funcs[f]? = some fn) (hb : fn.body = some c) (hin : codeIn fn.ntmps c = true) (hl : args.length ≤ fn.ntmps) (hcl : closeds 0 args)
    (h : ∀ w, Next (cx0 P fn.ntmps w) (retE (cx0 P fn.ntmps w) fn.results.toList (fun v' x => x.B = base w ∧ v' = v)) [.c c] ⟨argσ 0 args, 0, [], base w, []⟩) : Pure P f args v := by
  refine ⟨hE, hv, fun bs w => ?_⟩
  have := calls_of (C := (cx0 P fn.ntmps w)) (K := fun v' x => x.B = base w ∧ v' = v) rfl hf hb rfl hin hl (HRel.start bs) hcl (h w)
  refine this.mono ?_
  rintro e w' ⟨v', x', bs', rfl, _, hh, hB, rfl⟩
  rw [hB] at hh
  exact ⟨by rw [real_congr (n := 0) (bs := bs) (bs' := bs') (fun i hi => absurd hi (by omega)) _ hv], hh.below⟩
theorem callS_p {C : Cx} {Q : Exit → X → Prop} {f : FuncId} {args : List EV} {dst : Option Tmp} {st : List It} {x : X} {v : EV} (h : Pure C.P f args v)
    (hk : Next C Q st { σ := put x.σ dst v, n := x.n, hs := x.hs, B := x.B, ms := x.ms }) : callS C Q f args dst st x :=
  callS_pure v h.en (closed_mono (Nat.zero_le _) _ h.cl) (fun bs w _ => h.run bs w) hk
theorem callD_p {C : Cx} {Q : Exit → X → Prop} {ops : List Oper} {st : List It} {f : FuncId} {args : List EV} {acc : List (Nat × Oper × Ef)} {k : Nat} {o : Oper} {rest : List Oper} {x : X} {v : EV} (h : Pure C.P f args v)
    (hk : allIn C.N rest = true → DG C Q ops st ((k, o, { dst := o.dst, v := v, ups := [], a := 0, looks := opLooks o.op ++ gLook ops o.guard, foot := [] }) :: acc) (k + 1) rest { σ := put x.σ o.dst v, n := x.n, hs := x.hs, B := x.B, ms := x.ms }) :
    callD C Q ops st f args acc k o rest x := callD_pure v [] h.en h.cl (fun y bs w _ _ _ => h.run bs w) hk
/-- A function that the model has a row for. -/
def Ext (P : Program) (f : FuncId) (args : List EV) (v : EV) : Prop := closed 0 v ∧ ∀ bs w, (callFunc f (reals bs args).toArray).run P w = .ok (.value (real bs v)) w
theorem callS_e {C : Cx} {Q : Exit → X → Prop} {f : FuncId} {args : List EV} {dst : Option Tmp} {st : List It} {x : X} {v : EV} (h : Ext C.P f args v)
    (hk : Next C Q st { σ := put x.σ dst v, n := x.n, hs := x.hs, B := x.B, ms := x.ms }) : callS C Q f args dst st x :=
  callS_ext v (closed_mono (Nat.zero_le _) _ h.1) h.2 hk
theorem callD_e {C : Cx} {Q : Exit → X → Prop} {ops : List Oper} {st : List It} {f : FuncId} {args : List EV} {acc : List (Nat × Oper × Ef)} {k : Nat} {o : Oper} {rest : List Oper} {x : X} {v : EV} (h : Ext C.P f args v)
    (hk : allIn C.N rest = true → DG C Q ops st ((k, o, { dst := o.dst, v := v, ups := [], a := 0, looks := opLooks o.op ++ gLook ops o.guard, foot := [] }) :: acc) (k + 1) rest { σ := put x.σ o.dst v, n := x.n, hs := x.hs, B := x.B, ms := x.ms }) :
    callD C Q ops st f args acc k o rest x := callD_ext v h.1 h.2 hk
/-! ### words -/
/-- The cells of a word of value n. -/
def wC (n : Nat) : List EV := [.int .u64 (n % 18446744073709551616 : Nat), .int .u64 (n / 18446744073709551616 % 18446744073709551616 : Nat), .int .u64 (n / 340282366920938463463374607431768211456 % 18446744073709551616 : Nat),
  .int .u64 (n / 6277101735386680763835789423207666416102355444464034512896 % 18446744073709551616 : Nat)]
/-- A word of value n. -/
def wE (n : Nat) : EV := .agg (wC n)
theorem wE_eq (n : Nat) : wE n = .agg (wC n) := rfl
theorem wC_len (n : Nat) : (wC n).length = 4 := rfl
theorem wC_take (n : Nat) : (wC n).take 4 = wC n := rfl
theorem wC_splice (cs : List EV) (h : cs.length = 4) (n : Nat) : splice cs 0 (wC n) = wC n := by
  show cs.take 0 ++ wC n ++ cs.drop (0 + 4) = wC n
  rw [List.drop_eq_nil_of_le (by omega)]; simp
theorem wC_splice4 (a b c d : EV) (n : Nat) : splice [a, b, c, d] 0 (wC n) = wC n := wC_splice _ rfl n
theorem wC_spliceW (m n : Nat) : splice (wC m) 0 (wC n) = wC n := wC_splice _ rfl n
theorem wC_one (n : Nat) : oneAll (wC n) = true := rfl
theorem closeds_wC (m n : Nat) : closeds m (wC n) := by simp [wC, closed, closeds]
theorem closed_wE (m n : Nat) : closed m (wE n) := closeds_wC m n
theorem wC_all (n : Nat) : (wC n).all (EV.isInt .u64) = true := by simp [wC, EV.isInt]
theorem wC_inj {m n : Nat} (hm : m < 115792089237316195423570985008687907853269984665640564039457584007913129639936) (hn : n < 115792089237316195423570985008687907853269984665640564039457584007913129639936) :
    ((wC m).map EV.num == (wC n).map EV.num) = decide (m = n) := by
  rw [Bool.eq_iff_iff, beq_iff_eq, decide_eq_true_eq]
  simp only [wC, List.map_cons, List.map_nil, EV.num, List.cons.injEq, and_true]
  omega
/-- Its limbs. -/
structure Limbs (n : Nat) (a b c d : Int) : Prop where
  a0 : 0 ≤ a
  a1 : a < 18446744073709551616
  b0 : 0 ≤ b
  b1 : b < 18446744073709551616
  c0 : 0 ≤ c
  c1 : c < 18446744073709551616
  d0 : 0 ≤ d
  d1 : d < 18446744073709551616
  v : (n : Int) = a + b * 18446744073709551616 + c * 340282366920938463463374607431768211456 + d * 6277101735386680763835789423207666416102355444464034512896
theorem wE_open (n : Nat) (h : n < 115792089237316195423570985008687907853269984665640564039457584007913129639936) : ∃ a b c d, wE n = .agg [.int .u64 a, .int .u64 b, .int .u64 c, .int .u64 d] ∧ Limbs n a b c d := by
  refine ⟨_, _, _, _, rfl, ?_⟩
  constructor <;> omega
theorem wE_of {n : Nat} {a b c d : Int} (h : Limbs n a b c d) : EV.agg [.int .u64 a, .int .u64 b, .int .u64 c, .int .u64 d] = wE n := by
  obtain ⟨a0, a1, b0, b1, c0, c1, d0, d1, v⟩ := h
  show _ = EV.agg (wC n)
  unfold wC
  have e1 : a = ((n % 18446744073709551616 : Nat) : Int) := by omega
  have e2 : b = ((n / 18446744073709551616 % 18446744073709551616 : Nat) : Int) := by omega
  have e3 : c = ((n / 340282366920938463463374607431768211456 % 18446744073709551616 : Nat) : Int) := by omega
  have e4 : d = ((n / 6277101735386680763835789423207666416102355444464034512896 % 18446744073709551616 : Nat) : Int) := by omega
  rw [← e1, ← e2, ← e3, ← e4]
theorem Limbs.lt {n : Nat} {a b c d : Int} (h : Limbs n a b c d) : n < 115792089237316195423570985008687907853269984665640564039457584007913129639936 := by
  obtain ⟨a0, a1, b0, b1, c0, c1, d0, d1, v⟩ := h; omega
theorem Limbs.inj {n m : Nat} {a b c d a' b' c' d' : Int} (h : Limbs n a b c d) (k : Limbs m a' b' c' d') : (n = m) ↔ (a = a' ∧ b = b' ∧ c = c' ∧ d = d') := by
  obtain ⟨a0, a1, b0, b1, c0, c1, d0, d1, v⟩ := h
  obtain ⟨a0', a1', b0', b1', c0', c1', d0', d1', v'⟩ := k
  omega
/-- 2^256. -/
abbrev W256 : Nat := 115792089237316195423570985008687907853269984665640564039457584007913129639936
theorem avs_wC (r n : Nat) : avs r (wC n) := avs_closed (n := 0) (Nat.zero_le _) _ (closeds_wC 0 n)
attribute [go_sem] avs_wC
attribute [go_sem] wE_eq wC_len wC_take wC_splice4 wC_spliceW wC_one closeds_wC wC_all wC_inj closed_wE
end Go.Ew
/- Digits; shifts and bits of numbers that are in their kind. -/
set_option linter.unusedSimpArgs false
set_option linter.unusedVariables false
namespace Go.Ew
open Go
/-! ### digits -/
def dig (b n i : Nat) : Int := ((n / b ^ i % b : Nat) : Int)
def num (b : Nat) (z : Nat → Int) : Nat → Int
  | 0 => 0
  | k + 1 => num b z k + z k * (b ^ k : Nat)
theorem num_dig (b n : Nat) : ∀ k, num b (dig b n) k = ((n % b ^ k : Nat) : Int)
  | 0 => by simp [num, Nat.mod_one]
  | k + 1 => by
    rw [num, num_dig b n k, dig, Nat.mod_pow_succ]
    simp only [Int.natCast_add, Int.natCast_mul]
    rw [Int.mul_comm]
theorem dig_nn (b n i : Nat) : 0 ≤ dig b n i := Int.natCast_nonneg _
theorem dig_lt {b : Nat} (hb : 0 < b) (n i : Nat) : dig b n i < b := by
  unfold dig; exact Int.ofNat_lt.2 (Nat.mod_lt _ hb)
theorem num_congr {b : Nat} {x y : Nat → Int} : ∀ {k : Nat}, (∀ i, i < k → x i = y i) → num b x k = num b y k
  | 0, _ => rfl
  | k + 1, h => by rw [num, num, num_congr (fun i hi => h i (by omega)), h k (by omega)]
theorem num_setF_ge {b : Nat} {z : Nat → Int} {i k : Nat} {v : Int} (h : k ≤ i) : num b (setF z i v) k = num b z k :=
  num_congr fun j hj => by simp [setF, show ¬ j = i by omega]
theorem num_setF {b : Nat} {z : Nat → Int} {i : Nat} {v : Int} : ∀ {k : Nat}, i < k → num b (setF z i v) k = num b z k + (v - z i) * (b ^ i : Nat)
  | 0, h => by omega
  | k + 1, h => by
    rw [num, num]
    by_cases e : i = k
    · subst e
      rw [num_setF_ge (Nat.le_refl _)]
      simp only [setF, if_true]
      rw [Int.sub_mul]; omega
    · rw [num_setF (by omega)]
      have : setF z i v k = z k := by simp [setF, show ¬ k = i by omega]
      rw [this]; omega
theorem num_bd {b : Nat} {z : Nat → Int} : ∀ {k : Nat}, (∀ i, i < k → 0 ≤ z i ∧ z i < b) → 0 ≤ num b z k ∧ num b z k < (b ^ k : Nat)
  | 0, _ => by simp [num]
  | k + 1, h => by
    obtain ⟨h1, h2⟩ := num_bd (k := k) (fun i hi => h i (by omega))
    obtain ⟨z1, z2⟩ := h k (by omega)
    rw [num]
    have e : ((b ^ (k + 1) : Nat) : Int) = (b ^ k : Nat) * (b : Int) := by rw [Nat.pow_succ]; simp
    rw [e]
    generalize hp : ((b ^ k : Nat) : Int) = p at *
    have hp0 : 0 ≤ p := by rw [← hp]; exact Int.natCast_nonneg _
    have q1 : z k * p ≤ ((b : Int) - 1) * p := Int.mul_le_mul_of_nonneg_right (by omega) hp0
    have q2 : 0 ≤ z k * p := Int.mul_nonneg z1 hp0
    have q3 : ((b : Int) - 1) * p = p * b - p := by rw [Int.sub_mul, Int.one_mul, Int.mul_comm]
    omega
theorem dig_num {b : Nat} (hb : 0 < b) {z : Nat → Int} : ∀ {k N : Nat}, (∀ i, i < k → 0 ≤ z i ∧ z i < b) → num b z k = (N : Int) → ∀ i, i < k → z i = dig b N i
  | 0, N, _, _, i, hi => by omega
  | k + 1, N, h, hN, i, hi => by
    obtain ⟨h1, h2⟩ := num_bd (k := k) (fun i hi => h i (by omega))
    obtain ⟨z1, z2⟩ := h k (by omega)
    obtain ⟨M, hM⟩ := Int.eq_ofNat_of_zero_le h1
    obtain ⟨q, hq⟩ := Int.eq_ofNat_of_zero_le z1
    rw [num, hM, hq] at hN
    have hN' : N = M + q * b ^ k := by
      have : ((M + q * b ^ k : Nat) : Int) = N := by rw [← hN]; simp
      omega
    rw [hM] at h2
    have hMl : M < b ^ k := by exact Int.ofNat_lt.1 h2
    by_cases e : i = k
    · subst e
      rw [hq, dig, hN', Nat.add_mul_div_right _ _ (Nat.pow_pos hb), Nat.div_eq_of_lt hMl, Nat.zero_add, Nat.mod_eq_of_lt (by omega)]
    · have hik : i < k := by omega
      rw [dig_num hb (k := k) (N := M) (fun i hi => h i (by omega)) hM i hik, dig, dig, hN']
      congr 1
      have ek : b ^ k = b ^ i * (b * b ^ (k - i - 1)) := by
        rw [← Nat.pow_succ', ← Nat.pow_add]; congr 1; omega
      rw [ek]
      rw [show M + q * (b ^ i * (b * b ^ (k - i - 1))) = M + b ^ i * (b * (b ^ (k - i - 1) * q)) by
        rw [Nat.mul_comm q, Nat.mul_assoc, Nat.mul_assoc]]
      rw [Nat.add_mul_div_left _ _ (Nat.pow_pos hb), Nat.add_mul_mod_self_left]
theorem ints_num {k : IntKind} {b : Nat} (hb : 0 < b) {z : Nat → Int} {n N : Nat} (h : ∀ i, i < n → 0 ≤ z i ∧ z i < b) (hN : num b z n = (N : Int)) : ints k z n = ints k (dig b N) n :=
  ints_congr fun i hi => dig_num hb h hN i hi
theorem wE_ints (n : Nat) : wE n = .agg (ints .u64 (dig 18446744073709551616 n) 4) := by
  simp [wE, wC, ints, dig, List.range, List.range.loop]
/-! ### shifts -/
theorem bShr_u64 {a b : Int} (ha : 0 ≤ a) (hb : 0 ≤ b) (hb' : b < 64) : bShr .u64 a b = a / (2 : Int) ^ b.toNat := by
  unfold bShr
  have e : min b.toNat (IntKind.bits .u64) = b.toNat := by show min b.toNat 64 = _; omega
  rw [e, Int.fdiv_eq_ediv_of_nonneg]
  exact Int.le_of_lt (Int.pow_pos (by omega))
theorem bShl_u64 {a b : Int} (hb : 0 ≤ b) (hb' : b < 64) : bShl .u64 a b = a * (2 : Int) ^ b.toNat % 18446744073709551616 := by
  unfold bShl
  have e : min b.toNat (IntKind.bits .u64) = b.toNat := by show min b.toNat 64 = _; omega
  rw [e, wrap_u64_mod]
theorem and_lit (a : Int) (k m : Nat) (hm : m = 2 ^ k - 1) (ha : 0 ≤ a) (ha' : a < 18446744073709551616) (hk : k ≤ 64) : bAnd .u64 a m = a % (2 ^ k : Nat) := by
  have hpos : 0 < 2 ^ k := Nat.pow_pos (by omega)
  have hle : 2 ^ k ≤ 2 ^ 64 := Nat.pow_le_pow_right (by omega) hk
  have h64 : (2 : Nat) ^ 64 = 18446744073709551616 := by decide
  rw [bAnd_u64 ha ha' (by omega) (by omega)]
  have e : ((m : Int)).toNat = m := by omega
  rw [e, hm, Nat.and_two_pow_sub_one_eq_mod, Int.natCast_emod, Int.toNat_of_nonneg ha]
theorem bAnd_1 {a : Int} (ha : 0 ≤ a) (ha' : a < 18446744073709551616) : bAnd .u64 a 1 = a % 2 := and_lit a 1 1 (by decide) ha ha' (by omega)
theorem bAnd_15 {a : Int} (ha : 0 ≤ a) (ha' : a < 18446744073709551616) : bAnd .u64 a 15 = a % 16 := and_lit a 4 15 (by decide) ha ha' (by omega)
theorem bXor_max {a : Int} (ha : 0 ≤ a) (ha' : a < 18446744073709551616) : bXor .u64 18446744073709551615 a = 18446744073709551615 - a := by
  rw [bXor_u64 (by omega) (by omega) ha ha']
  have e : (18446744073709551615 : Int).toNat = 2 ^ 64 - 1 := by decide
  have h : (2 ^ 64 - 1) ^^^ a.toNat = 2 ^ 64 - 1 - a.toNat := by
    have hlt : a.toNat < 2 ^ 64 := by omega
    apply Nat.eq_of_testBit_eq
    intro i
    rw [Nat.testBit_xor, Nat.testBit_two_pow_sub_one]
    have e2 : 2 ^ 64 - 1 - a.toNat = 2 ^ 64 - (a.toNat + 1) := by omega
    rw [e2, Nat.testBit_two_pow_sub_succ hlt]
    by_cases hi : i < 64
    · simp [hi]
    · have : a.toNat.testBit i = false := Nat.testBit_lt_two_pow (Nat.lt_of_lt_of_le hlt (Nat.pow_le_pow_right (by omega) (by omega)))
      simp [hi, this]
  rw [e, h]; omega
theorem bXor_top {a : Int} (ha : 0 ≤ a) (ha' : a < 18446744073709551616) : bXor .u64 a 9223372036854775808 = if a < 9223372036854775808 then a + 9223372036854775808 else a - 9223372036854775808 := by
  rw [bXor_u64 ha ha' (by omega) (by omega)]
  have e : (9223372036854775808 : Int).toNat = 2 ^ 63 := by decide
  rw [e]
  by_cases h : a < 9223372036854775808
  · rw [if_pos h]
    have hlt : a.toNat < 2 ^ 63 := by omega
    have : a.toNat ^^^ 2 ^ 63 = a.toNat + 2 ^ 63 := by
      rw [Nat.add_comm, Nat.xor_comm]
      apply Nat.eq_of_testBit_eq
      intro i
      rw [Nat.testBit_xor, Nat.testBit_two_pow]
      by_cases hi : i < 63
      · rw [Nat.testBit_two_pow_add_gt hi]; simp [show ¬ 63 = i by omega]
      · by_cases hi2 : i = 63
        · subst hi2
          rw [Nat.testBit_two_pow_add_eq]; simp [Nat.testBit_lt_two_pow hlt]
        · have h1 : a.toNat.testBit i = false := Nat.testBit_lt_two_pow (Nat.lt_of_lt_of_le hlt (Nat.pow_le_pow_right (by omega) (by omega)))
          have h2 : (2 ^ 63 + a.toNat).testBit i = false := Nat.testBit_lt_two_pow (Nat.lt_of_lt_of_le (show 2 ^ 63 + a.toNat < 2 ^ 64 by omega) (Nat.pow_le_pow_right (by omega) (by omega)))
          simp [h1, h2, show ¬ 63 = i by omega]
    omega
  · rw [if_neg h]
    have hlt : a.toNat - 2 ^ 63 < 2 ^ 63 := by omega
    have hd : a.toNat = 2 ^ 63 + (a.toNat - 2 ^ 63) := by omega
    have : a.toNat ^^^ 2 ^ 63 = a.toNat - 2 ^ 63 := by
      generalize hq : a.toNat - 2 ^ 63 = q at *
      rw [hd]
      apply Nat.eq_of_testBit_eq
      intro i
      rw [Nat.testBit_xor, Nat.testBit_two_pow]
      by_cases hi : i < 63
      · rw [Nat.testBit_two_pow_add_gt hi]; simp [show ¬ 63 = i by omega]
      · by_cases hi2 : i = 63
        · subst hi2
          rw [Nat.testBit_two_pow_add_eq]; simp [Nat.testBit_lt_two_pow hlt]
        · have h1 : q.testBit i = false := Nat.testBit_lt_two_pow (Nat.lt_of_lt_of_le hlt (Nat.pow_le_pow_right (by omega) (by omega)))
          have h2 : (2 ^ 63 + q).testBit i = false := Nat.testBit_lt_two_pow (Nat.lt_of_lt_of_le (show 2 ^ 63 + q < 2 ^ 64 by omega) (Nat.pow_le_pow_right (by omega) (by omega)))
          simp [h1, h2, show ¬ 63 = i by omega]
    omega
/-- Bits that lie apart. -/
theorem bOr_add {a b : Int} {s : Nat} (ha : 0 ≤ a) (ha' : a < 18446744073709551616) (hb : 0 ≤ b) (hb' : b < 18446744073709551616) (h1 : a % (2 ^ s : Nat) = 0) (h2 : b < (2 ^ s : Nat)) : bOr .u64 a b = a + b := by
  rw [bOr_u64 ha ha' hb hb']
  obtain ⟨m, rfl⟩ := Int.eq_ofNat_of_zero_le ha
  obtain ⟨n, rfl⟩ := Int.eq_ofNat_of_zero_le hb
  have hn : n < 2 ^ s := Int.ofNat_lt.1 h2
  have hm : m % 2 ^ s = 0 := by have : ((m % 2 ^ s : Nat) : Int) = 0 := by rw [← h1]; simp
                                omega
  have hm2 : m = 2 ^ s * (m / 2 ^ s) := by have := Nat.div_add_mod m (2 ^ s); omega
  simp only [Int.toNat_natCast]
  rw [hm2, ← Nat.two_pow_add_eq_or_of_lt hn]; simp
attribute [go_sem] bShr_u64 bShl_u64 bAnd_1 bAnd_15 bXor_max bXor_top
theorem max_u64 : IntKind.max .u64 = 18446744073709551615 := by decide
theorem signed_u64 : IntKind.signed .u64 = false := rfl
attribute [go_sem] max_u64 signed_u64
end Go.Ew
/- Function values called in a region that draws its order; slices of one's own handed on. -/
set_option linter.unusedSimpArgs false
set_option linter.unusedVariables false
namespace Go.Ew
open Go RowKit
theorem specD_p {C : Cx} {Q : Exit → X → Prop} {ops : List Oper} {st : List It} {acc : List (Nat × Oper × Ef)} {k : Nat} {o : Oper} {rest : List Oper} {x : X} {t : Nat} {args : Array Operand} {Ts : Array TypeId} {f : FuncId} {first cap vs : List EV} {v : EV}
    (hop : o.op = .call { callee := .value (.tmp t), args := args, argTypes := Ts }) (ht : tget x.σ t = .fn (.func f) first cap) (hvs : args.toList.map (ev x.σ) = vs) (hany : noAny vs = true) (hin : allIn C.N rest = true)
    (h : Pure C.P f (first ++ vs ++ cap) v)
    (hk : allIn C.N rest = true → DG C Q ops st ((k, o, { dst := o.dst, v := v, ups := [], a := 0, looks := opLooks o.op ++ gLook ops o.guard, foot := [] }) :: acc) (k + 1) rest { σ := put x.σ o.dst v, n := x.n, hs := x.hs, B := x.B, ms := x.ms }) :
    specD C Q ops st acc k o rest x := by
  intro hrun hd
  obtain ⟨dst, op, type, pos, after, guard⟩ := o
  simp only at hop hd hk; subst hop
  refine dg_cons (loc_of_goes (fun t ht => by simp [ht]) hrun (fun y hy => ?_)) (hk hin)
  have el := evl_agree (σ := x.σ) (σ' := y.σ) (l := args.toList) (fun u hu => hy.σ u (by simp [opLooks, hu]))
  have et : tget y.σ t = tget x.σ t := hy.σ t (by simp [opLooks, oLook])
  refine goes_mono (goes_call (f := f) (K := fun z => z = { σ := put y.σ dst v, n := y.n, hs := y.hs, B := y.B, ms := y.ms }) (args := first ++ vs ++ cap) (by intro c; simp) (fun bs a w hr => ?_) hd ?_) ?_
  · have e := evals_eq hr.t args.toList (by rw [el, hvs]; exact hany)
    rw [el, hvs] at e
    have e2 : args.map a.eval = (reals bs vs).toArray := by apply Array.ext'; simpa using e
    have ef := eval_ev hr.t (.tmp t) (by simp [ev, et, ht])
    simp only [ev, et, ht, real] at ef
    have hcl := hr.t.cl t
    rw [et, ht] at hcl
    have hcv := closeds_evs hr.t args.toList
    rw [el, hvs] at hcv
    simp only [closed] at hcl
    refine ⟨?_, ?_⟩
    · simp [execOp, resolve, ef, Deferred.ofValue, invoke, e2, reals_eq, List.map_append]
    · rw [closeds_append, closeds_append]; exact ⟨⟨hcl.1, hcv⟩, hcl.2⟩
  · exact .inl ⟨h.en, ecalls_pure v (closed_mono (Nat.zero_le _) _ h.cl) (fun bs w hh => h.run bs w) rfl⟩
  · rintro z rfl; exact ⟨fun _ => rfl, rfl, fun _ => rfl, rfl, rfl⟩
/-- A call that reads one block of the caller's. -/
theorem callD_read {C : Cx} {Q : Exit → X → Prop} {ops : List Oper} {st : List It} {f : FuncId} {args : List EV} {acc : List (Nat × Oper × Ef)} {k : Nat} {o : Oper} {rest : List Oper} {x : X} (i : Nat) {cs : List EV} {T : TypeId} {fr : Nat × Nat} {v : EV} (hE : Enters C.P f) (hcl : closed 0 v)
    (hg : hget x.hs i = some (.cells cs T fr)) (h : ∀ bs w, w.heap[bs i]? = some (.cells (reals bs cs).toArray T fr) → Calls C.P f (reals bs args).toArray w (Ret (real bs v) w))
    (hk : allIn C.N rest = true → DG C Q ops st ((k, o, { dst := o.dst, v := v, ups := [], a := 0, looks := opLooks o.op ++ gLook ops o.guard, foot := [i] }) :: acc) (k + 1) rest { σ := put x.σ o.dst v, n := x.n, hs := x.hs, B := x.B, ms := x.ms }) :
    callD C Q ops st f args acc k o rest x :=
  callD_pure v [i] hE hcl (fun y bs w hB hf hh => h bs w ((hh.live i _ ((hf i (by simp)).trans hg)).2)) hk
theorem callS_read {C : Cx} {Q : Exit → X → Prop} {f : FuncId} {args : List EV} {dst : Option Tmp} {st : List It} {x : X} (i : Nat) {cs : List EV} {T : TypeId} {fr : Nat × Nat} {v : EV} (hE : Enters C.P f) (hcl : closed x.n v)
    (hg : hget x.hs i = some (.cells cs T fr)) (h : ∀ bs w, w.heap[bs i]? = some (.cells (reals bs cs).toArray T fr) → Calls C.P f (reals bs args).toArray w (Ret (real bs v) w))
    (hk : Next C Q st { σ := put x.σ dst v, n := x.n, hs := x.hs, B := x.B, ms := x.ms }) : callS C Q f args dst st x :=
  callS_pure v hE hcl (fun bs w hh => h bs w ((hh.live i _ hg).2)) hk
theorem Next.mono {C : Cx} {Q Q' : Exit → X → Prop} {c : Code} {x : X} (h : Next C Q [.c c] x) (hq : ∀ e x, Q e x → Q' e x) : Next C Q' [.c c] x := by
  intro hst bs a w hr
  have := h hst bs a w hr
  simp only [contS] at this ⊢
  exact wpIn_mono this fun e a' w' ⟨x', bs', hr', h'⟩ => ⟨x', bs', hr', hq e x' h'⟩
/-- As exitS; but at the exit id P' holds. -/
def exitX (C : Cx) (Q : Exit → X → Prop) (st : List It) (P : X → Prop) (id : Nat) (P' : X → Prop) : Exit → X → Prop
  | .normal, x => P x
  | .exit i, x => bif Nat.beq i id then P' x else match unw i st with
    | some st' => Next C Q st' x
    | none => Q (.exit i) x
  | .ret, x => Q .ret x
  | _, _ => False
/-- A loop that is left at several places: what holds behind it is told once. -/
theorem loopX {C : Cx} {Q : Exit → X → Prop} {c : Code} {st st' : List It} {x : X} {S S' : Type} (id : Nat) (hu : unw id st = some st') (I : S → Prop) (Xs : S → X) (μ : S → Nat) (I' : S' → Prop) (Ys : S' → X) (s0 : S) (hI : I s0) (h0 : Sub C x (Xs s0))
    (round : ∀ s, I s → Next C (exitX C Q st (fun x' => ∃ s', I s' ∧ Sub C x' (Xs s') ∧ μ s' < μ s) id (fun x' => ∃ s', I' s' ∧ Sub C x' (Ys s'))) [.c c] (Xs s))
    (hk : ∀ s, I' s → Next C Q st' (Ys s)) : codeS C Q (.loop c) st x := by
  refine loopU I Xs μ s0 hI h0 fun s hs => (round s hs).mono ?_
  rintro e x' hx
  cases e with
  | normal => exact hx
  | exit i =>
    simp only [exitX] at hx
    simp only [exitS]
    cases hb : Nat.beq i id with
    | true =>
      have e := Nat.eq_of_beq_eq_true hb
      subst e
      rw [hb, cond_true] at hx
      obtain ⟨s', h1, h2⟩ := hx
      simp only [hu]
      exact (hk s' h1).sub h2
    | false => rw [hb, cond_false] at hx; exact hx
  | ret => exact hx
  | goto l => exact hx.elim
  | panic ch => exact hx.elim
  | outgrown => exact hx.elim
/-- A piece that is left at several places. -/
theorem condX {C : Cx} {Q : Exit → X → Prop} {st : List It} {x : X} {S : Type} (I : S → Prop) (Xs : S → X) (hk : ∀ s, I s → Next C Q st (Xs s)) (h : ∃ s, I s ∧ Sub C x (Xs s)) : Next C Q st x := by
  obtain ⟨s, h1, h2⟩ := h
  exact (hk s h1).sub h2
attribute [go_sem] exitX
end Go.Ew
/- How many bits a number has; steps in the memory that turn nothing. -/
set_option linter.unusedSimpArgs false
set_option linter.unusedVariables false
namespace Go.Ew
open Go RowKit
theorem Below.refl' (B : Nat) (w : World) : Below B w w := ⟨rfl, rfl, rfl, Nat.le_refl _, fun _ _ => rfl⟩
def blen (n : Nat) : Nat := if n = 0 then 0 else n.log2 + 1
theorem blen_le {n k : Nat} : blen n ≤ k ↔ n < 2 ^ k := by
  unfold blen
  by_cases h : n = 0
  · subst h; simp [Nat.pow_pos]
  · rw [if_neg h, ← Nat.log2_lt h]; omega
theorem lt_blen {n k : Nat} : k < blen n ↔ 2 ^ k ≤ n := by
  have := @blen_le n k; omega
theorem blen_eq {n m : Nat} (h : ∀ k, n < 2 ^ k ↔ m < 2 ^ k) : blen n = blen m := by
  have h1 := blen_le.2 ((h (blen m)).2 (blen_le.1 (Nat.le_refl _)))
  have h2 := blen_le.2 ((h (blen n)).1 (blen_le.1 (Nat.le_refl _)))
  omega
theorem blen_zero : blen 0 = 0 := rfl
theorem blen_half {n : Nat} (h : n ≠ 0) : blen n = 1 + blen (n / 2) := by
  have h1 : ∀ k, blen n ≤ k ↔ 1 + blen (n / 2) ≤ k := by
    intro k
    rw [blen_le]
    cases k with
    | zero => simp; omega
    | succ k =>
      have : 1 + blen (n / 2) ≤ k + 1 ↔ n / 2 < 2 ^ k := by rw [← blen_le]; omega
      rw [this, Nat.pow_succ, Nat.div_lt_iff_lt_mul (by omega)]
  have := (h1 (blen n)).1 (Nat.le_refl _)
  have := (h1 (1 + blen (n / 2))).2 (Nat.le_refl _)
  omega
theorem bitLenAux_eq : ∀ (f x : Nat), x < 2 ^ f → Lib.bitLenAux f x = blen x
  | 0, x, h => by
    have : x = 0 := by simpa using h
    subst this; rfl
  | f + 1, x, h => by
    rw [Lib.bitLenAux]
    by_cases e : x = 0
    · subst e; simp [blen]
    · rw [if_neg e, bitLenAux_eq f (x / 2) (by rw [Nat.div_lt_iff_lt_mul (by omega), ← Nat.pow_succ]; exact h), blen_half e]
theorem bitLen_eq {x : Nat} (h : x < 18446744073709551616) : Lib.bitLen x = blen x := bitLenAux_eq 64 x h
theorem blen_add {d r s : Nat} (hd : d ≠ 0) (hr : r < 2 ^ s) : blen (d * 2 ^ s + r) = s + blen d := by
  have h1 : ∀ k, blen (d * 2 ^ s + r) ≤ k ↔ s + blen d ≤ k := by
    intro k
    rw [blen_le]
    rcases Nat.lt_or_ge k s with h | h
    · have hlt : 2 ^ k < 2 ^ s := Nat.pow_lt_pow_right (by omega) h
      have : 1 * 2 ^ s ≤ d * 2 ^ s := Nat.mul_le_mul_right _ (by omega)
      constructor
      · intro h'; omega
      · intro h'; omega
    · obtain ⟨j, rfl⟩ : ∃ j, k = s + j := ⟨k - s, by omega⟩
      have : s + blen d ≤ s + j ↔ d < 2 ^ j := by rw [← blen_le]; omega
      rw [this, Nat.pow_add, Nat.mul_comm (2 ^ s)]
      constructor
      · intro h'
        have : d * 2 ^ s < 2 ^ j * 2 ^ s := by omega
        exact Nat.lt_of_mul_lt_mul_right this
      · intro h'
        have : (d + 1) * 2 ^ s ≤ 2 ^ j * 2 ^ s := Nat.mul_le_mul_right _ h'
        rw [Nat.add_mul] at this; omega
  have := (h1 (blen (d * 2 ^ s + r))).1 (Nat.le_refl _)
  have := (h1 (s + blen d)).2 (Nat.le_refl _)
  omega
theorem blen_256 {n : Nat} (h : n < 115792089237316195423570985008687907853269984665640564039457584007913129639936) : blen n ≤ 256 := blen_le.2 (by simpa using h)
theorem blen_64 {n : Nat} (h : n < 18446744073709551616) : blen n ≤ 64 := blen_le.2 (by simpa using h)
end Go.Ew
/- Long division: what a quotient's digit is guessed to be, and how far it is off. -/
set_option linter.unusedVariables false
namespace Go.Ew
/-- The guess by two digits is never too small. -/
theorem guess_ge {A D U v1 P al bl Q : Nat} (hA : A = U * P + al) (hal : al < P) (hD : D = v1 * P + bl) (hv : 0 < v1) (hQ : Q * D ≤ A) : Q ≤ U / v1 := by
  rw [Nat.le_div_iff_mul_le hv]
  have h1 : Q * v1 * P ≤ Q * D := by rw [hD, Nat.mul_add, Nat.mul_assoc]; omega
  have h2 : Q * v1 * P < (U + 1) * P := by rw [Nat.add_mul]; omega
  have := Nat.lt_of_mul_lt_mul_right h2
  omega
/-- The test by the third digit. -/
theorem guess_test {A D U u0 v1 v0 P al bl Q q r b : Nat} (hA : A = (U * b + u0) * P + al) (hal : al < P) (hD : D = (v1 * b + v0) * P + bl) (hr : U = q * v1 + r) (ht : r * b + u0 < q * v0) (hQ : Q * D ≤ A) : Q < q := by
  rcases Nat.lt_or_ge Q q with h | h
  · exact h
  · exfalso
    have h0 : q * D ≤ A := Nat.le_trans (Nat.mul_le_mul_right _ h) hQ
    have h1 : q * (v1 * b + v0) * P ≤ q * D := by
      have e : q * (v1 * b + v0) * P = q * ((v1 * b + v0) * P) := Nat.mul_assoc _ _ _
      rw [e, hD, Nat.mul_add q ((v1 * b + v0) * P)]; omega
    have h2 : q * (v1 * b + v0) * P < (U * b + u0 + 1) * P := by rw [Nat.add_mul _ 1]; omega
    have h3 := Nat.lt_of_mul_lt_mul_right h2
    have e1 : q * (v1 * b + v0) = q * v1 * b + q * v0 := by rw [Nat.mul_add, Nat.mul_assoc]
    have e2 : (q * v1 + r) * b = q * v1 * b + r * b := Nat.add_mul _ _ _
    rw [hr] at h3
    omega
/-- Behind the test the guess is at most one too great. -/
theorem guess_le {A D U3 V2 P bl Q q al : Nat} (hA : A = U3 * P + al) (hD : D = V2 * P + bl) (hbl : bl < P) (hqv : q * V2 ≤ U3) (hq : q ≤ V2 + 1) (hQ : A < (Q + 1) * D) : q ≤ Q + 1 := by
  rcases Nat.lt_or_ge (Q + 1) q with h | h
  · exfalso
    have h0 : (Q + 1) * D ≤ (q - 1) * D := Nat.mul_le_mul_right _ (by omega)
    have h1 : (q - 1) * D ≤ (q - 1) * ((V2 + 1) * P) := Nat.mul_le_mul_left _ (by rw [hD, Nat.add_mul]; omega)
    have h2 : (q - 1) * ((V2 + 1) * P) = (q - 1) * (V2 + 1) * P := by rw [Nat.mul_assoc]
    have h3 : (q - 1) * (V2 + 1) ≤ U3 := by
      obtain ⟨k, rfl⟩ : ∃ k, q = k + 1 := ⟨q - 1, by omega⟩
      have e : (k + 1 - 1) * (V2 + 1) = k * V2 + k := by rw [Nat.add_sub_cancel, Nat.mul_add, Nat.mul_one]
      rw [Nat.add_mul] at hqv
      omega
    have h4 : (q - 1) * (V2 + 1) * P ≤ U3 * P := Nat.mul_le_mul_right _ h3
    omega
  · exact h
/-- The greatest digit as a guess, where the first digits are alike. -/
theorem guess_top {A D v1 P bl Q b u2 : Nat} (hb : 2 ≤ b) (hA : u2 * (b * P) ≤ A) (hu : v1 ≤ u2) (hD : D = v1 * P + bl) (hbl : bl < P) (hv : b ≤ 2 * v1) (hQ : A < (Q + 1) * D) : b - 1 ≤ Q + 1 := by
  rcases Nat.lt_or_ge (Q + 1) (b - 1) with h | h
  · exfalso
    have h0 : (Q + 1) * D ≤ (b - 2) * D := Nat.mul_le_mul_right _ (by omega)
    have h1 : v1 * (b * P) ≤ u2 * (b * P) := Nat.mul_le_mul_right _ hu
    have h2 : (b - 2) * D + 2 * D = b * D := by rw [← Nat.add_mul]; congr 1; omega
    have h3 : b * D ≤ v1 * (b * P) + b * P := by
      rw [hD, Nat.mul_add, ← Nat.mul_assoc b, Nat.mul_comm b v1, Nat.mul_assoc]
      have : b * bl ≤ b * P := Nat.mul_le_mul_left _ (by omega)
      omega
    have h4 : b * P ≤ 2 * D := by
      have : b * P ≤ 2 * v1 * P := Nat.mul_le_mul_right _ hv
      rw [hD, Nat.mul_add, ← Nat.mul_assoc]; omega
    omega
  · exact h
/-- A quotient by its two bounds. -/
theorem quot_of {A D Q : Nat} (h1 : Q * D ≤ A) (h2 : A < (Q + 1) * D) : A / D = Q ∧ A % D = A - Q * D := by
  have hD : 0 < D := by
    rcases Nat.eq_zero_or_pos D with h | h
    · subst h; omega
    · exact h
  have e : A / D = Q := Nat.div_eq_of_lt_le h1 (by simpa using h2)
  refine ⟨e, ?_⟩
  have := Nat.div_add_mod A D
  rw [e, Nat.mul_comm] at this
  omega
/-! ### a quotient of three digits by two -/
structure Half (b U u0 v1 v0 q r : Nat) : Prop where
  ge : (U * b + u0) / (v1 * b + v0) ≤ q
  eq : U = q * v1 + r
theorem Half.start {b U u0 v1 v0 : Nat} (hv : 0 < v1) (hu : u0 < b) : Half b U u0 v1 v0 (U / v1) (U % v1) := by
  refine ⟨guess_ge (A := U * b + u0) (D := v1 * b + v0) (P := b) rfl hu rfl hv ?_, ?_⟩
  · rw [Nat.mul_comm]; exact Nat.mul_div_le _ _
  · have := Nat.div_add_mod U v1; rw [Nat.mul_comm] at this; exact this.symm
theorem Half.dec {b U u0 v1 v0 q r : Nat} (h : Half b U u0 v1 v0 q r) (hV : U * b + u0 < (v1 * b + v0) * b) (ht : b ≤ q ∨ b * r + u0 < q * v0) : 0 < q ∧ Half b U u0 v1 v0 (q - 1) (r + v1) := by
  have hlt : (U * b + u0) / (v1 * b + v0) < q := by
    rcases ht with ht | ht
    · exact Nat.lt_of_lt_of_le (Nat.div_lt_of_lt_mul hV) ht
    · exact guess_test (A := U * b + u0) (D := v1 * b + v0) (P := 1) (al := 0) (bl := 0) (u0 := u0) (v0 := v0) (b := b) (U := U) (v1 := v1) (by simp) (by omega) (by simp) h.eq (by rw [Nat.mul_comm r]; exact ht) (Nat.div_mul_le_self _ _)
  have hq : 0 < q := Nat.lt_of_le_of_lt (Nat.zero_le _) hlt
  refine ⟨hq, Nat.le_sub_one_of_lt hlt, ?_⟩
  obtain ⟨k, rfl⟩ : ∃ k, q = k + 1 := ⟨q - 1, (Nat.succ_pred_eq_of_pos hq).symm⟩
  rw [Nat.add_sub_cancel, h.eq, Nat.add_mul, Nat.one_mul]; omega
theorem Half.done {b U u0 v1 v0 q r : Nat} (h : Half b U u0 v1 v0 q r) (h0 : 0 < v1 * b + v0) (ht : q * v0 ≤ b * r + u0) : (U * b + u0) / (v1 * b + v0) = q := by
  apply Nat.le_antisymm h.ge
  rw [Nat.le_div_iff_mul_le h0]
  have e1 : q * (v1 * b + v0) = q * v1 * b + q * v0 := by rw [Nat.mul_add, Nat.mul_assoc]
  have e2 : (q * v1 + r) * b = q * v1 * b + b * r := by rw [Nat.add_mul, Nat.mul_comm r]
  rw [h.eq, e1, e2]; omega
theorem Half.over {b U u0 v1 v0 q r : Nat} (h : Half b U u0 v1 v0 q r) (hV : U * b + u0 < (v1 * b + v0) * b) (hv0 : v0 < b) (hv : 0 < v1) (hr : b ≤ r) : (U * b + u0) / (v1 * b + v0) = q := by
  have hUV : U < v1 * b + v0 := by
    have : U * b < (v1 * b + v0) * b := by omega
    exact Nat.lt_of_mul_lt_mul_right this
  have hq : q < b := by
    rcases Nat.lt_or_ge q b with h' | h'
    · exact h'
    · exfalso
      have h1 : b * v1 ≤ q * v1 := Nat.mul_le_mul_right _ h'
      have := h.eq
      rw [Nat.mul_comm b] at h1
      omega
  refine h.done (Nat.pos_of_ne_zero (fun h => by rw [h] at hV; omega)) ?_
  have h1 : q * v0 ≤ b * b := Nat.mul_le_mul (by omega) (by omega)
  have h2 : b * b ≤ b * r := Nat.mul_le_mul_left _ hr
  omega
end Go.Ew
/- A slice turned into an array's pointer, in a region that draws its order. -/
set_option linter.unusedSimpArgs false
set_option linter.unusedVariables false
namespace Go.Ew
open Go RowKit
theorem arrayOfD {C : Cx} {Q : Exit → X → Prop} {ops : List Oper} {st : List It} {acc : List (Nat × Oper × Ef)} {k : Nat} {o : Oper} {rest : List Oper} {x : X} {arr : TypeId} {t i off len cap n : Nat} {T : TypeId}
    (hop : o.op = .sliceToArrayPointer arr (.tmp t)) (hu : C.P.underlying arr = some (.array n T)) (ha : tget x.σ t = .sl i off len cap) (hn : n ≤ len) (hin : allIn C.N rest = true)
    (hk : allIn C.N rest = true → DG C Q ops st ((k, o, { dst := o.dst, v := .ptr i off, ups := [], a := 0, looks := [t] ++ gLook ops o.guard, foot := [] }) :: acc) (k + 1) rest { σ := put x.σ o.dst (.ptr i off), n := x.n, hs := x.hs, B := x.B, ms := x.ms }) :
    specD C Q ops st acc k o rest x := by
  intro hrun hd
  obtain ⟨dst, op, type, pos, after, guard⟩ := o
  simp only at hop hd hk; subst hop
  refine dg_cons (loc_of_goes (fun t ht => by simp [ht]) hrun (fun y hy => ?_)) (hk hin)
  have et : tget y.σ t = tget x.σ t := hy.σ t (by simp)
  intro bs ac w hr Q'
  refine ⟨fun _ _ => trivial, ?_⟩
  have ea := eval_ev hr.t (.tmp t) (by simp [ev, et, ha])
  simp only [ev, et, ha, real] at ea
  have hcl := hr.t.cl t
  rw [et, ha] at hcl
  have hlt : ¬ len < n := by omega
  have e : (execOp ac.eval { dst := dst, op := .sliceToArrayPointer arr (.tmp t), type := type, pos := pos, after := after, guard := guard }).run C.P w = .ok (.value (real bs (.ptr i off))) w := by
    simp [execOp, ea, real, Instr.arrayAt, run_underlying _ _ _ _ hu, hlt]
  rw [Oper.semAt_eq _ _ _ (by simp), e]
  exact ⟨{ σ := put y.σ dst (.ptr i off), n := y.n, hs := y.hs, B := y.B, ms := y.ms }, bs, ⟨hr.t.next (v := .ptr i off) (Nat.le_refl _) (fun _ _ => rfl) hd (.inr rfl) (by simpa [closed] using hcl), hr.h⟩, ⟨fun _ => rfl, rfl, fun _ => rfl, rfl, rfl⟩⟩
/-- Entry by entry, under new names. -/
def wσR (ρ : Nat → Nat) (n : Nat) (σ : List (Nat × EV)) : List (Nat × EV) → Prop
  | [] => True
  | (t, v) :: r => (tget σ t = ren ρ v ∧ closed n v) ∧ wσR ρ n σ r
def whsR (ρ : Nat → Nat) (n : Nat) (hs : List (Nat × Option EObj)) : List (Nat × Option EObj) → Prop
  | [] => True
  | (i, o) :: r => (match o with
    | some o => hget hs (ρ i) = some (o.ren ρ) ∧ i < n ∧ o.closed n
    | none => False) ∧ whsR ρ n hs r
theorem wσR_spec {ρ : Nat → Nat} {n : Nat} {σ : List (Nat × EV)} : ∀ {l : List (Nat × EV)}, wσR ρ n σ l → ∀ t, (tget l t = .any ∨ ren ρ (tget l t) = tget σ t) ∧ closed n (tget l t)
  | [], _, t => by simp [tget, closed]
  | (t', v) :: r, h, t => by
    rw [tget_cons]
    by_cases e : t' = t
    · rw [if_pos e]; subst e; exact ⟨.inr h.1.1.symm, h.1.2⟩
    · rw [if_neg e]; exact wσR_spec h.2 t
theorem whsR_spec {ρ : Nat → Nat} {n : Nat} {hs : List (Nat × Option EObj)} : ∀ {l : List (Nat × Option EObj)}, whsR ρ n hs l → ∀ i o, hget l i = some o → hget hs (ρ i) = some (o.ren ρ) ∧ i < n ∧ o.closed n ∧ i ∈ l.map (·.1)
  | [], _, i, o, hi => by simp [hget] at hi
  | (i', o') :: r, h, i, o, hi => by
    rw [hget_cons] at hi
    by_cases e : i' = i
    · rw [if_pos e] at hi; subst e; subst hi
      exact ⟨h.1.1, h.1.2.1, h.1.2.2, by simp⟩
    · rw [if_neg e] at hi
      obtain ⟨a, b, c, d⟩ := whsR_spec h.2 i o hi
      exact ⟨a, b, c, by simp only [List.map_cons, List.mem_cons]; exact .inr d⟩
/-- Names changed: what an earlier region reserved gets small names again. -/
theorem reName {C : Cx} {Q : Exit → X → Prop} {st : List It} {x : X} (ρ : Nat → Nat) (y : X) (h1 : wσR ρ y.n x.σ y.σ) (h2 : whsR ρ y.n x.hs y.hs) (h3 : ∀ i ∈ y.hs.map (·.1), ∀ j ∈ y.hs.map (·.1), ρ i = ρ j → i = j)
    (h4 : C.olds = []) (h5 : y.B = x.B) (h6 : x.ms = []) (h7 : y.ms = []) (hk : Next C Q st y) : Next C Q st x := by
  have hw : WeakR C ρ x y := ⟨fun t => (wσR_spec h1 t).1, fun i o hi => (whsR_spec h2 i o hi).1, fun t => (wσR_spec h1 t).2, fun i o hi => ⟨(whsR_spec h2 i o hi).2.1, (whsR_spec h2 i o hi).2.2.1⟩,
    fun i j oi oj hi hj => h3 i (whsR_spec h2 i oi hi).2.2.2 j (whsR_spec h2 j oj hj).2.2.2, by rw [h4]; exact Nat.zero_le _, fun i hi => by rw [h4] at hi; exact absurd hi (Nat.not_lt_zero i), h5, by rw [h6, h7]; rfl, fun i hi => by rw [h7] at hi; cases hi⟩
  exact condX (fun _ : Unit => True) (fun _ => y) (fun _ _ => hk) ⟨(), trivial, hw.sub⟩
theorem rens_wC (ρ : Nat → Nat) (n : Nat) : rens ρ (wC n) = wC n := by simp [wC, rens, ren]
end Go.Ew
namespace Go.Ew
open Go
set_option linter.unusedSimpArgs false
set_option linter.unusedVariables false
/-- What a digit is worth, 16 where it is none. -/
def valD (c : Nat) : Nat := if 48 ≤ c ∧ c ≤ 57 then c - 48 else if 97 ≤ c ∧ c ≤ 102 then c - 87 else if 65 ≤ c ∧ c ≤ 70 then c - 55 else 16
/-- Reading digits to a base behind a number. -/
def runD (b : Nat) : List Nat → Nat → Option Nat
  | [], x => some x
  | v :: vs, x => if v < b ∧ x * b + v < 115792089237316195423570985008687907853269984665640564039457584007913129639936 then runD b vs (x * b + v) else none
/-- A text of at most so many digits as a number. -/
def readD (b most : Nat) (s : List Nat) : Option Nat := if s.length = 0 ∨ most < s.length then none else runD b s 0
def dcN (n : Nat) : Nat := if n < 10 then 48 + n else 87 + n
def dcC (n : Nat) : UInt8 := UInt8.ofNat (dcN n)
/-- The lowest k digits of x, the highest first. -/
def digL (b x : Nat) : Nat → List UInt8
  | 0 => []
  | k + 1 => dcC (x / b ^ k % b) :: digL b x k
theorem digL_len (b x : Nat) : ∀ k, (digL b x k).length = k
  | 0 => rfl
  | k + 1 => by simp [digL, digL_len b x k]
def nd (b x : Nat) : Nat := if h : 2 ≤ b ∧ b ≤ x then nd b (x / b) + 1 else 1
termination_by x
decreasing_by exact Nat.div_lt_self (by omega) (by omega)
theorem nd_pos (b x : Nat) : 1 ≤ nd b x := by
  rw [nd]; split <;> omega
theorem nd_lt {b : Nat} (hb : 2 ≤ b) (x : Nat) : x < b ^ nd b x := by
  induction x using Nat.strongRecOn with
  | ind x ih =>
    rw [nd]; split
    · rename_i h
      have := ih (x / b) (Nat.div_lt_self (by omega) (by omega))
      rw [Nat.pow_succ]
      exact (Nat.div_lt_iff_lt_mul (by omega)).1 this
    · rename_i h; rw [Nat.pow_one]; omega
theorem nd_min {b : Nat} (hb : 2 ≤ b) (x : Nat) : nd b x = 1 ∨ b ^ (nd b x - 1) ≤ x := by
  induction x using Nat.strongRecOn with
  | ind x ih =>
    rw [nd]; split
    · rename_i h
      right
      rcases ih (x / b) (Nat.div_lt_self (by omega) (by omega)) with h1 | h1
      · rw [h1]; simp; omega
      · have e : nd b (x / b) + 1 - 1 = (nd b (x / b) - 1) + 1 := by have := nd_pos b (x / b); omega
        rw [e, Nat.pow_succ]
        exact (Nat.le_div_iff_mul_le (by omega)).1 h1
    · left; rfl
theorem nd_eq {b : Nat} (hb : 2 ≤ b) {x k : Nat} (h1 : 1 ≤ k) (h2 : x < b ^ k) (h3 : k = 1 ∨ b ^ (k - 1) ≤ x) : nd b x = k := by
  have a1 := nd_pos b x
  have a2 := nd_lt hb x
  have a3 := nd_min hb x
  rcases Nat.lt_trichotomy (nd b x) k with h | h | h
  · rcases h3 with h3 | h3
    · omega
    · have : b ^ nd b x ≤ b ^ (k - 1) := Nat.pow_le_pow_right (by omega) (by omega)
      omega
  · exact h
  · rcases a3 with a3 | a3
    · omega
    · have : b ^ k ≤ b ^ (nd b x - 1) := Nat.pow_le_pow_right (by omega) (by omega)
      omega
/-- A number's text to a base. -/
def txtL (b x : Nat) : List UInt8 := digL b x (nd b x)
theorem dcC_nat {n : Nat} (h : n < 16) : (dcC n).toNat = dcN n := by
  have : ∀ n, n < 16 → (dcC n).toNat = dcN n := by decide
  exact this n h
theorem val_dc {n : Nat} (h : n < 16) : valD (dcN n) = n := by
  have : ∀ n, n < 16 → valD (dcN n) = n := by decide
  exact this n h
theorem run_digL {b : Nat} (hb : 2 ≤ b) (hb' : b ≤ 16) (x : Nat) : ∀ (k acc : Nat), acc * b ^ k + x % b ^ k < 115792089237316195423570985008687907853269984665640564039457584007913129639936 → runD b ((digL b x k).map fun c => valD c.toNat) acc = some (acc * b ^ k + x % b ^ k)
  | 0, acc, _ => by simp [digL, runD, Nat.mod_one]
  | k + 1, acc, h => by
    have hd : x / b ^ k % b < b := Nat.mod_lt _ (by omega)
    have hP : 0 < b ^ k := Nat.pow_pos (by omega)
    have e : x % b ^ (k + 1) = x % b ^ k + b ^ k * (x / b ^ k % b) := by rw [Nat.pow_succ, Nat.mod_mul]
    have e2 : acc * b ^ (k + 1) + x % b ^ (k + 1) = (acc * b + x / b ^ k % b) * b ^ k + x % b ^ k := by rw [e, Nat.pow_succ]; grind
    rw [e2] at h ⊢
    have h3 : acc * b + x / b ^ k % b ≤ (acc * b + x / b ^ k % b) * b ^ k := Nat.le_mul_of_pos_right _ hP
    rw [digL, List.map_cons, dcC_nat (by omega), val_dc (by omega), runD, if_pos ⟨hd, Nat.lt_of_le_of_lt (Nat.le_trans h3 (Nat.le_add_right _ _)) h⟩]
    exact run_digL hb hb' x k _ h
theorem read_txt {b : Nat} (hb : 2 ≤ b) (hb' : b ≤ 16) {x : Nat} (hx : x < 115792089237316195423570985008687907853269984665640564039457584007913129639936) : runD b ((txtL b x).map fun c => valD c.toNat) 0 = some x := by
  have h := nd_lt hb x
  rw [txtL, run_digL hb hb' x _ 0 (by rw [Nat.mod_eq_of_lt h]; omega), Nat.mod_eq_of_lt h, Nat.zero_mul, Nat.zero_add]
theorem nd_le {b : Nat} (hb : 2 ≤ b) {x k : Nat} (hk : 1 ≤ k) (h : x < b ^ k) : nd b x ≤ k := by
  rcases nd_min hb x with h1 | h1
  · omega
  · have := (Nat.pow_lt_pow_iff_right (by omega : 1 < b)).1 (Nat.lt_of_le_of_lt h1 h)
    omega
theorem txt_len (b x : Nat) : (txtL b x).length = nd b x := digL_len b x _
/-- Digits as a string. -/
def strL (l : List UInt8) : ByteArray := ⟨l.toArray⟩
theorem strL_app (a b : List UInt8) : strL a ++ strL b = strL (a ++ b) := by
  apply ByteArray.ext
  simp [strL, ByteArray.data_append]
theorem strL_size (a : List UInt8) : (strL a).size = a.length := by simp [strL, ByteArray.size]
end Go.Ew
