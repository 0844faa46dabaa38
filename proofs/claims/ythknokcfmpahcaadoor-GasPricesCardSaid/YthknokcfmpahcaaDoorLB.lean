/- Part of a proof over the seat YthknokcfmpahcaaDoor. -/
import Derived.Test.YthknokcfmpahcaaDoorLA
set_option linter.unusedSimpArgs false
set_option linter.unusedVariables false
namespace Go.Ew
open Go RowKit
/-! ### the base goes on: what was made and is turned no more -/
/-- B' goes on from B. -/
structure BExt (B B' : Base) : Prop where
  D : ∀ b, B.D b → B'.D b
  same : ∀ b, B.D b → B'.w.heap[b]? = B.w.heap[b]?
  size : B.w.heap.size ≤ B'.w.heap.size
  os : B'.w.os = B.w.os
  tape : B'.w.tape = B.w.tape
  output : B'.w.output = B.w.output
theorem BExt.refl (B : Base) : BExt B B := ⟨fun _ h => h, fun _ _ => rfl, Nat.le_refl _, rfl, rfl, rfl⟩
theorem BExt.trans {A B C : Base} (h : BExt A B) (k : BExt B C) : BExt A C :=
  ⟨fun b hb => k.D b (h.D b hb), fun b hb => (k.same b (h.D b hb)).trans (h.same b hb), Nat.le_trans h.size k.size, k.os.trans h.os, k.tape.trans h.tape, k.output.trans h.output⟩
theorem HRel.ext {C : Cx} {B : Base} {n : Nat} {hs : List (Nat × Option EObj)} {bs : Nat → Nat} {w : World} (h : HRel C B n hs bs w) : BExt B ⟨w, B.D⟩ :=
  ⟨fun _ h => h, fun b hb => (h.frame b hb).2, h.hsize, h.os, h.tape, h.output⟩
theorem BExt.cell {B B' : Base} (h : BExt B B') {a : Addr} (ha : B.D a.block) : B'.w.cell? a = B.w.cell? a := World.cell?_of_block (h.same _ ha)
theorem addr_add_block (a : Addr) (j : Nat) : (a.add j).block = a.block := by unfold Addr.add; split <;> rfl
/-- The base behind a call: what stayed, and what bears no name. -/
def after (D : Nat → Prop) (olds : List Nat) (w w' : World) (nm : Nat → Prop) : Base := ⟨w', fun b => D b ∨ ((w.heap.size ≤ b ∨ b ∈ olds) ∧ b < w'.heap.size ∧ ¬ nm b)⟩
def named (bs : Nat → Nat) (os : List (Option EObj)) : Nat → Prop := fun b => ∃ i o, os[i]? = some (some o) ∧ bs i = b
/-- It returns v; the blocks olds hold what os says, or nothing that counts; R holds of the base behind. -/
def RetG (D : Nat → Prop) (olds : List Nat) (v : EV) (n : Nat) (os : List (Option EObj)) (R : Base → Prop) (w : World) (e : Ending) (w' : World) : Prop :=
  ∃ bs : Nat → Nat, e = .returned (real bs v) ∧ closed n v ∧ Stay (fun b => b < w.heap.size ∧ b ∉ olds) w w' ∧ (∀ i b, olds[i]? = some b → bs i = b) ∧
    (∀ i o, os[i]? = some (some o) → o.closed n ∧ w'.heap[bs i]? = some (o.real bs) ∧ (w.heap.size ≤ bs i ∨ bs i ∈ olds)) ∧
    (∀ i j oi oj, os[i]? = some (some oi) → os[j]? = some (some oj) → bs i = bs j → i = j) ∧ R (after D olds w w' (named bs os))
abbrev cxG (P : Program) (N : Nat) (w : World) (D : Nat → Prop) (olds : List Nat) : Cx := ⟨P, N, none, olds, w, fun b => b < w.heap.size ∧ ¬ D b ∧ b ∉ olds⟩
theorem HRel.startG {P : Program} {N : Nat} {w : World} {D : Nat → Prop} {olds : List Nat} {objs : List EObj} (hD : ∀ b, D b → b < w.heap.size ∧ b ∉ olds) (hl : objs.length = olds.length) (hnd : olds.Nodup)
    (h : ∀ (i b : Nat) (o : EObj), olds[i]? = some b → objs[i]? = some o → w.heap[b]? = some (o.real (bsOf olds)) ∧ o.closed olds.length) : HRel (cxG P N w D olds) ⟨w, D⟩ olds.length (oldH 0 objs) (bsOf olds) w := by
  have h0 := HRel.startW (P := P) (N := N) hl hnd h
  refine ⟨h0.live, h0.cl, h0.inj, h0.old, fun i o hi hd => ?_, fun k hk => ⟨(hD k hk).1, rfl⟩, rfl, rfl, rfl, Nat.le_refl _, fun i o hi he => ?_, fun k hk => ⟨hk.1, rfl⟩, fun k hk => hk.2.1, Nat.le_refl _, rfl, rfl, rfl⟩
  all_goals
    have hm : bsOf olds i ∈ olds := by
      have hb := hget_oldH objs 0 i
      rw [hi] at hb
      simp only [Nat.zero_le, if_true, Nat.sub_zero] at hb
      have hlt : i < objs.length := by
        rcases Nat.lt_or_ge i objs.length with h | h
        · exact h
        · rw [List.getElem?_eq_none h] at hb; cases hb
      rw [bsOf_get (List.getElem?_eq_getElem (show i < olds.length by omega))]
      exact List.getElem_mem _
  · exact (hD _ hd).2 hm
  · exact he.2.2 hm
theorem g_calls {P : Program} {f : FuncId} {fn : Func} {c : Code} {w : World} {D : Nat → Prop} {S : Type} (vf : S → EV) (nf : S → Nat) (osf : S → List (Option EObj)) (R : S → Base → Prop) (olds : List Nat) (objs : List EObj) (args : List EV)
    (hRm : ∀ s B B', BExt B B' → R s B → R s B')
    (hf : P.funcs[f]? = some fn) (hb : fn.body = some c) (hin : codeIn fn.ntmps c = true) (hl : args.length ≤ fn.ntmps) (hcl : closeds olds.length args) (hD : ∀ b, D b → b < w.heap.size ∧ b ∉ olds)
    (hlen : objs.length = olds.length) (hnd : olds.Nodup) (hh : ∀ (i b : Nat) (o : EObj), olds[i]? = some b → objs[i]? = some o → w.heap[b]? = some (o.real (bsOf olds)) ∧ o.closed olds.length)
    (h : Next (cxG P fn.ntmps w D olds) (retE (cxG P fn.ntmps w D olds) fn.results.toList (fun v x => BExt ⟨w, D⟩ x.B ∧ ∃ s, v = vf s ∧ x.n ≤ nf s ∧ (∀ i o, (osf s)[i]? = some (some o) → hget x.hs i = some o) ∧ R s x.B)) [.c c] ⟨argσ 0 args, olds.length, oldH 0 objs, ⟨w, D⟩, []⟩) :
    Calls P f (reals (bsOf olds) args).toArray w (fun e w' => ∃ s, RetG D olds (vf s) (nf s) (osf s) (R s) w e w') := by
  have := calls_of (C := cxG P fn.ntmps w D olds) (K := fun v x => BExt ⟨w, D⟩ x.B ∧ ∃ s, v = vf s ∧ x.n ≤ nf s ∧ (∀ i o, (osf s)[i]? = some (some o) → hget x.hs i = some o) ∧ R s x.B) rfl hf hb rfl hin hl (HRel.startG hD hlen hnd hh) hcl h
  refine this.mono ?_
  rintro e w' ⟨v, x', bs', rfl, hcv, hr, hE, s, rfl, hn, hk, hR⟩
  have hlow : ∀ k, k < w.heap.size → (¬ D k ∧ k ∉ olds) ∨ D k ∨ k ∈ olds := fun k _ => by
    by_cases h1 : D k
    · exact .inr (.inl h1)
    · by_cases h2 : k ∈ olds
      · exact .inr (.inr h2)
      · exact .inl ⟨h1, h2⟩
  refine ⟨s, bs', rfl, closed_mono hn _ hcv, ⟨hr.eo.1, fun k hk => ?_, hr.eo.2.1, hr.eo.2.2.1, hr.eo.2.2.2⟩, fun i b hi => (hr.old i b hi).1, fun i o hi => ?_, fun i j oi oj hi hj hbb => hr.inj i j oi oj (hk i oi hi) (hk j oj hj) hbb, ?_⟩
  · rcases hlow k hk.1 with h | h | h
    · exact (hr.frameE k ⟨hk.1, h⟩).2
    · exact ((hr.frame k (hE.D k h)).2).trans (hE.same k h)
    · exact absurd h hk.2
  · refine ⟨EObj.closed_mono hn _ (hr.cl i o (hk i o hi)), (hr.live i o (hk i o hi)).2, ?_⟩
    rcases Nat.lt_or_ge (bs' i) w.heap.size with hlt | hge'
    · rcases hlow _ hlt with h | h | h
      · exact absurd ⟨hlt, h⟩ (hr.newE i o (hk i o hi))
      · exact absurd (hE.D _ h) (hr.new i o (hk i o hi))
      · exact .inr h
    · exact .inl hge'
  · refine hRm s x'.B _ ⟨fun b hb => ?_, fun b hb => (hr.frame b hb).2, hr.hsize, hr.os, hr.tape, hr.output⟩ hR
    have hbw := (hr.frame b hb).1
    have hnn : ¬ named bs' (osf s) b := by rintro ⟨i, o, hi, rfl⟩; exact hr.new i o (hk i o hi) hb
    rcases Nat.lt_or_ge b w.heap.size with hlt | hge
    · rcases hlow _ hlt with h | h | h
      · exact absurd hb (hr.apart b ⟨hlt, h⟩)
      · exact .inl h
      · exact .inr ⟨.inr h, hbw, hnn⟩
    · exact .inr ⟨.inl hge, hbw, hnn⟩
theorem callB_g {C : Cx} {K : X → Prop} {f : FuncId} {args : List EV} {dst : Option Tmp} {x : X} {S : Type} (vf : S → EV) (nf : S → Nat) (osf : S → List (Option EObj)) (R : S → Base → Prop) (m : List Nat) (hE : Enters C.P f)
    (hlive : ∀ i ∈ m, (hget x.hs i).isSome = true) (hnd : m.Nodup) (hos : ∀ s, (m.length ≤ (osf s).length ∧ (osf s).length ≤ nf s))
    (h : ∀ bs w, HRel C x.B x.n x.hs bs w → Calls C.P f (reals bs args).toArray w (fun e w' => ∃ s, RetG x.B.D (m.map bs) (vf s) (nf s) (osf s) (R s) w e w'))
    (hk : ∀ s B', BExt x.B B' → R s B' → K { σ := put x.σ dst (ren (rho m x.n) (vf s)), n := x.n + (nf s - m.length), hs := addW (rho m x.n) 0 (osf s) x.hs, B := B', ms := x.ms }) : CallB C f args dst x K := by
  refine ⟨hE, ?_⟩
  intro bs w hh _
  refine (h bs w hh).mono ?_
  rintro e w' ⟨s, bs', rfl, hcv, hstay, hold, hnew, hinj, hR⟩
  obtain ⟨hos1, hos2⟩ := hos s
  obtain ⟨bs2, hbs2⟩ : ∃ bs2 : Nat → Nat, bs2 = fun i => if i < x.n then bs i else bs' (m.length + (i - x.n)) := ⟨_, rfl⟩
  have hlv : ∀ i, i ∈ m → ∃ o, hget x.hs i = some o := fun i hi => Option.isSome_iff_exists.1 (hlive i hi)
  have hml : ∀ i, i ∈ m → i < x.n := fun i hi => by obtain ⟨o, ho⟩ := hlv i hi; exact (hh.live i o ho).1
  have hlow : ∀ i, i < x.n → bs2 i = bs i := fun i hi => by rw [hbs2]; simp [hi]
  have hρ : (fun i => bs2 (rho m x.n i)) = bs' := by
    funext i
    rcases Nat.lt_or_ge i m.length with h | h
    · rw [rho_lt h, hlow _ (hml _ (List.getElem_mem h))]
      exact (hold i (bs m[i]) (by simp [h])).symm
    · rw [rho_ge h, hbs2]
      simp only [show ¬ x.n + (i - m.length) < x.n by omega, if_false]
      congr 1; omega
  have hρb : ∀ i, bs2 (rho m x.n i) = bs' i := fun i => congrFun hρ i
  have hρn : ∀ i, i < nf s → rho m x.n i < x.n + (nf s - m.length) := by
    intro i hi
    rcases Nat.lt_or_ge i m.length with h | h
    · rw [rho_lt h]; have := hml _ (List.getElem_mem h); omega
    · rw [rho_ge h]; omega
  have hent := addW_ent (ρ := rho m x.n) (osf s) 0 x.hs
  simp only [Nat.zero_add] at hent
  have holen : ∀ i o, (osf s)[i]? = some (some o) → i < (osf s).length := by
    intro i o hi
    rcases Nat.lt_or_ge i (osf s).length with h | h
    · exact h
    · rw [List.getElem?_eq_none h] at hi; simp at hi
  have hnm : ∀ t, (∀ i, i < (osf s).length → rho m x.n i ≠ t) → t ∉ m := by
    intro t ht hm
    obtain ⟨i, hi, rfl⟩ := List.mem_iff_getElem.1 hm
    exact ht i (by omega) (rho_lt hi)
  have hapart : ∀ t o, hget x.hs t = some o → t ∉ m → bs t ∉ m.map bs := by
    intro t o ht hm hmem
    obtain ⟨u, hu, hub⟩ := List.mem_map.1 hmem
    obtain ⟨ou, hou⟩ := hlv u hu
    exact hm (hh.inj u t ou o hou ht hub ▸ hu)
  have hDapart : ∀ k, k ∈ m.map bs → ¬ x.B.D k := by
    rintro k hk hD
    obtain ⟨u, hu, rfl⟩ := List.mem_map.1 hk
    obtain ⟨ou, hou⟩ := hlv u hu
    exact hh.new u ou hou hD
  have hEapart : ∀ k, k ∈ m.map bs → ¬ C.E k := by
    rintro k hk hD
    obtain ⟨u, hu, rfl⟩ := List.mem_map.1 hk
    obtain ⟨ou, hou⟩ := hlv u hu
    exact hh.newE u ou hou hD
  have hB' : BExt x.B (after x.B.D (m.map bs) w w' (named bs' (osf s))) :=
    ⟨fun b hb => .inl hb, fun b hb => (hstay.same b ⟨(hh.frame b hb).1, fun hm => hDapart b hm hb⟩).trans (hh.frame b hb).2, Nat.le_trans hh.hsize hstay.size, hstay.os.trans hh.os, hstay.tape.trans hh.tape, hstay.output.trans hh.output⟩
  refine ⟨ren (rho m x.n) (vf s), x.n + (nf s - m.length), addW (rho m x.n) 0 (osf s) x.hs, after x.B.D (m.map bs) w w' (named bs' (osf s)), bs2, by rw [real_ren, hρ], hlow, by omega, closed_ren hρn _ hcv, ?_, hk s _ hB' hR⟩
  -- the other names' blocks are those that they were
  have hoth : ∀ t o, hget x.hs t = some o → (∀ i, i < (osf s).length → rho m x.n i ≠ t) → bs2 t = bs t ∧ bs t < w.heap.size ∧ bs t ∉ m.map bs := fun t o h1 h2 =>
    ⟨hlow t (hh.live t o h1).1, heap_lt (hh.live t o h1).2, hapart t o h1 (hnm t h2)⟩
  have hcross : ∀ i o' t o, (osf s)[i]? = some (some o') → hget x.hs t = some o → (∀ i, i < (osf s).length → rho m x.n i ≠ t) → bs2 (rho m x.n i) ≠ bs2 t := by
    intro i o' t o h1 k1 k2 hb
    obtain ⟨q1, q2, q3⟩ := hoth t o k1 k2
    rw [hρb, q1] at hb
    rcases (hnew i o' h1).2.2 with h | h
    · omega
    · rw [hb] at h; exact q3 h
  refine ⟨?_, ?_, ?_, ?_, ?_, ?_, rfl, rfl, rfl, Nat.le_refl _, ?_, ?_, ?_, Nat.le_trans hh.eo.1 hstay.size, hstay.os.trans hh.eo.2.1, hstay.tape.trans hh.eo.2.2.1, hstay.output.trans hh.eo.2.2.2⟩
  · intro t o ht
    rcases hent t o ht with ⟨i, o', h1, rfl, rfl⟩ | ⟨h1, h2⟩
    · have hi := holen i o' h1
      refine ⟨hρn i (by omega), ?_⟩
      rw [hρb, EObj.real_ren, hρ]
      exact (hnew i o' h1).2.1
    · obtain ⟨l1, l2⟩ := hh.live t o h1
      refine ⟨by omega, ?_⟩
      rw [hlow t l1, EObj.real_congr hlow o (hh.cl t o h1), hstay.same _ ⟨heap_lt l2, hapart t o h1 (hnm t h2)⟩]
      exact l2
  · intro t o ht
    rcases hent t o ht with ⟨i, o', h1, rfl, rfl⟩ | ⟨h1, h2⟩
    · exact EObj.closed_ren hρn o' (hnew i o' h1).1
    · exact EObj.closed_mono (by omega) o (hh.cl t o h1)
  · intro t u ot ou ht hu hb
    rcases hent t ot ht with ⟨i, o', h1, rfl, rfl⟩ | ⟨h1, h2⟩ <;> rcases hent u ou hu with ⟨j, o'', k1, rfl, rfl⟩ | ⟨k1, k2⟩
    · rw [hρb, hρb] at hb
      rw [hinj i j o' o'' h1 k1 hb]
    · exact absurd hb (hcross i o' u ou h1 k1 k2)
    · exact absurd hb.symm (hcross j o'' t ot k1 h1 h2)
    · rw [hlow t (hh.live t ot h1).1, hlow u (hh.live u ou k1).1] at hb
      exact hh.inj t u ot ou h1 k1 hb
  · intro i b hi
    obtain ⟨h1, h2⟩ := hh.old i b hi
    exact ⟨by rw [hlow i h2]; exact h1, by omega⟩
  · intro t o ht hD
    rcases hent t o ht with ⟨i, o', h1, rfl, rfl⟩ | ⟨h1, h2⟩
    · rw [hρb] at hD
      rcases hD with hD | ⟨_, _, hD⟩
      · rcases (hnew i o' h1).2.2 with h | h
        · have := (hh.frame _ hD).1; omega
        · exact hDapart _ h hD
      · exact hD ⟨i, o', h1, rfl⟩
    · obtain ⟨q1, q2, q3⟩ := hoth t o h1 h2
      rw [q1] at hD
      rcases hD with hD | ⟨hD | hD, _, _⟩
      · exact hh.new t o h1 hD
      · omega
      · exact q3 hD
  · rintro k (hk | ⟨_, hk, _⟩)
    · exact ⟨Nat.lt_of_lt_of_le (hh.frame k hk).1 hstay.size, rfl⟩
    · exact ⟨hk, rfl⟩
  · intro t o ht hD
    rcases hent t o ht with ⟨i, o', h1, rfl, rfl⟩ | ⟨h1, h2⟩
    · rw [hρb] at hD
      rcases (hnew i o' h1).2.2 with h | h
      · have := (hh.frameE _ hD).1; omega
      · exact hEapart _ h hD
    · rw [hlow t (hh.live t o h1).1] at hD
      exact hh.newE t o h1 hD
  · intro k hk
    obtain ⟨f1, f2⟩ := hh.frameE k hk
    exact ⟨Nat.lt_of_lt_of_le f1 hstay.size, by rw [hstay.same k ⟨f1, fun hm => hEapart k hm hk⟩]; exact f2⟩
  · rintro k hk (hD | ⟨hD | hD, _, _⟩)
    · exact hh.apart k hk hD
    · have := (hh.frameE k hk).1; omega
    · exact hEapart k hD hk
theorem callS_g {C : Cx} {Q : Exit → X → Prop} {f : FuncId} {args : List EV} {dst : Option Tmp} {st : List It} {x : X} {S : Type} (vf : S → EV) (nf : S → Nat) (osf : S → List (Option EObj)) (R : S → Base → Prop) (m : List Nat) (hE : Enters C.P f)
    (hlive : ∀ i ∈ m, (hget x.hs i).isSome = true) (hnd : m.Nodup) (hos : ∀ s, (m.length ≤ (osf s).length ∧ (osf s).length ≤ nf s))
    (h : ∀ bs w, HRel C x.B x.n x.hs bs w → Calls C.P f (reals bs args).toArray w (fun e w' => ∃ s, RetG x.B.D (m.map bs) (vf s) (nf s) (osf s) (R s) w e w'))
    (hk : ∀ s B', BExt x.B B' → R s B' → Next C Q st { σ := put x.σ dst (ren (rho m x.n) (vf s)), n := x.n + (nf s - m.length), hs := addW (rho m x.n) 0 (osf s) x.hs, B := B', ms := x.ms }) : callS C Q f args dst st x :=
  fun _ => .inr (callB_g vf nf osf R m hE hlive hnd hos h hk)
/-! ### functions over data -/
/-- Called at a base that goes on from B, function f hands some vf s back, of which R tells; what was there is as it was. -/
structure Does {S : Type} (P : Program) (f : FuncId) (args : List EV) (B : Base) (vf : S → EV) (R : S → Base → Prop) : Prop where
  en : Enters P f
  cl : closeds 0 args
  run : ∀ B', BExt B B' → (∀ b, B'.D b → b < B'.w.heap.size) → Calls P f (reals (fun _ => 0) args).toArray B'.w (fun e w' => ∃ s, RetG B'.D [] (vf s) 0 [] (R s) B'.w e w')
theorem reals_closed0 (bs bs' : Nat → Nat) {l : List EV} (h : closeds 0 l) : reals bs l = reals bs' l := reals_congr (n := 0) (fun i hi => absurd hi (Nat.not_lt_zero i)) l h
theorem real_closed0 (bs bs' : Nat → Nat) {v : EV} (h : closed 0 v) : real bs v = real bs' v := real_congr (n := 0) (fun i hi => absurd hi (Nat.not_lt_zero i)) v h
theorem ren_rho_nil {n : Nat} {v : EV} (h : closed 0 v) : ren (rho [] n) v = v := ren_id (n := 0) (fun i hi => absurd hi (Nat.not_lt_zero i)) v h
theorem callB_f {C : Cx} {K : X → Prop} {f : FuncId} {args : List EV} {dst : Option Tmp} {x : X} {S : Type} {B : Base} {vf : S → EV} {R : S → Base → Prop} (h : Does C.P f args B vf R) (hB : BExt B x.B) (hv : ∀ s, closed 0 (vf s))
    (hk : ∀ s B', BExt x.B B' → R s B' → K { σ := put x.σ dst (vf s), n := x.n, hs := x.hs, B := B', ms := x.ms }) : CallB C f args dst x K := by
  refine callB_g vf (fun _ => 0) (fun _ => []) R [] h.en (by simp) (by simp) (fun s => ⟨Nat.le_refl _, Nat.le_refl _⟩) (fun bs w hh => ?_) (fun s B' hE hR => ?_)
  · rw [reals_closed0 bs (fun _ => 0) h.cl]
    exact h.run ⟨w, x.B.D⟩ (hB.trans hh.ext) (fun b hb => (hh.frame b hb).1)
  · rw [ren_rho_nil (hv s)]
    exact hk s B' hE hR
theorem callS_f {C : Cx} {Q : Exit → X → Prop} {f : FuncId} {args : List EV} {dst : Option Tmp} {st : List It} {x : X} {S : Type} {vf : S → EV} {R : S → Base → Prop} (h : Does C.P f args x.B vf R) (hv : ∀ s, closed 0 (vf s))
    (hk : ∀ s B', BExt x.B B' → R s B' → Next C Q st { σ := put x.σ dst (vf s), n := x.n, hs := x.hs, B := B', ms := x.ms }) : callS C Q f args dst st x :=
  fun _ => .inr (callB_f h (BExt.refl _) hv hk)
theorem fn_of {S : Type} {P : Program} {f : FuncId} {fn : Func} {c : Code} {args : List EV} {B : Base} {vf : S → EV} {R : S → Base → Prop} (hE : Enters P f) (hRm : ∀ s B B', BExt B B' → R s B → R s B')
    (hf : P.funcs[f]? = some fn) (hb : fn.body = some c) (hin : codeIn fn.ntmps c = true) (hl : args.length ≤ fn.ntmps) (hcl : closeds 0 args)
    (h : ∀ B0, BExt B B0 → Next (cxG P fn.ntmps B0.w B0.D []) (retE (cxG P fn.ntmps B0.w B0.D []) fn.results.toList (fun v x => BExt B0 x.B ∧ ∃ s, v = vf s ∧ closed 0 (vf s) ∧ R s x.B)) [.c c] ⟨argσ 0 args, 0, [], B0, []⟩) : Does P f args B vf R := by
  refine ⟨hE, hcl, fun B0 hw hlt => ?_⟩
  obtain ⟨w, D⟩ := B0
  simp only at hlt
  have h1 := calls_of (C := cxG P fn.ntmps w D []) (B := ⟨w, D⟩) (bs := fun _ => 0) (n := 0) (hs := []) (K := fun v x => BExt ⟨w, D⟩ x.B ∧ ∃ s, v = vf s ∧ closed 0 (vf s) ∧ R s x.B) rfl hf hb rfl hin hl
    (by
      have := HRel.startG (P := P) (N := fn.ntmps) (w := w) (D := D) (olds := []) (objs := []) (fun b hb => ⟨hlt b hb, by simp⟩) rfl (by simp) (fun i b o hi => by simp at hi)
      exact ⟨by simp [hget], by simp [hget], by simp [hget], by simp, by simp [hget], this.frame, rfl, rfl, rfl, Nat.le_refl _, by simp [hget], this.frameE, this.apart, Nat.le_refl _, rfl, rfl, rfl⟩) hcl (h ⟨w, D⟩ hw)
  refine h1.mono ?_
  rintro e w' ⟨v, x', bs', rfl, hcv, hr, hE', s, rfl, hc0, hR⟩
  have hlow : ∀ k, k < w.heap.size → ¬ D k ∨ D k := fun k _ => (Classical.em _).symm
  refine ⟨s, bs', rfl, hc0, ⟨hr.eo.1, fun k hk => ?_, hr.eo.2.1, hr.eo.2.2.1, hr.eo.2.2.2⟩, fun i b hi => by simp at hi, fun i o hi => by simp at hi, fun i j oi oj hi => by simp at hi, ?_⟩
  · rcases hlow k hk.1 with h | h
    · exact (hr.frameE k ⟨hk.1, h, by simp⟩).2
    · exact ((hr.frame k (hE'.D k h)).2).trans (hE'.same k h)
  · refine hRm s x'.B _ ⟨fun b hb => ?_, fun b hb => (hr.frame b hb).2, hr.hsize, hr.os, hr.tape, hr.output⟩ hR
    have hbw := (hr.frame b hb).1
    rcases Nat.lt_or_ge b w.heap.size with hlt' | hge
    · rcases hlow _ hlt' with h | h
      · exact absurd hb (hr.apart b ⟨hlt', h, by simp⟩)
      · exact .inl h
    · exact .inr ⟨.inl hge, hbw, by rintro ⟨i, o, hi, _⟩; simp at hi⟩
/-! ### a block of one's own becomes part of the base -/
mutual
def frz (i b : Nat) : EV → EV
  | .ptr j off => if j = i then .raw (.pointer (some ⟨b, off, none⟩)) else .ptr j off
  | .sl j off len cap => if j = i then .raw (.slice (some ⟨b, off, none⟩) len cap) else .sl j off len cap
  | .mp j => if j = i then .raw (.map (some b)) else .mp j
  | .fn f a c => .fn f (frzs i b a) (frzs i b c)
  | .agg cs => .agg (frzs i b cs)
  | .tup vs => .tup (frzs i b vs)
  | .ifc t v => .ifc t (frz i b v)
  | v => v
def frzs (i b : Nat) : List EV → List EV
  | [] => []
  | v :: vs => frz i b v :: frzs i b vs
end
mutual
theorem real_frz (bs : Nat → Nat) (i : Nat) : ∀ v, real bs (frz i (bs i) v) = real bs v
  | .any | .int _ _ | .bool _ | .str _ | .raw _ => rfl
  | .ptr j off => by simp only [frz]; split <;> simp_all [real]
  | .sl j off _ _ => by simp only [frz]; split <;> simp_all [real]
  | .mp j => by simp only [frz]; split <;> simp_all [real]
  | .fn _ a b => by simp [frz, real, reals_frz bs i a, reals_frz bs i b]
  | .agg cs => by simp [frz, real, reals_frz bs i cs]
  | .tup vs => by simp [frz, real, reals_frz bs i vs]
  | .ifc t v => by simp [frz, real, real_frz bs i v]
theorem reals_frz (bs : Nat → Nat) (i : Nat) : ∀ l, reals bs (frzs i (bs i) l) = reals bs l
  | [] => rfl
  | v :: vs => by simp [frzs, reals, real_frz bs i v, reals_frz bs i vs]
end
mutual
theorem closed_frz {n : Nat} (i b : Nat) : ∀ v, closed n v → closed n (frz i b v)
  | .any, h | .int _ _, h | .bool _, h | .str _, h | .raw _, h => h
  | .ptr j off, h => by simp only [frz]; split <;> simp_all [closed]
  | .sl j off _ _, h => by simp only [frz]; split <;> simp_all [closed]
  | .mp j, h => by simp only [frz]; split <;> simp_all [closed]
  | .fn _ a c, h => by simp only [frz, closed] at h ⊢; exact ⟨closeds_frz i b a h.1, closeds_frz i b c h.2⟩
  | .agg cs, h => by simp only [frz, closed] at h ⊢; exact closeds_frz i b cs h
  | .tup vs, h => by simp only [frz, closed] at h ⊢; exact closeds_frz i b vs h
  | .ifc t v, h => by simp only [frz, closed] at h ⊢; exact closed_frz i b v h
theorem closeds_frz {n : Nat} (i b : Nat) : ∀ l, closeds n l → closeds n (frzs i b l)
  | [], h => h
  | v :: vs, h => by simp only [frzs, closeds] at h ⊢; exact ⟨closed_frz i b v h.1, closeds_frz i b vs h.2⟩
end
theorem frz_any {i b : Nat} {v : EV} (h : frz i b v = .any) : v = .any := by
  cases v <;> simp only [frz] at h <;> first | rfl | (split at h <;> cases h) | cases h
def EObj.frz (i b : Nat) : EObj → EObj
  | .cells cs T fr => .cells (frzs i b cs) T fr
  | .obj o => .obj o
theorem EObj.real_frz (bs : Nat → Nat) (i : Nat) (o : EObj) : (o.frz i (bs i)).real bs = o.real bs := by
  cases o <;> simp [EObj.frz, EObj.real, reals_frz]
theorem EObj.closed_frz {n : Nat} (i b : Nat) (o : EObj) (h : o.closed n) : (o.frz i b).closed n := by
  cases o with
  | cells cs T fr => exact closeds_frz i b cs h
  | obj o => exact h
def frzσ (i b : Nat) : List (Nat × EV) → List (Nat × EV)
  | [] => []
  | (t, v) :: r => (t, frz i b v) :: frzσ i b r
def frzh (i b : Nat) : List (Nat × Option EObj) → List (Nat × Option EObj)
  | [] => []
  | (j, none) :: r => (j, none) :: frzh i b r
  | (j, some o) :: r => (j, if j = i then none else some (o.frz i b)) :: frzh i b r
theorem tget_frzσ (i b : Nat) : ∀ (σ : List (Nat × EV)) (t : Nat), tget (frzσ i b σ) t = frz i b (tget σ t)
  | [], t => rfl
  | (t', v) :: r, t => by simp only [frzσ, tget]; cases hb : (t' == t) <;> simp [tget_frzσ i b r t]
theorem hget_frzh (i b : Nat) : ∀ (hs : List (Nat × Option EObj)) (j : Nat), hget (frzh i b hs) j = if j = i then none else (hget hs j).map (EObj.frz i b)
  | [], j => by simp [frzh, hget]
  | (j', none) :: r, j => by
    simp only [frzh, hget]
    cases hb : (j' == j) with
    | true => simp
    | false => simp only [cond_false]; exact hget_frzh i b r j
  | (j', some o) :: r, j => by
    simp only [frzh, hget]
    cases hb : (j' == j) with
    | true =>
      have : j' = j := by simpa using hb
      subst this
      simp only [cond_true]
      split <;> rfl
    | false => simp only [cond_false]; exact hget_frzh i b r j
theorem Rel.frz {C : Cx} {x : X} {bs : Nat → Nat} {a : Act} {w : World} (hr : Rel C x bs a w) (i : Nat) (hms : i ∉ x.ms) (D' : Nat → Prop) (hD' : ∀ k, D' k ↔ x.B.D k ∨ (k = bs i ∧ (hget x.hs i).isSome = true)) :
    Rel C ⟨frzσ i (bs i) x.σ, x.n, frzh i (bs i) x.hs, ⟨w, D'⟩, x.ms⟩ bs a w := by
  have hlive : (hget x.hs i).isSome = true → bs i < w.heap.size ∧ ¬ C.E (bs i) := fun h => by
    obtain ⟨o, ho⟩ := Option.isSome_iff_exists.1 h
    exact ⟨heap_lt (hr.h.live i o ho).2, hr.h.newE i o ho⟩
  have hk : ∀ j o, hget (frzh i (bs i) x.hs) j = some o → j ≠ i ∧ ∃ o', hget x.hs j = some o' ∧ o = o'.frz i (bs i) := by
    intro j o hj
    rw [hget_frzh] at hj
    split at hj
    · cases hj
    · rename_i hji
      cases ho : hget x.hs j with
      | none => rw [ho] at hj; cases hj
      | some o' => rw [ho] at hj; simp only [Option.map_some, Option.some.injEq] at hj; exact ⟨hji, o', rfl, hj.symm⟩
  refine ⟨⟨hr.t.size, hr.t.defers, hr.t.msin, fun t ht => ?_, fun t => ?_⟩, ?_⟩
  · simp only at ht ⊢
    rw [tget_frzσ] at ht ⊢
    rw [real_frz]
    exact hr.t.tmps t (fun e => ht (by rw [e]; rfl))
  · simp only; rw [tget_frzσ]; exact closed_frz _ _ _ (hr.t.cl t)
  · refine ⟨fun j o hj => ?_, fun j o hj => ?_, fun j k oj ok hj hk' hb => ?_, hr.h.old, fun j o hj hD => ?_, fun k hD => ?_, rfl, rfl, rfl, Nat.le_refl _, fun j o hj => ?_, hr.h.frameE, fun k hE hD => ?_, hr.h.eo⟩
    · obtain ⟨_, o', ho, rfl⟩ := hk j o hj
      rw [EObj.real_frz]; exact hr.h.live j o' ho
    · obtain ⟨_, o', ho, rfl⟩ := hk j o hj
      exact EObj.closed_frz _ _ _ (hr.h.cl j o' ho)
    · obtain ⟨_, oj', hoj, rfl⟩ := hk j oj hj
      obtain ⟨_, ok', hok, rfl⟩ := hk k ok hk'
      exact hr.h.inj j k oj' ok' hoj hok hb
    · obtain ⟨hji, o', ho, rfl⟩ := hk j o hj
      rcases (hD' _).1 hD with h | ⟨h, hs⟩
      · exact hr.h.new j o' ho h
      · obtain ⟨oi, hoi⟩ := Option.isSome_iff_exists.1 hs
        exact hji (hr.h.inj j i o' oi ho hoi h)
    · rcases (hD' _).1 hD with h | ⟨rfl, hs⟩
      · exact ⟨(hr.h.frame k h).1, rfl⟩
      · exact ⟨(hlive hs).1, rfl⟩
    · obtain ⟨_, o', ho, rfl⟩ := hk j o hj
      exact hr.h.newE j o' ho
    · rcases (hD' _).1 hD with h | ⟨rfl, hs⟩
      · exact hr.h.apart k hE h
      · exact (hlive hs).2 hE
theorem Rel.frz_ext {C : Cx} {x : X} {bs : Nat → Nat} {a : Act} {w : World} (hr : Rel C x bs a w) (D' : Nat → Prop) (hD' : ∀ k, x.B.D k → D' k) : BExt x.B ⟨w, D'⟩ :=
  ⟨hD', fun b hb => (hr.h.frame b hb).2, hr.h.hsize, hr.h.os, hr.h.tape, hr.h.output⟩
theorem freezeS {C : Cx} {Q : Exit → X → Prop} {st : List It} {x : X} (i : Nat) {cs : List EV} {T : TypeId} {fr : Nat × Nat} (hg : hget x.hs i = some (.cells cs T fr)) (hcs : closeds 0 cs) (hms : i ∉ x.ms)
    (hk : ∀ b B', BExt x.B B' → B'.D b → B'.w.heap[b]? = some (.cells (reals (fun _ => 0) cs).toArray T fr) → Next C Q st ⟨frzσ i b x.σ, x.n, frzh i b x.hs, B', x.ms⟩) : Next C Q st x := by
  intro hst bs a w hr
  refine hk (bs i) ⟨w, fun k => x.B.D k ∨ k = bs i⟩ (hr.frz_ext _ (fun k h => .inl h)) (.inr rfl) ?_ hst bs a w (hr.frz i hms _ (fun k => by simp [hg]))
  have := (hr.h.live i _ hg).2
  simp only [EObj.real] at this
  rw [reals_closed0 (fun _ => 0) bs hcs]; exact this
/-- A list's own block becomes part of the base. -/
theorem freezeL {C : Cx} {Q : Exit → X → Prop} {st : List It} {x : X} (r len : Nat) {l : Lst} {xs zs : List EV} {T : TypeId} (hg : hget x.hs r = lO T xs l) (hl : lOk zs len l) (hx : xs.length = len * zs.length) (hc : closeds 0 xs) (hz : closeds 0 zs) (hms : r ∉ x.ms)
    (hk : ∀ b ad cap B', BExt x.B B' → frz r b (lE r len l) = .raw (.slice ad len cap) → (∀ a, ad = some a → a = ⟨b, 0, none⟩ ∧ B'.D b) → (0 < len → ad.isSome = true) →
      (∀ j, j < xs.length → B'.w.cell? (adrAt ad j) = some (real (fun _ => 0) (xs.getD j .any))) → Next C Q st ⟨frzσ r b x.σ, x.n, frzh r b x.hs, B', x.ms⟩) : Next C Q st x := by
  intro hst bs a w hr
  cases l with
  | none =>
    have hg' : hget x.hs r = none := hg
    have h0 : len = 0 := hl
    subst h0
    refine hk (bs r) none 0 ⟨w, x.B.D⟩ (hr.frz_ext _ (fun k h => h)) rfl (fun a ha => by cases ha) (fun h => absurd h (by omega)) (fun j hj => by rw [hx] at hj; omega) hst bs a w (hr.frz r hms _ (fun k => by simp [hg']))
  | some p =>
    obtain ⟨cap, rest⟩ := p
    have hg' : hget x.hs r = some (.cells (xs ++ rest) T (0, 0)) := hg
    refine hk (bs r) (some ⟨bs r, 0, none⟩) cap ⟨w, fun k => x.B.D k ∨ k = bs r⟩ (hr.frz_ext _ (fun k h => .inl h)) (by simp [lE, frz]) (fun a ha => by cases ha; exact ⟨rfl, .inr rfl⟩) (fun _ => rfl) (fun j hj => ?_) hst bs a w (hr.frz r hms _ (fun k => by simp [hg']))
    have := (hr.h.live r _ hg').2
    simp only [EObj.real] at this
    rw [adrAt_some, add_spot, cell_of_heap this]
    have hcr : closeds 0 xs := hc
    simp only [Nat.zero_add]
    rw [List.getElem?_toArray, reals_eq, List.getElem?_map, List.getElem?_append_left hj, List.getElem?_eq_getElem hj, List.getD_eq_getElem?_getD, List.getElem?_eq_getElem hj]
    simp only [Option.map_some, Option.getD_some]
    congr 1
    exact real_closed0 _ _ (closeds_mem hcr (List.getElem_mem hj))
def fzO (i b : Nat) (o : Option EObj) : Option EObj := o.map (EObj.frz i b)
theorem fzO_none (i b : Nat) : fzO i b none = none := rfl
theorem fzO_some (i b : Nat) (o : EObj) : fzO i b (some o) = some (o.frz i b) := rfl
theorem frzh_nil (i b : Nat) : frzh i b [] = [] := rfl
theorem frzh_cons (i b j : Nat) (o : Option EObj) (r : List (Nat × Option EObj)) : frzh i b ((j, o) :: r) = (j, if j = i then none else fzO i b o) :: frzh i b r := by
  cases o with
  | none => simp [frzh, fzO]
  | some o => rfl
attribute [go_sem] frz frzs EObj.frz frzσ frzh_nil frzh_cons fzO_none fzO_some
end Go.Ew
