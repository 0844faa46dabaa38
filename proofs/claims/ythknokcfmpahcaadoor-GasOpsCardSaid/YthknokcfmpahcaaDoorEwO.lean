/- The loop over an iterator. -/
import Derived.Test.YthknokcfmpahcaaDoorEwN
set_option linter.unusedSimpArgs false
set_option linter.unusedVariables false
namespace Go.Ew
open Go RowKit

/-- The loop's parameters, laid. -/
def binds : List Nat → List EV → List (Nat × EV) → List (Nat × EV)
  | p :: ps, v :: vs, σ => binds ps vs ((p, v) :: σ)
  | _, _, σ => σ
theorem TRel.binds {C : Cx} {n : Nat} {bs : Nat → Nat} : ∀ (ps : List Nat) (vs : List EV) (σ : List (Nat × EV)) (t : Array Value) (d : List Deferred) (ms : List Nat), TRel C ms n σ bs { tmps := t, defers := d } → (∀ p ∈ ps, p < C.N) → closeds n vs →
    TRel C ms n (Ew.binds ps vs σ) bs { tmps := (ps.zip (reals bs vs)).foldl (fun t (p, v) => t.setIfInBounds p v) t, defers := d }
  | [], vs, σ, t, d, ms, h, _, _ => by simpa [Ew.binds] using h
  | p :: ps, [], σ, t, d, ms, h, _, _ => by simpa [Ew.binds, reals] using h
  | p :: ps, v :: vs, σ, t, d, ms, h, hp, hc => by
    simp only [Ew.binds, reals, List.zip_cons_cons, List.foldl_cons]
    refine TRel.binds ps vs _ _ d ms ?_ (fun q hq => hp q (by simp [hq])) hc.2
    have := h.next (dst := some p) (Nat.le_refl _) (fun _ _ => rfl) (by simp [dstIn, hp p (by simp)]) (v := v) (.inr rfl) hc.1
    simpa [put, Act.put] using this
/-- How a round's body may be left. -/
def roundQ {S : Type} (Cr : Cx) (n0 : Nat) (r : Loop) (Nn : S → Nat) (Hs : S → List (Nat × Option EObj)) (Bs : S → Base) (I : S → Prop) (Ix : Code → S → Prop) : Exit → X → Prop
  | .normal, x => ∃ s, I s ∧ Weak Cr ⟨[], x.n, x.hs, x.B, []⟩ ⟨[], Nn s, (n0 + 1, some (.obj (.loop r))) :: (n0, some (.obj (.deferred (some [])))) :: Hs s, Bs s, []⟩
  | .ret, x => ∃ s, Ix .ret s ∧ Weak Cr ⟨[], x.n, x.hs, x.B, []⟩ ⟨[], Nn s, (n0 + 1, some (.obj (.loop r))) :: (n0, some (.obj (.deferred (some [])))) :: Hs s, Bs s, []⟩
  | .exit id, x => ∃ s, Ix (.exit id) s ∧ Weak Cr ⟨[], x.n, x.hs, x.B, []⟩ ⟨[], Nn s, (n0 + 1, some (.obj (.loop r))) :: (n0, some (.obj (.deferred (some [])))) :: Hs s, Bs s, []⟩
  | _, _ => False
/-- The parameters are handed on; then the body. -/
def assignQ {S : Type} (Cr : Cx) (n0 : Nat) (r r' : Loop) (body : Code) (Nn : S → Nat) (Hs : S → List (Nat × Option EObj)) (Bs : S → Base) (I : S → Prop) (Ix : Code → S → Prop) : Exit → X → Prop
  | .normal, x => hget x.hs (n0 + 1) = some (.obj (.loop r)) ∧ Next Cr (roundQ Cr n0 r' Nn Hs Bs I Ix) [.c body] { σ := x.σ, n := x.n, hs := (n0 + 1, some (.obj (.loop r'))) :: x.hs, B := x.B, ms := x.ms }
  | _, _ => False
theorem HRel.at {C : Cx} {B : Base} {n : Nat} {hs : List (Nat × Option EObj)} {bs : Nat → Nat} {w w' : World} {D : Nat → Prop} (h : HRel C B n hs bs w) (hD1 : ∀ i o, hget hs i = some o → D (bs i)) (hD2 : ∀ b, B.D b → D b) (hD3 : ∀ b, C.E b → D b)
    (hs' : Stay D w w') : HRel C B n hs bs w' :=
  ⟨fun i o hi => ⟨(h.live i o hi).1, by rw [hs'.same _ (hD1 i o hi)]; exact (h.live i o hi).2⟩, h.cl, h.inj, h.old, h.new,
    fun k hk => ⟨Nat.lt_of_lt_of_le (h.frame k hk).1 hs'.size, by rw [hs'.same k (hD2 k hk)]; exact (h.frame k hk).2⟩,
    hs'.os.trans h.os, hs'.tape.trans h.tape, hs'.output.trans h.output, Nat.le_trans h.hsize hs'.size, h.newE,
    fun k hk => ⟨Nat.lt_of_lt_of_le (h.frameE k hk).1 hs'.size, by rw [hs'.same k (hD3 k hk)]; exact (h.frameE k hk).2⟩, h.apart, Nat.le_trans h.eo.1 hs'.size, hs'.os.trans h.eo.2.1, hs'.tape.trans h.eo.2.2.1, hs'.output.trans h.eo.2.2.2⟩
/-- Another set of fixed names, other blocks that stay. -/
theorem HRel.cx {C C' : Cx} {B : Base} {n : Nat} {hs : List (Nat × Option EObj)} {bs : Nat → Nat} {w : World} (h : HRel C B n hs bs w) (h1 : ∀ i b, C'.olds[i]? = some b → bs i = b ∧ i < n)
    (h2 : ∀ i o, hget hs i = some o → ¬ C'.E (bs i)) (h3 : ∀ k, C'.E k → k < w.heap.size ∧ w.heap[k]? = C'.e.heap[k]?) (h4 : ∀ k, C'.E k → ¬ B.D k) (h5 : C'.e.heap.size ≤ w.heap.size ∧ w.os = C'.e.os ∧ w.tape = C'.e.tape ∧ w.output = C'.e.output) : HRel C' B n hs bs w :=
  ⟨h.live, h.cl, h.inj, h1, h.new, h.frame, h.os, h.tape, h.output, h.hsize, h2, h3, h4, h5⟩
/-- The state of the loop, between two rounds. -/
structure JIn (C : Cx) (n0 : Nat) (bs1 : Nat → Nat) (r : Loop) (B : Base) (n : Nat) (hs : List (Nat × Option EObj)) (bs : Nat → Nat) (D : Nat → Prop) (w : World) : Prop where
  h : HRel C B n ((n0 + 1, some (.obj (.loop r))) :: (n0, some (.obj (.deferred (some [])))) :: hs) bs w
  fix : ∀ i, i < n0 + 2 → bs i = bs1 i
  D1 : ∀ i o, hget ((n0 + 1, some (.obj (.loop r))) :: (n0, some (.obj (.deferred (some [])))) :: hs) i = some o → D (bs i)
  D2 : ∀ b, B.D b → D b
  D3 : ∀ b, C.E b → D b
theorem JIn.stay {C : Cx} {n0 : Nat} {bs1 : Nat → Nat} {r : Loop} {B : Base} {n : Nat} {hs : List (Nat × Option EObj)} {bs : Nat → Nat} {D : Nat → Prop} {w w' : World} (h : JIn C n0 bs1 r B n hs bs D w) (hs' : Stay D w w') : JIn C n0 bs1 r B n hs bs D w' :=
  ⟨h.h.at h.D1 h.D2 h.D3 hs', h.fix, h.D1, h.D2, h.D3⟩
theorem rangeS {C : Cx} {Q : Exit → X → Prop} {g : Operand} {ps : Array Tmp} {assign body : Code} {st : List It} {x : X} {fg : FuncId} {first cap : List EV} (hrd : C.rd = none)
    (hg : ev x.σ g = .fn (.func fg) first cap) (hE : Enters C.P fg) (hps : ∀ p ∈ ps.toList, p < C.N) (hin : codeIn C.N assign = true ∧ codeIn C.N body = true)
    {S : Type} (I : Nat → S → Prop) (Ix : Code → S → Prop) (Nn : S → Nat) (Hs : S → List (Nat × Option EObj)) (Bs : S → Base) (s0 : S) (hI : I 0 s0)
    (h0 : Weak C ⟨[], x.n + 2, x.hs, x.B, []⟩ ⟨[], Nn s0, Hs s0, Bs s0, []⟩) (hHs : ∀ s, hget (Hs s) x.n = none ∧ hget (Hs s) (x.n + 1) = none)
    (hNn : (∀ k s, I k s → x.n + 2 ≤ Nn s) ∧ (∀ c s, Ix c s → x.n + 2 ≤ Nn s)) (Rn : List Nat) (Rf : Nat → Prop)
    (hRn : ∀ i ∈ Rn, (hget x.hs i).isSome = true ∧ (∀ k s, I k s → hget (Hs s) i = hget x.hs i) ∧ (∀ c s, Ix c s → hget (Hs s) i = hget x.hs i))
    (hRf : ∀ b, Rf b → x.B.D b ∧ (∀ k s, I k s → (Bs s).D b ∧ (Bs s).w.heap[b]? = x.B.w.heap[b]?) ∧ (∀ c s, Ix c s → (Bs s).D b ∧ (Bs s).w.heap[b]? = x.B.w.heap[b]?))
    {A : Type} {len : Nat} {enc : A → Array Value} {El : Nat → A → World → Prop} (encE : A → List EV) (henc : ∀ a bs, (reals bs (encE a)).toArray = enc a) (hencc : ∀ a, closeds 0 (encE a)) (hencl : ∀ a, (encE a).length = ps.size)
    (hiter : ∀ bs w, HRel C x.B x.n x.hs bs w → IterOk C.P fg (fun y => (reals bs (first ++ [.raw y] ++ cap)).toArray) w (fun b => (∃ i ∈ Rn, b = bs i) ∨ Rf b) len enc El)
    (Elp : Nat → A → Prop) (hEl : ∀ k a w, El k a w → Elp k a)
    (round : ∀ k s a l olds e E r r', I k s → k < len → Elp k a → olds.length = x.n + 2 →
      Next ⟨C.P, C.N, some l, olds, e, E⟩ (assignQ ⟨C.P, C.N, some l, olds, e, E⟩ x.n r r' body Nn Hs Bs (I (k + 1)) Ix) [.c assign]
        ⟨binds ps.toList (encE a) x.σ, Nn s, (x.n + 1, some (.obj (.loop r))) :: (x.n, some (.obj (.deferred (some [])))) :: Hs s, Bs s, []⟩)
    (hdone : ∀ s, I len s → Next C Q st ⟨x.σ, Nn s, (x.n + 1, none) :: (x.n, some (.obj (.deferred (some [])))) :: Hs s, Bs s, x.n :: x.ms⟩)
    (hret : ∀ s, Ix .ret s → Q .ret ⟨x.σ, Nn s, (x.n + 1, none) :: (x.n, some (.obj (.deferred (some [])))) :: Hs s, Bs s, x.n :: x.ms⟩)
    (hexit : ∀ id s, Ix (.exit id) s → exitS C Q st (fun _ => False) (.exit id) ⟨x.σ, Nn s, (x.n + 1, none) :: (x.n, some (.obj (.deferred (some [])))) :: Hs s, Bs s, x.n :: x.ms⟩)
    (hIx : ∀ c s, Ix c s → c = .ret ∨ ∃ id, c = .exit id) : codeS C Q (.rangeFunc g ps assign body) st x := by
  intro hst bs a w hr
  obtain ⟨_, hst⟩ := hst
  simp only [contS]
  refine wpIn_rangeFunc ?_
  intro fn _
  have hgv := eval_ev hr.t g (by rw [hg]; simp)
  rw [hg] at hgv
  have hgc := closed_ev hr.t g
  rw [hg] at hgc
  simp only [closed] at hgc
  obtain ⟨bs1, hbs1⟩ : ∃ bs1, bs1 = upd (upd bs x.n w.heap.size) (x.n + 1) (w.heap.size + 1) := ⟨_, rfl⟩
  obtain ⟨rec, hrec⟩ : ∃ rec : LoopState → Option Code → Loop, rec = fun st pe => { state := st, pending := pe, fn, tmps := a.tmps, params := ps, assign, body, defers := w.heap.size } := ⟨_, rfl⟩
  have hbn : bs1 x.n = w.heap.size := by rw [hbs1]; simp [upd]
  have hbn1 : bs1 (x.n + 1) = w.heap.size + 1 := by rw [hbs1]; simp [upd]
  have hblt : ∀ i, i < x.n → bs1 i = bs i := fun i hi => by rw [hbs1, upd_lt i (by omega), upd_lt i hi]
  obtain ⟨w1, hw1⟩ : ∃ w1, w1 = (w.alloc (.deferred (some []))).alloc (.loop (rec .ready none)) := ⟨_, rfl⟩
  have hH1 : HRel C x.B (x.n + 2) ((x.n + 1, some (.obj (.loop (rec .ready none)))) :: (x.n, some (.obj (.deferred (some [])))) :: x.hs) bs1 w1 := by
    have := (hr.h.alloc (.obj (.deferred (some []))) trivial).alloc (.obj (.loop (rec .ready none))) trivial
    rw [hbs1, hw1]
    have e : (w.heap.push (EObj.real bs (.obj (.deferred (some []))))).size = w.heap.size + 1 := by simp
    rw [e] at this
    exact this
  -- the loop's own context
  obtain ⟨Cj, hCj⟩ : ∃ Cj : Cx, Cj = ⟨C.P, C.N, C.rd, (List.range (x.n + 2)).map bs1, C.e, C.E⟩ := ⟨_, rfl⟩
  have hfixC : ∀ {B : Base} {n : Nat} {hs : List (Nat × Option EObj)} {bs' : Nat → Nat} {w' : World}, HRel Cj B n hs bs' w' → HRel C B n hs bs' w' := by
    intro B n hs bs' w' h
    subst hCj
    refine h.cx (fun i b hi => ?_) h.newE h.frameE h.apart h.eo
    obtain ⟨h1, h2⟩ := hr.h.old i b hi
    have h3 := h.old i (bs1 i) (by simp [show i < x.n + 2 by omega])
    exact ⟨by rw [h3.1, hblt i h2, h1], h3.2⟩
  have hfixJ : ∀ {B : Base} {n : Nat} {hs : List (Nat × Option EObj)} {bs' : Nat → Nat} {w' : World}, HRel C B n hs bs' w' → x.n + 2 ≤ n → (∀ i, i < x.n + 2 → bs' i = bs1 i) → HRel Cj B n hs bs' w' := by
    intro B n hs bs' w' h hn hf
    subst hCj
    refine h.cx (fun i b hi => ?_) h.newE h.frameE h.apart h.eo
    simp only [List.getElem?_map, Option.map_eq_some_iff] at hi
    obtain ⟨j, hj, rfl⟩ := hi
    obtain ⟨h1, h2⟩ := List.getElem?_eq_some_iff.1 hj
    simp only [List.length_range] at h1
    simp only [List.getElem_range] at h2
    subst h2
    exact ⟨hf i h1, by omega⟩
  have hCjP : Cj.P = C.P ∧ Cj.N = C.N ∧ Cj.e = C.e ∧ Cj.E = C.E := by subst hCj; exact ⟨rfl, rfl, rfl, rfl⟩
  have hCjo : ∀ i, i < x.n + 2 → Cj.olds[i]? = some (bs1 i) := by intro i hi; subst hCj; simp [hi]
  have hCjl : Cj.olds.length = x.n + 2 := by subst hCj; simp
  have hbb : Below w.heap.size w w1 := by rw [hw1]; exact ((Below.refl _ w).alloc (Nat.le_refl _) _).alloc (by simp) _
  have hit := hiter bs w1 (hr.h.later hbb)
  refine ⟨w.heap.size + 1, [{ target := .collected w.heap.size, args := #[] }], w1, { target := .fn (.func fg) (reals bs cap).toArray, args := (reals bs first).toArray ++ #[.func (.yield (w.heap.size + 1)) #[] #[]] }, w1, fg,
    (reals bs (first ++ [.raw (.func (.yield (w.heap.size + 1)) #[] #[])] ++ cap)).toArray, w1, ?_, ?_, fun _ _ => trivial, ?_, by simp [fe, Fence.wide], ?_⟩
  · have : (fe C).round = none := hrd
    rw [this, hw1, hrec]; exact run_enterLoop_outer _ _ _ _ _
  · have hc : ∀ v, a.eval (.const v) = v := fun _ => rfl
    simp only [resolve, rangeCall, hgv, real, Deferred.ofValue, List.map_toArray, List.map_cons, List.map_nil, hc, reals]
    rfl
  · simp only [invoke]
    rw [hE]
    simp [reals_eq, real]
  rw [calls_fe]
  -- what there is between two rounds, and where a round said 'no more'
  have hweak : ∀ (r r' : Loop) (y : X) (s : S) (Cr : Cx), Cr.olds.length = x.n + 2 → Weak Cr ⟨[], y.n, y.hs, y.B, []⟩ ⟨[], Nn s, (x.n + 1, some (.obj (.loop r))) :: (x.n, some (.obj (.deferred (some [])))) :: Hs s, Bs s, []⟩ →
      ∀ {bs2 : Nat → Nat} {w2 : World}, HRel Cr y.B y.n y.hs bs2 w2 → HRel Cr (Bs s) (Nn s) ((x.n + 1, some (.obj (.loop r'))) :: (x.n, some (.obj (.deferred (some [])))) :: Hs s) bs2 (w2.putObj (bs2 (x.n + 1)) (.loop r')) := by
    intro r r' y s Cr hlen hw bs2 w2 hh
    have h1 := hh.weakH (x := ⟨[], y.n, y.hs, y.B, []⟩) hw
    have h2 := h1.store (i := x.n + 1) (o := .obj (.loop r)) (by simp [hget_cons]) (.obj (.loop r')) trivial
    have hb : hget ((x.n + 1, some (EObj.obj (.loop r))) :: (x.n, some (EObj.obj (.deferred (some [])))) :: Hs s) = hget ((x.n + 1, some (EObj.obj (.loop r))) :: (x.n, some (EObj.obj (.deferred (some [])))) :: Hs s) := rfl
    refine (HRel.weakH (x := ⟨[], Nn s, (x.n + 1, some (.obj (.loop r'))) :: (x.n + 1, some (.obj (.loop r))) :: (x.n, some (.obj (.deferred (some [])))) :: Hs s, Bs s, []⟩) h2 (y := ⟨[], Nn s, (x.n + 1, some (.obj (.loop r'))) :: (x.n, some (.obj (.deferred (some [])))) :: Hs s, Bs s, []⟩) ⟨fun t => .inl rfl, ?_, fun t => by simp [tget, closed], ?_, hw.olds, rfl, rfl, by simp⟩)
    · intro i o hi
      simp only [hget_cons] at hi ⊢
      by_cases e : x.n + 1 = i
      · simpa [e] using hi
      · simpa [e] using hi
    · intro i o hi
      simp only [hget_cons] at hi
      by_cases e : x.n + 1 = i
      · simp only [e, if_true, Option.some.injEq] at hi
        subst hi; exact ⟨by have := (hw.hcl (x.n + 1) (.obj (.loop r)) (by simp [hget_cons])).1; simp only at this ⊢; omega, trivial⟩
      · exact hw.hcl i o (by simpa [hget_cons, e] using hi)
  refine (hit (w.heap.size + 1) (fun k D w' => ∃ s bs', I k s ∧ JIn Cj x.n bs1 (rec .ready none) (Bs s) (Nn s) (Hs s) bs' D w')
    (fun _ D w' => ∃ c s bs', Ix c s ∧ JIn Cj x.n bs1 (rec .done (some c)) (Bs s) (Nn s) (Hs s) bs' D w') ?_ ?_ ?_ ?_).mono ?_
  · rintro k D w' w'' ⟨s, bs', h1, h2⟩ _ hs'; exact ⟨s, bs', h1, h2.stay hs'⟩
  · rintro k D w' w'' ⟨c, s, bs', h1, h2⟩ _ hs'; exact ⟨c, s, bs', h1, h2.stay hs'⟩
  · -- one round
    rintro k el D w2 hk hel ⟨s, bs', hIs, hj⟩ hB
    have hn2 := hNn.1 k s hIs
    have hl2 : w2.heap[w.heap.size + 1]? = some (.loop (rec .ready none)) := by
      have := (hj.h.live (x.n + 1) (.obj (.loop (rec .ready none))) (by simp [hget_cons])).2
      rw [hj.fix _ (by omega), hbn1] at this; exact this
    have hesz : (enc el).size = ps.size := by rw [← henc el bs]; simp [reals_eq, hencl]
    have hy := run_yield (P := C.P) (args := enc el) hl2 (by rw [hrec]; exact hesz)
    obtain ⟨Er, hEr⟩ : ∃ Er : Nat → Prop, Er = fun b => b < w2.heap.size ∧ (¬ D b ∨ C.E b) := ⟨_, rfl⟩
    obtain ⟨Cr, hCr⟩ : ∃ Cr : Cx, Cr = ⟨C.P, C.N, some (w.heap.size + 1), Cj.olds, w2, Er⟩ := ⟨_, rfl⟩
    have hfe : fe Cr = Fence.wide.inRound (w.heap.size + 1) := by rw [hCr]; rfl
    have hCrE : Cr.E = Er := by rw [hCr]
    have hCre : Cr.e = w2 := by rw [hCr]
    have hCro : Cr.olds = Cj.olds := by rw [hCr]
    have hCrP : Cr.P = C.P := by rw [hCr]
    have hCrN : Cr.N = C.N := by rw [hCr]
    have hHr : HRel Cr (Bs s) (Nn s) ((x.n + 1, some (.obj (.loop (rec .ready none)))) :: (x.n, some (.obj (.deferred (some [])))) :: Hs s) bs' w2 := by
      refine hj.h.cx (by rw [hCro]; exact hj.h.old) ?_ ?_ ?_ ?_
      · intro i o hi; rw [hCrE, hEr]
        rintro ⟨_, h | h⟩
        · exact h (hj.D1 i o hi)
        · exact hj.h.newE i o hi (by rw [hCjP.2.2.2]; exact h)
      · intro q hq; rw [hCrE, hEr] at hq; rw [hCre]; exact ⟨hq.1, rfl⟩
      · intro q hq; rw [hCrE, hEr] at hq
        rcases hq.2 with h | h
        · exact fun hb => h (hj.D2 q hb)
        · exact hj.h.apart q (by rw [hCjP.2.2.2]; exact h)
      · rw [hCre]; exact ⟨Nat.le_refl _, rfl, rfl, rfl⟩
    have hbb' : ∀ i, i < x.n → bs' i = bs i := fun i hi => by rw [hj.fix i (by omega), hblt i hi]
    have hTr : TRel Cr [] (Nn s) x.σ bs' { tmps := a.tmps, defers := [] } :=
      ⟨by rw [hCrN]; exact hr.t.size, rfl, by simp, fun t ht => by rw [real_congr hbb' _ (hr.t.cl t)]; exact hr.t.tmps t ht, fun t => closed_mono (by omega) _ (hr.t.cl t)⟩
    have hTb := hTr.binds ps.toList (encE el) _ _ _ _ (fun p hp => by rw [hCrN]; exact hps p hp) (closeds_mono (Nat.zero_le _) _ (hencc el))
    have htm : ((rec .ready none).params.zip (enc el)).foldl (fun tmps (t, a) => tmps.setIfInBounds t a) (rec .ready none).tmps = (ps.toList.zip (reals bs' (encE el))).foldl (fun t (p, v) => t.setIfInBounds p v) a.tmps := by
      rw [hrec, ← henc el bs', ← Array.foldl_toList]; simp
    have he1 : (rec .ready none).fn = fn ∧ (rec .ready none).assign = assign ∧ (rec .ready none).body = body := by rw [hrec]; exact ⟨rfl, rfl, rfl⟩
    rw [htm, he1.1, he1.2.1, he1.2.2] at hy
    refine ⟨fn, _, assign, body, hy, ?_⟩
    refine roundIn_of_wpIn (F := Fence.wide) trivial ?_
    rw [← hfe]
    have hnx := round k s el (w.heap.size + 1) Cj.olds w2 Er (rec .ready none) (rec .busy none) hIs hk (hEl _ _ _ hel) hCjl
    rw [← hCr] at hnx
    have hwalk := hnx ⟨by rw [hCrN]; exact hin.1, trivial⟩ bs' _ w2 ⟨hTb, hHr⟩
    simp only [contS] at hwalk
    rw [hCrP] at hwalk
    refine wpIn_mono hwalk ?_
    rintro e1 a1 w3 ⟨x1, bs2, hr1, hq1⟩
    cases e1 with
    | normal =>
      obtain ⟨hg1, hnext⟩ := hq1
      have ho1 : ∀ {B : Base} {n : Nat} {hs : List (Nat × Option EObj)} {bs3 : Nat → Nat} {w4 : World}, HRel Cr B n hs bs3 w4 → ∀ i, i < x.n + 2 → bs3 i = bs1 i := by
        intro B n hs bs3 w4 h i hi; exact (h.old i _ (by rw [hCro]; exact hCjo i hi)).1
      have hl3 : w3.heap[w.heap.size + 1]? = some (.loop (rec .ready none)) := by
        have := (hr1.h.live _ _ hg1).2
        rw [ho1 hr1.h _ (by omega), hbn1] at this; exact this
      refine ⟨_, run_beginRound hl3 (by rw [hrec]), ?_⟩
      have hbusy : ({ rec .ready none with state := .busy } : Loop) = rec .busy none := by rw [hrec]
      rw [hbusy]
      have hH3 := hr1.h.store hg1 (.obj (.loop (rec .busy none))) trivial
      rw [ho1 hr1.h _ (by omega), hbn1] at hH3
      have hwalk2 := hnext ⟨by rw [hCrN]; exact hin.2, trivial⟩ bs2 a1 _ ⟨hr1.t, hH3⟩
      simp only [contS] at hwalk2
      rw [hCrP] at hwalk2
      refine wpIn_mono hwalk2 ?_
      rintro e2 a2 w4 ⟨x2, bs3, hr2, hq2⟩
      -- the end of a round
      have fin : ∀ (jump : Option Code) (s' : S), ((∃ k, I k s') ∨ ∃ c, Ix c s') → Weak Cr ⟨[], x2.n, x2.hs, x2.B, []⟩ ⟨[], Nn s', (x.n + 1, some (.obj (.loop (rec .busy none)))) :: (x.n, some (.obj (.deferred (some [])))) :: Hs s', Bs s', []⟩ →
          ∃ w5, (Instr.endRound (w.heap.size + 1) jump).run C.P w4 = .ok (.bool jump.isNone) w5 ∧ Stay (fun q => q < w2.heap.size ∧ (¬ D q ∨ ((∃ i ∈ Rn, q = bs i) ∨ Rf q))) w2 w5 ∧
            JIn Cj x.n bs1 (rec (if jump.isNone then .ready else .done) jump) (Bs s') (Nn s') (Hs s') bs3 (newer D w2 w5) w5 := by
        intro jump s' hI' hwk
        have hlen : Cr.olds.length = x.n + 2 := by rw [hCro]; exact hCjl
        have hH4 := hr2.h.weakH (x := ⟨[], x2.n, x2.hs, x2.B, []⟩) hwk
        have hf3 := ho1 hH4
        have hl4 : w4.heap[w.heap.size + 1]? = some (.loop (rec .busy none)) := by
          have := (hH4.live (x.n + 1) (.obj (.loop (rec .busy none))) (by simp [hget_cons])).2
          rw [hf3 _ (by omega), hbn1] at this; exact this
        have hend := run_endRound (P := C.P) jump hl4
        have hrr : ({ rec .busy none with state := if jump.isNone then .ready else .done, pending := jump } : Loop) = rec (if jump.isNone then .ready else .done) jump := by rw [hrec]
        rw [hrr] at hend
        have hH5 := hweak _ (rec (if jump.isNone then .ready else .done) jump) x2 s' Cr hlen hwk hr2.h
        rw [hf3 _ (by omega), hbn1] at hH5
        refine ⟨_, hend, ?_, ?_⟩
        · refine ⟨by have := hH5.eo.1; rw [hCre] at this; exact this, ?_, by have := hH5.eo.2.1; rw [hCre] at this; exact this, by have := hH5.eo.2.2.1; rw [hCre] at this; exact this, by have := hH5.eo.2.2.2; rw [hCre] at this; exact this⟩
          rintro q ⟨hq, h | ⟨i, hi, rfl⟩ | h⟩
          · have := (hH5.frameE q (by rw [hCrE, hEr]; exact ⟨hq, .inl h⟩)).2
            rw [hCre] at this; exact this
          · obtain ⟨r1, r2, r3⟩ := hRn i hi
            obtain ⟨o, ho⟩ := Option.isSome_iff_exists.1 r1
            have hin' := (hr.h.live i o ho).1
            have hne : x.n + 1 ≠ i ∧ x.n ≠ i := by omega
            have e1 := (hj.h.live i o (by rw [hget_cons, if_neg hne.1, hget_cons, if_neg hne.2, r2 k s hIs]; exact ho)).2
            have e2 := (hH5.live i o (by
              rw [hget_cons, if_neg hne.1, hget_cons, if_neg hne.2]
              rcases hI' with ⟨k', hI'⟩ | ⟨c', hI'⟩
              · rw [r2 k' s' hI']; exact ho
              · rw [r3 c' s' hI']; exact ho)).2
            rw [hf3 i (by omega), hblt i hin'] at e2
            rw [hbb' i hin'] at e1
            rw [e1, e2]
            rw [EObj.real_congr (fun j hj' => by rw [hf3 j (by omega), hblt j hj']) o (hr.h.cl i o ho), EObj.real_congr (fun j hj' => hbb' j hj') o (hr.h.cl i o ho)]
          · obtain ⟨r1, r2, r3⟩ := hRf q h
            obtain ⟨d1, d2⟩ := r2 k s hIs
            have e1 := (hj.h.frame q d1).2
            have : (Bs s').D q ∧ (Bs s').w.heap[q]? = x.B.w.heap[q]? := by
              rcases hI' with ⟨k', hI'⟩ | ⟨c', hI'⟩
              · exact r2 k' s' hI'
              · exact r3 c' s' hI'
            rw [(hH5.frame q this.1).2, this.2, e1, d2]
        · refine ⟨hH5.cx (by rw [← hCro]; exact hH5.old) ?_ ?_ ?_ ?_, hf3, ?_, ?_, ?_⟩
          · intro i o hi; rw [hCjP.2.2.2]
            intro hc
            have := hH5.newE i o hi
            rw [hCrE, hEr] at this
            exact this ⟨(hj.h.frameE _ (by rw [hCjP.2.2.2]; exact hc)).1, .inr hc⟩
          · intro q hq
            obtain ⟨f1, f2⟩ := hj.h.frameE q hq
            have := hH5.frameE q (by rw [hCrE, hEr]; exact ⟨f1, .inr (by rw [← hCjP.2.2.2]; exact hq)⟩)
            rw [hCre] at this
            exact ⟨this.1, this.2.trans f2⟩
          · intro q hq
            exact hH5.apart q (by rw [hCrE, hEr]; exact ⟨(hj.h.frameE q hq).1, .inr (by rw [← hCjP.2.2.2]; exact hq)⟩)
          · have h1 := hH5.eo
            have h2 := hj.h.eo
            rw [hCre] at h1
            exact ⟨Nat.le_trans h2.1 h1.1, h1.2.1.trans h2.2.1, h1.2.2.1.trans h2.2.2.1, h1.2.2.2.trans h2.2.2.2⟩
          · intro i o hi
            have h1 := heap_lt (hH5.live i o hi).2
            rcases Nat.lt_or_ge (bs3 i) w2.heap.size with h | h
            · refine .inl (Classical.byContradiction fun hn => ?_)
              have := hH5.newE i o hi
              rw [hCrE, hEr] at this
              exact this ⟨h, .inl hn⟩
            · exact .inr ⟨h, h1⟩
          · intro b hb
            have h1 := (hH5.frame b hb).1
            rcases Nat.lt_or_ge b w2.heap.size with h | h
            · refine .inl (Classical.byContradiction fun hn => ?_)
              exact hH5.apart b (by rw [hCrE, hEr]; exact ⟨h, .inl hn⟩) hb
            · exact .inr ⟨h, h1⟩
          · intro b hb
            exact .inl (hj.D3 b hb)
      cases e2 with
      | normal =>
        obtain ⟨s', hI', hwk⟩ := hq2
        obtain ⟨w5, h1, h2, h3⟩ := fin none s' (.inl ⟨_, hI'⟩) hwk
        exact ⟨_, w5, h1, true, rfl, h2, fun _ => ⟨s', bs3, hI', h3⟩, fun h => by simp at h⟩
      | ret =>
        obtain ⟨s', hI', hwk⟩ := hq2
        obtain ⟨w5, h1, h2, h3⟩ := fin (some .ret) s' (.inr ⟨_, hI'⟩) hwk
        exact ⟨_, w5, h1, false, rfl, h2, fun h => by simp at h, fun _ => ⟨.ret, s', bs3, hI', h3⟩⟩
      | exit id =>
        obtain ⟨s', hI', hwk⟩ := hq2
        obtain ⟨w5, h1, h2, h3⟩ := fin (some (.exit id)) s' (.inr ⟨_, hI'⟩) hwk
        exact ⟨_, w5, h1, false, rfl, h2, fun h => by simp at h, fun _ => ⟨.exit id, s', bs3, hI', h3⟩⟩
      | goto t => exact hq2.elim
      | panic ch => exact hq2.elim
      | outgrown => exact hq2.elim
    | ret => exact hq1.elim
    | exit id => exact hq1.elim
    | goto t => exact hq1.elim
    | panic ch => exact hq1.elim
    | outgrown => exact hq1.elim
  · -- before the first round
    refine ⟨s0, bs1, hI, ?_, fun _ _ => rfl, ?_, ?_, ?_⟩
    · refine hfixJ (hH1.weakH (x := ⟨[], x.n + 2, _, x.B, []⟩) (y := ⟨[], Nn s0, _, Bs s0, []⟩) ⟨fun _ => .inl rfl, ?_, fun t => by simp [tget, closed], ?_, h0.olds, h0.B, rfl, by simp⟩) (hNn.1 0 s0 hI) (fun _ _ => rfl)
      · intro i o hi
        simp only [hget_cons] at hi ⊢
        by_cases e : x.n + 1 = i
        · simpa [e] using hi
        · by_cases e' : x.n = i
          · simpa [e, e'] using hi
          · simp only [if_neg e, if_neg e'] at hi ⊢
            exact h0.hs i o hi
      · intro i o hi
        simp only [hget_cons] at hi
        have := hNn.1 0 s0 hI
        by_cases e : x.n + 1 = i
        · simp only [if_pos e, Option.some.injEq] at hi; subst hi; exact ⟨by simp only; omega, trivial⟩
        · by_cases e' : x.n = i
          · simp only [if_neg e, if_pos e', Option.some.injEq] at hi; subst hi; exact ⟨by simp only; omega, trivial⟩
          · simp only [if_neg e, if_neg e'] at hi
            exact h0.hcl i o hi
    · intro i o hi
      have hh : ∀ i o, hget ((x.n + 1, some (EObj.obj (.loop (rec .ready none)))) :: (x.n, some (EObj.obj (.deferred (some [])))) :: Hs s0) i = some o → ∃ o, hget ((x.n + 1, some (EObj.obj (.loop (rec .ready none)))) :: (x.n, some (EObj.obj (.deferred (some [])))) :: x.hs) i = some o := by
        intro i o hi
        simp only [hget_cons] at hi ⊢
        by_cases e : x.n + 1 = i
        · simp [e]
        · by_cases e' : x.n = i
          · simp [e, e']
          · simp only [if_neg e, if_neg e'] at hi ⊢
            exact ⟨o, h0.hs i o hi⟩
      obtain ⟨o', ho'⟩ := hh i o hi
      exact heap_lt (hH1.live i o' ho').2
    · intro b hb
      have : (Bs s0).D = x.B.D := by rw [show Bs s0 = x.B from h0.B]
      rw [this] at hb
      exact (hH1.frame b hb).1
    · intro b hb
      rw [hCjP.2.2.2] at hb
      exact (hH1.frameE b hb).1
  · -- behind the loop
    rintro e w5 ⟨⟨v, rfl⟩, D, hJ⟩
    have aft : ∀ (r : Loop) (s : S) (bs' : Nat → Nat), x.n + 2 ≤ Nn s → JIn Cj x.n bs1 r (Bs s) (Nn s) (Hs s) bs' D w5 → w5.heap[w.heap.size + 1]? = some (.loop r) ∧
        ∀ r', Rel C ⟨x.σ, Nn s, (x.n + 1, none) :: (x.n, some (.obj (.deferred (some [])))) :: Hs s, Bs s, x.n :: x.ms⟩ bs' { a with defers := [{ target := .collected w.heap.size, args := #[] }] ++ a.defers } (w5.putObj (w.heap.size + 1) (.loop r')) := by
      intro r s bs' hn hj
      have hl := (hj.h.live (x.n + 1) (.obj (.loop r)) (by simp [hget_cons])).2
      rw [hj.fix _ (by omega), hbn1] at hl
      refine ⟨hl, fun r' => ⟨⟨hr.t.size, ?_, ?_, ?_, ?_⟩, ?_⟩⟩
      · simp only [marks, List.map_cons, hj.fix x.n (by omega), hbn]
        rw [List.singleton_append, hr.t.defers]
        congr 1
        exact (marks_congr (fun i hi => by rw [hj.fix i (by omega), hblt i hi]) hr.t.msin).symm
      · intro i hi
        rcases List.mem_cons.1 hi with rfl | hi
        · simp only; omega
        · have := hr.t.msin i hi; simp only; omega
      · intro t ht; rw [real_congr (fun i hi => by rw [hj.fix i (by omega), hblt i hi]) _ (hr.t.cl t)]; exact hr.t.tmps t ht
      · intro t; exact closed_mono (by simp only; omega) _ (hr.t.cl t)
      · have h2 := hj.h.store (i := x.n + 1) (o := .obj (.loop r)) (by simp [hget_cons]) (.obj (.loop r')) trivial
        rw [hj.fix _ (by omega), hbn1] at h2
        refine hfixC (h2.weakH (x := ⟨[], Nn s, _, Bs s, []⟩) (y := ⟨[], Nn s, (x.n + 1, none) :: (x.n, some (.obj (.deferred (some [])))) :: Hs s, Bs s, []⟩) ⟨fun _ => .inl rfl, ?_, fun t => by simp [tget, closed], ?_, by rw [hCjl]; exact hn, rfl, rfl, by simp⟩)
        · intro i o hi
          simp only [hget_cons] at hi ⊢
          by_cases e : x.n + 1 = i
          · simp [e] at hi
          · simpa [e] using hi
        · intro i o hi
          simp only [hget_cons] at hi
          by_cases e : x.n + 1 = i
          · simp [e] at hi
          · have hh : hget ((x.n + 1, some (EObj.obj (.loop r))) :: (x.n, some (EObj.obj (.deferred (some [])))) :: Hs s) i = some o := by
              simpa [hget_cons, e] using hi
            exact ⟨(hj.h.live i o hh).1, hj.h.cl i o hh⟩
    rcases hJ with ⟨s, bs', hIs, hj⟩ | ⟨k, c, s, bs', hIs, hj⟩
    · obtain ⟨hl, hR⟩ := aft _ s bs' (hNn.1 _ _ hIs) hj
      refine ⟨_, _, run_endLoop hl (by rw [hrec]; simp), ?_⟩
      have : (rec .ready none).pending = none := by rw [hrec]
      rw [this]
      exact hdone s hIs hst bs' _ _ (hR _)
    · obtain ⟨hl, hR⟩ := aft _ s bs' (hNn.2 _ _ hIs) hj
      refine ⟨_, _, run_endLoop hl (by rw [hrec]; simp), ?_⟩
      have : (rec .done (some c)).pending = some c := by rw [hrec]
      rw [this]
      rcases hIx c s hIs with rfl | ⟨id, rfl⟩
      · exact wpIn_ret (contS_exits hst (P := fun _ => False) (hR _) (hret s hIs) (by simp))
      · exact wpIn_exit (contS_exits hst (P := fun _ => False) (hR _) (hexit id s hIs) (by simp))
end Go.Ew
