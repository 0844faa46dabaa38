/- Part of a proof over the seat YthknokcfmpahcaaDoor. -/
import Derived.Test.YthknokcfmpahcaaDoorLE
set_option linter.unusedSimpArgs false
set_option linter.unusedVariables false
namespace Go.Ew
open Go RowKit
/-! ### rules for the stops of a tree's walk -/
theorem callB_p {C : Cx} {K : X → Prop} {f : FuncId} {args : List EV} {dst : Option Tmp} {x : X} {v : EV} (h : Pure C.P f args v) (hk : K { σ := put x.σ dst v, n := x.n, hs := x.hs, B := x.B, ms := x.ms }) : CallB C f args dst x K := by
  refine ⟨h.en, fun bs w hh _ => (h.run bs w).mono ?_⟩
  rintro e w' ⟨rfl, hb⟩
  exact ⟨v, x.n, x.hs, x.B, bs, rfl, fun _ _ => rfl, Nat.le_refl _, closed_mono (Nat.zero_le _) _ h.cl, hh.later hb, hk⟩
theorem callT_p {C : Cx} {Q : Exit → X → Prop} {ops : List Oper} {st : List It} {f : FuncId} {args : List EV} {acc : List Nd} {i : Nat} {o : Oper} {ord : List Nat} {x : X} {v : EV} (h : Pure C.P f args v) (hdep : depL ops [i] ord = true)
    (hck : Ck ((i, o, { dst := o.dst, v := v, ups := [], a := 0, looks := opLooks o.op ++ gLook ops o.guard, foot := [] }, true) :: acc).reverse)
    (hk : allIn C.N ops = true → DT C Q ops st ((i, o, { dst := o.dst, v := v, ups := [], a := 0, looks := opLooks o.op ++ gLook ops o.guard, foot := [] }, true) :: acc) ord { σ := put x.σ o.dst v, n := x.n, hs := x.hs, B := x.B, ms := x.ms }) : callT C Q ops st f args acc i o ord x := by
  refine ⟨true, { dst := o.dst, v := v, ups := [], a := 0, looks := opLooks o.op ++ gLook ops o.guard, foot := [] }, Unit, fun _ => { dst := o.dst, v := v, ups := [], a := 0, looks := opLooks o.op ++ gLook ops o.guard, foot := [] }, fun _ _ => True, fun t h => h, fun y hy => .inl (callB_p h ⟨(), y.B, rfl, trivial, Alike.rfl' _⟩), hdep, hck, fun _ => ⟨rfl, rfl, rfl, rfl, rfl, rfl⟩, fun hin s B' hB _ => ?_⟩
  have hB : B' = x.B := hB
  subst hB
  exact hk hin
theorem callT_e {C : Cx} {Q : Exit → X → Prop} {ops : List Oper} {st : List It} {f : FuncId} {args : List EV} {acc : List Nd} {i : Nat} {o : Oper} {ord : List Nat} {x : X} {v : EV} (h : Ext C.P f args v) (hdep : depL ops [i] ord = true)
    (hck : Ck ((i, o, { dst := o.dst, v := v, ups := [], a := 0, looks := opLooks o.op ++ gLook ops o.guard, foot := [] }, true) :: acc).reverse)
    (hk : allIn C.N ops = true → DT C Q ops st ((i, o, { dst := o.dst, v := v, ups := [], a := 0, looks := opLooks o.op ++ gLook ops o.guard, foot := [] }, true) :: acc) ord { σ := put x.σ o.dst v, n := x.n, hs := x.hs, B := x.B, ms := x.ms }) : callT C Q ops st f args acc i o ord x := by
  refine ⟨true, { dst := o.dst, v := v, ups := [], a := 0, looks := opLooks o.op ++ gLook ops o.guard, foot := [] }, Unit, fun _ => { dst := o.dst, v := v, ups := [], a := 0, looks := opLooks o.op ++ gLook ops o.guard, foot := [] }, fun _ _ => True, fun t h => h,
    fun y hy => .inr ⟨v, closed_mono (Nat.zero_le _) _ h.1, h.2, (), y.B, rfl, trivial, Alike.rfl' _⟩, hdep, hck, fun _ => ⟨rfl, rfl, rfl, rfl, rfl, rfl⟩, fun hin s B' hB _ => ?_⟩
  have hB : B' = x.B := hB
  subst hB
  exact hk hin
theorem callT_f {C : Cx} {Q : Exit → X → Prop} {ops : List Oper} {st : List It} {f : FuncId} {args : List EV} {acc : List Nd} {i : Nat} {o : Oper} {ord : List Nat} {x : X} {S : Type} {vf : S → EV} {R : S → Base → Prop} (h : Does C.P f args x.B vf R) (hv : ∀ s, closed 0 (vf s)) (hdep : depL ops [i] ord = true)
    (hck : Ck ((i, o, { dst := o.dst, v := .any, ups := [], a := 0, looks := opLooks o.op ++ gLook ops o.guard, foot := [] }, true) :: acc).reverse)
    (hk : allIn C.N ops = true → ∀ s B', BExt x.B B' → R s B' → DT C Q ops st ((i, o, { dst := o.dst, v := vf s, ups := [], a := 0, looks := opLooks o.op ++ gLook ops o.guard, foot := [] }, true) :: acc) ord { σ := put x.σ o.dst (vf s), n := x.n, hs := x.hs, B := B', ms := x.ms }) : callT C Q ops st f args acc i o ord x :=
  ⟨false, { dst := o.dst, v := .any, ups := [], a := 0, looks := opLooks o.op ++ gLook ops o.guard, foot := [] }, S, fun s => { dst := o.dst, v := vf s, ups := [], a := 0, looks := opLooks o.op ++ gLook ops o.guard, foot := [] }, R, fun t h => h,
    fun y hy => .inl (callB_f h hy.B hv (fun s B' hB hR => ⟨s, B', hB, hR, Alike.rfl' _⟩)), hdep, hck, fun _ => ⟨rfl, rfl, rfl, rfl, rfl, rfl⟩, fun hin s B' hB hR => hk hin s B' hB hR⟩
theorem goes_of_opS {C : Cx} {o : Oper} {x : X} {K : X → Prop} (h : opS C (fun e z => e = .normal ∧ K z) o [] x) (hd : dstIn C.N o.dst = true) : Goes C o x K := by
  intro bs a w hr Q
  refine Oper.wpIn_mono ?_ (h hd bs a w hr Q)
  rintro a' w' ⟨x', bs', hr', hn⟩
  obtain ⟨z, bs'', h1, _, h2⟩ := hn trivial bs' a' w' hr'
  exact ⟨z, bs'', h1, h2⟩
mutual
theorem ren_av {ρ : Nat → Nat} {r : Nat} (h : ∀ i, i ≠ r → ρ i = i) : ∀ v, av r v → ren ρ v = v
  | .any, _ | .int _ _, _ | .bool _, _ | .str _, _ | .raw _, _ => rfl
  | .ptr i _, hv => by simp only [av] at hv; simp [ren, h i hv]
  | .sl i _ _ _, hv => by simp only [av] at hv; simp [ren, h i hv]
  | .mp i, hv => by simp only [av] at hv; simp [ren, h i hv]
  | .fn _ a b, hv => by simp only [av] at hv; simp [ren, rens_av h a hv.1, rens_av h b hv.2]
  | .agg cs, hv => by simp only [av] at hv; simp [ren, rens_av h cs hv]
  | .tup vs, hv => by simp only [av] at hv; simp [ren, rens_av h vs hv]
  | .ifc _ v, hv => by simp only [av] at hv; simp [ren, ren_av h v hv]
theorem rens_av {ρ : Nat → Nat} {r : Nat} (h : ∀ i, i ≠ r → ρ i = i) : ∀ l, avs r l → rens ρ l = l
  | [], _ => rfl
  | v :: vs, hv => by simp only [avs] at hv; simp [rens, ren_av h v hv.1, rens_av h vs hv.2]
end
theorem EObj.ren_av {ρ : Nat → Nat} {r : Nat} (h : ∀ i, i ≠ r → ρ i = i) (o : EObj) (hv : o.av r) : o.ren ρ = o := by
  cases o with
  | cells cs T fr => simp only [EObj.ren, rens_av h cs hv]
  | obj o => rfl
theorem lE_ren (ρ : Nat → Nat) (r len : Nat) (l : Lst) : ren ρ (lE r len l) = lE (ρ r) len l := by cases l <;> rfl
theorem lE_closed {n r len : Nat} {l : Lst} (h : r < n) : closed n (lE r len l) := by cases l <;> simp [lE, closed, h]
theorem lO_closed {T : TypeId} {xs zs : List EV} {len : Nat} {l : Lst} {o : EObj} {n : Nat} (hl : lOk zs len l) (hx : closeds 0 xs) (hz : closeds 0 zs) (h : lO T xs l = some o) : o.closed n ∧ o.closed 0 := by
  cases l with
  | none => cases h
  | some p =>
    obtain ⟨cap, rest⟩ := p
    simp only [lO, Option.some.injEq] at h
    subst h
    have h0 : closeds 0 (xs ++ rest) := closeds_append.2 ⟨hx, by rw [closeds_iff] at hz ⊢; exact fun v hv => hz v (hl.2.2.2 v hv)⟩
    exact ⟨closeds_mono (Nat.zero_le _) _ h0, h0⟩
/-- append, its block under the name r'. -/
theorem append_goes {C : Cx} {o : Oper} {x : X} {a b : Operand} {t t2 T : TypeId} (r' r len : Nat) {l : Lst} {xs : List EV} {m : Nat} {b' : EV} {news zs : List EV} {c : Prop}
    (hop : o.op = .call { callee := .builtin .append, args := #[a, b], argTypes := #[t, t2] })
    (ht : C.P.underlying t = some (.slice T)) (ht2 : (∃ e', C.P.underlying t2 = some (.slice e')) ∨ C.P.underlying t2 = some .string)
    (hz : zeroOf C.P T = some zs) (hcz : C.P.cellsOf T = zs.length) (hzne : zs ≠ []) (hz0 : closeds 0 zs)
    (ha : ev x.σ a = lE r len l) (hb : ev x.σ b = b') (hg : hget x.hs r = lO T xs l) (hl : lOk zs len l) (hx : xs.length = len * zs.length) (hx0 : closeds 0 xs)
    (hsrc : srcOf x.B x.hs zs.length b' = some (m, news, c)) (hc : c) (hone : oneAll news = true) (hn0 : closeds 0 news)
    (hmax : len + m ≤ maxLen) (hby : (len + m) * C.P.bytesOf T ≤ 140737488355328) (hd : dstIn C.N o.dst = true) (hav : Av r' x) (hold : C.olds.length ≤ r') :
    Goes C o x (fun z => ∃ l', lOk zs (len + m) l' ∧ Alike z { σ := put x.σ o.dst (lE r' (len + m) l'), n := x.n, hs := (r', lO T (xs ++ news) l') :: (r, none) :: x.hs, B := x.B, ms := x.ms }) := by
  intro bs0 a0 w0 hr0 Q0
  refine goes_of_opS (K := fun z => ∃ l', lOk zs (len + m) l' ∧ Alike z { σ := put x.σ o.dst (lE r' (len + m) l'), n := x.n, hs := (r', lO T (xs ++ news) l') :: (r, none) :: x.hs, B := x.B, ms := x.ms }) ?_ hd bs0 a0 w0 hr0 Q0
  refine appendS r len xs hop ht ht2 hz hcz hzne ha hb (by rw [hg]; exact lst_own hl hx (closeds_mono (Nat.zero_le _) _ hx0) (closeds_mono (Nat.zero_le _) _ hz0)) hsrc hc hone hmax hby (fun e' oo' hO => ?_)
  obtain ⟨l', rfl, rfl, hl', hx', hc'⟩ := own_lst hO
  intro _ bs ac w hr
  have hxn0 : closeds 0 (xs ++ news) := closeds_append.2 ⟨hx0, hn0⟩
  have hρ : ∀ i, i ≠ r' → (fun i => if i = r' then x.n else i) i = i := fun i hi => if_neg hi
  have hw : WeakR C (fun i => if i = r' then x.n else i) { σ := put x.σ o.dst (lE x.n (len + m) l'), n := x.n + 1, hs := (x.n, lO T (xs ++ news) l') :: (r, none) :: x.hs, B := x.B, ms := x.ms }
      { σ := put x.σ o.dst (lE r' (len + m) l'), n := x.n, hs := (r', lO T (xs ++ news) l') :: (r, none) :: x.hs, B := x.B, ms := x.ms } := by
    have hlive : ∀ i o', hget ((r', lO T (xs ++ news) l') :: (r, none) :: x.hs) i = some o' → (i = r' ∧ lO T (xs ++ news) l' = some o') ∨ (i ≠ r' ∧ i ≠ r ∧ hget x.hs i = some o') := by
      intro i o' hi
      rw [hget_cons] at hi
      by_cases e : r' = i
      · rw [if_pos e] at hi; exact .inl ⟨e.symm, hi⟩
      · rw [if_neg e, hget_cons] at hi
        by_cases e2 : r = i
        · rw [if_pos e2] at hi; cases hi
        · rw [if_neg e2] at hi; exact .inr ⟨Ne.symm e, Ne.symm e2, hi⟩
    refine ⟨fun t => .inr ?_, fun i o' hi => ?_, fun t => ?_, fun i o' hi => ?_, fun i j oi oj hi hj hij => ?_, ?_, fun i hi => ?_, rfl, ?_, hr0.t.msin⟩
    · simp only [tget_put]
      split
      · rw [lE_ren]; simp
      · exact ren_av hρ _ (hav.σ t)
    · rcases hlive i o' hi with ⟨rfl, h1⟩ | ⟨h1, h2, h3⟩
      · simp only [if_true, hget_cons, h1]
        congr 1
        exact (EObj.ren_id (n := 0) (fun i hi => absurd hi (Nat.not_lt_zero i)) o' (lO_closed (n := 0) hl' hxn0 hz0 h1).2).symm
      · have hlt := (hr0.h.live i o' h3).1
        simp only [if_neg h1, hget_cons]
        rw [if_neg (by omega), if_neg (Ne.symm h2), h3]
        congr 1
        exact (EObj.ren_av hρ o' (hav.hs i o' h3).2).symm
    · simp only [tget_put]
      split
      · exact lE_closed hav.n
      · exact hr0.t.cl t
    · rcases hlive i o' hi with ⟨rfl, h1⟩ | ⟨h1, h2, h3⟩
      · exact ⟨hav.n, (lO_closed hl' hxn0 hz0 h1).1⟩
      · exact ⟨(hr0.h.live i o' h3).1, hr0.h.cl i o' h3⟩
    · rcases hlive i oi hi with ⟨rfl, h1⟩ | ⟨h1, h2, h3⟩ <;> rcases hlive j oj hj with ⟨rfl, k1⟩ | ⟨k1, k2, k3⟩
      · rfl
      · have := (hr0.h.live j oj k3).1
        simp only [if_true, if_neg k1] at hij; omega
      · have := (hr0.h.live i oi h3).1
        simp only [if_true, if_neg h1] at hij; omega
      · simpa only [if_neg h1, if_neg k1] using hij
    · have := hav.n; show C.olds.length ≤ x.n; omega
    · show (if i = r' then x.n else i) = i; rw [if_neg (by omega)]
    · simp only
      conv => lhs; rw [← List.map_id x.ms]
      refine List.map_congr_left fun i hi => ?_
      have : i ≠ r' := fun e => hav.ms (e ▸ hi)
      simp [this]
  obtain ⟨bs', hr'⟩ := hw.sub bs ac w hr
  exact ⟨_, bs', hr', rfl, l', hl', Alike.rfl' _⟩
/-- append in a region that draws its order. -/
theorem appT {C : Cx} {Q : Exit → X → Prop} {ops : List Oper} {st : List It} {acc : List Nd} {i : Nat} {o : Oper} {ord : List Nat} {x : X} {ta : Nat} {tb : Nat} {t t2 T : TypeId} (d r len : Nat) {l : Lst} {xs : List EV} {m : Nat} {b' : EV} {news zs : List EV} {c : Prop} (fb : List Nat)
    (hop : o.op = .call { callee := .builtin .append, args := #[.tmp ta, .tmp tb], argTypes := #[t, t2] }) (hdst : o.dst = some d)
    (ht : C.P.underlying t = some (.slice T)) (ht2 : (∃ e', C.P.underlying t2 = some (.slice e')) ∨ C.P.underlying t2 = some .string)
    (hz : zeroOf C.P T = some zs) (hcz : C.P.cellsOf T = zs.length) (hzne : zs ≠ []) (hz0 : closeds 0 zs)
    (ha : tget x.σ ta = lE r len l) (hb : tget x.σ tb = b') (hg : hget x.hs r = lO T xs l) (hl : lOk zs len l) (hx : xs.length = len * zs.length) (hx0 : closeds 0 xs)
    (hsrc : ∀ B hs, BExt x.B B → (∀ i ∈ fb, hget hs i = hget x.hs i) → ∃ c, srcOf B hs zs.length b' = some (m, news, c) ∧ c) (hone : oneAll news = true) (hn0 : closeds 0 news)
    (hmax : len + m ≤ maxLen) (hby : (len + m) * C.P.bytesOf T ≤ 140737488355328) (hold : C.olds.length ≤ 100000 + d) (hdep : depL ops [i] ord = true)
    (hck : Ck ((i, o, { dst := o.dst, v := .any, ups := [(100000 + d, none), (r, none)], a := 0, looks := [ta, tb] ++ gLook ops o.guard, foot := r :: fb, nm := [100000 + d] }, true) :: acc).reverse)
    (hk : ∀ l', lOk zs (len + m) l' → DT C Q ops st ((i, o, { dst := o.dst, v := lE (100000 + d) (len + m) l', ups := [(100000 + d, lO T (xs ++ news) l'), (r, none)], a := 0, looks := [ta, tb] ++ gLook ops o.guard, foot := r :: fb, nm := [100000 + d] }, true) :: acc) ord
      { σ := put x.σ o.dst (lE (100000 + d) (len + m) l'), n := x.n, hs := (100000 + d, lO T (xs ++ news) l') :: (r, none) :: x.hs, B := x.B, ms := x.ms }) : specT C Q ops st acc i o ord x := by
  intro ho hrun hd hin
  refine dt_fam (sm := true) (S := Lst) (R := fun l' _ => lOk zs (len + m) l') ho hd hdep (locB_of_goes (fun t ht => by simp [ht]) hrun (K := fun y z => ∃ s B', Gon true y.B B' ∧ lOk zs (len + m) s ∧ Alike z (Ef.appB { dst := o.dst, v := lE (100000 + d) (len + m) s, ups := [(100000 + d, lO T (xs ++ news) s), (r, none)], a := 0, looks := [ta, tb] ++ gLook ops o.guard, foot := r :: fb, nm := [100000 + d] } B' y)) (fun y hy => ?_)) hck (fun _ => ⟨rfl, rfl, rfl, rfl, rfl, rfl⟩) (fun s B' hB hR => ?_)
  · obtain ⟨c', hs1, hs2⟩ := hsrc y.B y.hs hy.B (fun j hj => hy.hs j (List.mem_cons_of_mem _ hj))
    refine goes_mono (append_goes (100000 + d) r len hop ht ht2 hz hcz hzne hz0 (a := .tmp ta) (b := .tmp tb) (x := y) (by simp only [ev]; rw [hy.σ ta (by simp)]; exact ha) (by simp only [ev]; rw [hy.σ tb (by simp)]; exact hb) (by rw [hy.hs r (by simp)]; exact hg) hl hx hx0 hs1 hs2 hone hn0 hmax hby hd (hy.nm _ (by simp)) hold) ?_
    rintro z ⟨l', h1, h2⟩
    exact ⟨l', y.B, rfl, h1, h2⟩
  · have hB : B' = x.B := hB
    subst hB
    exact hk s hR
/-- append to a list of one's own. -/
theorem appendL {C : Cx} {Q : Exit → X → Prop} {o : Oper} {st : List It} {x : X} {a b : Operand} {t t2 T : TypeId} (r len : Nat) {l : Lst} {xs : List EV} {m : Nat} {b' : EV} {news zs : List EV} {c : Prop}
    (hop : o.op = .call { callee := .builtin .append, args := #[a, b], argTypes := #[t, t2] })
    (ht : C.P.underlying t = some (.slice T)) (ht2 : (∃ e', C.P.underlying t2 = some (.slice e')) ∨ C.P.underlying t2 = some .string)
    (hz : zeroOf C.P T = some zs) (hcz : C.P.cellsOf T = zs.length) (hzne : zs ≠ []) (hz0 : closeds 0 zs)
    (ha : ev x.σ a = lE r len l) (hb : ev x.σ b = b') (hg : hget x.hs r = lO T xs l) (hl : lOk zs len l) (hx : xs.length = len * zs.length) (hx0 : closeds 0 xs)
    (hsrc : srcOf x.B x.hs zs.length b' = some (m, news, c)) (hc : c) (hone : oneAll news = true)
    (hmax : len + m ≤ maxLen) (hby : (len + m) * C.P.bytesOf T ≤ 140737488355328)
    (hk : ∀ l', lOk zs (len + m) l' → Next C Q st { σ := put x.σ o.dst (lE x.n (len + m) l'), n := x.n + 1, hs := (x.n, lO T (xs ++ news) l') :: (r, none) :: x.hs, B := x.B, ms := x.ms }) : opS C Q o st x := by
  refine appendS r len xs hop ht ht2 hz hcz hzne ha hb (by rw [hg]; exact lst_own hl hx (closeds_mono (Nat.zero_le _) _ hx0) (closeds_mono (Nat.zero_le _) _ hz0)) hsrc hc hone hmax hby (fun e' oo' hO => ?_)
  obtain ⟨l', rfl, rfl, hl', hx', hc'⟩ := own_lst hO
  exact hk l' hl'
/-! ### names made small again -/
def idxN (i : Nat) : List Nat → Nat → Option Nat
  | [], _ => none
  | j :: r, k => bif Nat.beq j i then some k else idxN i r (k + 1)
/-- The new name of i: below k it stays; one of the kept ones gets a name from k on. -/
def cmp (ks : List Nat) (k i : Nat) : Option Nat := if i < k then some i else idxN i ks k
mutual
def okC (ks : List Nat) (k : Nat) : EV → Bool
  | .ptr i _ => (cmp ks k i).isSome
  | .sl i _ _ _ => (cmp ks k i).isSome
  | .mp i => (cmp ks k i).isSome
  | .fn _ a b => okCs ks k a && okCs ks k b
  | .agg cs => okCs ks k cs
  | .tup vs => okCs ks k vs
  | .ifc _ v => okC ks k v
  | _ => true
def okCs (ks : List Nat) (k : Nat) : List EV → Bool
  | [] => true
  | v :: vs => okC ks k v && okCs ks k vs
end
def cmpF (ks : List Nat) (k : Nat) (i : Nat) : Nat := (cmp ks k i).getD 0
theorem idxN_spec : ∀ {l : List Nat} {i k p : Nat}, idxN i l k = some p → k ≤ p ∧ p < k + l.length ∧ l[p - k]? = some i
  | [], i, k, p, h => by cases h
  | j :: r, i, k, p, h => by
    simp only [idxN] at h
    cases hb : Nat.beq j i with
    | true =>
      rw [hb] at h
      simp only [cond_true, Option.some.injEq] at h
      subst h
      have := Nat.eq_of_beq_eq_true hb
      subst this
      exact ⟨Nat.le_refl _, by simp, by simp⟩
    | false =>
      rw [hb] at h
      simp only [cond_false] at h
      obtain ⟨h1, h2, h3⟩ := idxN_spec h
      refine ⟨by omega, by simp; omega, ?_⟩
      rw [show p - k = (p - (k + 1)) + 1 by omega]
      simpa using h3
/-- Where a small name comes from. -/
def uncmp (ks : List Nat) (k : Nat) (bs : Nat → Nat) : Nat → Nat := fun i => if i < k then bs i else bs (ks.getD (i - k) 0)
theorem cmp_spec {ks : List Nat} {k i p : Nat} (h : cmp ks k i = some p) : p < k + ks.length ∧ ∀ bs, uncmp ks k bs p = bs i := by
  unfold cmp at h
  split at h
  · rename_i hlt
    simp only [Option.some.injEq] at h
    subst h
    exact ⟨by omega, fun bs => if_pos hlt⟩
  · obtain ⟨h1, h2, h3⟩ := idxN_spec h
    refine ⟨h2, fun bs => ?_⟩
    unfold uncmp
    rw [if_neg (by omega), List.getD_eq_getElem?_getD, h3]; rfl
mutual
theorem real_cmp {ks : List Nat} {k : Nat} (bs : Nat → Nat) : ∀ v, okC ks k v = true → real (uncmp ks k bs) (ren (cmpF ks k) v) = real bs v ∧ closed (k + ks.length) (ren (cmpF ks k) v)
  | .any, _ | .int _ _, _ | .bool _, _ | .str _, _ | .raw _, _ => ⟨rfl, trivial⟩
  | .ptr i _, h => by
    simp only [okC] at h
    obtain ⟨p, hp⟩ := Option.isSome_iff_exists.1 h
    obtain ⟨h1, h2⟩ := cmp_spec hp
    simp [ren, real, closed, cmpF, hp, h1, h2]
  | .sl i _ _ _, h => by
    simp only [okC] at h
    obtain ⟨p, hp⟩ := Option.isSome_iff_exists.1 h
    obtain ⟨h1, h2⟩ := cmp_spec hp
    simp [ren, real, closed, cmpF, hp, h1, h2]
  | .mp i, h => by
    simp only [okC] at h
    obtain ⟨p, hp⟩ := Option.isSome_iff_exists.1 h
    obtain ⟨h1, h2⟩ := cmp_spec hp
    simp [ren, real, closed, cmpF, hp, h1, h2]
  | .fn _ a b, h => by
    simp only [okC, Bool.and_eq_true] at h
    obtain ⟨a1, a2⟩ := reals_cmp bs a h.1
    obtain ⟨b1, b2⟩ := reals_cmp bs b h.2
    simp [ren, real, closed, a1, a2, b1, b2]
  | .agg cs, h => by
    simp only [okC] at h
    obtain ⟨a1, a2⟩ := reals_cmp bs cs h
    simp [ren, real, closed, a1, a2]
  | .tup vs, h => by
    simp only [okC] at h
    obtain ⟨a1, a2⟩ := reals_cmp bs vs h
    simp [ren, real, closed, a1, a2]
  | .ifc _ v, h => by
    simp only [okC] at h
    obtain ⟨a1, a2⟩ := real_cmp bs v h
    simp [ren, real, closed, a1, a2]
theorem reals_cmp {ks : List Nat} {k : Nat} (bs : Nat → Nat) : ∀ l, okCs ks k l = true → reals (uncmp ks k bs) (rens (cmpF ks k) l) = reals bs l ∧ closeds (k + ks.length) (rens (cmpF ks k) l)
  | [], _ => ⟨rfl, trivial⟩
  | v :: vs, h => by
    simp only [okCs, Bool.and_eq_true] at h
    obtain ⟨a1, a2⟩ := real_cmp bs v h.1
    obtain ⟨b1, b2⟩ := reals_cmp bs vs h.2
    simp [rens, reals, closeds, a1, a2, b1, b2]
end
def okE (ks : List Nat) (k : Nat) : EObj → Bool
  | .cells cs _ _ => okCs ks k cs
  | .obj _ => true
theorem EObj.real_cmp {ks : List Nat} {k : Nat} (bs : Nat → Nat) (o : EObj) (h : okE ks k o = true) : (o.ren (cmpF ks k)).real (uncmp ks k bs) = o.real bs ∧ (o.ren (cmpF ks k)).closed (k + ks.length) := by
  cases o with
  | cells cs T fr =>
    obtain ⟨a1, a2⟩ := reals_cmp bs cs h
    simp [EObj.ren, EObj.real, EObj.closed, a1, a2]
  | obj o => simp [EObj.ren, EObj.real, EObj.closed]
def pkσ (ks : List Nat) (k : Nat) : List (Nat × EV) → List (Nat × EV)
  | [] => []
  | (t, v) :: r => (t, match okC ks k v with
    | true => ren (cmpF ks k) v
    | false => .any) :: pkσ ks k r
def pkO (ks : List Nat) (k : Nat) : Option EObj → Option EObj
  | none => none
  | some o => match okE ks k o with
    | true => some (o.ren (cmpF ks k))
    | false => none
def pkh (ks : List Nat) (k : Nat) : List (Nat × Option EObj) → List (Nat × Option EObj)
  | [] => []
  | (i, o) :: r => match cmp ks k i with
    | some p => (p, pkO ks k o) :: pkh ks k r
    | none => pkh ks k r
theorem tget_pkσ (ks : List Nat) (k : Nat) : ∀ (σ : List (Nat × EV)) (t : Nat), tget (pkσ ks k σ) t = (match okC ks k (tget σ t) with
    | true => ren (cmpF ks k) (tget σ t)
    | false => .any)
  | [], t => rfl
  | (t', v) :: r, t => by
    simp only [pkσ, tget]
    cases hb : (t' == t) with
    | true => simp only [cond_true]
    | false => simp only [cond_false]; exact tget_pkσ ks k r t
theorem hget_pkh {ks : List Nat} {k : Nat} (hnd : ks.Nodup) (hge : ∀ i ∈ ks, k ≤ i) : ∀ {hs : List (Nat × Option EObj)} {j : Nat} {o : EObj}, hget (pkh ks k hs) j = some o → ∃ i o', cmp ks k i = some j ∧ hget hs i = some o' ∧ okE ks k o' = true ∧ o = o'.ren (cmpF ks k)
  | [], j, o, h => by cases h
  | (i, oo) :: r, j, o, h => by
    have inj : ∀ i i' p, cmp ks k i = some p → cmp ks k i' = some p → i = i' := by
      intro i i' p h1 h2
      have e := (cmp_spec h1).2 (fun q => q)
      rw [(cmp_spec h2).2 (fun q => q)] at e
      exact e.symm
    simp only [pkh] at h
    cases hc : cmp ks k i with
    | none =>
      rw [hc] at h
      obtain ⟨i', o', h1, h2, h3, h4⟩ := hget_pkh hnd hge h
      refine ⟨i', o', h1, ?_, h3, h4⟩
      rw [hget_cons, if_neg (by rintro rfl; rw [hc] at h1; cases h1)]; exact h2
    | some p =>
      rw [hc] at h
      simp only at h
      rw [hget_cons] at h
      by_cases e : p = j
      · subst e
        rw [if_pos rfl] at h
        cases oo with
        | none => cases h
        | some o' =>
          simp only [pkO] at h
          cases hk : okE ks k o' with
          | false => rw [hk] at h; cases h
          | true =>
            rw [hk] at h
            simp only [Option.some.injEq] at h
            exact ⟨i, o', hc, by rw [hget_cons, if_pos rfl], hk, h.symm⟩
      · rw [if_neg e] at h
        obtain ⟨i', o', h1, h2, h3, h4⟩ := hget_pkh hnd hge h
        refine ⟨i', o', h1, ?_, h3, h4⟩
        rw [hget_cons, if_neg (by rintro rfl; rw [hc] at h1; exact e (Option.some.inj h1))]; exact h2
theorem packS {C : Cx} {Q : Exit → X → Prop} {st : List It} {x : X} (ks : List Nat) (k : Nat) (hnd : ks.Nodup) (hge : ∀ i ∈ ks, k ≤ i) (hold : C.olds.length ≤ k) (hms : ∀ i ∈ x.ms, i < k)
    (hk : Next C Q st ⟨pkσ ks k x.σ, k + ks.length, pkh ks k x.hs, x.B, x.ms⟩) : Next C Q st x := by
  intro hst bs a w hr
  refine hk hst (uncmp ks k bs) a w ⟨⟨hr.t.size, ?_, fun i hi => Nat.lt_of_lt_of_le (hms i hi) (Nat.le_add_right _ _), fun t ht => ?_, fun t => ?_⟩, ?_⟩
  · rw [hr.t.defers]
    exact List.map_congr_left fun i hi => by unfold uncmp; rw [if_pos (hms i hi)]
  · simp only at ht ⊢
    rw [tget_pkσ] at ht ⊢
    cases ho : okC ks k (tget x.σ t) with
    | false => rw [ho] at ht; exact absurd rfl ht
    | true =>
      rw [ho] at ht
      simp only
      rw [(real_cmp bs _ ho).1]
      refine hr.t.tmps t (fun e => ht ?_)
      rw [e]; rfl
  · simp only
    rw [tget_pkσ]
    cases ho : okC ks k (tget x.σ t) with
    | false => trivial
    | true => exact (real_cmp bs _ ho).2
  · have key := fun j o (h : hget (pkh ks k x.hs) j = some o) => hget_pkh hnd hge h
    refine ⟨fun j o hj => ?_, fun j o hj => ?_, fun i j oi oj hi hj hb => ?_, fun i b hi => ?_, fun j o hj => ?_, hr.h.frame, hr.h.os, hr.h.tape, hr.h.output, hr.h.hsize, fun j o hj => ?_, hr.h.frameE, hr.h.apart, hr.h.eo⟩
    · obtain ⟨i, o', h1, h2, h3, rfl⟩ := key j o hj
      obtain ⟨h4, h5⟩ := cmp_spec h1
      rw [h5, (EObj.real_cmp bs o' h3).1]
      exact ⟨h4, (hr.h.live i o' h2).2⟩
    · obtain ⟨i, o', h1, h2, h3, rfl⟩ := key j o hj
      exact (EObj.real_cmp bs o' h3).2
    · obtain ⟨i', o', h1, h2, h3, rfl⟩ := key i oi hi
      obtain ⟨j', p', k1, k2, k3, rfl⟩ := key j oj hj
      rw [(cmp_spec h1).2, (cmp_spec k1).2] at hb
      have := hr.h.inj i' j' o' p' h2 k2 hb
      subst this
      rw [h1] at k1; exact Option.some.inj k1
    · obtain ⟨h1, h2⟩ := hr.h.old i b hi
      have hik : i < k := by
        have : i < C.olds.length := by
          rcases Nat.lt_or_ge i C.olds.length with h | h
          · exact h
          · rw [List.getElem?_eq_none h] at hi; cases hi
        omega
      exact ⟨by unfold uncmp; rw [if_pos hik]; exact h1, by simp only; omega⟩
    · obtain ⟨i, o', h1, h2, h3, rfl⟩ := key j o hj
      rw [(cmp_spec h1).2]; exact hr.h.new i o' h2
    · obtain ⟨i, o', h1, h2, h3, rfl⟩ := key j o hj
      rw [(cmp_spec h1).2]; exact hr.h.newE i o' h2
theorem okC_lE {ks : List Nat} {k r len : Nat} {l : Lst} (h : (cmp ks k r).isSome = true) : okC ks k (lE r len l) = true := by cases l <;> simp [lE, okC, h]
mutual
theorem okC_closed {ks : List Nat} {k n : Nat} (hn : n ≤ k) : ∀ v, closed n v → okC ks k v = true
  | .any, _ | .int _ _, _ | .bool _, _ | .str _, _ | .raw _, _ => rfl
  | .ptr i _, h => by simp only [closed] at h; simp [okC, cmp, show i < k by omega]
  | .sl i _ _ _, h => by simp only [closed] at h; simp [okC, cmp, show i < k by omega]
  | .mp i, h => by simp only [closed] at h; simp [okC, cmp, show i < k by omega]
  | .fn _ a b, h => by simp only [closed] at h; simp [okC, okCs_closed hn a h.1, okCs_closed hn b h.2]
  | .agg cs, h => by simp only [closed] at h; simp [okC, okCs_closed hn cs h]
  | .tup vs, h => by simp only [closed] at h; simp [okC, okCs_closed hn vs h]
  | .ifc _ v, h => by simp only [closed] at h; simp [okC, okC_closed hn v h]
theorem okCs_closed {ks : List Nat} {k n : Nat} (hn : n ≤ k) : ∀ l, closeds n l → okCs ks k l = true
  | [], _ => rfl
  | v :: vs, h => by simp only [closeds] at h; simp [okCs, okC_closed hn v h.1, okCs_closed hn vs h.2]
end
theorem pkO_lO {ks : List Nat} {k : Nat} {T : TypeId} {xs zs : List EV} {len : Nat} {l : Lst} (hl : lOk zs len l) (hx : closeds 0 xs) (hz : closeds 0 zs) : pkO ks k (lO T xs l) = lO T xs l := by
  cases h : lO T xs l with
  | none => rfl
  | some o =>
    have h0 := (lO_closed (n := 0) hl hx hz h).2
    have e1 : okE ks k o = true := by
      cases o with
      | cells cs T' fr => exact okCs_closed (Nat.zero_le _) _ h0
      | obj o => rfl
    simp only [pkO, e1]
    congr 1
    exact EObj.ren_id (n := 0) (fun i hi => absurd hi (Nat.not_lt_zero i)) o h0
theorem clO_lO {T : TypeId} {xs zs : List EV} {len : Nat} {l : Lst} {n : Nat} (hl : lOk zs len l) (hx : closeds 0 xs) (hz : closeds 0 zs) : clO n (lO T xs l) = True := by
  simp only [eq_iff_iff, iff_true]
  exact fun o' h => (lO_closed hl hx hz h).1
theorem okC_lE' {ks : List Nat} {k r len : Nat} {l : Lst} (h : (cmp ks k r).isSome = true) : okC ks k (lE r len l) = true := okC_lE h
mutual
theorem frz_closed0 {i b : Nat} : ∀ v, closed 0 v → frz i b v = v
  | .any, _ | .int _ _, _ | .bool _, _ | .str _, _ | .raw _, _ => rfl
  | .ptr i _, h => by simp [closed] at h
  | .sl i _ _ _, h => by simp [closed] at h
  | .mp i, h => by simp [closed] at h
  | .fn _ a c, h => by simp only [closed] at h; simp [frz, frzs_closed0 a h.1, frzs_closed0 c h.2]
  | .agg cs, h => by simp only [closed] at h; simp [frz, frzs_closed0 cs h]
  | .tup vs, h => by simp only [closed] at h; simp [frz, frzs_closed0 vs h]
  | .ifc _ v, h => by simp only [closed] at h; simp [frz, frz_closed0 v h]
theorem frzs_closed0 {i b : Nat} : ∀ l, closeds 0 l → frzs i b l = l
  | [], _ => rfl
  | v :: vs, h => by simp only [closeds] at h; simp [frzs, frz_closed0 v h.1, frzs_closed0 vs h.2]
end
theorem fzO_lO {i b : Nat} {T : TypeId} {xs zs : List EV} {len : Nat} {l : Lst} (hl : lOk zs len l) (hx : closeds 0 xs) (hz : closeds 0 zs) : fzO i b (lO T xs l) = lO T xs l := by
  cases h : lO T xs l with
  | none => rfl
  | some o =>
    have h0 := (lO_closed (n := 0) hl hx hz h).2
    cases o with
    | cells cs T' fr => simp only [fzO, Option.map_some, EObj.frz, frzs_closed0 cs h0]
    | obj o => rfl
theorem frz_lE {i b r len : Nat} {l : Lst} (h : r ≠ i) : frz i b (lE r len l) = lE r len l := by cases l <;> simp [lE, frz, h]
attribute [go_sem ↓] drawT opT testT_tt testT_tf testT_ft testT_ff
theorem pkO_none (ks : List Nat) (k : Nat) : pkO ks k none = none := rfl
theorem pkO_some (ks : List Nat) (k : Nat) (o : EObj) : pkO ks k (some o) = match okE ks k o with
    | true => some (o.ren (cmpF ks k))
    | false => none := rfl
theorem idxN_cons (i j : Nat) (r : List Nat) (k : Nat) : idxN i (j :: r) k = if j = i then some k else idxN i r (k + 1) := by
  simp only [idxN]
  by_cases e : j = i
  · simp [e]
  · simp [e, show Nat.beq j i = false from by rw [nat_beq_eq]; simp [e]]
theorem idxN_nil (i k : Nat) : idxN i [] k = none := rfl
attribute [go_sem] pkO_none pkO_some idxN_cons idxN_nil Nat.reduceEqDiff Option.getD_some Option.getD_none Option.isSome_none
attribute [go_sem] pkσ pkh cmpF cmp okC okCs okE cond_true cond_false lE_ren
end Go.Ew
