/- An engine for walks, part 3 of a proof over the seat Ytepabkjfnpaijaa. -/
import Derived.Test.YtepabkjfnpaijaaEng2
import Derived.Lib.BitFns
import Derived.WideKeyArr
set_option linter.unusedSimpArgs false
set_option linter.unusedVariables false
namespace Go.Ew
open Go RowKit
/-! ### functions that read some bytes of a block of one's own -/
theorem callB_ro {C : Cx} {K : X → Prop} {f : FuncId} {dst : Option Tmp} {x : X} {v : EV} {args : List EV} (j off n cap : Nat) (as : List EV) (xs : List UInt8) {cs : List EV} {T : TypeId} {fr : Nat × Nat} (hE : Enters C.P f) (hcl : closeds 0 as)
    (hargs : args = as ++ [.sl j off n cap]) (hg : hget x.hs j = some (.cells cs T fr)) (hcs : (cs.drop off).take n = xs.map bE) (hv : closed 0 v)
    (h : ∀ B ad cap, BytesAt B ad xs → Does C.P f (as ++ [.raw (.slice ad n cap)]) B (fun _ : Unit => v) (fun _ _ => True))
    (hk : K { σ := put x.σ dst v, n := x.n, hs := x.hs, B := x.B, ms := x.ms }) : CallB C f args dst x K := by
  subst hargs
  refine ⟨hE, fun bs w hh _ => ?_⟩
  have hlive := (hh.live j _ hg).2
  simp only [EObj.real] at hlive
  have e0 : reals bs (as ++ [.sl j off n cap]) = reals (fun _ => 0) (as ++ [.raw (.slice (some ⟨bs j, off, none⟩) n cap)]) := by
    have e1 := reals_closed0 bs (fun _ => 0) hcl
    rw [reals_eq, reals_eq] at e1
    rw [reals_eq, reals_eq, List.map_append, List.map_append, e1]
    rfl
  have hb : BytesAt ⟨w, fun k => x.B.D k ∨ k = bs j⟩ (some ⟨bs j, off, none⟩) xs := by
    refine ⟨?_, fun _ => rfl, fun i hi => ?_⟩
    · intro a ha _
      cases ha
      exact .inr rfl
    · have e : adrAt (some (⟨bs j, off, none⟩ : Addr)) i = ⟨bs j, off + i, none⟩ := by
        rw [adrAt_some]
        unfold Addr.add
        split
        · rename_i h0; subst h0; rfl
        · simp
      have hi' : i < xs.length := by simpa using hi
      have e3 : cs[off + i]? = (xs.map bE)[i]? := by
        have h3 := congrArg (fun l => l[i]?) hcs
        simp only [List.getElem?_take, List.getElem?_drop] at h3
        split at h3
        · exact h3
        · rw [List.getElem?_eq_getElem (by simpa using hi')] at h3; cases h3
      rw [e, cellHeap hlive, List.getElem?_toArray, reals_eq, List.getElem?_map, e3, ← List.getElem?_map, ← reals_eq, reals_bE]
  rw [e0]
  refine ((h ⟨w, fun k => x.B.D k ∨ k = bs j⟩ _ cap hb).run _ (BExt.refl _) (by
    rintro b (hb | rfl)
    · exact (hh.frame b hb).1
    · exact heap_lt hlive)).mono ?_
  rintro e w' ⟨_, bs', rfl, _, hst, _, _, _, _⟩
  refine ⟨v, x.n, x.hs, x.B, bs, by rw [real_closed0 bs' bs hv], fun _ _ => rfl, Nat.le_refl _, closed_mono (Nat.zero_le _) _ hv, hh.later ⟨hst.os, hst.tape, hst.output, hst.size, fun k hk => hst.same k ⟨hk, by simp⟩⟩, hk⟩
theorem callS_ro {C : Cx} {Q : Exit → X → Prop} {f : FuncId} {dst : Option Tmp} {st : List It} {x : X} {v : EV} {args : List EV} (j off n cap : Nat) (as : List EV) (xs : List UInt8) {cs : List EV} {T : TypeId} {fr : Nat × Nat} (hE : Enters C.P f) (hcl : closeds 0 as)
    (hargs : args = as ++ [.sl j off n cap]) (hg : hget x.hs j = some (.cells cs T fr)) (hcs : (cs.drop off).take n = xs.map bE) (hv : closed 0 v)
    (h : ∀ B ad cap, BytesAt B ad xs → Does C.P f (as ++ [.raw (.slice ad n cap)]) B (fun _ : Unit => v) (fun _ _ => True))
    (hk : Next C Q st { σ := put x.σ dst v, n := x.n, hs := x.hs, B := x.B, ms := x.ms }) : callS C Q f args dst st x := fun _ => .inr (callB_ro j off n cap as xs hE hcl hargs hg hcs hv h hk)
theorem callT_ro {C : Cx} {Q : Exit → X → Prop} {ops : List Oper} {st : List It} {f : FuncId} {acc : List Nd} {i : Nat} {o : Oper} {ord : List Nat} {x : X} {v : EV} {args : List EV} (j off n cap : Nat) (as : List EV) (xs : List UInt8) {cs : List EV} {T : TypeId} {fr : Nat × Nat} (hE : Enters C.P f) (hcl : closeds 0 as)
    (hargs : args = as ++ [.sl j off n cap]) (hg : hget x.hs j = some (.cells cs T fr)) (hcs : (cs.drop off).take n = xs.map bE) (hv : closed 0 v)
    (h : ∀ B ad cap, BytesAt B ad xs → Does C.P f (as ++ [.raw (.slice ad n cap)]) B (fun _ : Unit => v) (fun _ _ => True)) (hdep : depL ops [i] ord = true)
    (hck : Ck ((i, o, { dst := o.dst, v := v, ups := [], a := 0, looks := opLooks o.op ++ gLook ops o.guard, foot := [j] }, true) :: acc).reverse)
    (hk : allIn C.N ops = true → DT C Q ops st ((i, o, { dst := o.dst, v := v, ups := [], a := 0, looks := opLooks o.op ++ gLook ops o.guard, foot := [j] }, true) :: acc) ord { σ := put x.σ o.dst v, n := x.n, hs := x.hs, B := x.B, ms := x.ms }) : callT C Q ops st f args acc i o ord x := by
  refine ⟨true, { dst := o.dst, v := v, ups := [], a := 0, looks := opLooks o.op ++ gLook ops o.guard, foot := [j] }, Unit, fun _ => { dst := o.dst, v := v, ups := [], a := 0, looks := opLooks o.op ++ gLook ops o.guard, foot := [j] }, fun _ _ => True, fun t h => h,
    fun y hy => .inl (callB_ro j off n cap as xs hE hcl hargs (by rw [hy.hs j (by simp)]; exact hg) hcs hv h ⟨(), y.B, rfl, trivial, Alike.rfl' _⟩), hdep, hck, fun _ => ⟨rfl, rfl, rfl, rfl, rfl, rfl⟩, fun hin s B' hB _ => ?_⟩
  have hB : B' = x.B := hB
  subst hB
  exact hk hin
end Go.Ew
set_option linter.unusedSimpArgs false
set_option linter.unusedVariables false
namespace Go.Ew
open Go RowKit
/-! ### a copy of a list, made part of the base at once -/
mutual
theorem frz_closedN {i b : Nat} : ∀ v, closed i v → frz i b v = v
  | .any, _ | .int _ _, _ | .bool _, _ | .str _, _ | .raw _, _ => rfl
  | .ptr j _, h => by simp only [closed] at h; simp [frz, Nat.ne_of_lt h]
  | .sl j _ _ _, h => by simp only [closed] at h; simp [frz, Nat.ne_of_lt h]
  | .mp j, h => by simp only [closed] at h; simp [frz, Nat.ne_of_lt h]
  | .fn _ a c, h => by simp only [closed] at h; simp [frz, frzs_closedN a h.1, frzs_closedN c h.2]
  | .agg cs, h => by simp only [closed] at h; simp [frz, frzs_closedN cs h]
  | .tup vs, h => by simp only [closed] at h; simp [frz, frzs_closedN vs h]
  | .ifc _ v, h => by simp only [closed] at h; simp [frz, frz_closedN v h]
theorem frzs_closedN {i b : Nat} : ∀ l, closeds i l → frzs i b l = l
  | [], _ => rfl
  | v :: vs, h => by simp only [closeds] at h; simp [frzs, frz_closedN v h.1, frzs_closedN vs h.2]
end
theorem frzE_closedN {i b : Nat} (o : EObj) (h : o.closed i) : o.frz i b = o := by
  cases o with
  | cells cs T fr => simp only [EObj.frz, frzs_closedN cs h]
  | obj o => rfl
theorem Next.subL {C : Cx} {Q : Exit → X → Prop} {st : List It} {x y : X} (h : Sub C x y) (k : Next C Q st y) : Next C Q st x := fun hst bs a w hr => by
  obtain ⟨bs', hr'⟩ := h bs a w hr
  exact k hst bs' a w hr'
/-- What was just made (name x.n) and is base from now on: the state is as it was, but for what bears its address. -/
theorem frz_sub {C : Cx} {x : X} {bs : Nat → Nat} {a : Act} {w : World} (hr : Rel C x bs a w) {dst : Option Tmp} {v u : EV} {oo : Option EObj} {b : Nat} {B' : Base} (hf : frz x.n b v = u) (hu : closed 0 u) :
    Sub C ⟨frzσ x.n b (put x.σ dst v), x.n + 1, frzh x.n b ((x.n, oo) :: (x.n, none) :: x.hs), B', x.ms⟩ ⟨put x.σ dst u, x.n, x.hs, B', x.ms⟩ := by
  refine Weak.sub ⟨fun t => .inr ?_, fun i o hi => ?_, fun t => ?_, fun i o hi => ⟨(hr.h.live i o hi).1, hr.h.cl i o hi⟩, ?_, rfl, rfl, hr.t.msin⟩
  · simp only [tget_frzσ, tget_put]
    split
    · exact hf.symm
    · exact (frz_closedN _ (hr.t.cl t)).symm
  · have hlt := (hr.h.live i o hi).1
    simp only [frzh_cons, hget_cons, if_neg (show ¬ x.n = i by omega)]
    rw [hget_frzh, if_neg (by omega), hi]
    exact congrArg some (frzE_closedN o (hr.h.cl i o hi))
  · simp only [tget_put]
    split
    · exact closed_mono (Nat.zero_le _) _ hu
    · exact hr.t.cl t
  · rcases Nat.lt_or_ge x.n C.olds.length with h | h
    · have := (hr.h.old x.n _ (List.getElem?_eq_getElem h)).2
      omega
    · exact h
theorem appF {C : Cx} {Q : Exit → X → Prop} {o : Oper} {st : List It} {x : X} {a b : Operand} {t t2 T : TypeId} {m : Nat} {cs : List Value} {zs : List EV} (sz : Nat)
    (hop : o.op = .call { callee := .builtin .append, args := #[a, b], argTypes := #[t, t2] })
    (ht : C.P.underlying t = some (.slice T)) (ht2 : (∃ e', C.P.underlying t2 = some (.slice e')) ∨ C.P.underlying t2 = some .string)
    (hz : zeroOf C.P T = some zs) (hcz : C.P.cellsOf T = sz) (hsz : zs.length = sz) (hsz0 : 0 < sz) (hz0 : closeds 0 zs)
    (ha : ev x.σ a = .raw (.slice none 0 0)) (hsrc : ∃ c, srcOf x.B x.hs sz (ev x.σ b) = some (m, cs.map ofScalar, c) ∧ c) (hlen : cs.length = m * sz) (hone : oneAll (cs.map ofScalar) = true)
    (hmax : m ≤ maxLen) (hby : m * C.P.bytesOf T ≤ 140737488355328)
    (hk : ∀ ad cap B', BExt x.B B' → CellsAt B' ad cs → m ≤ cap → Next C Q st { σ := put x.σ o.dst (.raw (.slice ad m cap)), n := x.n, hs := x.hs, B := B', ms := x.ms }) : opS C Q o st x := by
  subst hsz
  have hzne : zs ≠ [] := fun h => by rw [h] at hsz0; exact absurd hsz0 (by simp)
  obtain ⟨c, hsrc, hc⟩ := hsrc
  intro hd bs a' w hr
  have hn : hget x.hs x.n = none := by
    cases h : hget x.hs x.n with
    | none => rfl
    | some o => have := (hr.h.live _ _ h).1; omega
  have hms : x.n ∉ x.ms := fun h => by have := hr.t.msin _ h; omega
  have hc0 : closeds 0 (cs.map ofScalar) := by
    rw [closeds_iff]; intro v hv
    obtain ⟨u, _, rfl⟩ := List.mem_map.1 hv
    exact closed_ofScalar _ _
  refine appendL (l := none) (xs := []) x.n 0 hop ht ht2 hz hcz hzne hz0 ha rfl hn rfl (by simp) trivial hsrc hc hone (by simpa using hmax) (by simpa using hby) (fun l' hl' => ?_) hd bs a' w hr
  simp only [Nat.zero_add, List.nil_append] at hl' ⊢
  refine freezeL (xs := cs.map ofScalar) (T := T) x.n m (by simp [hget_cons]) hl' (by simpa using hlen) hc0 hz0 hms (fun b ad cap B' hE hf hD hso hcell => ?_)
  refine Next.subL (frz_sub hr hf (by simp [closed])) (hk ad cap B' hE (cellsAt_frz hD hso (fun h => ?_) hcell ?_) ?_)
  · subst h; rw [Nat.zero_mul, List.length_eq_zero_iff] at hlen; rw [hlen]; rfl
  · rw [reals_eq, List.map_map]
    conv => rhs; rw [← List.map_id cs]
    exact List.map_congr_left fun v hv => by simp [real_ofScalar]
  · cases l' with
    | none => have h0 : m = 0 := hl'; omega
    | some q => have := hl'.1; simp only [lE, frz, ↓reduceIte] at hf; injection hf with hf; injection hf with _ _ h2; omega
theorem src_own {B : Base} {hs : List (Nat × Option EObj)} {sz j off m cap : Nat} {cs news : List EV} {T : TypeId} {fr : Nat × Nat} (hg : hget hs j = some (.cells cs T fr)) (hcs : (cs.drop off).take (m * sz) = news) : srcOf B hs sz (.sl j off m cap) = some (m, news, off + m * sz ≤ cs.length) := by
  simp only [srcOf, hg, hcs]
end Go.Ew
/- How many bits a number has; steps in the memory that turn nothing. -/
set_option linter.unusedSimpArgs false
set_option linter.unusedVariables false
namespace Go.Ew
open Go RowKit
theorem Below.refl' (B : Nat) (w : World) : Below B w w := ⟨rfl, rfl, rfl, Nat.le_refl _, fun _ _ => rfl⟩
def blen (n : Nat) : Nat := if n = 0 then 0 else n.log2 + 1
theorem blen_le {n k : Nat} : blen n ≤ k ↔ n < 2 ^ k := by
  unfold blen
  by_cases h : n = 0
  · subst h; simp [Nat.pow_pos]
  · rw [if_neg h, ← Nat.log2_lt h]; omega
theorem lt_blen {n k : Nat} : k < blen n ↔ 2 ^ k ≤ n := by
  have := @blen_le n k; omega
theorem blen_eq {n m : Nat} (h : ∀ k, n < 2 ^ k ↔ m < 2 ^ k) : blen n = blen m := by
  have h1 := blen_le.2 ((h (blen m)).2 (blen_le.1 (Nat.le_refl _)))
  have h2 := blen_le.2 ((h (blen n)).1 (blen_le.1 (Nat.le_refl _)))
  omega
theorem blen_zero : blen 0 = 0 := rfl
theorem blen_half {n : Nat} (h : n ≠ 0) : blen n = 1 + blen (n / 2) := by
  have h1 : ∀ k, blen n ≤ k ↔ 1 + blen (n / 2) ≤ k := by
    intro k
    rw [blen_le]
    cases k with
    | zero => simp; omega
    | succ k =>
      have : 1 + blen (n / 2) ≤ k + 1 ↔ n / 2 < 2 ^ k := by rw [← blen_le]; omega
      rw [this, Nat.pow_succ, Nat.div_lt_iff_lt_mul (by omega)]
  have := (h1 (blen n)).1 (Nat.le_refl _)
  have := (h1 (1 + blen (n / 2))).2 (Nat.le_refl _)
  omega
theorem bitLenAux_eq : ∀ (f x : Nat), x < 2 ^ f → Lib.bitLenAux f x = blen x
  | 0, x, h => by
    have : x = 0 := by simpa using h
    subst this; rfl
  | f + 1, x, h => by
    rw [Lib.bitLenAux]
    by_cases e : x = 0
    · subst e; simp [blen]
    · rw [if_neg e, bitLenAux_eq f (x / 2) (by rw [Nat.div_lt_iff_lt_mul (by omega), ← Nat.pow_succ]; exact h), blen_half e]
theorem bitLen_eq {x : Nat} (h : x < 18446744073709551616) : Lib.bitLen x = blen x := bitLenAux_eq 64 x h
theorem blen_add {d r s : Nat} (hd : d ≠ 0) (hr : r < 2 ^ s) : blen (d * 2 ^ s + r) = s + blen d := by
  have h1 : ∀ k, blen (d * 2 ^ s + r) ≤ k ↔ s + blen d ≤ k := by
    intro k
    rw [blen_le]
    rcases Nat.lt_or_ge k s with h | h
    · have hlt : 2 ^ k < 2 ^ s := Nat.pow_lt_pow_right (by omega) h
      have : 1 * 2 ^ s ≤ d * 2 ^ s := Nat.mul_le_mul_right _ (by omega)
      constructor
      · intro h'; omega
      · intro h'; omega
    · obtain ⟨j, rfl⟩ : ∃ j, k = s + j := ⟨k - s, by omega⟩
      have : s + blen d ≤ s + j ↔ d < 2 ^ j := by rw [← blen_le]; omega
      rw [this, Nat.pow_add, Nat.mul_comm (2 ^ s)]
      constructor
      · intro h'
        have : d * 2 ^ s < 2 ^ j * 2 ^ s := by omega
        exact Nat.lt_of_mul_lt_mul_right this
      · intro h'
        have : (d + 1) * 2 ^ s ≤ 2 ^ j * 2 ^ s := Nat.mul_le_mul_right _ h'
        rw [Nat.add_mul] at this; omega
  have := (h1 (blen (d * 2 ^ s + r))).1 (Nat.le_refl _)
  have := (h1 (s + blen d)).2 (Nat.le_refl _)
  omega
theorem blen_256 {n : Nat} (h : n < 115792089237316195423570985008687907853269984665640564039457584007913129639936) : blen n ≤ 256 := blen_le.2 (by simpa using h)
theorem blen_64 {n : Nat} (h : n < 18446744073709551616) : blen n ≤ 64 := blen_le.2 (by simpa using h)
end Go.Ew
set_option linter.unusedSimpArgs false
set_option linter.unusedVariables false
namespace Go.Ew
open Go RowKit
/-! ### functions that hand back a list of their own -/
/-- What v tells, told as a part of the base. -/
def Lays (x : X) (v : EV) (G : EV → Base → Prop) : Prop :=
  ∀ C bs w, HRel C x.B x.n x.hs bs w → ∃ v' D', real bs v = real (fun _ => 0) v' ∧ closed 0 v' ∧ (∀ b, x.B.D b → D' b) ∧ (∀ b, D' b → x.B.D b ∨ ∃ i o, hget x.hs i = some o ∧ b = bs i) ∧ G v' ⟨w, D'⟩
theorem lays_0 {x : X} {v : EV} {G : EV → Base → Prop} (hv : closed 0 v) (h : ∀ B', BExt x.B B' → G v B') : Lays x v G := fun C bs w hh =>
  ⟨v, x.B.D, real_closed0 _ _ hv, hv, fun _ h => h, fun _ h => .inl h, h _ hh.ext⟩
theorem lays_L {x : X} {v : EV} {G : EV → Base → Prop} (r len : Nat) {l : Lst} {xs zs : List EV} {T : TypeId} (hg : hget x.hs r = lO T xs l) (hl : lOk zs len l) (hx : xs.length = len * zs.length) (hc : closeds 0 xs)
    (h : ∀ b ad cap B', BExt x.B B' → frz r b (lE r len l) = .raw (.slice ad len cap) → CellsAt B' ad (reals (fun _ => 0) xs) → len ≤ cap → closed 0 (frz r b v) ∧ G (frz r b v) B') : Lays x v G := fun C bs w hh => by
  cases l with
  | none =>
    have h0 : len = 0 := hl
    subst h0
    have hx0 : xs = [] := by rw [Nat.zero_mul] at hx; exact List.length_eq_zero_iff.1 hx
    subst hx0
    obtain ⟨h1, h2⟩ := h (bs r) none 0 ⟨w, x.B.D⟩ hh.ext rfl (CellsAt.nil _) (Nat.le_refl _)
    exact ⟨frz r (bs r) v, x.B.D, by rw [← real_frz bs r v]; exact real_closed0 _ _ h1, h1, fun _ h => h, fun _ h => .inl h, h2⟩
  | some p =>
    obtain ⟨cap, rest⟩ := p
    have hg' : hget x.hs r = some (.cells (xs ++ rest) T (0, 0)) := hg
    have hlive := (hh.live r _ hg').2
    simp only [EObj.real] at hlive
    have hE : BExt x.B ⟨w, fun k => x.B.D k ∨ k = bs r⟩ := ⟨fun _ h => .inl h, hh.ext.same, hh.ext.size, hh.ext.os, hh.ext.tape, hh.ext.output⟩
    obtain ⟨h1, h2⟩ := h (bs r) (some ⟨bs r, 0, none⟩) cap ⟨w, fun k => x.B.D k ∨ k = bs r⟩ hE (by simp [lE, frz]) (by
      refine ⟨fun a ha _ => ?_, fun _ => rfl, fun j hj => ?_⟩
      · cases ha; exact .inr rfl
      · have e : adrAt (some (⟨bs r, 0, none⟩ : Addr)) j = ⟨bs r, j, none⟩ := by
          rw [adrAt_some]
          unfold Addr.add
          split
          · rename_i h0; subst h0; rfl
          · simp
        have hj' : j < xs.length := by rw [reals_eq] at hj; simpa using hj
        rw [e, cellHeap hlive, List.getElem?_toArray, reals_eq, List.map_append, List.getElem?_append_left (by simpa using hj'), ← reals_eq, reals_closed0 bs (fun _ => 0) hc]) hl.1
    refine ⟨frz r (bs r) v, fun k => x.B.D k ∨ k = bs r, by rw [← real_frz bs r v]; exact real_closed0 _ _ h1, h1, fun _ h => .inl h, ?_, h2⟩
    rintro b (hb | rfl)
    · exact .inl hb
    · exact .inr ⟨r, _, hg', rfl⟩
theorem lays_B {x : X} {v : EV} {G : EV → Base → Prop} (r n : Nat) {l : Lst} {xs : List UInt8} {T : TypeId} (hg : hget x.hs r = lO T (xs.map bE) l) (hn : xs.length = n) (hl : lOk [.int .u8 0] n l)
    (h : ∀ b ad cap B', BExt x.B B' → frz r b (lE r n l) = .raw (.slice ad n cap) → BytesAt B' ad xs → n ≤ cap → closed 0 (frz r b v) ∧ G (frz r b v) B') : Lays x v G :=
  lays_L r n hg hl (by simp [hn]) (closeds_bE 0 _) (fun b ad cap B' hB hf hC hc => h b ad cap B' hB hf (by rw [reals_bE] at hC; exact hC) hc)
theorem fn_ofX {S : Type} {P : Program} {f : FuncId} {fn : Func} {c : Code} {args : List EV} {B : Base} {vf : S → EV} {R : S → Base → Prop} (hE : Enters P f) (hRm : ∀ s B B', BExt B B' → R s B → R s B')
    (hf : P.funcs[f]? = some fn) (hb : fn.body = some c) (hin : codeIn fn.ntmps c = true) (hl : args.length ≤ fn.ntmps) (hcl : closeds 0 args)
    (h : ∀ B0, BExt B B0 → Next (cxG P fn.ntmps B0.w B0.D []) (retE (cxG P fn.ntmps B0.w B0.D []) fn.results.toList (fun v x => BExt B0 x.B ∧ Lays x v (fun v' B' => ∃ s, v' = vf s ∧ R s B'))) [.c c] ⟨argσ 0 args, 0, [], B0, []⟩) : Does P f args B vf R := by
  refine ⟨hE, hcl, fun B0 hw hlt => ?_⟩
  obtain ⟨w, D⟩ := B0
  simp only at hlt
  have h1 := calls_of (C := cxG P fn.ntmps w D []) (B := ⟨w, D⟩) (bs := fun _ => 0) (n := 0) (hs := []) (K := fun v x => BExt ⟨w, D⟩ x.B ∧ Lays x v (fun v' B' => ∃ s, v' = vf s ∧ R s B')) rfl hf hb rfl hin hl
    (by
      have := HRel.startG (P := P) (N := fn.ntmps) (w := w) (D := D) (olds := []) (objs := []) (fun b hb => ⟨hlt b hb, by simp⟩) rfl (by simp) (fun i b o hi => by simp at hi)
      exact ⟨by simp [hget], by simp [hget], by simp [hget], by simp, by simp [hget], this.frame, rfl, rfl, rfl, Nat.le_refl _, by simp [hget], this.frameE, this.apart, Nat.le_refl _, rfl, rfl, rfl⟩) hcl (h ⟨w, D⟩ hw)
  refine h1.mono ?_
  rintro e w' ⟨v, x', bs', rfl, hcv, hr, hE', hL⟩
  obtain ⟨v', D', e1, c1, d1, d2, s, rfl, hR⟩ := hL _ bs' w' hr
  have hlow : ∀ k, k < w.heap.size → ¬ D k ∨ D k := fun k _ => (Classical.em _).symm
  refine ⟨s, fun _ => 0, by rw [e1], c1, ⟨hr.eo.1, fun k hk => ?_, hr.eo.2.1, hr.eo.2.2.1, hr.eo.2.2.2⟩, fun i b hi => by simp at hi, fun i o hi => by simp at hi, fun i j oi oj hi => by simp at hi, ?_⟩
  · rcases hlow k hk.1 with h | h
    · exact (hr.frameE k ⟨hk.1, h, by simp⟩).2
    · exact ((hr.frame k (hE'.D k h)).2).trans (hE'.same k h)
  · refine hRm s ⟨w', D'⟩ _ ⟨fun b hb => ?_, fun b hb => rfl, Nat.le_refl _, rfl, rfl, rfl⟩ hR
    rcases d2 b hb with hb | ⟨i, o, hi, rfl⟩
    · have hbw := (hr.frame b hb).1
      rcases Nat.lt_or_ge b w.heap.size with hlt' | hge
      · rcases hlow _ hlt' with h | h
        · exact absurd hb (hr.apart b ⟨hlt', h, by simp⟩)
        · exact .inl h
      · exact .inr ⟨.inl hge, hbw, by rintro ⟨i, o, hi, _⟩; simp at hi⟩
    · have hbw := heap_lt (hr.live i o hi).2
      rcases Nat.lt_or_ge (bs' i) w.heap.size with hlt' | hge
      · rcases hlow _ hlt' with h | h
        · exact absurd ⟨hlt', h, by simp⟩ (hr.newE i o hi)
        · exact .inl h
      · exact .inr ⟨.inl hge, hbw, by rintro ⟨i, o, hi, _⟩; simp at hi⟩
end Go.Ew
set_option linter.unusedSimpArgs false
set_option linter.unusedVariables false
namespace Go.Ew
open Go RowKit
/-! ### functions that put bytes behind a list of their caller's -/
def oldsOf : Lst → Nat → List Nat
  | none, _ => []
  | some _, b => [b]
/-- It hands back the list ys: in olds, or in a new block. -/
def AppRet (T : TypeId) (ys : List UInt8) (olds : List Nat) (w : World) (e : Ending) (w' : World) : Prop :=
  ∃ (l' : Lst) (b : Nat), e = .returned (real (fun _ => b) (lE 0 ys.length l')) ∧ lOk [.int .u8 0] ys.length l' ∧ Stay (fun k => k < w.heap.size ∧ k ∉ olds) w w' ∧
    (∀ o, lO T (ys.map bE) l' = some o → w'.heap[b]? = some (o.real (fun _ => 0)) ∧ (w.heap.size ≤ b ∨ b ∈ olds))
/-- f puts ys behind its first argument. -/
structure Apps (P : Program) (f : FuncId) (T : TypeId) (args : List EV) (B : Base) (ys : List UInt8) : Prop where
  en : Enters P f
  cl : closeds 0 args
  run : ∀ B0, BExt B B0 → (∀ b, B0.D b → b < B0.w.heap.size) → ∀ (n : Nat) (l : Lst) (xs : List UInt8) (b : Nat), xs.length = n → lOk [.int .u8 0] n l → n + ys.length ≤ 70368744177664 →
    (∀ o, lO T (xs.map bE) l = some o → B0.w.heap[b]? = some (o.real (fun _ => 0)) ∧ ¬ B0.D b) →
    Calls P f (reals (fun _ => b) (lE 0 n l :: args)).toArray B0.w (AppRet T (xs ++ ys) (oldsOf l b) B0.w)
theorem Apps.ext {P : Program} {f : FuncId} {T : TypeId} {args : List EV} {B B' : Base} {ys : List UInt8} (h : Apps P f T args B ys) (e : BExt B B') : Apps P f T args B' ys := ⟨h.en, h.cl, fun B0 hB => h.run B0 (e.trans hB)⟩
theorem lO_real {T : TypeId} {xs : List UInt8} {n : Nat} {l : Lst} {o : EObj} (hl : lOk [.int .u8 0] n l) (h : lO T (xs.map bE) l = some o) (bs bs' : Nat → Nat) : o.real bs = o.real bs' := by
  have h0 := (lO_closed (n := 0) hl (closeds_bE 0 _) hz8 h).2
  cases o with
  | cells cs T' fr => simp only [EObj.real]; rw [reals_closed0 bs bs' h0]
  | obj o => rfl
theorem apps_of {P : Program} {f : FuncId} {fn : Func} {c : Code} {T : TypeId} {args : List EV} {B : Base} {ys : List UInt8} (hE : Enters P f)
    (hf : P.funcs[f]? = some fn) (hb : fn.body = some c) (hin : codeIn fn.ntmps c = true) (hl : args.length + 1 ≤ fn.ntmps) (hcl : closeds 0 args)
    (h : ∀ B0, BExt B B0 → ∀ (n : Nat) (l : Lst) (xs : List UInt8) (olds : List Nat), olds.length ≤ 1 → xs.length = n → lOk [.int .u8 0] n l → n + ys.length ≤ 70368744177664 →
      Next (cxG P fn.ntmps B0.w B0.D olds) (retE (cxG P fn.ntmps B0.w B0.D olds) fn.results.toList (fun v x => BExt B0 x.B ∧ ∃ r l', v = lE r (xs.length + ys.length) l' ∧ hget x.hs r = lO T ((xs ++ ys).map bE) l' ∧ lOk [.int .u8 0] (xs.length + ys.length) l')) [.c c] ⟨argσ 0 (lE 0 n l :: args), 1, [(0, lO T (xs.map bE) l)], B0, []⟩) : Apps P f T args B ys := by
  refine ⟨hE, hcl, fun B0 hw hlt n l xs b hn hlo hmax hown => ?_⟩
  obtain ⟨w, D⟩ := B0
  simp only at hlt hown
  have h1 := calls_of (C := cxG P fn.ntmps w D (oldsOf l b)) (B := ⟨w, D⟩) (bs := fun _ => b) (n := 1) (hs := [(0, lO T (xs.map bE) l)]) (args := lE 0 n l :: args) (K := fun v x => BExt ⟨w, D⟩ x.B ∧ ∃ r l', v = lE r (xs.length + ys.length) l' ∧ hget x.hs r = lO T ((xs ++ ys).map bE) l' ∧ lOk [.int .u8 0] (xs.length + ys.length) l') rfl hf hb rfl hin (by simpa using hl)
    (by
      have hg : ∀ i o, hget [(0, lO T (xs.map bE) l)] i = some o → i = 0 ∧ lO T (xs.map bE) l = some o := by
        intro i o hi
        simp only [hget_cons] at hi
        split at hi
        · rename_i h; exact ⟨h.symm, hi⟩
        · simp [hget] at hi
      have hin' : ∀ o, lO T (xs.map bE) l = some o → b ∈ oldsOf l b := fun o ho => by cases l <;> simp [oldsOf, lO] at ho ⊢
      refine ⟨fun i o hi => ?_, fun i o hi => ?_, fun i j oi oj hi hj _ => ?_, fun i b' hi => ?_, fun i o hi => ?_, fun k hk => ⟨hlt k hk, rfl⟩, rfl, rfl, rfl, Nat.le_refl _, fun i o hi he => ?_, fun k hk => ⟨hk.1, rfl⟩, fun k hk => hk.2.1, Nat.le_refl _, rfl, rfl, rfl⟩
      · obtain ⟨rfl, ho⟩ := hg i o hi
        exact ⟨by omega, by rw [(hown o ho).1]; exact congrArg some (lO_real hlo ho _ _)⟩
      · obtain ⟨rfl, ho⟩ := hg i o hi
        exact (lO_closed hlo (closeds_bE 0 _) hz8 ho).1
      · rw [(hg i oi hi).1, (hg j oj hj).1]
      · cases l with
        | none => simp [oldsOf] at hi
        | some q =>
          cases i with
          | zero => simp [oldsOf] at hi; exact ⟨hi, by omega⟩
          | succ i => simp [oldsOf] at hi
      · obtain ⟨rfl, ho⟩ := hg i o hi
        exact (hown o ho).2
      · obtain ⟨rfl, ho⟩ := hg i o hi
        exact he.2.2 (hin' o ho)) ⟨lE_closed (by omega), closeds_mono (Nat.zero_le _) _ hcl⟩ (h ⟨w, D⟩ hw n l xs (oldsOf l b) (by cases l <;> simp [oldsOf]) hn hlo hmax)
  refine h1.mono ?_
  rintro e w' ⟨v, x', bs', rfl, hcv, hr, hE', r, l', rfl, hg, hl'⟩
  have hlow : ∀ k, k < w.heap.size → k ∉ oldsOf l b → ¬ D k ∨ D k := fun k _ _ => (Classical.em _).symm
  refine ⟨l', bs' r, ?_, by rw [List.length_append]; exact hl', ⟨hr.eo.1, fun k hk => ?_, hr.eo.2.1, hr.eo.2.2.1, hr.eo.2.2.2⟩, fun o ho => ?_⟩
  · rw [List.length_append]
    congr 1
    cases l' <;> rfl
  · rcases hlow k hk.1 hk.2 with h | h
    · exact (hr.frameE k ⟨hk.1, h, hk.2⟩).2
    · exact ((hr.frame k (hE'.D k h)).2).trans (hE'.same k h)
  · have hg' : hget x'.hs r = some o := by rw [hg]; exact ho
    refine ⟨by rw [(hr.live r o hg').2]; exact congrArg some (lO_real hl' ho _ _), ?_⟩
    rcases Nat.lt_or_ge (bs' r) w.heap.size with hlt' | hge
    · by_cases hm : bs' r ∈ oldsOf l b
      · exact .inr hm
      · rcases hlow _ hlt' hm with h | h
        · exact absurd ⟨hlt', h, hm⟩ (hr.newE r o hg')
        · exact absurd (hE'.D _ h) (hr.new r o hg')
    · exact .inl hge
theorem callB_app {C : Cx} {K : X → Prop} {f : FuncId} {args : List EV} {dst : Option Tmp} {x : X} {T : TypeId} {ys : List UInt8} (r n : Nat) {l : Lst} {xs : List UInt8} (h : Apps C.P f T args x.B ys) (hg : hget x.hs r = lO T (xs.map bE) l) (hn : xs.length = n) (hl : lOk [.int .u8 0] n l) (hmax : n + ys.length ≤ 70368744177664)
    (hk : ∀ l', lOk [.int .u8 0] (n + ys.length) l' → K { σ := put x.σ dst (lE x.n (n + ys.length) l'), n := x.n + 1, hs := (x.n, lO T ((xs ++ ys).map bE) l') :: (r, none) :: x.hs, B := x.B, ms := x.ms }) : CallB C f (lE r n l :: args) dst x K := by
  refine ⟨h.en, fun bs w hh hcl => ?_⟩
  have hargs : reals bs (lE r n l :: args) = reals (fun _ => bs r) (lE 0 n l :: args) := by
    simp only [reals]
    rw [reals_closed0 bs (fun _ => bs r) h.cl]
    congr 1
    cases l <;> rfl
  rw [hargs]
  have hlive : ∀ o, lO T (xs.map bE) l = some o → w.heap[bs r]? = some (o.real (fun _ => 0)) ∧ ¬ x.B.D (bs r) := fun o ho => by
    have hg' : hget x.hs r = some o := by rw [hg]; exact ho
    exact ⟨by rw [(hh.live r o hg').2]; exact congrArg some (lO_real hl ho _ _), hh.new r o hg'⟩
  refine (h.run ⟨w, x.B.D⟩ hh.ext (fun b hb => (hh.frame b hb).1) n l xs (bs r) hn hl hmax hlive).mono ?_
  rintro e w' ⟨l', b, rfl, hl', hst, hnew⟩
  simp only at hst hnew
  have hlen : (xs ++ ys).length = n + ys.length := by rw [List.length_append, hn]
  rw [hlen] at hl'
  have hold : ∀ k, k ∈ oldsOf l (bs r) → k = bs r ∧ ∃ o, hget x.hs r = some o := by
    intro k hk
    cases l with
    | none => simp [oldsOf] at hk
    | some q => simp [oldsOf] at hk; exact ⟨hk, _, hg⟩
  have hD : ∀ k, k ∈ oldsOf l (bs r) → ¬ x.B.D k ∧ ¬ C.E k := fun k hk => by
    obtain ⟨rfl, o, ho⟩ := hold k hk
    exact ⟨hh.new r o ho, hh.newE r o ho⟩
  have hkeep : ∀ i o, i ≠ r → hget x.hs i = some o → w'.heap[bs i]? = w.heap[bs i]? ∧ bs i < w.heap.size ∧ bs i ∉ oldsOf l (bs r) := by
    intro i o hir ho
    have hlt := heap_lt (hh.live i o ho).2
    have hno : bs i ∉ oldsOf l (bs r) := fun hm => by
      obtain ⟨h1, o', ho'⟩ := hold _ hm
      exact hir (hh.inj i r o o' ho ho' h1)
    exact ⟨hst.same _ ⟨hlt, hno⟩, hlt, hno⟩
  have hent : ∀ i o, hget ((x.n, lO T ((xs ++ ys).map bE) l') :: (r, none) :: x.hs) i = some o → (i = x.n ∧ lO T ((xs ++ ys).map bE) l' = some o) ∨ (i ≠ x.n ∧ i < x.n ∧ i ≠ r ∧ hget x.hs i = some o) := by
    intro i o hi
    simp only [hget_cons] at hi
    split at hi
    · rename_i h0; exact .inl ⟨h0.symm, hi⟩
    · split at hi
      · cases hi
      · rename_i h0 h1
        exact .inr ⟨fun h => h0 h.symm, (hh.live i o hi).1, fun h => h1 h.symm, hi⟩
  have hub : ∀ i, i < x.n → upd bs x.n b i = bs i := fun i hi => upd_lt i hi
  have hun : upd bs x.n b x.n = b := by simp [upd]
  have hbD : ∀ o, lO T ((xs ++ ys).map bE) l' = some o → ¬ x.B.D b ∧ ¬ C.E b := fun o ho => by
    rcases (hnew o ho).2 with h | h
    · exact ⟨fun hd => by have := (hh.frame b hd).1; omega, fun he => by have := (hh.frameE b he).1; omega⟩
    · exact hD b h
  refine ⟨lE x.n (n + ys.length) l', x.n + 1, _, x.B, upd bs x.n b, ?_, hub, by omega, lE_closed (by omega), ?_, hk l' hl'⟩
  · rw [hlen]
    congr 1
    cases l' with
    | none => rfl
    | some q => simp [lE, real, hun]
  · refine ⟨fun i o hi => ?_, fun i o hi => ?_, fun i j oi oj hi hj hb => ?_, fun i b' hi => ?_, fun i o hi => ?_, fun k hk => ?_, hst.os.trans hh.os, hst.tape.trans hh.tape, hst.output.trans hh.output, Nat.le_trans hh.hsize hst.size, fun i o hi => ?_, fun k hk => ?_, hh.apart, Nat.le_trans hh.eo.1 hst.size, hst.os.trans hh.eo.2.1, hst.tape.trans hh.eo.2.2.1, hst.output.trans hh.eo.2.2.2⟩
    · rcases hent i o hi with ⟨rfl, ho⟩ | ⟨_, h1, h2, ho⟩
      · exact ⟨by omega, by rw [hun, (hnew o ho).1]; exact congrArg some (lO_real (n := n + ys.length) hl' ho _ _)⟩
      · refine ⟨by omega, ?_⟩
        rw [hub i h1, (hkeep i o h2 ho).1, (hh.live i o ho).2]
        exact congrArg some (EObj.real_congr (fun j hj => (hub j hj).symm) o (hh.cl i o ho))
    · rcases hent i o hi with ⟨rfl, ho⟩ | ⟨_, h1, h2, ho⟩
      · exact (lO_closed hl' (closeds_bE 0 _) hz8 ho).1
      · exact EObj.closed_mono (by omega) _ (hh.cl i o ho)
    · rcases hent i oi hi with ⟨rfl, hoi⟩ | ⟨hin, h1, h2, hoi⟩
      · rcases hent j oj hj with ⟨rfl, _⟩ | ⟨_, k1, k2, hoj⟩
        · rfl
        · rw [hun, hub j k1] at hb
          rcases (hnew oi hoi).2 with h | h
          · have := (hkeep j oj k2 hoj).2.1; omega
          · rw [hb] at h; exact absurd h (hkeep j oj k2 hoj).2.2
      · rcases hent j oj hj with ⟨rfl, hoj⟩ | ⟨_, k1, k2, hoj⟩
        · rw [hun, hub i h1] at hb
          rcases (hnew oj hoj).2 with h | h
          · have := (hkeep i oi h2 hoi).2.1; omega
          · rw [← hb] at h; exact absurd h (hkeep i oi h2 hoi).2.2
        · rw [hub i h1, hub j k1] at hb
          exact hh.inj i j oi oj hoi hoj hb
    · obtain ⟨h1, h2⟩ := hh.old i b' hi
      exact ⟨by rw [hub i h2, h1], by omega⟩
    · rcases hent i o hi with ⟨rfl, ho⟩ | ⟨_, h1, h2, ho⟩
      · rw [hun]; exact (hbD o ho).1
      · rw [hub i h1]; exact hh.new i o ho
    · obtain ⟨h1, h2⟩ := hh.frame k hk
      have hno : k ∉ oldsOf l (bs r) := fun hm => (hD k hm).1 hk
      exact ⟨Nat.lt_of_lt_of_le h1 hst.size, (hst.same k ⟨h1, hno⟩).trans h2⟩
    · rcases hent i o hi with ⟨rfl, ho⟩ | ⟨_, h1, h2, ho⟩
      · rw [hun]; exact (hbD o ho).2
      · rw [hub i h1]; exact hh.newE i o ho
    · obtain ⟨h1, h2⟩ := hh.frameE k hk
      have hno : k ∉ oldsOf l (bs r) := fun hm => (hD k hm).2 hk
      exact ⟨Nat.lt_of_lt_of_le h1 hst.size, (hst.same k ⟨h1, hno⟩).trans h2⟩
theorem callS_app {C : Cx} {Q : Exit → X → Prop} {f : FuncId} {args : List EV} {dst : Option Tmp} {st : List It} {x : X} {T : TypeId} {ys : List UInt8} (r n : Nat) {l : Lst} {xs : List UInt8} (h : Apps C.P f T args x.B ys) (hg : hget x.hs r = lO T (xs.map bE) l) (hn : xs.length = n) (hl : lOk [.int .u8 0] n l) (hmax : n + ys.length ≤ 70368744177664)
    (hk : ∀ l', lOk [.int .u8 0] (n + ys.length) l' → Next C Q st { σ := put x.σ dst (lE x.n (n + ys.length) l'), n := x.n + 1, hs := (x.n, lO T ((xs ++ ys).map bE) l') :: (r, none) :: x.hs, B := x.B, ms := x.ms }) : callS C Q f (lE r n l :: args) dst st x :=
  fun _ => .inr (callB_app r n h hg hn hl hmax hk)
end Go.Ew
set_option linter.unusedSimpArgs false
set_option linter.unusedVariables false
namespace Go.Ew
open Go RowKit
/-! ### a call that reads some bytes of an own block, which is base from then on -/
theorem HRel.give {C : Cx} {B : Base} {n : Nat} {hs : List (Nat × Option EObj)} {bs : Nat → Nat} {w : World} (h : HRel C B n hs bs w) {j : Nat} {o : EObj} (hj : hget hs j = some o) : HRel C ⟨w, fun k => B.D k ∨ k = bs j⟩ n ((j, none) :: hs) bs w := by
  have hk : ∀ i o', hget ((j, none) :: hs) i = some o' → i ≠ j ∧ hget hs i = some o' := by
    intro i o' hi
    simp only [hget_cons] at hi
    split at hi
    · cases hi
    · rename_i h0; exact ⟨fun h => h0 h.symm, hi⟩
  refine ⟨fun i o' hi => h.live i o' (hk i o' hi).2, fun i o' hi => h.cl i o' (hk i o' hi).2, fun i k oi ok hi hk' hb => h.inj i k oi ok (hk i oi hi).2 (hk k ok hk').2 hb, h.old, fun i o' hi hD => ?_, fun k hD => ?_, rfl, rfl, rfl, Nat.le_refl _, fun i o' hi => h.newE i o' (hk i o' hi).2, h.frameE, fun k hE hD => ?_, h.eo⟩
  · rcases hD with hD | hD
    · exact h.new i o' (hk i o' hi).2 hD
    · exact (hk i o' hi).1 (h.inj i j o' o (hk i o' hi).2 hj hD)
  · rcases hD with hD | rfl
    · exact ⟨(h.frame k hD).1, rfl⟩
    · exact ⟨heap_lt (h.live j o hj).2, rfl⟩
  · rcases hD with hD | rfl
    · exact h.apart k hE hD
    · exact h.newE j o hj hE
theorem own_bytesAt {C : Cx} {B : Base} {n : Nat} {hs : List (Nat × Option EObj)} {bs : Nat → Nat} {w : World} (hh : HRel C B n hs bs w) {j off m : Nat} {cs : List EV} {T : TypeId} {fr : Nat × Nat} {xs : List UInt8}
    (hg : hget hs j = some (.cells cs T fr)) (hcs : (cs.drop off).take m = xs.map bE) (D : Nat → Prop) (hD : D (bs j)) : BytesAt ⟨w, D⟩ (some ⟨bs j, off, none⟩) xs := by
  have hlive := (hh.live j _ hg).2
  simp only [EObj.real] at hlive
  refine ⟨?_, fun _ => rfl, fun i hi => ?_⟩
  · intro a ha _
    cases ha
    exact hD
  · have e : adrAt (some (⟨bs j, off, none⟩ : Addr)) i = ⟨bs j, off + i, none⟩ := by
      rw [adrAt_some]
      unfold Addr.add
      split
      · rename_i h0; subst h0; rfl
      · simp
    have hi' : i < xs.length := by simpa using hi
    have e3 : cs[off + i]? = (xs.map bE)[i]? := by
      have h3 := congrArg (fun l => l[i]?) hcs
      simp only [List.getElem?_take, List.getElem?_drop] at h3
      split at h3
      · exact h3
      · rw [List.getElem?_eq_getElem (by simpa using hi')] at h3; cases h3
    rw [e, cellHeap hlive, List.getElem?_toArray, reals_eq, List.getElem?_map, e3, ← List.getElem?_map, ← reals_eq, reals_bE]
theorem callB_rof {C : Cx} {K : X → Prop} {f : FuncId} {dst : Option Tmp} {x : X} {S : Type} {vf : S → EV} {R : S → Base → Prop} {args : List EV} (j off n cap : Nat) (as : List EV) (xs : List UInt8) {cs : List EV} {T : TypeId} {fr : Nat × Nat} (hE : Enters C.P f) (hcl : closeds 0 as)
    (hargs : args = as ++ [.sl j off n cap]) (hg : hget x.hs j = some (.cells cs T fr)) (hcs : (cs.drop off).take n = xs.map bE) (hv : ∀ s, closed 0 (vf s))
    (h : ∀ B ad cap, BExt x.B B → BytesAt B ad xs → Does C.P f (as ++ [.raw (.slice ad n cap)]) B vf R)
    (hk : ∀ s B', BExt x.B B' → R s B' → K { σ := put x.σ dst (vf s), n := x.n, hs := (j, none) :: x.hs, B := B', ms := x.ms }) : CallB C f args dst x K := by
  subst hargs
  refine ⟨hE, fun bs w hh hcla => ?_⟩
  have hh2 := hh.give hg
  have hb := own_bytesAt hh hg hcs (fun k => x.B.D k ∨ k = bs j) (.inr rfl)
  have e0 : reals bs (as ++ [.sl j off n cap]) = reals bs (as ++ [.raw (.slice (some ⟨bs j, off, none⟩) n cap)]) := by
    rw [reals_eq, reals_eq, List.map_append, List.map_append]; rfl
  rw [e0]
  have hB : BExt x.B ⟨w, fun k => x.B.D k ∨ k = bs j⟩ := ⟨fun _ h => .inl h, hh.ext.same, hh.ext.size, hh.ext.os, hh.ext.tape, hh.ext.output⟩
  have hd := h ⟨w, fun k => x.B.D k ∨ k = bs j⟩ (some ⟨bs j, off, none⟩) cap hB hb
  have := (callB_f (C := C) (K := K) (dst := dst) (x := { x with hs := (j, none) :: x.hs, B := ⟨w, fun k => x.B.D k ∨ k = bs j⟩ }) hd (BExt.refl _) hv (fun s B' hB' hR => hk s B' (hB.trans hB') hR)).2 bs w hh2 (closeds_mono (Nat.zero_le _) _ hd.cl)
  exact this
theorem callS_rof {C : Cx} {Q : Exit → X → Prop} {f : FuncId} {dst : Option Tmp} {st : List It} {x : X} {S : Type} {vf : S → EV} {R : S → Base → Prop} {args : List EV} (j off n cap : Nat) (as : List EV) (xs : List UInt8) {cs : List EV} {T : TypeId} {fr : Nat × Nat} (hE : Enters C.P f) (hcl : closeds 0 as)
    (hargs : args = as ++ [.sl j off n cap]) (hg : hget x.hs j = some (.cells cs T fr)) (hcs : (cs.drop off).take n = xs.map bE) (hv : ∀ s, closed 0 (vf s))
    (h : ∀ B ad cap, BExt x.B B → BytesAt B ad xs → Does C.P f (as ++ [.raw (.slice ad n cap)]) B vf R)
    (hk : ∀ s B', BExt x.B B' → R s B' → Next C Q st { σ := put x.σ dst (vf s), n := x.n, hs := (j, none) :: x.hs, B := B', ms := x.ms }) : callS C Q f args dst st x :=
  fun _ => .inr (callB_rof j off n cap as xs hE hcl hargs hg hcs hv h hk)
/-! ### the same for cells of any kind -/
theorem own_cellsAt {C : Cx} {B : Base} {n : Nat} {hs : List (Nat × Option EObj)} {bs : Nat → Nat} {w : World} (hh : HRel C B n hs bs w) {j off : Nat} {cs : List EV} {T : TypeId} {fr : Nat × Nat} {vs : List Value}
    (hg : hget hs j = some (.cells cs T fr)) (hcs : (cs.drop off).take vs.length = vs.map ofScalar) (D : Nat → Prop) (hD : D (bs j)) : CellsAt ⟨w, D⟩ (some ⟨bs j, off, none⟩) vs := by
  have hlive := (hh.live j _ hg).2
  simp only [EObj.real] at hlive
  refine ⟨?_, fun _ => rfl, fun i hi => ?_⟩
  · intro a ha _
    cases ha
    exact hD
  · have e : adrAt (some (⟨bs j, off, none⟩ : Addr)) i = ⟨bs j, off + i, none⟩ := by
      rw [adrAt_some]
      unfold Addr.add
      split
      · rename_i h0; subst h0; rfl
      · simp
    have e3 : cs[off + i]? = (vs.map ofScalar)[i]? := by
      have h3 := congrArg (fun l => l[i]?) hcs
      simp only [List.getElem?_take, List.getElem?_drop, if_pos hi] at h3
      exact h3
    rw [e, cellHeap hlive, List.getElem?_toArray, reals_eq, List.getElem?_map, e3, List.getElem?_map, List.getElem?_eq_getElem hi]
    simp [real_ofScalar]
theorem callB_roc {C : Cx} {K : X → Prop} {f : FuncId} {dst : Option Tmp} {x : X} {S : Type} {vf : S → EV} {R : S → Base → Prop} {args : List EV} (j off n cap : Nat) (as : List EV) (vs : List Value) {cs : List EV} {T : TypeId} {fr : Nat × Nat} (hE : Enters C.P f)
    (hargs : args = as ++ [.sl j off n cap]) (hg : hget x.hs j = some (.cells cs T fr)) (hcs : (cs.drop off).take vs.length = vs.map ofScalar) (hv : ∀ s, closed 0 (vf s))
    (h : ∀ B ad cap, BExt x.B B → CellsAt B ad vs → Does C.P f (as ++ [.raw (.slice ad n cap)]) B vf R)
    (hk : ∀ s B', BExt x.B B' → R s B' → K { σ := put x.σ dst (vf s), n := x.n, hs := (j, none) :: x.hs, B := B', ms := x.ms }) : CallB C f args dst x K := by
  subst hargs
  refine ⟨hE, fun bs w hh hcla => ?_⟩
  have hh2 := hh.give hg
  have hb := own_cellsAt hh hg hcs (fun k => x.B.D k ∨ k = bs j) (.inr rfl)
  have e0 : reals bs (as ++ [.sl j off n cap]) = reals bs (as ++ [.raw (.slice (some ⟨bs j, off, none⟩) n cap)]) := by
    rw [reals_eq, reals_eq, List.map_append, List.map_append]; rfl
  rw [e0]
  have hB : BExt x.B ⟨w, fun k => x.B.D k ∨ k = bs j⟩ := ⟨fun _ h => .inl h, hh.ext.same, hh.ext.size, hh.ext.os, hh.ext.tape, hh.ext.output⟩
  have hd := h ⟨w, fun k => x.B.D k ∨ k = bs j⟩ (some ⟨bs j, off, none⟩) cap hB hb
  have := (callB_f (C := C) (K := K) (dst := dst) (x := { x with hs := (j, none) :: x.hs, B := ⟨w, fun k => x.B.D k ∨ k = bs j⟩ }) hd (BExt.refl _) hv (fun s B' hB' hR => hk s B' (hB.trans hB') hR)).2 bs w hh2 (closeds_mono (Nat.zero_le _) _ hd.cl)
  exact this
theorem callS_roc {C : Cx} {Q : Exit → X → Prop} {f : FuncId} {dst : Option Tmp} {st : List It} {x : X} {S : Type} {vf : S → EV} {R : S → Base → Prop} {args : List EV} (j off n cap : Nat) (as : List EV) (vs : List Value) {cs : List EV} {T : TypeId} {fr : Nat × Nat} (hE : Enters C.P f)
    (hargs : args = as ++ [.sl j off n cap]) (hg : hget x.hs j = some (.cells cs T fr)) (hcs : (cs.drop off).take vs.length = vs.map ofScalar) (hv : ∀ s, closed 0 (vf s))
    (h : ∀ B ad cap, BExt x.B B → CellsAt B ad vs → Does C.P f (as ++ [.raw (.slice ad n cap)]) B vf R)
    (hk : ∀ s B', BExt x.B B' → R s B' → Next C Q st { σ := put x.σ dst (vf s), n := x.n, hs := (j, none) :: x.hs, B := B', ms := x.ms }) : callS C Q f args dst st x :=
  fun _ => .inr (callB_roc j off n cap as vs hE hargs hg hcs hv h hk)
theorem callT_roc {C : Cx} {Q : Exit → X → Prop} {ops : List Oper} {st : List It} {f : FuncId} {acc : List Nd} {i : Nat} {o : Oper} {ord : List Nat} {x : X} {S : Type} {vf : S → EV} {R : S → Base → Prop} {args : List EV} (j off n cap : Nat) (as : List EV) (vs : List Value) {cs : List EV} {T : TypeId} {fr : Nat × Nat} (hE : Enters C.P f)
    (hargs : args = as ++ [.sl j off n cap]) (hg : hget x.hs j = some (.cells cs T fr)) (hcs : (cs.drop off).take vs.length = vs.map ofScalar) (hv : ∀ s, closed 0 (vf s))
    (h : ∀ B ad cap, BExt x.B B → CellsAt B ad vs → Does C.P f (as ++ [.raw (.slice ad n cap)]) B vf R) (hdep : depL ops [i] ord = true)
    (hck : Ck ((i, o, { dst := o.dst, v := .any, ups := [(j, none)], a := 0, looks := opLooks o.op ++ gLook ops o.guard, foot := [j] }, true) :: acc).reverse)
    (hk : allIn C.N ops = true → ∀ s B', BExt x.B B' → R s B' → DT C Q ops st ((i, o, { dst := o.dst, v := vf s, ups := [(j, none)], a := 0, looks := opLooks o.op ++ gLook ops o.guard, foot := [j] }, true) :: acc) ord { σ := put x.σ o.dst (vf s), n := x.n, hs := (j, none) :: x.hs, B := B', ms := x.ms }) : callT C Q ops st f args acc i o ord x :=
  ⟨false, { dst := o.dst, v := .any, ups := [(j, none)], a := 0, looks := opLooks o.op ++ gLook ops o.guard, foot := [j] }, S, fun s => { dst := o.dst, v := vf s, ups := [(j, none)], a := 0, looks := opLooks o.op ++ gLook ops o.guard, foot := [j] }, R, fun t h => h,
    fun y hy => .inl (callB_roc j off n cap as vs hE hargs (by rw [hy.hs j (by simp)]; exact hg) hcs hv (fun B ad cap hB hC => h B ad cap (hy.B.trans hB) hC) (fun s B' hB hR => ⟨s, B', hB, hR, Alike.rfl' _⟩)), hdep, hck, fun _ => ⟨rfl, rfl, rfl, rfl, rfl, rfl⟩, fun hin s B' hB hR => hk hin s B' hB hR⟩
theorem heap_cells {B : Base} {b : Nat} {vs : List Value} {T : TypeId} {fr : Nat × Nat} (hD : B.D b) (h : B.w.heap[b]? = some (.cells vs.toArray T fr)) : CellsAt B (some ⟨b, 0, none⟩) vs := by
  refine ⟨fun a ha _ => by cases ha; exact hD, fun _ => rfl, fun j hj => ?_⟩
  have e : adrAt (some (⟨b, 0, none⟩ : Addr)) j = ⟨b, j, none⟩ := by
    rw [adrAt_some]
    unfold Addr.add
    split
    · rename_i h0; subst h0; rfl
    · simp
  rw [e, cellHeap h, List.getElem?_toArray]
theorem CellsAt.sub {B : Base} {a : Addr} {vs : List Value} (h : CellsAt B (some a) vs) (o n : Nat) : CellsAt B (some (a.add o)) ((vs.drop o).take n) := by
  refine ⟨fun a' ha h0 => by cases ha; rw [addr_add_block]; exact h.D a rfl (by simp only [List.length_take, List.length_drop] at h0; omega), fun _ => rfl, fun j hj => ?_⟩
  simp only [List.length_take, List.length_drop] at hj
  rw [adrAt_some, add_add, List.getElem?_take_of_lt (by omega), List.getElem?_drop, ← h.cell (o + j) (by omega), adrAt_some]
end Go.Ew
set_option linter.unusedSimpArgs false
set_option linter.unusedVariables false
namespace Go.Ew
open Go RowKit
/-! ### functions that hand back a list of their own, which goes on to be one's own -/
structure Owns {S : Type} (P : Program) (f : FuncId) (T : TypeId) (zs : List EV) (args : List EV) (B : Base) (nf : S → Nat) (xs : S → List EV) (ls : S → Lst) (R : S → Base → Prop) : Prop where
  en : Enters P f
  cl : closeds 0 args
  run : ∀ B0, BExt B B0 → (∀ b, B0.D b → b < B0.w.heap.size) → Calls P f (reals (fun _ => 0) args).toArray B0.w (fun e w' => ∃ s, RetG B0.D [] (lE 0 (nf s) (ls s)) 1 [lO T (xs s) (ls s)] (fun B' => R s B' ∧ lOk zs (nf s) (ls s) ∧ closeds 0 (xs s)) B0.w e w')
theorem lO_ren {ρ : Nat → Nat} {T : TypeId} {xs zs : List EV} {len : Nat} {l : Lst} (hl : lOk zs len l) (hx : closeds 0 xs) (hz : closeds 0 zs) : (lO T xs l).map (EObj.ren ρ) = lO T xs l := by
  cases h : lO T xs l with
  | none => rfl
  | some o =>
    simp only [Option.map_some]
    congr 1
    exact EObj.ren_id (n := 0) (fun i hi => absurd hi (Nat.not_lt_zero i)) o (lO_closed (n := 0) hl hx hz h).2
theorem callB_own {C : Cx} {K : X → Prop} {f : FuncId} {args : List EV} {dst : Option Tmp} {x : X} {S : Type} {T : TypeId} {zs : List EV} {nf : S → Nat} {xs : S → List EV} {ls : S → Lst} {R : S → Base → Prop} (h : Owns C.P f T zs args x.B nf xs ls R) (hz : closeds 0 zs)
    (hk : ∀ s B', BExt x.B B' → R s B' → lOk zs (nf s) (ls s) → closeds 0 (xs s) → K { σ := put x.σ dst (lE x.n (nf s) (ls s)), n := x.n + 1, hs := (x.n, lO T (xs s) (ls s)) :: x.hs, B := B', ms := x.ms }) : CallB C f args dst x K := by
  refine callB_g (fun s => lE 0 (nf s) (ls s)) (fun _ => 1) (fun s => [lO T (xs s) (ls s)]) (fun s B' => R s B' ∧ lOk zs (nf s) (ls s) ∧ closeds 0 (xs s)) [] h.en (by simp) (by simp) (fun s => ⟨by simp, by simp⟩) (fun bs w hh => ?_) (fun s B' hE hR => ?_)
  · rw [reals_closed0 bs (fun _ => 0) h.cl]
    exact h.run ⟨w, x.B.D⟩ hh.ext (fun b hb => (hh.frame b hb).1)
  · obtain ⟨h1, h2, h3⟩ := hR
    have := hk s B' hE h1 h2 h3
    have e1 : ren (rho [] x.n) (lE 0 (nf s) (ls s)) = lE x.n (nf s) (ls s) := by rw [lE_ren]; rfl
    have e2 : addW (rho [] x.n) 0 [lO T (xs s) (ls s)] x.hs = (x.n, lO T (xs s) (ls s)) :: x.hs := by
      have := lO_ren (ρ := rho [] x.n) (T := T) h2 h3 hz
      cases hc : lO T (xs s) (ls s) with
      | none => rfl
      | some o =>
        rw [hc] at this
        simp only [Option.map_some, Option.some.injEq] at this
        simp only [addW, this]
        rfl
    simp only [e1, e2, List.length_nil, Nat.sub_zero]
    exact this
theorem callS_own {C : Cx} {Q : Exit → X → Prop} {f : FuncId} {args : List EV} {dst : Option Tmp} {st : List It} {x : X} {S : Type} {T : TypeId} {zs : List EV} {nf : S → Nat} {xs : S → List EV} {ls : S → Lst} {R : S → Base → Prop} (h : Owns C.P f T zs args x.B nf xs ls R) (hz : closeds 0 zs)
    (hk : ∀ s B', BExt x.B B' → R s B' → lOk zs (nf s) (ls s) → closeds 0 (xs s) → Next C Q st { σ := put x.σ dst (lE x.n (nf s) (ls s)), n := x.n + 1, hs := (x.n, lO T (xs s) (ls s)) :: x.hs, B := B', ms := x.ms }) : callS C Q f args dst st x :=
  fun _ => .inr (callB_own h hz hk)
/-- A new block's name, changed into one that nobody used. -/
theorem name_sub {C : Cx} {x : X} {bs0 : Nat → Nat} {a0 : Act} {w0 : World} (hr0 : Rel C x bs0 a0 w0) {r' len : Nat} (hav : Av r' x) (hold : C.olds.length ≤ r') {dst : Option Tmp} {T : TypeId} {xs zs : List EV} {l' : Lst} (hl' : lOk zs len l') (hxn0 : closeds 0 xs) (hz0 : closeds 0 zs) (B' : Base) :
    Sub C { σ := put x.σ dst (lE x.n len l'), n := x.n + 1, hs := (x.n, lO T xs l') :: x.hs, B := B', ms := x.ms } { σ := put x.σ dst (lE r' len l'), n := x.n, hs := (r', lO T xs l') :: x.hs, B := B', ms := x.ms } := by
  have hρ : ∀ i, i ≠ r' → (fun i => if i = r' then x.n else i) i = i := fun i hi => if_neg hi
  have hw : WeakR C (fun i => if i = r' then x.n else i) { σ := put x.σ dst (lE x.n len l'), n := x.n + 1, hs := (x.n, lO T xs l') :: x.hs, B := B', ms := x.ms }
      { σ := put x.σ dst (lE r' len l'), n := x.n, hs := (r', lO T xs l') :: x.hs, B := B', ms := x.ms } := by
    have hlive : ∀ i o', hget ((r', lO T xs l') :: x.hs) i = some o' → (i = r' ∧ lO T xs l' = some o') ∨ (i ≠ r' ∧ hget x.hs i = some o') := by
      intro i o' hi
      rw [hget_cons] at hi
      by_cases e : r' = i
      · rw [if_pos e] at hi; exact .inl ⟨e.symm, hi⟩
      · rw [if_neg e] at hi; exact .inr ⟨Ne.symm e, hi⟩
    refine ⟨fun t => .inr ?_, fun i o' hi => ?_, fun t => ?_, fun i o' hi => ?_, fun i j oi oj hi hj hij => ?_, ?_, fun i hi => ?_, rfl, ?_, hr0.t.msin⟩
    · simp only [tget_put]
      split
      · rw [lE_ren]; simp
      · exact ren_av hρ _ (hav.σ t)
    · rcases hlive i o' hi with ⟨rfl, h1⟩ | ⟨h1, h3⟩
      · simp only [if_true, hget_cons, h1]
        congr 1
        exact (EObj.ren_id (n := 0) (fun i hi => absurd hi (Nat.not_lt_zero i)) o' (lO_closed (n := 0) hl' hxn0 hz0 h1).2).symm
      · have hlt := (hr0.h.live i o' h3).1
        simp only [if_neg h1, hget_cons]
        rw [if_neg (by omega), h3]
        congr 1
        exact (EObj.ren_av hρ o' (hav.hs i o' h3).2).symm
    · simp only [tget_put]
      split
      · exact lE_closed hav.n
      · exact hr0.t.cl t
    · rcases hlive i o' hi with ⟨rfl, h1⟩ | ⟨h1, h3⟩
      · exact ⟨hav.n, (lO_closed hl' hxn0 hz0 h1).1⟩
      · exact ⟨(hr0.h.live i o' h3).1, hr0.h.cl i o' h3⟩
    · rcases hlive i oi hi with ⟨rfl, h1⟩ | ⟨h1, h3⟩ <;> rcases hlive j oj hj with ⟨rfl, k1⟩ | ⟨k1, k3⟩
      · rfl
      · have := (hr0.h.live j oj k3).1
        simp only [if_true, if_neg k1] at hij; omega
      · have := (hr0.h.live i oi h3).1
        simp only [if_true, if_neg h1] at hij; omega
      · simpa only [if_neg h1, if_neg k1] using hij
    · have := hav.n; show C.olds.length ≤ x.n; omega
    · show (if i = r' then x.n else i) = i; rw [if_neg (by omega)]
    · simp only
      conv => lhs; rw [← List.map_id x.ms]
      refine List.map_congr_left fun i hi => ?_
      have : i ≠ r' := fun e => hav.ms (e ▸ hi)
      simp [this]
  exact hw.sub
theorem callT_own {C : Cx} {Q : Exit → X → Prop} {ops : List Oper} {st : List It} {f : FuncId} {args : List EV} {acc : List Nd} {i : Nat} {o : Oper} {ord : List Nat} {x : X} {S : Type} {T : TypeId} {zs : List EV} {nf : S → Nat} {xs : S → List EV} {ls : S → Lst} {R : S → Base → Prop} (d : Nat) (h : Owns C.P f T zs args x.B nf xs ls R) (hz : closeds 0 zs) (hdst : o.dst = some d) (hold : C.olds.length ≤ 100000 + d) (hdep : depL ops [i] ord = true)
    (hck : Ck ((i, o, { dst := o.dst, v := .any, ups := [(100000 + d, none)], a := 0, looks := opLooks o.op ++ gLook ops o.guard, foot := [], nm := [100000 + d] }, true) :: acc).reverse)
    (hk : allIn C.N ops = true → ∀ s B', BExt x.B B' → R s B' → lOk zs (nf s) (ls s) → closeds 0 (xs s) → DT C Q ops st ((i, o, { dst := o.dst, v := lE (100000 + d) (nf s) (ls s), ups := [(100000 + d, lO T (xs s) (ls s))], a := 0, looks := opLooks o.op ++ gLook ops o.guard, foot := [], nm := [100000 + d] }, true) :: acc) ord
      { σ := put x.σ o.dst (lE (100000 + d) (nf s) (ls s)), n := x.n, hs := (100000 + d, lO T (xs s) (ls s)) :: x.hs, B := B', ms := x.ms }) : callT C Q ops st f args acc i o ord x := by
  refine ⟨false, { dst := o.dst, v := .any, ups := [(100000 + d, none)], a := 0, looks := opLooks o.op ++ gLook ops o.guard, foot := [], nm := [100000 + d] }, S, fun s => { dst := o.dst, v := lE (100000 + d) (nf s) (ls s), ups := [(100000 + d, lO T (xs s) (ls s))], a := 0, looks := opLooks o.op ++ gLook ops o.guard, foot := [], nm := [100000 + d] },
    fun s B' => R s B' ∧ lOk zs (nf s) (ls s) ∧ closeds 0 (xs s), fun t h => h, fun y hy => .inr (.inr fun bs a w hr => ?_), hdep, hck, fun _ => ⟨rfl, rfl, rfl, rfl, rfl, rfl⟩, fun hin s B' hB hR => hk hin s B' hB hR.1 hR.2.1 hR.2.2⟩
  have hy' : Owns C.P f T zs args y.B nf xs ls R := ⟨h.en, h.cl, fun B0 hB => h.run B0 (hy.B.trans hB)⟩
  refine callB_own hy' hz (fun s B' hB hR hl hx => ⟨_, name_sub hr (hy.nm _ (by simp)) hold hl hx hz B', s, B', hB, ⟨hR, hl, hx⟩, Alike.rfl' _⟩)
theorem owns_of {S : Type} {P : Program} {f : FuncId} {fn : Func} {c : Code} {T : TypeId} {zs : List EV} {args : List EV} {B : Base} {nf : S → Nat} {xs : S → List EV} {ls : S → Lst} {R : S → Base → Prop} (hE : Enters P f) (hRm : ∀ s B B', BExt B B' → R s B → R s B')
    (hf : P.funcs[f]? = some fn) (hb : fn.body = some c) (hin : codeIn fn.ntmps c = true) (hl : args.length ≤ fn.ntmps) (hcl : closeds 0 args)
    (h : ∀ B0, BExt B B0 → Next (cxG P fn.ntmps B0.w B0.D []) (retE (cxG P fn.ntmps B0.w B0.D []) fn.results.toList (fun v x => BExt B0 x.B ∧ ∃ s, v = lE 0 (nf s) (ls s) ∧ hget x.hs 0 = lO T (xs s) (ls s) ∧ R s x.B ∧ lOk zs (nf s) (ls s) ∧ closeds 0 (xs s))) [.c c] ⟨argσ 0 args, 0, [], B0, []⟩) (hz : closeds 0 zs) : Owns P f T zs args B nf xs ls R := by
  refine ⟨hE, hcl, fun B0 hw hlt => ?_⟩
  obtain ⟨w, D⟩ := B0
  simp only at hlt
  have h1 := calls_of (C := cxG P fn.ntmps w D []) (B := ⟨w, D⟩) (bs := fun _ => 0) (n := 0) (hs := []) (K := fun v x => BExt ⟨w, D⟩ x.B ∧ ∃ s, v = lE 0 (nf s) (ls s) ∧ hget x.hs 0 = lO T (xs s) (ls s) ∧ R s x.B ∧ lOk zs (nf s) (ls s) ∧ closeds 0 (xs s)) rfl hf hb rfl hin hl
    (by
      have := HRel.startG (P := P) (N := fn.ntmps) (w := w) (D := D) (olds := []) (objs := []) (fun b hb => ⟨hlt b hb, by simp⟩) rfl (by simp) (fun i b o hi => by simp at hi)
      exact ⟨by simp [hget], by simp [hget], by simp [hget], by simp, by simp [hget], this.frame, rfl, rfl, rfl, Nat.le_refl _, by simp [hget], this.frameE, this.apart, Nat.le_refl _, rfl, rfl, rfl⟩) hcl (h ⟨w, D⟩ hw)
  refine h1.mono ?_
  rintro e w' ⟨v, x', bs', rfl, hcv, hr, hE', s, rfl, hg, hR, hlk, hxs⟩
  have hlow : ∀ k, k < w.heap.size → ¬ D k ∨ D k := fun k _ => (Classical.em _).symm
  have hent : ∀ i o, [lO T (xs s) (ls s)][i]? = some (some o) → i = 0 ∧ hget x'.hs 0 = some o ∧ lO T (xs s) (ls s) = some o := by
    intro i o hi
    cases i with
    | zero => simp at hi; exact ⟨rfl, by rw [hg, hi], hi⟩
    | succ i => simp at hi
  refine ⟨s, bs', rfl, lE_closed (by omega), ⟨hr.eo.1, fun k hk => ?_, hr.eo.2.1, hr.eo.2.2.1, hr.eo.2.2.2⟩, fun i b hi => by simp at hi, fun i o hi => ?_, fun i j oi oj hi hj _ => by rw [(hent i oi hi).1, (hent j oj hj).1], hRm s x'.B _ ⟨fun b hb => ?_, fun b hb => (hr.frame b hb).2, hr.hsize, hr.os, hr.tape, hr.output⟩ hR, hlk, hxs⟩
  · rcases hlow k hk.1 with h | h
    · exact (hr.frameE k ⟨hk.1, h, by simp⟩).2
    · exact ((hr.frame k (hE'.D k h)).2).trans (hE'.same k h)
  · obtain ⟨rfl, h1, h2⟩ := hent i o hi
    refine ⟨(lO_closed hlk hxs hz h2).1, (hr.live 0 o h1).2, .inl ?_⟩
    rcases Nat.lt_or_ge (bs' 0) w.heap.size with hlt' | hge
    · rcases hlow _ hlt' with h | h
      · exact absurd ⟨hlt', h, by simp⟩ (hr.newE 0 o h1)
      · exact absurd (hE'.D _ h) (hr.new 0 o h1)
    · exact hge
  · have hbw := (hr.frame b hb).1
    have hnn : ¬ named bs' [lO T (xs s) (ls s)] b := by
      rintro ⟨i, o, hi, rfl⟩
      obtain ⟨rfl, h1, _⟩ := hent i o hi
      exact hr.new 0 o h1 hb
    rcases Nat.lt_or_ge b w.heap.size with hlt' | hge
    · rcases hlow _ hlt' with h | h
      · exact absurd hb (hr.apart b ⟨hlt', h, by simp⟩)
      · exact .inl h
    · exact .inr ⟨.inl hge, hbw, hnn⟩
end Go.Ew
set_option linter.unusedSimpArgs false
set_option linter.unusedVariables false
namespace Go.Ew
open Go RowKit
/-! ### append to nil, in a region that draws its order -/
theorem appNT {C : Cx} {Q : Exit → X → Prop} {ops : List Oper} {st : List It} {acc : List Nd} {i : Nat} {o : Oper} {ord : List Nat} {x : X} {tb : Nat} {t t2 T : TypeId} (d : Nat) {m : Nat} {b' : EV} {news zs : List EV} (fb : List Nat)
    (hop : o.op = .call { callee := .builtin .append, args := #[.const (.slice none 0 0), .tmp tb], argTypes := #[t, t2] }) (hdst : o.dst = some d)
    (ht : C.P.underlying t = some (.slice T)) (ht2 : (∃ e', C.P.underlying t2 = some (.slice e')) ∨ C.P.underlying t2 = some .string)
    (hz : zeroOf C.P T = some zs) (hcz : C.P.cellsOf T = zs.length) (hzne : zs ≠ []) (hz0 : closeds 0 zs)
    (hb : tget x.σ tb = b')
    (hsrc : ∀ B hs, BExt x.B B → (∀ i ∈ fb, hget hs i = hget x.hs i) → ∃ c, srcOf B hs zs.length b' = some (m, news, c) ∧ c) (hone : oneAll news = true) (hn0 : closeds 0 news)
    (hmax : m ≤ maxLen) (hby : m * C.P.bytesOf T ≤ 140737488355328) (hold : C.olds.length ≤ 100000 + d) (hdep : depL ops [i] ord = true)
    (hck : Ck ((i, o, { dst := o.dst, v := .any, ups := [(100000 + d, none)], a := 0, looks := [tb] ++ gLook ops o.guard, foot := fb, nm := [100000 + d] }, true) :: acc).reverse)
    (hk : ∀ l', lOk zs m l' → DT C Q ops st ((i, o, { dst := o.dst, v := lE (100000 + d) m l', ups := [(100000 + d, lO T news l')], a := 0, looks := [tb] ++ gLook ops o.guard, foot := fb, nm := [100000 + d] }, true) :: acc) ord
      { σ := put x.σ o.dst (lE (100000 + d) m l'), n := x.n, hs := (100000 + d, lO T news l') :: x.hs, B := x.B, ms := x.ms }) : specT C Q ops st acc i o ord x := by
  intro ho hrun hd hin
  refine dt_fam (sm := true) (S := Lst) (R := fun l' _ => lOk zs m l') ho hd hdep (locB_of_goes (fun t ht => by simp [ht]) hrun (K := fun y z => ∃ s B', Gon true y.B B' ∧ lOk zs m s ∧ Alike z (Ef.appB { dst := o.dst, v := lE (100000 + d) m s, ups := [(100000 + d, lO T news s)], a := 0, looks := [tb] ++ gLook ops o.guard, foot := fb, nm := [100000 + d] } B' y)) (fun y hy => ?_)) hck (fun _ => ⟨rfl, rfl, rfl, rfl, rfl, rfl⟩) (fun s B' hB hR => ?_)
  · obtain ⟨c', hs1, hs2⟩ := hsrc y.B y.hs hy.B (fun j hj => hy.hs j hj)
    have hav := hy.nm (100000 + d) (by simp)
    have hno : hget y.hs (100000 + d) = none := by
      cases h : hget y.hs (100000 + d) with
      | none => rfl
      | some o' => exact absurd rfl (hav.hs _ o' h).1
    refine goes_mono (append_goes (l := none) (xs := []) (100000 + d) (100000 + d) 0 hop ht ht2 hz hcz hzne hz0 (a := .const (.slice none 0 0)) (b := .tmp tb) (x := y) rfl (by simp only [ev]; rw [hy.σ tb (by simp)]; exact hb) (by rw [hno]; rfl) rfl (by simp) trivial hs1 hs2 hone hn0 (by simpa using hmax) (by simpa using hby) hd hav hold) ?_
    rintro z ⟨l', h1, h2⟩
    rw [Nat.zero_add] at h1
    refine ⟨l', y.B, rfl, h1, h2.trans ⟨fun t => by simp only [Nat.zero_add, Ef.appB], rfl, fun j => ?_, rfl, rfl⟩⟩
    simp only [Ef.appB, List.nil_append, List.cons_append, hget_cons]
    split <;> rfl
  · have hB : B' = x.B := hB
    subst hB
    exact hk s hR
theorem appNBT {C : Cx} {Q : Exit → X → Prop} {ops : List Oper} {st : List It} {acc : List Nd} {i : Nat} {o : Oper} {ord : List Nat} {x : X} {tb : Nat} {t t2 T : TypeId} (d : Nat) (ys : List UInt8) (fb : List Nat)
    (hop : o.op = .call { callee := .builtin .append, args := #[.const (.slice none 0 0), .tmp tb], argTypes := #[t, t2] }) (hdst : o.dst = some d)
    (ht : C.P.underlying t = some (.slice T)) (ht2 : (∃ e', C.P.underlying t2 = some (.slice e')) ∨ C.P.underlying t2 = some .string)
    (hz : zeroOf C.P T = some [.int .u8 0]) (hcz : C.P.cellsOf T = 1) (hb1 : C.P.bytesOf T = 1)
    (hsrc : ∀ B hs, BExt x.B B → (∀ i ∈ fb, hget hs i = hget x.hs i) → ∃ c, srcOf B hs 1 (tget x.σ tb) = some (ys.length, ys.map bE, c) ∧ c)
    (hmax : ys.length ≤ 140737488355328) (hold : C.olds.length ≤ 100000 + d) (hdep : depL ops [i] ord = true)
    (hck : Ck ((i, o, { dst := o.dst, v := .any, ups := [(100000 + d, none)], a := 0, looks := [tb] ++ gLook ops o.guard, foot := fb, nm := [100000 + d] }, true) :: acc).reverse)
    (hk : ∀ l', lOk [.int .u8 0] ys.length l' → DT C Q ops st ((i, o, { dst := o.dst, v := lE (100000 + d) ys.length l', ups := [(100000 + d, lO T (ys.map bE) l')], a := 0, looks := [tb] ++ gLook ops o.guard, foot := fb, nm := [100000 + d] }, true) :: acc) ord
      { σ := put x.σ o.dst (lE (100000 + d) ys.length l'), n := x.n, hs := (100000 + d, lO T (ys.map bE) l') :: x.hs, B := x.B, ms := x.ms }) : specT C Q ops st acc i o ord x :=
  appNT (zs := [.int .u8 0]) (news := ys.map bE) d fb hop hdst ht ht2 hz hcz (by simp) hz8 rfl hsrc (oneAll_bE _) (closeds_bE 0 _) (by simp only [maxLen]; omega) (by rw [hb1]; omega) hold hdep hck hk
end Go.Ew
set_option linter.unusedSimpArgs false
set_option linter.unusedVariables false
namespace Go.Ew
open Go RowKit
/-! ### names kept, where some blocks hold what has no names -/
def ersO (ks : List Nat) (p : Nat × Option EObj) : Nat × Option EObj := bif ks.any (Nat.beq p.1) then (p.1, none) else p
def ersN (ks : List Nat) (p : Nd) : Nd := (p.1, p.2.1, { p.2.2.1 with ups := p.2.2.1.ups.map (ersO ks) }, p.2.2.2)
def upsOk (ks : List Nat) : List (Nat × Option EObj) → Prop
  | [] => True
  | (k, o) :: l => (bif ks.any (Nat.beq k) then ∀ o', o = some o' → ∀ r, o'.av r else True) ∧ upsOk ks l
def erOk (ks : List Nat) : List Nd → Prop
  | [] => True
  | p :: l => upsOk ks p.2.2.1.ups ∧ erOk ks l
theorem offU_er {ks : List Nat} {r : Nat} : ∀ {l : List (Nat × Option EObj)}, offU r (l.map (ersO ks)) = true → upsOk ks l → ∀ k o, (k, o) ∈ l → k ≠ r ∧ ∀ o', o = some o' → o'.av r
  | [], _, _, _, _, h => by cases h
  | (k, o) :: l, h, hu, k', o', hm => by
    obtain ⟨hu1, hu2⟩ := hu
    rw [List.map_cons] at h
    rcases List.mem_cons.1 hm with e | hm
    · cases e
      cases hk : ks.any (Nat.beq k) with
      | true =>
        rw [hk] at hu1
        simp only [ersO, hk, cond_true, offU, Bool.and_eq_true] at h
        exact ⟨nbeq h.1.1, fun o' ho => hu1 o' ho r⟩
      | false =>
        simp only [ersO, hk, cond_false, offU, Bool.and_eq_true] at h
        refine ⟨nbeq h.1.1, fun o' ho => ?_⟩
        subst ho
        cases o' with
        | cells cs T fr => exact avsB_spec cs h.1.2
        | obj o => trivial
    · refine offU_er (l := l) ?_ hu2 k' o' hm
      have : ∀ q : Nat × Option EObj, offU r (q :: l.map (ersO ks)) = true → offU r (l.map (ersO ks)) = true := fun q hq => by
        obtain ⟨a, b⟩ := q
        simp only [offU, Bool.and_eq_true] at hq; exact hq.2
      exact this _ h
theorem offB_er {ks : List Nat} {r : Nat} {E : Ef} (h : offB r { E with ups := E.ups.map (ersO ks) } = true) (hu : upsOk ks E.ups) : E.off r := by
  simp only [offB, Bool.and_eq_true] at h
  exact ⟨avB_spec _ h.1, offU_er h.2 hu⟩
theorem nmW_er {ks : List Nat} {p : Nd} (hp : upsOk ks p.2.2.1.ups) : ∀ {l : List Nd}, nmWB (ersN ks p) (l.map (ersN ks)) = true → erOk ks l → nmW p l
  | [], _, _ => trivial
  | q :: r, h, hu => by
    simp only [List.map_cons, nmWB, nmPB, ersN, Bool.and_eq_true, Bool.or_eq_true, List.all_eq_true] at h
    obtain ⟨⟨h1, h2⟩, h3⟩ := h
    refine ⟨⟨?_, fun r' hr' => offB_er (h2 r' hr') hp⟩, nmW_er hp h3 hu.2⟩
    rcases h1 with h1 | h1
    · exact .inl h1
    · refine .inr fun r' hr' => ?_
      rcases h1 r' hr' with h | h
      · exact .inl h
      · exact .inr (offB_er h hu.1)
theorem nmT_er (ks : List Nat) : ∀ {l : List Nd}, nmB (l.map (ersN ks)) = true → erOk ks l → nmT l
  | [], _, _ => trivial
  | p :: r, h, hu => by
    simp only [List.map_cons, nmB, Bool.and_eq_true, List.all_eq_true] at h
    obtain ⟨⟨h1, h2⟩, h3⟩ := h
    refine ⟨fun r' hr' => ?_, nmW_er hu.1 h2 hu.2, nmT_er ks h3 hu.2⟩
    obtain ⟨a, b⟩ := h1 r' hr'
    exact ⟨Nat.le_of_ble_eq_true a, Nat.le_of_ble_eq_true b⟩
theorem erOk_iff {ks : List Nat} : ∀ {l : List Nd}, erOk ks l ↔ ∀ p ∈ l, upsOk ks p.2.2.1.ups
  | [] => by simp [erOk]
  | p :: l => by simp only [erOk, erOk_iff (l := l), List.forall_mem_cons]
theorem nmT_rv (ks : List Nat) {l : List Nd} (h : nmB (l.reverse.map (ersN ks)) = true) (hu : erOk ks l) : nmT l.reverse :=
  nmT_er ks h (erOk_iff.2 fun p hp => erOk_iff.1 hu p (List.mem_reverse.1 hp))
mutual
theorem av_closed0 {r : Nat} : ∀ v, closed 0 v → av r v
  | .any, _ | .int _ _, _ | .bool _, _ | .str _, _ | .raw _, _ => by simp [av]
  | .ptr i _, h => by simp [closed] at h
  | .sl i _ _ _, h => by simp [closed] at h
  | .mp i, h => by simp [closed] at h
  | .fn _ a c, h => by simp only [closed] at h; simp only [av]; exact ⟨avs_closed0 a h.1, avs_closed0 c h.2⟩
  | .agg cs, h => by simp only [closed] at h; simp only [av]; exact avs_closed0 cs h
  | .tup vs, h => by simp only [closed] at h; simp only [av]; exact avs_closed0 vs h
  | .ifc _ v, h => by simp only [closed] at h; simp only [av]; exact av_closed0 v h
theorem avs_closed0 {r : Nat} : ∀ l, closeds 0 l → avs r l
  | [], _ => by simp [avs]
  | v :: vs, h => by simp only [closeds] at h; simp only [avs]; exact ⟨av_closed0 v h.1, avs_closed0 vs h.2⟩
end
theorem none_av : ∀ o' : EObj, none = some o' → ∀ r, o'.av r := fun o' ho => by cases ho
theorem lO_av {T : TypeId} {xs zs : List EV} {len : Nat} {l : Lst} (hl : lOk zs len l) (hx : closeds 0 xs) (hz : closeds 0 zs) : ∀ o', lO T xs l = some o' → ∀ r, o'.av r := fun o' ho r => by
  have h0 := (lO_closed (n := 0) hl hx hz ho).2
  cases o' with
  | cells cs T' fr => exact avs_closed0 cs h0
  | obj o => trivial
theorem cells_av {cs : List EV} {T : TypeId} {fr : Nat × Nat} (h : closeds 0 cs) : ∀ o', some (EObj.cells cs T fr) = some o' → ∀ r, o'.av r := fun o' ho r => by
  cases ho
  exact avs_closed0 cs h
end Go.Ew
set_option linter.unusedSimpArgs false
set_option linter.unusedVariables false
namespace Go.Ew
open Go RowKit
/-! ### maps: made, written while one's own, read as a part of the base or as one's own -/
theorem mapMakeS {C : Cx} {Q : Exit → X → Prop} {o : Oper} {st : List It} {x : X} {T : TypeId} (hop : o.op = .makeMap T none)
    (hk : Next C Q st { σ := put x.σ o.dst (.mp x.n), n := x.n + 1, hs := (x.n, some (.obj (.map #[] 0))) :: x.hs, B := x.B, ms := x.ms }) : opS C Q o st x := by
  intro hd bs ac w hr Q'
  obtain ⟨dst, op, type, pos, after, guard⟩ := o
  simp only at hop hd hk; subst hop
  refine ⟨fun _ _ => trivial, ?_⟩
  rw [Oper.semAt_eq _ _ _ (by intro c; simp)]
  have hrun : (execOp ac.eval { dst := dst, op := .makeMap T none, type := type, pos := pos, after := after, guard := guard }).run C.P w = .ok (.value (real (upd bs x.n w.heap.size) (.mp x.n))) { w with heap := w.heap.push ((EObj.obj (.map #[] 0)).real bs) } := by
    simp [execOp, Instr.makeMap, newObj, Sem.run, real, upd_self, EObj.real]
  rw [hrun]
  exact ⟨_, upd bs x.n w.heap.size, ⟨hr.t.next (Nat.le_succ _) upd_lt hd (.inr rfl) (by simp [closed]), hr.h.alloc (.obj (.map #[] 0)) trivial⟩, hk⟩
/-- What an entry more makes of a map. -/
def MapSet (es : Array MapEntry) (clock : Nat) (K V : Value) (es' : Array MapEntry) : Prop :=
  ((∀ e ∈ es.toList, e.key ≠ K) ∧ es'.toList = es.toList ++ [⟨K, V, clock⟩]) ∨ ∃ j e, es.toList[j]? = some e ∧ e.key = K ∧ es'.toList = es.toList.set j ⟨K, V, e.born⟩
def MapKeys (P : Program) (kt : TypeId) (es : Array MapEntry) : Prop := ∀ e ∈ es.toList, ∃ l, keyOf P kt e.key = some l
theorem MapKeys.nil {P : Program} {kt : TypeId} : MapKeys P kt #[] := fun e he => by simp at he
theorem MapKeys.set {P : Program} {kt : TypeId} {es es' : Array MapEntry} {clock : Nat} {K V : Value} {kl : Lit} (h : MapKeys P kt es) (hK : keyOf P kt K = some kl) (hs : MapSet es clock K V es') : MapKeys P kt es' := fun e he => by
  rcases hs with ⟨_, h2⟩ | ⟨j, e0, h1, h2, h3⟩
  · rw [h2, List.mem_append, List.mem_singleton] at he
    rcases he with he | rfl
    · exact h e he
    · exact ⟨kl, hK⟩
  · rw [h3] at he
    rcases List.mem_or_eq_of_mem_set he with he | rfl
    · exact h e he
    · exact ⟨kl, hK⟩
theorem modify_toList_set {es : Array MapEntry} {j : Nat} {e : MapEntry} (f : MapEntry → MapEntry) (h : es[j]? = some e) : (es.modify j f).toList = es.toList.set j (f e) := by
  apply List.ext_getElem?
  intro q
  rw [Array.getElem?_toList, Array.getElem?_modify, List.getElem?_set]
  have hj : j < es.toList.length := by
    rcases Nat.lt_or_ge j es.size with h1 | h1
    · simpa using h1
    · rw [Array.getElem?_eq_none h1] at h; cases h
  by_cases hq : j = q
  · subst hq; simp [h, hj]; exact hj
  · simp [hq]
theorem run_mapSet {P : Program} {w : World} {b : Nat} {t kt et : TypeId} {es : Array MapEntry} {clock : Nat} {K V : Value} {kl : Lit} (L : WideMaps.KeyLaw P kt) (ht : P.underlying t = some (.map kt et)) (hb : w.heap[b]? = some (.map es clock)) (hes : MapKeys P kt es) (hK : keyOf P kt K = some kl) :
    ∃ es' clock', (Instr.mapUpdate t (.map (some b)) K V).run P w = .ok () (setBlk w b (.map es' clock')) ∧ MapSet es clock K V es' := by
  rcases L.find w hK es.toList hes with ⟨h1, h2⟩ | ⟨j, e0, h1, h2, h3⟩
  · refine ⟨es.push ⟨K, V, clock⟩, clock + 1, ?_, .inl ⟨h2, by simp⟩⟩
    simp [Instr.mapUpdate, run_underlying _ _ _ _ ht, MapKept.run_getObj_map hb, L.check w false hK, h1, MapKept.run_setObj_map _ hb, Result.andThen, setBlk]
  · have hj : es[j]? = some e0 := by simpa using h2
    refine ⟨es.modify j (fun e' => { e' with key := K, val := V }), clock, ?_, .inr ⟨j, e0, h2, h3, by rw [modify_toList_set _ hj]⟩⟩
    simp [Instr.mapUpdate, run_underlying _ _ _ _ ht, MapKept.run_getObj_map hb, L.check w false hK, h1, hj, h3, L.stays w hK, MapKept.run_setObj_map _ hb, Result.andThen, setBlk]
theorem mapSetS {C : Cx} {Q : Exit → X → Prop} {o : Oper} {st : List It} {x : X} {t kt et : TypeId} {m k v : Operand} (i : Nat) {es : Array MapEntry} {clock : Nat} {K V : Value} {kl : Lit} (hop : o.op = .mapUpdate t m k v) (L : WideMaps.KeyLaw C.P kt)
    (ht : C.P.underlying t = some (.map kt et)) (hm : ev x.σ m = .mp i) (hkn : (ev x.σ k).isAny = false) (hvn : (ev x.σ v).isAny = false) (hKr : ∀ bs, real bs (ev x.σ k) = K) (hVr : ∀ bs, real bs (ev x.σ v) = V)
    (hg : hget x.hs i = some (.obj (.map es clock))) (hes : MapKeys C.P kt es) (hK : keyOf C.P kt K = some kl)
    (hk : ∀ es' clock', MapSet es clock K V es' → Next C Q st { σ := put x.σ o.dst (.tup []), n := x.n, hs := (i, some (.obj (.map es' clock'))) :: x.hs, B := x.B, ms := x.ms }) : opS C Q o st x := by
  intro hd bs ac w hr Q'
  obtain ⟨dst, op, type, pos, after, guard⟩ := o
  simp only at hop hd hk; subst hop
  have em := eval_ev hr.t m (by rw [hm]; simp)
  have ek := eval_ev hr.t k (by intro e; rw [e] at hkn; simp [EV.isAny] at hkn)
  have ee := eval_ev hr.t v (by intro e; rw [e] at hvn; simp [EV.isAny] at hvn)
  rw [hm] at em; rw [hKr] at ek; rw [hVr] at ee
  have hlive := (hr.h.live i _ hg).2
  simp only [EObj.real] at hlive
  obtain ⟨es', clock', h1, h2⟩ := run_mapSet (V := V) L ht hlive hes hK
  refine ⟨fun _ _ => trivial, ?_⟩
  rw [Oper.semAt_eq _ _ _ (by intro c; simp)]
  have hrun : (execOp ac.eval { dst := dst, op := .mapUpdate t m k v, type := type, pos := pos, after := after, guard := guard }).run C.P w = .ok .skip (setBlk w (bs i) ((EObj.obj (.map es' clock')).real bs)) := by
    simp only [execOp, em, ek, ee, real, Sem.run_bind, h1, Result.andThen_ok, Sem.run_pure, EObj.real]
  rw [hrun]
  exact ⟨_, bs, ⟨hr.t.next (Nat.le_refl _) (fun _ _ => rfl) hd (v := .tup []) (.inr (by simp [real, reals, undef])) (by simp [closed, closeds]), hr.h.store hg (.obj (.map es' clock')) trivial⟩, hk es' clock' h2⟩
/-- A map that is read: what it holds. -/
def mapOf (B : Base) (hs : List (Nat × Option EObj)) (m : EV) (es : Array MapEntry) : Prop :=
  (∃ b clock, m = .raw (.map (some b)) ∧ B.D b ∧ B.w.heap[b]? = some (.map es clock)) ∨ ∃ i clock, m = .mp i ∧ hget hs i = some (.obj (.map es clock))
theorem mapOf_real {C : Cx} {x : X} {bs : Nat → Nat} {w : World} {m : EV} {es : Array MapEntry} (hh : HRel C x.B x.n x.hs bs w) (h : mapOf x.B x.hs m es) : ∃ b clock, real bs m = .map (some b) ∧ w.heap[b]? = some (.map es clock) ∧ m.isAny = false := by
  rcases h with ⟨b, clock, rfl, hD, hb⟩ | ⟨i, clock, rfl, hg⟩
  · exact ⟨b, clock, rfl, (hh.frame b hD).2.trans hb, rfl⟩
  · exact ⟨bs i, clock, rfl, (hh.live i _ hg).2, rfl⟩
theorem not_any {v : EV} (h : v.isAny = false) : v ≠ .any := by rintro rfl; cases h
theorem mapLenS {C : Cx} {Q : Exit → X → Prop} {o : Oper} {st : List It} {x : X} {t kt et : TypeId} {m : Operand} {es : Array MapEntry} (n : Nat) (hop : o.op = .call { callee := .builtin .len, args := #[m], argTypes := #[t] })
    (ht : C.P.underlying t = some (.map kt et)) (hm : mapOf x.B x.hs (ev x.σ m) es) (hn : es.size = n)
    (hk : Next C Q st { σ := put x.σ o.dst (.int .i64 (n : Nat)), n := x.n, hs := x.hs, B := x.B, ms := x.ms }) : opS C Q o st x := by
  subst hn
  refine valueS (.int .i64 (es.size : Nat)) (by rw [hop]; simp) trivial ?_ hk
  intro bs ac w hr
  obtain ⟨dst, op, type, pos, after, guard⟩ := o
  simp only at hop; subst hop
  obtain ⟨b, clock, h1, h2, h3⟩ := mapOf_real hr.h hm
  have em := eval_ev hr.t m (not_any h3)
  rw [h1] at em
  simp [execOp, resolve, invoke, builtin, Builtin.len_, em, run_underlying _ _ _ _ ht, MapKept.run_getObj_map h2, goInt, real, Result.andThen]
theorem run_mapGet {P : Program} {w : World} {b : Nat} {t kt et : TypeId} {es : Array MapEntry} {clock : Nat} {K Z : Value} {kl : Lit} (ok : Bool) (L : WideMaps.KeyLaw P kt) (ht : P.underlying t = some (.map kt et)) (hz : (zeroValue et).run P w = .ok Z w) (hb : w.heap[b]? = some (.map es clock)) (hes : MapKeys P kt es) (hK : keyOf P kt K = some kl) :
    ((∀ e ∈ es.toList, e.key ≠ K) ∧ (Instr.lookup t (.map (some b)) K ok).run P w = .ok (if ok then .tuple #[Z, .bool false] else Z) w) ∨ ∃ e ∈ es.toList, e.key = K ∧ (Instr.lookup t (.map (some b)) K ok).run P w = .ok (if ok then .tuple #[e.val, .bool true] else e.val) w := by
  rcases L.find w hK es.toList hes with ⟨h1, h2⟩ | ⟨j, e0, h1, h2, h3⟩
  · exact .inl ⟨h2, by simp [Instr.lookup, run_underlying _ _ _ _ ht, MapKept.run_getObj_map hb, L.check w _ hK, h1, hz, Result.andThen]⟩
  · exact .inr ⟨e0, List.mem_of_getElem? h2, h3, by simp [Instr.lookup, run_underlying _ _ _ _ ht, MapKept.run_getObj_map hb, L.check w _ hK, h1, Result.andThen]⟩
/-- A look into a map: v answers at every entry that it may find. -/
theorem mapGetS {C : Cx} {Q : Exit → X → Prop} {o : Oper} {st : List It} {x : X} {t kt et : TypeId} {m k : Operand} {es : Array MapEntry} {K : Value} {kl : Lit} (z v : EV) (hop : o.op = .lookup t m k false) (L : WideMaps.KeyLaw C.P kt)
    (ht : C.P.underlying t = some (.map kt et)) (hz : ∀ w, (zeroValue et).run C.P w = .ok (real (fun _ => 0) z) w) (hz0 : closed 0 z) (hv0 : closed 0 v) (hm : mapOf x.B x.hs (ev x.σ m) es) (hkn : (ev x.σ k).isAny = false) (hKr : ∀ bs, real bs (ev x.σ k) = K)
    (hes : MapKeys C.P kt es) (hK : keyOf C.P kt K = some kl) (hno : (∀ e ∈ es.toList, e.key ≠ K) → v = z) (hyes : ∀ e ∈ es.toList, e.key = K → e.val = real (fun _ => 0) v)
    (hk : Next C Q st { σ := put x.σ o.dst v, n := x.n, hs := x.hs, B := x.B, ms := x.ms }) : opS C Q o st x := by
  refine valueS v (by rw [hop]; simp) (closed_mono (Nat.zero_le _) _ hv0) ?_ hk
  intro bs ac w hr
  obtain ⟨dst, op, type, pos, after, guard⟩ := o
  simp only at hop; subst hop
  obtain ⟨b, clock, h1, h2, h3⟩ := mapOf_real hr.h hm
  have em := eval_ev hr.t m (not_any h3)
  have ek := eval_ev hr.t k (not_any hkn)
  rw [h1] at em; rw [hKr] at ek
  have hrun : (Instr.lookup t (.map (some b)) K false).run C.P w = .ok (real bs v) w := by
    rcases run_mapGet false L ht (hz w) h2 hes hK with ⟨g1, g2⟩ | ⟨e, g1, g2, g3⟩
    · rw [g2, hno g1]; simp [real_closed0 bs (fun _ => 0) hz0]
    · rw [g3, hyes e g1 g2]; simp [real_closed0 bs (fun _ => 0) hv0]
  simp only [execOp, em, ek, Sem.run_bind, hrun, Result.andThen_ok, Sem.run_pure]
/-- A map that is one's own, told as a part of the base. -/
theorem lays_M {x : X} {v : EV} {G : EV → Base → Prop} (r : Nat) {es : Array MapEntry} {clock : Nat} (hg : hget x.hs r = some (.obj (.map es clock)))
    (h : ∀ b B', BExt x.B B' → B'.D b → B'.w.heap[b]? = some (.map es clock) → closed 0 (frz r b v) ∧ G (frz r b v) B') : Lays x v G := fun C bs w hh => by
  have hlive := (hh.live r _ hg).2
  simp only [EObj.real] at hlive
  have hE : BExt x.B ⟨w, fun k => x.B.D k ∨ k = bs r⟩ := ⟨fun _ h => .inl h, hh.ext.same, hh.ext.size, hh.ext.os, hh.ext.tape, hh.ext.output⟩
  obtain ⟨h1, h2⟩ := h (bs r) ⟨w, fun k => x.B.D k ∨ k = bs r⟩ hE (.inr rfl) hlive
  refine ⟨frz r (bs r) v, fun k => x.B.D k ∨ k = bs r, by rw [← real_frz bs r v]; exact real_closed0 _ _ h1, h1, fun _ h => .inl h, ?_, h2⟩
  rintro b (hb | rfl)
  · exact .inl hb
  · exact .inr ⟨r, _, hg, rfl⟩
end Go.Ew
set_option linter.unusedSimpArgs false
set_option linter.unusedVariables false
namespace Go.Ew
open Go RowKit
/-! ### a copy of a list in a region that draws its order, made part of the base at once -/
theorem appFT {C : Cx} {Q : Exit → X → Prop} {ops : List Oper} {st : List It} {acc : List Nd} {i : Nat} {o : Oper} {ord : List Nat} {x : X} {tb : Nat} {t t2 T : TypeId} {m : Nat} {cs : List Value} {zs : List EV} (sz : Nat) (fb : List Nat)
    (hop : o.op = .call { callee := .builtin .append, args := #[.const (.slice none 0 0), .tmp tb], argTypes := #[t, t2] })
    (ht : C.P.underlying t = some (.slice T)) (ht2 : (∃ e', C.P.underlying t2 = some (.slice e')) ∨ C.P.underlying t2 = some .string)
    (hz : zeroOf C.P T = some zs) (hcz : C.P.cellsOf T = sz) (hsz : zs.length = sz) (hsz0 : 0 < sz) (hz0 : closeds 0 zs)
    (hsrc : ∀ B hs, BExt x.B B → (∀ i ∈ fb, hget hs i = hget x.hs i) → ∃ c, srcOf B hs sz (tget x.σ tb) = some (m, cs.map ofScalar, c) ∧ c) (hlen : cs.length = m * sz) (hone : oneAll (cs.map ofScalar) = true)
    (hmax : m ≤ maxLen) (hby : m * C.P.bytesOf T ≤ 140737488355328) (hdep : depL ops [i] ord = true)
    (hck : Ck ((i, o, { dst := o.dst, v := .any, ups := [], a := 0, looks := [tb] ++ gLook ops o.guard, foot := fb }, true) :: acc).reverse)
    (hk : allIn C.N ops = true → ∀ (s : Option Addr × Nat) B', BExt x.B B' → CellsAt B' s.1 cs → m ≤ s.2 → DT C Q ops st ((i, o, { dst := o.dst, v := .raw (.slice s.1 m s.2), ups := [], a := 0, looks := [tb] ++ gLook ops o.guard, foot := fb }, true) :: acc) ord
      { σ := put x.σ o.dst (.raw (.slice s.1 m s.2)), n := x.n, hs := x.hs, B := B', ms := x.ms }) : specT C Q ops st acc i o ord x := by
  intro ho hrun hd hin
  refine dt_fam (sm := false) (S := Option Addr × Nat) (R := fun s B' => CellsAt B' s.1 cs ∧ m ≤ s.2) (E0 := { dst := o.dst, v := .any, ups := [], a := 0, looks := [tb] ++ gLook ops o.guard, foot := fb })
    (F := fun s => { dst := o.dst, v := .raw (.slice s.1 m s.2), ups := [], a := 0, looks := [tb] ++ gLook ops o.guard, foot := fb }) ho hd hdep
    (locB_of_goes (fun t ht => by simp [ht]) hrun (K := fun y z => ∃ (s : Option Addr × Nat) (B' : Base), Gon false y.B B' ∧ (CellsAt B' s.1 cs ∧ m ≤ s.2) ∧ Alike z (Ef.appB { dst := o.dst, v := .raw (.slice s.1 m s.2), ups := [], a := 0, looks := [tb] ++ gLook ops o.guard, foot := fb } B' y)) (fun y hy => ?_)) hck (fun _ => ⟨rfl, rfl, rfl, rfl, rfl, rfl⟩) (fun s B' hB hR => hk hin s B' hB hR.1 hR.2)
  refine goes_of_opS (appF (T := T) (m := m) (cs := cs) sz hop ht ht2 hz hcz hsz hsz0 hz0 rfl ?_ hlen hone hmax hby (fun ad cap B' hB hC hm => ?_)) hd
  · have := hsrc y.B y.hs hy.B (fun j hj => hy.hs j hj)
    simp only [ev]
    rw [hy.σ tb (by simp)]
    exact this
  · intro _ bs a w hr
    exact ⟨_, bs, hr, rfl, (ad, cap), B', hB, ⟨hC, hm⟩, Alike.rfl' _⟩
/-! ### strings of bytes in the base -/
def strB (l : List UInt8) : ByteArray := bytesOfE (l.map bE)
theorem strB_eq (l : List UInt8) : strB l = ⟨l.toArray⟩ := by
  simp only [strB, bytesOfE, List.map_map]
  congr 2
  conv => rhs; rw [← List.map_id l]
  exact List.map_congr_left fun b _ => by simp [bE, EV.num]
theorem strB_size (l : List UInt8) : (strB l).size = l.length := by rw [strB_eq]; rfl
theorem strBS {C : Cx} {Q : Exit → X → Prop} {o : Oper} {st : List It} {x : X} {s d T : TypeId} {a : Operand} {ad : Option Addr} {cap n : Nat} (l : List UInt8) (hop : o.op = .convert s d a)
    (hs : C.P.underlying s = some (.slice T)) (hT : C.P.underlying T = some (.int .u8)) (hd : C.P.underlying d = some .string) (ha : ev x.σ a = .raw (.slice ad n cap)) (hn : l.length = n) (hb : BytesAt x.B ad l)
    (hk : Next C Q st { σ := put x.σ o.dst (.str (strB l)), n := x.n, hs := x.hs, B := x.B, ms := x.ms }) : opS C Q o st x := by
  subst hn
  obtain ⟨c, h1, h2⟩ := hb.src (cap := cap) x.hs
  exact strOfS hop hs hT hd ha (fun u => by simp) h1 h2 (by simp [bE, EV.isInt]) hk
theorem strBT {C : Cx} {Q : Exit → X → Prop} {ops : List Oper} {st : List It} {acc : List Nd} {i : Nat} {o : Oper} {ord : List Nat} {x : X} {s d T : TypeId} {ta : Nat} {ad : Option Addr} {cap n : Nat} (l : List UInt8) (hop : o.op = .convert s d (.tmp ta))
    (hs : C.P.underlying s = some (.slice T)) (hT : C.P.underlying T = some (.int .u8)) (hd : C.P.underlying d = some .string) (ha : tget x.σ ta = .raw (.slice ad n cap)) (hn : l.length = n) (hb : BytesAt x.B ad l)
    (hk : allIn C.N ops = true → DT C Q ops st ((i, o, { dst := o.dst, v := .str (strB l), ups := [], a := 0, looks := [ta] ++ gLook ops o.guard, foot := [] }, false) :: acc) ord
      { σ := put x.σ o.dst (.str (strB l)), n := x.n, hs := x.hs, B := x.B, ms := x.ms }) : specT C Q ops st acc i o ord x := by
  intro ho hrun hdi hin
  refine dt_det (E := { dst := o.dst, v := .str (strB l), ups := [], a := 0, looks := [ta] ++ gLook ops o.guard, foot := [] }) ho hdi
    (locB_of_goes (fun t ht => by simp [ht]) hrun (K := fun y z => Alike z (Ef.app { dst := o.dst, v := .str (strB l), ups := [], a := 0, looks := [ta] ++ gLook ops o.guard, foot := [] } y)) (fun y hy => ?_)) (hk hin)
  refine goes_of_opS (strBS (ad := ad) (cap := cap) l hop hs hT hd ?_ hn (hb.ext hy.B) ?_) hdi
  · simp only [ev]; rw [hy.σ ta (by simp)]; exact ha
  · intro _ bs a w hr
    exact ⟨_, bs, hr, rfl, Alike.rfl' _⟩
end Go.Ew
