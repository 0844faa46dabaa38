/- Part of a proof over the seat YthknokcfmpahcaaDoor. -/
import Derived.Test.YthknokcfmpahcaaDoorLI
set_option linter.unusedSimpArgs false
set_option linter.unusedVariables false
namespace Go.Ew
open Go RowKit
/-! ### lists of bytes of one's own -/
theorem hz8 : closeds 0 [EV.int .u8 0] := by simp [closeds, closed]
theorem appB {C : Cx} {Q : Exit → X → Prop} {o : Oper} {st : List It} {x : X} {a b : Operand} {t t2 T : TypeId} (r n : Nat) {l : Lst} {xs : List UInt8} (ys : List UInt8)
    (hop : o.op = .call { callee := .builtin .append, args := #[a, b], argTypes := #[t, t2] })
    (ht : C.P.underlying t = some (.slice T)) (ht2 : (∃ e', C.P.underlying t2 = some (.slice e')) ∨ C.P.underlying t2 = some .string)
    (hz : zeroOf C.P T = some [.int .u8 0]) (hcz : C.P.cellsOf T = 1) (hb1 : C.P.bytesOf T = 1)
    (hn : xs.length = n) (ha : ev x.σ a = lE r n l) (hg : hget x.hs r = lO T (xs.map bE) l) (hl : lOk [.int .u8 0] n l)
    (hsrc : ∃ c, srcOf x.B x.hs 1 (ev x.σ b) = some (ys.length, ys.map bE, c) ∧ c) (hmax : n + ys.length ≤ 140737488355328)
    (hk : ∀ l', lOk [.int .u8 0] (n + ys.length) l' → Next C Q st { σ := put x.σ o.dst (lE x.n (n + ys.length) l'), n := x.n + 1, hs := (x.n, lO T ((xs ++ ys).map bE) l') :: (r, none) :: x.hs, B := x.B, ms := x.ms }) : opS C Q o st x := by
  obtain ⟨c, h1, h2⟩ := hsrc
  refine appendL (zs := [.int .u8 0]) (xs := xs.map bE) (news := ys.map bE) r n hop ht ht2 hz hcz (by simp) hz8 ha rfl hg hl (by simp [hn]) (closeds_bE 0 _) h1 h2 (oneAll_bE _) (by simp only [maxLen]; omega) (by rw [hb1]; omega) (fun l' hl' => ?_)
  have := hk l' hl'
  rwa [List.map_append] at this
theorem appBT {C : Cx} {Q : Exit → X → Prop} {ops : List Oper} {st : List It} {acc : List Nd} {i : Nat} {o : Oper} {ord : List Nat} {x : X} {ta : Nat} {tb : Nat} {t t2 T : TypeId} (d r n : Nat) {l : Lst} {xs : List UInt8} (ys : List UInt8) (fb : List Nat)
    (hop : o.op = .call { callee := .builtin .append, args := #[.tmp ta, .tmp tb], argTypes := #[t, t2] }) (hdst : o.dst = some d)
    (ht : C.P.underlying t = some (.slice T)) (ht2 : (∃ e', C.P.underlying t2 = some (.slice e')) ∨ C.P.underlying t2 = some .string)
    (hz : zeroOf C.P T = some [.int .u8 0]) (hcz : C.P.cellsOf T = 1) (hb1 : C.P.bytesOf T = 1)
    (hn : xs.length = n) (ha : tget x.σ ta = lE r n l) (hg : hget x.hs r = lO T (xs.map bE) l) (hl : lOk [.int .u8 0] n l)
    (hsrc : ∀ B hs, BExt x.B B → (∀ i ∈ fb, hget hs i = hget x.hs i) → ∃ c, srcOf B hs 1 (tget x.σ tb) = some (ys.length, ys.map bE, c) ∧ c)
    (hmax : n + ys.length ≤ 140737488355328) (hold : C.olds.length ≤ 100000 + d) (hdep : depL ops [i] ord = true)
    (hck : Ck ((i, o, { dst := o.dst, v := .any, ups := [(100000 + d, none), (r, none)], a := 0, looks := [ta, tb] ++ gLook ops o.guard, foot := r :: fb, nm := [100000 + d] }, true) :: acc).reverse)
    (hk : ∀ l', lOk [.int .u8 0] (n + ys.length) l' → DT C Q ops st ((i, o, { dst := o.dst, v := lE (100000 + d) (n + ys.length) l', ups := [(100000 + d, lO T ((xs ++ ys).map bE) l'), (r, none)], a := 0, looks := [ta, tb] ++ gLook ops o.guard, foot := r :: fb, nm := [100000 + d] }, true) :: acc) ord
      { σ := put x.σ o.dst (lE (100000 + d) (n + ys.length) l'), n := x.n, hs := (100000 + d, lO T ((xs ++ ys).map bE) l') :: (r, none) :: x.hs, B := x.B, ms := x.ms }) : specT C Q ops st acc i o ord x := by
  refine appT (c := True) (zs := [.int .u8 0]) (xs := xs.map bE) (news := ys.map bE) d r n fb hop hdst ht ht2 hz hcz (by simp) hz8 ha rfl hg hl (by simp [hn]) (closeds_bE 0 _) hsrc (oneAll_bE _) (closeds_bE 0 _) (by simp only [maxLen]; omega) (by rw [hb1]; omega) hold hdep hck (fun l' hl' => ?_)
  have := hk l' hl'
  rwa [List.map_append] at this
theorem freezeB {C : Cx} {Q : Exit → X → Prop} {st : List It} {x : X} (r n : Nat) {l : Lst} {xs : List UInt8} {T : TypeId} (hg : hget x.hs r = lO T (xs.map bE) l) (hn : xs.length = n) (hl : lOk [.int .u8 0] n l) (hms : r ∉ x.ms)
    (hk : ∀ b ad cap B', BExt x.B B' → frz r b (lE r n l) = .raw (.slice ad n cap) → BytesAt B' ad xs → n ≤ cap → Next C Q st ⟨frzσ r b x.σ, x.n, frzh r b x.hs, B', x.ms⟩) : Next C Q st x := by
  subst hn
  refine freezeL r xs.length hg hl (by simp) (closeds_bE 0 _) hz8 hms (fun b ad cap B' hE hf hD hso hc => ?_)
  refine hk b ad cap B' hE hf (bytesAt_frz hD hso hc) ?_
  cases l with
  | none => simp only [lE, frz] at hf; have := hl; simp only [lOk] at this; injection hf with hf; injection hf with _ h1 h2; omega
  | some q => obtain ⟨c, z⟩ := q; simp only [lE, frz, ↓reduceIte] at hf; have := hl.1; injection hf with hf; injection hf with _ h1 h2; omega
theorem rens_closed0' (ρ : Nat → Nat) (l : List EV) (h : closeds 0 l) : rens ρ l = l := rens_id (n := 0) (fun i hi => absurd hi (Nat.not_lt_zero i)) l h
theorem frzs_ints (i b : Nat) (k : IntKind) (f : Nat → Int) (n : Nat) : frzs i b (ints k f n) = ints k f n := frzs_closed0 _ (closeds_ints _ _ _ _)
theorem okCs_ints (ks : List Nat) (m : Nat) (k : IntKind) (f : Nat → Int) (n : Nat) : okCs ks m (ints k f n) = true := okCs_closed (Nat.zero_le _) _ (closeds_ints 0 _ _ _)
theorem rens_ints' (ρ : Nat → Nat) (k : IntKind) (f : Nat → Int) (n : Nat) : rens ρ (ints k f n) = ints k f n := rens_closed0' _ _ (closeds_ints _ _ _ _)
theorem frzs_bE (i b : Nat) (l : List UInt8) : frzs i b (l.map bE) = l.map bE := frzs_closed0 _ (closeds_bE _ _)
theorem okCs_bE (ks : List Nat) (m : Nat) (l : List UInt8) : okCs ks m (l.map bE) = true := okCs_closed (Nat.zero_le _) _ (closeds_bE 0 _)
theorem rens_bE (ρ : Nat → Nat) (l : List UInt8) : rens ρ (l.map bE) = l.map bE := rens_closed0' _ _ (closeds_bE _ _)
attribute [go_sem] frzs_ints okCs_ints rens_ints' frzs_bE okCs_bE rens_bE
theorem lE_some (r n cap : Nat) (rest : List EV) : lE r n (some (cap, rest)) = .sl r 0 n cap := rfl
theorem lO_some (T : TypeId) (xs : List EV) (cap : Nat) (rest : List EV) : lO T xs (some (cap, rest)) = some (.cells (xs ++ rest) T (0, 0)) := rfl
theorem lst_some {zs : List EV} {n : Nat} {l : Lst} (h : lOk zs n l) (h0 : 0 < n) : ∃ cap rest, l = some (cap, rest) ∧ n ≤ cap ∧ cap ≤ maxLen ∧ rest.length = (cap - n) * zs.length ∧ ∀ v ∈ rest, v ∈ zs := by
  cases l with
  | none => simp only [lOk] at h; omega
  | some q => exact ⟨q.1, q.2, rfl, h⟩
theorem bytes_set {xs : List UInt8} {rest : List EV} {i : Nat} {v : UInt8} (h : i < xs.length) : (xs.map bE ++ rest).set i (bE v) = (xs.set i v).map bE ++ rest := by
  rw [List.set_append_left _ _ (by simpa using h), List.map_set]
theorem bytes_get {xs : List UInt8} {rest : List EV} {i : Nat} (h : i < xs.length) : (xs.map bE ++ rest)[i]? = some (bE (xs.getD i 0)) := by
  rw [List.getElem?_append_left (by simpa using h), List.getElem?_map, List.getD_eq_getElem?_getD, List.getElem?_eq_getElem h]; rfl
theorem bytes_getD {xs : List UInt8} {rest : List EV} {i : Nat} {d : EV} (h : i < xs.length) : (xs.map bE ++ rest).getD i d = bE (xs.getD i 0) := by
  rw [List.getD_eq_getElem?_getD, bytes_get h]; rfl
theorem add_map (ad : Option Addr) (i j : Nat) : (ad.map (·.add i)).map (·.add j) = ad.map (·.add (i + j)) := by cases ad <;> simp [add_add]
end Go.Ew
