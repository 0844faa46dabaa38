/- Part of a proof over the seat YthknokcfmpahcaaDoor. -/
import Derived.Test.YthknokcfmpahcaaDoorLF
set_option linter.unusedSimpArgs false
set_option linter.unusedVariables false
namespace Go.Ew
open Go RowKit
/-! ### data in the base -/
theorem add_add (a : Addr) (i j : Nat) : (a.add i).add j = a.add (i + j) := by
  unfold Addr.add
  by_cases hi : i = 0
  · subst hi; simp
  · by_cases hj : j = 0
    · subst hj; simp [hi]
    · simp [hi, hj, Nat.add_assoc]
theorem adr_spot {w : World} {a : Addr} {v : Value} (h : w.cell? a = some v) : a.spot = none := by
  unfold World.cell? at h
  split at h
  · split at h
    · cases h
    · rename_i h2; simpa using h2
  · cases h
/-- Where there is something, there is an address. -/
def SlOk (ad : Option Addr) (n : Nat) : Prop := 0 < n → ad.isSome = true
theorem SlOk.so {ad : Option Addr} {n : Nat} (h : SlOk ad n) (h0 : 0 < n) : ad.isSome = true := h h0
/-- The cells from an address on. -/
structure CellsAt (B : Base) (ad : Option Addr) (cs : List Value) : Prop where
  D : ∀ a, ad = some a → B.D a.block
  so : SlOk ad cs.length
  cell : ∀ j, j < cs.length → B.w.cell? (adrAt ad j) = cs[j]?
theorem CellsAt.ext {B B' : Base} {ad : Option Addr} {cs : List Value} (h : CellsAt B ad cs) (k : BExt B B') : CellsAt B' ad cs :=
  ⟨fun a ha => k.D _ (h.D a ha), h.so, fun j hj => by
    obtain ⟨a, ha⟩ := Option.isSome_iff_exists.1 (h.so (by omega))
    have e : adrAt ad j = a.add j := by rw [ha]; rfl
    rw [e, k.cell (by rw [addr_add_block]; exact h.D a ha), ← e]
    exact h.cell j hj⟩
theorem CellsAt.lD {B : Base} {ad : Option Addr} {cs : List Value} (h : CellsAt B ad cs) {j : Nat} (hj : j < cs.length) : B.D (adrAt ad j).block := by
  obtain ⟨a, ha⟩ := Option.isSome_iff_exists.1 (h.so (by omega))
  rw [adrAt_block, ha]; exact h.D a ha
theorem CellsAt.nil (B : Base) : CellsAt B none [] := ⟨fun a ha => (by cases ha), fun h => absurd h (by simp), fun j hj => absurd hj (by simp)⟩
theorem CellsAt.src {B : Base} {ad : Option Addr} {cs : List Value} {sz n cap : Nat} (h : CellsAt B ad cs) (h0 : 0 < sz) (hn : cs.length = n * sz) (hs : List (Nat × Option EObj)) :
    ∃ c, srcOf B hs sz (.raw (.slice ad n cap)) = some (n, cs.map ofScalar, c) ∧ c := by
  cases ad with
  | none =>
    have hl : cs = [] := by
      cases cs with
      | nil => rfl
      | cons v l => have := h.so (by simp); cases this
    subst hl
    have hn0 : n = 0 := by
      rcases Nat.eq_zero_or_pos n with h | h
      · exact h
      · have := Nat.mul_pos h h0; simp only [List.length_nil] at hn; omega
    subst hn0
    exact ⟨(0 : Nat) = 0, by simp [srcOf], rfl⟩
  | some a =>
    refine ⟨B.D a.block ∧ ∀ j, j < n * sz → (B.w.cell? (a.add j)).isSome = true, ?_, h.D a rfl, fun j hj => ?_⟩
    · simp only [srcOf]
      have : (List.range (n * sz)).map (fun j => rawCell B (a.add j)) = cs.map ofScalar := by
        apply List.ext_getElem (by simp [hn])
        intro j h1 h2
        simp only [List.length_map] at h2
        simp only [List.getElem_map, List.getElem_range]
        have := h.cell j h2
        rw [adrAt_some, List.getElem?_eq_getElem h2] at this
        simp only [rawCell, this, Option.getD_some]
      rw [this]
    · have := h.cell j (by omega)
      rw [adrAt_some, List.getElem?_eq_getElem (by omega)] at this
      rw [this]; rfl
theorem CellsAt.raw {B : Base} {ad : Option Addr} {cs : List Value} (h : CellsAt B ad cs) {j : Nat} {v : Value} (hj : cs[j]? = some v) : rawCell B (adrAt ad j) = ofScalar v ∧ B.D (adr ad).block ∧ (B.w.cell? (adrAt ad j)).isSome = true := by
  have hl : j < cs.length := by
    rcases Nat.lt_or_ge j cs.length with h | h
    · exact h
    · rw [List.getElem?_eq_none h] at hj; cases hj
  have e := h.cell j hl
  have d := h.lD hl
  rw [adrAt_block] at d
  rw [hj] at e
  exact ⟨by simp only [rawCell, e, Option.getD_some], d, by rw [e]; rfl⟩
theorem cellsAt_frz {B : Base} {ad : Option Addr} {b len : Nat} {xs : List EV} {cs : List Value} (hD : ∀ a, ad = some a → a = ⟨b, 0, none⟩ ∧ B.D b) (hso : 0 < len → ad.isSome = true) (h0 : len = 0 → xs = [])
    (hc : ∀ j, j < xs.length → B.w.cell? (adrAt ad j) = some (real (fun _ => 0) (xs.getD j .any))) (hcs : reals (fun _ => 0) xs = cs) : CellsAt B ad cs := by
  subst hcs
  refine ⟨fun a ha => ?_, fun h => hso ?_, fun j hj => ?_⟩
  · obtain ⟨rfl, h⟩ := hD a ha; exact h
  · rcases Nat.eq_zero_or_pos len with h1 | h1
    · rw [h0 h1] at h; simp [reals] at h
    · exact h1
  · rw [reals_eq] at hj ⊢
    simp only [List.length_map] at hj
    rw [hc j hj, List.getElem?_map, List.getD_eq_getElem?_getD, List.getElem?_eq_getElem hj]; rfl
theorem reals_flat {α : Type} (f : α → List EV) (g : α → List Value) (bs : Nat → Nat) (h : ∀ a, reals bs (f a) = g a) (l : List α) : reals bs (l.flatMap f) = l.flatMap g := by
  rw [reals_eq, List.map_flatMap]
  congr 1
  funext a
  rw [← reals_eq]; exact h a
/-- Numbers of one kind. -/
def IntsAt (B : Base) (k : IntKind) (ad : Option Addr) (l : List Int) : Prop := CellsAt B ad (l.map (Value.int k))
theorem IntsAt.ext {B B' : Base} {k : IntKind} {ad : Option Addr} {l : List Int} (h : IntsAt B k ad l) (e : BExt B B') : IntsAt B' k ad l := CellsAt.ext h e
theorem IntsAt.ok {B : Base} {k : IntKind} {ad : Option Addr} {l : List Int} (h : IntsAt B k ad l) : SlOk ad l.length := by have := CellsAt.so h; simpa using this
theorem IntsAt.lD {B : Base} {k : IntKind} {ad : Option Addr} {l : List Int} (h : IntsAt B k ad l) (hj : 0 < l.length) : B.D (adr ad).block := by have := CellsAt.lD h (j := 0) (by simpa using hj); rwa [adrAt_block] at this
theorem IntsAt.lc {B : Base} {k : IntKind} {ad : Option Addr} {l : List Int} (h : IntsAt B k ad l) (j : Nat) (hj : j < l.length) : B.w.cell? (adrAt ad j) = some (.int k (l.getD j 0)) := by
  rw [CellsAt.cell h j (by simpa using hj), List.getElem?_map, List.getD_eq_getElem?_getD, List.getElem?_eq_getElem hj]; rfl
theorem IntsAt.lS {B : Base} {k : IntKind} {ad : Option Addr} {l : List Int} (h : IntsAt B k ad l) (j : Nat) (hj : j < l.length) : (B.w.cell? (adrAt ad j)).isSome = true := by rw [h.lc j hj]; rfl
theorem IntsAt.ld {B : Base} {k : IntKind} {ad : Option Addr} {l : List Int} (h : IntsAt B k ad l) (j : Nat) (hj : j < l.length) : rawCell B (adrAt ad j) = .int k (l.getD j 0) := by
  simp only [rawCell, h.lc j hj, Option.getD_some, ofScalar]
theorem IntsAt.place {B : Base} {k : IntKind} {ad : Option Addr} {l : List Int} (h : IntsAt B k ad l) : ∃ b off, (0 < l.length → ad = some ⟨b, off, none⟩ ∧ B.D b) ∧ ∀ j, j < l.length → B.w.cell? ⟨b, off + j, none⟩ = some (.int k (l.getD j 0)) := by
  by_cases h0 : 0 < l.length
  · obtain ⟨a, ha⟩ := Option.isSome_iff_exists.1 (h.ok h0)
    have hc := h.lc 0 h0
    rw [ha, adrAt_some, show a.add 0 = a from by simp [Addr.add]] at hc
    have hs := adr_spot hc
    obtain ⟨b, off, spot⟩ := a
    simp only at hs
    subst hs
    refine ⟨b, off, fun _ => ⟨ha, by have := CellsAt.D h _ ha; exact this⟩, fun j hj => ?_⟩
    have := h.lc j hj
    rw [ha, adrAt_some, add_spot] at this
    exact this
  · exact ⟨0, 0, fun h => absurd h h0, fun j hj => absurd hj (by omega)⟩
/-! ### laws: nothing turns; the base may go on -/
theorem pure_callsX {P : Program} {f : FuncId} {fn : Func} {c : Code} {w : World} {V : Value} (args : List EV)
    (hf : P.funcs[f]? = some fn) (hb : fn.body = some c) (hin : codeIn fn.ntmps c = true) (hl : args.length ≤ fn.ntmps) (hcl : closeds 0 args)
    (h : Next (cx0 P fn.ntmps w) (retE (cx0 P fn.ntmps w) fn.results.toList (fun v x => BExt (base w) x.B ∧ ∀ bs, real bs v = V)) [.c c] ⟨argσ 0 args, 0, [], base w, []⟩) :
    Calls P f (reals (fun _ => 0) args).toArray w (Ret V w) := by
  have := calls_of (C := (cx0 P fn.ntmps w)) (K := fun v x => BExt (base w) x.B ∧ ∀ bs, real bs v = V) rfl hf hb rfl hin hl (HRel.start (fun _ => 0)) hcl h
  refine this.mono ?_
  rintro e w' ⟨v, x', bs', rfl, _, hh, hB, hk⟩
  exact ⟨by rw [hk], ⟨hh.os.trans hB.os, hh.tape.trans hB.tape, hh.output.trans hB.output, Nat.le_trans hB.size hh.hsize, fun k hk => ((hh.frame k (hB.D k hk)).2).trans (hB.same k hk)⟩⟩
theorem rep_1 (zs : List EV) : rep 1 zs = zs := by simp [rep]
theorem rep_2 (zs : List EV) : rep 2 zs = zs ++ zs := by simp [rep, List.replicate]
theorem rep_3 (zs : List EV) : rep 3 zs = zs ++ (zs ++ zs) := by simp [rep, List.replicate]
theorem rep_4 (zs : List EV) : rep 4 zs = zs ++ (zs ++ (zs ++ zs)) := by simp [rep, List.replicate]
attribute [go_sem] Value.oneCell'
attribute [go_sem] addr_add_block add_add rep_1 rep_2 rep_3 rep_4
end Go.Ew
