/- Part of a proof over the seat YthknokcfmpahcaaDoor. -/
import Derived.Test.YthknokcfmpahcaaDoorRG0
import Derived.Test.YthknokcfmpahcaaDoorTG13
import Derived.Deep.Slices
namespace Go.Proofs.YthknokcfmpahcaaDoor
open Go Go.Ew Go.ChangeShapes Go.WideShapes Go.ChangeAt Go.RowKit
set_option maxRecDepth 100000
set_option linter.unusedSimpArgs false
set_option linter.unusedVariables false
/-- The cells of a word in memory. -/
theorem word_cells {H : Type} {enc : TypeId × Value → H} {W : World} {sp : Nat → Bool} {held : Bool} {base fuel : Nat} {a : Addr} {cs : List Value} {x : DataW H × List MemPlace} (hc : W.cells? base a 4 = some cs)
    (h : DataW.trod enc Tryd.prog W base sp held fuel 30 cs = some x) : ∃ f : Nat → Int, wIn f ∧ a.spot = none ∧ ∀ j, j < 4 → W.cell? ⟨a.block, a.off + j, none⟩ = some (.int .u64 (f j)) := by
  obtain ⟨_, hlen, hcell⟩ := World.cells?_some hc
  obtain ⟨xs, m, rfl, _, hl, hxl, hx⟩ := DataW.trod_array Tryd.underlying30 h
  rw [cz22] at hx
  have get : ∀ i, i < 4 → ∃ n : Int, cs[i]? = some (.int .u64 n) ∧ 0 ≤ n ∧ n < 18446744073709551616 := by
    intro i hi
    have h1 := hx i hi
    rw [List.getElem?_eq_getElem (by omega)] at h1
    obtain ⟨n, h2, _, h3⟩ := DataW.trod_int Tryd.underlying22 h1
    refine ⟨n, ?_, u64_wf h3⟩
    have := congrArg (fun l => l[0]?) h2
    simpa using this
  have hspot : a.spot = none := by
    obtain ⟨n, h1, _⟩ := get 0 (by omega)
    have := hcell 0 (by omega)
    rw [h1] at this
    have h2 := World.cell?_spot this
    simpa [Addr.add] using h2
  refine ⟨fun i => match cs[i]? with
    | some (.int _ n) => n
    | _ => 0, ?_, hspot, ?_⟩
  · intro i hi
    obtain ⟨n, g, h⟩ := get i hi
    simp only [g]; exact h
  · intro j hj
    obtain ⟨n, g, _⟩ := get j hj
    have h1 := hcell j hj
    obtain ⟨b, o, s⟩ := a
    simp only at hspot; subst hspot
    rw [add_spot, g] at h1
    simp only [g]; exact h1
/-- A slice of words that came in. -/
theorem open_words {H : Type} {enc : TypeId × Value → H} {W : World} {r : Reach} {base : Nat} {v : Value} {d : DataW H} {p : List MemPlace} (hval : Value.okWide Tryd.prog W r base 57 v)
    (h : DataW.Trod enc Tryd.prog W 0 (fun _ => true) true 57 v d p) : ∃ a n cap f, v = .slice a n cap ∧ WordsAt W a n f := by
  obtain ⟨a, n, cap, rfl⟩ := okWide_slice Tryd.underlying57 hval
  obtain ⟨fuel, hf⟩ := h
  rcases Go.Deep.open_slice Tryd.underlying57 hf with ⟨hcs, _⟩ | ⟨a', n', cap', m, q, D, Pl, hcs, _, hl, hm, hmm, _, hx⟩
  · simp [Value.cells] at hcs
    obtain ⟨rfl, rfl, rfl⟩ := hcs
    exact ⟨none, 0, 0, fun _ _ => 0, rfl, fun i hi => absurd hi (by omega), fun i hi => absurd hi (by omega), by omega⟩
  · simp [Value.cells] at hcs
    obtain ⟨rfl, rfl, rfl⟩ := hcs
    rw [cz30] at hx
    simp only [if_true] at hmm
    have hsp : 0 < n → a'.spot = none := by
      intro h0
      obtain ⟨cs', h1, h2⟩ := hx 0 (by omega)
      obtain ⟨f, _, hf2, _⟩ := word_cells h1 h2
      simpa [Addr.add] using hf2
    have each : ∀ i, ∃ f : Nat → Int, i < n → wIn f ∧ ∃ b off, a' = ⟨b, off, none⟩ ∧ ∀ j, j < 4 → W.cell? ⟨b, off + i * 4 + j, none⟩ = some (.int .u64 (f j)) := by
      intro i
      by_cases hi : i < n
      · obtain ⟨cs', h1, h2⟩ := hx i (by omega)
        obtain ⟨f, hf1, hf2, hf3⟩ := word_cells h1 h2
        refine ⟨f, fun _ => ⟨hf1, a'.block, a'.off, ?_, ?_⟩⟩
        · obtain ⟨b, o, s⟩ := a'
          have : s = none := hsp (by omega)
          subst this; rfl
        · intro j hj
          have := hf3 j hj
          have e1 : (a'.add (i * 4)).block = a'.block := by unfold Addr.add; split <;> rfl
          have e2 : (a'.add (i * 4)).off = a'.off + i * 4 := by
            unfold Addr.add; split
            · rename_i h0; simp [h0]
            · rfl
          rw [e1, e2] at this; exact this
      · exact ⟨fun _ => 0, fun h => absurd h hi⟩
    have hch := fun i => Classical.choose_spec (each i)
    refine ⟨some a', n, cap, fun i => Classical.choose (each i), rfl, ?_, ?_, ?_⟩
    · intro i hi
      obtain ⟨_, b, off, h1, h2⟩ := hch i hi
      exact ⟨b, off, by rw [h1], h2⟩
    · intro i hi; exact (hch i hi).1
    · have : maxLen = 9223372036854775807 := by decide
      omega
end Go.Proofs.YthknokcfmpahcaaDoor
