/- Part of a proof over the seat YthknokcfmpahcaaDoor. -/
import Derived.Test.YthknokcfmpahcaaDoorLJ
set_option linter.unusedSimpArgs false
set_option linter.unusedVariables false
namespace Go.Ew
open Go RowKit
/-! ### functions that read a list of bytes of one's own -/
theorem cellHeap {w : World} {b i : Nat} {cs : Array Value} {T : TypeId} {fr : Nat × Nat} (h : w.heap[b]? = some (.cells cs T fr)) : w.cell? ⟨b, i, none⟩ = cs[i]? := by
  simp [World.cell?, h]
theorem callB_rd {C : Cx} {K : X → Prop} {f : FuncId} {dst : Option Tmp} {x : X} {v : EV} (r n : Nat) {l : Lst} {xs : List UInt8} {T : TypeId} (hE : Enters C.P f) (hg : hget x.hs r = lO T (xs.map bE) l) (hn : xs.length = n) (hl : lOk [.int .u8 0] n l) (hv : closed 0 v)
    (h : ∀ B ad cap, BytesAt B ad xs → Does C.P f [.raw (.slice ad n cap)] B (fun _ : Unit => v) (fun _ _ => True))
    (hk : K { σ := put x.σ dst v, n := x.n, hs := x.hs, B := x.B, ms := x.ms }) : CallB C f [lE r n l] dst x K := by
  subst hn
  refine ⟨hE, fun bs w hh _ => ?_⟩
  obtain ⟨ad, cap, B0, e0, hw, hlt, hb⟩ : ∃ (ad : Option Addr) (cap : Nat) (B0 : Base), reals bs [lE r xs.length l] = reals (fun _ => 0) [.raw (.slice ad xs.length cap)] ∧ B0.w = w ∧ (∀ b, B0.D b → b < B0.w.heap.size) ∧ BytesAt B0 ad xs := by
    cases l with
    | none =>
      have h0 : xs.length = 0 := hl
      have hx : xs = [] := List.length_eq_zero_iff.1 h0
      subst hx
      exact ⟨none, 0, ⟨w, x.B.D⟩, rfl, rfl, fun b hb => (hh.frame b hb).1, BytesAt.nil _⟩
    | some q =>
      obtain ⟨cap, rest⟩ := q
      have hlive := (hh.live r _ hg).2
      simp only [EObj.real] at hlive
      refine ⟨some ⟨bs r, 0, none⟩, cap, ⟨w, fun k => x.B.D k ∨ k = bs r⟩, rfl, rfl, ?_, ?_, ?_, ?_⟩
      · rintro b (hb | rfl)
        · exact (hh.frame b hb).1
        · exact heap_lt hlive
      · intro a ha
        cases ha
        exact .inr rfl
      · intro _; rfl
      · intro j hj
        have e : adrAt (some (⟨bs r, 0, none⟩ : Addr)) j = ⟨bs r, j, none⟩ := by
          rw [adrAt_some]
          unfold Addr.add
          split
          · rename_i h0; subst h0; rfl
          · simp
        rw [e, cellHeap hlive, List.getElem?_toArray, reals_eq, List.map_append, List.getElem?_append_left (by simpa using hj), ← reals_eq, reals_bE]
  subst hw
  rw [e0]
  refine ((h B0 ad cap hb).run B0 (BExt.refl _) hlt).mono ?_
  rintro e w' ⟨_, bs', rfl, _, hst, _, _, _, _⟩
  refine ⟨v, x.n, x.hs, x.B, bs, by rw [real_closed0 bs' bs hv], fun _ _ => rfl, Nat.le_refl _, closed_mono (Nat.zero_le _) _ hv, hh.later ⟨hst.os, hst.tape, hst.output, hst.size, fun k hk => hst.same k ⟨hk, by simp⟩⟩, hk⟩
theorem callS_rd {C : Cx} {Q : Exit → X → Prop} {f : FuncId} {dst : Option Tmp} {st : List It} {x : X} {v : EV} (r n : Nat) {l : Lst} {xs : List UInt8} {T : TypeId} (hE : Enters C.P f) (hg : hget x.hs r = lO T (xs.map bE) l) (hn : xs.length = n) (hl : lOk [.int .u8 0] n l) (hv : closed 0 v)
    (h : ∀ B ad cap, BytesAt B ad xs → Does C.P f [.raw (.slice ad n cap)] B (fun _ : Unit => v) (fun _ _ => True))
    (hk : Next C Q st { σ := put x.σ dst v, n := x.n, hs := x.hs, B := x.B, ms := x.ms }) : callS C Q f [lE r n l] dst st x := fun _ => .inr (callB_rd r n hE hg hn hl hv h hk)
theorem callT_rd {C : Cx} {Q : Exit → X → Prop} {ops : List Oper} {st : List It} {f : FuncId} {acc : List Nd} {i : Nat} {o : Oper} {ord : List Nat} {x : X} {v : EV} (r n : Nat) {l : Lst} {xs : List UInt8} {T : TypeId} (hE : Enters C.P f) (hg : hget x.hs r = lO T (xs.map bE) l) (hn : xs.length = n) (hl : lOk [.int .u8 0] n l) (hv : closed 0 v)
    (h : ∀ B ad cap, BytesAt B ad xs → Does C.P f [.raw (.slice ad n cap)] B (fun _ : Unit => v) (fun _ _ => True)) (hdep : depL ops [i] ord = true)
    (hck : Ck ((i, o, { dst := o.dst, v := v, ups := [], a := 0, looks := opLooks o.op ++ gLook ops o.guard, foot := [r] }, true) :: acc).reverse)
    (hk : allIn C.N ops = true → DT C Q ops st ((i, o, { dst := o.dst, v := v, ups := [], a := 0, looks := opLooks o.op ++ gLook ops o.guard, foot := [r] }, true) :: acc) ord { σ := put x.σ o.dst v, n := x.n, hs := x.hs, B := x.B, ms := x.ms }) : callT C Q ops st f [lE r n l] acc i o ord x := by
  refine ⟨true, { dst := o.dst, v := v, ups := [], a := 0, looks := opLooks o.op ++ gLook ops o.guard, foot := [r] }, Unit, fun _ => { dst := o.dst, v := v, ups := [], a := 0, looks := opLooks o.op ++ gLook ops o.guard, foot := [r] }, fun _ _ => True, fun t h => h,
    fun y hy => .inl (callB_rd r n hE (by rw [hy.hs r (by simp)]; exact hg) hn hl hv h ⟨(), y.B, rfl, trivial, Alike.rfl' _⟩), hdep, hck, fun _ => ⟨rfl, rfl, rfl, rfl, rfl, rfl⟩, fun hin s B' hB _ => ?_⟩
  have hB : B' = x.B := hB
  subst hB
  exact hk hin
end Go.Ew
