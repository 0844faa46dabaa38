/- Part of a proof over the seat Ytncjbfkkgdepoaa. -/
import Derived.Test.YtncjbfkkgdepoaaG17
import Derived.Test.YtncjbfkkgdepoaaG14
import Derived.Test.YtncjbfkkgdepoaaEng2
import Derived.Test.YtncjbfkkgdepoaaRows
import Derived.WalkKit
import Derived.ProofKit
import Derived.OpenShut
import Derived.Below
import Derived.JoinedCond
import Derived.ChangeSlices
import Derived.SizedLaws
set_option linter.unusedSimpArgs false
set_option linter.unusedVariables false
set_option maxRecDepth 100000
namespace Go.Proofs.Ytncjbfkkgdepoaa
open Go RowKit Go.Ew
set_option maxHeartbeats 16000000
theorem in3 : C4 Try.f3.ntmps (Try.f3.body.getD .skip) = true := by kernel_rfl
theorem Aw6 (B : Base) (b : List UInt8) (leaf : Bool) (n : Nat) (ad : Option Addr) (cap : Nat) (hb : BytesAt B ad b) (hn : b.length = n) (hc : n ≤ 1048576) :
  Does Try.prog 3 [.raw (.slice ad n cap), .bool leaf] B (fun _ : Unit => .bool true) (fun _ _ => True) := by
 subst hn
 refine K0 en3 (fun s B B' hB hR => hR) Try.func3 rfl in3 (by simp [Try.f3]) (by simp [A0, closed]) (fun B0 hB0 => A3 1000 ?_)
 replace hb := hb.ext hB0
 repeat' (simp (maxSteps := 4000000) (disch := omega) only [go_sem, ↓reduceIte, Try.f3])
 refine F4 (Ae0 b b.length B0 ad cap hb rfl (by omega)) (fun _ => by simp [closed]) (fun s1 B1 hB1 hR1 => A3 1000 ?_)
 change BExt B0 B1 at hB1
 repeat' (simp (maxSteps := 4000000) (disch := omega) only [go_sem, ↓reduceIte])
 refine F4 (Ba0 b b.length B1 s1.1 s1.2 hR1.1 rfl (by omega)) (fun _ => by simp [closed, A0]) (fun s2 B2 hB2 hR2 => A3 1000 ?_)
 change BExt B1 B2 at hB2
 have hb2 := hb.ext (hB1.trans hB2)
 repeat' (simp (maxSteps := 4000000) (disch := omega) only [go_sem, ↓reduceIte])
 refine F4 (Au8 b b.length B2 ad cap hb2 rfl (by omega)) (fun _ => by simp [closed, A0]) (fun s3 B3 hB3 hR3 => A3 1000 ?_)
 change BExt B2 B3 at hB3
 have hb3 := hb2.ext hB3
 repeat' (first | simp (maxSteps := 4000000) (disch := omega) only [go_sem, ↓reduceIte] | with_reducible refine C8 (id := 3) [0, 4, 1, 2, 3, 5, 6, 7, 8, 9, 11, 14, 15, 10, 12, 13, 16, 17, 18, 19, 20, 21, 22, 23, 24, 25, 26, 27, 28, 29, 30, 31, 32, 33, 34, 35, 36, 37, 38, 39, 40] mixed (by kernel_rfl) (by simp) (fun hin => D4 1000 hin ?_))
 refine G7 (Ae0 b b.length _ ad cap hb3 rfl (by omega)) (fun _ => by simp [closed]) (by kernel_rfl) (F7 (by kernel_rfl) (C3 (by kernel_rfl))) (fun hin4 s4 B4 hB4 hR4 => D4 1000 hin4 ?_)
 change BExt B3 B4 at hB4
 repeat' (simp (maxSteps := 4000000) (disch := omega) only [go_sem, ↓reduceIte])
 refine G7 (O4 b b.length _ s4.1 s4.2 hR4.1 rfl (by omega)) (fun _ => by simp [closed]) (by kernel_rfl) (F7 (by kernel_rfl) (C3 (by kernel_rfl))) (fun hin5 s5 B5 hB5 hR5 => D4 1000 hin5 ?_)
 change BExt B4 B5 at hB5
 repeat' (simp (maxSteps := 4000000) (disch := omega) only [go_sem, ↓reduceIte])
 refine Bj7 (F8 b) rfl Try.underlying22 Try.underlying5 Try.underlying9 rfl rfl (hR5.1) (fun hin5c => D4 1000 hin5c ?_)
 repeat' (simp (maxSteps := 4000000) (disch := omega) only [go_sem, ↓reduceIte, beq_self_eq_true])
 refine G7 (Ah7 b b.length _ ad cap (hb3.ext (hB4.trans hB5)) rfl (by omega)) (fun _ => by simp [closed]) (by kernel_rfl) (F7 (by kernel_rfl) (C3 (by kernel_rfl))) (fun hin6 s6 B6 hB6 hR6 => D4 1000 hin6 ?_)
 change BExt B5 B6 at hB6
 repeat' (simp (maxSteps := 4000000) (disch := omega) only [go_sem, ↓reduceIte])
 refine Bj7 (F8 b) rfl Try.underlying22 Try.underlying5 Try.underlying9 rfl rfl (hR6.1) (fun hin6c => D4 1000 hin6c ?_)
 repeat' (simp (maxSteps := 4000000) (disch := omega) only [go_sem, ↓reduceIte, beq_self_eq_true])
 refine G7 (Ae0 b b.length _ ad cap (hb3.ext (hB4.trans (hB5.trans hB6))) rfl (by omega)) (fun _ => by simp [closed]) (by kernel_rfl) (F7 (by kernel_rfl) (C3 (by kernel_rfl))) (fun hin7 s7 B7 hB7 hR7 => D4 1000 hin7 ?_)
 change BExt B6 B7 at hB7
 repeat' (simp (maxSteps := 4000000) (disch := omega) only [go_sem, ↓reduceIte])
 refine G7 (Ah9 b leaf b.length _ s7.1 s7.2 hR7.1 rfl hR7.2 (by omega)) (fun _ => by simp [closed]) (by kernel_rfl) (F7 (by kernel_rfl) (C3 (by kernel_rfl))) (fun hin8 s8 B8 hB8 hR8 => D4 1000 hin8 ?_)
 change BExt B7 B8 at hB8
 repeat' (simp (maxSteps := 4000000) (disch := omega) only [go_sem, ↓reduceIte])
 refine Bj7 (pfx b leaf) rfl Try.underlying22 Try.underlying5 Try.underlying9 rfl rfl (hR8.1) (fun hin8c => D4 1000 hin8c ?_)
 repeat' (simp (maxSteps := 4000000) (disch := omega) only [go_sem, ↓reduceIte, beq_self_eq_true])
 refine G7 (Bk6 b leaf b.length _ ad cap (hb3.ext (hB4.trans (hB5.trans (hB6.trans (hB7.trans hB8))))) rfl (by omega)) (fun _ => by simp [closed]) (by kernel_rfl) (F7 (by kernel_rfl) (C3 (by kernel_rfl))) (fun hin9 s9 B9 hB9 hR9 => D4 1000 hin9 ?_)
 change BExt B8 B9 at hB9
 repeat' (simp (maxSteps := 4000000) (disch := omega) only [go_sem, ↓reduceIte])
 refine Bj7 (pfx b leaf) rfl Try.underlying22 Try.underlying5 Try.underlying9 rfl rfl (hR9.1) (fun hin9c => D4 1000 hin9c ?_)
 repeat' (simp (maxSteps := 4000000) (disch := omega) only [go_sem, ↓reduceIte, beq_self_eq_true])
 refine Bj7 (unL b) rfl Try.underlying22 Try.underlying5 Try.underlying9 rfl rfl (hR2.ext (hB3.trans (hB4.trans (hB5.trans (hB6.trans (hB7.trans (hB8.trans hB9))))))) (fun hin9cx => D4 1000 hin9cx ?_)
 repeat' (simp (maxSteps := 4000000) (disch := omega) only [go_sem, ↓reduceIte, beq_self_eq_true])
 refine Bj7 (unL b) rfl Try.underlying22 Try.underlying5 Try.underlying9 rfl rfl (hR3.ext (hB4.trans (hB5.trans (hB6.trans (hB7.trans (hB8.trans hB9)))))) (fun hin9cy => D4 1000 hin9cy ?_)
 repeat' (simp (maxSteps := 4000000) (disch := omega) only [go_sem, ↓reduceIte, beq_self_eq_true])
 refine G7 (Bm8 _) (fun _ => by simp [closed]) (by kernel_rfl) (F7 (by kernel_rfl) (C3 (by kernel_rfl))) (fun hin10 s10 B10 hB10 hR10 => D4 1000 hin10 ?_)
 change BExt B9 B10 at hB10
 repeat' (first | simp (maxSteps := 4000000) (disch := omega) only [go_sem, ↓reduceIte] | with_reducible refine D9 (by kernel_rfl) (C3 (by kernel_rfl)) (A3 1000 ?_))
 first | exact ⟨hB1.trans (hB2.trans (hB3.trans (hB4.trans (hB5.trans (hB6.trans (hB7.trans (hB8.trans (hB9.trans hB10)))))))), (), rfl, by simp [closed], trivial⟩ | exact ⟨(), by simp [closed]⟩ | exact ⟨hB1.trans (hB2.trans (hB3.trans (hB4.trans (hB5.trans (hB6.trans (hB7.trans (hB8.trans (hB9.trans hB10)))))))), (), by simp [closed]⟩ | trace_state
end Go.Proofs.Ytncjbfkkgdepoaa
namespace Go.Proofs.Ytncjbfkkgdepoaa
open Go Go.Ew Go.ChangeShapes Go.WideShapes Go.ChangeAt Go.RowKit
theorem own : ownKnob Try.prog.godebug = none := by kernel_rfl
theorem Bs2 : laidOutB Try.prog = true := by kernel_rfl
theorem Cu1 {n : Int} (h : (Lit.int .u8 n).wf = true) : 0 ≤ n ∧ n < 256 := by
 simp [Lit.wf, IntKind.min, IntKind.max, IntKind.signed, IntKind.bits] at h; omega
theorem Cc5 {H : Type} (d : DataW H) : 1 ≤ Rows.uptoBulk d := by
 cases d with
 | lit l => cases l <;> simp [Rows.uptoBulk]
 | _ => simp [Rows.uptoBulk]
theorem Bi2 {H : Type} {d : DataW H} : ∀ {l : List (DataW H)}, d ∈ l → Rows.uptoBulk d ≤ Rows.uptoBulkAll l
 | x :: r, h => by
  simp only [Rows.uptoBulkAll]
  rcases List.mem_cons.1 h with rfl | h
  ·omega
  ·have := Bi2 h; omega
theorem Bi3 {H : Type} : ∀ (l : List (DataW H)), l.length ≤ Rows.uptoBulkAll l
 | [] => by simp [Rows.uptoBulkAll]
 | x :: r => by have := Cc5 x; have := Bi3 r; simp only [Rows.uptoBulkAll, List.length_cons]; omega
theorem Bm7 {H : Type} {l : List (DataW H)} (hk : Rows.uptoSmall H l = true) : Rows.uptoBulkAll l ≤ 1048576 := of_decide_eq_true hk
theorem Bm2 {w : World} {a : Addr} {v : Value} (h : w.cell? a = some v) : a.block < w.heap.size := by
 unfold World.cell? at h
 split at h
 ·rename_i h1
  exact (Array.getElem?_eq_some_iff.1 h1).1
 ·cases h
theorem Cc4 {W : World} {a : Addr} {m : Nat} (h : ∀ j, j < m → ∃ z : Int, W.cell? (a.add j) = some (.int .u8 z) ∧ 0 ≤ z ∧ z < 256) : ∃ l : List UInt8, l.length = m ∧ BytesAt (base W) (some a) l := by
 refine ⟨(List.range m).map fun j => match W.cell? (a.add j) with
  | some (.int _ z) => UInt8.ofNat z.toNat
  | _ => 0, by simp, fun b hb h0 => ?_, fun _ => rfl, fun j hj => ?_⟩
 ·cases hb
  simp only [List.length_map, List.length_range] at h0
  obtain ⟨z, hz, _⟩ := h 0 h0
  have := Bm2 hz
  rwa [K5] at this
 ·simp only [List.length_map, List.length_range] at hj
  obtain ⟨z, hz, h1, h2⟩ := h j hj
  rw [F1]
  show W.cell? (a.add j) = _
  rw [hz]
  simp only [List.getElem?_map, List.getElem?_range hj, Option.map_some, hz, bV]
  rw [UInt8.toNat_ofNat_of_lt' (by simp; omega)]
  congr 2
  omega
section
variable {H : Type} {enc : TypeId × Value → H} {W : World} {fuel : Nat} {cs : List Value} {x : DataW H × List MemPlace}
end
end Go.Proofs.Ytncjbfkkgdepoaa
namespace Go.Proofs.Ytncjbfkkgdepoaa
open Go Go.Ew Go.ChangeShapes Go.WideShapes Go.ChangeAt Go.RowKit
section
variable {H : Type} {enc : TypeId × Value → H} {W : World} {fuel : Nat} {cs : List Value} {x : DataW H × List MemPlace}
theorem Cv0 (h : DataW.trod enc Try.prog W 0 (fun _ => true) true fuel 22 cs = some x) : ∃ q : Bs, cs = [q.v] ∧ BytesAt (base W) q.ad q.l ∧ q.l.length ≤ q.c ∧ q.c ≤ maxLen ∧ q.l.length ≤ Rows.uptoBulk x.1 := by
 rcases DataW.trod_slice Try.underlying22 h with ⟨rfl, rfl⟩ | ⟨a, n, cap, elems, rest, m, _, rfl, rfl, _, hl, hm, hlen, hel, _, _⟩
 ·exact ⟨⟨[], none, 0⟩, rfl, BytesAt.nil _, Nat.le_refl _, Nat.zero_le _, by simp⟩
 ·have hz : ∀ j, j < n → ∃ z : Int, W.cell? (a.add j) = some (.int .u8 z) ∧ 0 ≤ z ∧ z < 256 := fun j hj => by
   have h1 := hel j hj
   rw [List.getElem?_eq_getElem (by omega), Option.bind_eq_some_iff] at h1
   obtain ⟨cs', hc, ht⟩ := h1
   rw [cz5] at hc
   obtain ⟨_, hcl, hce⟩ := World.cells?_some hc
   obtain ⟨z, h2, _, h3⟩ := DataW.trod_int Try.underlying5 ht
   have h4 := hce 0 (by omega)
   rw [Al1, Nat.mul_one, Nat.add_zero, h2] at h4
   exact ⟨z, h4, Cu1 h3⟩
  obtain ⟨l, h1, h2⟩ := Cc4 hz
  have hb := Bi3 (elems.map (·.1))
  simp only [List.length_map] at hb
  refine ⟨⟨l, some a, cap⟩, by simp [Bs.v, h1], h2, by simp only; omega, hm, ?_⟩
  simp only [Rows.uptoBulk]; omega
end
/-- A law that always tells true, called from outside. -/
theorem Cb4 {f : FuncId} {args : List EV} {W : World} {R : Unit → Base → Prop} (h : Does Try.prog f args (base W) (fun _ : Unit => .bool true) R) : Calls Try.prog f (A8 (fun _ => 0) args).toArray W (Ret (.bool true) W) := by
 refine (h.run (base W) (BExt.refl _) (fun b hb => hb)).mono ?_
 rintro e w' ⟨s, bs, he, _, hs, _⟩
 exact ⟨he, ⟨hs.os, hs.tape, hs.output, hs.size, fun k hk => hs.same k ⟨hk, by simp⟩⟩⟩
/-- A slice that came in, opened. -/
theorem Cr1 {H : Type} {enc : TypeId × Value → H} {W : World} {r : Reach} {bs : Nat} {t e : TypeId} {v : Value} {d : DataW H} {p : List MemPlace} (ht : Try.prog.underlying t = some (.slice e)) (hval : Value.okWide Try.prog W r bs t v)
  (h : DataW.Trod enc Try.prog W 0 (fun _ => true) true t v d p) : ∃ ad n cap fuel, v = .slice ad n cap ∧ DataW.trod enc Try.prog W 0 (fun _ => true) true fuel t [.slice ad n cap] = some (d, p) := by
 obtain ⟨a, n, cap, rfl⟩ := okWide_slice ht hval
 obtain ⟨fuel, hf⟩ := h
 exact ⟨a, n, cap, fuel, rfl, by simpa [Value.cells] using hf⟩
end Go.Proofs.Ytncjbfkkgdepoaa
