/- Part of a proof over the seat Ytncjbfkkgdepoaa. -/
import Derived.Test.YtncjbfkkgdepoaaG15
set_option linter.unusedSimpArgs false
set_option linter.unusedVariables false
set_option maxRecDepth 100000
namespace Go.Proofs.Ytncjbfkkgdepoaa
open Go RowKit Go.Ew
set_option maxHeartbeats 16000000
theorem Ae3 {C : Cx} {K : X → Prop} {f : FuncId} {dst : Option Tmp} {x : X} {args : List EV} (j : Nat) {cs : List EV} {T : TypeId} {fr : Nat × Nat} (hE : C6 C.P f) (hg : hget x.hs j = some (.cells cs T fr))
  (h : ∀ b B', BExt x.B B' → B'.D b → (∀ (off : Nat) (vs : List Value), (cs.drop off).take vs.length = vs.map C9 → CellsAt B' (some ⟨b, off, none⟩) vs) → ∃ args', A0 x.n args' ∧ (∀ bs : Nat → Nat, bs j = b → A8 bs args = A8 bs args') ∧ V0 C f args' dst { x with hs := (j, none) :: x.hs, B := B' } K) : V0 C f args dst x K := by
 refine ⟨hE, fun bs w hh hcla => ?_⟩
 obtain ⟨args', hc, he, hk⟩ := h (bs j) ⟨w, fun k => x.B.D k ∨ k = bs j⟩ ⟨fun _ h => .inl h, hh.ext.same, hh.ext.size, hh.ext.os, hh.ext.tape, hh.ext.output⟩ (.inr rfl) (fun off vs hcs => Ai3 hh hg hcs _ (.inr rfl))
 rw [he bs rfl]
 exact hk.2 bs w (hh.give hg) hc
theorem Bv4 {C : Cx} {Q : Exit → X → Prop} {f : FuncId} {dst : Option Tmp} {st : List It} {x : X} {args : List EV} (h : V0 C f args dst x (Go.Ew.Next C Q st)) : W3 C Q f args dst st x := fun _ => .inr h
theorem Cy0 {C : Cx} {Q : Exit → X → Prop} {o : Oper} {st : List It} {x : X} {T R e : TypeId} {a : Operand} {ad : Addr} (hop : o.op = .binOp .eql T a (.const (.pointer none)) R) (ht : C.P.underlying T = some (.pointer e))
  (ha : ev x.σ a = .raw (.pointer (some ad))) (hk : Go.Ew.Next C Q st { σ := put x.σ o.dst (.bool false), n := x.n, hs := x.hs, B := x.B, ms := x.ms }) : opS C Q o st x := by
 refine Y2 (.bool false) (by rw [hop]; simp) trivial ?_ hk
 intro bs ac w hr
 obtain ⟨dst, op, type, pos, after, guard⟩ := o
 simp only at hop; subst hop
 have ea := D0 hr.t a (by rw [ha]; simp)
 rw [ha] at ea
 have eb : ac.eval (.const (.pointer none)) = .pointer none := rfl
 have h1 : eqGuard .eql T a (.const (.pointer none)) (.pointer (some ad)) (.pointer none) = pure () := rfl
 simp only [execOp, ea, eb, real, h1, Sem.run_bind, Sem.run_pure, Result.andThen_ok, Aj8 w ht]
/-- A constant text as bytes: what is behind its block's end is marked. -/
theorem At1 {C : Cx} {Q : Exit → X → Prop} {o : Oper} {st : List It} {x : X} {s T : TypeId} {a : Operand} {i off len cap : Nat} {cs : List EV} {T' : TypeId} (hop : o.op = .convert s s a)
  (hs : C.P.underlying s = some (.slice T)) (hT : C.P.underlying T = some (.int .u8)) (ha : ev x.σ a = .sl i off len cap) (hg : hget x.hs i = some (.cells cs T' (0, 0)))
  (hk : Go.Ew.Next C Q st { σ := put x.σ o.dst (.sl i off len cap), n := x.n, hs := (i, some (.cells cs T' (cs.length, cs.length + 1))) :: x.hs, B := x.B, ms := x.ms }) : opS C Q o st x := by
 intro hd bs ac w hr Q'
 obtain ⟨dst, op, type, pos, after, guard⟩ := o
 simp only at hop hd hk; subst hop
 have ea := D0 hr.t a (by rw [ha]; simp)
 rw [ha] at ea
 have hlive := (hr.h.live i _ hg).2
 simp only [EObj.real] at hlive
 have hlt := G3 hlive
 have hsh : w.shape? (bs i) = some (T', cs.length) := by
  unfold World.shape?
  rw [hlive]
  simp [A9]
 have hfr : w.freeze ⟨bs i, cs.length, none⟩ 1 = J1 w (bs i) ((EObj.cells cs T' (cs.length, cs.length + 1)).real bs) := by
  unfold World.freeze
  rw [if_neg (by decide)]
  unfold J1
  congr 1
  apply Array.ext_getElem?
  intro q
  rw [Array.getElem?_modify, Array.getElem?_setIfInBounds]
  by_cases hq : bs i = q
  ·subst hq
   simp only [if_true, hlive, Option.map_some, EObj.real]
   rw [if_pos hlt]
   simp
  ·rw [if_neg hq, if_neg hq]
 refine ⟨fun _ _ => trivial, ?_⟩
 rw [Oper.semAt_eq _ _ _ (by intro c; simp)]
 have hrun : (execOp ac.eval { dst := dst, op := .convert s s a, type := type, pos := pos, after := after, guard := guard }).run C.P w = .ok (.value (real bs (.sl i off len cap))) (J1 w (bs i) ((EObj.cells cs T' (cs.length, cs.length + 1)).real bs)) := by
  simp only [execOp, ea, real, Sem.run_bind]
  simp [convert, run_underlying hs, run_underlying hT, markStringish, hsh, hfr]
 rw [hrun]
 have hcl := hr.h.cl i _ hg
 exact ⟨_, bs, ⟨hr.t.next (Nat.le_refl _) (fun _ _ => rfl) hd (v := .sl i off len cap) (.inr rfl) (by simp only [closed]; exact (hr.h.live i _ hg).1), hr.h.store hg (.cells cs T' (cs.length, cs.length + 1)) hcl⟩, hk⟩
theorem Bn1 (B : Base) : Does Try.prog 15 [] B (fun _ : Unit => .bool true) (fun _ _ => True) := by
 refine J9 Dk6 (fun s B B' hB hR => hR) Try.func15 rfl Dh8 (by simp [Try.f15]) (by simp [A0, closed]) (fun B0 hB0 => A3 1000 ?_)
 have hcl : ∀ p n, A0 n (C8 .u8 (O5 p) 32) := fun p n => A2 _ _ _ _
 have hsp : ∀ p, H7 (C8 .u8 (fun _ => 0) 32) 0 (C8 .u8 (O5 p) 32) = C8 .u8 (O5 p) 32 := fun p => by rw [← Z3]; exact P9 (O8 _) (by omega) _
 have hz32 : ∀ n, A0 n (C8 .u8 (fun _ => 0) 32) := fun n => A2 _ _ _ _
 have hoP : ∀ q : Pr, H8 (Pr.E q) = true := fun q => rfl
 have hcP : ∀ (q : Pr) n, A0 n (Pr.E q) := fun q n => by simp [Pr.E, A0, closed]
 repeat' (simp (maxSteps := 4000000) (disch := omega) only [go_sem, ↓reduceIte, Try.f15])
 refine F4 (Ar1 B0 ⟨#[100, 111]⟩ ⟨#[118, 101, 114, 98]⟩ (by decide +kernel) (by decide +kernel)) (fun _ => by simp [closed, hcP]) (fun s1 B1 hB1 hR1 => A3 1000 ?_)
 change BExt B0 B1 at hB1
 repeat' (simp (maxSteps := 4000000) (disch := omega) only [go_sem, ↓reduceIte])
 refine F4 (Ar1 B1 ⟨#[100, 111, 103]⟩ ⟨#[112, 117, 112, 112, 121]⟩ (by decide +kernel) (by decide +kernel)) (fun _ => by simp [closed, hcP]) (fun s2 B2 hB2 hR2 => A3 1000 ?_)
 change BExt B1 B2 at hB2
 repeat' (simp (maxSteps := 4000000) (disch := omega) only [go_sem, ↓reduceIte])
 refine F4 (Ar1 B2 ⟨#[100, 111, 103, 101]⟩ ⟨#[99, 111, 105, 110]⟩ (by decide +kernel) (by decide +kernel)) (fun _ => by simp [closed, hcP]) (fun s3 B3 hB3 hR3 => A3 1000 ?_)
 change BExt B2 B3 at hB3
 repeat' (simp (maxSteps := 4000000) (disch := omega) only [go_sem, ↓reduceIte])
 refine F4 (Ar1 B3 ⟨#[104, 111, 114, 115, 101]⟩ ⟨#[115, 116, 97, 108, 108, 105, 111, 110]⟩ (by decide +kernel) (by decide +kernel)) (fun _ => by simp [closed, hcP]) (fun s4 B4 hB4 hR4 => A3 1000 ?_)
 change BExt B3 B4 at hB4
 repeat' (first | with_reducible refine And.intro (by first | omega | (simp; done)) ?_ | simp (maxSteps := 4000000) (disch := omega) only [go_sem, ↓reduceIte, hoP, Pr.E, Bs.v])
 have hok : ∀ B', BExt B4 B' → ∀ q ∈ [s1, s2, s3, s4], q.k.Ok B' ∧ q.v.Ok B' := fun B' hB' q hq => by
  simp only [List.mem_cons, List.not_mem_nil, or_false] at hq
  rcases hq with rfl | rfl | rfl | rfl
  ·exact ⟨(((hR1.1.ext hB2).ext hB3).ext hB4).ext hB', (((hR1.2.1.ext hB2).ext hB3).ext hB4).ext hB'⟩
  ·exact ⟨((hR2.1.ext hB3).ext hB4).ext hB', ((hR2.2.1.ext hB3).ext hB4).ext hB'⟩
  ·exact ⟨(hR3.1.ext hB4).ext hB', (hR3.2.1.ext hB4).ext hB'⟩
  ·exact ⟨hR4.1.ext hB', hR4.2.1.ext hB'⟩
 have hkv : [s1, s2, s3, s4].map Pr.kv = awL := by
  simp only [List.map_cons, List.map_nil, hR1.2.2, hR2.2.2, hR3.2.2, hR4.2.2]; rfl
 have hrt := fun (B5 : Base) ad5 cap5 (hps : PrsAt B5 ad5 [s1, s2, s3, s4]) => By5 B5 [s1, s2, s3, s4] 4 ad5 cap5 hps rfl
 have hH : rtH awL = C8 .u8 (O5 (rtB awL)) 32 := by rw [rtH, if_pos Cs2]
 simp only [hkv, hH, Cs2] at hrt
 have k0 := Db2
 have k1 := Db1
 have k31 := Cs3
 obtain ⟨P, hP⟩ : ∃ P, P = rtB awL := ⟨_, rfl⟩
 rw [← hP] at hrt k0 k1 k31
 refine Az2 0 0 4 4 [] ([s1, s2, s3, s4].flatMap Pr.cells) Dd5 rfl rfl rfl (fun s => by simp [closed, A0, hcl]) (fun B ad cap hB hC => hrt B ad cap ⟨hC, hok B hB, by simp⟩) (fun _ B6 hB6 _ => A3 1000 ?_)
 change BExt B4 B6 at hB6
 repeat' (simp (maxSteps := 4000000) (disch := omega) only [go_sem, ↓reduceIte, hsp])
 refine F4 (Bq8 B6) (fun _ => by simp [closed]) (fun ma B7 hB7 _ => A3 1000 ?_)
 change BExt B6 B7 at hB7
 repeat' (simp (maxSteps := 4000000) (disch := omega) only [go_sem, ↓reduceIte])
 refine Bc2 rfl Try.underlying39 rfl (A3 1000 ?_)
 repeat' (simp (maxSteps := 4000000) (disch := omega) only [go_sem, ↓reduceIte])
 refine F4 (X6 B7) (fun _ => by simp [closed, A0, hcl]) (fun _ B8 hB8 _ => A3 1000 ?_)
 change BExt B7 B8 at hB8
 repeat' (simp (maxSteps := 4000000) (disch := omega) only [go_sem, ↓reduceIte])
 refine Az4 [] (Cf2 B8 (.iface 39 (.pointer (some ⟨ma, 0, none⟩))) (.inr ⟨_, _, rfl⟩)) (by simp [Z8, ren, Ac7]) rfl (by simp) (by simp) (by simp) (by simp) (fun _ B9 hB9 _ => A3 1000 ?_)
 change BExt B8 B9 at hB9
 simp only [Bf0, rho, ren, trO, EObj.ren, Z8]
 have c0 : ((89 : Int) == 89) = true := rfl
 repeat' (simp (maxSteps := 4000000) (disch := omega) only [go_sem, ↓reduceIte, k0, k1, k31])
 refine Cy0 rfl Try.underlying39 rfl (A3 1000 ?_)
 repeat' (first | with_reducible refine And.intro (by first | omega | (simp; done)) ?_ | simp (maxSteps := 4000000) (disch := omega) only [go_sem, ↓reduceIte])
 refine F4 (X6 B9) (fun _ => by simp [closed, A0, hcl]) (fun _ B10 hB10 _ => A3 1000 ?_)
 change BExt B9 B10 at hB10
 repeat' (simp (maxSteps := 4000000) (disch := omega) only [go_sem, ↓reduceIte])
 refine F4 (Bp4 B10) (fun _ => by simp [closed, A0, hcl]) (fun _ B11 hB11 _ => A3 1000 ?_)
 change BExt B10 B11 at hB11
 repeat' (simp (maxSteps := 4000000) (disch := omega) only [go_sem, ↓reduceIte])
 refine ⟨by simp [C8, EV.isInt], by simp, ?_⟩
 refine At1 rfl Try.underlying22 Try.underlying5 rfl rfl (A3 1000 ?_)
 repeat' (first | with_reducible refine And.intro (by first | omega | (simp; done)) ?_ | simp (maxSteps := 4000000) (disch := omega) only [go_sem, ↓reduceIte])
 refine At1 rfl Try.underlying22 Try.underlying5 rfl rfl (A3 1000 ?_)
 repeat' (simp (maxSteps := 4000000) (disch := omega) only [go_sem, ↓reduceIte])
 refine Bv4 (Ae3 3 Cy3 rfl (fun b1 B12 hB12 hD12 hC12 => ⟨[.ptr 2 0, .raw (.slice (some ⟨b1, 0, none⟩) 1 1), .sl 4 0 1 1], by simp [A0, closed], fun bs hbs => by simp [A8, real, hbs], Ae3 4 Cy3 rfl (fun b2 B13 hB13 hD13 hC13 => ⟨[.ptr 2 0, .raw (.slice (some ⟨b1, 0, none⟩) 1 1), .raw (.slice (some ⟨b2, 0, none⟩) 1 1)], by simp [A0, closed], fun bs hbs => by simp [A8, real, hbs],
  Ag7 2 (Bo3 (f := 200) (key := [97]) (v := [98]) B13 (.iface 39 (.pointer (some ⟨ma, 0, none⟩))) .nilIface .nil .nil ((hC12 0 [bV 97] rfl).ext hB13) (hC13 0 [bV 98] rfl) rfl rfl (by decide) (by decide) (by decide) (by decide)) (BExt.refl _) rfl (fun _ => by simp [closed, A0]) (C7 _ _) (fun _ => C7 _ _) (fun u B14 hB14 hR14 => A3 1000 ?_)⟩)⟩))
 change BExt B11 B12 at hB12
 change BExt B13 B14 at hB14
 change BExt B12 B13 at hB13
 have hN : NdAt B14 (.leaf (G7 [97]) [98]) u := hR14
 repeat' (first | with_reducible refine And.intro (by first | omega | (simp; done)) ?_ | simp (maxSteps := 4000000) (disch := omega) only [go_sem, ↓reduceIte, trO])
 refine At1 rfl Try.underlying22 Try.underlying5 rfl rfl (A3 1000 ?_)
 repeat' (simp (maxSteps := 4000000) (disch := omega) only [go_sem, ↓reduceIte])
 refine Bv4 (Ae3 5 Dd4 rfl (fun b3 B15 hB15 hD15 hC15 => ⟨[.ptr 2 0, .raw (.slice (some ⟨b3, 0, none⟩) 1 1)], by simp [A0, closed], fun bs hbs => by simp [A8, real, hbs],
  Ag7 2 (Ba8 (key := [97]) (v := [98]) B15 (.iface 39 (.pointer (some ⟨ma, 0, none⟩))) u (hN.ext' hB15) (hC15 0 [bV 97] rfl) rfl (by decide) rfl (by decide)) (BExt.refl _) rfl (fun _ => by simp [closed, A0]) (C7 _ _) (fun _ => C7 _ _) (fun s16 B16 hB16 hR16 => A3 1000 ?_)⟩))
 change BExt B14 B15 at hB15
 change BExt B15 B16 at hB16
 have h98 : Aa3 [98] = ⟨#[98]⟩ := by rw [Aq2]
 repeat' (simp (maxSteps := 4000000) (disch := omega) only [go_sem, ↓reduceIte, trO])
 refine Bk1 [98] rfl Try.underlying22 Try.underlying5 Try.underlying9 rfl rfl hR16.1 (A3 1000 ?_)
 rw [h98]
 repeat' (first | with_reducible refine And.intro (by first | omega | (simp; done)) ?_ | simp (maxSteps := 4000000) (disch := omega) only [go_sem, ↓reduceIte])
 refine Ac2 (vf := fun s : Option Addr × Nat => .raw (.slice s.1 2 s.2)) 6 0 1 1 [] [18] Cz7 (by simp [A0]) rfl rfl rfl (fun s => by simp [closed]) (fun B ad cap hB hb => Ad3 [18] 1 B ad cap hb rfl (by omega)) (fun s17 B17 hB17 hR17 => A3 1000 ?_)
 change BExt B16 B17 at hB17
 repeat' (simp (maxSteps := 4000000) (disch := omega) only [go_sem, ↓reduceIte])
 have hAll : BExt B0 B17 := hB1.trans (hB2.trans (hB3.trans (hB4.trans (hB6.trans (hB7.trans (hB8.trans (hB9.trans (hB10.trans (hB11.trans (hB12.trans (hB13.trans (hB14.trans (hB15.trans (hB16.trans hB17))))))))))))))
 first | exact ⟨hAll, (), rfl, by simp [closed], trivial⟩ | exact ⟨hAll, (), rfl, by simp [closed]⟩ | exact ⟨(), by simp [closed]⟩ | exact ⟨hAll, (), by simp [closed]⟩ | trace_state
end Go.Proofs.Ytncjbfkkgdepoaa
namespace Go.Proofs.Ytncjbfkkgdepoaa
open Go RowKit Go.Ew
set_option maxHeartbeats 16000000
theorem in9 : C5 Try.f9.ntmps (Try.f9.body.getD .skip) = true := by kernel_rfl
theorem in8 : C5 Try.f8.ntmps (Try.f8.body.getD .skip) = true := by kernel_rfl
def Ba7 (b : List UInt8) : Bool := decide (b ≠ []) && (decide ((hiN (b.getD 0 0)).toNat ≤ 3) && (decide ((hiN (b.getD 0 0)).toNat % 2 = 1) || decide ((loN (b.getD 0 0)).toNat = 0)))
def unL (b : List UInt8) : List UInt8 := if Ba7 b then (G7 b).drop (2 - (hiN (b.getD 0 0)).toNat % 2) else []
def unF (b : List UInt8) : Bool := Ba7 b && decide (2 ≤ (hiN (b.getD 0 0)).toNat)
def unE (b : List UInt8) : Nat := if Ba7 b then 0 else 123
theorem Dl9 (h : Nat) (hh : h < 256) : Bj3 .u8 (h : Int) 1 = ((h % 2 : Nat) : Int) := by
 have h0 : ∀ n : Fin 256, Bj3 .u8 ((n.val : Nat) : Int) 1 = ((n.val % 2 : Nat) : Int) := by decide +kernel
 exact h0 ⟨h, hh⟩
end Go.Proofs.Ytncjbfkkgdepoaa
namespace Go.Proofs.Ytncjbfkkgdepoaa
open Go RowKit Go.Ew
set_option maxHeartbeats 16000000
theorem Bq6 {b : List UInt8} (h : b ≠ []) : (G7 b).getD 0 0 = hiN (b.getD 0 0) ∧ (G7 b).getD 1 0 = loN (b.getD 0 0) := by
 cases b with
 | nil => exact absurd rfl h
 | cons c l => exact ⟨rfl, rfl⟩
end Go.Proofs.Ytncjbfkkgdepoaa
