/- Part of a proof over the seat Ytncjbfkkgdepoaa. -/
import Derived.Test.YtncjbfkkgdepoaaG16
set_option linter.unusedSimpArgs false
set_option linter.unusedVariables false
set_option maxRecDepth 100000
namespace Go.Proofs.Ytncjbfkkgdepoaa
open Go RowKit Go.Ew
set_option maxHeartbeats 16000000
theorem Ad8 {C : Cx} {K : X → Prop} {f : FuncId} {dst : Option Tmp} {x : X} {args : List EV} (j : Nat) {cs : List EV} {T : TypeId} {fr : Nat × Nat} (hE : C5 C.P f) (hg : hget x.hs j = some (.cells cs T fr))
  (h : ∀ b B', BExt x.B B' → B'.D b → (∀ (off : Nat) (vs : List Value), (cs.drop off).take vs.length = vs.map D0 → CellsAt B' (some ⟨b, off, none⟩) vs) → ∃ args', A0 x.n args' ∧ (∀ bs : Nat → Nat, bs j = b → A8 bs args = A8 bs args') ∧ W1 C f args' dst { x with hs := (j, none) :: x.hs, B := B' } K) : W1 C f args dst x K := by
 refine ⟨hE, fun bs w hh hcla => ?_⟩
 obtain ⟨args', hc, he, hk⟩ := h (bs j) ⟨w, fun k => x.B.D k ∨ k = bs j⟩ ⟨fun _ h => .inl h, hh.ext.same, hh.ext.size, hh.ext.os, hh.ext.tape, hh.ext.output⟩ (.inr rfl) (fun off vs hcs => Ai1 hh hg hcs _ (.inr rfl))
 rw [he bs rfl]
 exact hk.2 bs w (hh.give hg) hc
theorem Bu6 {C : Cx} {Q : Exit → X → Prop} {f : FuncId} {dst : Option Tmp} {st : List It} {x : X} {args : List EV} (h : W1 C f args dst x (Go.Ew.Next C Q st)) : X6 C Q f args dst st x := fun _ => .inr h
theorem Cw9 {C : Cx} {Q : Exit → X → Prop} {o : Oper} {st : List It} {x : X} {T R e : TypeId} {a : Operand} {ad : Addr} (hop : o.op = .binOp .eql T a (.const (.pointer none)) R) (ht : C.P.underlying T = some (.pointer e))
  (ha : ev x.σ a = .raw (.pointer (some ad))) (hk : Go.Ew.Next C Q st { σ := put x.σ o.dst (.bool false), n := x.n, hs := x.hs, B := x.B, ms := x.ms }) : opS C Q o st x := by
 refine X7 (.bool false) (by rw [hop]; simp) trivial ?_ hk
 intro bs ac w hr
 obtain ⟨dst, op, type, pos, after, guard⟩ := o
 simp only at hop; subst hop
 have ea := D5 hr.t a (by rw [ha]; simp)
 rw [ha] at ea
 have eb : ac.eval (.const (.pointer none)) = .pointer none := rfl
 have h1 : eqGuard .eql T a (.const (.pointer none)) (.pointer (some ad)) (.pointer none) = pure () := rfl
 simp only [execOp, ea, eb, real, h1, Sem.run_bind, Sem.run_pure, Result.andThen_ok, Aj6 w ht]
/-- A constant text as bytes: what is behind its block's end is marked. -/
theorem As6 {C : Cx} {Q : Exit → X → Prop} {o : Oper} {st : List It} {x : X} {s T : TypeId} {a : Operand} {i off len cap : Nat} {cs : List EV} {T' : TypeId} (hop : o.op = .convert s s a)
  (hs : C.P.underlying s = some (.slice T)) (hT : C.P.underlying T = some (.int .u8)) (ha : ev x.σ a = .sl i off len cap) (hg : hget x.hs i = some (.cells cs T' (0, 0)))
  (hk : Go.Ew.Next C Q st { σ := put x.σ o.dst (.sl i off len cap), n := x.n, hs := (i, some (.cells cs T' (cs.length, cs.length + 1))) :: x.hs, B := x.B, ms := x.ms }) : opS C Q o st x := by
 intro hd bs ac w hr Q'
 obtain ⟨dst, op, type, pos, after, guard⟩ := o
 simp only at hop hd hk; subst hop
 have ea := D5 hr.t a (by rw [ha]; simp)
 rw [ha] at ea
 have hlive := (hr.h.live i _ hg).2
 simp only [EObj.real] at hlive
 have hlt := G5 hlive
 have hsh : w.shape? (bs i) = some (T', cs.length) := by
  unfold World.shape?
  rw [hlive]
  simp [A9]
 have hfr : w.freeze ⟨bs i, cs.length, none⟩ 1 = J0 w (bs i) ((EObj.cells cs T' (cs.length, cs.length + 1)).real bs) := by
  unfold World.freeze
  rw [if_neg (by decide)]
  unfold J0
  congr 1
  apply Array.ext_getElem?
  intro q
  rw [Array.getElem?_modify, Array.getElem?_setIfInBounds]
  by_cases hq : bs i = q
  ·subst hq
   simp only [if_true, hlive, Option.map_some, EObj.real]
   rw [if_pos hlt]
   simp
  ·rw [if_neg hq, if_neg hq]
 refine ⟨fun _ _ => trivial, ?_⟩
 rw [Oper.semAt_eq _ _ _ (by intro c; simp)]
 have hrun : (execOp ac.eval { dst := dst, op := .convert s s a, type := type, pos := pos, after := after, guard := guard }).run C.P w = .ok (.value (real bs (.sl i off len cap))) (J0 w (bs i) ((EObj.cells cs T' (cs.length, cs.length + 1)).real bs)) := by
  simp only [execOp, ea, real, Sem.run_bind]
  simp [convert, run_underlying hs, run_underlying hT, markStringish, hsh, hfr]
 rw [hrun]
 have hcl := hr.h.cl i _ hg
 exact ⟨_, bs, ⟨hr.t.next (Nat.le_refl _) (fun _ _ => rfl) hd (v := .sl i off len cap) (.inr rfl) (by simp only [closed]; exact (hr.h.live i _ hg).1), hr.h.store hg (.cells cs T' (cs.length, cs.length + 1)) hcl⟩, hk⟩
theorem Bm8 (B : Base) : Does Try.prog 15 [] B (fun _ : Unit => .bool true) (fun _ _ => True) := by
 refine K0 Dj6 (fun s B B' hB hR => hR) Try.func15 rfl Dg4 (by simp [Try.f15]) (by simp [A0, closed]) (fun B0 hB0 => A3 1000 ?_)
 have hcl : ∀ p n, A0 n (C9 .u8 (N9 p) 32) := fun p n => A2 _ _ _ _
 have hsp : ∀ p, H8 (C9 .u8 (fun _ => 0) 32) 0 (C9 .u8 (N9 p) 32) = C9 .u8 (N9 p) 32 := fun p => by rw [← Z0]; exact P3 (O0 _) (by omega) _
 have hz32 : ∀ n, A0 n (C9 .u8 (fun _ => 0) 32) := fun n => A2 _ _ _ _
 have hoP : ∀ q : Pr, I0 (Pr.E q) = true := fun q => rfl
 have hcP : ∀ (q : Pr) n, A0 n (Pr.E q) := fun q n => by simp [Pr.E, A0, closed]
 repeat' (simp (maxSteps := 4000000) (disch := omega) only [go_sem, ↓reduceIte, Try.f15])
 refine F4 (Aq8 B0 ⟨#[100, 111]⟩ ⟨#[118, 101, 114, 98]⟩ (by decide +kernel) (by decide +kernel)) (fun _ => by simp [closed, hcP]) (fun s1 B1 hB1 hR1 => A3 1000 ?_)
 change BExt B0 B1 at hB1
 repeat' (simp (maxSteps := 4000000) (disch := omega) only [go_sem, ↓reduceIte])
 refine F4 (Aq8 B1 ⟨#[100, 111, 103]⟩ ⟨#[112, 117, 112, 112, 121]⟩ (by decide +kernel) (by decide +kernel)) (fun _ => by simp [closed, hcP]) (fun s2 B2 hB2 hR2 => A3 1000 ?_)
 change BExt B1 B2 at hB2
 repeat' (simp (maxSteps := 4000000) (disch := omega) only [go_sem, ↓reduceIte])
 refine F4 (Aq8 B2 ⟨#[100, 111, 103, 101]⟩ ⟨#[99, 111, 105, 110]⟩ (by decide +kernel) (by decide +kernel)) (fun _ => by simp [closed, hcP]) (fun s3 B3 hB3 hR3 => A3 1000 ?_)
 change BExt B2 B3 at hB3
 repeat' (simp (maxSteps := 4000000) (disch := omega) only [go_sem, ↓reduceIte])
 refine F4 (Aq8 B3 ⟨#[104, 111, 114, 115, 101]⟩ ⟨#[115, 116, 97, 108, 108, 105, 111, 110]⟩ (by decide +kernel) (by decide +kernel)) (fun _ => by simp [closed, hcP]) (fun s4 B4 hB4 hR4 => A3 1000 ?_)
 change BExt B3 B4 at hB4
 repeat' (first | with_reducible refine And.intro (by first | omega | (simp; done)) ?_ | simp (maxSteps := 4000000) (disch := omega) only [go_sem, ↓reduceIte, hoP, Pr.E, Bs.v])
 have hok : ∀ B', BExt B4 B' → ∀ q ∈ [s1, s2, s3, s4], q.k.Ok B' ∧ q.v.Ok B' := fun B' hB' q hq => by
  simp only [List.mem_cons, List.not_mem_nil, or_false] at hq
  rcases hq with rfl | rfl | rfl | rfl
  ·exact ⟨(((hR1.1.ext hB2).ext hB3).ext hB4).ext hB', (((hR1.2.1.ext hB2).ext hB3).ext hB4).ext hB'⟩
  ·exact ⟨((hR2.1.ext hB3).ext hB4).ext hB', ((hR2.2.1.ext hB3).ext hB4).ext hB'⟩
  ·exact ⟨(hR3.1.ext hB4).ext hB', (hR3.2.1.ext hB4).ext hB'⟩
  ·exact ⟨hR4.1.ext hB', hR4.2.1.ext hB'⟩
 have hkv : [s1, s2, s3, s4].map Pr.kv = awL := by
  simp only [List.map_cons, List.map_nil, hR1.2.2, hR2.2.2, hR3.2.2, hR4.2.2]; rfl
 have hrt := fun (B5 : Base) ad5 cap5 (hps : PrsAt B5 ad5 [s1, s2, s3, s4]) => Bx5 B5 [s1, s2, s3, s4] 4 ad5 cap5 hps rfl
 have hH : rtH awL = C9 .u8 (N9 (rtB awL)) 32 := by rw [rtH, if_pos Cq9]
 simp only [hkv, hH, Cq9] at hrt
 have k0 := Da0
 have k1 := Cz9
 have k31 := Cr0
 obtain ⟨P, hP⟩ : ∃ P, P = rtB awL := ⟨_, rfl⟩
 rw [← hP] at hrt k0 k1 k31
 refine Ay6 0 0 4 4 [] ([s1, s2, s3, s4].flatMap Pr.cells) Dc2 rfl rfl rfl (fun s => by simp [closed, A0, hcl]) (fun B ad cap hB hC => hrt B ad cap ⟨hC, hok B hB, by simp⟩) (fun _ B6 hB6 _ => A3 1000 ?_)
 change BExt B4 B6 at hB6
 repeat' (simp (maxSteps := 4000000) (disch := omega) only [go_sem, ↓reduceIte, hsp])
 refine F4 (Bq5 B6) (fun _ => by simp [closed]) (fun ma B7 hB7 _ => A3 1000 ?_)
 change BExt B6 B7 at hB7
 repeat' (simp (maxSteps := 4000000) (disch := omega) only [go_sem, ↓reduceIte])
 refine Bb5 rfl Try.underlying39 rfl (A3 1000 ?_)
 repeat' (simp (maxSteps := 4000000) (disch := omega) only [go_sem, ↓reduceIte])
 refine F4 (X2 B7) (fun _ => by simp [closed, A0, hcl]) (fun _ B8 hB8 _ => A3 1000 ?_)
 change BExt B7 B8 at hB8
 repeat' (simp (maxSteps := 4000000) (disch := omega) only [go_sem, ↓reduceIte])
 refine Ay7 [] (Ce6 B8 (.iface 39 (.pointer (some ⟨ma, 0, none⟩))) (.inr ⟨_, _, rfl⟩)) (by simp [Z6, ren, Ac3]) rfl (by simp) (by simp) (by simp) (by simp) (fun _ B9 hB9 _ => A3 1000 ?_)
 change BExt B8 B9 at hB9
 simp only [Bn1, rho, ren, trO, EObj.ren, Z6]
 have c0 : ((89 : Int) == 89) = true := rfl
 repeat' (simp (maxSteps := 4000000) (disch := omega) only [go_sem, ↓reduceIte, k0, k1, k31])
 refine Cw9 rfl Try.underlying39 rfl (A3 1000 ?_)
 repeat' (first | with_reducible refine And.intro (by first | omega | (simp; done)) ?_ | simp (maxSteps := 4000000) (disch := omega) only [go_sem, ↓reduceIte])
 refine F4 (X2 B9) (fun _ => by simp [closed, A0, hcl]) (fun _ B10 hB10 _ => A3 1000 ?_)
 change BExt B9 B10 at hB10
 repeat' (simp (maxSteps := 4000000) (disch := omega) only [go_sem, ↓reduceIte])
 refine F4 (Bp2 B10) (fun _ => by simp [closed, A0, hcl]) (fun _ B11 hB11 _ => A3 1000 ?_)
 change BExt B10 B11 at hB11
 repeat' (simp (maxSteps := 4000000) (disch := omega) only [go_sem, ↓reduceIte])
 refine ⟨by simp [C9, EV.isInt], by simp, ?_⟩
 refine As6 rfl Try.underlying22 Try.underlying5 rfl rfl (A3 1000 ?_)
 repeat' (first | with_reducible refine And.intro (by first | omega | (simp; done)) ?_ | simp (maxSteps := 4000000) (disch := omega) only [go_sem, ↓reduceIte])
 refine As6 rfl Try.underlying22 Try.underlying5 rfl rfl (A3 1000 ?_)
 repeat' (simp (maxSteps := 4000000) (disch := omega) only [go_sem, ↓reduceIte])
 refine Bu6 (Ad8 3 Cx2 rfl (fun b1 B12 hB12 hD12 hC12 => ⟨[.ptr 2 0, .raw (.slice (some ⟨b1, 0, none⟩) 1 1), .sl 4 0 1 1], by simp [A0, closed], fun bs hbs => by simp [A8, real, hbs], Ad8 4 Cx2 rfl (fun b2 B13 hB13 hD13 hC13 => ⟨[.ptr 2 0, .raw (.slice (some ⟨b1, 0, none⟩) 1 1), .raw (.slice (some ⟨b2, 0, none⟩) 1 1)], by simp [A0, closed], fun bs hbs => by simp [A8, real, hbs],
  Ag3 2 (Bo0 (f := 200) (key := [97]) (v := [98]) B13 (.iface 39 (.pointer (some ⟨ma, 0, none⟩))) .nilIface .nil .nil ((hC12 0 [bV 97] rfl).ext hB13) (hC13 0 [bV 98] rfl) rfl rfl (by decide) (by decide) (by decide) (by decide)) (BExt.refl _) rfl (fun _ => by simp [closed, A0]) (C7 _ _) (fun _ => C7 _ _) (fun u B14 hB14 hR14 => A3 1000 ?_)⟩)⟩))
 change BExt B11 B12 at hB12
 change BExt B13 B14 at hB14
 change BExt B12 B13 at hB13
 have hN : NdAt B14 (.leaf (F8 [97]) [98]) u := hR14
 repeat' (first | with_reducible refine And.intro (by first | omega | (simp; done)) ?_ | simp (maxSteps := 4000000) (disch := omega) only [go_sem, ↓reduceIte, trO])
 refine As6 rfl Try.underlying22 Try.underlying5 rfl rfl (A3 1000 ?_)
 repeat' (simp (maxSteps := 4000000) (disch := omega) only [go_sem, ↓reduceIte])
 refine Bu6 (Ad8 5 Dc1 rfl (fun b3 B15 hB15 hD15 hC15 => ⟨[.ptr 2 0, .raw (.slice (some ⟨b3, 0, none⟩) 1 1)], by simp [A0, closed], fun bs hbs => by simp [A8, real, hbs],
  Ag3 2 (Ba1 (key := [97]) (v := [98]) B15 (.iface 39 (.pointer (some ⟨ma, 0, none⟩))) u (hN.ext' hB15) (hC15 0 [bV 97] rfl) rfl (by decide) rfl (by decide)) (BExt.refl _) rfl (fun _ => by simp [closed, A0]) (C7 _ _) (fun _ => C7 _ _) (fun s16 B16 hB16 hR16 => A3 1000 ?_)⟩))
 change BExt B14 B15 at hB15
 change BExt B15 B16 at hB16
 have h98 : Ba3 [98] = ⟨#[98]⟩ := by rw [Ap8]
 repeat' (simp (maxSteps := 4000000) (disch := omega) only [go_sem, ↓reduceIte, trO])
 refine Bj8 [98] rfl Try.underlying22 Try.underlying5 Try.underlying9 rfl rfl hR16.1 (A3 1000 ?_)
 rw [h98]
 repeat' (first | with_reducible refine And.intro (by first | omega | (simp; done)) ?_ | simp (maxSteps := 4000000) (disch := omega) only [go_sem, ↓reduceIte])
 refine Ab9 (vf := fun s : Option Addr × Nat => .raw (.slice s.1 2 s.2)) 6 0 1 1 [] [18] Dc3 (by simp [A0]) rfl rfl rfl (fun s => by simp [closed]) (fun B ad cap hB hb => O4 [18] 1 B ad cap hb rfl (by omega)) (fun s17 B17 hB17 hR17 => A3 1000 ?_)
 change BExt B16 B17 at hB17
 repeat' (simp (maxSteps := 4000000) (disch := omega) only [go_sem, ↓reduceIte])
 have hAll : BExt B0 B17 := hB1.trans (hB2.trans (hB3.trans (hB4.trans (hB6.trans (hB7.trans (hB8.trans (hB9.trans (hB10.trans (hB11.trans (hB12.trans (hB13.trans (hB14.trans (hB15.trans (hB16.trans hB17))))))))))))))
 first | exact ⟨hAll, (), rfl, by simp [closed], trivial⟩ | exact ⟨hAll, (), rfl, by simp [closed]⟩ | exact ⟨(), by simp [closed]⟩ | exact ⟨hAll, (), by simp [closed]⟩ | trace_state
end Go.Proofs.Ytncjbfkkgdepoaa
namespace Go.Proofs.Ytncjbfkkgdepoaa
open Go RowKit Go.Ew
set_option maxHeartbeats 16000000
theorem in9 : C4 Try.f9.ntmps (Try.f9.body.getD .skip) = true := by kernel_rfl
theorem in8 : C4 Try.f8.ntmps (Try.f8.body.getD .skip) = true := by kernel_rfl
theorem Dg9 : C4 Try.f10.ntmps (Try.f10.body.getD .skip) = true := by kernel_rfl
theorem Ae0 (p : List UInt8) (n : Nat) (B : Base) (ad : Option Addr) (cap : Nat) (h : BytesAt B ad p) (hn : p.length = n) (hp : n ≤ 1099511627776) :
  Does Try.prog 9 [.raw (.slice ad n cap)] B (fun s : Option Addr × Nat => .raw (.slice s.1 n s.2)) (fun s B' => BytesAt B' s.1 p ∧ n ≤ s.2) := by
 subst hn
 refine K0 en9 (fun s B B' hB hR => ⟨hR.1.ext hB, hR.2⟩) Try.func9 rfl in9 (by simp [Try.f9]) (by simp [A0, closed]) (fun B0 hB0 => A3 1000 ?_)
 replace h := h.ext hB0
 repeat' (first | with_reducible refine And.intro (by first | omega | (simp; done)) ?_ | simp (maxSteps := 4000000) (disch := omega) only [go_sem, ↓reduceIte, Try.f9])
 refine appB (T := 5) (l := some (0, [])) (xs := []) 0 0 p rfl Try.underlying22 (.inl ⟨_, Try.underlying22⟩) zr5 cz5 by5 rfl rfl rfl ⟨Nat.le_refl _, Nat.zero_le _, rfl, by simp⟩ (h.src _) (by omega) (fun l1 hl1 => ?_)
 simp only [Nat.zero_add, List.nil_append] at hl1 ⊢
 refine J3 (xs := p) (T := 5) 1 p.length rfl rfl hl1 (by simp) (fun b2 ad2 cap2 B2 hB2 hfz hbY hcap2 => A3 1000 ?_)
 change BExt B0 B2 at hB2
 repeat' (first | with_reducible refine And.intro (by omega) ?_ | simp (maxSteps := 4000000) (disch := omega) only [go_sem, ↓reduceIte, hfz])
 first | exact ⟨hB2, (ad2, cap2), rfl, by simp [closed, A0], ⟨hbY, hcap2⟩⟩ | exact ⟨(ad2, cap2), rfl, by simp [closed, A0], ⟨hbY, hcap2⟩⟩ | exact ⟨hB2, (ad2, cap2), by simp [closed, A0], ⟨hbY, hcap2⟩⟩ | exact ⟨(ad2, cap2), by simp [closed, A0], ⟨hbY, hcap2⟩⟩ | exact ⟨hB2, (ad2, cap2), by simp [closed, A0, D6]⟩ | exact ⟨(ad2, cap2), by simp [closed, A0, D6]⟩
def Au4 (b : List UInt8) : Bool := decide (b ≠ []) && (decide ((hiN (b.getD 0 0)).toNat ≤ 3) && (decide ((hiN (b.getD 0 0)).toNat % 2 = 1) || decide ((loN (b.getD 0 0)).toNat = 0)))
def unL (b : List UInt8) : List UInt8 := if Au4 b then (F8 b).drop (2 - (hiN (b.getD 0 0)).toNat % 2) else []
def unF (b : List UInt8) : Bool := Au4 b && decide (2 ≤ (hiN (b.getD 0 0)).toNat)
def unE (b : List UInt8) : Nat := if Au4 b then 0 else 123
theorem Dl2 (h : Nat) (hh : h < 256) : Bi9 .u8 (h : Int) 1 = ((h % 2 : Nat) : Int) := by
 have h0 : ∀ n : Fin 256, Bi9 .u8 ((n.val : Nat) : Int) 1 = ((n.val % 2 : Nat) : Int) := by decide +kernel
 exact h0 ⟨h, hh⟩
theorem Ba0 (b : List UInt8) (n : Nat) (B : Base) (ad : Option Addr) (cap : Nat) (hb : BytesAt B ad b) (hn : b.length = n) (hc : n ≤ 1099511627776) :
  Does Try.prog 8 [.raw (.slice ad n cap)] B (fun s : Option Addr × Nat => .tup [.raw (.slice s.1 (unL b).length s.2), .bool (unF b), .int .i64 (unE b : Nat)]) (fun s B' => BytesAt B' s.1 (unL b)) := by
 subst hn
 refine K0 en8 (fun s B B' hB hR => hR.ext hB) Try.func8 rfl in8 (by simp [Try.f8]) (by simp [A0, closed]) (fun B0 hB0 => A3 1000 ?_)
 replace hb := hb.ext hB0
 have hno : Au4 b = false → unL b = [] ∧ unF b = false ∧ unE b = 123 := fun h => by simp [unL, unF, unE, h]
 by_cases h0 : b = []
 ·obtain ⟨g1, g2, g3⟩ := hno (by simp [Au4, h0])
  rw [g1, g2, g3]
  subst h0
  repeat' (simp (maxSteps := 4000000) (disch := omega) only [go_sem, ↓reduceIte, Try.f8, List.length_nil])
  first | exact ⟨BExt.refl _, (none, 0), rfl, by simp [closed, A0], D6 none⟩ | exact ⟨(none, 0), by simp [closed, A0], D6 none⟩ | exact ⟨(none, 0), rfl, by simp [closed, A0], D6 none⟩
 ·have hbl : 0 < b.length := List.length_pos_iff.2 h0
  have c0 : (((b.length : Nat) : Int) == 0) = false := by rw [beq_eq_false_iff_ne]; omega
  have m1 := hb.ld 0 (by omega)
  have m2 := hb.lS 0 (by omega)
  have m3 := hb.lD (by omega)
  have m4 := hb.ok.so (by omega)
  have hokd : Au4 b = (decide (b ≠ []) && (decide ((hiN (b.getD 0 0)).toNat ≤ 3) && (decide ((hiN (b.getD 0 0)).toNat % 2 = 1) || decide ((loN (b.getD 0 0)).toNat = 0)))) := rfl
  have hLd : unL b = if Au4 b then (F8 b).drop (2 - (hiN (b.getD 0 0)).toNat % 2) else [] := rfl
  have hFd : unF b = (Au4 b && decide (2 ≤ (hiN (b.getD 0 0)).toNat)) := rfl
  rw [decide_eq_true h0, Bool.true_and] at hokd
  obtain ⟨c, hc0⟩ : ∃ c, c = b.getD 0 0 := ⟨_, rfl⟩
  rw [← hc0] at m1 hokd hLd hFd
  have e4 := Da7 c
  have e15 := Be4 c
  have e1 := Dl2 (hiN c).toNat (UInt8.toNat_lt _)
  obtain ⟨hx, hh⟩ : ∃ hx, hx = (hiN c).toNat := ⟨_, rfl⟩
  obtain ⟨w, hw⟩ : ∃ w, w = (loN c).toNat := ⟨_, rfl⟩
  rw [← hh] at e4 e1 hokd hLd hFd
  rw [← hw] at e15 hokd
  by_cases g3 : 3 < hx
  ·have c3 : decide ((3 : Int) < (hx : Int)) = true := decide_eq_true (by omega)
   obtain ⟨g1, g2, g3⟩ := hno (by rw [hokd, decide_eq_false (by omega : ¬ hx ≤ 3)]; rfl)
   rw [g1, g2, g3]
   repeat' (first | with_reducible refine And.intro (by first | omega | (constructor <;> assumption) | (simp [*]; done)) ?_ | simp (maxSteps := 4000000) (disch := omega) only [go_sem, ↓reduceIte, Try.f8, c0, m1, bE, e4, c3])
   first | exact ⟨BExt.refl _, (none, 0), rfl, by simp [closed, A0], D6 none⟩ | exact ⟨(none, 0), by simp [closed, A0], D6 none⟩ | exact ⟨(none, 0), rfl, by simp [closed, A0], D6 none⟩
  ·have c3 : decide ((3 : Int) < (hx : Int)) = false := decide_eq_false (by omega)
   rcases Nat.mod_two_eq_zero_or_one hx with gp | gp
   ·by_cases gw : w = 0
    ·have hok : Au4 b = true := by rw [hokd, decide_eq_true (by omega : hx ≤ 3), decide_eq_true gw, Bool.or_true]; rfl
     have cw : ((w : Int) == 0) = true := by rw [gw]; rfl
     have hE : unE b = 0 := by simp [unE, hok]
     rw [hok, if_pos rfl, gp] at hLd
     rw [hok, Bool.true_and] at hFd
     have hLd : unL b = (F8 b).drop 2 := hLd
     rw [hLd, hFd, hE]
     have e1' : Bi9 .u8 (hx : Int) 1 = 0 := by rw [e1, gp]; rfl
     have hnl := Q2 b
     have hdr : ((F8 b).drop 2).length = (F8 b).length - 2 := List.length_drop
     have hde : decide ((2 : Int) ≤ (hx : Int)) = decide (2 ≤ hx) := decide_eq_decide.2 (by omega)
     repeat' (first | with_reducible refine And.intro (by first | omega | (constructor <;> assumption) | (simp [*]; done)) ?_ | simp (maxSteps := 4000000) (disch := omega) only [go_sem, ↓reduceIte, Try.f8, c0, m1, bE, e4, c3, e1', e15, cw] | ((first | refine A6 (fun h => ?_) (fun h => ?_) | refine E2 (fun h => ?_) (fun h => ?_) | refine F0 (fun h => ?_) (fun h => ?_)) <;> (try simp only [bne_iff_ne, ne_eq, beq_iff_eq, decide_eq_true_eq, decide_eq_false_iff_not, Bool.not_eq_true, Bool.not_eq_false, Bool.not_true, Bool.not_false, bne_eq_false_iff_eq, beq_eq_false_iff_ne, Bool.and_eq_true, Bool.or_eq_true, Bool.and_eq_false_imp, Bool.or_eq_false_iff, Bool.not_eq_true', Bool.not_eq_false', Int.not_lt, Int.not_le] at h) <;> (try (exfalso; omega))))
     refine F4 (O4 b b.length _ ad cap hb rfl hc) (fun _ => by simp [closed]) (fun s2 B2 hB2 hR2 => A3 1000 ?_)
     change BExt B0 B2 at hB2
     have hM := H3 hR2.1 2 hR2.2
     have n1 := (hb.ext hB2).ld 0 (by omega)
     have n2 := (hb.ext hB2).lS 0 (by omega)
     have n3 := (hb.ext hB2).lD (by omega)
     rw [← hc0] at n1
     obtain ⟨mA, hmA⟩ : ∃ mA, mA = (if s2.2 = 2 then s2.1 else s2.1.map (·.add 2)) := ⟨_, rfl⟩
     rw [← hmA] at hM
     simp only [Addr.add, Nat.one_ne_zero, if_false, Nat.reduceEqDiff] at hmA
     rw [hdr]
     repeat' (first | with_reducible refine And.intro (by first | omega | (constructor <;> assumption) | (simp; omega) | (simp [*]; done)) ?_ | simp (maxSteps := 4000000) (disch := omega) only [go_sem, ↓reduceIte, n1, bE, e4, e1', ← hmA, hde] | with_reducible refine C8 (id := 4) [0, 1, 2, 3, 4, 5, 6, 7, 8, 9, 10, 11, 12, 13, 14, 15, 16] mixed (by kernel_rfl) (by simp) (fun hin => D4 1000 hin ?_) | with_reducible refine D9 (by kernel_rfl) (C3 (by kernel_rfl)) (A3 1000 ?_))
     all_goals first | exact ⟨hB2, (mA, s2.2 - 2), rfl, by simp [closed, A0], hM⟩ | exact ⟨(mA, s2.2 - 2), rfl, by simp [closed, A0], hM⟩ | exact ⟨(mA, s2.2 - 2), by simp [closed, A0], hM⟩ | exact ⟨hB2, (mA, s2.2 - 2), by simp [closed, A0], hM⟩
    ·have cw : ((w : Int) == 0) = false := by rw [beq_eq_false_iff_ne]; omega
     obtain ⟨g1, g2, g4⟩ := hno (by rw [hokd, decide_eq_false (by omega : ¬ hx % 2 = 1), decide_eq_false gw, Bool.or_false, Bool.and_false])
     rw [g1, g2, g4]
     have e1' : Bi9 .u8 (hx : Int) 1 = 0 := by rw [e1, gp]; rfl
     repeat' (first | with_reducible refine And.intro (by first | omega | (constructor <;> assumption) | (simp [*]; done)) ?_ | simp (maxSteps := 4000000) (disch := omega) only [go_sem, ↓reduceIte, Try.f8, c0, m1, bE, e4, c3, e1', e15, cw] | ((first | refine A6 (fun h => ?_) (fun h => ?_) | refine E2 (fun h => ?_) (fun h => ?_) | refine F0 (fun h => ?_) (fun h => ?_)) <;> (try simp only [bne_iff_ne, ne_eq, beq_iff_eq, decide_eq_true_eq, decide_eq_false_iff_not, Bool.not_eq_true, Bool.not_eq_false, Bool.not_true, Bool.not_false, bne_eq_false_iff_eq, beq_eq_false_iff_ne, Bool.and_eq_true, Bool.or_eq_true, Bool.and_eq_false_imp, Bool.or_eq_false_iff, Bool.not_eq_true', Bool.not_eq_false', Int.not_lt, Int.not_le] at h) <;> (try (exfalso; omega))))
     first | exact ⟨BExt.refl _, (none, 0), rfl, by simp [closed, A0], D6 none⟩ | exact ⟨(none, 0), by simp [closed, A0], D6 none⟩ | exact ⟨(none, 0), rfl, by simp [closed, A0], D6 none⟩
   ·have hok : Au4 b = true := by rw [hokd, decide_eq_true (by omega : hx ≤ 3), decide_eq_true gp]; rfl
    have hE : unE b = 0 := by simp [unE, hok]
    rw [hok, if_pos rfl, gp] at hLd
    rw [hok, Bool.true_and] at hFd
    have hLd : unL b = (F8 b).drop 1 := hLd
    rw [hLd, hFd, hE]
    have e1' : Bi9 .u8 (hx : Int) 1 = 1 := by rw [e1, gp]; rfl
    have hnl := Q2 b
    have hdr : ((F8 b).drop 1).length = (F8 b).length - 1 := List.length_drop
    have hde : decide ((2 : Int) ≤ (hx : Int)) = decide (2 ≤ hx) := decide_eq_decide.2 (by omega)
    repeat' (first | with_reducible refine And.intro (by first | omega | (constructor <;> assumption) | (simp [*]; done)) ?_ | simp (maxSteps := 4000000) (disch := omega) only [go_sem, ↓reduceIte, Try.f8, c0, m1, bE, e4, c3, e1'])
    refine F4 (O4 b b.length _ ad cap hb rfl hc) (fun _ => by simp [closed]) (fun s2 B2 hB2 hR2 => A3 1000 ?_)
    change BExt B0 B2 at hB2
    have hM := H3 hR2.1 1 hR2.2
    have n1 := (hb.ext hB2).ld 0 (by omega)
    have n2 := (hb.ext hB2).lS 0 (by omega)
    have n3 := (hb.ext hB2).lD (by omega)
    rw [← hc0] at n1
    obtain ⟨mA, hmA⟩ : ∃ mA, mA = (if s2.2 = 1 then s2.1 else s2.1.map (·.add 1)) := ⟨_, rfl⟩
    rw [← hmA] at hM
    simp only [Addr.add, Nat.one_ne_zero, if_false, Nat.reduceEqDiff] at hmA
    rw [hdr]
    repeat' (first | with_reducible refine And.intro (by first | omega | (constructor <;> assumption) | (simp; omega) | (simp [*]; done)) ?_ | simp (maxSteps := 4000000) (disch := omega) only [go_sem, ↓reduceIte, n1, bE, e4, e1', ← hmA, hde] | with_reducible refine C8 (id := 4) [0, 1, 2, 3, 4, 5, 6, 7, 8, 9, 10, 11, 12, 13, 14, 15, 16] mixed (by kernel_rfl) (by simp) (fun hin => D4 1000 hin ?_) | with_reducible refine D9 (by kernel_rfl) (C3 (by kernel_rfl)) (A3 1000 ?_))
    all_goals first | exact ⟨hB2, (mA, s2.2 - 1), rfl, by simp [closed, A0], hM⟩ | exact ⟨(mA, s2.2 - 1), rfl, by simp [closed, A0], hM⟩ | exact ⟨(mA, s2.2 - 1), by simp [closed, A0], hM⟩ | exact ⟨hB2, (mA, s2.2 - 1), by simp [closed, A0], hM⟩
end Go.Proofs.Ytncjbfkkgdepoaa
namespace Go.Proofs.Ytncjbfkkgdepoaa
open Go RowKit Go.Ew
set_option maxHeartbeats 16000000
theorem Bq3 {b : List UInt8} (h : b ≠ []) : (F8 b).getD 0 0 = hiN (b.getD 0 0) ∧ (F8 b).getD 1 0 = loN (b.getD 0 0) := by
 cases b with
 | nil => exact absurd rfl h
 | cons c l => exact ⟨rfl, rfl⟩
theorem Au8 (b : List UInt8) (n : Nat) (B : Base) (ad : Option Addr) (cap : Nat) (hb : BytesAt B ad b) (hn : b.length = n) (hc : n ≤ 1099511627776) :
  Does Try.prog 10 [.raw (.slice ad n cap)] B (fun s : Option Addr × Nat => .tup [.raw (.slice s.1 (unL b).length s.2), .bool (unF b), .int .i64 (unE b : Nat)]) (fun s B' => BytesAt B' s.1 (unL b)) := by
 subst hn
 refine Bh0 Dk0 (fun s B B' hB hR => hR.ext hB) Try.func10 rfl Dg9 (by simp [Try.f10]) (by simp [A0, closed]) (fun B0 hB0 => A3 1000 ?_)
 replace hb := hb.ext hB0
 have hno : Au4 b = false → unL b = [] ∧ unF b = false ∧ unE b = 123 := fun h => by simp [unL, unF, unE, h]
 have hnl := Q2 b
 repeat' (simp (maxSteps := 4000000) (disch := omega) only [go_sem, ↓reduceIte, Try.f10])
 refine F4 (Ah7 b b.length _ ad cap hb rfl (by omega)) (fun _ => by simp [closed]) (fun s2 B2 hB2 hR2 => A3 1000 ?_)
 change BExt B0 B2 at hB2
 obtain ⟨hN, hNc⟩ := hR2
 by_cases h0 : b = []
 ·obtain ⟨g1, g2, g3⟩ := hno (by simp [Au4, h0])
  rw [g1, g2, g3]
  have hn0 : F8 b = [] := by rw [h0]; rfl
  have c0 : ((((F8 b).length : Nat) : Int) == 0) = true := by rw [hn0]; rfl
  repeat' (first | with_reducible refine And.intro (by omega) ?_ | simp (maxSteps := 4000000) (disch := omega) only [go_sem, ↓reduceIte, c0])
  first | exact ⟨hB2, Ae9 (by simp [closed, A0]) (fun B' hB' => ⟨(none, 0), rfl, D6 none⟩)⟩ | exact Ae9 (by simp [closed, A0]) (fun B' hB' => ⟨(none, 0), rfl, D6 none⟩)
 ·have hbl : 0 < b.length := List.length_pos_iff.2 h0
  obtain ⟨w0, w1⟩ := Bq3 h0
  have c0 : ((((F8 b).length : Nat) : Int) == 0) = false := by rw [beq_eq_false_iff_ne]; omega
  have m1 := hN.ld 0 (by omega)
  have m2 := hN.lS 0 (by omega)
  have k1 := hN.ld 1 (by omega)
  have k2 := hN.lS 1 (by omega)
  have m3 := hN.lD (by omega)
  have m4 := hN.ok.so (by omega)
  rw [w0] at m1
  rw [w1] at k1
  have hokd : Au4 b = (decide (b ≠ []) && (decide ((hiN (b.getD 0 0)).toNat ≤ 3) && (decide ((hiN (b.getD 0 0)).toNat % 2 = 1) || decide ((loN (b.getD 0 0)).toNat = 0)))) := rfl
  have hLd : unL b = if Au4 b then (F8 b).drop (2 - (hiN (b.getD 0 0)).toNat % 2) else [] := rfl
  have hFd : unF b = (Au4 b && decide (2 ≤ (hiN (b.getD 0 0)).toNat)) := rfl
  rw [decide_eq_true h0, Bool.true_and] at hokd
  obtain ⟨p, hp⟩ : ∃ p, p = hiN (b.getD 0 0) := ⟨_, rfl⟩
  obtain ⟨q, hq⟩ : ∃ q, q = loN (b.getD 0 0) := ⟨_, rfl⟩
  rw [← hp] at m1 hokd hLd hFd
  rw [← hq] at k1 hokd
  obtain ⟨hx, hh⟩ : ∃ hx, hx = p.toNat := ⟨_, rfl⟩
  obtain ⟨w, hw⟩ : ∃ w, w = q.toNat := ⟨_, rfl⟩
  rw [← hh] at hokd hLd hFd
  rw [← hw] at hokd
  have eb : ∀ u : UInt8, bE u = .int .u8 (u.toNat : Int) := fun _ => rfl
  rw [eb, ← hh] at m1
  rw [eb, ← hw] at k1
  by_cases g3 : 3 < hx
  ·have c3 : decide ((3 : Int) < (hx : Int)) = true := decide_eq_true (by omega)
   obtain ⟨g1, g2, g4⟩ := hno (by rw [hokd, decide_eq_false (by omega : ¬ hx ≤ 3)]; rfl)
   rw [g1, g2, g4]
   repeat' (first | with_reducible refine And.intro (by first | omega | (constructor <;> assumption) | ((repeat' refine And.intro ?_ ?_) <;> first | omega | assumption | (refine SlOk.so (n := ?_) ?_ ?_; rotate_left; assumption; omega) | (simp; done) | fail)) ?_ | simp (maxSteps := 4000000) (disch := omega) only [go_sem, ↓reduceIte, c0, m1, k1, c3])
   first | exact ⟨hB2, Ae9 (by simp [closed, A0]) (fun B' hB' => ⟨(none, 0), rfl, D6 none⟩)⟩ | exact Ae9 (by simp [closed, A0]) (fun B' hB' => ⟨(none, 0), rfl, D6 none⟩)
  ·have c3 : decide ((3 : Int) < (hx : Int)) = false := decide_eq_false (by omega)
   rcases Nat.mod_two_eq_zero_or_one hx with gp | gp
   ·by_cases gw : w = 0
    ·have hok : Au4 b = true := by rw [hokd, decide_eq_true (by omega : hx ≤ 3), decide_eq_true gw, Bool.or_true]; rfl
     have cw : ((w : Int) == 0) = true := by rw [gw]; rfl
     have hE : unE b = 0 := by simp [unE, hok]
     rw [hok, if_pos rfl, gp] at hLd
     rw [hok, Bool.true_and] at hFd
     have hLd : unL b = (F8 b).drop 2 := hLd
     rw [hLd, hFd, hE]
     have cr : ((hx : Int) % 2 == 0) = true := by rw [beq_iff_eq]; omega
     have cm : (hx : Int) % 2 = 0 := by omega
     have hdr : ((F8 b).drop 2).length = (F8 b).length - 2 := List.length_drop
     have hde : decide ((2 : Int) ≤ (hx : Int)) = decide (2 ≤ hx) := decide_eq_decide.2 (by omega)
     have hM := H3 hN 2 hNc
     obtain ⟨mA, hmA⟩ : ∃ mA, mA = (if s2.2 = 2 then s2.1 else s2.1.map (·.add 2)) := ⟨_, rfl⟩
     rw [← hmA] at hM
     simp only [Addr.add, Nat.one_ne_zero, if_false, Nat.reduceEqDiff] at hmA
     repeat' (first | with_reducible refine And.intro (by first | omega | (constructor <;> assumption) | (simp; done) | (simp; omega) | ((repeat' refine And.intro ?_ ?_) <;> first | omega | assumption | (refine SlOk.so (n := ?_) ?_ ?_; rotate_left; assumption; omega) | (simp; done) | fail)) ?_ | simp (maxSteps := 4000000) (disch := omega) only [go_sem, ↓reduceIte, c0, m1, k1, c3, cr, cm, cw, ← hmA, hde] | with_reducible refine C8 (id := 4) [0, 1, 2, 3, 4, 5, 6, 7, 8, 10, 11, 12, 13, 9, 14, 15, 16] mixed (by kernel_rfl) (by simp) (fun hin => D4 1000 hin ?_) | ((first | refine A6 (fun h => ?_) (fun h => ?_) | refine E2 (fun h => ?_) (fun h => ?_) | refine F0 (fun h => ?_) (fun h => ?_)) <;> (try simp only [bne_iff_ne, ne_eq, beq_iff_eq, decide_eq_true_eq, decide_eq_false_iff_not, Bool.not_eq_true, Bool.not_eq_false, Bool.not_true, Bool.not_false, bne_eq_false_iff_eq, beq_eq_false_iff_ne, Bool.and_eq_true, Bool.or_eq_true, Bool.and_eq_false_imp, Bool.or_eq_false_iff, Bool.not_eq_true', Bool.not_eq_false', Int.not_lt, Int.not_le] at h) <;> (try (exfalso; omega))))
     refine S9 (T := 5) (l := some (0, [])) (xs := []) 39 100030 0 ((F8 b).drop 2) [] rfl rfl Try.underlying22 (.inl ⟨_, Try.underlying22⟩) zr5 cz5 by5 rfl rfl rfl ⟨Nat.le_refl _, Nat.zero_le _, rfl, by simp⟩ (fun B hs hB _ => by rw [← hdr]; exact (hM.ext hB).src _) (by omega) (by simp [cxG]) (by kernel_rfl) (F7 (by kernel_rfl) (C3 (by kernel_rfl))) (fun l1 hl1 => D4 1000 (by assumption) ?_)
     have hl1' := hl1
     simp only [Nat.zero_add, List.nil_append] at hl1' ⊢
     rcases l1 with _ | ⟨cp, rest⟩
     ·have hz : ((F8 b).drop 2).length = 0 := hl1'
      have hz0 : (F8 b).drop 2 = [] := List.length_eq_zero_iff.1 hz
      simp only [lE, lO]
      repeat' (simp (maxSteps := 4000000) (disch := omega) only [go_sem, ↓reduceIte])
      refine D9 (by kernel_rfl) (C3 (by kernel_rfl)) ?_
      refine J2 [] 0 (by simp) (by simp) (by simp) (by simp) (A3 1000 ?_)
      repeat' (first | with_reducible refine And.intro (by omega) ?_ | simp (maxSteps := 4000000) (disch := omega) only [go_sem, ↓reduceIte, okC, okE, R1, E8, E1])
      rw [hz0]
      first | exact ⟨hB2, Ae9 (by simp [closed, A0]) (fun B' hB' => ⟨(none, 0), rfl, D6 none⟩)⟩ | exact Ae9 (by simp [closed, A0]) (fun B' hB' => ⟨(none, 0), rfl, D6 none⟩)
     ·simp only [C0]
      repeat' (simp (maxSteps := 4000000) (disch := omega) only [go_sem, ↓reduceIte])
      refine D9 (by kernel_rfl) (C3 (by kernel_rfl)) ?_
      refine J2 [100039] 0 (by simp) (by simp) (by simp) (by simp) (A3 1000 ?_)
      have hpk := G1 (T := 5) (ks := [100039]) (k := 0) hl1' (A5 0 ((F8 b).drop 2)) hz8
      repeat' (first | with_reducible refine And.intro (by omega) ?_ | simp (maxSteps := 4000000) (disch := omega) only [go_sem, ↓reduceIte, okC, okE, R1, E8, hpk, E1])
      have hfin : ∀ b7 ad7 cap7 B7, frz 0 b7 (lE 0 ((F8 b).drop 2).length (some (cp, rest))) = .raw (.slice ad7 ((F8 b).drop 2).length cap7) → BytesAt B7 ad7 ((F8 b).drop 2) → closed 0 (frz 0 b7 (.tup [.sl 0 0 ((F8 b).drop 2).length cp, .bool (decide (2 ≤ hx)), .int .i64 0])) ∧ ∃ s : Option Addr × Nat, frz 0 b7 (.tup [.sl 0 0 ((F8 b).drop 2).length cp, .bool (decide (2 ≤ hx)), .int .i64 0]) = .tup [.raw (.slice s.1 ((F8 b).drop 2).length s.2), .bool (decide (2 ≤ hx)), .int .i64 0] ∧ BytesAt B7 s.1 ((F8 b).drop 2) := fun b7 ad7 cap7 B7 hf hY => by
       have e : frz 0 b7 (.tup [.sl 0 0 ((F8 b).drop 2).length cp, .bool (decide (2 ≤ hx)), .int .i64 0]) = .tup [.raw (.slice ad7 ((F8 b).drop 2).length cap7), .bool (decide (2 ≤ hx)), .int .i64 0] := by
        rw [← hf]; rfl
       rw [e]
       exact ⟨by simp [closed, A0], (ad7, cap7), rfl, hY⟩
      first | exact ⟨hB2, Ai5 0 ((F8 b).drop 2).length rfl rfl hl1' (fun b7 ad7 cap7 B7 hB7 hfz7 hbY7 hcap7 => hfin b7 ad7 cap7 B7 hfz7 hbY7)⟩ | exact Ai5 0 ((F8 b).drop 2).length rfl rfl hl1' (fun b7 ad7 cap7 B7 hB7 hfz7 hbY7 hcap7 => hfin b7 ad7 cap7 B7 hfz7 hbY7) | trace_state
    ·have cw : ((w : Int) == 0) = false := by rw [beq_eq_false_iff_ne]; omega
     obtain ⟨g1, g2, g4⟩ := hno (by rw [hokd, decide_eq_false (by omega : ¬ hx % 2 = 1), decide_eq_false gw, Bool.or_false, Bool.and_false])
     rw [g1, g2, g4]
     have cr : ((hx : Int) % 2 == 0) = true := by rw [beq_iff_eq]; omega
     repeat' (first | with_reducible refine And.intro (by first | omega | (constructor <;> assumption) | ((repeat' refine And.intro ?_ ?_) <;> first | omega | assumption | (refine SlOk.so (n := ?_) ?_ ?_; rotate_left; assumption; omega) | (simp; done) | fail)) ?_ | simp (maxSteps := 4000000) (disch := omega) only [go_sem, ↓reduceIte, c0, m1, k1, c3, cr, cw] | ((first | refine A6 (fun h => ?_) (fun h => ?_) | refine E2 (fun h => ?_) (fun h => ?_) | refine F0 (fun h => ?_) (fun h => ?_)) <;> (try simp only [bne_iff_ne, ne_eq, beq_iff_eq, decide_eq_true_eq, decide_eq_false_iff_not, Bool.not_eq_true, Bool.not_eq_false, Bool.not_true, Bool.not_false, bne_eq_false_iff_eq, beq_eq_false_iff_ne, Bool.and_eq_true, Bool.or_eq_true, Bool.and_eq_false_imp, Bool.or_eq_false_iff, Bool.not_eq_true', Bool.not_eq_false', Int.not_lt, Int.not_le] at h) <;> (try (exfalso; omega))))
     first | exact ⟨hB2, Ae9 (by simp [closed, A0]) (fun B' hB' => ⟨(none, 0), rfl, D6 none⟩)⟩ | exact Ae9 (by simp [closed, A0]) (fun B' hB' => ⟨(none, 0), rfl, D6 none⟩)
   ·have hok : Au4 b = true := by rw [hokd, decide_eq_true (by omega : hx ≤ 3), decide_eq_true gp]; rfl
    have hE : unE b = 0 := by simp [unE, hok]
    rw [hok, if_pos rfl, gp] at hLd
    rw [hok, Bool.true_and] at hFd
    have hLd : unL b = (F8 b).drop 1 := hLd
    rw [hLd, hFd, hE]
    have cr : ((hx : Int) % 2 == 0) = false := by rw [beq_eq_false_iff_ne]; omega
    have cm : (hx : Int) % 2 = 1 := by omega
    have hdr : ((F8 b).drop 1).length = (F8 b).length - 1 := List.length_drop
    have hde : decide ((2 : Int) ≤ (hx : Int)) = decide (2 ≤ hx) := decide_eq_decide.2 (by omega)
    have hM := H3 hN 1 hNc
    obtain ⟨mA, hmA⟩ : ∃ mA, mA = (if s2.2 = 1 then s2.1 else s2.1.map (·.add 1)) := ⟨_, rfl⟩
    rw [← hmA] at hM
    simp only [Addr.add, Nat.one_ne_zero, if_false, Nat.reduceEqDiff] at hmA
    repeat' (first | with_reducible refine And.intro (by first | omega | (constructor <;> assumption) | (simp; done) | (simp; omega) | ((repeat' refine And.intro ?_ ?_) <;> first | omega | assumption | (refine SlOk.so (n := ?_) ?_ ?_; rotate_left; assumption; omega) | (simp; done) | fail)) ?_ | simp (maxSteps := 4000000) (disch := omega) only [go_sem, ↓reduceIte, c0, m1, k1, c3, cr, cm, ← hmA, hde] | with_reducible refine C8 (id := 4) [0, 1, 2, 3, 4, 5, 6, 7, 8, 10, 11, 12, 13, 9, 14, 15, 16] mixed (by kernel_rfl) (by simp) (fun hin => D4 1000 hin ?_))
    refine S9 (T := 5) (l := some (0, [])) (xs := []) 39 100030 0 ((F8 b).drop 1) [] rfl rfl Try.underlying22 (.inl ⟨_, Try.underlying22⟩) zr5 cz5 by5 rfl rfl rfl ⟨Nat.le_refl _, Nat.zero_le _, rfl, by simp⟩ (fun B hs hB _ => by rw [← hdr]; exact (hM.ext hB).src _) (by omega) (by simp [cxG]) (by kernel_rfl) (F7 (by kernel_rfl) (C3 (by kernel_rfl))) (fun l1 hl1 => D4 1000 (by assumption) ?_)
    have hl1' := hl1
    simp only [Nat.zero_add, List.nil_append] at hl1' ⊢
    rcases l1 with _ | ⟨cp, rest⟩
    ·have hz : ((F8 b).drop 1).length = 0 := hl1'
     rw [hdr] at hz; omega
    ·simp only [C0]
     repeat' (simp (maxSteps := 4000000) (disch := omega) only [go_sem, ↓reduceIte])
     refine D9 (by kernel_rfl) (C3 (by kernel_rfl)) ?_
     refine J2 [100039] 0 (by simp) (by simp) (by simp) (by simp) (A3 1000 ?_)
     have hpk := G1 (T := 5) (ks := [100039]) (k := 0) hl1' (A5 0 ((F8 b).drop 1)) hz8
     repeat' (first | with_reducible refine And.intro (by omega) ?_ | simp (maxSteps := 4000000) (disch := omega) only [go_sem, ↓reduceIte, okC, okE, R1, E8, hpk, E1])
     have hfin : ∀ b7 ad7 cap7 B7, frz 0 b7 (lE 0 ((F8 b).drop 1).length (some (cp, rest))) = .raw (.slice ad7 ((F8 b).drop 1).length cap7) → BytesAt B7 ad7 ((F8 b).drop 1) → closed 0 (frz 0 b7 (.tup [.sl 0 0 ((F8 b).drop 1).length cp, .bool (decide (2 ≤ hx)), .int .i64 0])) ∧ ∃ s : Option Addr × Nat, frz 0 b7 (.tup [.sl 0 0 ((F8 b).drop 1).length cp, .bool (decide (2 ≤ hx)), .int .i64 0]) = .tup [.raw (.slice s.1 ((F8 b).drop 1).length s.2), .bool (decide (2 ≤ hx)), .int .i64 0] ∧ BytesAt B7 s.1 ((F8 b).drop 1) := fun b7 ad7 cap7 B7 hf hY => by
      have e : frz 0 b7 (.tup [.sl 0 0 ((F8 b).drop 1).length cp, .bool (decide (2 ≤ hx)), .int .i64 0]) = .tup [.raw (.slice ad7 ((F8 b).drop 1).length cap7), .bool (decide (2 ≤ hx)), .int .i64 0] := by
       rw [← hf]; rfl
      rw [e]
      exact ⟨by simp [closed, A0], (ad7, cap7), rfl, hY⟩
     first | exact ⟨hB2, Ai5 0 ((F8 b).drop 1).length rfl rfl hl1' (fun b7 ad7 cap7 B7 hB7 hfz7 hbY7 hcap7 => hfin b7 ad7 cap7 B7 hfz7 hbY7)⟩ | exact Ai5 0 ((F8 b).drop 1).length rfl rfl hl1' (fun b7 ad7 cap7 B7 hB7 hfz7 hbY7 hcap7 => hfin b7 ad7 cap7 B7 hfz7 hbY7) | trace_state
end Go.Proofs.Ytncjbfkkgdepoaa
