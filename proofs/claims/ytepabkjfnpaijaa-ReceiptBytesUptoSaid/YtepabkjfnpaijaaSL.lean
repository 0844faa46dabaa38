/- Part of a proof over the seat Ytepabkjfnpaijaa. -/
import Derived.Test.YtepabkjfnpaijaaG20
set_option linter.unusedSimpArgs false
set_option linter.unusedVariables false
set_option maxRecDepth 100000
namespace Go.Proofs.Ytepabkjfnpaijaa
open Go RowKit Go.Ew
set_option maxHeartbeats 16000000
theorem in22 : codeIn Try.f22.ntmps (Try.f22.body.getD .skip) = true := by kernel_rfl
attribute [-go_sem] zr45
theorem merge {S : Type} {I G : S → Prop} {g : Prop} (h : (∀ s, I s → G s) → g) (k : ∀ s, I s → G s) : g := h k
theorem errL_ne {e : Nat} (he : e ≠ 0) : ∀ ts : List Itm, errL ts e = e
 | [] => rfl
 | t :: ts => by
  show errL ts (kp e (logT t).2) = e
  rw [kp_ne he]
  exact errL_ne he ts
theorem errL_cons (t : Itm) (ts : List Itm) (e : Nat) : errL (t :: ts) e = errL ts (kp e (logT t).2) := rfl
theorem errL_at {ts : List Itm} {i : Nat} (hi : i < ts.length) (h : ∀ j (hj : j < i) (hj2 : j < ts.length), (logT ts[j]).2 = 0) (hn : (logT ts[i]).2 ≠ 0) : errL ts 0 = (logT ts[i]).2 := by
 induction ts generalizing i with
 | nil => simp at hi
 | cons t ts ih =>
  cases i with
  | zero => rw [errL_cons, kp_zero]; exact errL_ne hn ts
  | succ i =>
   have h0 := h 0 (by omega) (by simp)
   simp only [List.getElem_cons_zero] at h0
   rw [errL_cons, kp_zero, h0]
   exact ih (by simpa using hi) (fun j hj hj2 => by have := h (j + 1) (by omega) (by simpa using hj2); simpa using this) hn
theorem errL_none {ts : List Itm} (h : ∀ j (hj2 : j < ts.length), (logT ts[j]).2 = 0) : errL ts 0 = 0 := by
 induction ts with
 | nil => rfl
 | cons t ts ih =>
  have h0 := h 0 (by simp)
  simp only [List.getElem_cons_zero] at h0
  rw [errL_cons, kp_zero, h0]
  exact ih (fun j hj2 => by have := h (j + 1) (by simpa using hj2); simpa using this)
theorem rcX_copy (a b c v : EV) {bl : List UInt8} (h : bl.length = 256) : (rcX a b c zbl v).take 3 ++ (bl.map bE).take 256 ++ (rcX a b c zbl v).drop 259 = rcX a b c bl v := by
 have e1 : (rcX a b c zbl v).take 3 = [a, b, c] := rfl
 have e2 : (rcX a b c zbl v).drop 259 = [v] := rfl
 rw [e1, e2, List.take_of_length_le (by simp [h])]
 simp [rcX]
theorem rdecR_fn (b : List UInt8) (n : Nat) (B : Base) (ad : Option Addr) (cap : Nat) (hb : BytesAt B ad b) (hn : b.length = n) (hcap : n ≤ cap) (hc : n ≤ 1099511627776) (hsm : n ≤ 200000) :
  Does Try.prog 22 [.raw (.slice ad n cap)] B (fun r : RcV => .tup [.agg (rcE r), .int .i64 ((recD b).2 : Nat)]) (fun r B' => LogsAt B' r.lA r.L ∧ r.body = (recD b).1 ∧ r.gas < 18446744073709551616) := by
 subst hn
 refine fn_of en22 (fun s B B' hB hR => ⟨hR.1.ext hB, hR.2⟩) Try.func22 rfl in22 (by simp [Try.f22]) (by simp [closeds, closed]) (fun B0 hB0 => next_of 1000 ?_)
 replace hb := hb.ext hB0
 have hz0 : ∀ B : Base, LogsAt B (⟨0, 0, 0, blmOf zbl, none, 0, []⟩ : RcV).lA (⟨0, 0, 0, blmOf zbl, none, 0, []⟩ : RcV).L := fun B => ⟨CellsAt.nil _, by simp, by simp⟩
 have hzb : (⟨0, 0, 0, blmOf zbl, none, 0, []⟩ : RcV).body = zRc := by simp only [RcV.body, blmOf_bytes zbl_len, zRc]; rfl
 have hzE : rcX (.int .u8 0) (.int .i64 0) (.int .u64 0) zbl (.raw (.slice none 0 0)) = rcE ⟨0, 0, 0, blmOf zbl, none, 0, []⟩ := rcX_rc 0 0 0 zbl_len none 0 []
 have y1 := fun a b c v => rcX_len a b c v zbl_len
 have y2 := fun a b c v => rcX_set259 a b c v zbl_len
 have y3 := fun a b c v => rcX_259 a b c v zbl_len
 have y4 := fun a b c v => rcX_take a b c v zbl_len
 have y5 := fun a b c v a' b' c' v' => rcX_splice a b c v zbl_len a' b' c' v' zbl_len
 have ycl : ∀ n (a b c : Int) (v : Value), closeds n (rcX (.int .u8 a) (.int .i64 b) (.int .u64 c) zbl (.raw v)) := fun n a b c v => rcX_closed (by simp [closed]) (by simp [closed]) (by simp [closed]) (by simp [closed])
 have eN : ∀ r n, lE r n none = .raw (.slice none 0 0) := fun _ _ => rfl
 have oN : ∀ T xs, lO T xs none = none := fun _ _ => rfl
 have cn : ∀ n, clO n (none : Option EObj) = True := fun n => by simp [clO]
 by_cases h0 : b = []
 ·subst h0
  have hM : recD [] = recP 0 true [] := by simp [recD]
  have hb0 : BytesAt B0 ad [] := hb
  rw [hM]
  repeat' (simp (maxSteps := 4000000) (disch := omega) only [go_sem, ↓reduceIte, Try.f22, List.length_nil, rcX_one, rcX_set0, rcX_set1, rcX_set2, rcX_get0, y1, y2, y3, y4, y5, zrR])
  refine callS_f (rdecI_fn [] 0 B0 ad cap hb0 rfl (Nat.zero_le _) (Nat.zero_le _)) (fun _ => by simp [closed, closeds]) (fun s2 B2 hB2 hR2 => next_of 1000 ?_)
  change BExt B0 B2 at hB2
  have e1 : DecM [] = (zI, 41) := by with_unfolding_all rfl
  rw [recP, e1, if_pos (by simp)]
  rw [e1] at hR2
  repeat' (first | with_reducible refine And.intro (by omega) ?_ | simp (maxSteps := 4000000) (disch := omega) only [go_sem, ↓reduceIte, rcX_one, rcX_set0, rcX_set1, rcX_set2, rcX_get0, y1, y2, y3, y4, y5, zrR])
  first | exact ⟨hB2, ⟨0, 0, 0, blmOf zbl, none, 0, []⟩, by rw [hzE], ⟨rc_closed 0 _, by simp [closed, closeds]⟩, hz0 _, hzb, by decide⟩ | exact ⟨⟨0, 0, 0, blmOf zbl, none, 0, []⟩, by rw [hzE], ⟨rc_closed 0 _, by simp [closed, closeds]⟩, hz0 _, hzb, by decide⟩
 ·have hlen : 1 ≤ b.length := by
   rcases Nat.eq_zero_or_pos b.length with h1 | h1
   ·exact absurd (List.length_eq_zero_iff.1 h1) h0
   ·exact h1
  have c0 : decide ((0 : Int) < (b.length : Int)) = true := decide_eq_true (by omega)
  have m1 := hb.ld 0 (by omega)
  have m2 := hb.lS 0 (by omega)
  have m3 := hb.lD (by omega)
  have m4 := hb.ok.so (by omega)
  obtain ⟨z, hz⟩ : ∃ z, z = (b.getD 0 0).toNat := ⟨_, rfl⟩
  have m5 : rawCell B0 (adrAt ad 0) = .int .u8 (z : Int) := by rw [m1, bE, hz]
  have hz2 : z < 256 := by rw [hz]; exact (b.getD 0 0).toNat_lt
  by_cases h1 : z < 128
  ·have hMD : recD b = recP (b.getD 0 0) false (b.drop 1) := by rw [recD, if_pos ⟨h0, by omega⟩]
   rw [hMD]
   have c1 : decide ((z : Int) < 128) = true := decide_eq_true (by omega)
   obtain ⟨ty, hty⟩ : ∃ ty, ty = b.getD 0 0 := ⟨_, rfl⟩
   rw [← hty] at hz ⊢
   have hdl : (b.drop 1).length = b.length - 1 := List.length_drop
   have hbp := bytes_from hb 1 hcap
   repeat' (first | with_reducible refine And.intro (by first | omega | (constructor <;> assumption) | (simp; omega) | ((repeat' refine And.intro ?_ ?_) <;> first | omega | assumption | (refine SlOk.so (n := ?_) ?_ ?_; rotate_left; assumption; omega) | (simp; done) | fail)) ?_ | simp (maxSteps := 4000000) (disch := omega) only [go_sem, ↓reduceIte, Try.f22, m5, c0, c1, rcX_one, rcX_set0, rcX_set1, rcX_set2, rcX_get0, y1, y2, y3, y4, y5, zrR] | with_reducible refine drawT_of (id := 3) [0, 1, 2, 3, 4, 5, 6] mixed (by kernel_rfl) (by simp) (fun hin => dt_of 1000 hin ?_) | with_reducible refine endT_of (by kernel_rfl) (nmT_of (by kernel_rfl)) (next_of 1000 ?_))
   rw [← hdl, hz]
   refine callS_f (rdecI_fn (b.drop 1) _ B0 _ (cap - 1) hbp rfl (by omega) (by omega)) (fun _ => by simp [closed, closeds]) (fun s2 B2 hB2 hR2 => ?_)
   change BExt B0 B2 at hB2
   refine packS [] 1 (by simp) (by simp) (by simp) (by simp) (next_of 1000 ?_)
   have hsI := DecM_sm (b := (b.drop 1)) (N := 200000) (by omega)
   have her := DecM_err (b.drop 1)
   have hM0 : recP ty false (b.drop 1) = if (DecM (b.drop 1)).2 ≠ 0 then (zRc, (DecM (b.drop 1)).2) else recT ty false (DecM (b.drop 1)).1 := rfl
   obtain ⟨RR, hRR⟩ : ∃ RR, RR = recP ty false (b.drop 1) := ⟨_, rfl⟩
   rw [← hRR] at hM0 ⊢
   obtain ⟨t, e, hq⟩ : ∃ t e, DecM (b.drop 1) = (t, e) := ⟨_, _, rfl⟩
   rw [hq] at hR2 hsI her hM0
   simp only at hR2 hsI her hM0
   rw [hq]
   by_cases he : e = 0
   ·subst he
    rw [if_neg (by simp)] at hM0
    repeat' (simp (maxSteps := 4000000) (disch := omega) only [go_sem, ↓reduceIte, okC, okE, okCs, rcX_okCs, rcX_rens, pkO_some, pkO_none, rcX_one, rcX_set0, rcX_set1, rcX_set2, rcX_get0, y1, y2, y3, y4, y5, zrR])
    refine callS_f (rasList_fn hR2 4 4 (by omega) (Nat.le_refl _)) (fun _ => by simp [closed, closeds]) (fun u B3 hB3 hR3 => next_of 1000 ?_)
    change BExt B2 B3 at hB3
    by_cases hz : (asL t 4 4).2 = 0
    ·obtain ⟨hk1, hk2⟩ := asL_ok hz
     obtain ⟨k0, k1, k2, k3, hks⟩ := four_of hk2
     have hM : recT ty false t = if recE k0 k1 k2 k3 ≠ 0 then (zRc, recE k0 k1 k2 k3) else if !mayM (recB ty k0 k1 k2 k3) || (!false && decide (ty = 0)) then (zRc, 190) else (recB ty k0 k1 k2 k3, 0) := by rw [recT, if_neg (by omega), hks] <;> rfl
     rw [hM] at hM0
     obtain ⟨kA, kc, qs⟩ := u
     simp only at hR3
     have hqm := hR3.m
     rw [hk1, hks] at hqm
     obtain ⟨q0, q1, q2, q3, rfl⟩ := four_of (l := qs) (by have := congrArg List.length hqm; simpa using this)
     simp only [List.map_cons, List.map_nil, List.cons.injEq, and_true] at hqm
     obtain ⟨rfl, rfl, rfl, rfl⟩ := hqm
     have i0 := hR3.ok q0 (by simp)
     have i1 := hR3.ok q1 (by simp)
     have i2 := hR3.ok q2 (by simp)
     have i3 := hR3.ok q3 (by simp)
     have hs3 : Sm 200000 q3.1 := hsI.kid (by rw [hks]; simp)
     obtain ⟨d1, d2, d3, d4⟩ := kid_ld hR3.c (i := 0) (by simp)
     simp only [Nat.zero_mul, List.getElem_cons_zero] at d1 d3
     rw [hz]
     have hl4 : (asL t 4 4).1.length = 4 := by rw [hk1, hk2]
     rw [hl4]
     repeat' (first | with_reducible refine And.intro (by first | omega | (constructor <;> assumption)) ?_ | simp (maxSteps := 4000000) (disch := omega) only [go_sem, ↓reduceIte, d1, rcX_one, rcX_set0, rcX_set1, rcX_set2, rcX_get0, y1, y2, y3, y4, y5, zrR])
     refine callS_f (rasNumber_fn i0) (fun _ => by simp [closed, closeds]) (fun _ B4 hB4 _ => next_of 1000 ?_)
     change BExt B3 B4 at hB4
     have hn0 := asN_lt q0.1
     have hn1 := asN_lt q1.1
     by_cases hz0' : (asN q0.1).2 = 0
     ·rw [hz0']
      obtain ⟨okv, hok⟩ : ∃ okv, okv = min (asN q0.1).1 2 := ⟨_, rfl⟩
      obtain ⟨v0, hv0⟩ : ∃ v0, v0 = (asN q0.1).1 := ⟨_, rfl⟩
      rw [← hv0] at hn0 ⊢
      obtain ⟨m1, m2, m3, m4⟩ := kid_ld (hR3.c.ext hB4) (i := 1) (by simp)
      simp only [Nat.one_mul, List.getElem_cons_succ, List.getElem_cons_zero] at m1 m3
      apply merge (S := Base) (I := fun B5 => BExt B4 B5)
      ·intro key
       by_cases hmn : v0 ≤ 1
       ·have cM : decide ((1 : Int) < (v0 : Int)) = false := decide_eq_false (by omega)
        have hov : okv = v0 := by rw [hok, ← hv0]; omega
        repeat' (first | with_reducible refine And.intro (by first | omega | (constructor <;> assumption)) ?_ | simp (maxSteps := 4000000) (disch := omega) only [go_sem, ↓reduceIte, m1, cM, rcX_one, rcX_set0, rcX_set1, rcX_set2, rcX_get0, y1, y2, y3, y4, y5, zrR])
        refine callS_f (rasNumber_fn (i1.ext hB4)) (fun _ => by simp [closed, closeds]) (fun _ B5 hB5 _ => ?_)
        change BExt B4 B5 at hB5
        rw [← hov]
        exact Next.subL (y := ⟨[(72, .tup [.int .u64 ((asN q1.1).1 : Nat), .int .i64 ((asN q1.1).2 : Nat)]), (9, .ptr 2 0), (8, .raw (.slice kA 4 kc)), (4, .int .u8 ((ty : UInt8).toNat : Int)), (2, .ptr 0 0), (0, .raw (.slice ad b.length cap))], 3, [(2, some (.cells (rcX (.int .u8 ((ty : UInt8).toNat : Int)) (.int .i64 (okv : Nat)) (.int .u64 0) zbl (.raw (.slice none 0 0))) 45 (0, 0))), (1, some (.cells (itE t s2) 79 (0, 0))), (0, some (.cells (rcX (.int .u8 0) (.int .i64 0) (.int .u64 0) zbl (.raw (.slice none 0 0))) 45 (0, 0)))], B5, []⟩) (Weak.sub (weak_of (by simp [wσ, go_sem, closed, closeds, lE_closed, ycl] <;> omega) (by simp [whs, Go.Ew.hget, go_sem, EObj.closed, closed, closeds, lE_closed, ycl]) (by simp [*]) rfl rfl (by simp))) (key B5 hB5)
       ·have cM : decide ((1 : Int) < (v0 : Int)) = true := decide_eq_true (by omega)
        have hov : okv = 2 := by rw [hok, ← hv0]; omega
        repeat' (first | with_reducible refine And.intro (by first | omega | (constructor <;> assumption)) ?_ | simp (maxSteps := 4000000) (disch := omega) only [go_sem, ↓reduceIte, m1, cM, rcX_one, rcX_set0, rcX_set1, rcX_set2, rcX_get0, y1, y2, y3, y4, y5, zrR])
        refine callS_f (rasNumber_fn (i1.ext hB4)) (fun _ => by simp [closed, closeds]) (fun _ B5 hB5 _ => ?_)
        change BExt B4 B5 at hB5
        exact Next.subL (y := ⟨[(72, .tup [.int .u64 ((asN q1.1).1 : Nat), .int .i64 ((asN q1.1).2 : Nat)]), (9, .ptr 2 0), (8, .raw (.slice kA 4 kc)), (4, .int .u8 ((ty : UInt8).toNat : Int)), (2, .ptr 0 0), (0, .raw (.slice ad b.length cap))], 3, [(2, some (.cells (rcX (.int .u8 ((ty : UInt8).toNat : Int)) (.int .i64 (okv : Nat)) (.int .u64 0) zbl (.raw (.slice none 0 0))) 45 (0, 0))), (1, some (.cells (itE t s2) 79 (0, 0))), (0, some (.cells (rcX (.int .u8 0) (.int .i64 0) (.int .u64 0) zbl (.raw (.slice none 0 0))) 45 (0, 0)))], B5, []⟩) (Weak.sub (weak_of (by simp [wσ, go_sem, closed, closeds, lE_closed, ycl, hov] <;> omega) (by simp [whs, Go.Ew.hget, go_sem, EObj.closed, closed, closeds, lE_closed, ycl, hov]) (by simp [*]) rfl rfl (by simp))) (key B5 hB5)
      ·intro B5 hB5
       by_cases hz1 : (asN q1.1).2 = 0
       ·rw [hz1]
        obtain ⟨n1, n2, n3, n4⟩ := kid_ld (hR3.c.ext (hB4.trans hB5)) (i := 2) (by simp)
        simp only [Nat.reduceMul, List.getElem_cons_succ, List.getElem_cons_zero] at n1 n3
        obtain ⟨gas, hgas⟩ : ∃ gas, gas = (asN q1.1).1 := ⟨_, rfl⟩
        rw [← hgas] at hn1 ⊢
        refine next_of 1000 ?_
        repeat' (first | with_reducible refine And.intro (by first | omega | (constructor <;> assumption)) ?_ | simp (maxSteps := 4000000) (disch := omega) only [go_sem, ↓reduceIte, n1, rcX_one, rcX_set0, rcX_set1, rcX_set2, rcX_get0, y1, y2, y3, y4, y5, zrR])
        refine callS_f (rasBytes_fn (i2.ext (hB4.trans hB5)) 256 256 (by omega) (Nat.le_refl _)) (fun _ => by simp [closed, closeds]) (fun s6 B6 hB6 hR6 => next_of 1000 ?_)
        change BExt B5 B6 at hB6
        by_cases hz2 : (asB q2.1 256 256).2 = 0
        ·obtain ⟨x1, x2, x3, x4⟩ := asB_inv hz2
         obtain ⟨bl, hbl0⟩ : ∃ bl, bl = (asB q2.1 256 256).1 := ⟨_, rfl⟩
         have hbl : bl.length = 256 := by rw [hbl0, x2]; omega
         have hfx : fixB 256 q2.1 = bl := by rw [fixB, if_pos hz2, hbl0]
         rw [← hbl0] at hR6
         rw [hz2, ← hbl0, hbl]
         have w1 := fun a b c v => rcX_len a b c v hbl
         have w2 := fun a b c v => rcX_set259 a b c v hbl
         have w3 := fun a b c v => rcX_259 a b c v hbl
         have w4 := fun a b c v => rcX_take a b c v hbl
         have w5 := fun a b c v a' b' c' v' => rcX_splice a b c v zbl_len a' b' c' v' hbl
         have wcl : ∀ n (a b c : Int) (v : Value), closeds n (rcX (.int .u8 a) (.int .i64 b) (.int .u64 c) bl (.raw v)) := fun n a b c v => rcX_closed (by simp [closed]) (by simp [closed]) (by simp [closed]) (by simp [closed])
         have wcl5 : ∀ (a b c : Int) (r l : Nat), closeds 4 (rcX (.int .u8 a) (.int .i64 b) (.int .u64 c) bl (.sl 3 0 r l)) := fun a b c r l => rcX_closed (by simp [closed]) (by simp [closed]) (by simp [closed]) (by simp [closed])
         repeat' (first | with_reducible refine And.intro (by first | omega | (simp; done)) ?_ | simp (maxSteps := 4000000) (disch := omega) only [go_sem, ↓reduceIte, rcX_one, rcX_set0, rcX_set1, rcX_set2, rcX_get0, y1, y2, y3, y4, y5, zrR])
         have hS : ∀ hs, ∃ c, srcOf B6 hs 1 (.raw (.slice s6.1 256 s6.2)) = some (256, bl.map bE, c) ∧ c := fun hs => by
          have := hR6.1.src (cap := s6.2) hs
          rw [hbl] at this; exact this
         refine copyS (m := 256) (news := bl.map bE) (off := 3) (sz := 1) rfl Try.underlying23 cz5 ⟨_, Try.underlying5⟩ rfl rfl rfl (hS _).choose_spec.1 (hS _).choose_spec.2 (bE_one _) (by rw [y1]; omega) (.inl (Nat.zero_le _)) ?_
         simp only [Nat.min_self, Nat.mul_one, Nat.reduceAdd]
         rw [rcX_copy _ _ _ _ hbl]
         obtain ⟨o1, o2, o3, o4⟩ := kid_ld (hR3.c.ext (hB4.trans (hB5.trans hB6))) (i := 3) (by simp)
         simp only [Nat.reduceMul, List.getElem_cons_succ, List.getElem_cons_zero] at o1 o3
         have hA3 := rasList_fn (i3.ext (hB4.trans (hB5.trans hB6))) 0 1073741824 (by omega) (by omega)
         rw [asL_hi hs3.kids] at hA3
         refine next_of 1000 ?_
         repeat' (first | with_reducible refine And.intro (by first | omega | (constructor <;> assumption)) ?_ | simp (maxSteps := 4000000) (disch := omega) only [go_sem, ↓reduceIte, o1, w1, w2, w3, w4, w5, rcX_one, rcX_set0, rcX_set1, rcX_set2, rcX_get0, y1, y2, y3, y4, y5, zrR])
         refine callS_f hA3 (fun _ => by simp [closed, closeds]) (fun v7 B7 hB7 hR7 => next_of 1000 ?_)
         change BExt B6 B7 at hB7
         by_cases hz3 : (asL q3.1 0 many).2 = 0
         ·obtain ⟨tA, tc, qs⟩ := v7
          simp only at hR7
          obtain ⟨ts, hts⟩ : ∃ ts, ts = (asL q3.1 0 many).1 := ⟨_, rfl⟩
          rw [← hts] at hR7
          rw [← hts, hz3]
          have htl : ts.length ≤ 200000 := by rw [hts]; exact (asL_small hs3).1
          have hsk : ∀ k ∈ ts, Sm 200000 k := by rw [hts]; exact (asL_small hs3).2
          have hql : qs.length = ts.length := by rw [← hR7.m, List.length_map]
          repeat' (simp (maxSteps := 4000000) (disch := omega) only [go_sem, ↓reduceIte, w1, w2, w3, w4, w5, rcX_one, rcX_set0, rcX_set1, rcX_set2, rcX_get0, y1, y2, y3, y4, y5, zrR])
          refine loopU (S := Nat × Lst × List LogV × Base) (fun s => s.1 ≤ ts.length ∧ lOk z22 s.1 s.2.1 ∧ BExt B7 s.2.2.2 ∧ (∀ g ∈ s.2.2.1, g.Ok s.2.2.2) ∧ s.2.2.1.length = s.1 ∧ (∀ j (hj : j < s.1) (hj2 : j < ts.length), (logT ts[j]).2 = 0) ∧ s.2.2.1.map LogV.body = (ts.take s.1).map (fun t => (logT t).1))
           (fun s => ⟨[(108, .int .i64 (s.1 : Nat)), (107, .int .i64 (ts.length : Nat)), (106, .raw (.slice tA ts.length tc)), (9, .ptr 2 0), (4, .int .u8 ((ty : UInt8).toNat : Int)), (2, .ptr 0 0), (0, .raw (.slice ad b.length cap))], 4,
            [(3, lO 36 (logsE s.2.2.1) s.2.1), (2, some (.cells (rcX (.int .u8 ((ty : UInt8).toNat : Int)) (.int .i64 (okv : Nat)) (.int .u64 (gas : Nat)) bl (lE 3 s.1 s.2.1)) 45 (0, 0))), (1, some (.cells (itE t s2) 79 (0, 0))), (0, some (.cells (rcX (.int .u8 0) (.int .i64 0) (.int .u64 0) zbl (.raw (.slice none 0 0))) 45 (0, 0)))], s.2.2.2, []⟩)
           (fun s => ts.length - s.1) (0, none, [], B7) ⟨Nat.zero_le _, rfl, BExt.refl _, by simp, rfl, fun j hj => absurd hj (Nat.not_lt_zero j), rfl⟩ (Weak.sub (weak_of (by simp [wσ, go_sem, closed, closeds, lE_closed, eN, oN, cn, EObj.closed, ycl, wcl] <;> omega) (by simp [whs, Go.Ew.hget, go_sem, EObj.closed, closed, closeds, lE_closed, eN, oN, cn, EObj.closed, ycl, wcl]) (by simp [*]) rfl rfl (by simp))) ?_
          rintro ⟨i, l, L', B8⟩ ⟨hi, hl, hB8, hok8, hLl, hzs, hbd⟩
          simp only at hi hl hB8 hok8 hLl hzs hbd ⊢
          replace hR7 := hR7.ext hB8
          rcases Nat.lt_or_ge i ts.length with hi2 | hi2
          ·have cA : decide ((i : Int) < (ts.length : Int)) = true := decide_eq_true (by omega)
           obtain ⟨r1, r2, r3, r4⟩ := kid_ld hR7.c (i := i) (by omega)
           have ik := hR7.ok _ (List.getElem_mem (show i < qs.length by omega))
           have hqi : (qs[i]'(by omega)).1 = ts[i] := by
            have h1 : (qs.map Prod.fst)[i]? = ts[i]? := by rw [hR7.m]
            rw [List.getElem?_map, List.getElem?_eq_getElem (show i < qs.length by omega), List.getElem?_eq_getElem hi2] at h1
            simpa using h1
           have hsi : Sm 200000 ts[i] := hsk _ (List.getElem_mem hi2)
           have htk : (ts.take (i + 1)).map (fun t => (logT t).1) = (ts.take i).map (fun t => (logT t).1) ++ [(logT ts[i]).1] := by rw [List.take_succ_eq_append_getElem hi2, List.map_append]; rfl
           rw [← hqi] at htk hsi
           obtain ⟨q, hq0⟩ : ∃ q, q = qs[i]'(by omega) := ⟨_, rfl⟩
           have hqi' : q.1 = ts[i] := by rw [hq0]; exact hqi
           rw [← hq0] at r1 ik htk hsi
           refine next_of 1000 ?_
           repeat' (first | with_reducible refine And.intro (by first | omega | (constructor <;> assumption) | ((repeat' refine And.intro ?_ ?_) <;> first | omega | assumption | (refine SlOk.so (n := ?_) ?_ ?_; rotate_left; assumption; omega) | (simp; done) | fail)) ?_ | simp (maxSteps := 4000000) (disch := omega) only [go_sem, ↓reduceIte, cA, Int.toNat_natCast, r1, w1, w2, w3, w4, w5, rcX_one, rcX_set0, rcX_set1, rcX_set2, rcX_get0, y1, y2, y3, y4, y5, zrR])
           refine callS_f (rlogr_fn ik hsi) (fun _ => ⟨logE_closed (by simp [closed]) (by simp [closed]), trivial, trivial⟩) (fun g B9 hB9 hR9 => next_of 1000 ?_)
           change BExt B8 B9 at hB9
           obtain ⟨hg, hgb⟩ := hR9
           have f1 : ∀ u v, oneAll (logE g.ad (.raw u) (.raw v)) = (u.oneCell' && v.oneCell') := fun u v => by rw [oneAll_logE]; rfl
           have f2 : ∀ u v, (logE g.ad u v).length = 22 := fun u v => logE_len hg.ha
           have f8 : ∀ u v, List.take 22 (logE g.ad u v) = logE g.ad u v := fun u v => logE_take hg.ha
           have f9 : ∀ u v, ((logE g.ad u v).drop 0).take (1 * z22.length) = logE g.ad u v := fun u v => logE_take hg.ha
           by_cases hze : (logT q.1).2 = 0
           ·rw [hze]
            repeat' (first | with_reducible refine And.intro (by first | omega | (simp; done)) ?_ | simp (maxSteps := 4000000) (disch := omega) only [go_sem, ↓reduceIte, f1, f2, f8, logE_splice hg.ha, w1, w2, w3, w4, w5, rcX_one, rcX_set0, rcX_set1, rcX_set2, rcX_get0, y1, y2, y3, y4, y5, zrR])
            refine appendL (l := l) (xs := logsE L') (zs := z22) (news := g.ev) (T := 36) 3 i rfl Try.underlying22 (.inl ⟨_, Try.underlying22⟩) zr36 cz36 (by simp [z22]) z22_closed rfl rfl rfl hl (by rw [logsE_len hok8, hLl]; rfl) (logsE_closed 0 L') (src_own (m := 1) rfl (f9 _ _)) (by rw [f2]; decide) (by rw [f1]; rfl) (by simp only [maxLen]; omega) (by rw [show Try.prog.bytesOf 36 = 72 from by36]; omega) (fun l2 hl2 => ?_)
            have hl2' := hl2
            obtain ⟨cp, rest, rfl, -⟩ := lst_some hl2 (by omega)
            simp only [lE_some]
            have hev : logsE L' ++ g.ev = logsE (L' ++ [g]) := by
             rw [logsE, logsE, List.flatMap_append, List.flatMap_singleton]
            refine next_of 1000 ?_
            repeat' (first | with_reducible refine And.intro (by omega) ?_ | simp (maxSteps := 4000000) (disch := omega) only [go_sem, ↓reduceIte, hev, w1, w2, w3, w4, w5, rcX_one, rcX_set0, rcX_set1, rcX_set2, rcX_get0, y1, y2, y3, y4, y5, zrR])
            have hok9 : ∀ a ∈ L' ++ [g], a.Ok B9 := fun a ha => by
             rcases List.mem_append.1 ha with h3 | h3
             ·exact (hok8 a h3).ext hB9
             ·obtain rfl := List.mem_singleton.1 h3
              exact hg
            have cl2 : ∀ n, clO n (lO 36 (logsE (L' ++ [g])) (some (cp, rest))) = True := fun n => clO_lO hl2' (logsE_closed 0 _) z22_closed
            have cl3 : ∀ n, clO n (lO 36 (L'.flatMap LogV.ev ++ g.ev) (some (cp, rest))) = True := fun n => by have := cl2 n; rwa [logsE, List.flatMap_append, List.flatMap_singleton] at this
            have hgl : (L' ++ [g]).length = i + 1 := by simp [hLl]
            refine ⟨(i + 1, some (cp, rest), L' ++ [g], B9), ⟨hi2, hl2', hB8.trans hB9, hok9, hgl, fun j hj hj2 => ?_, by rw [htk, List.map_append, hbd, List.map_singleton, hgb hze]⟩, (pack_sub [7] 3 (by simp) (by simp) (by simp) (by simp)).trans ?_, by simp only; omega⟩
            ·rcases Nat.lt_or_ge j i with h3 | h3
             ·exact hzs j h3 hj2
             ·obtain rfl : j = i := by omega
              rw [← hqi']; exact hze
            ·simp only [go_sem, okC, okE, okCs, rcX_okCs, rcX_rens, pkO_some, pkO_lO (ks := [7]) (k := 3) hl2' (logsE_closed 0 (L' ++ [g])) z22_closed, pkO_none, lE_some]
             exact Weak.sub (weak_of (by simp [wσ, go_sem, closed, closeds, lE_closed, cl2, cl3, lE_some, ycl, wcl, wcl5, rcX_okCs, rcX_rens, okC, ren] <;> omega) (by simp [whs, Go.Ew.hget, go_sem, EObj.closed, closed, closeds, lE_closed, cl2, cl3, lE_some, ycl, wcl, wcl5, rcX_okCs, rcX_rens, okC, ren]) (by simp [*]) rfl rfl (by simp))
           ·have hat := errL_at (ts := ts) (i := i) hi2 hzs (by rw [← hqi']; exact hze)
            rw [← hqi'] at hat
            have hEE : recE q0.1 q1.1 q2.1 q3.1 = (logT q.1).2 := by rw [recE, ← hts, hz0', hz1, hz2, hz3, kp_zero, kp_zero, kp_zero, hat]
            rw [hEE, if_pos hze] at hM0
            rw [hM0]
            obtain ⟨E, hE⟩ : ∃ E, E = (logT q.1).2 := ⟨_, rfl⟩
            rw [← hE] at hze ⊢
            have hei : ((E : Nat) : Int) ≠ 0 := by omega
            repeat' (first | simp (maxSteps := 4000000) (disch := omega) only [go_sem, ↓reduceIte, f1, f2, f8, logE_splice hg.ha, w1, w2, w3, w4, w5, rcX_one, rcX_set0, rcX_set1, rcX_set2, rcX_get0, y1, y2, y3, y4, y5, zrR] | ((first | refine condS_split (fun h => ?_) (fun h => ?_) | refine testS_split (fun h => ?_) (fun h => ?_) | refine testT_split (fun h => ?_) (fun h => ?_)) <;> (try simp only [bne_iff_ne, ne_eq, beq_iff_eq, decide_eq_true_eq, decide_eq_false_iff_not, Bool.not_eq_true, Bool.not_eq_false, Bool.not_true, Bool.not_false, bne_eq_false_iff_eq, beq_eq_false_iff_ne, Bool.and_eq_true, Bool.or_eq_true, Bool.and_eq_false_imp, Bool.or_eq_false_iff, Bool.not_eq_true', Bool.not_eq_false', Int.not_lt, Int.not_le] at h) <;> (try (exfalso; omega))))
            first | exact ⟨hB2.trans (hB3.trans (hB4.trans (hB5.trans (hB6.trans (hB7.trans (hB8.trans hB9)))))), ⟨0, 0, 0, blmOf zbl, none, 0, []⟩, by rw [hzE], ⟨rc_closed 0 _, by simp [closed, closeds]⟩, hz0 _, hzb, by decide⟩ | exact ⟨⟨0, 0, 0, blmOf zbl, none, 0, []⟩, by rw [hzE], ⟨rc_closed 0 _, by simp [closed, closeds]⟩, hz0 _, hzb, by decide⟩
          ·obtain rfl : i = ts.length := by omega
           have cA : decide ((ts.length : Int) < (ts.length : Int)) = false := decide_eq_false (by omega)
           rw [List.take_length] at hbd
           refine freezeL (xs := logsE L') (T := 36) 3 ts.length rfl hl (by rw [logsE_len hok8, hLl]; rfl) (logsE_closed 0 _) z22_closed (by simp) (fun b2 fA fc B9 hB9 hf2' hD hso hcell => ?_)
           change BExt B8 B9 at hB9
           have hC : CellsAt B9 fA (L'.flatMap LogV.cells) := cellsAt_frz hD hso (fun h0 => by
            rw [h0] at hLl; rw [List.length_eq_zero_iff.1 hLl]; rfl) hcell (reals_logs _ _)
           have hLA : LogsAt B9 fA L' := ⟨hC, fun g hg => (hok8 g hg).ext hB9, by omega⟩
           simp only [frzσ, frz, rcX_frzs, hf2', frzh_cons, frzh_nil, Nat.reduceEqDiff, if_false, if_true, ↓reduceIte, fzO_some, EObj.frz, frzs]
           have hBX := hB2.trans (hB3.trans (hB4.trans (hB5.trans (hB6.trans (hB7.trans (hB8.trans hB9))))))
           have hEE : recE q0.1 q1.1 q2.1 q3.1 = 0 := by rw [recE, ← hts, hz0', hz1, hz2, hz3, kp_zero, kp_zero, kp_zero, errL_none (fun j hj2 => hzs j hj2 hj2)]
           rw [hEE, if_neg (by simp)] at hM0
           have hrv : rcX (.int .u8 ((ty : UInt8).toNat : Int)) (.int .i64 (okv : Nat)) (.int .u64 (gas : Nat)) bl (.raw (.slice fA ts.length fc)) = rcE ⟨ty, okv, gas, blmOf bl, fA, fc, L'⟩ := by rw [← hLl]; exact rcX_rc ty okv gas hbl fA fc L'
           have hbody : (⟨ty, okv, gas, blmOf bl, fA, fc, L'⟩ : RcV).body = recB ty q0.1 q1.1 q2.1 q3.1 := by
            simp only [RcV.body, blmOf_bytes hbl]
            rw [recB, hbd, hok, ← hgas, ← hts, hfx]
           have hmy := rgood_fn (r := ⟨ty, okv, gas, blmOf bl, fA, fc, L'⟩) hLA
           rw [mayR_body, hbody, ← hrv] at hmy
           have w6 := fun a b c v a' b' c' v' => rcX_splice a b c v zbl_len a' b' c' v' hbl
           have hbX := hb.ext hBX
           have u1 := hbX.ld 0 (by omega)
           have u2 := hbX.lS 0 (by omega)
           have u3 := hbX.lD (by omega)
           have u5 : rawCell B9 (adrAt ad 0) = .int .u8 (((b.getD 0 0).toNat : Nat) : Int) := by rw [u1, bE]
           refine next_of 1000 ?_
           cases hmm : mayM (recB ty q0.1 q1.1 q2.1 q3.1) with
           | false =>
            rw [hmm] at hmy hM0
            rw [if_pos (by simp)] at hM0
            rw [hM0]
            repeat' (first | with_reducible refine And.intro (by omega) ?_ | simp (maxSteps := 4000000) (disch := omega) only [go_sem, ↓reduceIte, cA, w6, w1, w2, w3, w4, w5, rcX_one, rcX_set0, rcX_set1, rcX_set2, rcX_get0, y1, y2, y3, y4, y5, zrR] | refine callS_fp (hmy) (by simp [closed, closeds, closeds_ints, closed_wE]) (next_of 1000 ?_) | with_reducible refine next_of 1000 ?_)
            first | exact ⟨hBX, ⟨0, 0, 0, blmOf zbl, none, 0, []⟩, by rw [hzE], ⟨rc_closed 0 _, by simp [closed, closeds]⟩, hz0 _, hzb, by decide⟩ | exact ⟨⟨0, 0, 0, blmOf zbl, none, 0, []⟩, by rw [hzE], ⟨rc_closed 0 _, by simp [closed, closeds]⟩, hz0 _, hzb, by decide⟩
           | true =>
            rw [hmm] at hmy hM0
            have hyc : ((((ty : UInt8).toNat : Nat) : Int) == 0) = decide ((ty : UInt8) = 0) := by
             rw [Bool.eq_iff_iff, beq_iff_eq, decide_eq_true_eq]
             exact ⟨fun h => UInt8.toNat_inj.1 (by rw [UInt8.toNat_zero] <;> omega), fun h => by rw [h]; rfl⟩
            rw [← hty] at u5
            by_cases hty0 : ty = 0
            ·rw [if_pos (by simp [hty0])] at hM0
             rw [hM0]
             have hyt : ((((ty : UInt8).toNat : Nat) : Int) == 0) = true := by rw [hyc]; exact decide_eq_true hty0
             repeat' (first | with_reducible refine And.intro (by first | omega | (constructor <;> assumption) | ((repeat' refine And.intro ?_ ?_) <;> first | omega | assumption | (refine SlOk.so (n := ?_) ?_ ?_; rotate_left; assumption; omega) | (simp; done) | fail)) ?_ | simp (maxSteps := 4000000) (disch := omega) only [go_sem, ↓reduceIte, cA, u5, hyt, w6, w1, w2, w3, w4, w5, rcX_one, rcX_set0, rcX_set1, rcX_set2, rcX_get0, y1, y2, y3, y4, y5, zrR] | refine callS_fp (hmy) (by simp [closed, closeds, closeds_ints, closed_wE]) (next_of 1000 ?_) | with_reducible refine next_of 1000 ?_)
             first | exact ⟨hBX, ⟨0, 0, 0, blmOf zbl, none, 0, []⟩, by rw [hzE], ⟨rc_closed 0 _, by simp [closed, closeds]⟩, hz0 _, hzb, by decide⟩ | exact ⟨⟨0, 0, 0, blmOf zbl, none, 0, []⟩, by rw [hzE], ⟨rc_closed 0 _, by simp [closed, closeds]⟩, hz0 _, hzb, by decide⟩
            ·rw [if_neg (by simp [hty0])] at hM0
             rw [hM0]
             have hyt : ((((ty : UInt8).toNat : Nat) : Int) == 0) = false := by rw [hyc]; exact decide_eq_false hty0
             repeat' (first | with_reducible refine And.intro (by omega) ?_ | simp (maxSteps := 4000000) (disch := omega) only [go_sem, ↓reduceIte, cA, u5, hyt, w6, w1, w2, w3, w4, w5, rcX_one, rcX_set0, rcX_set1, rcX_set2, rcX_get0, y1, y2, y3, y4, y5, zrR] | refine callS_fp (hmy) (by simp [closed, closeds, closeds_ints, closed_wE]) (next_of 1000 ?_) | with_reducible refine next_of 1000 ?_)
             rw [hrv]
             first | exact ⟨hBX, _, rfl, ⟨rc_closed 0 _, by simp [closed, closeds]⟩, hLA, hbody, hn1⟩ | exact ⟨_, rfl, ⟨rc_closed 0 _, by simp [closed, closeds]⟩, hLA, hbody, hn1⟩
         ·have hEE : recE q0.1 q1.1 q2.1 q3.1 = (asL q3.1 0 many).2 := by rw [recE, hz0', hz1, hz2, kp_zero, kp_zero, kp_zero, errL_ne hz3]
          rw [hEE, if_pos hz3] at hM0
          rw [hM0]
          obtain ⟨E, hE⟩ : ∃ E, E = (asL q3.1 0 many).2 := ⟨_, rfl⟩
          rw [← hE] at hz3 ⊢
          have hei : ((E : Nat) : Int) ≠ 0 := by omega
          repeat' (first | simp (maxSteps := 4000000) (disch := omega) only [go_sem, ↓reduceIte, w1, w2, w3, w4, w5, rcX_one, rcX_set0, rcX_set1, rcX_set2, rcX_get0, y1, y2, y3, y4, y5, zrR] | ((first | refine condS_split (fun h => ?_) (fun h => ?_) | refine testS_split (fun h => ?_) (fun h => ?_) | refine testT_split (fun h => ?_) (fun h => ?_)) <;> (try simp only [bne_iff_ne, ne_eq, beq_iff_eq, decide_eq_true_eq, decide_eq_false_iff_not, Bool.not_eq_true, Bool.not_eq_false, Bool.not_true, Bool.not_false, bne_eq_false_iff_eq, beq_eq_false_iff_ne, Bool.and_eq_true, Bool.or_eq_true, Bool.and_eq_false_imp, Bool.or_eq_false_iff, Bool.not_eq_true', Bool.not_eq_false', Int.not_lt, Int.not_le] at h) <;> (try (exfalso; omega))))
          first | exact ⟨hB2.trans (hB3.trans (hB4.trans (hB5.trans (hB6.trans hB7)))), ⟨0, 0, 0, blmOf zbl, none, 0, []⟩, by rw [hzE], ⟨rc_closed 0 _, by simp [closed, closeds]⟩, hz0 _, hzb, by decide⟩ | exact ⟨⟨0, 0, 0, blmOf zbl, none, 0, []⟩, by rw [hzE], ⟨rc_closed 0 _, by simp [closed, closeds]⟩, hz0 _, hzb, by decide⟩
        ·have hEE : recE q0.1 q1.1 q2.1 q3.1 = (asB q2.1 256 256).2 := by rw [recE, hz0', hz1, kp_zero, kp_zero, kp_ne hz2, errL_ne hz2]
         rw [hEE, if_pos hz2] at hM0
         rw [hM0]
         obtain ⟨E, hE⟩ : ∃ E, E = (asB q2.1 256 256).2 := ⟨_, rfl⟩
         rw [← hE] at hz2 ⊢
         have hei : ((E : Nat) : Int) ≠ 0 := by omega
         repeat' (first | simp (maxSteps := 4000000) (disch := omega) only [go_sem, ↓reduceIte, rcX_one, rcX_set0, rcX_set1, rcX_set2, rcX_get0, y1, y2, y3, y4, y5, zrR] | ((first | refine condS_split (fun h => ?_) (fun h => ?_) | refine testS_split (fun h => ?_) (fun h => ?_) | refine testT_split (fun h => ?_) (fun h => ?_)) <;> (try simp only [bne_iff_ne, ne_eq, beq_iff_eq, decide_eq_true_eq, decide_eq_false_iff_not, Bool.not_eq_true, Bool.not_eq_false, Bool.not_true, Bool.not_false, bne_eq_false_iff_eq, beq_eq_false_iff_ne, Bool.and_eq_true, Bool.or_eq_true, Bool.and_eq_false_imp, Bool.or_eq_false_iff, Bool.not_eq_true', Bool.not_eq_false', Int.not_lt, Int.not_le] at h) <;> (try (exfalso; omega))))
         first | exact ⟨hB2.trans (hB3.trans (hB4.trans (hB5.trans hB6))), ⟨0, 0, 0, blmOf zbl, none, 0, []⟩, by rw [hzE], ⟨rc_closed 0 _, by simp [closed, closeds]⟩, hz0 _, hzb, by decide⟩ | exact ⟨⟨0, 0, 0, blmOf zbl, none, 0, []⟩, by rw [hzE], ⟨rc_closed 0 _, by simp [closed, closeds]⟩, hz0 _, hzb, by decide⟩
       ·refine next_of 1000 ?_
        have hEE : recE q0.1 q1.1 q2.1 q3.1 = (asN q1.1).2 := by rw [recE, hz0', kp_zero, kp_ne hz1, kp_ne hz1, errL_ne hz1]
        rw [hEE, if_pos hz1] at hM0
        rw [hM0]
        obtain ⟨E, hE⟩ : ∃ E, E = (asN q1.1).2 := ⟨_, rfl⟩
        rw [← hE] at hz1 ⊢
        have hei : ((E : Nat) : Int) ≠ 0 := by omega
        repeat' (first | with_reducible refine And.intro (by omega) ?_ | simp (maxSteps := 4000000) (disch := omega) only [go_sem, ↓reduceIte, rcX_one, rcX_set0, rcX_set1, rcX_set2, rcX_get0, y1, y2, y3, y4, y5, zrR] | ((first | refine condS_split (fun h => ?_) (fun h => ?_) | refine testS_split (fun h => ?_) (fun h => ?_) | refine testT_split (fun h => ?_) (fun h => ?_)) <;> (try simp only [bne_iff_ne, ne_eq, beq_iff_eq, decide_eq_true_eq, decide_eq_false_iff_not, Bool.not_eq_true, Bool.not_eq_false, Bool.not_true, Bool.not_false, bne_eq_false_iff_eq, beq_eq_false_iff_ne, Bool.and_eq_true, Bool.or_eq_true, Bool.and_eq_false_imp, Bool.or_eq_false_iff, Bool.not_eq_true', Bool.not_eq_false', Int.not_lt, Int.not_le] at h) <;> (try (exfalso; omega))))
        first | exact ⟨hB2.trans (hB3.trans (hB4.trans hB5)), ⟨0, 0, 0, blmOf zbl, none, 0, []⟩, by rw [hzE], ⟨rc_closed 0 _, by simp [closed, closeds]⟩, hz0 _, hzb, by decide⟩ | exact ⟨⟨0, 0, 0, blmOf zbl, none, 0, []⟩, by rw [hzE], ⟨rc_closed 0 _, by simp [closed, closeds]⟩, hz0 _, hzb, by decide⟩
     ·have hEE : recE q0.1 q1.1 q2.1 q3.1 = (asN q0.1).2 := by rw [recE, kp_ne hz0', kp_ne hz0', kp_ne hz0', errL_ne hz0']
      rw [hEE, if_pos hz0'] at hM0
      rw [hM0]
      obtain ⟨E, hE⟩ : ∃ E, E = (asN q0.1).2 := ⟨_, rfl⟩
      rw [← hE] at hz0' ⊢
      have hei : ((E : Nat) : Int) ≠ 0 := by omega
      repeat' (first | simp (maxSteps := 4000000) (disch := omega) only [go_sem, ↓reduceIte, rcX_one, rcX_set0, rcX_set1, rcX_set2, rcX_get0, y1, y2, y3, y4, y5, zrR] | ((first | refine condS_split (fun h => ?_) (fun h => ?_) | refine testS_split (fun h => ?_) (fun h => ?_) | refine testT_split (fun h => ?_) (fun h => ?_)) <;> (try simp only [bne_iff_ne, ne_eq, beq_iff_eq, decide_eq_true_eq, decide_eq_false_iff_not, Bool.not_eq_true, Bool.not_eq_false, Bool.not_true, Bool.not_false, bne_eq_false_iff_eq, beq_eq_false_iff_ne, Bool.and_eq_true, Bool.or_eq_true, Bool.and_eq_false_imp, Bool.or_eq_false_iff, Bool.not_eq_true', Bool.not_eq_false', Int.not_lt, Int.not_le] at h) <;> (try (exfalso; omega))))
      first | exact ⟨hB2.trans (hB3.trans hB4), ⟨0, 0, 0, blmOf zbl, none, 0, []⟩, by rw [hzE], ⟨rc_closed 0 _, by simp [closed, closeds]⟩, hz0 _, hzb, by decide⟩ | exact ⟨⟨0, 0, 0, blmOf zbl, none, 0, []⟩, by rw [hzE], ⟨rc_closed 0 _, by simp [closed, closeds]⟩, hz0 _, hzb, by decide⟩
    ·have hM : recT ty false t = (zRc, (asL t 4 4).2) := by rw [recT, if_pos hz]
     rw [hM] at hM0
     rw [hM0]
     obtain ⟨E, hE0⟩ : ∃ E, E = (asL t 4 4).2 := ⟨_, rfl⟩
     rw [← hE0] at hz ⊢
     have hei : ((E : Nat) : Int) ≠ 0 := by omega
     repeat' (first | simp (maxSteps := 4000000) (disch := omega) only [go_sem, ↓reduceIte, rcX_one, rcX_set0, rcX_set1, rcX_set2, rcX_get0, y1, y2, y3, y4, y5, zrR] | ((first | refine condS_split (fun h => ?_) (fun h => ?_) | refine testS_split (fun h => ?_) (fun h => ?_) | refine testT_split (fun h => ?_) (fun h => ?_)) <;> (try simp only [bne_iff_ne, ne_eq, beq_iff_eq, decide_eq_true_eq, decide_eq_false_iff_not, Bool.not_eq_true, Bool.not_eq_false, Bool.not_true, Bool.not_false, bne_eq_false_iff_eq, beq_eq_false_iff_ne, Bool.and_eq_true, Bool.or_eq_true, Bool.and_eq_false_imp, Bool.or_eq_false_iff, Bool.not_eq_true', Bool.not_eq_false', Int.not_lt, Int.not_le] at h) <;> (try (exfalso; omega))))
     first | exact ⟨hB2.trans hB3, ⟨0, 0, 0, blmOf zbl, none, 0, []⟩, by rw [hzE], ⟨rc_closed 0 _, by simp [closed, closeds]⟩, hz0 _, hzb, by decide⟩ | exact ⟨⟨0, 0, 0, blmOf zbl, none, 0, []⟩, by rw [hzE], ⟨rc_closed 0 _, by simp [closed, closeds]⟩, hz0 _, hzb, by decide⟩
   ·rw [if_pos he] at hM0
    rw [hM0]
    have hei : ((e : Nat) : Int) ≠ 0 := by omega
    repeat' (first | with_reducible refine And.intro (by omega) ?_ | simp (maxSteps := 4000000) (disch := omega) only [go_sem, ↓reduceIte, okC, okE, okCs, rcX_okCs, rcX_rens, pkO_some, pkO_none, rcX_one, rcX_set0, rcX_set1, rcX_set2, rcX_get0, y1, y2, y3, y4, y5, zrR] | ((first | refine condS_split (fun h => ?_) (fun h => ?_) | refine testS_split (fun h => ?_) (fun h => ?_) | refine testT_split (fun h => ?_) (fun h => ?_)) <;> (try simp only [bne_iff_ne, ne_eq, beq_iff_eq, decide_eq_true_eq, decide_eq_false_iff_not, Bool.not_eq_true, Bool.not_eq_false, Bool.not_true, Bool.not_false, bne_eq_false_iff_eq, beq_eq_false_iff_ne, Bool.and_eq_true, Bool.or_eq_true, Bool.and_eq_false_imp, Bool.or_eq_false_iff, Bool.not_eq_true', Bool.not_eq_false', Int.not_lt, Int.not_le] at h) <;> (try (exfalso; omega))))
    first | exact ⟨hB2, ⟨0, 0, 0, blmOf zbl, none, 0, []⟩, by rw [hzE], ⟨rc_closed 0 _, by simp [closed, closeds]⟩, hz0 _, hzb, by decide⟩ | exact ⟨⟨0, 0, 0, blmOf zbl, none, 0, []⟩, by rw [hzE], ⟨rc_closed 0 _, by simp [closed, closeds]⟩, hz0 _, hzb, by decide⟩
  ·have hMD : recD b = recP 0 true b := by rw [recD, if_neg (fun h => h1 (by rw [hz]; exact h.2))]
   rw [hMD]
   have c1 : decide ((z : Int) < 128) = false := decide_eq_false (by omega)
   repeat' (first | with_reducible refine And.intro (by first | omega | (constructor <;> assumption) | ((repeat' refine And.intro ?_ ?_) <;> first | omega | assumption | (refine SlOk.so (n := ?_) ?_ ?_; rotate_left; assumption; omega) | (simp; done) | fail)) ?_ | simp (maxSteps := 4000000) (disch := omega) only [go_sem, ↓reduceIte, Try.f22, m5, c0, c1, rcX_one, rcX_set0, rcX_set1, rcX_set2, rcX_get0, y1, y2, y3, y4, y5, zrR])
   refine callS_f (rdecI_fn b _ B0 ad cap hb rfl hcap hc) (fun _ => by simp [closed, closeds]) (fun s2 B2 hB2 hR2 => ?_)
   change BExt B0 B2 at hB2
   refine next_of 1000 ?_
   have hsI := DecM_sm (b := b) (N := 200000) hsm
   have her := DecM_err b
   have hM0 : recP 0 true b = if (DecM b).2 ≠ 0 then (zRc, (DecM b).2) else recT 0 true (DecM b).1 := rfl
   obtain ⟨RR, hRR⟩ : ∃ RR, RR = recP 0 true b := ⟨_, rfl⟩
   rw [← hRR] at hM0 ⊢
   obtain ⟨t, e, hq⟩ : ∃ t e, DecM b = (t, e) := ⟨_, _, rfl⟩
   rw [hq] at hR2 hsI her hM0
   simp only at hR2 hsI her hM0
   rw [hq]
   by_cases he : e = 0
   ·subst he
    rw [if_neg (by simp)] at hM0
    repeat' (simp (maxSteps := 4000000) (disch := omega) only [go_sem, ↓reduceIte, rcX_one, rcX_set0, rcX_set1, rcX_set2, rcX_get0, y1, y2, y3, y4, y5, zrR])
    refine callS_f (rasList_fn hR2 4 4 (by omega) (Nat.le_refl _)) (fun _ => by simp [closed, closeds]) (fun u B3 hB3 hR3 => next_of 1000 ?_)
    change BExt B2 B3 at hB3
    by_cases hz : (asL t 4 4).2 = 0
    ·obtain ⟨hk1, hk2⟩ := asL_ok hz
     obtain ⟨k0, k1, k2, k3, hks⟩ := four_of hk2
     have hM : recT 0 true t = if recE k0 k1 k2 k3 ≠ 0 then (zRc, recE k0 k1 k2 k3) else if !mayM (recB 0 k0 k1 k2 k3) || (!true && decide (0 = 0)) then (zRc, 190) else (recB 0 k0 k1 k2 k3, 0) := by rw [recT, if_neg (by omega), hks] <;> rfl
     rw [hM] at hM0
     obtain ⟨kA, kc, qs⟩ := u
     simp only at hR3
     have hqm := hR3.m
     rw [hk1, hks] at hqm
     obtain ⟨q0, q1, q2, q3, rfl⟩ := four_of (l := qs) (by have := congrArg List.length hqm; simpa using this)
     simp only [List.map_cons, List.map_nil, List.cons.injEq, and_true] at hqm
     obtain ⟨rfl, rfl, rfl, rfl⟩ := hqm
     have i0 := hR3.ok q0 (by simp)
     have i1 := hR3.ok q1 (by simp)
     have i2 := hR3.ok q2 (by simp)
     have i3 := hR3.ok q3 (by simp)
     have hs3 : Sm 200000 q3.1 := hsI.kid (by rw [hks]; simp)
     obtain ⟨d1, d2, d3, d4⟩ := kid_ld hR3.c (i := 0) (by simp)
     simp only [Nat.zero_mul, List.getElem_cons_zero] at d1 d3
     rw [hz]
     have hl4 : (asL t 4 4).1.length = 4 := by rw [hk1, hk2]
     rw [hl4]
     repeat' (first | with_reducible refine And.intro (by first | omega | (constructor <;> assumption)) ?_ | simp (maxSteps := 4000000) (disch := omega) only [go_sem, ↓reduceIte, d1, rcX_one, rcX_set0, rcX_set1, rcX_set2, rcX_get0, y1, y2, y3, y4, y5, zrR])
     refine callS_f (rasNumber_fn i0) (fun _ => by simp [closed, closeds]) (fun _ B4 hB4 _ => next_of 1000 ?_)
     change BExt B3 B4 at hB4
     have hn0 := asN_lt q0.1
     have hn1 := asN_lt q1.1
     by_cases hz0' : (asN q0.1).2 = 0
     ·rw [hz0']
      obtain ⟨okv, hok⟩ : ∃ okv, okv = min (asN q0.1).1 2 := ⟨_, rfl⟩
      obtain ⟨v0, hv0⟩ : ∃ v0, v0 = (asN q0.1).1 := ⟨_, rfl⟩
      rw [← hv0] at hn0 ⊢
      obtain ⟨m1, m2, m3, m4⟩ := kid_ld (hR3.c.ext hB4) (i := 1) (by simp)
      simp only [Nat.one_mul, List.getElem_cons_succ, List.getElem_cons_zero] at m1 m3
      apply merge (S := Base) (I := fun B5 => BExt B4 B5)
      ·intro key
       by_cases hmn : v0 ≤ 1
       ·have cM : decide ((1 : Int) < (v0 : Int)) = false := decide_eq_false (by omega)
        have hov : okv = v0 := by rw [hok, ← hv0]; omega
        repeat' (first | with_reducible refine And.intro (by first | omega | (constructor <;> assumption)) ?_ | simp (maxSteps := 4000000) (disch := omega) only [go_sem, ↓reduceIte, m1, cM, rcX_one, rcX_set0, rcX_set1, rcX_set2, rcX_get0, y1, y2, y3, y4, y5, zrR])
        refine callS_f (rasNumber_fn (i1.ext hB4)) (fun _ => by simp [closed, closeds]) (fun _ B5 hB5 _ => ?_)
        change BExt B4 B5 at hB5
        rw [← hov]
        exact Next.subL (y := ⟨[(72, .tup [.int .u64 ((asN q1.1).1 : Nat), .int .i64 ((asN q1.1).2 : Nat)]), (9, .ptr 2 0), (8, .raw (.slice kA 4 kc)), (4, .int .u8 ((0 : UInt8).toNat : Int)), (2, .ptr 0 0), (0, .raw (.slice ad b.length cap))], 3, [(2, some (.cells (rcX (.int .u8 ((0 : UInt8).toNat : Int)) (.int .i64 (okv : Nat)) (.int .u64 0) zbl (.raw (.slice none 0 0))) 45 (0, 0))), (1, some (.cells (itE t s2) 79 (0, 0))), (0, some (.cells (rcX (.int .u8 0) (.int .i64 0) (.int .u64 0) zbl (.raw (.slice none 0 0))) 45 (0, 0)))], B5, []⟩) (Weak.sub (weak_of (by simp [wσ, go_sem, closed, closeds, lE_closed, ycl] <;> omega) (by simp [whs, Go.Ew.hget, go_sem, EObj.closed, closed, closeds, lE_closed, ycl]) (by simp [*]) rfl rfl (by simp))) (key B5 hB5)
       ·have cM : decide ((1 : Int) < (v0 : Int)) = true := decide_eq_true (by omega)
        have hov : okv = 2 := by rw [hok, ← hv0]; omega
        repeat' (first | with_reducible refine And.intro (by first | omega | (constructor <;> assumption)) ?_ | simp (maxSteps := 4000000) (disch := omega) only [go_sem, ↓reduceIte, m1, cM, rcX_one, rcX_set0, rcX_set1, rcX_set2, rcX_get0, y1, y2, y3, y4, y5, zrR])
        refine callS_f (rasNumber_fn (i1.ext hB4)) (fun _ => by simp [closed, closeds]) (fun _ B5 hB5 _ => ?_)
        change BExt B4 B5 at hB5
        exact Next.subL (y := ⟨[(72, .tup [.int .u64 ((asN q1.1).1 : Nat), .int .i64 ((asN q1.1).2 : Nat)]), (9, .ptr 2 0), (8, .raw (.slice kA 4 kc)), (4, .int .u8 ((0 : UInt8).toNat : Int)), (2, .ptr 0 0), (0, .raw (.slice ad b.length cap))], 3, [(2, some (.cells (rcX (.int .u8 ((0 : UInt8).toNat : Int)) (.int .i64 (okv : Nat)) (.int .u64 0) zbl (.raw (.slice none 0 0))) 45 (0, 0))), (1, some (.cells (itE t s2) 79 (0, 0))), (0, some (.cells (rcX (.int .u8 0) (.int .i64 0) (.int .u64 0) zbl (.raw (.slice none 0 0))) 45 (0, 0)))], B5, []⟩) (Weak.sub (weak_of (by simp [wσ, go_sem, closed, closeds, lE_closed, ycl, hov] <;> omega) (by simp [whs, Go.Ew.hget, go_sem, EObj.closed, closed, closeds, lE_closed, ycl, hov]) (by simp [*]) rfl rfl (by simp))) (key B5 hB5)
      ·intro B5 hB5
       by_cases hz1 : (asN q1.1).2 = 0
       ·rw [hz1]
        obtain ⟨n1, n2, n3, n4⟩ := kid_ld (hR3.c.ext (hB4.trans hB5)) (i := 2) (by simp)
        simp only [Nat.reduceMul, List.getElem_cons_succ, List.getElem_cons_zero] at n1 n3
        obtain ⟨gas, hgas⟩ : ∃ gas, gas = (asN q1.1).1 := ⟨_, rfl⟩
        rw [← hgas] at hn1 ⊢
        refine next_of 1000 ?_
        repeat' (first | with_reducible refine And.intro (by first | omega | (constructor <;> assumption)) ?_ | simp (maxSteps := 4000000) (disch := omega) only [go_sem, ↓reduceIte, n1, rcX_one, rcX_set0, rcX_set1, rcX_set2, rcX_get0, y1, y2, y3, y4, y5, zrR])
        refine callS_f (rasBytes_fn (i2.ext (hB4.trans hB5)) 256 256 (by omega) (Nat.le_refl _)) (fun _ => by simp [closed, closeds]) (fun s6 B6 hB6 hR6 => next_of 1000 ?_)
        change BExt B5 B6 at hB6
        by_cases hz2 : (asB q2.1 256 256).2 = 0
        ·obtain ⟨x1, x2, x3, x4⟩ := asB_inv hz2
         obtain ⟨bl, hbl0⟩ : ∃ bl, bl = (asB q2.1 256 256).1 := ⟨_, rfl⟩
         have hbl : bl.length = 256 := by rw [hbl0, x2]; omega
         have hfx : fixB 256 q2.1 = bl := by rw [fixB, if_pos hz2, hbl0]
         rw [← hbl0] at hR6
         rw [hz2, ← hbl0, hbl]
         have w1 := fun a b c v => rcX_len a b c v hbl
         have w2 := fun a b c v => rcX_set259 a b c v hbl
         have w3 := fun a b c v => rcX_259 a b c v hbl
         have w4 := fun a b c v => rcX_take a b c v hbl
         have w5 := fun a b c v a' b' c' v' => rcX_splice a b c v zbl_len a' b' c' v' hbl
         have wcl : ∀ n (a b c : Int) (v : Value), closeds n (rcX (.int .u8 a) (.int .i64 b) (.int .u64 c) bl (.raw v)) := fun n a b c v => rcX_closed (by simp [closed]) (by simp [closed]) (by simp [closed]) (by simp [closed])
         have wcl5 : ∀ (a b c : Int) (r l : Nat), closeds 4 (rcX (.int .u8 a) (.int .i64 b) (.int .u64 c) bl (.sl 3 0 r l)) := fun a b c r l => rcX_closed (by simp [closed]) (by simp [closed]) (by simp [closed]) (by simp [closed])
         repeat' (first | with_reducible refine And.intro (by first | omega | (simp; done)) ?_ | simp (maxSteps := 4000000) (disch := omega) only [go_sem, ↓reduceIte, rcX_one, rcX_set0, rcX_set1, rcX_set2, rcX_get0, y1, y2, y3, y4, y5, zrR])
         have hS : ∀ hs, ∃ c, srcOf B6 hs 1 (.raw (.slice s6.1 256 s6.2)) = some (256, bl.map bE, c) ∧ c := fun hs => by
          have := hR6.1.src (cap := s6.2) hs
          rw [hbl] at this; exact this
         refine copyS (m := 256) (news := bl.map bE) (off := 3) (sz := 1) rfl Try.underlying23 cz5 ⟨_, Try.underlying5⟩ rfl rfl rfl (hS _).choose_spec.1 (hS _).choose_spec.2 (bE_one _) (by rw [y1]; omega) (.inl (Nat.zero_le _)) ?_
         simp only [Nat.min_self, Nat.mul_one, Nat.reduceAdd]
         rw [rcX_copy _ _ _ _ hbl]
         obtain ⟨o1, o2, o3, o4⟩ := kid_ld (hR3.c.ext (hB4.trans (hB5.trans hB6))) (i := 3) (by simp)
         simp only [Nat.reduceMul, List.getElem_cons_succ, List.getElem_cons_zero] at o1 o3
         have hA3 := rasList_fn (i3.ext (hB4.trans (hB5.trans hB6))) 0 1073741824 (by omega) (by omega)
         rw [asL_hi hs3.kids] at hA3
         refine next_of 1000 ?_
         repeat' (first | with_reducible refine And.intro (by first | omega | (constructor <;> assumption)) ?_ | simp (maxSteps := 4000000) (disch := omega) only [go_sem, ↓reduceIte, o1, w1, w2, w3, w4, w5, rcX_one, rcX_set0, rcX_set1, rcX_set2, rcX_get0, y1, y2, y3, y4, y5, zrR])
         refine callS_f hA3 (fun _ => by simp [closed, closeds]) (fun v7 B7 hB7 hR7 => next_of 1000 ?_)
         change BExt B6 B7 at hB7
         by_cases hz3 : (asL q3.1 0 many).2 = 0
         ·obtain ⟨tA, tc, qs⟩ := v7
          simp only at hR7
          obtain ⟨ts, hts⟩ : ∃ ts, ts = (asL q3.1 0 many).1 := ⟨_, rfl⟩
          rw [← hts] at hR7
          rw [← hts, hz3]
          have htl : ts.length ≤ 200000 := by rw [hts]; exact (asL_small hs3).1
          have hsk : ∀ k ∈ ts, Sm 200000 k := by rw [hts]; exact (asL_small hs3).2
          have hql : qs.length = ts.length := by rw [← hR7.m, List.length_map]
          repeat' (simp (maxSteps := 4000000) (disch := omega) only [go_sem, ↓reduceIte, w1, w2, w3, w4, w5, rcX_one, rcX_set0, rcX_set1, rcX_set2, rcX_get0, y1, y2, y3, y4, y5, zrR])
          refine loopU (S := Nat × Lst × List LogV × Base) (fun s => s.1 ≤ ts.length ∧ lOk z22 s.1 s.2.1 ∧ BExt B7 s.2.2.2 ∧ (∀ g ∈ s.2.2.1, g.Ok s.2.2.2) ∧ s.2.2.1.length = s.1 ∧ (∀ j (hj : j < s.1) (hj2 : j < ts.length), (logT ts[j]).2 = 0) ∧ s.2.2.1.map LogV.body = (ts.take s.1).map (fun t => (logT t).1))
           (fun s => ⟨[(108, .int .i64 (s.1 : Nat)), (107, .int .i64 (ts.length : Nat)), (106, .raw (.slice tA ts.length tc)), (9, .ptr 2 0), (4, .int .u8 ((0 : UInt8).toNat : Int)), (2, .ptr 0 0), (0, .raw (.slice ad b.length cap))], 4,
            [(3, lO 36 (logsE s.2.2.1) s.2.1), (2, some (.cells (rcX (.int .u8 ((0 : UInt8).toNat : Int)) (.int .i64 (okv : Nat)) (.int .u64 (gas : Nat)) bl (lE 3 s.1 s.2.1)) 45 (0, 0))), (1, some (.cells (itE t s2) 79 (0, 0))), (0, some (.cells (rcX (.int .u8 0) (.int .i64 0) (.int .u64 0) zbl (.raw (.slice none 0 0))) 45 (0, 0)))], s.2.2.2, []⟩)
           (fun s => ts.length - s.1) (0, none, [], B7) ⟨Nat.zero_le _, rfl, BExt.refl _, by simp, rfl, fun j hj => absurd hj (Nat.not_lt_zero j), rfl⟩ (Weak.sub (weak_of (by simp [wσ, go_sem, closed, closeds, lE_closed, eN, oN, cn, EObj.closed, ycl, wcl] <;> omega) (by simp [whs, Go.Ew.hget, go_sem, EObj.closed, closed, closeds, lE_closed, eN, oN, cn, EObj.closed, ycl, wcl]) (by simp [*]) rfl rfl (by simp))) ?_
          rintro ⟨i, l, L', B8⟩ ⟨hi, hl, hB8, hok8, hLl, hzs, hbd⟩
          simp only at hi hl hB8 hok8 hLl hzs hbd ⊢
          replace hR7 := hR7.ext hB8
          rcases Nat.lt_or_ge i ts.length with hi2 | hi2
          ·have cA : decide ((i : Int) < (ts.length : Int)) = true := decide_eq_true (by omega)
           obtain ⟨r1, r2, r3, r4⟩ := kid_ld hR7.c (i := i) (by omega)
           have ik := hR7.ok _ (List.getElem_mem (show i < qs.length by omega))
           have hqi : (qs[i]'(by omega)).1 = ts[i] := by
            have h1 : (qs.map Prod.fst)[i]? = ts[i]? := by rw [hR7.m]
            rw [List.getElem?_map, List.getElem?_eq_getElem (show i < qs.length by omega), List.getElem?_eq_getElem hi2] at h1
            simpa using h1
           have hsi : Sm 200000 ts[i] := hsk _ (List.getElem_mem hi2)
           have htk : (ts.take (i + 1)).map (fun t => (logT t).1) = (ts.take i).map (fun t => (logT t).1) ++ [(logT ts[i]).1] := by rw [List.take_succ_eq_append_getElem hi2, List.map_append]; rfl
           rw [← hqi] at htk hsi
           obtain ⟨q, hq0⟩ : ∃ q, q = qs[i]'(by omega) := ⟨_, rfl⟩
           have hqi' : q.1 = ts[i] := by rw [hq0]; exact hqi
           rw [← hq0] at r1 ik htk hsi
           refine next_of 1000 ?_
           repeat' (first | with_reducible refine And.intro (by first | omega | (constructor <;> assumption) | ((repeat' refine And.intro ?_ ?_) <;> first | omega | assumption | (refine SlOk.so (n := ?_) ?_ ?_; rotate_left; assumption; omega) | (simp; done) | fail)) ?_ | simp (maxSteps := 4000000) (disch := omega) only [go_sem, ↓reduceIte, cA, Int.toNat_natCast, r1, w1, w2, w3, w4, w5, rcX_one, rcX_set0, rcX_set1, rcX_set2, rcX_get0, y1, y2, y3, y4, y5, zrR])
           refine callS_f (rlogr_fn ik hsi) (fun _ => ⟨logE_closed (by simp [closed]) (by simp [closed]), trivial, trivial⟩) (fun g B9 hB9 hR9 => next_of 1000 ?_)
           change BExt B8 B9 at hB9
           obtain ⟨hg, hgb⟩ := hR9
           have f1 : ∀ u v, oneAll (logE g.ad (.raw u) (.raw v)) = (u.oneCell' && v.oneCell') := fun u v => by rw [oneAll_logE]; rfl
           have f2 : ∀ u v, (logE g.ad u v).length = 22 := fun u v => logE_len hg.ha
           have f8 : ∀ u v, List.take 22 (logE g.ad u v) = logE g.ad u v := fun u v => logE_take hg.ha
           have f9 : ∀ u v, ((logE g.ad u v).drop 0).take (1 * z22.length) = logE g.ad u v := fun u v => logE_take hg.ha
           by_cases hze : (logT q.1).2 = 0
           ·rw [hze]
            repeat' (first | with_reducible refine And.intro (by first | omega | (simp; done)) ?_ | simp (maxSteps := 4000000) (disch := omega) only [go_sem, ↓reduceIte, f1, f2, f8, logE_splice hg.ha, w1, w2, w3, w4, w5, rcX_one, rcX_set0, rcX_set1, rcX_set2, rcX_get0, y1, y2, y3, y4, y5, zrR])
            refine appendL (l := l) (xs := logsE L') (zs := z22) (news := g.ev) (T := 36) 3 i rfl Try.underlying22 (.inl ⟨_, Try.underlying22⟩) zr36 cz36 (by simp [z22]) z22_closed rfl rfl rfl hl (by rw [logsE_len hok8, hLl]; rfl) (logsE_closed 0 L') (src_own (m := 1) rfl (f9 _ _)) (by rw [f2]; decide) (by rw [f1]; rfl) (by simp only [maxLen]; omega) (by rw [show Try.prog.bytesOf 36 = 72 from by36]; omega) (fun l2 hl2 => ?_)
            have hl2' := hl2
            obtain ⟨cp, rest, rfl, -⟩ := lst_some hl2 (by omega)
            simp only [lE_some]
            have hev : logsE L' ++ g.ev = logsE (L' ++ [g]) := by
             rw [logsE, logsE, List.flatMap_append, List.flatMap_singleton]
            refine next_of 1000 ?_
            repeat' (first | with_reducible refine And.intro (by omega) ?_ | simp (maxSteps := 4000000) (disch := omega) only [go_sem, ↓reduceIte, hev, w1, w2, w3, w4, w5, rcX_one, rcX_set0, rcX_set1, rcX_set2, rcX_get0, y1, y2, y3, y4, y5, zrR])
            have hok9 : ∀ a ∈ L' ++ [g], a.Ok B9 := fun a ha => by
             rcases List.mem_append.1 ha with h3 | h3
             ·exact (hok8 a h3).ext hB9
             ·obtain rfl := List.mem_singleton.1 h3
              exact hg
            have cl2 : ∀ n, clO n (lO 36 (logsE (L' ++ [g])) (some (cp, rest))) = True := fun n => clO_lO hl2' (logsE_closed 0 _) z22_closed
            have cl3 : ∀ n, clO n (lO 36 (L'.flatMap LogV.ev ++ g.ev) (some (cp, rest))) = True := fun n => by have := cl2 n; rwa [logsE, List.flatMap_append, List.flatMap_singleton] at this
            have hgl : (L' ++ [g]).length = i + 1 := by simp [hLl]
            refine ⟨(i + 1, some (cp, rest), L' ++ [g], B9), ⟨hi2, hl2', hB8.trans hB9, hok9, hgl, fun j hj hj2 => ?_, by rw [htk, List.map_append, hbd, List.map_singleton, hgb hze]⟩, (pack_sub [7] 3 (by simp) (by simp) (by simp) (by simp)).trans ?_, by simp only; omega⟩
            ·rcases Nat.lt_or_ge j i with h3 | h3
             ·exact hzs j h3 hj2
             ·obtain rfl : j = i := by omega
              rw [← hqi']; exact hze
            ·simp only [go_sem, okC, okE, okCs, rcX_okCs, rcX_rens, pkO_some, pkO_lO (ks := [7]) (k := 3) hl2' (logsE_closed 0 (L' ++ [g])) z22_closed, pkO_none, lE_some]
             exact Weak.sub (weak_of (by simp [wσ, go_sem, closed, closeds, lE_closed, cl2, cl3, lE_some, ycl, wcl, wcl5, rcX_okCs, rcX_rens, okC, ren] <;> omega) (by simp [whs, Go.Ew.hget, go_sem, EObj.closed, closed, closeds, lE_closed, cl2, cl3, lE_some, ycl, wcl, wcl5, rcX_okCs, rcX_rens, okC, ren]) (by simp [*]) rfl rfl (by simp))
           ·have hat := errL_at (ts := ts) (i := i) hi2 hzs (by rw [← hqi']; exact hze)
            rw [← hqi'] at hat
            have hEE : recE q0.1 q1.1 q2.1 q3.1 = (logT q.1).2 := by rw [recE, ← hts, hz0', hz1, hz2, hz3, kp_zero, kp_zero, kp_zero, hat]
            rw [hEE, if_pos hze] at hM0
            rw [hM0]
            obtain ⟨E, hE⟩ : ∃ E, E = (logT q.1).2 := ⟨_, rfl⟩
            rw [← hE] at hze ⊢
            have hei : ((E : Nat) : Int) ≠ 0 := by omega
            repeat' (first | simp (maxSteps := 4000000) (disch := omega) only [go_sem, ↓reduceIte, f1, f2, f8, logE_splice hg.ha, w1, w2, w3, w4, w5, rcX_one, rcX_set0, rcX_set1, rcX_set2, rcX_get0, y1, y2, y3, y4, y5, zrR] | ((first | refine condS_split (fun h => ?_) (fun h => ?_) | refine testS_split (fun h => ?_) (fun h => ?_) | refine testT_split (fun h => ?_) (fun h => ?_)) <;> (try simp only [bne_iff_ne, ne_eq, beq_iff_eq, decide_eq_true_eq, decide_eq_false_iff_not, Bool.not_eq_true, Bool.not_eq_false, Bool.not_true, Bool.not_false, bne_eq_false_iff_eq, beq_eq_false_iff_ne, Bool.and_eq_true, Bool.or_eq_true, Bool.and_eq_false_imp, Bool.or_eq_false_iff, Bool.not_eq_true', Bool.not_eq_false', Int.not_lt, Int.not_le] at h) <;> (try (exfalso; omega))))
            first | exact ⟨hB2.trans (hB3.trans (hB4.trans (hB5.trans (hB6.trans (hB7.trans (hB8.trans hB9)))))), ⟨0, 0, 0, blmOf zbl, none, 0, []⟩, by rw [hzE], ⟨rc_closed 0 _, by simp [closed, closeds]⟩, hz0 _, hzb, by decide⟩ | exact ⟨⟨0, 0, 0, blmOf zbl, none, 0, []⟩, by rw [hzE], ⟨rc_closed 0 _, by simp [closed, closeds]⟩, hz0 _, hzb, by decide⟩
          ·obtain rfl : i = ts.length := by omega
           have cA : decide ((ts.length : Int) < (ts.length : Int)) = false := decide_eq_false (by omega)
           rw [List.take_length] at hbd
           refine freezeL (xs := logsE L') (T := 36) 3 ts.length rfl hl (by rw [logsE_len hok8, hLl]; rfl) (logsE_closed 0 _) z22_closed (by simp) (fun b2 fA fc B9 hB9 hf2' hD hso hcell => ?_)
           change BExt B8 B9 at hB9
           have hC : CellsAt B9 fA (L'.flatMap LogV.cells) := cellsAt_frz hD hso (fun h0 => by
            rw [h0] at hLl; rw [List.length_eq_zero_iff.1 hLl]; rfl) hcell (reals_logs _ _)
           have hLA : LogsAt B9 fA L' := ⟨hC, fun g hg => (hok8 g hg).ext hB9, by omega⟩
           simp only [frzσ, frz, rcX_frzs, hf2', frzh_cons, frzh_nil, Nat.reduceEqDiff, if_false, if_true, ↓reduceIte, fzO_some, EObj.frz, frzs]
           have hBX := hB2.trans (hB3.trans (hB4.trans (hB5.trans (hB6.trans (hB7.trans (hB8.trans hB9))))))
           have hEE : recE q0.1 q1.1 q2.1 q3.1 = 0 := by rw [recE, ← hts, hz0', hz1, hz2, hz3, kp_zero, kp_zero, kp_zero, errL_none (fun j hj2 => hzs j hj2 hj2)]
           rw [hEE, if_neg (by simp)] at hM0
           have hrv : rcX (.int .u8 ((0 : UInt8).toNat : Int)) (.int .i64 (okv : Nat)) (.int .u64 (gas : Nat)) bl (.raw (.slice fA ts.length fc)) = rcE ⟨0, okv, gas, blmOf bl, fA, fc, L'⟩ := by rw [← hLl]; exact rcX_rc 0 okv gas hbl fA fc L'
           have hbody : (⟨0, okv, gas, blmOf bl, fA, fc, L'⟩ : RcV).body = recB 0 q0.1 q1.1 q2.1 q3.1 := by
            simp only [RcV.body, blmOf_bytes hbl]
            rw [recB, hbd, hok, ← hgas, ← hts, hfx]
           have hmy := rgood_fn (r := ⟨0, okv, gas, blmOf bl, fA, fc, L'⟩) hLA
           rw [mayR_body, hbody, ← hrv] at hmy
           have w6 := fun a b c v a' b' c' v' => rcX_splice a b c v zbl_len a' b' c' v' hbl
           have hbX := hb.ext hBX
           have u1 := hbX.ld 0 (by omega)
           have u2 := hbX.lS 0 (by omega)
           have u3 := hbX.lD (by omega)
           have u5 : rawCell B9 (adrAt ad 0) = .int .u8 (((b.getD 0 0).toNat : Nat) : Int) := by rw [u1, bE]
           refine next_of 1000 ?_
           cases hmm : mayM (recB 0 q0.1 q1.1 q2.1 q3.1) with
           | false =>
            rw [hmm] at hmy hM0
            rw [if_pos (by simp)] at hM0
            rw [hM0]
            repeat' (first | with_reducible refine And.intro (by omega) ?_ | simp (maxSteps := 4000000) (disch := omega) only [go_sem, ↓reduceIte, cA, w6, w1, w2, w3, w4, w5, rcX_one, rcX_set0, rcX_set1, rcX_set2, rcX_get0, y1, y2, y3, y4, y5, zrR] | refine callS_fp (hmy) (by simp [closed, closeds, closeds_ints, closed_wE]) (next_of 1000 ?_) | with_reducible refine next_of 1000 ?_)
            first | exact ⟨hBX, ⟨0, 0, 0, blmOf zbl, none, 0, []⟩, by rw [hzE], ⟨rc_closed 0 _, by simp [closed, closeds]⟩, hz0 _, hzb, by decide⟩ | exact ⟨⟨0, 0, 0, blmOf zbl, none, 0, []⟩, by rw [hzE], ⟨rc_closed 0 _, by simp [closed, closeds]⟩, hz0 _, hzb, by decide⟩
           | true =>
            rw [hmm] at hmy hM0
            rw [if_neg (by simp)] at hM0
            rw [hM0]
            have cz : (((b.getD 0 0).toNat : Int) == 0) = false := by rw [beq_eq_false_iff_ne]; omega
            have cyt : ((((0 : UInt8).toNat : Nat) : Int) == 0) = true := rfl
            repeat' (first | with_reducible refine And.intro (by first | omega | (constructor <;> assumption) | ((repeat' refine And.intro ?_ ?_) <;> first | omega | assumption | (refine SlOk.so (n := ?_) ?_ ?_; rotate_left; assumption; omega) | (simp; done) | fail)) ?_ | simp (maxSteps := 4000000) (disch := omega) only [go_sem, ↓reduceIte, cA, u5, cz, cyt, w6, w1, w2, w3, w4, w5, rcX_one, rcX_set0, rcX_set1, rcX_set2, rcX_get0, y1, y2, y3, y4, y5, zrR] | refine callS_fp (hmy) (by simp [closed, closeds, closeds_ints, closed_wE]) (next_of 1000 ?_) | with_reducible refine next_of 1000 ?_)
            rw [hrv]
            first | exact ⟨hBX, _, rfl, ⟨rc_closed 0 _, by simp [closed, closeds]⟩, hLA, hbody, hn1⟩ | exact ⟨_, rfl, ⟨rc_closed 0 _, by simp [closed, closeds]⟩, hLA, hbody, hn1⟩
         ·have hEE : recE q0.1 q1.1 q2.1 q3.1 = (asL q3.1 0 many).2 := by rw [recE, hz0', hz1, hz2, kp_zero, kp_zero, kp_zero, errL_ne hz3]
          rw [hEE, if_pos hz3] at hM0
          rw [hM0]
          obtain ⟨E, hE⟩ : ∃ E, E = (asL q3.1 0 many).2 := ⟨_, rfl⟩
          rw [← hE] at hz3 ⊢
          have hei : ((E : Nat) : Int) ≠ 0 := by omega
          repeat' (first | simp (maxSteps := 4000000) (disch := omega) only [go_sem, ↓reduceIte, w1, w2, w3, w4, w5, rcX_one, rcX_set0, rcX_set1, rcX_set2, rcX_get0, y1, y2, y3, y4, y5, zrR] | ((first | refine condS_split (fun h => ?_) (fun h => ?_) | refine testS_split (fun h => ?_) (fun h => ?_) | refine testT_split (fun h => ?_) (fun h => ?_)) <;> (try simp only [bne_iff_ne, ne_eq, beq_iff_eq, decide_eq_true_eq, decide_eq_false_iff_not, Bool.not_eq_true, Bool.not_eq_false, Bool.not_true, Bool.not_false, bne_eq_false_iff_eq, beq_eq_false_iff_ne, Bool.and_eq_true, Bool.or_eq_true, Bool.and_eq_false_imp, Bool.or_eq_false_iff, Bool.not_eq_true', Bool.not_eq_false', Int.not_lt, Int.not_le] at h) <;> (try (exfalso; omega))))
          first | exact ⟨hB2.trans (hB3.trans (hB4.trans (hB5.trans (hB6.trans hB7)))), ⟨0, 0, 0, blmOf zbl, none, 0, []⟩, by rw [hzE], ⟨rc_closed 0 _, by simp [closed, closeds]⟩, hz0 _, hzb, by decide⟩ | exact ⟨⟨0, 0, 0, blmOf zbl, none, 0, []⟩, by rw [hzE], ⟨rc_closed 0 _, by simp [closed, closeds]⟩, hz0 _, hzb, by decide⟩
        ·have hEE : recE q0.1 q1.1 q2.1 q3.1 = (asB q2.1 256 256).2 := by rw [recE, hz0', hz1, kp_zero, kp_zero, kp_ne hz2, errL_ne hz2]
         rw [hEE, if_pos hz2] at hM0
         rw [hM0]
         obtain ⟨E, hE⟩ : ∃ E, E = (asB q2.1 256 256).2 := ⟨_, rfl⟩
         rw [← hE] at hz2 ⊢
         have hei : ((E : Nat) : Int) ≠ 0 := by omega
         repeat' (first | simp (maxSteps := 4000000) (disch := omega) only [go_sem, ↓reduceIte, rcX_one, rcX_set0, rcX_set1, rcX_set2, rcX_get0, y1, y2, y3, y4, y5, zrR] | ((first | refine condS_split (fun h => ?_) (fun h => ?_) | refine testS_split (fun h => ?_) (fun h => ?_) | refine testT_split (fun h => ?_) (fun h => ?_)) <;> (try simp only [bne_iff_ne, ne_eq, beq_iff_eq, decide_eq_true_eq, decide_eq_false_iff_not, Bool.not_eq_true, Bool.not_eq_false, Bool.not_true, Bool.not_false, bne_eq_false_iff_eq, beq_eq_false_iff_ne, Bool.and_eq_true, Bool.or_eq_true, Bool.and_eq_false_imp, Bool.or_eq_false_iff, Bool.not_eq_true', Bool.not_eq_false', Int.not_lt, Int.not_le] at h) <;> (try (exfalso; omega))))
         first | exact ⟨hB2.trans (hB3.trans (hB4.trans (hB5.trans hB6))), ⟨0, 0, 0, blmOf zbl, none, 0, []⟩, by rw [hzE], ⟨rc_closed 0 _, by simp [closed, closeds]⟩, hz0 _, hzb, by decide⟩ | exact ⟨⟨0, 0, 0, blmOf zbl, none, 0, []⟩, by rw [hzE], ⟨rc_closed 0 _, by simp [closed, closeds]⟩, hz0 _, hzb, by decide⟩
       ·refine next_of 1000 ?_
        have hEE : recE q0.1 q1.1 q2.1 q3.1 = (asN q1.1).2 := by rw [recE, hz0', kp_zero, kp_ne hz1, kp_ne hz1, errL_ne hz1]
        rw [hEE, if_pos hz1] at hM0
        rw [hM0]
        obtain ⟨E, hE⟩ : ∃ E, E = (asN q1.1).2 := ⟨_, rfl⟩
        rw [← hE] at hz1 ⊢
        have hei : ((E : Nat) : Int) ≠ 0 := by omega
        repeat' (first | with_reducible refine And.intro (by omega) ?_ | simp (maxSteps := 4000000) (disch := omega) only [go_sem, ↓reduceIte, rcX_one, rcX_set0, rcX_set1, rcX_set2, rcX_get0, y1, y2, y3, y4, y5, zrR] | ((first | refine condS_split (fun h => ?_) (fun h => ?_) | refine testS_split (fun h => ?_) (fun h => ?_) | refine testT_split (fun h => ?_) (fun h => ?_)) <;> (try simp only [bne_iff_ne, ne_eq, beq_iff_eq, decide_eq_true_eq, decide_eq_false_iff_not, Bool.not_eq_true, Bool.not_eq_false, Bool.not_true, Bool.not_false, bne_eq_false_iff_eq, beq_eq_false_iff_ne, Bool.and_eq_true, Bool.or_eq_true, Bool.and_eq_false_imp, Bool.or_eq_false_iff, Bool.not_eq_true', Bool.not_eq_false', Int.not_lt, Int.not_le] at h) <;> (try (exfalso; omega))))
        first | exact ⟨hB2.trans (hB3.trans (hB4.trans hB5)), ⟨0, 0, 0, blmOf zbl, none, 0, []⟩, by rw [hzE], ⟨rc_closed 0 _, by simp [closed, closeds]⟩, hz0 _, hzb, by decide⟩ | exact ⟨⟨0, 0, 0, blmOf zbl, none, 0, []⟩, by rw [hzE], ⟨rc_closed 0 _, by simp [closed, closeds]⟩, hz0 _, hzb, by decide⟩
     ·have hEE : recE q0.1 q1.1 q2.1 q3.1 = (asN q0.1).2 := by rw [recE, kp_ne hz0', kp_ne hz0', kp_ne hz0', errL_ne hz0']
      rw [hEE, if_pos hz0'] at hM0
      rw [hM0]
      obtain ⟨E, hE⟩ : ∃ E, E = (asN q0.1).2 := ⟨_, rfl⟩
      rw [← hE] at hz0' ⊢
      have hei : ((E : Nat) : Int) ≠ 0 := by omega
      repeat' (first | simp (maxSteps := 4000000) (disch := omega) only [go_sem, ↓reduceIte, rcX_one, rcX_set0, rcX_set1, rcX_set2, rcX_get0, y1, y2, y3, y4, y5, zrR] | ((first | refine condS_split (fun h => ?_) (fun h => ?_) | refine testS_split (fun h => ?_) (fun h => ?_) | refine testT_split (fun h => ?_) (fun h => ?_)) <;> (try simp only [bne_iff_ne, ne_eq, beq_iff_eq, decide_eq_true_eq, decide_eq_false_iff_not, Bool.not_eq_true, Bool.not_eq_false, Bool.not_true, Bool.not_false, bne_eq_false_iff_eq, beq_eq_false_iff_ne, Bool.and_eq_true, Bool.or_eq_true, Bool.and_eq_false_imp, Bool.or_eq_false_iff, Bool.not_eq_true', Bool.not_eq_false', Int.not_lt, Int.not_le] at h) <;> (try (exfalso; omega))))
      first | exact ⟨hB2.trans (hB3.trans hB4), ⟨0, 0, 0, blmOf zbl, none, 0, []⟩, by rw [hzE], ⟨rc_closed 0 _, by simp [closed, closeds]⟩, hz0 _, hzb, by decide⟩ | exact ⟨⟨0, 0, 0, blmOf zbl, none, 0, []⟩, by rw [hzE], ⟨rc_closed 0 _, by simp [closed, closeds]⟩, hz0 _, hzb, by decide⟩
    ·have hM : recT 0 true t = (zRc, (asL t 4 4).2) := by rw [recT, if_pos hz]
     rw [hM] at hM0
     rw [hM0]
     obtain ⟨E, hE0⟩ : ∃ E, E = (asL t 4 4).2 := ⟨_, rfl⟩
     rw [← hE0] at hz ⊢
     have hei : ((E : Nat) : Int) ≠ 0 := by omega
     repeat' (first | simp (maxSteps := 4000000) (disch := omega) only [go_sem, ↓reduceIte, rcX_one, rcX_set0, rcX_set1, rcX_set2, rcX_get0, y1, y2, y3, y4, y5, zrR] | ((first | refine condS_split (fun h => ?_) (fun h => ?_) | refine testS_split (fun h => ?_) (fun h => ?_) | refine testT_split (fun h => ?_) (fun h => ?_)) <;> (try simp only [bne_iff_ne, ne_eq, beq_iff_eq, decide_eq_true_eq, decide_eq_false_iff_not, Bool.not_eq_true, Bool.not_eq_false, Bool.not_true, Bool.not_false, bne_eq_false_iff_eq, beq_eq_false_iff_ne, Bool.and_eq_true, Bool.or_eq_true, Bool.and_eq_false_imp, Bool.or_eq_false_iff, Bool.not_eq_true', Bool.not_eq_false', Int.not_lt, Int.not_le] at h) <;> (try (exfalso; omega))))
     first | exact ⟨hB2.trans hB3, ⟨0, 0, 0, blmOf zbl, none, 0, []⟩, by rw [hzE], ⟨rc_closed 0 _, by simp [closed, closeds]⟩, hz0 _, hzb, by decide⟩ | exact ⟨⟨0, 0, 0, blmOf zbl, none, 0, []⟩, by rw [hzE], ⟨rc_closed 0 _, by simp [closed, closeds]⟩, hz0 _, hzb, by decide⟩
   ·rw [if_pos he] at hM0
    rw [hM0]
    have hei : ((e : Nat) : Int) ≠ 0 := by omega
    repeat' (first | with_reducible refine And.intro (by omega) ?_ | simp (maxSteps := 4000000) (disch := omega) only [go_sem, ↓reduceIte, rcX_one, rcX_set0, rcX_set1, rcX_set2, rcX_get0, y1, y2, y3, y4, y5, zrR] | ((first | refine condS_split (fun h => ?_) (fun h => ?_) | refine testS_split (fun h => ?_) (fun h => ?_) | refine testT_split (fun h => ?_) (fun h => ?_)) <;> (try simp only [bne_iff_ne, ne_eq, beq_iff_eq, decide_eq_true_eq, decide_eq_false_iff_not, Bool.not_eq_true, Bool.not_eq_false, Bool.not_true, Bool.not_false, bne_eq_false_iff_eq, beq_eq_false_iff_ne, Bool.and_eq_true, Bool.or_eq_true, Bool.and_eq_false_imp, Bool.or_eq_false_iff, Bool.not_eq_true', Bool.not_eq_false', Int.not_lt, Int.not_le] at h) <;> (try (exfalso; omega))))
    first | exact ⟨hB2, ⟨0, 0, 0, blmOf zbl, none, 0, []⟩, by rw [hzE], ⟨rc_closed 0 _, by simp [closed, closeds]⟩, hz0 _, hzb, by decide⟩ | exact ⟨⟨0, 0, 0, blmOf zbl, none, 0, []⟩, by rw [hzE], ⟨rc_closed 0 _, by simp [closed, closeds]⟩, hz0 _, hzb, by decide⟩
end Go.Proofs.Ytepabkjfnpaijaa
