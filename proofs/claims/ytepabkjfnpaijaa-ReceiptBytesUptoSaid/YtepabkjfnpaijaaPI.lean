/- Part of a proof over the seat Ytepabkjfnpaijaa. -/
import Derived.Test.YtepabkjfnpaijaaG15
set_option linter.unusedSimpArgs false
set_option linter.unusedVariables false
set_option maxRecDepth 100000
namespace Go.Proofs.Ytepabkjfnpaijaa
open Go RowKit Go.Ew
set_option maxHeartbeats 8000000
attribute [-go_sem] zr45
theorem decR_fn (b : List UInt8) (n : Nat) (B : Base) (ad : Option Addr) (cap : Nat) (hb : BytesAt B ad b) (hn : b.length = n) (hcap : n ≤ cap) (hc : n ≤ 1099511627776) (hsm : n ≤ 200000) :
  Does Try.prog 21 [.raw (.slice ad n cap)] B (fun r : RcV => .tup [.agg (rcE r), .int .i64 ((recD b).2 : Nat)]) (fun r B' => LogsAt B' r.lA r.L ∧ r.body = (recD b).1 ∧ r.gas < 18446744073709551616) := by
 subst hn
 refine fn_of en21 (fun s B B' hB hR => ⟨hR.1.ext hB, hR.2⟩) Try.func21 rfl in21 (by simp [Try.f21]) (by simp [closeds, closed]) (fun B0 hB0 => next_of 1000 ?_)
 replace hb := hb.ext hB0
 have hz0 : ∀ B : Base, LogsAt B (⟨0, 0, 0, blmOf zbl, none, 0, []⟩ : RcV).lA (⟨0, 0, 0, blmOf zbl, none, 0, []⟩ : RcV).L := fun B => ⟨CellsAt.nil _, by simp, by simp⟩
 have hzb : (⟨0, 0, 0, blmOf zbl, none, 0, []⟩ : RcV).body = zRc := by simp only [RcV.body, blmOf_bytes zbl_len, zRc]; rfl
 have hzE : rcX (.int .u8 0) (.int .i64 0) (.int .u64 0) zbl (.raw (.slice none 0 0)) = rcE ⟨0, 0, 0, blmOf zbl, none, 0, []⟩ := rcX_rc 0 0 0 zbl_len none 0 []
 have y1 := fun a b c v => rcX_len a b c v zbl_len
 have y2 := fun a b c v => rcX_set259 a b c v zbl_len
 have y3 := fun a b c v => rcX_259 a b c v zbl_len
 have y4 := fun a b c v => rcX_take a b c v zbl_len
 have y5 := fun a b c v a' b' c' v' => rcX_splice a b c v zbl_len a' b' c' v' zbl_len
 have ycl : ∀ n (a b c : Int) (v : Value), closeds n (rcX (.int .u8 a) (.int .i64 b) (.int .u64 c) zbl (.raw v)) := fun n a b c v => rcX_closed (by simp [closed]) (by simp [closed]) (by simp [closed]) (by simp [closed])
 by_cases h0 : b = []
 ·subst h0
  have hM : recD [] = recP 0 true [] := by simp [recD]
  have hb0 : BytesAt B0 ad [] := hb
  rw [hM]
  repeat' (simp (maxSteps := 4000000) (disch := omega) only [go_sem, ↓reduceIte, Try.f21, List.length_nil, rcX_one, rcX_set0, rcX_set1, rcX_set2, rcX_get0, y1, y2, y3, y4, y5, zrR])
  refine callS_f (decodeI_fn [] 0 B0 ad cap hb0 rfl (Nat.zero_le _) (Nat.zero_le _)) (fun _ => by simp [closed, closeds]) (fun s2 B2 hB2 hR2 => next_of 1000 ?_)
  change BExt B0 B2 at hB2
  have e1 : DecM [] = (zI, 41) := by with_unfolding_all rfl
  rw [recP, e1, if_pos (by simp)]
  rw [e1] at hR2
  repeat' (first | with_reducible refine And.intro (by omega) ?_ | simp (maxSteps := 4000000) (disch := omega) only [go_sem, ↓reduceIte, rcX_one, rcX_set0, rcX_set1, rcX_set2, rcX_get0, y1, y2, y3, y4, y5, zrR])
  first | exact ⟨hB2, ⟨0, 0, 0, blmOf zbl, none, 0, []⟩, by rw [hzE], ⟨rc_closed 0 _, by simp [closed, closeds]⟩, hz0 _, hzb, by decide⟩ | exact ⟨⟨0, 0, 0, blmOf zbl, none, 0, []⟩, by rw [hzE], ⟨rc_closed 0 _, by simp [closed, closeds]⟩, hz0 _, hzb, by decide⟩
 ·have hlen : 1 ≤ b.length := by
   rcases Nat.eq_zero_or_pos b.length with h1 | h1
   ·exact absurd (List.length_eq_zero_iff.1 h1) h0
   ·exact h1
  have c0 : decide ((0 : Int) < (b.length : Int)) = true := decide_eq_true (by omega)
  have m1 := hb.ld 0 (by omega)
  have m2 := hb.lS 0 (by omega)
  have m3 := hb.lD (by omega)
  have m4 := hb.ok.so (by omega)
  obtain ⟨z, hz⟩ : ∃ z, z = (b.getD 0 0).toNat := ⟨_, rfl⟩
  have m5 : rawCell B0 (adrAt ad 0) = .int .u8 (z : Int) := by rw [m1, bE, hz]
  have hz2 : z < 256 := by rw [hz]; exact (b.getD 0 0).toNat_lt
  by_cases h1 : z < 128
  ·have hMD : recD b = recP (b.getD 0 0) false (b.drop 1) := by rw [recD, if_pos ⟨h0, by omega⟩]
   rw [hMD]
   have c1 : decide ((z : Int) < 128) = true := decide_eq_true (by omega)
   have hbz : bE (b.getD 0 0) = .int .u8 (((b.getD 0 0).toNat : Nat) : Int) := rfl
   obtain ⟨ty, hty⟩ : ∃ ty, ty = b.getD 0 0 := ⟨_, rfl⟩
   have hop := open_fn b b.length B0 ad cap hb rfl hcap hc hlen (by omega)
   rw [← hty] at hop hbz ⊢
   rw [hbz] at hop
   repeat' (first | with_reducible refine And.intro (by first | omega | (constructor <;> assumption) | ((repeat' refine And.intro ?_ ?_) <;> first | omega | assumption | (refine SlOk.so (n := ?_) ?_ ?_; rotate_left; assumption; omega) | (simp; done) | fail)) ?_ | simp (maxSteps := 4000000) (disch := omega) only [go_sem, ↓reduceIte, Try.f21, m5, c0, c1, rcX_one, rcX_set0, rcX_set1, rcX_set2, rcX_get0, y1, y2, y3, y4, y5, zrR])
   refine callS_f hop (fun _ => by simp [closed, closeds]) (fun s1 B1 hB1 hR1 => next_of 1000 ?_)
   change BExt B0 B1 at hB1
   obtain ⟨hbp, hpc⟩ := hR1
   have hdl : (b.drop 1).length = b.length - 1 := List.length_drop
   have hty2 := ty.toNat_lt
   repeat' (first | with_reducible refine And.intro (by omega) ?_ | simp (maxSteps := 4000000) (disch := omega) only [go_sem, ↓reduceIte, rcX_one, rcX_set0, rcX_set1, rcX_set2, rcX_get0, y1, y2, y3, y4, y5, zrR])
   rw [← hdl]
   refine callS_f (decodeI_fn (b.drop 1) _ B1 s1.1 s1.2 hbp rfl (by omega) (by omega)) (fun _ => by simp [closed, closeds]) (fun s2 B2 hB2 hR2 => next_of 1000 ?_)
   change BExt B1 B2 at hB2
   have hsI := DecM_sm (b := (b.drop 1)) (N := 200000) (by omega)
   have her := DecM_err (b.drop 1)
   have hM0 : recP ty false (b.drop 1) = if (DecM (b.drop 1)).2 ≠ 0 then (zRc, (DecM (b.drop 1)).2) else recT ty false (DecM (b.drop 1)).1 := rfl
   obtain ⟨RR, hRR⟩ : ∃ RR, RR = recP ty false (b.drop 1) := ⟨_, rfl⟩
   rw [← hRR] at hM0 ⊢
   obtain ⟨t, e, hq⟩ : ∃ t e, DecM (b.drop 1) = (t, e) := ⟨_, _, rfl⟩
   rw [hq] at hR2 hsI her hM0
   simp only at hR2 hsI her hM0
   rw [hq]
   by_cases he : e = 0
   ·subst he
    rw [if_neg (by simp)] at hM0
    repeat' (simp (maxSteps := 4000000) (disch := omega) only [go_sem, ↓reduceIte, rcX_one, rcX_set0, rcX_set1, rcX_set2, rcX_get0, y1, y2, y3, y4, y5, zrR])
    refine callS_t 3 (rlist_fn hR2 0 4 4 (by omega) (Nat.le_refl _)) rfl (fun _ => by simp [closed, closeds]) (rdO_closed _) (rdO_closed _) (fun u B3 hB3 hR3 => next_of 1000 ?_)
    change BExt B2 B3 at hB3
    rw [kp_zero]
    by_cases hz : (asL t 4 4).2 = 0
    ·obtain ⟨hk1, hk2⟩ := asL_ok hz
     obtain ⟨k0, k1, k2, k3, hks⟩ := four_of hk2
     have hM : recT ty false t = if recE k0 k1 k2 k3 ≠ 0 then (zRc, recE k0 k1 k2 k3) else if !mayM (recB ty k0 k1 k2 k3) || (!false && decide (ty = 0)) then (zRc, 190) else (recB ty k0 k1 k2 k3, 0) := by rw [recT, if_neg (by omega), hks] <;> rfl
     rw [hM] at hM0
     obtain ⟨kA, kc, qs⟩ := u
     simp only at hR3
     have hqm := hR3.m
     rw [hk1, hks] at hqm
     obtain ⟨q0, q1, q2, q3, rfl⟩ := four_of (l := qs) (by have := congrArg List.length hqm; simpa using this)
     simp only [List.map_cons, List.map_nil, List.cons.injEq, and_true] at hqm
     obtain ⟨rfl, rfl, rfl, rfl⟩ := hqm
     have i0 := hR3.ok q0 (by simp)
     have i1 := hR3.ok q1 (by simp)
     have i2 := hR3.ok q2 (by simp)
     have i3 := hR3.ok q3 (by simp)
     have hs3 : Sm 200000 q3.1 := hsI.kid (by rw [hks]; simp)
     obtain ⟨d1, d2, d3, d4⟩ := kid_ld hR3.c (i := 0) (by simp)
     simp only [Nat.zero_mul, List.getElem_cons_zero] at d1 d3
     rw [hz]
     have hl4 : (asL t 4 4).1.length = 4 := by rw [hk1, hk2]
     rw [hl4]
     repeat' (first | with_reducible refine And.intro (by first | omega | (constructor <;> assumption)) ?_ | simp (maxSteps := 4000000) (disch := omega) only [go_sem, ↓reduceIte, d1, rcX_one, rcX_set0, rcX_set1, rcX_set2, rcX_get0, y1, y2, y3, y4, y5, zrR])
     refine callS_t 3 (rnumber_fn i0 0) rfl (fun _ => by simp [closed, closeds]) (rdO_closed _) (rdO_closed _) (fun _ B4 hB4 _ => next_of 1000 ?_)
     change BExt B3 B4 at hB4
     rw [kp_zero]
     have hn0 := asN_lt q0.1
     have hn1 := asN_lt q1.1
     have hmin : (if (2 : Int) < (((asN q0.1).1 : Nat) : Int) then (2 : Int) else (((asN q0.1).1 : Nat) : Int)) = ((min (asN q0.1).1 2 : Nat) : Int) := by
      split <;> omega
     have hm2 : min (asN q0.1).1 2 ≤ 2 := Nat.min_le_right _ _
     obtain ⟨okv, hok⟩ : ∃ okv, okv = min (asN q0.1).1 2 := ⟨_, rfl⟩
     rw [← hok] at hmin hm2
     obtain ⟨m1, m2, m3, m4⟩ := kid_ld (hR3.c.ext hB4) (i := 1) (by simp)
     simp only [Nat.one_mul, List.getElem_cons_succ, List.getElem_cons_zero] at m1 m3
     repeat' (first | with_reducible refine And.intro (by first | omega | (constructor <;> assumption)) ?_ | simp (maxSteps := 4000000) (disch := omega) only [go_sem, ↓reduceIte, m1, hmin, rcX_one, rcX_set0, rcX_set1, rcX_set2, rcX_get0, y1, y2, y3, y4, y5, zrR])
     refine callS_t 3 (rnumber_fn (i1.ext hB4) (asN q0.1).2) rfl (fun _ => by simp [closed, closeds]) (rdO_closed _) (rdO_closed _) (fun _ B5 hB5 _ => next_of 1000 ?_)
     change BExt B4 B5 at hB5
     obtain ⟨n1, n2, n3, n4⟩ := kid_ld (hR3.c.ext (hB4.trans hB5)) (i := 2) (by simp)
     simp only [Nat.reduceMul, List.getElem_cons_succ, List.getElem_cons_zero] at n1 n3
     repeat' (first | with_reducible refine And.intro (by first | omega | (constructor <;> assumption) | (simp; done)) ?_ | simp (maxSteps := 4000000) (disch := omega) only [go_sem, ↓reduceIte, n1, rcX_one, rcX_set0, rcX_set1, rcX_set2, rcX_get0, y1, y2, y3, y4, y5, zrR] | with_reducible refine drawT_of (id := 17) [0, 1, 2, 3, 4, 5, 6, 7] mixed (by kernel_rfl) (by simp) (fun hin => dt_of 1000 hin ?_))
     refine callT_t 3 (rbytes_fn (i2.ext (hB4.trans hB5)) (kp (asN q0.1).2 (asN q1.1).2) 256 256 (by omega) (Nat.le_refl _)) rfl (fun _ => by simp [closed]) (rdO_closed _) (rdO_closed _) (by kernel_rfl) (ck_of (by kernel_rfl) (nmT_of (by kernel_rfl))) (fun hin2 s6 B6 hB6 hR6 => dt_of 1000 hin2 ?_)
     change BExt B5 B6 at hB6
     repeat' (simp (maxSteps := 4000000) (disch := omega) only [go_sem, ↓reduceIte, rcX_one, rcX_set0, rcX_set1, rcX_set2, rcX_get0, y1, y2, y3, y4, y5, zrR])
     refine copyT (m := (asB q2.1 256 256).1.length) (news := (asB q2.1 256 256).1.map bE) rfl Try.underlying23 cz5 ⟨_, Try.underlying5⟩ rfl rfl rfl (fun B hs hB => (hR6.1.ext hB).src hs) (bE_one _) (by rw [y1]; omega) (.inl (Nat.zero_le _)) (rcX_bloom _ _ _ _ zbl_len q2.1 rfl) (fun hin3 => dt_of 1000 hin3 ?_)
     obtain ⟨bl, hbl0⟩ : ∃ bl, bl = fixB 256 q2.1 := ⟨_, rfl⟩
     have hbl : bl.length = 256 := by rw [hbl0]; exact fixB_len 256 _
     rw [← hbl0]
     have w1 := fun a b c v => rcX_len a b c v hbl
     have w2 := fun a b c v => rcX_set259 a b c v hbl
     have w3 := fun a b c v => rcX_259 a b c v hbl
     have w4 := fun a b c v => rcX_take a b c v hbl
     have w5 := fun a b c v a' b' c' v' => rcX_splice a b c v zbl_len a' b' c' v' hbl
     have wcl : ∀ n (a b c : Int) (v : Value), closeds n (rcX (.int .u8 a) (.int .i64 b) (.int .u64 c) bl (.raw v)) := fun n a b c v => rcX_closed (by simp [closed]) (by simp [closed]) (by simp [closed]) (by simp [closed])
     have wcl5 : ∀ (a b c : Int) (r l : Nat), closeds 5 (rcX (.int .u8 a) (.int .i64 b) (.int .u64 c) bl (.sl 4 0 r l)) := fun a b c r l => rcX_closed (by simp [closed]) (by simp [closed]) (by simp [closed]) (by simp [closed])
     repeat' (first | with_reducible refine And.intro (by omega) ?_ | simp (maxSteps := 4000000) (disch := omega) only [go_sem, ↓reduceIte, w1, w2, w3, w4, w5, rcX_one, rcX_set0, rcX_set1, rcX_set2, rcX_get0, y1, y2, y3, y4, y5, zrR] | with_reducible refine endT_of (by kernel_rfl) (nmT_of (by kernel_rfl)) (next_of 1000 ?_))
     obtain ⟨p1, p2, p3, p4⟩ := kid_ld (hR3.c.ext (hB4.trans (hB5.trans hB6))) (i := 3) (by simp)
     simp only [Nat.reduceMul, List.getElem_cons_succ, List.getElem_cons_zero] at p1 p3
     repeat' (first | with_reducible refine And.intro (by first | omega | (constructor <;> assumption)) ?_ | simp (maxSteps := 4000000) (disch := omega) only [go_sem, ↓reduceIte, p1, w1, w2, w3, w4, w5, rcX_one, rcX_set0, rcX_set1, rcX_set2, rcX_get0, y1, y2, y3, y4, y5, zrR])
     refine callS_t 3 (rlist_fn (i3.ext (hB4.trans (hB5.trans hB6))) (kp (kp (asN q0.1).2 (asN q1.1).2) (asB q2.1 256 256).2) 0 many (Nat.le_refl _) (Nat.zero_le _)) rfl (fun _ => by simp [closed, closeds]) (rdO_closed _) (rdO_closed _) (fun v7 B7 hB7 hR7 => next_of 1000 ?_)
     change BExt B6 B7 at hB7
     obtain ⟨tA, tc, qs⟩ := v7
     simp only at hR7
     obtain ⟨ts, hts⟩ : ∃ ts, ts = (asL q3.1 0 many).1 := ⟨_, rfl⟩
     obtain ⟨e1, he1⟩ : ∃ e1, e1 = kp (kp (kp (asN q0.1).2 (asN q1.1).2) (asB q2.1 256 256).2) (asL q3.1 0 many).2 := ⟨_, rfl⟩
     rw [← hts] at hR7
     rw [← hts, ← he1]
     have htl : ts.length ≤ 200000 := by rw [hts]; exact (asL_small hs3).1
     have hsk : ∀ k ∈ ts, Sm 200000 k := by rw [hts]; exact (asL_small hs3).2
     have hql : qs.length = ts.length := by rw [← hR7.m, List.length_map]
     obtain ⟨gas, hgas⟩ : ∃ gas, gas = (asN q1.1).1 := ⟨_, rfl⟩
     rw [← hgas] at hn1 ⊢
     repeat' (simp (maxSteps := 4000000) (disch := omega) only [go_sem, ↓reduceIte, w1, w2, w3, w4, w5, rcX_one, rcX_set0, rcX_set1, rcX_set2, rcX_get0, y1, y2, y3, y4, y5, zrR])
     refine loopU (S := Nat × Lst × List LogV × Base) (fun s => s.1 ≤ ts.length ∧ lOk z22 s.1 s.2.1 ∧ BExt B7 s.2.2.2 ∧ (∀ g ∈ s.2.2.1, g.Ok s.2.2.2) ∧ s.2.2.1.length = s.1 ∧ (errL (ts.take s.1) e1 = 0 → s.2.2.1.map LogV.body = (ts.take s.1).map (fun t => (logT t).1)))
      (fun s => ⟨[(86, .int .i64 (s.1 : Nat)), (85, .int .i64 (ts.length : Nat)), (84, .raw (.slice tA ts.length tc)), (5, .bool false), (11, .ptr 3 0), (4, .ptr 1 0), (2, .ptr 0 0)], 5,
       [(4, lO 36 (logsE s.2.2.1) s.2.1), (3, some (rdO (errL (ts.take s.1) e1))), (1, some (.cells (rcX (.int .u8 ((ty : UInt8).toNat : Int)) (.int .i64 (okv : Int)) (.int .u64 (gas : Int)) bl (lE 4 s.1 s.2.1)) 45 (0, 0))), (0, some (.cells (rcX (.int .u8 0) (.int .i64 0) (.int .u64 0) zbl (.raw (.slice none 0 0))) 45 (0, 0)))], s.2.2.2, []⟩)
      (fun s => ts.length - s.1) (0, none, [], B7) ⟨Nat.zero_le _, rfl, BExt.refl _, by simp, rfl, fun _ => rfl⟩ (Weak.sub (weak_of (by simp [wσ, go_sem, closed, closeds, lE_closed, lE, lO, clO, EObj.closed, errL, ycl, wcl] <;> omega) (by simp [whs, Go.Ew.hget, go_sem, EObj.closed, closed, closeds, lE_closed, lE, lO, clO, EObj.closed, errL, ycl, wcl]) (by simp [*]) rfl rfl (by simp))) ?_
     rintro ⟨i, l, L', B8⟩ ⟨hi, hl, hB8, hok8, hLl, hbd⟩
     simp only at hi hl hB8 hok8 hLl hbd ⊢
     replace hR7 := hR7.ext hB8
     rcases Nat.lt_or_ge i ts.length with hi2 | hi2
     ·obtain ⟨r1, r2, r3, r4⟩ := kid_ld hR7.c (i := i) (by omega)
      have ik := hR7.ok _ (List.getElem_mem (show i < qs.length by omega))
      have hqi : (qs[i]'(by omega)).1 = ts[i] := by
       have h1 : (qs.map Prod.fst)[i]? = ts[i]? := by rw [hR7.m]
       rw [List.getElem?_map, List.getElem?_eq_getElem (show i < qs.length by omega), List.getElem?_eq_getElem hi2] at h1
       simpa using h1
      have hsi : Sm 200000 ts[i] := hsk _ (List.getElem_mem hi2)
      have hee := errL_take hi2 e1
      have htk : (ts.take (i + 1)).map (fun t => (logT t).1) = (ts.take i).map (fun t => (logT t).1) ++ [(logT ts[i]).1] := by rw [List.take_succ_eq_append_getElem hi2, List.map_append]; rfl
      rw [← hqi] at hee htk hsi
      obtain ⟨q, hq0⟩ : ∃ q, q = qs[i]'(by omega) := ⟨_, rfl⟩
      rw [← hq0] at r1 ik hee htk hsi
      obtain ⟨E, hE⟩ : ∃ E, E = errL (ts.take i) e1 := ⟨_, rfl⟩
      rw [← hE] at hee hbd ⊢
      have hlg := rlog_fn ik hsi E
      rcases l with _ | ⟨cp0, rest0⟩
      ·have hi0 : i = 0 := hl
       simp only [show ∀ r n, lE r n none = .raw (.slice none 0 0) from fun _ _ => rfl, show ∀ T xs, lO T xs none = none from fun _ _ => rfl]
       refine next_of 1000 ?_
       simp (maxSteps := 4000000) (disch := omega) only [go_sem, ↓reduceIte]
       repeat (with_reducible refine And.intro (by omega) ?_)
       refine condS_split (fun h2 => ?_) (fun h2 => by simp at h2; omega)
       repeat' (first | with_reducible refine And.intro (by first | omega | (constructor <;> assumption) | ((repeat' refine And.intro ?_ ?_) <;> first | omega | assumption | (refine SlOk.so (n := ?_) ?_ ?_; rotate_left; assumption; omega) | (simp; done) | fail)) ?_ | simp (maxSteps := 4000000) (disch := omega) only [go_sem, ↓reduceIte, Int.toNat_natCast, r1, w1, w2, w3, w4, w5, rcX_one, rcX_set0, rcX_set1, rcX_set2, rcX_get0, y1, y2, y3, y4, y5, zrR] | with_reducible refine drawT_of (id := 21) [0, 1, 2, 3, 4, 5, 6, 7, 8] mixed (by kernel_rfl) (by simp) (fun hin => dt_of 1000 hin ?_))
       refine callT_t 3 hlg rfl (fun _ => logE_closed (by simp [closed]) (by simp [closed])) (rdO_closed _) (rdO_closed _) (by kernel_rfl) (ck_of (by kernel_rfl) (nmT_of (by kernel_rfl))) (fun hin2 g B9 hB9 hR9 => dt_of 1000 hin2 ?_)
       change BExt B8 B9 at hB9
       obtain ⟨hg, hgb⟩ := hR9
       obtain ⟨ad, xA, xn, xc, xp, yA, yn, yc, yd⟩ := g
       obtain ⟨a0, a1, a2, a3, a4, a5, a6, a7, a8, a9, a10, a11, a12, a13, a14, a15, a16, a17, a18, a19, rfl⟩ := twenty hg.ha
       simp only [LogV.ev, logE, bE, List.map_cons, List.map_nil, List.cons_append, List.nil_append]
       repeat' (first | with_reducible refine And.intro (by first | omega | (simp; done)) ?_ | simp (maxSteps := 4000000) (disch := omega) only [go_sem, ↓reduceIte, w1, w2, w3, w4, w5, rcX_one, rcX_set0, rcX_set1, rcX_set2, rcX_get0, y1, y2, y3, y4, y5, zrR])
       refine appT (c := True) (zs := z22) (xs := logsE L') (m := 1) (news := logE [a0, a1, a2, a3, a4, a5, a6, a7, a8, a9, a10, a11, a12, a13, a14, a15, a16, a17, a18, a19] (.raw (.slice xA xn xc)) (.raw (.slice yA yn yc))) (T := 36) (l := none) 96 4 i [100095] rfl rfl Try.underlying22 (.inl ⟨_, Try.underlying22⟩) zr36 cz36 (by simp [z22]) z22_closed rfl rfl rfl hl (by rw [logsE_len hok8, hLl]; rfl) (logsE_closed 0 _) (fun B hs hB hfb => ⟨_, src_own (by rw [hfb 100095 (by simp)]; rfl) rfl, by simp [z22]⟩) rfl (by simp [closeds, closed, logE, bE]) (by simp only [maxLen]; omega) (by rw [show Try.prog.bytesOf 36 = 72 from by36]; omega) (by simp) (by kernel_rfl) (ck_of (by kernel_rfl) (nmT_of (by kernel_rfl))) (fun l2 hl2 => dt_of 1000 (by assumption) ?_)
       have hl2' := hl2
       obtain ⟨cp, rest, rfl, -⟩ := lst_some hl2 (by omega)
       simp only [lE_some]
       repeat' (first | with_reducible refine And.intro (by omega) ?_ | simp (maxSteps := 4000000) (disch := omega) only [go_sem, ↓reduceIte, w1, w2, w3, w4, w5, rcX_one, rcX_set0, rcX_set1, rcX_set2, rcX_get0, y1, y2, y3, y4, y5, zrR])
       refine endT_of (by kernel_rfl) (nmT_of (by kernel_rfl)) ?_
       obtain ⟨g', hg'⟩ : ∃ g' : LogV, g' = ⟨[a0, a1, a2, a3, a4, a5, a6, a7, a8, a9, a10, a11, a12, a13, a14, a15, a16, a17, a18, a19], xA, xn, xc, xp, yA, yn, yc, yd⟩ := ⟨_, rfl⟩
       have hev : logsE L' ++ logE [a0, a1, a2, a3, a4, a5, a6, a7, a8, a9, a10, a11, a12, a13, a14, a15, a16, a17, a18, a19] (.raw (.slice xA xn xc)) (.raw (.slice yA yn yc)) = logsE (L' ++ [g']) := by
        rw [hg', logsE, logsE, List.flatMap_append, List.flatMap_singleton]
       rw [← hg'] at hg hgb
       have hok9 : ∀ a ∈ L' ++ [g'], a.Ok B9 := fun a ha => by
        rcases List.mem_append.1 ha with h3 | h3
        ·exact (hok8 a h3).ext hB9
        ·obtain rfl := List.mem_singleton.1 h3
         exact hg
       have hbd9 : kp E (logT q.1).2 = 0 → (L' ++ [g']).map LogV.body = (ts.take (i + 1)).map (fun t => (logT t).1) := fun h0 => by
        obtain ⟨h1, h2⟩ := kp_eq0.1 h0
        rw [htk, List.map_append, hbd h1, List.map_singleton, hgb h1 h2]
       have cl2 : ∀ n, clO n (lO 36 (logsE (L' ++ [g'])) (some (cp, rest))) = True := fun n => clO_lO hl2' (logsE_closed 0 _) z22_closed
       have cl3 : ∀ n, clO n (lO 36 (L'.flatMap LogV.ev ++ g'.ev) (some (cp, rest))) = True := fun n => by have := cl2 n; rwa [logsE, List.flatMap_append, List.flatMap_singleton] at this
       have hgl : (L' ++ [g']).length = i + 1 := by simp [hLl]
       refine packS [100096] 4 (by simp) (by simp) (by simp) (by simp) (next_of 1000 ?_)
       repeat' (simp (maxSteps := 4000000) (disch := omega) only [go_sem, ↓reduceIte, hev, okC, okE, okCs, rcX_okCs, rcX_rens, okCs_closed, pkO_some, pkO_lO (ks := [100096]) (k := 4) hl2' (logsE_closed 0 _) z22_closed, pkO_none, rcX_one, rcX_set0, rcX_set1, rcX_set2, rcX_get0, y1, y2, y3, y4, y5, zrR])
       exact ⟨(i + 1, some (cp, rest), L' ++ [g'], B9), ⟨hi2, hl2', hB8.trans hB9, hok9, hgl, fun h0 => hbd9 (by rw [← hee]; exact h0)⟩, Weak.sub (weak_of (by simp [wσ, go_sem, closed, closeds, lE_closed, cl3, lE_some, hee, ycl, wcl5] <;> omega) (by simp [whs, Go.Ew.hget, go_sem, EObj.closed, closed, closeds, lE_closed, cl3, lE_some, hee, ycl, wcl5]) (by simp [*]) rfl rfl (by simp)), by simp only; omega⟩
      ·simp only [lE_some]
       refine next_of 1000 ?_
       simp (maxSteps := 4000000) (disch := omega) only [go_sem, ↓reduceIte]
       repeat (with_reducible refine And.intro (by omega) ?_)
       refine condS_split (fun h2 => ?_) (fun h2 => by simp at h2; omega)
       repeat' (first | with_reducible refine And.intro (by first | omega | (constructor <;> assumption) | ((repeat' refine And.intro ?_ ?_) <;> first | omega | assumption | (refine SlOk.so (n := ?_) ?_ ?_; rotate_left; assumption; omega) | (simp; done) | fail)) ?_ | simp (maxSteps := 4000000) (disch := omega) only [go_sem, ↓reduceIte, Int.toNat_natCast, r1, w1, w2, w3, w4, w5, rcX_one, rcX_set0, rcX_set1, rcX_set2, rcX_get0, y1, y2, y3, y4, y5, zrR] | with_reducible refine drawT_of (id := 21) [0, 1, 2, 3, 4, 5, 6, 7, 8] mixed (by kernel_rfl) (by simp) (fun hin => dt_of 1000 hin ?_))
       refine callT_t 3 hlg rfl (fun _ => logE_closed (by simp [closed]) (by simp [closed])) (rdO_closed _) (rdO_closed _) (by kernel_rfl) (ck_of (by kernel_rfl) (nmT_of (by kernel_rfl))) (fun hin2 g B9 hB9 hR9 => dt_of 1000 hin2 ?_)
       change BExt B8 B9 at hB9
       obtain ⟨hg, hgb⟩ := hR9
       obtain ⟨ad, xA, xn, xc, xp, yA, yn, yc, yd⟩ := g
       obtain ⟨a0, a1, a2, a3, a4, a5, a6, a7, a8, a9, a10, a11, a12, a13, a14, a15, a16, a17, a18, a19, rfl⟩ := twenty hg.ha
       simp only [LogV.ev, logE, bE, List.map_cons, List.map_nil, List.cons_append, List.nil_append]
       repeat' (first | with_reducible refine And.intro (by first | omega | (simp; done)) ?_ | simp (maxSteps := 4000000) (disch := omega) only [go_sem, ↓reduceIte, w1, w2, w3, w4, w5, rcX_one, rcX_set0, rcX_set1, rcX_set2, rcX_get0, y1, y2, y3, y4, y5, zrR])
       refine appT (c := True) (zs := z22) (xs := logsE L') (m := 1) (news := logE [a0, a1, a2, a3, a4, a5, a6, a7, a8, a9, a10, a11, a12, a13, a14, a15, a16, a17, a18, a19] (.raw (.slice xA xn xc)) (.raw (.slice yA yn yc))) (T := 36) (l := some (cp0, rest0)) 96 4 i [100095] rfl rfl Try.underlying22 (.inl ⟨_, Try.underlying22⟩) zr36 cz36 (by simp [z22]) z22_closed rfl rfl rfl hl (by rw [logsE_len hok8, hLl]; rfl) (logsE_closed 0 _) (fun B hs hB hfb => ⟨_, src_own (by rw [hfb 100095 (by simp)]; rfl) rfl, by simp [z22]⟩) rfl (by simp [closeds, closed, logE, bE]) (by simp only [maxLen]; omega) (by rw [show Try.prog.bytesOf 36 = 72 from by36]; omega) (by simp) (by kernel_rfl) (ck_of (by kernel_rfl) (nmT_of (by kernel_rfl))) (fun l2 hl2 => dt_of 1000 (by assumption) ?_)
       have hl2' := hl2
       obtain ⟨cp, rest, rfl, -⟩ := lst_some hl2 (by omega)
       simp only [lE_some]
       repeat' (first | with_reducible refine And.intro (by omega) ?_ | simp (maxSteps := 4000000) (disch := omega) only [go_sem, ↓reduceIte, w1, w2, w3, w4, w5, rcX_one, rcX_set0, rcX_set1, rcX_set2, rcX_get0, y1, y2, y3, y4, y5, zrR])
       refine endT_of (by kernel_rfl) (nmT_of (by kernel_rfl)) ?_
       obtain ⟨g', hg'⟩ : ∃ g' : LogV, g' = ⟨[a0, a1, a2, a3, a4, a5, a6, a7, a8, a9, a10, a11, a12, a13, a14, a15, a16, a17, a18, a19], xA, xn, xc, xp, yA, yn, yc, yd⟩ := ⟨_, rfl⟩
       have hev : logsE L' ++ logE [a0, a1, a2, a3, a4, a5, a6, a7, a8, a9, a10, a11, a12, a13, a14, a15, a16, a17, a18, a19] (.raw (.slice xA xn xc)) (.raw (.slice yA yn yc)) = logsE (L' ++ [g']) := by
        rw [hg', logsE, logsE, List.flatMap_append, List.flatMap_singleton]
       rw [← hg'] at hg hgb
       have hok9 : ∀ a ∈ L' ++ [g'], a.Ok B9 := fun a ha => by
        rcases List.mem_append.1 ha with h3 | h3
        ·exact (hok8 a h3).ext hB9
        ·obtain rfl := List.mem_singleton.1 h3
         exact hg
       have hbd9 : kp E (logT q.1).2 = 0 → (L' ++ [g']).map LogV.body = (ts.take (i + 1)).map (fun t => (logT t).1) := fun h0 => by
        obtain ⟨h1, h2⟩ := kp_eq0.1 h0
        rw [htk, List.map_append, hbd h1, List.map_singleton, hgb h1 h2]
       have cl2 : ∀ n, clO n (lO 36 (logsE (L' ++ [g'])) (some (cp, rest))) = True := fun n => clO_lO hl2' (logsE_closed 0 _) z22_closed
       have cl3 : ∀ n, clO n (lO 36 (L'.flatMap LogV.ev ++ g'.ev) (some (cp, rest))) = True := fun n => by have := cl2 n; rwa [logsE, List.flatMap_append, List.flatMap_singleton] at this
       have hgl : (L' ++ [g']).length = i + 1 := by simp [hLl]
       refine packS [100096] 4 (by simp) (by simp) (by simp) (by simp) (next_of 1000 ?_)
       repeat' (simp (maxSteps := 4000000) (disch := omega) only [go_sem, ↓reduceIte, hev, okC, okE, okCs, rcX_okCs, rcX_rens, okCs_closed, pkO_some, pkO_lO (ks := [100096]) (k := 4) hl2' (logsE_closed 0 _) z22_closed, pkO_none, rcX_one, rcX_set0, rcX_set1, rcX_set2, rcX_get0, y1, y2, y3, y4, y5, zrR])
       exact ⟨(i + 1, some (cp, rest), L' ++ [g'], B9), ⟨hi2, hl2', hB8.trans hB9, hok9, hgl, fun h0 => hbd9 (by rw [← hee]; exact h0)⟩, Weak.sub (weak_of (by simp [wσ, go_sem, closed, closeds, lE_closed, cl3, lE_some, hee, ycl, wcl5] <;> omega) (by simp [whs, Go.Ew.hget, go_sem, EObj.closed, closed, closeds, lE_closed, cl3, lE_some, hee, ycl, wcl5]) (by simp [*]) rfl rfl (by simp)), by simp only; omega⟩
     ·obtain rfl : i = ts.length := by omega
      rw [List.take_length] at hbd ⊢
      refine freezeL (xs := logsE L') (T := 36) 4 ts.length rfl hl (by rw [logsE_len hok8, hLl]; rfl) (logsE_closed 0 _) z22_closed (by simp) (fun b2 fA fc B9 hB9 hf2' hD hso hcell => ?_)
      change BExt B8 B9 at hB9
      have hC : CellsAt B9 fA (L'.flatMap LogV.cells) := cellsAt_frz hD hso (fun h0 => by
       rw [h0] at hLl; rw [List.length_eq_zero_iff.1 hLl]; rfl) hcell (reals_logs _ _)
      have hLA : LogsAt B9 fA L' := ⟨hC, fun g hg => (hok8 g hg).ext hB9, by omega⟩
      simp only [frzσ, frz, rcX_frzs, hf2', frzh_cons, frzh_nil, Nat.reduceEqDiff, if_false, if_true, ↓reduceIte, fzO_some, EObj.frz, frzs]
      have hBX := hB1.trans (hB2.trans (hB3.trans (hB4.trans (hB5.trans (hB6.trans (hB7.trans (hB8.trans hB9)))))))
      have hfe : recE q0.1 q1.1 q2.1 q3.1 = errL ts e1 := by rw [recE, ← hts, ← he1]
      rw [hfe] at hM0
      obtain ⟨E, hE⟩ : ∃ E, E = errL ts e1 := ⟨_, rfl⟩
      rw [← hE] at hM0 hbd ⊢
      refine next_of 1000 ?_
      simp (maxSteps := 4000000) (disch := omega) only [go_sem, ↓reduceIte]
      repeat (with_reducible refine And.intro (by omega) ?_)
      refine condS_split (fun h2 => by simp at h2) (fun h2 => ?_)
      by_cases hE0 : E = 0
      ·subst hE0
       rw [if_neg (by simp)] at hM0
       have hrv : rcX (.int .u8 ((ty : UInt8).toNat : Int)) (.int .i64 (okv : Int)) (.int .u64 (gas : Int)) bl (.raw (.slice fA ts.length fc)) = rcE ⟨ty, okv, gas, blmOf bl, fA, fc, L'⟩ := by rw [← hLl]; exact rcX_rc ty okv gas hbl fA fc L'
       have hbody : (⟨ty, okv, gas, blmOf bl, fA, fc, L'⟩ : RcV).body = recB ty q0.1 q1.1 q2.1 q3.1 := by
        simp only [RcV.body, blmOf_bytes hbl]
        rw [recB, hbd rfl, ← hok, ← hgas, ← hbl0, ← hts]
       have hmy := mayr_fn (r := ⟨ty, okv, gas, blmOf bl, fA, fc, L'⟩) hLA
       rw [mayR_body, hbody, ← hrv] at hmy
       have w6 := fun a b c v a' b' c' v' => rcX_splice a b c v zbl_len a' b' c' v' hbl
       have hyc : ((((ty : UInt8).toNat : Nat) : Int) == 0) = decide ((ty : UInt8) = 0) := by
        rw [Bool.eq_iff_iff, beq_iff_eq, decide_eq_true_eq]
        exact ⟨fun h => UInt8.toNat_inj.1 (by rw [UInt8.toNat_zero] <;> omega), fun h => by rw [h]; rfl⟩
       cases hmm : mayM (recB ty q0.1 q1.1 q2.1 q3.1) with
       | false =>
        rw [hmm] at hmy hM0
        rw [if_pos (by simp)] at hM0
        rw [hM0]
        repeat' (first | with_reducible refine And.intro (by omega) ?_ | simp (maxSteps := 4000000) (disch := omega) only [go_sem, ↓reduceIte, w1, w2, w3, w4, w5, w6, hyc, rcX_one, rcX_set0, rcX_set1, rcX_set2, rcX_get0, y1, y2, y3, y4, y5, zrR] | refine callS_fp (hmy) (by simp [closed, closeds, closeds_ints, closed_wE]) (next_of 1000 ?_) | with_reducible refine next_of 1000 ?_)
        first | exact ⟨hBX, ⟨0, 0, 0, blmOf zbl, none, 0, []⟩, by rw [hzE], ⟨rc_closed 0 _, by simp [closed, closeds]⟩, hz0 _, hzb, by decide⟩ | exact ⟨⟨0, 0, 0, blmOf zbl, none, 0, []⟩, by rw [hzE], ⟨rc_closed 0 _, by simp [closed, closeds]⟩, hz0 _, hzb, by decide⟩
       | true =>
        rw [hmm] at hmy hM0
        by_cases hty0 : ty = 0
        ·rw [if_pos (by simp [hty0])] at hM0
         rw [hM0]
         have hyt : ((((ty : UInt8).toNat : Nat) : Int) == 0) = true := by rw [hyc]; exact decide_eq_true hty0
         repeat' (first | with_reducible refine And.intro (by omega) ?_ | simp (maxSteps := 4000000) (disch := omega) only [go_sem, ↓reduceIte, w1, w2, w3, w4, w5, w6, hyt, rcX_one, rcX_set0, rcX_set1, rcX_set2, rcX_get0, y1, y2, y3, y4, y5, zrR] | refine callS_fp (hmy) (by simp [closed, closeds, closeds_ints, closed_wE]) (next_of 1000 ?_) | with_reducible refine next_of 1000 ?_)
         first | exact ⟨hBX, ⟨0, 0, 0, blmOf zbl, none, 0, []⟩, by rw [hzE], ⟨rc_closed 0 _, by simp [closed, closeds]⟩, hz0 _, hzb, by decide⟩ | exact ⟨⟨0, 0, 0, blmOf zbl, none, 0, []⟩, by rw [hzE], ⟨rc_closed 0 _, by simp [closed, closeds]⟩, hz0 _, hzb, by decide⟩
        ·rw [if_neg (by simp [hty0])] at hM0
         rw [hM0]
         have hyt : ((((ty : UInt8).toNat : Nat) : Int) == 0) = false := by rw [hyc]; exact decide_eq_false hty0
         repeat' (first | with_reducible refine And.intro (by omega) ?_ | simp (maxSteps := 4000000) (disch := omega) only [go_sem, ↓reduceIte, w1, w2, w3, w4, w5, w6, hyt, rcX_one, rcX_set0, rcX_set1, rcX_set2, rcX_get0, y1, y2, y3, y4, y5, zrR] | refine callS_fp (hmy) (by simp [closed, closeds, closeds_ints, closed_wE]) (next_of 1000 ?_) | with_reducible refine next_of 1000 ?_)
         rw [hrv]
         first | exact ⟨hBX, _, rfl, ⟨rc_closed 0 _, by simp [closed, closeds]⟩, hLA, hbody, hn1⟩ | exact ⟨_, rfl, ⟨rc_closed 0 _, by simp [closed, closeds]⟩, hLA, hbody, hn1⟩
      ·rw [if_pos hE0] at hM0
       rw [hM0]
       have hei : ((E : Nat) : Int) ≠ 0 := by omega
       have hei2 : (((E : Nat) : Int) == 0) = false := by simpa using hE0
       repeat' (first | with_reducible refine And.intro (by omega) ?_ | simp (maxSteps := 4000000) (disch := omega) only [go_sem, ↓reduceIte, hei2, bne, w1, w2, w3, w4, w5, rcX_one, rcX_set0, rcX_set1, rcX_set2, rcX_get0, y1, y2, y3, y4, y5, zrR] | with_reducible refine drawT_of (id := 24) [0, 1, 2, 3, 4, 5, 6] mixed (by kernel_rfl) (by simp) (fun hin => dt_of 1000 hin ?_) | with_reducible refine endT_of (by kernel_rfl) (nmT_of (by kernel_rfl)) (next_of 1000 ?_) | with_reducible refine next_of 1000 ?_)
       first | exact ⟨hBX, ⟨0, 0, 0, blmOf zbl, none, 0, []⟩, by rw [hzE], ⟨rc_closed 0 _, by simp [closed, closeds]⟩, hz0 _, hzb, by decide⟩ | exact ⟨⟨0, 0, 0, blmOf zbl, none, 0, []⟩, by rw [hzE], ⟨rc_closed 0 _, by simp [closed, closeds]⟩, hz0 _, hzb, by decide⟩
    ·have hM : recT ty false t = (zRc, (asL t 4 4).2) := by rw [recT, if_pos hz]
     rw [hM] at hM0
     rw [hM0]
     obtain ⟨E, hE0⟩ : ∃ E, E = (asL t 4 4).2 := ⟨_, rfl⟩
     rw [← hE0] at hz ⊢
     have hei : ((E : Nat) : Int) ≠ 0 := by omega
     have hei2 : (((E : Nat) : Int) == 0) = false := by simpa using hz
     repeat' (first | with_reducible refine And.intro (by omega) ?_ | simp (maxSteps := 4000000) (disch := omega) only [go_sem, ↓reduceIte, hei2, bne, rcX_one, rcX_set0, rcX_set1, rcX_set2, rcX_get0, y1, y2, y3, y4, y5, zrR] | with_reducible refine drawT_of (id := 24) [0, 1, 2, 3, 4, 5, 6] mixed (by kernel_rfl) (by simp) (fun hin => dt_of 1000 hin ?_) | with_reducible refine endT_of (by kernel_rfl) (nmT_of (by kernel_rfl)) (next_of 1000 ?_))
     first | exact ⟨hB1.trans (hB2.trans hB3), ⟨0, 0, 0, blmOf zbl, none, 0, []⟩, by rw [hzE], ⟨rc_closed 0 _, by simp [closed, closeds]⟩, hz0 _, hzb, by decide⟩ | exact ⟨⟨0, 0, 0, blmOf zbl, none, 0, []⟩, by rw [hzE], ⟨rc_closed 0 _, by simp [closed, closeds]⟩, hz0 _, hzb, by decide⟩
   ·rw [if_pos he] at hM0
    rw [hM0]
    have hei : ((e : Nat) : Int) ≠ 0 := by omega
    repeat' (first | simp (maxSteps := 4000000) (disch := omega) only [go_sem, ↓reduceIte, rcX_one, rcX_set0, rcX_set1, rcX_set2, rcX_get0, y1, y2, y3, y4, y5, zrR] | ((first | refine condS_split (fun h => ?_) (fun h => ?_) | refine testS_split (fun h => ?_) (fun h => ?_) | refine testT_split (fun h => ?_) (fun h => ?_)) <;> (try simp only [bne_iff_ne, ne_eq, beq_iff_eq, decide_eq_true_eq, decide_eq_false_iff_not, Bool.not_eq_true, Bool.not_eq_false, Bool.not_true, Bool.not_false, bne_eq_false_iff_eq, beq_eq_false_iff_ne, Bool.and_eq_true, Bool.or_eq_true, Bool.and_eq_false_imp, Bool.or_eq_false_iff, Bool.not_eq_true', Bool.not_eq_false', Int.not_lt, Int.not_le] at h) <;> (try (exfalso; omega))))
    first | exact ⟨hB1.trans hB2, ⟨0, 0, 0, blmOf zbl, none, 0, []⟩, by rw [hzE], ⟨rc_closed 0 _, by simp [closed, closeds]⟩, hz0 _, hzb, by decide⟩ | exact ⟨⟨0, 0, 0, blmOf zbl, none, 0, []⟩, by rw [hzE], ⟨rc_closed 0 _, by simp [closed, closeds]⟩, hz0 _, hzb, by decide⟩
  ·have hMD : recD b = recP 0 true b := by rw [recD, if_neg (fun h => h1 (by rw [hz]; exact h.2))]
   rw [hMD]
   have c1 : decide ((z : Int) < 128) = false := decide_eq_false (by omega)
   repeat' (first | with_reducible refine And.intro (by first | omega | (constructor <;> assumption) | ((repeat' refine And.intro ?_ ?_) <;> first | omega | assumption | (refine SlOk.so (n := ?_) ?_ ?_; rotate_left; assumption; omega) | (simp; done) | fail)) ?_ | simp (maxSteps := 4000000) (disch := omega) only [go_sem, ↓reduceIte, Try.f21, m5, c0, c1, rcX_one, rcX_set0, rcX_set1, rcX_set2, rcX_get0, y1, y2, y3, y4, y5, zrR])
   refine callS_f (decodeI_fn b _ B0 ad cap hb rfl hcap hc) (fun _ => by simp [closed, closeds]) (fun s2 B2 hB2 hR2 => next_of 1000 ?_)
   change BExt B0 B2 at hB2
   have hsI := DecM_sm (b := b) (N := 200000) hsm
   have her := DecM_err b
   have hM0 : recP 0 true b = if (DecM b).2 ≠ 0 then (zRc, (DecM b).2) else recT 0 true (DecM b).1 := rfl
   obtain ⟨RR, hRR⟩ : ∃ RR, RR = recP 0 true b := ⟨_, rfl⟩
   rw [← hRR] at hM0 ⊢
   obtain ⟨t, e, hq⟩ : ∃ t e, DecM b = (t, e) := ⟨_, _, rfl⟩
   rw [hq] at hR2 hsI her hM0
   simp only at hR2 hsI her hM0
   rw [hq]
   by_cases he : e = 0
   ·subst he
    rw [if_neg (by simp)] at hM0
    repeat' (simp (maxSteps := 4000000) (disch := omega) only [go_sem, ↓reduceIte, rcX_one, rcX_set0, rcX_set1, rcX_set2, rcX_get0, y1, y2, y3, y4, y5, zrR])
    refine callS_t 3 (rlist_fn hR2 0 4 4 (by omega) (Nat.le_refl _)) rfl (fun _ => by simp [closed, closeds]) (rdO_closed _) (rdO_closed _) (fun u B3 hB3 hR3 => next_of 1000 ?_)
    change BExt B2 B3 at hB3
    rw [kp_zero]
    by_cases hz : (asL t 4 4).2 = 0
    ·obtain ⟨hk1, hk2⟩ := asL_ok hz
     obtain ⟨k0, k1, k2, k3, hks⟩ := four_of hk2
     have hM : recT 0 true t = if recE k0 k1 k2 k3 ≠ 0 then (zRc, recE k0 k1 k2 k3) else if !mayM (recB 0 k0 k1 k2 k3) || (!true && decide (0 = 0)) then (zRc, 190) else (recB 0 k0 k1 k2 k3, 0) := by rw [recT, if_neg (by omega), hks] <;> rfl
     rw [hM] at hM0
     obtain ⟨kA, kc, qs⟩ := u
     simp only at hR3
     have hqm := hR3.m
     rw [hk1, hks] at hqm
     obtain ⟨q0, q1, q2, q3, rfl⟩ := four_of (l := qs) (by have := congrArg List.length hqm; simpa using this)
     simp only [List.map_cons, List.map_nil, List.cons.injEq, and_true] at hqm
     obtain ⟨rfl, rfl, rfl, rfl⟩ := hqm
     have i0 := hR3.ok q0 (by simp)
     have i1 := hR3.ok q1 (by simp)
     have i2 := hR3.ok q2 (by simp)
     have i3 := hR3.ok q3 (by simp)
     have hs3 : Sm 200000 q3.1 := hsI.kid (by rw [hks]; simp)
     obtain ⟨d1, d2, d3, d4⟩ := kid_ld hR3.c (i := 0) (by simp)
     simp only [Nat.zero_mul, List.getElem_cons_zero] at d1 d3
     rw [hz]
     have hl4 : (asL t 4 4).1.length = 4 := by rw [hk1, hk2]
     rw [hl4]
     repeat' (first | with_reducible refine And.intro (by first | omega | (constructor <;> assumption)) ?_ | simp (maxSteps := 4000000) (disch := omega) only [go_sem, ↓reduceIte, d1, rcX_one, rcX_set0, rcX_set1, rcX_set2, rcX_get0, y1, y2, y3, y4, y5, zrR])
     refine callS_t 3 (rnumber_fn i0 0) rfl (fun _ => by simp [closed, closeds]) (rdO_closed _) (rdO_closed _) (fun _ B4 hB4 _ => next_of 1000 ?_)
     change BExt B3 B4 at hB4
     rw [kp_zero]
     have hn0 := asN_lt q0.1
     have hn1 := asN_lt q1.1
     have hmin : (if (2 : Int) < (((asN q0.1).1 : Nat) : Int) then (2 : Int) else (((asN q0.1).1 : Nat) : Int)) = ((min (asN q0.1).1 2 : Nat) : Int) := by
      split <;> omega
     have hm2 : min (asN q0.1).1 2 ≤ 2 := Nat.min_le_right _ _
     obtain ⟨okv, hok⟩ : ∃ okv, okv = min (asN q0.1).1 2 := ⟨_, rfl⟩
     rw [← hok] at hmin hm2
     obtain ⟨m1, m2, m3, m4⟩ := kid_ld (hR3.c.ext hB4) (i := 1) (by simp)
     simp only [Nat.one_mul, List.getElem_cons_succ, List.getElem_cons_zero] at m1 m3
     repeat' (first | with_reducible refine And.intro (by first | omega | (constructor <;> assumption)) ?_ | simp (maxSteps := 4000000) (disch := omega) only [go_sem, ↓reduceIte, m1, hmin, rcX_one, rcX_set0, rcX_set1, rcX_set2, rcX_get0, y1, y2, y3, y4, y5, zrR])
     refine callS_t 3 (rnumber_fn (i1.ext hB4) (asN q0.1).2) rfl (fun _ => by simp [closed, closeds]) (rdO_closed _) (rdO_closed _) (fun _ B5 hB5 _ => next_of 1000 ?_)
     change BExt B4 B5 at hB5
     obtain ⟨n1, n2, n3, n4⟩ := kid_ld (hR3.c.ext (hB4.trans hB5)) (i := 2) (by simp)
     simp only [Nat.reduceMul, List.getElem_cons_succ, List.getElem_cons_zero] at n1 n3
     repeat' (first | with_reducible refine And.intro (by first | omega | (constructor <;> assumption) | (simp; done)) ?_ | simp (maxSteps := 4000000) (disch := omega) only [go_sem, ↓reduceIte, n1, rcX_one, rcX_set0, rcX_set1, rcX_set2, rcX_get0, y1, y2, y3, y4, y5, zrR] | with_reducible refine drawT_of (id := 17) [0, 1, 2, 3, 4, 5, 6, 7] mixed (by kernel_rfl) (by simp) (fun hin => dt_of 1000 hin ?_))
     refine callT_t 3 (rbytes_fn (i2.ext (hB4.trans hB5)) (kp (asN q0.1).2 (asN q1.1).2) 256 256 (by omega) (Nat.le_refl _)) rfl (fun _ => by simp [closed]) (rdO_closed _) (rdO_closed _) (by kernel_rfl) (ck_of (by kernel_rfl) (nmT_of (by kernel_rfl))) (fun hin2 s6 B6 hB6 hR6 => dt_of 1000 hin2 ?_)
     change BExt B5 B6 at hB6
     repeat' (simp (maxSteps := 4000000) (disch := omega) only [go_sem, ↓reduceIte, rcX_one, rcX_set0, rcX_set1, rcX_set2, rcX_get0, y1, y2, y3, y4, y5, zrR])
     refine copyT (m := (asB q2.1 256 256).1.length) (news := (asB q2.1 256 256).1.map bE) rfl Try.underlying23 cz5 ⟨_, Try.underlying5⟩ rfl rfl rfl (fun B hs hB => (hR6.1.ext hB).src hs) (bE_one _) (by rw [y1]; omega) (.inl (Nat.zero_le _)) (rcX_bloom _ _ _ _ zbl_len q2.1 rfl) (fun hin3 => dt_of 1000 hin3 ?_)
     obtain ⟨bl, hbl0⟩ : ∃ bl, bl = fixB 256 q2.1 := ⟨_, rfl⟩
     have hbl : bl.length = 256 := by rw [hbl0]; exact fixB_len 256 _
     rw [← hbl0]
     have w1 := fun a b c v => rcX_len a b c v hbl
     have w2 := fun a b c v => rcX_set259 a b c v hbl
     have w3 := fun a b c v => rcX_259 a b c v hbl
     have w4 := fun a b c v => rcX_take a b c v hbl
     have w5 := fun a b c v a' b' c' v' => rcX_splice a b c v zbl_len a' b' c' v' hbl
     have wcl : ∀ n (a b c : Int) (v : Value), closeds n (rcX (.int .u8 a) (.int .i64 b) (.int .u64 c) bl (.raw v)) := fun n a b c v => rcX_closed (by simp [closed]) (by simp [closed]) (by simp [closed]) (by simp [closed])
     have wcl5 : ∀ (a b c : Int) (r l : Nat), closeds 5 (rcX (.int .u8 a) (.int .i64 b) (.int .u64 c) bl (.sl 4 0 r l)) := fun a b c r l => rcX_closed (by simp [closed]) (by simp [closed]) (by simp [closed]) (by simp [closed])
     repeat' (first | with_reducible refine And.intro (by omega) ?_ | simp (maxSteps := 4000000) (disch := omega) only [go_sem, ↓reduceIte, w1, w2, w3, w4, w5, rcX_one, rcX_set0, rcX_set1, rcX_set2, rcX_get0, y1, y2, y3, y4, y5, zrR] | with_reducible refine endT_of (by kernel_rfl) (nmT_of (by kernel_rfl)) (next_of 1000 ?_))
     obtain ⟨p1, p2, p3, p4⟩ := kid_ld (hR3.c.ext (hB4.trans (hB5.trans hB6))) (i := 3) (by simp)
     simp only [Nat.reduceMul, List.getElem_cons_succ, List.getElem_cons_zero] at p1 p3
     repeat' (first | with_reducible refine And.intro (by first | omega | (constructor <;> assumption)) ?_ | simp (maxSteps := 4000000) (disch := omega) only [go_sem, ↓reduceIte, p1, w1, w2, w3, w4, w5, rcX_one, rcX_set0, rcX_set1, rcX_set2, rcX_get0, y1, y2, y3, y4, y5, zrR])
     refine callS_t 3 (rlist_fn (i3.ext (hB4.trans (hB5.trans hB6))) (kp (kp (asN q0.1).2 (asN q1.1).2) (asB q2.1 256 256).2) 0 many (Nat.le_refl _) (Nat.zero_le _)) rfl (fun _ => by simp [closed, closeds]) (rdO_closed _) (rdO_closed _) (fun v7 B7 hB7 hR7 => next_of 1000 ?_)
     change BExt B6 B7 at hB7
     obtain ⟨tA, tc, qs⟩ := v7
     simp only at hR7
     obtain ⟨ts, hts⟩ : ∃ ts, ts = (asL q3.1 0 many).1 := ⟨_, rfl⟩
     obtain ⟨e1, he1⟩ : ∃ e1, e1 = kp (kp (kp (asN q0.1).2 (asN q1.1).2) (asB q2.1 256 256).2) (asL q3.1 0 many).2 := ⟨_, rfl⟩
     rw [← hts] at hR7
     rw [← hts, ← he1]
     have htl : ts.length ≤ 200000 := by rw [hts]; exact (asL_small hs3).1
     have hsk : ∀ k ∈ ts, Sm 200000 k := by rw [hts]; exact (asL_small hs3).2
     have hql : qs.length = ts.length := by rw [← hR7.m, List.length_map]
     obtain ⟨gas, hgas⟩ : ∃ gas, gas = (asN q1.1).1 := ⟨_, rfl⟩
     rw [← hgas] at hn1 ⊢
     repeat' (simp (maxSteps := 4000000) (disch := omega) only [go_sem, ↓reduceIte, w1, w2, w3, w4, w5, rcX_one, rcX_set0, rcX_set1, rcX_set2, rcX_get0, y1, y2, y3, y4, y5, zrR])
     refine loopU (S := Nat × Lst × List LogV × Base) (fun s => s.1 ≤ ts.length ∧ lOk z22 s.1 s.2.1 ∧ BExt B7 s.2.2.2 ∧ (∀ g ∈ s.2.2.1, g.Ok s.2.2.2) ∧ s.2.2.1.length = s.1 ∧ (errL (ts.take s.1) e1 = 0 → s.2.2.1.map LogV.body = (ts.take s.1).map (fun t => (logT t).1)))
      (fun s => ⟨[(86, .int .i64 (s.1 : Nat)), (85, .int .i64 (ts.length : Nat)), (84, .raw (.slice tA ts.length tc)), (5, .bool true), (11, .ptr 3 0), (4, .ptr 1 0), (2, .ptr 0 0)], 5,
       [(4, lO 36 (logsE s.2.2.1) s.2.1), (3, some (rdO (errL (ts.take s.1) e1))), (1, some (.cells (rcX (.int .u8 ((0 : UInt8).toNat : Int)) (.int .i64 (okv : Int)) (.int .u64 (gas : Int)) bl (lE 4 s.1 s.2.1)) 45 (0, 0))), (0, some (.cells (rcX (.int .u8 0) (.int .i64 0) (.int .u64 0) zbl (.raw (.slice none 0 0))) 45 (0, 0)))], s.2.2.2, []⟩)
      (fun s => ts.length - s.1) (0, none, [], B7) ⟨Nat.zero_le _, rfl, BExt.refl _, by simp, rfl, fun _ => rfl⟩ (Weak.sub (weak_of (by simp [wσ, go_sem, closed, closeds, lE_closed, lE, lO, clO, EObj.closed, errL, ycl, wcl] <;> omega) (by simp [whs, Go.Ew.hget, go_sem, EObj.closed, closed, closeds, lE_closed, lE, lO, clO, EObj.closed, errL, ycl, wcl]) (by simp [*]) rfl rfl (by simp))) ?_
     rintro ⟨i, l, L', B8⟩ ⟨hi, hl, hB8, hok8, hLl, hbd⟩
     simp only at hi hl hB8 hok8 hLl hbd ⊢
     replace hR7 := hR7.ext hB8
     rcases Nat.lt_or_ge i ts.length with hi2 | hi2
     ·obtain ⟨r1, r2, r3, r4⟩ := kid_ld hR7.c (i := i) (by omega)
      have ik := hR7.ok _ (List.getElem_mem (show i < qs.length by omega))
      have hqi : (qs[i]'(by omega)).1 = ts[i] := by
       have h1 : (qs.map Prod.fst)[i]? = ts[i]? := by rw [hR7.m]
       rw [List.getElem?_map, List.getElem?_eq_getElem (show i < qs.length by omega), List.getElem?_eq_getElem hi2] at h1
       simpa using h1
      have hsi : Sm 200000 ts[i] := hsk _ (List.getElem_mem hi2)
      have hee := errL_take hi2 e1
      have htk : (ts.take (i + 1)).map (fun t => (logT t).1) = (ts.take i).map (fun t => (logT t).1) ++ [(logT ts[i]).1] := by rw [List.take_succ_eq_append_getElem hi2, List.map_append]; rfl
      rw [← hqi] at hee htk hsi
      obtain ⟨q, hq0⟩ : ∃ q, q = qs[i]'(by omega) := ⟨_, rfl⟩
      rw [← hq0] at r1 ik hee htk hsi
      obtain ⟨E, hE⟩ : ∃ E, E = errL (ts.take i) e1 := ⟨_, rfl⟩
      rw [← hE] at hee hbd ⊢
      have hlg := rlog_fn ik hsi E
      rcases l with _ | ⟨cp0, rest0⟩
      ·have hi0 : i = 0 := hl
       simp only [show ∀ r n, lE r n none = .raw (.slice none 0 0) from fun _ _ => rfl, show ∀ T xs, lO T xs none = none from fun _ _ => rfl]
       refine next_of 1000 ?_
       simp (maxSteps := 4000000) (disch := omega) only [go_sem, ↓reduceIte]
       repeat (with_reducible refine And.intro (by omega) ?_)
       refine condS_split (fun h2 => ?_) (fun h2 => by simp at h2; omega)
       repeat' (first | with_reducible refine And.intro (by first | omega | (constructor <;> assumption) | ((repeat' refine And.intro ?_ ?_) <;> first | omega | assumption | (refine SlOk.so (n := ?_) ?_ ?_; rotate_left; assumption; omega) | (simp; done) | fail)) ?_ | simp (maxSteps := 4000000) (disch := omega) only [go_sem, ↓reduceIte, Int.toNat_natCast, r1, w1, w2, w3, w4, w5, rcX_one, rcX_set0, rcX_set1, rcX_set2, rcX_get0, y1, y2, y3, y4, y5, zrR] | with_reducible refine drawT_of (id := 21) [0, 1, 2, 3, 4, 5, 6, 7, 8] mixed (by kernel_rfl) (by simp) (fun hin => dt_of 1000 hin ?_))
       refine callT_t 3 hlg rfl (fun _ => logE_closed (by simp [closed]) (by simp [closed])) (rdO_closed _) (rdO_closed _) (by kernel_rfl) (ck_of (by kernel_rfl) (nmT_of (by kernel_rfl))) (fun hin2 g B9 hB9 hR9 => dt_of 1000 hin2 ?_)
       change BExt B8 B9 at hB9
       obtain ⟨hg, hgb⟩ := hR9
       obtain ⟨ad, xA, xn, xc, xp, yA, yn, yc, yd⟩ := g
       obtain ⟨a0, a1, a2, a3, a4, a5, a6, a7, a8, a9, a10, a11, a12, a13, a14, a15, a16, a17, a18, a19, rfl⟩ := twenty hg.ha
       simp only [LogV.ev, logE, bE, List.map_cons, List.map_nil, List.cons_append, List.nil_append]
       repeat' (first | with_reducible refine And.intro (by first | omega | (simp; done)) ?_ | simp (maxSteps := 4000000) (disch := omega) only [go_sem, ↓reduceIte, w1, w2, w3, w4, w5, rcX_one, rcX_set0, rcX_set1, rcX_set2, rcX_get0, y1, y2, y3, y4, y5, zrR])
       refine appT (c := True) (zs := z22) (xs := logsE L') (m := 1) (news := logE [a0, a1, a2, a3, a4, a5, a6, a7, a8, a9, a10, a11, a12, a13, a14, a15, a16, a17, a18, a19] (.raw (.slice xA xn xc)) (.raw (.slice yA yn yc))) (T := 36) (l := none) 96 4 i [100095] rfl rfl Try.underlying22 (.inl ⟨_, Try.underlying22⟩) zr36 cz36 (by simp [z22]) z22_closed rfl rfl rfl hl (by rw [logsE_len hok8, hLl]; rfl) (logsE_closed 0 _) (fun B hs hB hfb => ⟨_, src_own (by rw [hfb 100095 (by simp)]; rfl) rfl, by simp [z22]⟩) rfl (by simp [closeds, closed, logE, bE]) (by simp only [maxLen]; omega) (by rw [show Try.prog.bytesOf 36 = 72 from by36]; omega) (by simp) (by kernel_rfl) (ck_of (by kernel_rfl) (nmT_of (by kernel_rfl))) (fun l2 hl2 => dt_of 1000 (by assumption) ?_)
       have hl2' := hl2
       obtain ⟨cp, rest, rfl, -⟩ := lst_some hl2 (by omega)
       simp only [lE_some]
       repeat' (first | with_reducible refine And.intro (by omega) ?_ | simp (maxSteps := 4000000) (disch := omega) only [go_sem, ↓reduceIte, w1, w2, w3, w4, w5, rcX_one, rcX_set0, rcX_set1, rcX_set2, rcX_get0, y1, y2, y3, y4, y5, zrR])
       refine endT_of (by kernel_rfl) (nmT_of (by kernel_rfl)) ?_
       obtain ⟨g', hg'⟩ : ∃ g' : LogV, g' = ⟨[a0, a1, a2, a3, a4, a5, a6, a7, a8, a9, a10, a11, a12, a13, a14, a15, a16, a17, a18, a19], xA, xn, xc, xp, yA, yn, yc, yd⟩ := ⟨_, rfl⟩
       have hev : logsE L' ++ logE [a0, a1, a2, a3, a4, a5, a6, a7, a8, a9, a10, a11, a12, a13, a14, a15, a16, a17, a18, a19] (.raw (.slice xA xn xc)) (.raw (.slice yA yn yc)) = logsE (L' ++ [g']) := by
        rw [hg', logsE, logsE, List.flatMap_append, List.flatMap_singleton]
       rw [← hg'] at hg hgb
       have hok9 : ∀ a ∈ L' ++ [g'], a.Ok B9 := fun a ha => by
        rcases List.mem_append.1 ha with h3 | h3
        ·exact (hok8 a h3).ext hB9
        ·obtain rfl := List.mem_singleton.1 h3
         exact hg
       have hbd9 : kp E (logT q.1).2 = 0 → (L' ++ [g']).map LogV.body = (ts.take (i + 1)).map (fun t => (logT t).1) := fun h0 => by
        obtain ⟨h1, h2⟩ := kp_eq0.1 h0
        rw [htk, List.map_append, hbd h1, List.map_singleton, hgb h1 h2]
       have cl2 : ∀ n, clO n (lO 36 (logsE (L' ++ [g'])) (some (cp, rest))) = True := fun n => clO_lO hl2' (logsE_closed 0 _) z22_closed
       have cl3 : ∀ n, clO n (lO 36 (L'.flatMap LogV.ev ++ g'.ev) (some (cp, rest))) = True := fun n => by have := cl2 n; rwa [logsE, List.flatMap_append, List.flatMap_singleton] at this
       have hgl : (L' ++ [g']).length = i + 1 := by simp [hLl]
       refine packS [100096] 4 (by simp) (by simp) (by simp) (by simp) (next_of 1000 ?_)
       repeat' (simp (maxSteps := 4000000) (disch := omega) only [go_sem, ↓reduceIte, hev, okC, okE, okCs, rcX_okCs, rcX_rens, okCs_closed, pkO_some, pkO_lO (ks := [100096]) (k := 4) hl2' (logsE_closed 0 _) z22_closed, pkO_none, rcX_one, rcX_set0, rcX_set1, rcX_set2, rcX_get0, y1, y2, y3, y4, y5, zrR])
       exact ⟨(i + 1, some (cp, rest), L' ++ [g'], B9), ⟨hi2, hl2', hB8.trans hB9, hok9, hgl, fun h0 => hbd9 (by rw [← hee]; exact h0)⟩, Weak.sub (weak_of (by simp [wσ, go_sem, closed, closeds, lE_closed, cl3, lE_some, hee, ycl, wcl5] <;> omega) (by simp [whs, Go.Ew.hget, go_sem, EObj.closed, closed, closeds, lE_closed, cl3, lE_some, hee, ycl, wcl5]) (by simp [*]) rfl rfl (by simp)), by simp only; omega⟩
      ·simp only [lE_some]
       refine next_of 1000 ?_
       simp (maxSteps := 4000000) (disch := omega) only [go_sem, ↓reduceIte]
       repeat (with_reducible refine And.intro (by omega) ?_)
       refine condS_split (fun h2 => ?_) (fun h2 => by simp at h2; omega)
       repeat' (first | with_reducible refine And.intro (by first | omega | (constructor <;> assumption) | ((repeat' refine And.intro ?_ ?_) <;> first | omega | assumption | (refine SlOk.so (n := ?_) ?_ ?_; rotate_left; assumption; omega) | (simp; done) | fail)) ?_ | simp (maxSteps := 4000000) (disch := omega) only [go_sem, ↓reduceIte, Int.toNat_natCast, r1, w1, w2, w3, w4, w5, rcX_one, rcX_set0, rcX_set1, rcX_set2, rcX_get0, y1, y2, y3, y4, y5, zrR] | with_reducible refine drawT_of (id := 21) [0, 1, 2, 3, 4, 5, 6, 7, 8] mixed (by kernel_rfl) (by simp) (fun hin => dt_of 1000 hin ?_))
       refine callT_t 3 hlg rfl (fun _ => logE_closed (by simp [closed]) (by simp [closed])) (rdO_closed _) (rdO_closed _) (by kernel_rfl) (ck_of (by kernel_rfl) (nmT_of (by kernel_rfl))) (fun hin2 g B9 hB9 hR9 => dt_of 1000 hin2 ?_)
       change BExt B8 B9 at hB9
       obtain ⟨hg, hgb⟩ := hR9
       obtain ⟨ad, xA, xn, xc, xp, yA, yn, yc, yd⟩ := g
       obtain ⟨a0, a1, a2, a3, a4, a5, a6, a7, a8, a9, a10, a11, a12, a13, a14, a15, a16, a17, a18, a19, rfl⟩ := twenty hg.ha
       simp only [LogV.ev, logE, bE, List.map_cons, List.map_nil, List.cons_append, List.nil_append]
       repeat' (first | with_reducible refine And.intro (by first | omega | (simp; done)) ?_ | simp (maxSteps := 4000000) (disch := omega) only [go_sem, ↓reduceIte, w1, w2, w3, w4, w5, rcX_one, rcX_set0, rcX_set1, rcX_set2, rcX_get0, y1, y2, y3, y4, y5, zrR])
       refine appT (c := True) (zs := z22) (xs := logsE L') (m := 1) (news := logE [a0, a1, a2, a3, a4, a5, a6, a7, a8, a9, a10, a11, a12, a13, a14, a15, a16, a17, a18, a19] (.raw (.slice xA xn xc)) (.raw (.slice yA yn yc))) (T := 36) (l := some (cp0, rest0)) 96 4 i [100095] rfl rfl Try.underlying22 (.inl ⟨_, Try.underlying22⟩) zr36 cz36 (by simp [z22]) z22_closed rfl rfl rfl hl (by rw [logsE_len hok8, hLl]; rfl) (logsE_closed 0 _) (fun B hs hB hfb => ⟨_, src_own (by rw [hfb 100095 (by simp)]; rfl) rfl, by simp [z22]⟩) rfl (by simp [closeds, closed, logE, bE]) (by simp only [maxLen]; omega) (by rw [show Try.prog.bytesOf 36 = 72 from by36]; omega) (by simp) (by kernel_rfl) (ck_of (by kernel_rfl) (nmT_of (by kernel_rfl))) (fun l2 hl2 => dt_of 1000 (by assumption) ?_)
       have hl2' := hl2
       obtain ⟨cp, rest, rfl, -⟩ := lst_some hl2 (by omega)
       simp only [lE_some]
       repeat' (first | with_reducible refine And.intro (by omega) ?_ | simp (maxSteps := 4000000) (disch := omega) only [go_sem, ↓reduceIte, w1, w2, w3, w4, w5, rcX_one, rcX_set0, rcX_set1, rcX_set2, rcX_get0, y1, y2, y3, y4, y5, zrR])
       refine endT_of (by kernel_rfl) (nmT_of (by kernel_rfl)) ?_
       obtain ⟨g', hg'⟩ : ∃ g' : LogV, g' = ⟨[a0, a1, a2, a3, a4, a5, a6, a7, a8, a9, a10, a11, a12, a13, a14, a15, a16, a17, a18, a19], xA, xn, xc, xp, yA, yn, yc, yd⟩ := ⟨_, rfl⟩
       have hev : logsE L' ++ logE [a0, a1, a2, a3, a4, a5, a6, a7, a8, a9, a10, a11, a12, a13, a14, a15, a16, a17, a18, a19] (.raw (.slice xA xn xc)) (.raw (.slice yA yn yc)) = logsE (L' ++ [g']) := by
        rw [hg', logsE, logsE, List.flatMap_append, List.flatMap_singleton]
       rw [← hg'] at hg hgb
       have hok9 : ∀ a ∈ L' ++ [g'], a.Ok B9 := fun a ha => by
        rcases List.mem_append.1 ha with h3 | h3
        ·exact (hok8 a h3).ext hB9
        ·obtain rfl := List.mem_singleton.1 h3
         exact hg
       have hbd9 : kp E (logT q.1).2 = 0 → (L' ++ [g']).map LogV.body = (ts.take (i + 1)).map (fun t => (logT t).1) := fun h0 => by
        obtain ⟨h1, h2⟩ := kp_eq0.1 h0
        rw [htk, List.map_append, hbd h1, List.map_singleton, hgb h1 h2]
       have cl2 : ∀ n, clO n (lO 36 (logsE (L' ++ [g'])) (some (cp, rest))) = True := fun n => clO_lO hl2' (logsE_closed 0 _) z22_closed
       have cl3 : ∀ n, clO n (lO 36 (L'.flatMap LogV.ev ++ g'.ev) (some (cp, rest))) = True := fun n => by have := cl2 n; rwa [logsE, List.flatMap_append, List.flatMap_singleton] at this
       have hgl : (L' ++ [g']).length = i + 1 := by simp [hLl]
       refine packS [100096] 4 (by simp) (by simp) (by simp) (by simp) (next_of 1000 ?_)
       repeat' (simp (maxSteps := 4000000) (disch := omega) only [go_sem, ↓reduceIte, hev, okC, okE, okCs, rcX_okCs, rcX_rens, okCs_closed, pkO_some, pkO_lO (ks := [100096]) (k := 4) hl2' (logsE_closed 0 _) z22_closed, pkO_none, rcX_one, rcX_set0, rcX_set1, rcX_set2, rcX_get0, y1, y2, y3, y4, y5, zrR])
       exact ⟨(i + 1, some (cp, rest), L' ++ [g'], B9), ⟨hi2, hl2', hB8.trans hB9, hok9, hgl, fun h0 => hbd9 (by rw [← hee]; exact h0)⟩, Weak.sub (weak_of (by simp [wσ, go_sem, closed, closeds, lE_closed, cl3, lE_some, hee, ycl, wcl5] <;> omega) (by simp [whs, Go.Ew.hget, go_sem, EObj.closed, closed, closeds, lE_closed, cl3, lE_some, hee, ycl, wcl5]) (by simp [*]) rfl rfl (by simp)), by simp only; omega⟩
     ·obtain rfl : i = ts.length := by omega
      rw [List.take_length] at hbd ⊢
      refine freezeL (xs := logsE L') (T := 36) 4 ts.length rfl hl (by rw [logsE_len hok8, hLl]; rfl) (logsE_closed 0 _) z22_closed (by simp) (fun b2 fA fc B9 hB9 hf2' hD hso hcell => ?_)
      change BExt B8 B9 at hB9
      have hC : CellsAt B9 fA (L'.flatMap LogV.cells) := cellsAt_frz hD hso (fun h0 => by
       rw [h0] at hLl; rw [List.length_eq_zero_iff.1 hLl]; rfl) hcell (reals_logs _ _)
      have hLA : LogsAt B9 fA L' := ⟨hC, fun g hg => (hok8 g hg).ext hB9, by omega⟩
      simp only [frzσ, frz, rcX_frzs, hf2', frzh_cons, frzh_nil, Nat.reduceEqDiff, if_false, if_true, ↓reduceIte, fzO_some, EObj.frz, frzs]
      have hBX := (BExt.refl B0).trans (hB2.trans (hB3.trans (hB4.trans (hB5.trans (hB6.trans (hB7.trans (hB8.trans hB9)))))))
      have hfe : recE q0.1 q1.1 q2.1 q3.1 = errL ts e1 := by rw [recE, ← hts, ← he1]
      rw [hfe] at hM0
      obtain ⟨E, hE⟩ : ∃ E, E = errL ts e1 := ⟨_, rfl⟩
      rw [← hE] at hM0 hbd ⊢
      refine next_of 1000 ?_
      simp (maxSteps := 4000000) (disch := omega) only [go_sem, ↓reduceIte]
      repeat (with_reducible refine And.intro (by omega) ?_)
      refine condS_split (fun h2 => by simp at h2) (fun h2 => ?_)
      by_cases hE0 : E = 0
      ·subst hE0
       rw [if_neg (by simp)] at hM0
       have hrv : rcX (.int .u8 ((0 : UInt8).toNat : Int)) (.int .i64 (okv : Int)) (.int .u64 (gas : Int)) bl (.raw (.slice fA ts.length fc)) = rcE ⟨0, okv, gas, blmOf bl, fA, fc, L'⟩ := by rw [← hLl]; exact rcX_rc 0 okv gas hbl fA fc L'
       have hbody : (⟨0, okv, gas, blmOf bl, fA, fc, L'⟩ : RcV).body = recB 0 q0.1 q1.1 q2.1 q3.1 := by
        simp only [RcV.body, blmOf_bytes hbl]
        rw [recB, hbd rfl, ← hok, ← hgas, ← hbl0, ← hts]
       have hmy := mayr_fn (r := ⟨0, okv, gas, blmOf bl, fA, fc, L'⟩) hLA
       rw [mayR_body, hbody, ← hrv] at hmy
       have w6 := fun a b c v a' b' c' v' => rcX_splice a b c v zbl_len a' b' c' v' hbl
       have hyc : ((((0 : UInt8).toNat : Nat) : Int) == 0) = decide ((0 : UInt8) = 0) := by
        rw [Bool.eq_iff_iff, beq_iff_eq, decide_eq_true_eq]
        exact ⟨fun h => UInt8.toNat_inj.1 (by rw [UInt8.toNat_zero] <;> omega), fun h => by rw [h]; rfl⟩
       cases hmm : mayM (recB 0 q0.1 q1.1 q2.1 q3.1) with
       | false =>
        rw [hmm] at hmy hM0
        rw [if_pos (by simp)] at hM0
        rw [hM0]
        repeat' (first | with_reducible refine And.intro (by omega) ?_ | simp (maxSteps := 4000000) (disch := omega) only [go_sem, ↓reduceIte, w1, w2, w3, w4, w5, w6, hyc, rcX_one, rcX_set0, rcX_set1, rcX_set2, rcX_get0, y1, y2, y3, y4, y5, zrR] | refine callS_fp (hmy) (by simp [closed, closeds, closeds_ints, closed_wE]) (next_of 1000 ?_) | with_reducible refine next_of 1000 ?_)
        first | exact ⟨hBX, ⟨0, 0, 0, blmOf zbl, none, 0, []⟩, by rw [hzE], ⟨rc_closed 0 _, by simp [closed, closeds]⟩, hz0 _, hzb, by decide⟩ | exact ⟨⟨0, 0, 0, blmOf zbl, none, 0, []⟩, by rw [hzE], ⟨rc_closed 0 _, by simp [closed, closeds]⟩, hz0 _, hzb, by decide⟩
       | true =>
        rw [hmm] at hmy hM0
        rw [if_neg (by simp)] at hM0
        rw [hM0]
        repeat' (first | with_reducible refine And.intro (by omega) ?_ | simp (maxSteps := 4000000) (disch := omega) only [go_sem, ↓reduceIte, w1, w2, w3, w4, w5, w6, hyc, rcX_one, rcX_set0, rcX_set1, rcX_set2, rcX_get0, y1, y2, y3, y4, y5, zrR] | refine callS_fp (hmy) (by simp [closed, closeds, closeds_ints, closed_wE]) (next_of 1000 ?_) | with_reducible refine next_of 1000 ?_)
        rw [hrv]
        first | exact ⟨hBX, _, rfl, ⟨rc_closed 0 _, by simp [closed, closeds]⟩, hLA, hbody, hn1⟩ | exact ⟨_, rfl, ⟨rc_closed 0 _, by simp [closed, closeds]⟩, hLA, hbody, hn1⟩
      ·rw [if_pos hE0] at hM0
       rw [hM0]
       have hei : ((E : Nat) : Int) ≠ 0 := by omega
       have hei2 : (((E : Nat) : Int) == 0) = false := by simpa using hE0
       repeat' (first | with_reducible refine And.intro (by omega) ?_ | simp (maxSteps := 4000000) (disch := omega) only [go_sem, ↓reduceIte, hei2, bne, w1, w2, w3, w4, w5, rcX_one, rcX_set0, rcX_set1, rcX_set2, rcX_get0, y1, y2, y3, y4, y5, zrR] | with_reducible refine drawT_of (id := 24) [0, 1, 2, 3, 4, 5, 6] mixed (by kernel_rfl) (by simp) (fun hin => dt_of 1000 hin ?_) | with_reducible refine endT_of (by kernel_rfl) (nmT_of (by kernel_rfl)) (next_of 1000 ?_) | with_reducible refine next_of 1000 ?_)
       first | exact ⟨hBX, ⟨0, 0, 0, blmOf zbl, none, 0, []⟩, by rw [hzE], ⟨rc_closed 0 _, by simp [closed, closeds]⟩, hz0 _, hzb, by decide⟩ | exact ⟨⟨0, 0, 0, blmOf zbl, none, 0, []⟩, by rw [hzE], ⟨rc_closed 0 _, by simp [closed, closeds]⟩, hz0 _, hzb, by decide⟩
    ·have hM : recT 0 true t = (zRc, (asL t 4 4).2) := by rw [recT, if_pos hz]
     rw [hM] at hM0
     rw [hM0]
     obtain ⟨E, hE0⟩ : ∃ E, E = (asL t 4 4).2 := ⟨_, rfl⟩
     rw [← hE0] at hz ⊢
     have hei : ((E : Nat) : Int) ≠ 0 := by omega
     have hei2 : (((E : Nat) : Int) == 0) = false := by simpa using hz
     repeat' (first | with_reducible refine And.intro (by omega) ?_ | simp (maxSteps := 4000000) (disch := omega) only [go_sem, ↓reduceIte, hei2, bne, rcX_one, rcX_set0, rcX_set1, rcX_set2, rcX_get0, y1, y2, y3, y4, y5, zrR] | with_reducible refine drawT_of (id := 24) [0, 1, 2, 3, 4, 5, 6] mixed (by kernel_rfl) (by simp) (fun hin => dt_of 1000 hin ?_) | with_reducible refine endT_of (by kernel_rfl) (nmT_of (by kernel_rfl)) (next_of 1000 ?_))
     first | exact ⟨(BExt.refl B0).trans (hB2.trans hB3), ⟨0, 0, 0, blmOf zbl, none, 0, []⟩, by rw [hzE], ⟨rc_closed 0 _, by simp [closed, closeds]⟩, hz0 _, hzb, by decide⟩ | exact ⟨⟨0, 0, 0, blmOf zbl, none, 0, []⟩, by rw [hzE], ⟨rc_closed 0 _, by simp [closed, closeds]⟩, hz0 _, hzb, by decide⟩
   ·rw [if_pos he] at hM0
    rw [hM0]
    have hei : ((e : Nat) : Int) ≠ 0 := by omega
    repeat' (first | with_reducible refine And.intro (by omega) ?_ | simp (maxSteps := 4000000) (disch := omega) only [go_sem, ↓reduceIte, rcX_one, rcX_set0, rcX_set1, rcX_set2, rcX_get0, y1, y2, y3, y4, y5, zrR] | ((first | refine condS_split (fun h => ?_) (fun h => ?_) | refine testS_split (fun h => ?_) (fun h => ?_) | refine testT_split (fun h => ?_) (fun h => ?_)) <;> (try simp only [bne_iff_ne, ne_eq, beq_iff_eq, decide_eq_true_eq, decide_eq_false_iff_not, Bool.not_eq_true, Bool.not_eq_false, Bool.not_true, Bool.not_false, bne_eq_false_iff_eq, beq_eq_false_iff_ne, Bool.and_eq_true, Bool.or_eq_true, Bool.and_eq_false_imp, Bool.or_eq_false_iff, Bool.not_eq_true', Bool.not_eq_false', Int.not_lt, Int.not_le] at h) <;> (try (exfalso; omega))))
    first | exact ⟨(BExt.refl B0).trans hB2, ⟨0, 0, 0, blmOf zbl, none, 0, []⟩, by rw [hzE], ⟨rc_closed 0 _, by simp [closed, closeds]⟩, hz0 _, hzb, by decide⟩ | exact ⟨⟨0, 0, 0, blmOf zbl, none, 0, []⟩, by rw [hzE], ⟨rc_closed 0 _, by simp [closed, closeds]⟩, hz0 _, hzb, by decide⟩
end Go.Proofs.Ytepabkjfnpaijaa
