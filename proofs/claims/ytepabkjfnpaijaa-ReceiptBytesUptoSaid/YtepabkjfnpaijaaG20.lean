/- Part of a proof over the seat Ytepabkjfnpaijaa. -/
import Derived.Test.YtepabkjfnpaijaaG19
import Derived.Test.YtepabkjfnpaijaaEng2
import Derived.Test.YtepabkjfnpaijaaG11
set_option linter.unusedSimpArgs false
set_option linter.unusedVariables false
set_option maxRecDepth 100000
namespace Go.Proofs.Ytepabkjfnpaijaa
open Go RowKit Go.Ew
set_option maxHeartbeats 8000000
theorem in54 : codeIn Try.f54.ntmps (Try.f54.body.getD .skip) = true := by kernel_rfl
theorem asL_hi {t : Itm} (h : t.kids.length ≤ 200000) : asL t 0 1073741824 = asL t 0 many := by
 unfold asL
 split
 ·rfl
 ·rw [if_neg (by omega), if_neg (by simp only [many]; omega)]
theorem asB_hi {t : Itm} (h : t.bytes.length ≤ 200000) : asB t 0 1073741824 = asB t 0 many := by
 unfold asB
 split
 ·rfl
 ·rw [if_neg (by omega), if_neg (by simp only [many]; omega)]
theorem errT_ne {e : Nat} (he : e ≠ 0) : ∀ ts : List Itm, errT ts e = e
 | [] => rfl
 | t :: ts => by
  show errT ts (kp e (asB t 32 32).2) = e
  rw [kp_ne he]
  exact errT_ne he ts
theorem errT_cons (t : Itm) (ts : List Itm) (e : Nat) : errT (t :: ts) e = errT ts (kp e (asB t 32 32).2) := rfl
theorem errT_at {ts : List Itm} {i : Nat} (hi : i < ts.length) (h : ∀ j (hj : j < i) (hj2 : j < ts.length), (asB ts[j] 32 32).2 = 0) (hn : (asB ts[i] 32 32).2 ≠ 0) : errT ts 0 = (asB ts[i] 32 32).2 := by
 induction ts generalizing i with
 | nil => simp at hi
 | cons t ts ih =>
  cases i with
  | zero => rw [errT_cons, kp_zero]; exact errT_ne hn ts
  | succ i =>
   have h0 := h 0 (by omega) (by simp)
   simp only [List.getElem_cons_zero] at h0
   rw [errT_cons, kp_zero, h0]
   exact ih (by simpa using hi) (fun j hj hj2 => by have := h (j + 1) (by omega) (by simpa using hj2); simpa using this) hn
theorem errT_none {ts : List Itm} (h : ∀ j (hj2 : j < ts.length), (asB ts[j] 32 32).2 = 0) : errT ts 0 = 0 := by
 induction ts with
 | nil => rfl
 | cons t ts ih =>
  have h0 := h 0 (by simp)
  simp only [List.getElem_cons_zero] at h0
  rw [errT_cons, kp_zero, h0]
  exact ih (fun j hj2 => by have := h (j + 1) (by simpa using hj2); simpa using this)
theorem log_build {ad : List UInt8} (h : ad.length = 20) : splice z22 0 (ad.map bE) = logE ad (.raw (.slice none 0 0)) (.raw (.slice none 0 0)) := by
 obtain ⟨a0, a1, a2, a3, a4, a5, a6, a7, a8, a9, a10, a11, a12, a13, a14, a15, a16, a17, a18, a19, rfl⟩ := twenty h
 rfl
theorem ptr_bytes {B : Base} {ad : Option Addr} {l : List UInt8} (h : BytesAt B ad l) (h0 : 0 < l.length) : ∃ a, ad = some a ∧ rawCells B a l.length = l.map bE ∧ B.D a.block ∧ LiveAt B a l.length := by
 obtain ⟨r1, r2, r3, r4⟩ := cells_lds (B := B) (ad := ad) (cs := l.map bV) h (o := 0) (n := l.length) (by simp) h0
 cases ad with
 | none => simp at r4
 | some a =>
  have e : adrAt (some a) 0 = a := by simp only [adrAt_some]; unfold Addr.add; split <;> simp_all
  rw [e] at r1 r3
  refine ⟨a, rfl, ?_, r2, r3⟩
  rw [r1, List.drop_zero, List.take_of_length_le (by simp), ofS_bV]
theorem thirtytwo {α : Type} {l : List α} (h : l.length = 32) : ∃ b0 b1 b2 b3 b4 b5 b6 b7 b8 b9 b10 b11 b12 b13 b14 b15 b16 b17 b18 b19 b20 b21 b22 b23 b24 b25 b26 b27 b28 b29 b30 b31, l = [b0, b1, b2, b3, b4, b5, b6, b7, b8, b9, b10, b11, b12, b13, b14, b15, b16, b17, b18, b19, b20, b21, b22, b23, b24, b25, b26, b27, b28, b29, b30, b31] := by
 match l, h with
 | [b0, b1, b2, b3, b4, b5, b6, b7, b8, b9, b10, b11, b12, b13, b14, b15, b16, b17, b18, b19, b20, b21, b22, b23, b24, b25, b26, b27, b28, b29, b30, b31], _ => exact ⟨b0, b1, b2, b3, b4, b5, b6, b7, b8, b9, b10, b11, b12, b13, b14, b15, b16, b17, b18, b19, b20, b21, b22, b23, b24, b25, b26, b27, b28, b29, b30, b31, rfl⟩
theorem rlogr_fn {B : Base} {t : Itm} {s0 : Plc} (ht : ItAt B t s0) (hsm : Sm 200000 t) :
  Does Try.prog 54 [.agg (itE t s0)] B (fun g : LogV => .tup [.agg g.ev, .int .i64 ((logT t).2 : Nat)]) (fun g B' => g.Ok B' ∧ ((logT t).2 = 0 → g.body = (logT t).1)) := by
 refine fn_of en54 (fun s B B' hB hR => ⟨hR.1.ext hB, hR.2⟩) Try.func54 rfl in54 (by simp [Try.f54]) (by simp [closeds, closed]) (fun B0 hB0 => next_of 1000 ?_)
 replace ht := ht.ext hB0
 have hz22 : z22 = g0.ev := rfl
 have hg0 : ∀ B (e : Nat), e ≠ 0 → g0.Ok B ∧ (e = 0 → g0.body = (logT t).1) := fun B e he => ⟨g0_ok B, fun h => absurd h he⟩
 have hL := rasList_fn ht 3 3 (by omega) (Nat.le_refl _)
 repeat' (simp (maxSteps := 4000000) (disch := omega) only [go_sem, ↓reduceIte, Try.f54])
 refine callS_f hL (fun _ => by simp [closed, closeds]) (fun u B2 hB2 hR2 => next_of 1000 ?_)
 change BExt B0 B2 at hB2
 by_cases hz : (asL t 3 3).2 = 0
 ·obtain ⟨hk1, hk2⟩ := asL_ok hz
  obtain ⟨k0, k1, k2, hks⟩ := three_of hk2
  have hM : logT t = (logB k0 k1 k2, logE3 k0 k1 k2) := by rw [logT, if_neg (by omega), hks]
  obtain ⟨kA, kc, qs⟩ := u
  simp only at hR2
  have hqm := hR2.m
  rw [hk1, hks] at hqm
  obtain ⟨q0, q1, q2, rfl⟩ := three_of (l := qs) (by have := congrArg List.length hqm; simpa using this)
  simp only [List.map_cons, List.map_nil, List.cons.injEq, and_true] at hqm
  obtain ⟨rfl, rfl, rfl⟩ := hqm
  have i0 := hR2.ok q0 (by simp)
  have i1 := hR2.ok q1 (by simp)
  have i2 := hR2.ok q2 (by simp)
  have hsk := fun (q : Itm) (hq : q ∈ t.kids) => hsm.kid hq
  have hs1 : Sm 200000 q1.1 := hsk _ (by rw [hks]; simp)
  have hs2 : Sm 200000 q2.1 := hsk _ (by rw [hks]; simp)
  obtain ⟨d1, d2, d3, d4⟩ := kid_ld hR2.c (i := 0) (by simp)
  simp only [Nat.zero_mul, List.getElem_cons_zero] at d1 d3
  have hl3 : (asL t 3 3).1.length = 3 := by rw [hk1, hk2]
  rw [hz, hl3]
  repeat' (first | with_reducible refine And.intro (by first | omega | assumption | (constructor <;> assumption) | (simp; done) | (simp; omega) | (simp [*]; done) | ((repeat' refine And.intro ?_ ?_) <;> first | omega | assumption | (refine SlOk.so (n := ?_) ?_ ?_; rotate_left; assumption; omega) | (simp; done) | fail) | fail) ?_ | simp (maxSteps := 4000000) (disch := omega) only [go_sem, ↓reduceIte, d1])
  refine callS_f (rasBytes_fn i0 20 20 (by omega) (Nat.le_refl _)) (fun _ => by simp [closed, closeds]) (fun u3 B3 hB3 hR3 => next_of 1000 ?_)
  change BExt B2 B3 at hB3
  by_cases hz0 : (asB q0.1 20 20).2 = 0
  ·obtain ⟨a1, a2, a3, a4⟩ := asB_inv hz0
   obtain ⟨ad, had⟩ : ∃ ad, ad = (asB q0.1 20 20).1 := ⟨_, rfl⟩
   have hal : ad.length = 20 := by rw [had, a2]; omega
   rw [← had] at hR3
   obtain ⟨pa, hpa, hpl, hpD, hpL⟩ := ptr_bytes hR3.1 (by omega)
   rw [hal] at hpl hpL
   rw [hz0, ← had, hal, hpa]
   repeat' (simp (maxSteps := 4000000) (disch := omega) only [go_sem, ↓reduceIte])
   refine arrayR rfl Try.underlying33 rfl (Nat.le_refl _) (next_of 1000 ?_)
   have hlb : splice [.int .u8 0, .int .u8 0, .int .u8 0, .int .u8 0, .int .u8 0, .int .u8 0, .int .u8 0, .int .u8 0, .int .u8 0, .int .u8 0, .int .u8 0, .int .u8 0, .int .u8 0, .int .u8 0, .int .u8 0, .int .u8 0, .int .u8 0, .int .u8 0, .int .u8 0, .int .u8 0, .raw (.slice none 0 0), .raw (.slice none 0 0)] 0 (ad.map bE) = logE ad (.raw (.slice none 0 0)) (.raw (.slice none 0 0)) := log_build hal
   have f1 : ∀ u v, oneAll (logE ad (.raw u) (.raw v)) = (u.oneCell' && v.oneCell') := fun u v => by rw [oneAll_logE]; rfl
   have f2 : ∀ u v, (logE ad u v).length = 22 := fun u v => logE_len hal
   have f3 : ∀ u v d, (logE ad u v).getD 20 d = u := fun u v d => logE_20 hal
   have f5 : ∀ u v d, (logE ad u v).set 20 d = logE ad d v := fun u v d => logE_s20 hal
   have f6 : ∀ u v d, (logE ad u v).set 21 d = logE ad u d := fun u v d => logE_s21 hal
   have f8 : ∀ u v, List.take 22 (logE ad u v) = logE ad u v := fun u v => logE_take hal
   have hlc0 : ∀ n u v, closeds n (logE ad (.raw u) (.raw v)) := fun n u v => logE_closed (by simp [closed]) (by simp [closed])
   have hlc5 : ∀ a c v, closeds 4 (logE ad (.sl 3 0 a c) (.raw v)) := fun a c v => logE_closed (by simp [closed]) (by simp [closed])
   have hbl : (ad.map bE).length = 20 := by rw [List.length_map, hal]
   have hb1 := bE_one ad
   repeat' (first | with_reducible refine And.intro (by first | omega | assumption | (constructor <;> assumption) | (simp; done) | (simp; omega) | (simp [*]; done) | ((repeat' refine And.intro ?_ ?_) <;> first | omega | assumption | (refine SlOk.so (n := ?_) ?_ ?_; rotate_left; assumption; omega) | (simp; done) | fail) | fail) ?_ | simp (maxSteps := 4000000) (disch := omega) only [go_sem, ↓reduceIte, hpl, hlb, hbl, hb1, f1, f2, f3, f5, f6, f8, logE_splice hal])
   --LOOP
   have hg0' : ∀ B (e : Nat), e ≠ 0 → g0.Ok B ∧ (e = 0 → g0.body = (logB q0.1 q1.1 q2.1)) := fun B e he => ⟨g0_ok B, fun h => absurd h he⟩
   have eN : ∀ r n, lE r n none = .raw (.slice none 0 0) := fun _ _ => rfl
   have oN : ∀ T xs, lO T xs none = none := fun _ _ => rfl
   have cn : ∀ n, clO n (none : Option EObj) = True := fun n => by simp [clO]
   obtain ⟨m1, m2, m3, m4⟩ := kid_ld (hR2.c.ext hB3) (i := 1) (by simp)
   simp only [Nat.one_mul, List.getElem_cons_succ, List.getElem_cons_zero] at m1 m3
   repeat' (first | with_reducible refine And.intro (by first | omega | assumption | (constructor <;> assumption) | (simp; done) | (simp; omega) | (simp [*]; done) | ((repeat' refine And.intro ?_ ?_) <;> first | omega | assumption | (refine SlOk.so (n := ?_) ?_ ?_; rotate_left; assumption; omega) | (simp; done) | fail) | fail) ?_ | simp (maxSteps := 4000000) (disch := omega) only [go_sem, ↓reduceIte, m1, f1, f2, f3, f5, f6, f8])
   have hA1 := rasList_fn (i1.ext hB3) 0 1073741824 (by omega) (by omega)
   rw [asL_hi hs1.kids] at hA1
   refine callS_f hA1 (fun _ => by simp [closed, closeds]) (fun v B4 hB4 hR4 => next_of 1000 ?_)
   change BExt B3 B4 at hB4
   by_cases hz1 : (asL q1.1 0 many).2 = 0
   ·obtain ⟨tA, tc, qs⟩ := v
    simp only at hR4
    obtain ⟨ts, hts⟩ : ∃ ts, ts = (asL q1.1 0 many).1 := ⟨_, rfl⟩
    rw [← hts] at hR4
    rw [← hts, hz1]
    have htl : ts.length ≤ 200000 := by rw [hts]; exact (asL_small hs1).1
    have hql : qs.length = ts.length := by rw [← hR4.m, List.length_map]
    repeat' (simp (maxSteps := 4000000) (disch := omega) only [go_sem, ↓reduceIte, f1, f2, f3, f5, f6, f8])
    refine loopU (S := Nat × Lst × Base) (fun s => s.1 ≤ ts.length ∧ lOk z32 s.1 s.2.1 ∧ BExt B4 s.2.2 ∧ ∀ j (hj : j < s.1) (hj2 : j < ts.length), (asB ts[j] 32 32).2 = 0)
     (fun s => ⟨[(50, .int .i64 (s.1 : Nat)), (49, .int .i64 (ts.length : Nat)), (48, .raw (.slice tA ts.length tc)), (7, .ptr 2 0), (4, .raw (.slice kA 3 kc)), (2, .ptr 1 0), (1, .ptr 0 0)], 4,
      [(3, lO 38 ((topsM (ts.take s.1)).map bE) s.2.1), (2, some (.cells (logE ad (lE 3 s.1 s.2.1) (.raw (.slice none 0 0))) 36 (0, 0))), (1, some (.cells z22 36 (0, 0))), (0, some (.cells (itE t s0) 79 (0, 0)))], s.2.2, []⟩)
     (fun s => ts.length - s.1) (0, none, B4) ⟨Nat.zero_le _, rfl, BExt.refl _, fun j hj => absurd hj (Nat.not_lt_zero j)⟩ (Weak.sub (weak_of (by simp [wσ, go_sem, closed, closeds, lE_closed, eN, oN, cn, EObj.closed, topsM, z22, List.replicate, hlc0, List.take_zero] <;> omega) (by simp [whs, Go.Ew.hget, go_sem, EObj.closed, closed, closeds, lE_closed, eN, oN, cn, EObj.closed, topsM, z22, List.replicate, hlc0, List.take_zero]) (by simp [*]) rfl rfl (by simp))) ?_
    rintro ⟨i, l, B5⟩ ⟨hi, hl, hB5, hzs⟩
    simp only at hi hl hB5 hzs ⊢
    replace hR4 := hR4.ext hB5
    have htpl : (topsM (ts.take i)).length = i * 32 := by rw [topsM_len, List.length_take]; omega
    rcases Nat.lt_or_ge i ts.length with hi2 | hi2
    ·have cA : decide ((i : Int) < (ts.length : Int)) = true := decide_eq_true (by omega)
     obtain ⟨n1, n2, n3, n4⟩ := kid_ld hR4.c (i := i) (by omega)
     have ik := hR4.ok _ (List.getElem_mem (show i < qs.length by omega))
     have hqi : (qs[i]'(by omega)).1 = ts[i] := by
      have h1 : (qs.map Prod.fst)[i]? = ts[i]? := by rw [hR4.m]
      rw [List.getElem?_map, List.getElem?_eq_getElem (show i < qs.length by omega), List.getElem?_eq_getElem hi2] at h1
      simpa using h1
     have htt := topsM_take hi2
     rw [← hqi] at htt
     obtain ⟨q, hq0⟩ : ∃ q, q = qs[i]'(by omega) := ⟨_, rfl⟩
     have hqi' : q.1 = ts[i] := by rw [hq0]; exact hqi
     rw [← hq0] at n1 ik htt
     obtain ⟨TP, hTP⟩ : ∃ TP, TP = topsM (ts.take i) := ⟨_, rfl⟩
     rw [← hTP] at htt htpl ⊢
     refine next_of 1000 ?_
     rcases l with _ | ⟨cp0, rest0⟩
     ·have hi0 : i = 0 := hl
      simp only [eN, oN]
      repeat' (first | with_reducible refine And.intro (by first | omega | assumption | (constructor <;> assumption) | (simp; done) | (simp; omega) | (simp [*]; done) | ((repeat' refine And.intro ?_ ?_) <;> first | omega | assumption | (refine SlOk.so (n := ?_) ?_ ?_; rotate_left; assumption; omega) | (simp; done) | fail) | fail) ?_ | simp (maxSteps := 4000000) (disch := omega) only [go_sem, ↓reduceIte, cA, Int.toNat_natCast, n1, f1, f2, f3, f5, f6, f8])
      refine callS_f (rasBytes_fn ik 32 32 (by omega) (Nat.le_refl _)) (fun _ => by simp [closed, closeds]) (fun u6 B6 hB6 hR6 => next_of 1000 ?_)
      change BExt B5 B6 at hB6
      by_cases hze : (asB q.1 32 32).2 = 0
      ·obtain ⟨x1, x2, x3, x4⟩ := asB_inv hze
       obtain ⟨hh, hhd⟩ : ∃ hh, hh = (asB q.1 32 32).1 := ⟨_, rfl⟩
       have hhl : hh.length = 32 := by rw [hhd, x2]; omega
       have hfx : fixB 32 q.1 = hh := by rw [fixB, if_pos hze, hhd]
       rw [← hhd] at hR6
       obtain ⟨pb, hpb, hbl2, hbD, hbL⟩ := ptr_bytes hR6.1 (by omega)
       rw [hhl] at hbl2 hbL
       rw [hze, ← hhd, hhl, hpb]
       rw [hfx] at htt
       obtain ⟨b0, b1, b2, b3, b4, b5, b6, b7, b8, b9, b10, b11, b12, b13, b14, b15, b16, b17, b18, b19, b20, b21, b22, b23, b24, b25, b26, b27, b28, b29, b30, b31, rfl⟩ := thirtytwo hhl
       simp only [List.map_cons, List.map_nil, bE] at hbl2
       have hzx : ints .u8 (fun _ => (0 : Int)) 32 = [.int .u8 0, .int .u8 0, .int .u8 0, .int .u8 0, .int .u8 0, .int .u8 0, .int .u8 0, .int .u8 0, .int .u8 0, .int .u8 0, .int .u8 0, .int .u8 0, .int .u8 0, .int .u8 0, .int .u8 0, .int .u8 0, .int .u8 0, .int .u8 0, .int .u8 0, .int .u8 0, .int .u8 0, .int .u8 0, .int .u8 0, .int .u8 0, .int .u8 0, .int .u8 0, .int .u8 0, .int .u8 0, .int .u8 0, .int .u8 0, .int .u8 0, .int .u8 0] := rfl
       repeat' (first | with_reducible refine And.intro (by first | omega | assumption | (constructor <;> assumption) | (simp; done) | (simp; omega) | (simp [*]; done) | ((repeat' refine And.intro ?_ ?_) <;> first | omega | assumption | (refine SlOk.so (n := ?_) ?_ ?_; rotate_left; assumption; omega) | (simp; done) | fail) | fail) ?_ | simp (maxSteps := 4000000) (disch := omega) only [go_sem, ↓reduceIte, f1, f2, f3, f5, f6, f8] | with_reducible refine drawT_of (id := 17) [0, 1, 2, 3, 4, 5, 6, 7, 8] mixed (by kernel_rfl) (by simp) (fun hin => dt_of 1000 hin ?_))
       refine arrayRT rfl Try.underlying38 rfl (Nat.le_refl _) (fun hin3 => dt_of 1000 hin3 ?_)
       repeat' (first | with_reducible refine And.intro (by first | omega | assumption | (constructor <;> assumption) | (simp; done) | (simp; omega) | (simp [*]; done) | ((repeat' refine And.intro ?_ ?_) <;> first | omega | assumption | (refine SlOk.so (n := ?_) ?_ ?_; rotate_left; assumption; omega) | (simp; done) | fail) | fail) ?_ | simp (maxSteps := 4000000) (disch := omega) only [go_sem, ↓reduceIte, hbl2, hzx, f1, f2, f3, f5, f6, f8])
       refine appT (c := True) (zs := z32) (xs := TP.map bE) (m := 1) (news := [b0, b1, b2, b3, b4, b5, b6, b7, b8, b9, b10, b11, b12, b13, b14, b15, b16, b17, b18, b19, b20, b21, b22, b23, b24, b25, b26, b27, b28, b29, b30, b31].map bE) (T := 38) (l := none) 69 3 i [100068] rfl rfl Try.underlying34 (.inl ⟨_, Try.underlying34⟩) zr38 cz38 (by simp [z32, ints]) z32_closed rfl rfl rfl hl (by rw [List.length_map, htpl]; rfl) (closeds_bE 0 _) (fun B hs hB hfb => ⟨_, src_own (m := 1) (by rw [hfb 100068 (by simp)]; rfl) rfl, by simp [z32, ints_len]⟩) (bE_one _) (closeds_bE 0 _) (by simp only [maxLen]; omega) (by rw [show Try.prog.bytesOf 38 = 32 from by38]; omega) (by simp) (by kernel_rfl) (ck_of (by kernel_rfl) (nmT_of (by kernel_rfl))) (fun l2 hl2 => dt_of 1000 (by assumption) ?_)
       have hl2' := hl2
       have hE69 := lO_av (T := 38) hl2 (closeds_append.2 ⟨closeds_bE 0 TP, closeds_bE 0 [b0, b1, b2, b3, b4, b5, b6, b7, b8, b9, b10, b11, b12, b13, b14, b15, b16, b17, b18, b19, b20, b21, b22, b23, b24, b25, b26, b27, b28, b29, b30, b31]⟩) z32_closed
       obtain ⟨cp, rest, rfl, -⟩ := lst_some hl2 (by omega)
       simp only [lE_some]
       repeat' (first | with_reducible refine And.intro (by first | omega | assumption | (constructor <;> assumption) | (simp; done) | (simp; omega) | (simp [*]; done) | ((repeat' refine And.intro ?_ ?_) <;> first | omega | assumption | (refine SlOk.so (n := ?_) ?_ ?_; rotate_left; assumption; omega) | (simp; done) | fail) | fail) ?_ | simp (maxSteps := 4000000) (disch := omega) only [go_sem, ↓reduceIte, f1, f2, f3, f5, f6, f8])
       refine endT_of (by kernel_rfl) ((nmT_rv [100069] (by kernel_rfl) (by with_unfolding_all (repeat' (first | exact True.intro | exact none_av | exact hE69 | refine And.intro ?_ ?_))))) ?_
       have hev : TP.map bE ++ [b0, b1, b2, b3, b4, b5, b6, b7, b8, b9, b10, b11, b12, b13, b14, b15, b16, b17, b18, b19, b20, b21, b22, b23, b24, b25, b26, b27, b28, b29, b30, b31].map bE = (topsM (ts.take (i + 1))).map bE := by rw [htt, List.map_append]
       have hev2 := hev
       have hev3 := hev
       simp only [List.map_cons, List.map_nil, bE] at hev2
       simp only [List.map_cons, List.map_nil] at hev3
       have hpk := pkO_lO (T := 38) (ks := [100069]) (k := 3) (show lOk z32 (i + 1) (some (cp, rest)) from hl2') (closeds_bE 0 (topsM (ts.take (i + 1)))) z32_closed
       refine packS [100069] 3 (by simp) (by simp) (by simp) (by simp) (next_of 1000 ?_)
       have cl2 : ∀ n, clO n (lO 38 ((topsM (ts.take (i + 1))).map bE) (some (cp, rest))) = True := fun n => clO_lO hl2' (closeds_bE 0 _) z32_closed
       have hlk : lOk z32 (i + 1) (some (cp, rest)) := hl2'
       repeat' (simp (maxSteps := 4000000) (disch := omega) only [go_sem, ↓reduceIte, hev, hev2, hev3, okC, okE, okCs, okCs_log, rens_log, z22_ok, z22_ren, pkO_some, hpk, pkO_none, lE_some])
       refine ⟨(i + 1, some (cp, rest), B6), ⟨hi2, hlk, hB5.trans hB6, fun j hj hj2 => ?_⟩, Weak.sub (weak_of (by simp [wσ, go_sem, closed, closeds, lE_closed, cl2, lE_some, hlc0, hlc5, hev, hev2, hev3, hpk, z22_ok, z22_ren, z22_cl, okCs_log, rens_log, okC, ren] <;> omega) (by simp [whs, Go.Ew.hget, go_sem, EObj.closed, closed, closeds, lE_closed, cl2, lE_some, hlc0, hlc5, hev, hev2, hev3, hpk, z22_ok, z22_ren, z22_cl, okCs_log, rens_log, okC, ren]) (by simp [*]) rfl rfl (by simp)), by simp only; omega⟩
       rcases Nat.lt_or_ge j i with h3 | h3
       ·exact hzs j h3 hj2
       ·obtain rfl : j = i := by omega
        rw [← hqi']; exact hze
      ·have hat := errT_at (ts := ts) (i := i) hi2 hzs (by rw [← hqi']; exact hze)
       rw [← hqi'] at hat
       have hEE : logE3 q0.1 q1.1 q2.1 = (asB q.1 32 32).2 := by
        rw [logE3, ← hts, hz0, hz1, kp_zero, hat, kp_ne hze]
       rw [hM, hEE]
       have h0 := hg0' B6 _ hze
       obtain ⟨E, hE⟩ : ∃ E, E = (asB q.1 32 32).2 := ⟨_, rfl⟩
       rw [← hE] at hze h0 ⊢
       have hei : ((E : Nat) : Int) ≠ 0 := by omega
       have hzl : z22 = [.int .u8 0, .int .u8 0, .int .u8 0, .int .u8 0, .int .u8 0, .int .u8 0, .int .u8 0, .int .u8 0, .int .u8 0, .int .u8 0, .int .u8 0, .int .u8 0, .int .u8 0, .int .u8 0, .int .u8 0, .int .u8 0, .int .u8 0, .int .u8 0, .int .u8 0, .int .u8 0, .raw (.slice none 0 0), .raw (.slice none 0 0)] := rfl
       repeat' (first | simp (maxSteps := 4000000) (disch := omega) only [go_sem, ↓reduceIte, hzl, f1, f2, f3, f5, f6, f8] | ((first | refine condS_split (fun h => ?_) (fun h => ?_) | refine testS_split (fun h => ?_) (fun h => ?_) | refine testT_split (fun h => ?_) (fun h => ?_)) <;> (try simp only [bne_iff_ne, ne_eq, beq_iff_eq, decide_eq_true_eq, decide_eq_false_iff_not, Bool.not_eq_true, Bool.not_eq_false, Bool.not_true, Bool.not_false, bne_eq_false_iff_eq, beq_eq_false_iff_ne, Bool.and_eq_true, Bool.or_eq_true, Bool.and_eq_false_imp, Bool.or_eq_false_iff, Bool.not_eq_true', Bool.not_eq_false', Int.not_lt, Int.not_le] at h) <;> (try (exfalso; omega))))
       exact ⟨hB2.trans (hB3.trans (hB4.trans (hB5.trans hB6))), g0, rfl, ⟨z22_cl 0, trivial, trivial⟩, h0⟩
     ·simp only [lE_some]
      repeat' (first | with_reducible refine And.intro (by first | omega | assumption | (constructor <;> assumption) | (simp; done) | (simp; omega) | (simp [*]; done) | ((repeat' refine And.intro ?_ ?_) <;> first | omega | assumption | (refine SlOk.so (n := ?_) ?_ ?_; rotate_left; assumption; omega) | (simp; done) | fail) | fail) ?_ | simp (maxSteps := 4000000) (disch := omega) only [go_sem, ↓reduceIte, cA, Int.toNat_natCast, n1, f1, f2, f3, f5, f6, f8])
      refine callS_f (rasBytes_fn ik 32 32 (by omega) (Nat.le_refl _)) (fun _ => by simp [closed, closeds]) (fun u6 B6 hB6 hR6 => next_of 1000 ?_)
      change BExt B5 B6 at hB6
      by_cases hze : (asB q.1 32 32).2 = 0
      ·obtain ⟨x1, x2, x3, x4⟩ := asB_inv hze
       obtain ⟨hh, hhd⟩ : ∃ hh, hh = (asB q.1 32 32).1 := ⟨_, rfl⟩
       have hhl : hh.length = 32 := by rw [hhd, x2]; omega
       have hfx : fixB 32 q.1 = hh := by rw [fixB, if_pos hze, hhd]
       rw [← hhd] at hR6
       obtain ⟨pb, hpb, hbl2, hbD, hbL⟩ := ptr_bytes hR6.1 (by omega)
       rw [hhl] at hbl2 hbL
       rw [hze, ← hhd, hhl, hpb]
       rw [hfx] at htt
       obtain ⟨b0, b1, b2, b3, b4, b5, b6, b7, b8, b9, b10, b11, b12, b13, b14, b15, b16, b17, b18, b19, b20, b21, b22, b23, b24, b25, b26, b27, b28, b29, b30, b31, rfl⟩ := thirtytwo hhl
       simp only [List.map_cons, List.map_nil, bE] at hbl2
       have hzx : ints .u8 (fun _ => (0 : Int)) 32 = [.int .u8 0, .int .u8 0, .int .u8 0, .int .u8 0, .int .u8 0, .int .u8 0, .int .u8 0, .int .u8 0, .int .u8 0, .int .u8 0, .int .u8 0, .int .u8 0, .int .u8 0, .int .u8 0, .int .u8 0, .int .u8 0, .int .u8 0, .int .u8 0, .int .u8 0, .int .u8 0, .int .u8 0, .int .u8 0, .int .u8 0, .int .u8 0, .int .u8 0, .int .u8 0, .int .u8 0, .int .u8 0, .int .u8 0, .int .u8 0, .int .u8 0, .int .u8 0] := rfl
       repeat' (first | with_reducible refine And.intro (by first | omega | assumption | (constructor <;> assumption) | (simp; done) | (simp; omega) | (simp [*]; done) | ((repeat' refine And.intro ?_ ?_) <;> first | omega | assumption | (refine SlOk.so (n := ?_) ?_ ?_; rotate_left; assumption; omega) | (simp; done) | fail) | fail) ?_ | simp (maxSteps := 4000000) (disch := omega) only [go_sem, ↓reduceIte, f1, f2, f3, f5, f6, f8] | with_reducible refine drawT_of (id := 17) [0, 1, 2, 3, 4, 5, 6, 7, 8] mixed (by kernel_rfl) (by simp) (fun hin => dt_of 1000 hin ?_))
       refine arrayRT rfl Try.underlying38 rfl (Nat.le_refl _) (fun hin3 => dt_of 1000 hin3 ?_)
       repeat' (first | with_reducible refine And.intro (by first | omega | assumption | (constructor <;> assumption) | (simp; done) | (simp; omega) | (simp [*]; done) | ((repeat' refine And.intro ?_ ?_) <;> first | omega | assumption | (refine SlOk.so (n := ?_) ?_ ?_; rotate_left; assumption; omega) | (simp; done) | fail) | fail) ?_ | simp (maxSteps := 4000000) (disch := omega) only [go_sem, ↓reduceIte, hbl2, hzx, f1, f2, f3, f5, f6, f8])
       refine appT (c := True) (zs := z32) (xs := TP.map bE) (m := 1) (news := [b0, b1, b2, b3, b4, b5, b6, b7, b8, b9, b10, b11, b12, b13, b14, b15, b16, b17, b18, b19, b20, b21, b22, b23, b24, b25, b26, b27, b28, b29, b30, b31].map bE) (T := 38) (l := (some (cp0, rest0))) 69 3 i [100068] rfl rfl Try.underlying34 (.inl ⟨_, Try.underlying34⟩) zr38 cz38 (by simp [z32, ints]) z32_closed rfl rfl rfl hl (by rw [List.length_map, htpl]; rfl) (closeds_bE 0 _) (fun B hs hB hfb => ⟨_, src_own (m := 1) (by rw [hfb 100068 (by simp)]; rfl) rfl, by simp [z32, ints_len]⟩) (bE_one _) (closeds_bE 0 _) (by simp only [maxLen]; omega) (by rw [show Try.prog.bytesOf 38 = 32 from by38]; omega) (by simp) (by kernel_rfl) (ck_of (by kernel_rfl) (nmT_of (by kernel_rfl))) (fun l2 hl2 => dt_of 1000 (by assumption) ?_)
       have hl2' := hl2
       have hE69 := lO_av (T := 38) hl2 (closeds_append.2 ⟨closeds_bE 0 TP, closeds_bE 0 [b0, b1, b2, b3, b4, b5, b6, b7, b8, b9, b10, b11, b12, b13, b14, b15, b16, b17, b18, b19, b20, b21, b22, b23, b24, b25, b26, b27, b28, b29, b30, b31]⟩) z32_closed
       obtain ⟨cp, rest, rfl, -⟩ := lst_some hl2 (by omega)
       simp only [lE_some]
       repeat' (first | with_reducible refine And.intro (by first | omega | assumption | (constructor <;> assumption) | (simp; done) | (simp; omega) | (simp [*]; done) | ((repeat' refine And.intro ?_ ?_) <;> first | omega | assumption | (refine SlOk.so (n := ?_) ?_ ?_; rotate_left; assumption; omega) | (simp; done) | fail) | fail) ?_ | simp (maxSteps := 4000000) (disch := omega) only [go_sem, ↓reduceIte, f1, f2, f3, f5, f6, f8])
       refine endT_of (by kernel_rfl) ((nmT_rv [100069] (by kernel_rfl) (by with_unfolding_all (repeat' (first | exact True.intro | exact none_av | exact hE69 | refine And.intro ?_ ?_))))) ?_
       have hev : TP.map bE ++ [b0, b1, b2, b3, b4, b5, b6, b7, b8, b9, b10, b11, b12, b13, b14, b15, b16, b17, b18, b19, b20, b21, b22, b23, b24, b25, b26, b27, b28, b29, b30, b31].map bE = (topsM (ts.take (i + 1))).map bE := by rw [htt, List.map_append]
       have hev2 := hev
       have hev3 := hev
       simp only [List.map_cons, List.map_nil, bE] at hev2
       simp only [List.map_cons, List.map_nil] at hev3
       have hpk := pkO_lO (T := 38) (ks := [100069]) (k := 3) (show lOk z32 (i + 1) (some (cp, rest)) from hl2') (closeds_bE 0 (topsM (ts.take (i + 1)))) z32_closed
       refine packS [100069] 3 (by simp) (by simp) (by simp) (by simp) (next_of 1000 ?_)
       have cl2 : ∀ n, clO n (lO 38 ((topsM (ts.take (i + 1))).map bE) (some (cp, rest))) = True := fun n => clO_lO hl2' (closeds_bE 0 _) z32_closed
       have hlk : lOk z32 (i + 1) (some (cp, rest)) := hl2'
       repeat' (simp (maxSteps := 4000000) (disch := omega) only [go_sem, ↓reduceIte, hev, hev2, hev3, okC, okE, okCs, okCs_log, rens_log, z22_ok, z22_ren, pkO_some, hpk, pkO_none, lE_some])
       refine ⟨(i + 1, some (cp, rest), B6), ⟨hi2, hlk, hB5.trans hB6, fun j hj hj2 => ?_⟩, Weak.sub (weak_of (by simp [wσ, go_sem, closed, closeds, lE_closed, cl2, lE_some, hlc0, hlc5, hev, hev2, hev3, hpk, z22_ok, z22_ren, z22_cl, okCs_log, rens_log, okC, ren] <;> omega) (by simp [whs, Go.Ew.hget, go_sem, EObj.closed, closed, closeds, lE_closed, cl2, lE_some, hlc0, hlc5, hev, hev2, hev3, hpk, z22_ok, z22_ren, z22_cl, okCs_log, rens_log, okC, ren]) (by simp [*]) rfl rfl (by simp)), by simp only; omega⟩
       rcases Nat.lt_or_ge j i with h3 | h3
       ·exact hzs j h3 hj2
       ·obtain rfl : j = i := by omega
        rw [← hqi']; exact hze
      ·have hat := errT_at (ts := ts) (i := i) hi2 hzs (by rw [← hqi']; exact hze)
       rw [← hqi'] at hat
       have hEE : logE3 q0.1 q1.1 q2.1 = (asB q.1 32 32).2 := by
        rw [logE3, ← hts, hz0, hz1, kp_zero, hat, kp_ne hze]
       rw [hM, hEE]
       have h0 := hg0' B6 _ hze
       obtain ⟨E, hE⟩ : ∃ E, E = (asB q.1 32 32).2 := ⟨_, rfl⟩
       rw [← hE] at hze h0 ⊢
       have hei : ((E : Nat) : Int) ≠ 0 := by omega
       have hzl : z22 = [.int .u8 0, .int .u8 0, .int .u8 0, .int .u8 0, .int .u8 0, .int .u8 0, .int .u8 0, .int .u8 0, .int .u8 0, .int .u8 0, .int .u8 0, .int .u8 0, .int .u8 0, .int .u8 0, .int .u8 0, .int .u8 0, .int .u8 0, .int .u8 0, .int .u8 0, .int .u8 0, .raw (.slice none 0 0), .raw (.slice none 0 0)] := rfl
       repeat' (first | simp (maxSteps := 4000000) (disch := omega) only [go_sem, ↓reduceIte, hzl, f1, f2, f3, f5, f6, f8] | ((first | refine condS_split (fun h => ?_) (fun h => ?_) | refine testS_split (fun h => ?_) (fun h => ?_) | refine testT_split (fun h => ?_) (fun h => ?_)) <;> (try simp only [bne_iff_ne, ne_eq, beq_iff_eq, decide_eq_true_eq, decide_eq_false_iff_not, Bool.not_eq_true, Bool.not_eq_false, Bool.not_true, Bool.not_false, bne_eq_false_iff_eq, beq_eq_false_iff_ne, Bool.and_eq_true, Bool.or_eq_true, Bool.and_eq_false_imp, Bool.or_eq_false_iff, Bool.not_eq_true', Bool.not_eq_false', Int.not_lt, Int.not_le] at h) <;> (try (exfalso; omega))))
       exact ⟨hB2.trans (hB3.trans (hB4.trans (hB5.trans hB6))), g0, rfl, ⟨z22_cl 0, trivial, trivial⟩, h0⟩
    ·obtain rfl : i = ts.length := by omega
     have cA : decide ((ts.length : Int) < (ts.length : Int)) = false := decide_eq_false (by omega)
     rw [List.take_length] at htpl ⊢
     have hxl : ((topsM ts).map bE).length = ts.length * z32.length := by rw [List.length_map, htpl]; rfl
     refine freezeL (xs := (topsM ts).map bE) (T := 38) 3 ts.length rfl hl hxl (closeds_bE 0 _) z32_closed (by simp) (fun b2 fA fc B6 hB6 hf2' hD hso hcell => ?_)
     change BExt B5 B6 at hB6
     have hC : BytesAt B6 fA (topsM ts) := cellsAt_frz hD hso (fun h0 => by
      rw [h0, Nat.zero_mul] at htpl; have h9 := List.length_eq_zero_iff.1 htpl; rw [h9]; rfl) hcell (reals_bE _ _)
     simp only [frzσ, frz, frzs_log, frzs_z22, hf2', frzh_cons, frzh_nil, Nat.reduceEqDiff, if_false, if_true, ↓reduceIte, fzO_some, EObj.frz, frzs]
     have hB36 := hB4.trans (hB5.trans hB6)
     obtain ⟨r1, r2, r3, r4⟩ := kid_ld (hR2.c.ext (hB3.trans hB36)) (i := 2) (by simp)
     simp only [Nat.reduceMul, List.getElem_cons_succ, List.getElem_cons_zero] at r1 r3
     have hA2 := rasBytes_fn (i2.ext (hB3.trans hB36)) 0 1073741824 (by omega) (by omega)
     rw [asB_hi hs2.bytes] at hA2
     refine next_of 1000 ?_
     repeat' (first | with_reducible refine And.intro (by first | omega | assumption | (constructor <;> assumption) | (simp; done) | (simp; omega) | (simp [*]; done) | ((repeat' refine And.intro ?_ ?_) <;> first | omega | assumption | (refine SlOk.so (n := ?_) ?_ ?_; rotate_left; assumption; omega) | (simp; done) | fail) | fail) ?_ | simp (maxSteps := 4000000) (disch := omega) only [go_sem, ↓reduceIte, cA, r1, f1, f2, f3, f5, f6, f8] | with_reducible refine next_of 1000 ?_)
     refine callS_f hA2 (fun _ => by simp [closed, closeds]) (fun s8 B8 hB8 hR8 => next_of 1000 ?_)
     change BExt B6 B8 at hB8
     have hdl : (asB q2.1 0 many).1.length ≤ 200000 := asB_small hs2
     have hEE : logE3 q0.1 q1.1 q2.1 = (asB q2.1 0 many).2 := by
      rw [logE3, ← hts, hz0, hz1, kp_zero, errT_none (fun j hj2 => hzs j hj2 hj2), kp_zero]
     have hbd : logB q0.1 q1.1 q2.1 = (ad, ts.length, topsM ts, (asB q2.1 0 many).1) := by rw [logB, ← hts, fixB, if_pos hz0, had]
     have hlsp : ∀ u v, splice z22 0 (logE ad u v) = logE ad u v := fun u v => logE_splice hal _ _ _ _ _ _ _ _ _ _ _ _ _ _ _ _ _ _ _ _ _ _
     rw [hM, hEE, hbd]
     obtain ⟨E, hE⟩ : ∃ E, E = (asB q2.1 0 many).2 := ⟨_, rfl⟩
     rw [← hE]
     repeat' (first | with_reducible refine And.intro (by first | omega | assumption | (constructor <;> assumption) | (simp; done) | (simp; omega) | (simp [*]; done) | ((repeat' refine And.intro ?_ ?_) <;> first | omega | assumption | (refine SlOk.so (n := ?_) ?_ ?_; rotate_left; assumption; omega) | (simp; done) | fail) | fail) ?_ | simp (maxSteps := 4000000) (disch := omega) only [go_sem, ↓reduceIte, f1, f2, f3, f5, f6, f8, hlsp, show z22.length = 22 from rfl])
     exact ⟨hB2.trans (hB3.trans (hB36.trans hB8)), ⟨ad, fA, ts.length, fc, topsM ts, s8.1, (asB q2.1 0 many).1.length, s8.2, (asB q2.1 0 many).1⟩, rfl, ⟨logE_closed (by simp [closed]) (by simp [closed]), trivial, trivial⟩, ⟨hal, topsM_len ts, rfl, hC.ext hB8, hR8.1, by simp only; omega, by simp only; omega⟩, fun _ => rfl⟩
   ·have hEE : logE3 q0.1 q1.1 q2.1 = (asL q1.1 0 many).2 := by
     rw [logE3, hz0, kp_zero, errT_ne hz1, kp_ne hz1]
    rw [hM, hEE]
    have h0 := hg0' B4 _ hz1
    obtain ⟨E, hE⟩ : ∃ E, E = (asL q1.1 0 many).2 := ⟨_, rfl⟩
    rw [← hE] at hz1 h0 ⊢
    have hei : ((E : Nat) : Int) ≠ 0 := by omega
    repeat' (first | simp (maxSteps := 4000000) (disch := omega) only [go_sem, ↓reduceIte, f1, f2, f3, f5, f6, f8] | ((first | refine condS_split (fun h => ?_) (fun h => ?_) | refine testS_split (fun h => ?_) (fun h => ?_) | refine testT_split (fun h => ?_) (fun h => ?_)) <;> (try simp only [bne_iff_ne, ne_eq, beq_iff_eq, decide_eq_true_eq, decide_eq_false_iff_not, Bool.not_eq_true, Bool.not_eq_false, Bool.not_true, Bool.not_false, bne_eq_false_iff_eq, beq_eq_false_iff_ne, Bool.and_eq_true, Bool.or_eq_true, Bool.and_eq_false_imp, Bool.or_eq_false_iff, Bool.not_eq_true', Bool.not_eq_false', Int.not_lt, Int.not_le] at h) <;> (try (exfalso; omega))))
    exact ⟨hB2.trans (hB3.trans hB4), g0, rfl, ⟨z22_cl 0, trivial, trivial⟩, h0⟩
  ·have hEE : logE3 q0.1 q1.1 q2.1 = (asB q0.1 20 20).2 := by
    rw [logE3, kp_ne hz0, errT_ne hz0, kp_ne hz0]
   have hg0' : ∀ B (e : Nat), e ≠ 0 → g0.Ok B ∧ (e = 0 → g0.body = (logB q0.1 q1.1 q2.1)) := fun B e he => ⟨g0_ok B, fun h => absurd h he⟩
   rw [hM, hEE]
   have h0 := hg0' B3 _ hz0
   obtain ⟨E, hE⟩ : ∃ E, E = (asB q0.1 20 20).2 := ⟨_, rfl⟩
   rw [← hE] at hz0 h0 ⊢
   have hei : ((E : Nat) : Int) ≠ 0 := by omega
   repeat' (first | simp (maxSteps := 4000000) (disch := omega) only [go_sem, ↓reduceIte] | ((first | refine condS_split (fun h => ?_) (fun h => ?_) | refine testS_split (fun h => ?_) (fun h => ?_) | refine testT_split (fun h => ?_) (fun h => ?_)) <;> (try simp only [bne_iff_ne, ne_eq, beq_iff_eq, decide_eq_true_eq, decide_eq_false_iff_not, Bool.not_eq_true, Bool.not_eq_false, Bool.not_true, Bool.not_false, bne_eq_false_iff_eq, beq_eq_false_iff_ne, Bool.and_eq_true, Bool.or_eq_true, Bool.and_eq_false_imp, Bool.or_eq_false_iff, Bool.not_eq_true', Bool.not_eq_false', Int.not_lt, Int.not_le] at h) <;> (try (exfalso; omega))))
   exact ⟨hB2.trans hB3, g0, rfl, ⟨z22_cl 0, trivial, trivial⟩, h0⟩
 ·have hM : (logT t).2 = (asL t 3 3).2 := by rw [logT, if_pos hz]
  rw [hM]
  have h0 := hg0 B2 _ hz
  obtain ⟨E, hE⟩ : ∃ E, E = (asL t 3 3).2 := ⟨_, rfl⟩
  rw [← hE] at hz h0 ⊢
  have hei : ((E : Nat) : Int) ≠ 0 := by omega
  repeat' (first | with_reducible refine And.intro (by first | omega | assumption | (constructor <;> assumption) | (simp; done) | (simp; omega) | (simp [*]; done) | ((repeat' refine And.intro ?_ ?_) <;> first | omega | assumption | (refine SlOk.so (n := ?_) ?_ ?_; rotate_left; assumption; omega) | (simp; done) | fail) | fail) ?_ | simp (maxSteps := 4000000) (disch := omega) only [go_sem, ↓reduceIte] | ((first | refine condS_split (fun h => ?_) (fun h => ?_) | refine testS_split (fun h => ?_) (fun h => ?_) | refine testT_split (fun h => ?_) (fun h => ?_)) <;> (try simp only [bne_iff_ne, ne_eq, beq_iff_eq, decide_eq_true_eq, decide_eq_false_iff_not, Bool.not_eq_true, Bool.not_eq_false, Bool.not_true, Bool.not_false, bne_eq_false_iff_eq, beq_eq_false_iff_ne, Bool.and_eq_true, Bool.or_eq_true, Bool.and_eq_false_imp, Bool.or_eq_false_iff, Bool.not_eq_true', Bool.not_eq_false', Int.not_lt, Int.not_le] at h) <;> (try (exfalso; omega))))
  first | exact ⟨hB2, g0, rfl, ⟨z22_cl 0, trivial, trivial⟩, h0⟩ | exact ⟨g0, rfl, ⟨z22_cl 0, trivial, trivial⟩, h0⟩
end Go.Proofs.Ytepabkjfnpaijaa
namespace Go.Proofs.Ytepabkjfnpaijaa
open Go RowKit Go.Ew
set_option maxHeartbeats 4000000
theorem in39 : codeIn Try.f39.ntmps (Try.f39.body.getD .skip) = true := by kernel_rfl
theorem rgood_fn {B : Base} {r : RcV} (h : LogsAt B r.lA r.L) : Does Try.prog 39 [.agg (rcE r)] B (fun _ : Unit => .bool (mayR r)) (fun _ _ => True) := by
 refine fn_of en39 (fun s B B' hB hR => hR) Try.func39 rfl in39 (by simp [Try.f39]) ⟨rc_closed 0 r, trivial⟩ (fun B0 hB0 => next_of 1000 ?_)
 replace h := h.ext hB0
 have hrc : ∀ n, closeds n (rcE r) := fun n => rc_closed n r
 repeat' (first | with_reducible refine And.intro (by omega) ?_ | simp (maxSteps := 4000000) (disch := omega) only [go_sem, ↓reduceIte, Try.f39, rc_len, rc_0, rc_1, rc_2, rc_259, rc_bl, rc_one])
 refine loopU (S := Nat) (fun i => i ≤ r.L.length ∧ (r.L.take i).all (fun g => decide (g.tn ≤ 4)) = true)
  (fun i => ⟨[(8, .int .i64 (i : Nat)), (7, .int .i64 (r.L.length : Nat)), (6, .raw (.slice r.lA r.L.length r.lc)), (1, .ptr 0 0)], 1, [(0, some (.cells (rcE r) 45 (0, 0)))], B0, []⟩)
  (fun i => r.L.length - i) 0 ⟨Nat.zero_le _, rfl⟩ (Weak.sub (weak_of (by simp [wσ, go_sem, closed, closeds, lE_closed, hrc] <;> omega) (by simp [whs, Go.Ew.hget, go_sem, EObj.closed, closed, closeds, lE_closed, hrc]) (by simp [*]) rfl rfl (by simp))) ?_
 rintro i ⟨hi, hall⟩
 have hlen := h.len
 refine next_of 1000 ?_
 simp (maxSteps := 4000000) (disch := omega) only [go_sem, ↓reduceIte]
 repeat (with_reducible refine And.intro (by omega) ?_)
 refine condS_split (fun h2 => ?_) (fun h2 => ?_)
 all_goals (try simp only [bne_iff_ne, ne_eq, beq_iff_eq, decide_eq_true_eq, decide_eq_false_iff_not, Bool.not_eq_true, Bool.not_eq_false, Bool.not_true, Bool.not_false, bne_eq_false_iff_eq, beq_eq_false_iff_ne, Bool.and_eq_true, Bool.or_eq_true, Bool.and_eq_false_imp, Bool.or_eq_false_iff, Bool.not_eq_true', Bool.not_eq_false', Int.not_lt, Int.not_le] at h2)
 ·have hi2 : i < r.L.length := by omega
  obtain ⟨l1, l2, l3, l4⟩ := h.ld hi2
  have h1 := h.ok _ (List.getElem_mem hi2)
  have hm := List.getElem_mem hi2
  have htk : (r.L.take (i + 1)) = r.L.take i ++ [r.L[i]] := List.take_succ_eq_append_getElem hi2
  obtain ⟨g, hg⟩ : ∃ g, g = r.L[i] := ⟨_, rfl⟩
  rw [← hg] at l1 h1 htk hm
  have ht := h1.tb
  have f1 : oneAll g.ev = true := logE_one rfl rfl
  have f2 : ∀ u v, (logE g.ad u v).length = 22 := fun u v => logE_len h1.ha
  have f3 : ∀ u v d, (logE g.ad u v).getD 20 d = u := fun u v d => logE_20 h1.ha
  repeat' (first | with_reducible refine And.intro (by first | omega | (constructor <;> assumption) | (simp [*]; done)) ?_ | simp (maxSteps := 4000000) (disch := omega) only [go_sem, ↓reduceIte, Int.toNat_natCast, l1, f1, f2, f3, logE_splice h1.ha] | ((first | refine condS_split (fun h => ?_) (fun h => ?_) | refine testS_split (fun h => ?_) (fun h => ?_) | refine testT_split (fun h => ?_) (fun h => ?_)) <;> (try simp only [bne_iff_ne, ne_eq, beq_iff_eq, decide_eq_true_eq, decide_eq_false_iff_not, Bool.not_eq_true, Bool.not_eq_false, Bool.not_true, Bool.not_false, bne_eq_false_iff_eq, beq_eq_false_iff_ne, Bool.and_eq_true, Bool.or_eq_true, Bool.and_eq_false_imp, Bool.or_eq_false_iff, Bool.not_eq_true', Bool.not_eq_false', Int.not_lt, Int.not_le] at h) <;> (try (exfalso; omega))))
  ·have hx : mayR r = false := by
    have : (r.L.all fun g => decide (g.tn ≤ 4)) = false := by
     rw [List.all_eq_false]; exact ⟨g, hm, by simp; omega⟩
    rw [mayR, this]; rfl
   exact ⟨BExt.refl _, (), by rw [hx], by simp [closed]⟩
  ·exact ⟨i + 1, ⟨hi2, by rw [htk, List.all_append, hall]; simp; omega⟩, Weak.sub (weak_of (by simp [wσ, go_sem, closed, closeds, lE_closed, hrc] <;> omega) (by simp [whs, Go.Ew.hget, go_sem, EObj.closed, closed, closeds, lE_closed, hrc]) (by simp [*]) rfl rfl (by simp)), by omega⟩
 ·obtain rfl : i = r.L.length := by omega
  rw [List.take_length] at hall
  have hmr : mayR r = (decide ((r.ty.toNat : Int) ≤ 3) && (r.ok == 0 || r.ok == 1) && eqB r.F (allB zB (marksL r.L))) := by rw [mayR, hall]; rfl
  rw [hmr]
  have hof := refof_fn r.L r.L.length _ r.lA r.lc h rfl
  clear h
  repeat' (first | with_reducible refine And.intro (by omega) ?_ | simp (maxSteps := 4000000) (disch := omega) only [go_sem, ↓reduceIte, rc_len, rc_0, rc_1, rc_2, rc_259, rc_bl, rc_one, ints_isInt, eq8] | with_reducible refine drawT_of (id := 7) [0, 1, 2, 3, 4, 5, 6, 7, 8, 9, 10, 11, 12, 13, 14, 15, 16, 17, 18, 19, 20, 21] mixed (by kernel_rfl) (by simp) (fun hin => dt_of 1000 hin ?_) | with_reducible refine endT_of (by kernel_rfl) (nmT_of (by kernel_rfl)) (next_of 1000 ?_) | refine callT_fp (hof) (by simp [closed, closeds, closeds_ints, closed_wE]) (by kernel_rfl) (ck_of (by kernel_rfl) (nmT_of (by kernel_rfl))) (fun hin => dt_of 1000 hin ?_) | with_reducible refine next_of 1000 ?_ | ((first | refine condS_split (fun h => ?_) (fun h => ?_) | refine testS_split (fun h => ?_) (fun h => ?_) | refine testT_split (fun h => ?_) (fun h => ?_)) <;> (try simp only [bne_iff_ne, ne_eq, beq_iff_eq, decide_eq_true_eq, decide_eq_false_iff_not, Bool.not_eq_true, Bool.not_eq_false, Bool.not_true, Bool.not_false, bne_eq_false_iff_eq, beq_eq_false_iff_ne, Bool.and_eq_true, Bool.or_eq_true, Bool.and_eq_false_imp, Bool.or_eq_false_iff, Bool.not_eq_true', Bool.not_eq_false', Int.not_lt, Int.not_le] at h) <;> (try (exfalso; omega))))
  all_goals exact ⟨BExt.refl _, (), by simp_all <;> (intros; omega), by simp [closed]⟩
end Go.Proofs.Ytepabkjfnpaijaa
