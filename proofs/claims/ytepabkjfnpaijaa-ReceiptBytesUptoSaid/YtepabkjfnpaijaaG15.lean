/- Part of a proof over the seat Ytepabkjfnpaijaa. -/
import Derived.Test.YtepabkjfnpaijaaG14
import Derived.Test.YtepabkjfnpaijaaG12
set_option linter.unusedSimpArgs false
set_option linter.unusedVariables false
set_option maxRecDepth 100000
namespace Go.Proofs.Ytepabkjfnpaijaa
open Go RowKit Go.Ew
set_option maxHeartbeats 4000000
theorem in49 : codeIn Try.f49.ntmps (Try.f49.body.getD .skip) = true := by kernel_rfl
/-- An item none of whose parts is large. -/
inductive Sm (n : Nat) : Itm → Prop where
 | mk (l : Int) (b : List UInt8) (ks : List Itm) (hb : b.length ≤ n) (hk : ks.length ≤ n) (h : ∀ k ∈ ks, Sm n k) : Sm n (.mk l b ks)
theorem Sm.bytes {n : Nat} {t : Itm} (h : Sm n t) : t.bytes.length ≤ n := by cases h; assumption
theorem Sm.kids {n : Nat} {t : Itm} (h : Sm n t) : t.kids.length ≤ n := by cases h; assumption
theorem Sm.kid {n : Nat} {t k : Itm} (h : Sm n t) (hk : k ∈ t.kids) : Sm n k := by
 cases h with
 | mk l b ks hb hl h => exact h k hk
abbrev many : Nat := 1099511627776
theorem kp_zero (a : Nat) : kp 0 a = a := rfl
theorem kp_ne {a : Nat} (h : a ≠ 0) (b : Nat) : kp a b = a := if_neg h
/-- Bytes of a fixed length, or zeros. -/
def fixB (n : Nat) (t : Itm) : List UInt8 := if (asB t n n).2 = 0 then (asB t n n).1 else List.replicate n 0
theorem asB_len {t : Itm} {n : Nat} : ((asB t n n).2 = 0 → (asB t n n).1.length = n) ∧ ((asB t n n).2 ≠ 0 → (asB t n n).1 = []) := by
 unfold asB
 split
 ·simp
 ·split
  ·simp
  ·simp; omega
theorem fixB_len (n : Nat) (t : Itm) : (fixB n t).length = n := by
 unfold fixB
 split
 ·rename_i h; exact asB_len.1 h
 ·simp
/-- What a copy makes of zeros. -/
theorem fixB_copy (n : Nat) (t : Itm) (zs : List EV) (h : zs = (List.replicate n (0 : UInt8)).map bE) : ((asB t n n).1.map bE).take (min (asB t n n).1.length n) ++ zs.drop (min (asB t n n).1.length n) = (fixB n t).map bE := by
 unfold fixB
 split
 ·rename_i h0
  have := asB_len.1 h0
  rw [this, Nat.min_self, List.take_of_length_le (by simp [this]), List.drop_of_length_le (by rw [h]; simp), List.append_nil]
 ·rename_i h0
  rw [asB_len.2 h0]
  simp [h]
def z32 : List EV := ints .u8 (fun _ => 0) 32
theorem z32_closed : closeds 0 z32 := closeds_ints _ _ _ _
theorem fixB_copy_log (t : Itm) : List.take 0 z22 ++ List.take (min (asB t 20 20).1.length 20) ((asB t 20 20).1.map bE) ++ List.drop (0 + min (asB t 20 20).1.length 20) z22 = logE (fixB 20 t) (.raw (.slice none 0 0)) (.raw (.slice none 0 0)) := by
 have h := fixB_copy 20 t ((List.replicate 20 (0 : UInt8)).map bE) rfl
 have e : z22 = (List.replicate 20 (0 : UInt8)).map bE ++ [.raw (.slice none 0 0), .raw (.slice none 0 0)] := rfl
 rw [List.take_zero, List.nil_append, Nat.zero_add, e, List.drop_append_of_le_length (by simp; omega), ← List.append_assoc, h]
 rfl
theorem okCs_log (ks : List Nat) (k : Nat) (ad : List UInt8) (u v : EV) : okCs ks k (logE ad u v) = (okC ks k u && okC ks k v) := by
 unfold logE
 induction ad with
 | nil => simp [okCs]
 | cons a ad ih => simp only [List.map_cons, List.cons_append, okCs, ih]; simp [bE, okC]
theorem rens_log (ρ : Nat → Nat) (ad : List UInt8) (u v : EV) : rens ρ (logE ad u v) = logE ad (ren ρ u) (ren ρ v) := by
 rw [rens_map, logE, logE, List.map_append]
 congr 1
 rw [List.map_map]
 exact List.map_congr_left fun a _ => by simp [bE, ren]
theorem frzs_log (i b : Nat) (ad : List UInt8) (u v : EV) : frzs i b (logE ad u v) = logE ad (frz i b u) (frz i b v) := by
 unfold logE
 induction ad with
 | nil => rfl
 | cons a ad ih => simp only [List.map_cons, List.cons_append, frzs, ih]; rfl
theorem frzs_z22 (i b : Nat) : frzs i b z22 = z22 := frzs_closed0 _ z22_closed
theorem z22_ok (ks : List Nat) (k : Nat) : okCs ks k z22 = true := okCs_closed (Nat.zero_le _) _ z22_closed
theorem z22_ren (ρ : Nat → Nat) : rens ρ z22 = z22 := rens_closed0' _ _ z22_closed
theorem z22_cl (n : Nat) : closeds n z22 := closeds_mono (Nat.zero_le _) _ z22_closed
def errT (ts : List Itm) (e : Nat) : Nat := ts.foldl (fun e k => kp e (asB k 32 32).2) e
theorem errT_take {ts : List Itm} {i : Nat} (hi : i < ts.length) (e : Nat) : errT (ts.take (i + 1)) e = kp (errT (ts.take i) e) (asB ts[i] 32 32).2 := by
 rw [List.take_succ_eq_append_getElem hi, errT, List.foldl_append]; rfl
def topsM (ts : List Itm) : List UInt8 := ts.flatMap (fixB 32)
theorem topsM_len (ts : List Itm) : (topsM ts).length = 32 * ts.length := flat_len (k := 32) (fun t _ => fixB_len 32 t)
theorem topsM_take {ts : List Itm} {i : Nat} (hi : i < ts.length) : topsM (ts.take (i + 1)) = topsM (ts.take i) ++ fixB 32 ts[i] := by
 rw [List.take_succ_eq_append_getElem hi, topsM, List.flatMap_append, List.flatMap_singleton]; rfl
/-- An item taken as a log: its body; why it is none. -/
def logB (k0 k1 k2 : Itm) : List UInt8 × Nat × List UInt8 × List UInt8 := (fixB 20 k0, (asL k1 0 many).1.length, topsM (asL k1 0 many).1, (asB k2 0 many).1)
def logE3 (k0 k1 k2 : Itm) : Nat := kp (errT (asL k1 0 many).1 (kp (asB k0 20 20).2 (asL k1 0 many).2)) (asB k2 0 many).2
def logT (t : Itm) : (List UInt8 × Nat × List UInt8 × List UInt8) × Nat :=
 if (asL t 3 3).2 ≠ 0 then (([], 0, [], []), (asL t 3 3).2) else match t.kids with
  | [k0, k1, k2] => (logB k0 k1 k2, logE3 k0 k1 k2)
  | _ => (([], 0, [], []), 0)
theorem asL_ok {t : Itm} {n : Nat} (h : (asL t n n).2 = 0) : (asL t n n).1 = t.kids ∧ t.kids.length = n := by
 unfold asL at h ⊢
 split at h
 ·simp at h
 ·rename_i h1
  split at h
  ·simp at h
  ·rename_i h2
   rw [if_neg h1, if_neg h2]
   exact ⟨rfl, by omega⟩
theorem three_of {α : Type} {l : List α} (h : l.length = 3) : ∃ a b c, l = [a, b, c] := by
 match l, h with
 | [a, b, c], _ => exact ⟨a, b, c, rfl⟩
theorem asL_small {t : Itm} {n lo hi : Nat} (h : Sm n t) : (asL t lo hi).1.length ≤ n ∧ ∀ k ∈ (asL t lo hi).1, Sm n k := by
 unfold asL
 split
 ·simp
 ·split
  ·simp
  ·exact ⟨h.kids, fun k hk => h.kid hk⟩
theorem asB_small {t : Itm} {n lo hi : Nat} (h : Sm n t) : (asB t lo hi).1.length ≤ n := by
 unfold asB
 split
 ·simp
 ·split
  ·simp
  ·exact h.bytes
def g0 : LogV := ⟨List.replicate 20 0, none, 0, 0, [], none, 0, 0, []⟩
theorem g0_ok (B : Base) : g0.Ok B := ⟨by simp [g0], by simp [g0], by simp [g0], bytes_any _, bytes_any _, by simp [g0], by simp [g0]⟩
theorem rlog_fn {B : Base} {t : Itm} {s : Plc} (ht : ItAt B t s) (hsm : Sm 200000 t) (e : Nat) :
  Turns Try.prog 49 [.agg (itE t s)] (rdO e) B (fun g : LogV => .agg g.ev) (rdO (kp e (logT t).2)) (fun g B' => g.Ok B' ∧ (e = 0 → (logT t).2 = 0 → g.body = (logT t).1)) := by
 refine turns_of en49 (fun s B B' hB hR => ⟨hR.1.ext hB, hR.2⟩) Try.func49 rfl in49 (by simp [Try.f49]) (by simp [closeds, closed]) (rdO_closed _) (rdO_closed _) (fun B0 hB0 b => next_of 1000 ?_)
 replace ht := ht.ext hB0
 have hL := rlist_fn ht e 3 3 (by omega) (Nat.le_refl _)
 repeat' (simp (maxSteps := 4000000) (disch := omega) only [go_sem, ↓reduceIte, Try.f49])
 refine callS_t 0 hL rfl (fun _ => by simp [closed, closeds]) (rdO_closed _) (rdO_closed _) (fun u B2 hB2 hR2 => next_of 1000 ?_)
 change BExt B0 B2 at hB2
 by_cases hz : kp e (asL t 3 3).2 = 0
 ·have he : e = 0 := by
   unfold kp at hz; split at hz
   ·assumption
   ·exact hz
  subst he
  rw [kp_zero] at hz
  obtain ⟨hk1, hk2⟩ := asL_ok hz
  obtain ⟨k0, k1, k2, hks⟩ := three_of hk2
  have hM : logT t = (logB k0 k1 k2, logE3 k0 k1 k2) := by rw [logT, if_neg (by omega), hks]
  obtain ⟨kA, kc, qs⟩ := u
  simp only at hR2
  have hqm := hR2.m
  rw [hk1, hks] at hqm
  obtain ⟨q0, q1, q2, rfl⟩ := three_of (l := qs) (by have := congrArg List.length hqm; simpa using this)
  simp only [List.map_cons, List.map_nil, List.cons.injEq, and_true] at hqm
  obtain ⟨rfl, rfl, rfl⟩ := hqm
  have i0 := hR2.ok q0 (by simp)
  have i1 := hR2.ok q1 (by simp)
  have i2 := hR2.ok q2 (by simp)
  obtain ⟨d1, d2, d3, d4⟩ := kid_ld hR2.c (i := 0) (by simp)
  simp only [Nat.zero_mul, List.getElem_cons_zero] at d1 d3
  rw [hz, hM]
  have hl3 : (asL t 3 3).1.length = 3 := by rw [hk1, hk2]
  rw [hl3]
  simp only [kp_zero]
  repeat' (first | with_reducible refine And.intro (by first | omega | assumption | (constructor <;> assumption) | (simp; done) | (simp; omega) | (simp [*]; done) | ((repeat' refine And.intro ?_ ?_) <;> first | omega | assumption | (refine SlOk.so (n := ?_) ?_ ?_; rotate_left; assumption; omega) | (simp; done) | fail) | fail) ?_ | simp (maxSteps := 4000000) (disch := omega) only [go_sem, ↓reduceIte, d1] | with_reducible refine drawT_of (id := 5) [0, 1, 2, 3, 4, 5, 6, 7] mixed (by kernel_rfl) (by simp) (fun hin => dt_of 1000 hin ?_))
  refine callT_t 0 (rbytes_fn i0 0 20 20 (by omega) (Nat.le_refl _)) rfl (fun _ => by simp [closed]) (rdO_closed _) (rdO_closed _) (by kernel_rfl) (ck_of (by kernel_rfl) (nmT_of (by kernel_rfl))) (fun hin2 s3 B3 hB3 hR3 => dt_of 1000 hin2 ?_)
  change BExt B2 B3 at hB3
  repeat' (simp (maxSteps := 4000000) (disch := omega) only [go_sem, ↓reduceIte])
  have a3 := asB_len (t := q0.1) (n := 20)
  refine copyT (m := (asB q0.1 20 20).1.length) (news := (asB q0.1 20 20).1.map bE) (cs' := logE (fixB 20 q0.1) (.raw (.slice none 0 0)) (.raw (.slice none 0 0))) rfl Try.underlying23 cz5 ⟨_, Try.underlying5⟩ rfl rfl rfl (fun B hs hB => (hR3.1.ext hB).src hs) (bE_one _) (by simp) (.inl (Nat.zero_le _)) ?_ (fun hin3 => dt_of 1000 hin3 ?_)
  ·rw [← fixB_copy_log q0.1]
   rfl
  repeat' (first | with_reducible refine And.intro (by first | omega | assumption | (constructor <;> assumption) | (simp; done) | (simp; omega) | (simp [*]; done) | ((repeat' refine And.intro ?_ ?_) <;> first | omega | assumption | (refine SlOk.so (n := ?_) ?_ ?_; rotate_left; assumption; omega) | (simp; done) | fail) | fail) ?_ | simp (maxSteps := 4000000) (disch := omega) only [go_sem, ↓reduceIte] | with_reducible refine endT_of (by kernel_rfl) (nmT_of (by kernel_rfl)) (next_of 1000 ?_))
  obtain ⟨m1, m2, m3, m4⟩ := kid_ld (hR2.c.ext hB3) (i := 1) (by simp)
  simp only [Nat.one_mul, List.getElem_cons_succ, List.getElem_cons_zero] at m1 m3
  repeat' (first | with_reducible refine And.intro (by first | omega | assumption | (constructor <;> assumption) | (simp; done) | (simp; omega) | (simp [*]; done) | ((repeat' refine And.intro ?_ ?_) <;> first | omega | assumption | (refine SlOk.so (n := ?_) ?_ ?_; rotate_left; assumption; omega) | (simp; done) | fail) | fail) ?_ | simp (maxSteps := 4000000) (disch := omega) only [go_sem, ↓reduceIte, m1])
  refine callS_t 0 (rlist_fn (i1.ext hB3) (asB q0.1 20 20).2 0 many (Nat.le_refl _) (Nat.zero_le _)) rfl (fun _ => by simp [closed, closeds]) (rdO_closed _) (rdO_closed _) (fun v B4 hB4 hR4 => next_of 1000 ?_)
  change BExt B3 B4 at hB4
  obtain ⟨tA, tc, qs⟩ := v
  simp only at hR4
  obtain ⟨ts, hts⟩ : ∃ ts, ts = (asL q1.1 0 many).1 := ⟨_, rfl⟩
  obtain ⟨e1, he1⟩ : ∃ e1, e1 = kp (asB q0.1 20 20).2 (asL q1.1 0 many).2 := ⟨_, rfl⟩
  rw [← hts] at hR4
  rw [← hts, ← he1]
  have hsk := fun (q : Itm) (hq : q ∈ t.kids) => hsm.kid hq
  have hs1 : Sm 200000 q1.1 := hsk _ (by rw [hks]; simp)
  have hs2 : Sm 200000 q2.1 := hsk _ (by rw [hks]; simp)
  have htl : ts.length ≤ 200000 := by rw [hts]; exact (asL_small hs1).1
  have hql : qs.length = ts.length := by rw [← hR4.m, List.length_map]
  have ha20 := fixB_len 20 q0.1
  have f2 : ∀ u v, (logE (fixB 20 q0.1) u v).length = 22 := fun u v => logE_len ha20
  have f3 : ∀ u v d, (logE (fixB 20 q0.1) u v).getD 20 d = u := fun u v d => logE_20 ha20
  have f5 : ∀ u v d, (logE (fixB 20 q0.1) u v).set 20 d = logE (fixB 20 q0.1) d v := fun u v d => logE_s20 ha20
  have f6 : ∀ u v d, (logE (fixB 20 q0.1) u v).set 21 d = logE (fixB 20 q0.1) u d := fun u v d => logE_s21 ha20
  have f8 : ∀ u v, List.take 22 (logE (fixB 20 q0.1) u v) = logE (fixB 20 q0.1) u v := fun u v => logE_take ha20
  have hlc0 : ∀ n u v, closeds n (logE (fixB 20 q0.1) (.raw u) (.raw v)) := fun n u v => logE_closed (by simp [closed]) (by simp [closed])
  have hlc5 : ∀ a c v, closeds 5 (logE (fixB 20 q0.1) (.sl 4 0 a c) (.raw v)) := fun a c v => logE_closed (by simp [closed]) (by simp [closed])
  repeat' (simp (maxSteps := 4000000) (disch := omega) only [go_sem, ↓reduceIte])
  refine loopU (S := Nat × Lst × Base) (fun s => s.1 ≤ ts.length ∧ lOk z32 s.1 s.2.1 ∧ BExt B4 s.2.2)
   (fun s => ⟨[(33, .int .i64 (s.1 : Nat)), (32, .int .i64 (ts.length : Nat)), (31, .raw (.slice tA ts.length tc)), (6, .raw (.slice kA 3 kc)), (5, .ptr 3 0), (4, .ptr 2 0), (0, .ptr 0 0)], 5,
    [(4, lO 38 ((topsM (ts.take s.1)).map bE) s.2.1), (3, some (.cells (logE (fixB 20 q0.1) (lE 4 s.1 s.2.1) (.raw (.slice none 0 0))) 36 (0, 0))), (2, some (.cells z22 36 (0, 0))), (0, some (rdO (errT (ts.take s.1) e1)))], s.2.2, []⟩)
   (fun s => ts.length - s.1) (0, none, B4) ⟨Nat.zero_le _, rfl, BExt.refl _⟩ (Weak.sub (weak_of (by simp [wσ, go_sem, closed, closeds, lE_closed, lE, lO, clO, EObj.closed, topsM, errT, z22, List.replicate, hlc0] <;> omega) (by simp [whs, Go.Ew.hget, go_sem, EObj.closed, closed, closeds, lE_closed, lE, lO, clO, EObj.closed, topsM, errT, z22, List.replicate, hlc0]) (by simp [*]) rfl rfl (by simp))) ?_
  rintro ⟨i, l, B5⟩ ⟨hi, hl, hB5⟩
  simp only at hi hl hB5 ⊢
  replace hR4 := hR4.ext hB5
  have htpl : (topsM (ts.take i)).length = i * 32 := by rw [topsM_len, List.length_take]; omega
  rcases Nat.lt_or_ge i ts.length with hi2 | hi2
  ·refine next_of 1000 ?_
   simp (maxSteps := 4000000) (disch := omega) only [go_sem, ↓reduceIte]
   repeat (with_reducible refine And.intro (by first | omega | assumption | (constructor <;> assumption) | (simp; done) | (simp; omega) | (simp [*]; done) | ((repeat' refine And.intro ?_ ?_) <;> first | omega | assumption | (refine SlOk.so (n := ?_) ?_ ?_; rotate_left; assumption; omega) | (simp; done) | fail) | fail) ?_)
   refine condS_split (fun h2 => ?_) (fun h2 => by simp at h2; omega)
   obtain ⟨n1, n2, n3, n4⟩ := kid_ld hR4.c (i := i) (by omega)
   have ik := hR4.ok _ (List.getElem_mem (show i < qs.length by omega))
   have hqi : (qs[i]'(by omega)).1 = ts[i] := by
    have h1 : (qs.map Prod.fst)[i]? = ts[i]? := by rw [hR4.m]
    rw [List.getElem?_map, List.getElem?_eq_getElem (show i < qs.length by omega), List.getElem?_eq_getElem hi2] at h1
    simpa using h1
   have hee := errT_take hi2 e1
   have htt := topsM_take hi2
   rw [← hqi] at hee htt
   obtain ⟨q, hq0⟩ : ∃ q, q = qs[i]'(by omega) := ⟨_, rfl⟩
   rw [← hq0] at n1 ik hee htt
   obtain ⟨E, hE⟩ : ∃ E, E = errT (ts.take i) e1 := ⟨_, rfl⟩
   rw [← hE] at hee ⊢
   obtain ⟨TP, hTP⟩ : ∃ TP, TP = topsM (ts.take i) := ⟨_, rfl⟩
   rw [← hTP] at htt htpl ⊢
   repeat' (first | with_reducible refine And.intro (by first | omega | assumption | (constructor <;> assumption) | (simp; done) | (simp; omega) | (simp [*]; done) | ((repeat' refine And.intro ?_ ?_) <;> first | omega | assumption | (refine SlOk.so (n := ?_) ?_ ?_; rotate_left; assumption; omega) | (simp; done) | fail) | fail) ?_ | simp (maxSteps := 4000000) (disch := omega) only [go_sem, ↓reduceIte, Int.toNat_natCast, n1] | with_reducible refine drawT_of (id := 10) [0, 1, 2, 3, 4] mixed (by kernel_rfl) (by simp) (fun hin => dt_of 1000 hin ?_))
   refine callT_t 0 (rbytes_fn ik E 32 32 (by omega) (Nat.le_refl _)) rfl (fun _ => by simp [closed]) (rdO_closed _) (rdO_closed _) (by kernel_rfl) (ck_of (by kernel_rfl) (nmT_of (by kernel_rfl))) (fun hin2 s6 B6 hB6 hR6 => dt_of 1000 hin2 ?_)
   change BExt B5 B6 at hB6
   repeat' (simp (maxSteps := 4000000) (disch := omega) only [go_sem, ↓reduceIte])
   refine copyT (m := (asB q.1 32 32).1.length) (news := (asB q.1 32 32).1.map bE) (cs' := (fixB 32 q.1).map bE) rfl Try.underlying23 cz5 ⟨_, Try.underlying5⟩ rfl rfl rfl (fun B hs hB => (hR6.1.ext hB).src hs) (bE_one _) (by simp [ints_len]) (.inl (Nat.zero_le _)) ?_ (fun hin3 => dt_of 1000 hin3 ?_)
   ·have h := fixB_copy 32 q.1 (ints .u8 (fun _ => 0) 32) rfl
    rw [List.take_zero, List.nil_append, Nat.zero_add, h]
   repeat' (first | with_reducible refine And.intro (by first | omega | assumption | (constructor <;> assumption) | (simp; done) | (simp; omega) | (simp [*]; done) | ((repeat' refine And.intro ?_ ?_) <;> first | omega | assumption | (refine SlOk.so (n := ?_) ?_ ?_; rotate_left; assumption; omega) | (simp; done) | fail) | fail) ?_ | simp (maxSteps := 4000000) (disch := omega) only [go_sem, ↓reduceIte] | with_reducible refine endT_of (by kernel_rfl) (nmT_of (by kernel_rfl)) (next_of 1000 ?_))
   have g1 : ((fixB 32 q.1).map bE).length = 32 := by rw [List.length_map, fixB_len]
   have g2 : List.take 32 ((fixB 32 q.1).map bE) = (fixB 32 q.1).map bE := List.take_of_length_le (by omega)
   have g3 := bE_one (fixB 32 q.1)
   have g4 : ints .u8 (fun _ => (0 : Int)) 32 ≠ [] := by simp [ints]
   have g5 : (ints .u8 (fun _ => (0 : Int)) 32).length = 32 := ints_len _ _ _
   have g6 := bE_splice (l := fixB 32 q.1) (n := 32) (fixB_len 32 q.1) (by omega)
   repeat' (first | with_reducible refine And.intro (by first | omega | assumption | (constructor <;> assumption) | (simp; done) | (simp; omega) | (simp [*]; done) | ((repeat' refine And.intro ?_ ?_) <;> first | omega | assumption | (refine SlOk.so (n := ?_) ?_ ?_; rotate_left; assumption; omega) | (simp; done) | fail) | fail) ?_ | simp (maxSteps := 4000000) (disch := omega) only [go_sem, ↓reduceIte, f3, g1, g2, g3, g5, g6])
   refine appendL (l := l) (xs := TP.map bE) (zs := z32) (news := (fixB 32 q.1).map bE) (T := 38) 4 i rfl Try.underlying34 (.inl ⟨_, Try.underlying34⟩) zr38 cz38 (by simp [z32, ints]) z32_closed rfl rfl rfl hl (by rw [List.length_map, htpl]; rfl) (closeds_bE 0 _) (src_own (m := 1) rfl (by rw [List.drop_zero, List.take_of_length_le (by simp [z32, ints_len, fixB_len])])) (by simp [z32, ints_len, fixB_len]) (bE_one _) (by simp only [maxLen]; omega) (by rw [show Try.prog.bytesOf 38 = 32 from by38]; omega) (fun l2 hl2 => ?_)
   have hl2' := hl2
   obtain ⟨cp, rest, rfl, -⟩ := lst_some hl2 (by omega)
   simp only [lE_some]
   have hev : TP.map bE ++ (fixB 32 q.1).map bE = (topsM (ts.take (i + 1))).map bE := by rw [htt, List.map_append]
   repeat' (first | with_reducible refine And.intro (by first | omega | assumption | (constructor <;> assumption) | (simp; done) | (simp; omega) | (simp [*]; done) | ((repeat' refine And.intro ?_ ?_) <;> first | omega | assumption | (refine SlOk.so (n := ?_) ?_ ?_; rotate_left; assumption; omega) | (simp; done) | fail) | fail) ?_ | simp (maxSteps := 4000000) (disch := omega) only [go_sem, ↓reduceIte, hev, f2, f5] | with_reducible refine next_of 1000 ?_)
   have cl2 : ∀ n, clO n (lO 38 ((topsM (ts.take (i + 1))).map bE) (some (cp, rest))) = True := fun n => clO_lO hl2' (closeds_bE 0 _) z32_closed
   refine ⟨(i + 1, some (cp, rest), B6), ⟨hi2, hl2', hB5.trans hB6⟩, (pack_sub [200001] 4 (by simp) (by simp) (by simp) (by simp)).trans ?_, by simp only; omega⟩
   simp only [go_sem, okC, okE, okCs, okCs_log, rens_log, z22_ok, z22_ren, pkO_some, pkO_lO (ks := [200001]) (k := 4) hl2' (closeds_bE 0 _) z32_closed, pkO_none, lE_some]
   exact Weak.sub (weak_of (by simp [wσ, go_sem, closed, closeds, lE_closed, cl2, lE_some, hee, hlc5, hlc0, z22_cl, okCs_log, rens_log, okC, ren, z22_ok, z22_ren] <;> omega) (by simp [whs, Go.Ew.hget, go_sem, EObj.closed, closed, closeds, lE_closed, cl2, lE_some, hee, hlc5, hlc0, z22_cl, okCs_log, rens_log, okC, ren, z22_ok, z22_ren]) (by simp [*]) rfl rfl (by simp))
  ·obtain rfl : i = ts.length := by omega
   rw [List.take_length] at htpl ⊢
   have hxl : ((topsM ts).map bE).length = ts.length * z32.length := by rw [List.length_map, htpl]; rfl
   refine freezeL (xs := (topsM ts).map bE) (T := 38) 4 ts.length rfl hl hxl (closeds_bE 0 _) z32_closed (by simp) (fun b2 fA fc B6 hB6 hf2' hD hso hcell => ?_)
   change BExt B5 B6 at hB6
   have hC : BytesAt B6 fA (topsM ts) := cellsAt_frz hD hso (fun h0 => by
    rw [h0, Nat.zero_mul] at htpl; have h9 := List.length_eq_zero_iff.1 htpl; rw [h9]; rfl) hcell (reals_bE _ _)
   simp only [frzσ, frz, frzs_log, frzs_z22, hf2', frzh_cons, frzh_nil, Nat.reduceEqDiff, if_false, if_true, ↓reduceIte, fzO_some, EObj.frz, frzs]
   have hB36 := hB4.trans (hB5.trans hB6)
   obtain ⟨r1, r2, r3, r4⟩ := kid_ld (hR2.c.ext (hB3.trans hB36)) (i := 2) (by simp)
   simp only [Nat.reduceMul, List.getElem_cons_succ, List.getElem_cons_zero] at r1 r3
   refine next_of 1000 ?_
   simp (maxSteps := 4000000) (disch := omega) only [go_sem, ↓reduceIte]
   repeat (with_reducible refine And.intro (by first | omega | assumption | (constructor <;> assumption) | (simp; done) | (simp; omega) | (simp [*]; done) | ((repeat' refine And.intro ?_ ?_) <;> first | omega | assumption | (refine SlOk.so (n := ?_) ?_ ?_; rotate_left; assumption; omega) | (simp; done) | fail) | fail) ?_)
   refine condS_split (fun h2 => by simp at h2) (fun h2 => ?_)
   repeat' (first | with_reducible refine And.intro (by first | omega | assumption | (constructor <;> assumption) | (simp; done) | (simp; omega) | (simp [*]; done) | ((repeat' refine And.intro ?_ ?_) <;> first | omega | assumption | (refine SlOk.so (n := ?_) ?_ ?_; rotate_left; assumption; omega) | (simp; done) | fail) | fail) ?_ | simp (maxSteps := 4000000) (disch := omega) only [go_sem, ↓reduceIte, r1] | with_reducible refine next_of 1000 ?_)
   refine callS_t 0 (rbytes_fn (i2.ext (hB3.trans hB36)) (errT ts e1) 0 many (Nat.le_refl _) (Nat.zero_le _)) rfl (fun _ => by simp [closed]) (rdO_closed _) (rdO_closed _) (fun s8 B8 hB8 hR8 => next_of 1000 ?_)
   change BExt B6 B8 at hB8
   have hdl : (asB q2.1 0 many).1.length ≤ 200000 := asB_small hs2
   have f1 : ∀ u v, oneAll (logE (fixB 20 q0.1) (.raw u) (.raw v)) = (u.oneCell' && v.oneCell') := fun u v => by rw [oneAll_logE]; rfl
   have hsp : ∀ u v, splice z22 0 (logE (fixB 20 q0.1) u v) = logE (fixB 20 q0.1) u v := fun u v => logE_splice ha20 _ _ _ _ _ _ _ _ _ _ _ _ _ _ _ _ _ _ _ _ _ _
   repeat' (first | with_reducible refine And.intro (by first | omega | assumption | (constructor <;> assumption) | (simp; done) | (simp; omega) | (simp [*]; done) | ((repeat' refine And.intro ?_ ?_) <;> first | omega | assumption | (refine SlOk.so (n := ?_) ?_ ?_; rotate_left; assumption; omega) | (simp; done) | fail) | fail) ?_ | simp (maxSteps := 4000000) (disch := omega) only [go_sem, ↓reduceIte, f1, f2, f6, f8, hsp, show z22.length = 22 from rfl])
   have hBX := hB2.trans (hB3.trans (hB36.trans hB8))
   have hfe : kp (errT ts e1) (asB q2.1 0 many).2 = logE3 q0.1 q1.1 q2.1 := by rw [logE3, ← hts, ← he1]
   exact ⟨hBX, ⟨fixB 20 q0.1, fA, ts.length, fc, topsM ts, s8.1, (asB q2.1 0 many).1.length, s8.2, (asB q2.1 0 many).1⟩, rfl, logE_closed (by simp [closed]) (by simp [closed]), by rw [hfe], ⟨ha20, topsM_len ts, rfl, hC.ext hB8, hR8.1, by simp only; omega, by simp only; omega⟩, fun _ _ => by rw [logB, ← hts]; rfl⟩
 ·have hne : kp e (asL t 3 3).2 ≠ 0 := hz
  have hE : kp e (logT t).2 = kp e (asL t 3 3).2 := by
   by_cases h0 : e = 0
   ·subst h0
    rw [kp_zero] at hne
    rw [kp_zero, kp_zero, logT, if_pos hne]
   ·rw [kp_ne h0, kp_ne h0]
  have hnz : e = 0 → (logT t).2 ≠ 0 := fun h0 h1 => by
   subst h0
   rw [kp_zero] at hne hE
   rw [kp_zero] at hE
   omega
  rw [hE]
  obtain ⟨E, hE0⟩ : ∃ E, E = kp e (asL t 3 3).2 := ⟨_, rfl⟩
  rw [← hE0] at hne ⊢
  have hei : ((E : Nat) : Int) ≠ 0 := by omega
  repeat' (first | with_reducible refine And.intro (by first | omega | assumption | (constructor <;> assumption) | (simp; done) | (simp; omega) | (simp [*]; done) | ((repeat' refine And.intro ?_ ?_) <;> first | omega | assumption | (refine SlOk.so (n := ?_) ?_ ?_; rotate_left; assumption; omega) | (simp; done) | fail) | fail) ?_ | simp (maxSteps := 4000000) (disch := omega) only [go_sem, ↓reduceIte] | ((first | refine condS_split (fun h => ?_) (fun h => ?_) | refine testS_split (fun h => ?_) (fun h => ?_) | refine testT_split (fun h => ?_) (fun h => ?_)) <;> (try simp only [bne_iff_ne, ne_eq, beq_iff_eq, decide_eq_true_eq, decide_eq_false_iff_not, Bool.not_eq_true, Bool.not_eq_false, Bool.not_true, Bool.not_false, bne_eq_false_iff_eq, beq_eq_false_iff_ne, Bool.and_eq_true, Bool.or_eq_true, Bool.and_eq_false_imp, Bool.or_eq_false_iff, Bool.not_eq_true', Bool.not_eq_false', Int.not_lt, Int.not_le] at h) <;> (try (exfalso; omega))))
  exact ⟨g0, rfl, logE_closed (by simp [closed]) (by simp [closed]), g0_ok _, fun h0 h1 => absurd h1 (hnz h0)⟩
end Go.Proofs.Ytepabkjfnpaijaa
namespace Go.Proofs.Ytepabkjfnpaijaa
open Go RowKit Go.Ew
set_option maxHeartbeats 8000000
theorem in21 : codeIn Try.f21.ntmps (Try.f21.body.getD .skip) = true := by kernel_rfl
/-- A receipt's cells. -/
def rcX (a b c : EV) (bl : List UInt8) (v : EV) : List EV := a :: b :: c :: (bl.map bE ++ [v])
def zbl : List UInt8 := List.replicate 256 0
theorem zbl_len : zbl.length = 256 := by simp [zbl]
theorem zrR : zeroOf Try.prog 45 = some (rcX (.int .u8 0) (.int .i64 0) (.int .u64 0) zbl (.raw (.slice none 0 0))) := by kernel_rfl
section
variable (a b c v : EV) {bl : List UInt8} (h : bl.length = 256)
include h
theorem rcX_len : (rcX a b c bl v).length = 260 := by simp [rcX, h]
theorem rcX_set259 (x : EV) : (rcX a b c bl v).set 259 x = rcX a b c bl x := by
 simp only [rcX, List.set_cons_succ]
 rw [List.set_append_right _ _ (by simp [h])]
 simp [h, rcX]
theorem rcX_259 (d : EV) : (rcX a b c bl v).getD 259 d = v := by
 have : (rcX a b c bl v)[259]? = some v := by
  show (bl.map bE ++ [v])[256]? = _
  rw [List.getElem?_append_right (by simp [h])]; simp [h]
 rw [List.getD_eq_getElem?_getD, this]; rfl
theorem rcX_take : List.take 260 (rcX a b c bl v) = rcX a b c bl v := List.take_of_length_le (by rw [rcX_len a b c v h]; omega)
theorem rcX_splice (a' b' c' v' : EV) {bl' : List UInt8} (h' : bl'.length = 256) : splice (rcX a b c bl v) 0 (rcX a' b' c' bl' v') = rcX a' b' c' bl' v' := splice_all (by rw [rcX_len _ _ _ _ h, rcX_len _ _ _ _ h']) (by rw [rcX_len _ _ _ _ h']; omega)
theorem rcX_bloom (t : Itm) (h0 : bl = zbl) : List.take 3 (rcX a b c bl v) ++ List.take (min (asB t 256 256).1.length 256) ((asB t 256 256).1.map bE) ++ List.drop (3 + min (asB t 256 256).1.length 256) (rcX a b c bl v) = rcX a b c (fixB 256 t) v := by
 subst h0
 have hf := fixB_copy 256 t (zbl.map bE) rfl
 have e : rcX a b c zbl v = [a, b, c] ++ (zbl.map bE ++ [v]) := rfl
 rw [e, List.take_append_of_le_length (by simp), List.take_of_length_le (by simp), List.drop_append, List.drop_append_of_le_length (by simp [zbl]; omega)]
 simp only [List.length_cons, List.length_nil, Nat.zero_add, Nat.reduceAdd, Nat.add_sub_cancel_left]
 rw [List.drop_of_length_le (by simp), List.nil_append, List.append_assoc, ← List.append_assoc (List.take _ _), hf]
 rfl
end
theorem rcX_one (a b c v : EV) (bl : List UInt8) : oneAll (rcX a b c bl v) = (a.one && (b.one && (c.one && v.one))) := by
 simp only [rcX, oneAll, oneAll_append, oneAll_bE, Bool.true_and, Bool.and_true]
theorem rcX_closed {n : Nat} {a b c v : EV} {bl : List UInt8} (ha : closed n a) (hb : closed n b) (hc : closed n c) (hv : closed n v) : closeds n (rcX a b c bl v) := ⟨ha, hb, hc, closeds_append.2 ⟨closeds_bE _ _, hv, trivial⟩⟩
theorem rcX_okCs (ks : List Nat) (k : Nat) (a b c v : EV) (bl : List UInt8) : okCs ks k (rcX a b c bl v) = (okC ks k a && (okC ks k b && (okC ks k c && okC ks k v))) := by
 have h : ∀ l : List UInt8, okCs ks k (l.map bE ++ [v]) = okC ks k v := fun l => by
  induction l with
  | nil => simp [okCs]
  | cons x l ih => simp only [List.map_cons, List.cons_append, okCs, ih]; simp [bE, okC]
 simp only [rcX, okCs, h]
theorem rcX_rens (ρ : Nat → Nat) (a b c v : EV) (bl : List UInt8) : rens ρ (rcX a b c bl v) = rcX (ren ρ a) (ren ρ b) (ren ρ c) bl (ren ρ v) := by
 simp only [rcX, rens_map, List.map_cons, List.map_append, List.map_nil, List.map_map]
 congr 4
theorem rcX_frzs (i k : Nat) (a b c v : EV) (bl : List UInt8) : frzs i k (rcX a b c bl v) = rcX (frz i k a) (frz i k b) (frz i k c) bl (frz i k v) := by
 have h : ∀ l : List UInt8, frzs i k (l.map bE ++ [v]) = l.map bE ++ [frz i k v] := fun l => by
  induction l with
  | nil => rfl
  | cons x l ih => simp only [List.map_cons, List.cons_append, frzs, ih]; rfl
 simp only [rcX, frzs, h]
theorem rcX_set0 (a b c v x : EV) (bl : List UInt8) : (rcX a b c bl v).set 0 x = rcX x b c bl v := rfl
theorem rcX_set1 (a b c v x : EV) (bl : List UInt8) : (rcX a b c bl v).set 1 x = rcX a x c bl v := rfl
theorem rcX_set2 (a b c v x : EV) (bl : List UInt8) : (rcX a b c bl v).set 2 x = rcX a b x bl v := rfl
theorem rcX_get0 (a b c v d : EV) (bl : List UInt8) : (rcX a b c bl v).getD 0 d = a := rfl
def blmOf (l : List UInt8) : Blm := fun i => BitVec.ofNat 8 (l.getD i 0).toNat
theorem blmOf_bytes {l : List UInt8} (h : l.length = 256) : blB (blmOf l) = l := by
 apply List.ext_getElem (by simp [blB, h])
 intro j h1 h2
 simp only [blB, List.getElem_map, List.getElem_range, blmOf, List.getD_eq_getElem?_getD, List.getElem?_eq_getElem h2, Option.getD_some, BitVec.toNat_ofNat]
 have := (l[j]).toNat_lt
 rw [Nat.mod_eq_of_lt (by omega)]
 exact UInt8.toNat_inj.1 (by rw [UInt8.toNat_ofNat_of_lt' (by simpa using this)])
theorem rcX_rc (ty : UInt8) (ok : Int) (gas : Nat) {bl : List UInt8} (h : bl.length = 256) (lA : Option Addr) (lc : Nat) (L : List LogV) : rcX (.int .u8 (ty.toNat : Int)) (.int .i64 ok) (.int .u64 (gas : Int)) bl (.raw (.slice lA L.length lc)) = rcE ⟨ty, ok, gas, blmOf bl, lA, lc, L⟩ := by
 simp only [rcX, rcE, ← blB_bE, blmOf_bytes h]
theorem twenty {l : List UInt8} (h : l.length = 20) : ∃ a0 a1 a2 a3 a4 a5 a6 a7 a8 a9 a10 a11 a12 a13 a14 a15 a16 a17 a18 a19, l = [a0, a1, a2, a3, a4, a5, a6, a7, a8, a9, a10, a11, a12, a13, a14, a15, a16, a17, a18, a19] := by
 match l, h with
 | [a0, a1, a2, a3, a4, a5, a6, a7, a8, a9, a10, a11, a12, a13, a14, a15, a16, a17, a18, a19], _ => exact ⟨a0, a1, a2, a3, a4, a5, a6, a7, a8, a9, a10, a11, a12, a13, a14, a15, a16, a17, a18, a19, rfl⟩
/-- A receipt without its places. -/
structure RcB where
 ty : UInt8
 ok : Int
 gas : Nat
 bl : List UInt8
 L : List (List UInt8 × Nat × List UInt8 × List UInt8)
def RcV.body (r : RcV) : RcB := ⟨r.ty, r.ok, r.gas, blB r.F, r.L.map LogV.body⟩
def zRc : RcB := ⟨0, 0, 0, zbl, []⟩
def logOf (p : List UInt8 × Nat × List UInt8 × List UInt8) : LogV := ⟨p.1, none, p.2.1, 0, p.2.2.1, none, p.2.2.2.length, 0, p.2.2.2⟩
def mayM (r : RcB) : Bool := mayR ⟨r.ty, r.ok, r.gas, blmOf r.bl, none, 0, r.L.map logOf⟩
def errL (ts : List Itm) (e : Nat) : Nat := ts.foldl (fun e t => kp e (logT t).2) e
theorem errL_take {ts : List Itm} {i : Nat} (hi : i < ts.length) (e : Nat) : errL (ts.take (i + 1)) e = kp (errL (ts.take i) e) (logT ts[i]).2 := by
 rw [List.take_succ_eq_append_getElem hi, errL, List.foldl_append]; rfl
theorem kp_eq0 {a b : Nat} : kp a b = 0 ↔ a = 0 ∧ b = 0 := by unfold kp; by_cases h : a = 0 <;> simp [h]
/-- An item taken as a receipt of a kind. -/
def recB (ty : UInt8) (k0 k1 k2 k3 : Itm) : RcB := ⟨ty, ((min (asN k0).1 2 : Nat) : Int), (asN k1).1, fixB 256 k2, (asL k3 0 many).1.map (fun t => (logT t).1)⟩
def recE (k0 k1 k2 k3 : Itm) : Nat := errL (asL k3 0 many).1 (kp (kp (kp (asN k0).2 (asN k1).2) (asB k2 256 256).2) (asL k3 0 many).2)
def recT (ty : UInt8) (bare : Bool) (t : Itm) : RcB × Nat :=
 if (asL t 4 4).2 ≠ 0 then (zRc, (asL t 4 4).2) else match t.kids with
  | [k0, k1, k2, k3] => if recE k0 k1 k2 k3 ≠ 0 then (zRc, recE k0 k1 k2 k3) else if !mayM (recB ty k0 k1 k2 k3) || (!bare && decide (ty = 0)) then (zRc, 190) else (recB ty k0 k1 k2 k3, 0)
  | _ => (zRc, 0)
def recP (ty : UInt8) (bare : Bool) (p : List UInt8) : RcB × Nat := if (DecM p).2 ≠ 0 then (zRc, (DecM p).2) else recT ty bare (DecM p).1
/-- Bytes as a receipt. -/
def recD (b : List UInt8) : RcB × Nat :=
 if b ≠ [] ∧ (b.getD 0 0).toNat < 128 then recP (b.getD 0 0) false (b.drop 1) else recP 0 true b
theorem four_of {α : Type} {l : List α} (h : l.length = 4) : ∃ a b c d, l = [a, b, c, d] := by
 match l, h with
 | [a, b, c, d], _ => exact ⟨a, b, c, d, rfl⟩
theorem marks_logOf (L : List LogV) : marksL ((L.map LogV.body).map logOf) = marksL L := marks_body _ _ (by
 rw [List.map_map, List.map_map]
 exact List.map_congr_left fun g _ => rfl)
theorem mayR_body (r : RcV) : mayR r = mayM r.body := by
 have e1 : eqB r.F (allB zB (marksL r.L)) = eqB (blmOf (blB r.F)) (allB zB (marksL ((r.L.map LogV.body).map logOf))) := by
  rw [marks_logOf, Bool.eq_iff_iff, eqB_iff, eqB_iff]
  have hF : ∀ i, i < 256 → blmOf (blB r.F) i = r.F i := fun i hi => by
   simp only [blmOf, blB, List.getD_eq_getElem?_getD, List.getElem?_map, List.getElem?_range hi, Option.map_some, Option.getD_some]
   have := (r.F i).isLt
   rw [UInt8.toNat_ofNat_of_lt' (by simpa using this)]
   exact BitVec.eq_of_toNat_eq (by simp)
  exact ⟨fun h i hi => by rw [hF i hi]; exact h i hi, fun h i hi => by rw [← hF i hi]; exact h i hi⟩
 have e2 : (r.L.all fun g => decide (g.tn ≤ 4)) = (((r.L.map LogV.body).map logOf).all fun g => decide (g.tn ≤ 4)) := by
  rw [List.map_map, List.all_map]; rfl
 simp only [mayM, mayR, RcV.body, e1, e2]
 rfl
theorem payM_lt {b : List UInt8} : (payM b).length ≤ b.length := by rw [payM, List.length_drop, List.length_take]; omega
theorem txt_sm {n : Nat} {p : List UInt8} (h : p.length ≤ n) : Sm n (txt p) := .mk 0 p [] h (by simp) (by simp)
theorem zI_sm (n : Nat) : Sm n zI := .mk 0 [] [] (by simp) (by simp) (by simp)
theorem kidsL_sm {f : List UInt8 → Itm × Nat × Nat} {N : Nat} (hf : ∀ p, p.length ≤ N → Sm N (f p).1 ∧ ((f p).2.2 = 0 → 1 ≤ (f p).2.1)) : ∀ (n : Nat) (p : List UInt8) (acc : List Itm), p.length ≤ N → acc.length + p.length ≤ N → (∀ k ∈ acc, Sm N k) →
  (kidsL f n p acc).1.length ≤ N ∧ ∀ k ∈ (kidsL f n p acc).1, Sm N k
 | 0, p, acc, h1, h2, h3 => by simp only [kidsL]; exact ⟨by omega, h3⟩
 | n + 1, p, acc, h1, h2, h3 => by
  rw [kidsL]
  split
  ·exact ⟨by simp only; omega, h3⟩
  ·rename_i hp
   split
   ·simp
   ·rename_i he
    obtain ⟨a1, a2⟩ := hf p h1
    have hpl : p.length ≠ 0 := fun h => hp (List.length_eq_zero_iff.1 h)
    have := a2 (by omega)
    refine kidsL_sm hf n _ _ (by simp; omega) (by simp; omega) (fun k hk => ?_)
    rcases List.mem_append.1 hk with hk | hk
    ·exact h3 k hk
    ·obtain rfl := List.mem_singleton.1 hk
     exact a1
theorem decB_sm {F : List UInt8 → List Itm × Nat} {N : Nat} (hF : ∀ p, p.length ≤ N → (F p).1.length ≤ N ∧ ∀ k ∈ (F p).1, Sm N k) (b : List UInt8) (h : b.length ≤ N) : Sm N (decB F b).1 := by
 have hp := Nat.le_trans (payM_lt (b := b)) h
 unfold decB
 split
 ·exact zI_sm _
 ·split
  ·exact txt_sm hp
  ·split
   ·exact zI_sm _
   ·exact .mk 1 [] _ (by simp) (hF _ hp).1 (hF _ hp).2
theorem decM_sm : ∀ (m : Nat) (b : List UInt8) (N : Nat), b.length ≤ N → Sm N (decM m b).1
 | 0, b, N, h => decB_sm (fun _ _ => by simp) b h
 | m + 1, b, N, h => decB_sm (fun p hp => kidsL_sm (fun q hq => ⟨decM_sm m q N hq, fun h0 => (decM_to h0).1⟩) _ _ _ hp (by simpa using hp) (by simp)) b h
theorem DecM_sm {b : List UInt8} {N : Nat} (h : b.length ≤ N) : Sm N (DecM b).1 := by
 unfold DecM
 split
 ·exact zI_sm _
 ·split
  ·exact zI_sm _
  ·exact decM_sm _ _ _ h
end Go.Proofs.Ytepabkjfnpaijaa
namespace Go.Proofs.Ytepabkjfnpaijaa
open Go Go.Ew Go.ChangeShapes Go.WideShapes Go.ChangeAt Go.RowKit
section
variable {H : Type} {enc : TypeId × Value → H} {W : World} {fuel : Nat} {cs : List Value} {x : DataW H × List MemPlace}
theorem in_receipt (h : DataW.trod enc Try.prog W 0 (fun _ => true) true fuel 45 cs = some x) (hb : Rows.uptoBulk x.1 ≤ 1048576) : ∃ r : RcV, cs = rcC r ∧ LogsAt (base W) r.lA r.L ∧ r.gas < 18446744073709551616 := by
 obtain ⟨xs, n, rfl, rfl, hl, hxl, hf⟩ := DataW.trod_struct Try.underlying45 h
 rw [cz45] at hl
 have hx5 : xs.length = 5 := hxl
 obtain ⟨x0, x1, x2, x3, x4, rfl⟩ : ∃ a b c d e, xs = [a, b, c, d, e] := by
  match xs, hx5 with
  | [a, b, c, d, e], _ => exact ⟨a, b, c, d, e, rfl⟩
 have f0 := hf 0 _ rfl
 have f1 := hf 1 _ rfl
 have f2 := hf 2 _ rfl
 have f3 := hf 3 _ rfl
 have f4 := hf 4 _ rfl
 change DataW.trod _ _ _ _ _ _ _ 5 ((cs.drop 0).take (Try.prog.cellsOf 5)) = some x0 at f0
 change DataW.trod _ _ _ _ _ _ _ 3 ((cs.drop 1).take (Try.prog.cellsOf 3)) = some x1 at f1
 change DataW.trod _ _ _ _ _ _ _ 43 ((cs.drop 2).take (Try.prog.cellsOf 43)) = some x2 at f2
 change DataW.trod _ _ _ _ _ _ _ 27 ((cs.drop 3).take (Try.prog.cellsOf 27)) = some x3 at f3
 change DataW.trod _ _ _ _ _ _ _ 22 ((cs.drop 259).take (Try.prog.cellsOf 22)) = some x4 at f4
 rw [cz5] at f0
 rw [cz3] at f1
 rw [cz43] at f2
 rw [cz27] at f3
 rw [cz22] at f4
 obtain ⟨z0, e0, _, w0⟩ := DataW.trod_int Try.underlying5 f0
 obtain ⟨z1, e1, _, w1⟩ := DataW.trod_int Try.underlying3 f1
 obtain ⟨z2, e2, _, w2⟩ := DataW.trod_int Try.underlying43 f2
 obtain ⟨l3, hl3, e3⟩ := in_arr Try.underlying27 cz27 f3
 simp only [Rows.uptoBulk, List.map_cons, List.map_nil, Rows.uptoBulkAll] at hb
 obtain ⟨lA, lc, L, e4, hL⟩ := in_logs f4 (by omega)
 have g0 := u8_wf w0
 have g2 : 0 ≤ z2 ∧ z2 < 18446744073709551616 := by
  simp [Lit.wf, IntKind.min, IntKind.max, IntKind.signed, IntKind.bits] at w2; omega
 refine ⟨⟨UInt8.ofNat z0.toNat, z1, z2.toNat, blmOf l3, lA, lc, L⟩, ?_, hL, by simp only; omega⟩
 have hcs : cs = (cs.drop 0).take 1 ++ ((cs.drop 1).take 1 ++ ((cs.drop 2).take 1 ++ ((cs.drop 3).take 256 ++ (cs.drop 259).take 1))) := by
  have a1 : (cs.drop 259).take 1 = cs.drop 259 := List.take_of_length_le (by simp; omega)
  have a2 : (cs.drop 3).take 256 ++ cs.drop 259 = cs.drop 3 := by
   have := List.take_append_drop 256 (cs.drop 3)
   rwa [List.drop_drop] at this
  have a3 : (cs.drop 2).take 1 ++ cs.drop 3 = cs.drop 2 := by
   have := List.take_append_drop 1 (cs.drop 2)
   rwa [List.drop_drop] at this
  have a4 : (cs.drop 1).take 1 ++ cs.drop 2 = cs.drop 1 := by
   have := List.take_append_drop 1 (cs.drop 1)
   rwa [List.drop_drop] at this
  rw [a1, a2, a3, a4, List.drop_zero, List.take_append_drop]
 rw [hcs, e0, e1, e2, e3, e4, rcC, blmOf_bytes hl3]
 simp only [List.cons_append, List.nil_append]
 rw [UInt8.toNat_ofNat_of_lt' (by simp; omega)]
 congr 2
 ·omega
 ·congr 2
  ·omega
end
/-- A slice that came in, opened. -/
theorem arg_sl {H : Type} {enc : TypeId × Value → H} {W : World} {r : Reach} {bs : Nat} {t e : TypeId} {v : Value} {d : DataW H} {p : List MemPlace} (ht : Try.prog.underlying t = some (.slice e)) (hval : Value.okWide Try.prog W r bs t v)
  (h : DataW.Trod enc Try.prog W 0 (fun _ => true) true t v d p) : ∃ ad n cap fuel, v = .slice ad n cap ∧ DataW.trod enc Try.prog W 0 (fun _ => true) true fuel t [.slice ad n cap] = some (d, p) := by
 obtain ⟨a, n, cap, rfl⟩ := okWide_slice ht hval
 obtain ⟨fuel, hf⟩ := h
 exact ⟨a, n, cap, fuel, rfl, by simpa [Value.cells] using hf⟩
/-- Bytes that came in, opened. -/
theorem in_bytesL {H : Type} {enc : TypeId × Value → H} {W : World} {fuel : Nat} {cs : List Value} {x : DataW H × List MemPlace} (h : DataW.trod enc Try.prog W 0 (fun _ => true) true fuel 23 cs = some x) (hb : Rows.uptoBulk x.1 ≤ 1048576) :
  ∃ (ad : Option Addr) (cap : Nat) (l : List UInt8), cs = [.slice ad l.length cap] ∧ BytesAt (base W) ad l ∧ l.length ≤ cap ∧ l.length ≤ 1048576 := by
 rcases open_ints Try.underlying23 Try.underlying5 cz5 h with ⟨rfl, rfl⟩ | ⟨a, n, cap, zs, rfl, _, hl, hm, hlen, rfl, hcell, hwf⟩
 ·exact ⟨none, 0, [], rfl, BytesAt.nil _, by simp, by simp⟩
 ·simp only [if_true] at hlen
  obtain ⟨l, h1, h2⟩ := bytes_at (W := W) (a := a) (m := n) (fun j hj => ⟨zs.getD j 0, hcell j (by omega), u8_wf (hwf _ (by rw [List.getD_eq_getElem?_getD, List.getElem?_eq_getElem (show j < zs.length by omega)]; simp))⟩)
  have e1 : (lits (H := H) .u8 (zs.take n)).length = n := by simp [lits]; omega
  have e2 := bulk_len (lits (H := H) .u8 (zs.take n))
  simp only [Rows.uptoBulk] at hb
  exact ⟨some a, cap, l, by rw [h1], h2, by omega, by omega⟩
/-- A receipt that came in, opened. -/
theorem arg_rc {H : Type} {enc : TypeId × Value → H} {W : World} {r : Reach} {bs : Nat} {v : Value} {d : DataW H} {p : List MemPlace} (hval : Value.okWide Try.prog W r bs 45 v)
  (h : DataW.Trod enc Try.prog W 0 (fun _ => true) true 45 v d p) (hb : Rows.uptoBulk d ≤ 1048576) : ∃ r : RcV, v = .agg (rcC r).toArray ∧ LogsAt (base W) r.lA r.L ∧ r.gas < 18446744073709551616 := by
 obtain ⟨cs, rfl, hsz⟩ := okWide_struct Try.underlying45 hval
 obtain ⟨fuel, hf⟩ := h
 obtain ⟨l, rfl⟩ : ∃ l, cs = List.toArray l := ⟨cs.toList, by simp⟩
 have hcl : (Value.agg l.toArray).cells.toList = l := by simp [Value.cells]
 rw [hcl] at hf
 obtain ⟨r, rfl, h1, h2⟩ := in_receipt hf hb
 exact ⟨r, rfl, h1, h2⟩
end Go.Proofs.Ytepabkjfnpaijaa
