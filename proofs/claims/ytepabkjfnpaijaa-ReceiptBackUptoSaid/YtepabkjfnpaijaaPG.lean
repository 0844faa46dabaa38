/- Part of a proof over the seat Ytepabkjfnpaijaa. -/
import Derived.Test.YtepabkjfnpaijaaPF
namespace Go.Proofs.Ytepabkjfnpaijaa
open Go RowKit Go.Ew
set_option maxRecDepth 100000
set_option linter.unusedSimpArgs false
set_option linter.unusedVariables false
set_option maxHeartbeats 4000000
theorem in49 : codeIn Try.f49.ntmps (Try.f49.body.getD .skip) = true := by kernel_rfl
/-- An item none of whose parts is large. -/
inductive Sm (n : Nat) : Itm → Prop where
  | mk (l : Int) (b : List UInt8) (ks : List Itm) (hb : b.length ≤ n) (hk : ks.length ≤ n) (h : ∀ k ∈ ks, Sm n k) : Sm n (.mk l b ks)
theorem Sm.bytes {n : Nat} {t : Itm} (h : Sm n t) : t.bytes.length ≤ n := by cases h; assumption
theorem Sm.kids {n : Nat} {t : Itm} (h : Sm n t) : t.kids.length ≤ n := by cases h; assumption
theorem Sm.kid {n : Nat} {t k : Itm} (h : Sm n t) (hk : k ∈ t.kids) : Sm n k := by
  cases h with
  | mk l b ks hb hl h => exact h k hk
abbrev many : Nat := 1099511627776
theorem kp_zero (a : Nat) : kp 0 a = a := rfl
theorem kp_z (a : Nat) : kp a 0 = a := by unfold kp; split <;> simp_all
theorem kp_ne {a : Nat} (h : a ≠ 0) (b : Nat) : kp a b = a := if_neg h
/-- Bytes of a fixed length, or zeros. -/
def fixB (n : Nat) (t : Itm) : List UInt8 := if (asB t n n).2 = 0 then (asB t n n).1 else List.replicate n 0
theorem asB_len {t : Itm} {n : Nat} : ((asB t n n).2 = 0 → (asB t n n).1.length = n) ∧ ((asB t n n).2 ≠ 0 → (asB t n n).1 = []) := by
  unfold asB
  split
  · simp
  · split
    · simp
    · simp; omega
theorem fixB_len (n : Nat) (t : Itm) : (fixB n t).length = n := by
  unfold fixB
  split
  · rename_i h; exact asB_len.1 h
  · simp
/-- What a copy makes of zeros. -/
theorem fixB_copy (n : Nat) (t : Itm) (zs : List EV) (h : zs = (List.replicate n (0 : UInt8)).map bE) : ((asB t n n).1.map bE).take (min (asB t n n).1.length n) ++ zs.drop (min (asB t n n).1.length n) = (fixB n t).map bE := by
  unfold fixB
  split
  · rename_i h0
    have := asB_len.1 h0
    rw [this, Nat.min_self, List.take_of_length_le (by simp [this]), List.drop_of_length_le (by rw [h]; simp), List.append_nil]
  · rename_i h0
    rw [asB_len.2 h0]
    simp [h]
def z32 : List EV := ints .u8 (fun _ => 0) 32
theorem z32_closed : closeds 0 z32 := closeds_ints _ _ _ _
theorem fixB_copy_log (t : Itm) : List.take 0 z22 ++ List.take (min (asB t 20 20).1.length 20) ((asB t 20 20).1.map bE) ++ List.drop (0 + min (asB t 20 20).1.length 20) z22 = logE (fixB 20 t) (.raw (.slice none 0 0)) (.raw (.slice none 0 0)) := by
  have h := fixB_copy 20 t ((List.replicate 20 (0 : UInt8)).map bE) rfl
  have e : z22 = (List.replicate 20 (0 : UInt8)).map bE ++ [.raw (.slice none 0 0), .raw (.slice none 0 0)] := rfl
  rw [List.take_zero, List.nil_append, Nat.zero_add, e, List.drop_append_of_le_length (by simp; omega), ← List.append_assoc, h]
  rfl
theorem okCs_log (ks : List Nat) (k : Nat) (ad : List UInt8) (u v : EV) : okCs ks k (logE ad u v) = (okC ks k u && okC ks k v) := by
  unfold logE
  induction ad with
  | nil => simp [okCs]
  | cons a ad ih => simp only [List.map_cons, List.cons_append, okCs, ih]; simp [bE, okC]
theorem rens_log (ρ : Nat → Nat) (ad : List UInt8) (u v : EV) : rens ρ (logE ad u v) = logE ad (ren ρ u) (ren ρ v) := by
  rw [rens_map, logE, logE, List.map_append]
  congr 1
  rw [List.map_map]
  exact List.map_congr_left fun a _ => by simp [bE, ren]
theorem frzs_log (i b : Nat) (ad : List UInt8) (u v : EV) : frzs i b (logE ad u v) = logE ad (frz i b u) (frz i b v) := by
  unfold logE
  induction ad with
  | nil => rfl
  | cons a ad ih => simp only [List.map_cons, List.cons_append, frzs, ih]; rfl
theorem frzs_z22 (i b : Nat) : frzs i b z22 = z22 := frzs_closed0 _ z22_closed
theorem z22_ok (ks : List Nat) (k : Nat) : okCs ks k z22 = true := okCs_closed (Nat.zero_le _) _ z22_closed
theorem z22_ren (ρ : Nat → Nat) : rens ρ z22 = z22 := rens_closed0' _ _ z22_closed
theorem z22_cl (n : Nat) : closeds n z22 := closeds_mono (Nat.zero_le _) _ z22_closed
def errT (ts : List Itm) (e : Nat) : Nat := ts.foldl (fun e k => kp e (asB k 32 32).2) e
theorem errT_take {ts : List Itm} {i : Nat} (hi : i < ts.length) (e : Nat) : errT (ts.take (i + 1)) e = kp (errT (ts.take i) e) (asB ts[i] 32 32).2 := by
  rw [List.take_succ_eq_append_getElem hi, errT, List.foldl_append]; rfl
def topsM (ts : List Itm) : List UInt8 := ts.flatMap (fixB 32)
theorem topsM_len (ts : List Itm) : (topsM ts).length = 32 * ts.length := flat_len (k := 32) (fun t _ => fixB_len 32 t)
theorem topsM_take {ts : List Itm} {i : Nat} (hi : i < ts.length) : topsM (ts.take (i + 1)) = topsM (ts.take i) ++ fixB 32 ts[i] := by
  rw [List.take_succ_eq_append_getElem hi, topsM, List.flatMap_append, List.flatMap_singleton]; rfl
/-- An item taken as a log: its body; why it is none. -/
def logB (k0 k1 k2 : Itm) : List UInt8 × Nat × List UInt8 × List UInt8 := (fixB 20 k0, (asL k1 0 many).1.length, topsM (asL k1 0 many).1, (asB k2 0 many).1)
def logE3 (k0 k1 k2 : Itm) : Nat := kp (errT (asL k1 0 many).1 (kp (asB k0 20 20).2 (asL k1 0 many).2)) (asB k2 0 many).2
def logT (t : Itm) : (List UInt8 × Nat × List UInt8 × List UInt8) × Nat :=
  if (asL t 3 3).2 ≠ 0 then (([], 0, [], []), (asL t 3 3).2) else match t.kids with
    | [k0, k1, k2] => (logB k0 k1 k2, logE3 k0 k1 k2)
    | _ => (([], 0, [], []), 0)
theorem asL_ok {t : Itm} {n : Nat} (h : (asL t n n).2 = 0) : (asL t n n).1 = t.kids ∧ t.kids.length = n := by
  unfold asL at h ⊢
  split at h
  · simp at h
  · rename_i h1
    split at h
    · simp at h
    · rename_i h2
      rw [if_neg h1, if_neg h2]
      exact ⟨rfl, by omega⟩
theorem three_of {α : Type} {l : List α} (h : l.length = 3) : ∃ a b c, l = [a, b, c] := by
  match l, h with
  | [a, b, c], _ => exact ⟨a, b, c, rfl⟩
theorem asL_small {t : Itm} {n lo hi : Nat} (h : Sm n t) : (asL t lo hi).1.length ≤ n ∧ ∀ k ∈ (asL t lo hi).1, Sm n k := by
  unfold asL
  split
  · simp
  · split
    · simp
    · exact ⟨h.kids, fun k hk => h.kid hk⟩
theorem asB_small {t : Itm} {n lo hi : Nat} (h : Sm n t) : (asB t lo hi).1.length ≤ n := by
  unfold asB
  split
  · simp
  · split
    · simp
    · exact h.bytes
def g0 : LogV := ⟨List.replicate 20 0, none, 0, 0, [], none, 0, 0, []⟩
theorem g0_ok (B : Base) : g0.Ok B := ⟨by simp [g0], by simp [g0], by simp [g0], bytes_any _, bytes_any _, by simp [g0], by simp [g0]⟩
theorem rlog_fn {B : Base} {t : Itm} {s : Plc} (ht : ItAt B t s) (hsm : Sm 200000 t) (e : Nat) :
    Turns Try.prog 49 [.agg (itE t s)] (rdO e) B (fun g : LogV => .agg g.ev) (rdO (kp e (logT t).2)) (fun g B' => g.Ok B' ∧ (e = 0 → (logT t).2 = 0 → g.body = (logT t).1)) := by
  refine turns_of en49 (fun s B B' hB hR => ⟨hR.1.ext hB, hR.2⟩) Try.func49 rfl in49 (by simp [Try.f49]) (by simp [closeds, closed]) (rdO_closed _) (rdO_closed _) (fun B0 hB0 b => next_of 1000 ?_)
  replace ht := ht.ext hB0
  have hL := rlist_fn ht e 3 3 (by omega) (Nat.le_refl _)
  repeat' (simp (maxSteps := 4000000) (disch := omega) only [go_sem, Nat.reduceBEq, Nat.reduceAdd, Nat.reduceMul, Nat.reduceSub, Nat.reduceLT, Nat.reduceLeDiff, Int.reduceToNat, Int.reduceLT, Int.reduceLE, Int.reduceAdd, Int.reduceMul, Int.reduceSub, Int.reduceNeg, Int.reduceDiv, Int.reduceMod, Nat.reduceBNe, Nat.reduceGT, Int.reduceBEq, Int.reduceBNe, Int.reduceGT, Nat.reduceDiv, Nat.reduceMod, Nat.reducePow, Int.reducePow, gt_iff_lt, ge_iff_le, List.reduceReplicate, ↓reduceIte, Try.f49])
  refine callS_t 0 hL rfl (fun _ => by simp [closed, closeds]) (rdO_closed _) (rdO_closed _) (fun u B2 hB2 hR2 => next_of 1000 ?_)
  change BExt B0 B2 at hB2
  by_cases hz : kp e (asL t 3 3).2 = 0
  · have he : e = 0 := by
      unfold kp at hz; split at hz
      · assumption
      · exact hz
    subst he
    rw [kp_zero] at hz
    obtain ⟨hk1, hk2⟩ := asL_ok hz
    obtain ⟨k0, k1, k2, hks⟩ := three_of hk2
    have hM : logT t = (logB k0 k1 k2, logE3 k0 k1 k2) := by rw [logT, if_neg (by omega), hks]
    obtain ⟨kA, kc, qs⟩ := u
    simp only at hR2
    have hqm := hR2.m
    rw [hk1, hks] at hqm
    obtain ⟨q0, q1, q2, rfl⟩ := three_of (l := qs) (by have := congrArg List.length hqm; simpa using this)
    simp only [List.map_cons, List.map_nil, List.cons.injEq, and_true] at hqm
    obtain ⟨rfl, rfl, rfl⟩ := hqm
    have i0 := hR2.ok q0 (by simp)
    have i1 := hR2.ok q1 (by simp)
    have i2 := hR2.ok q2 (by simp)
    obtain ⟨d1, d2, d3, d4⟩ := kid_ld hR2.c (i := 0) (by simp)
    simp only [Nat.zero_mul, List.getElem_cons_zero] at d1 d3
    rw [hz, hM]
    have hl3 : (asL t 3 3).1.length = 3 := by rw [hk1, hk2]
    rw [hl3]
    simp only [kp_zero]
    repeat' (first | with_reducible refine And.intro (by first | omega | assumption | (constructor <;> assumption) | (simp; done) | (simp; omega) | (simp [*]; done) | ((repeat' refine And.intro ?_ ?_) <;> first | omega | assumption | (refine SlOk.so (n := ?_) ?_ ?_; rotate_left; assumption; omega) | (simp; done) | fail) | fail) ?_ | simp (maxSteps := 4000000) (disch := omega) only [go_sem, Nat.reduceBEq, Nat.reduceAdd, Nat.reduceMul, Nat.reduceSub, Nat.reduceLT, Nat.reduceLeDiff, Int.reduceToNat, Int.reduceLT, Int.reduceLE, Int.reduceAdd, Int.reduceMul, Int.reduceSub, Int.reduceNeg, Int.reduceDiv, Int.reduceMod, Nat.reduceBNe, Nat.reduceGT, Int.reduceBEq, Int.reduceBNe, Int.reduceGT, Nat.reduceDiv, Nat.reduceMod, Nat.reducePow, Int.reducePow, gt_iff_lt, ge_iff_le, List.reduceReplicate, ↓reduceIte, d1] | with_reducible refine drawT_of (id := 5) [0, 1, 2, 3, 4, 5, 6, 7] mixed (by kernel_rfl) (by simp) (fun hin => dt_of 1000 hin ?_))
    refine callT_t 0 (rbytes_fn i0 0 20 20 (by omega) (Nat.le_refl _)) rfl (fun _ => by simp [closed]) (rdO_closed _) (rdO_closed _) (by kernel_rfl) (ck_of (by kernel_rfl) (nmT_of (by kernel_rfl))) (fun hin2 s3 B3 hB3 hR3 => dt_of 1000 hin2 ?_)
    change BExt B2 B3 at hB3
    repeat' (simp (maxSteps := 4000000) (disch := omega) only [go_sem, Nat.reduceBEq, Nat.reduceAdd, Nat.reduceMul, Nat.reduceSub, Nat.reduceLT, Nat.reduceLeDiff, Int.reduceToNat, Int.reduceLT, Int.reduceLE, Int.reduceAdd, Int.reduceMul, Int.reduceSub, Int.reduceNeg, Int.reduceDiv, Int.reduceMod, Nat.reduceBNe, Nat.reduceGT, Int.reduceBEq, Int.reduceBNe, Int.reduceGT, Nat.reduceDiv, Nat.reduceMod, Nat.reducePow, Int.reducePow, gt_iff_lt, ge_iff_le, List.reduceReplicate, ↓reduceIte])
    have a3 := asB_len (t := q0.1) (n := 20)
    refine copyT (m := (asB q0.1 20 20).1.length) (news := (asB q0.1 20 20).1.map bE) (cs' := logE (fixB 20 q0.1) (.raw (.slice none 0 0)) (.raw (.slice none 0 0))) rfl Try.underlying23 cz5 ⟨_, Try.underlying5⟩ rfl rfl rfl (fun B hs hB => (hR3.1.ext hB).src hs) (bE_one _) (by simp) (.inl (Nat.zero_le _)) ?_ (fun hin3 => dt_of 1000 hin3 ?_)
    · rw [← fixB_copy_log q0.1]
      rfl
    repeat' (first | with_reducible refine And.intro (by first | omega | assumption | (constructor <;> assumption) | (simp; done) | (simp; omega) | (simp [*]; done) | ((repeat' refine And.intro ?_ ?_) <;> first | omega | assumption | (refine SlOk.so (n := ?_) ?_ ?_; rotate_left; assumption; omega) | (simp; done) | fail) | fail) ?_ | simp (maxSteps := 4000000) (disch := omega) only [go_sem, Nat.reduceBEq, Nat.reduceAdd, Nat.reduceMul, Nat.reduceSub, Nat.reduceLT, Nat.reduceLeDiff, Int.reduceToNat, Int.reduceLT, Int.reduceLE, Int.reduceAdd, Int.reduceMul, Int.reduceSub, Int.reduceNeg, Int.reduceDiv, Int.reduceMod, Nat.reduceBNe, Nat.reduceGT, Int.reduceBEq, Int.reduceBNe, Int.reduceGT, Nat.reduceDiv, Nat.reduceMod, Nat.reducePow, Int.reducePow, gt_iff_lt, ge_iff_le, List.reduceReplicate, ↓reduceIte] | with_reducible refine endT_of (by kernel_rfl) (nmT_of (by kernel_rfl)) (next_of 1000 ?_))
    obtain ⟨m1, m2, m3, m4⟩ := kid_ld (hR2.c.ext hB3) (i := 1) (by simp)
    simp only [Nat.one_mul, List.getElem_cons_succ, List.getElem_cons_zero] at m1 m3
    repeat' (first | with_reducible refine And.intro (by first | omega | assumption | (constructor <;> assumption) | (simp; done) | (simp; omega) | (simp [*]; done) | ((repeat' refine And.intro ?_ ?_) <;> first | omega | assumption | (refine SlOk.so (n := ?_) ?_ ?_; rotate_left; assumption; omega) | (simp; done) | fail) | fail) ?_ | simp (maxSteps := 4000000) (disch := omega) only [go_sem, Nat.reduceBEq, Nat.reduceAdd, Nat.reduceMul, Nat.reduceSub, Nat.reduceLT, Nat.reduceLeDiff, Int.reduceToNat, Int.reduceLT, Int.reduceLE, Int.reduceAdd, Int.reduceMul, Int.reduceSub, Int.reduceNeg, Int.reduceDiv, Int.reduceMod, Nat.reduceBNe, Nat.reduceGT, Int.reduceBEq, Int.reduceBNe, Int.reduceGT, Nat.reduceDiv, Nat.reduceMod, Nat.reducePow, Int.reducePow, gt_iff_lt, ge_iff_le, List.reduceReplicate, ↓reduceIte, m1])
    refine callS_t 0 (rlist_fn (i1.ext hB3) (asB q0.1 20 20).2 0 many (Nat.le_refl _) (Nat.zero_le _)) rfl (fun _ => by simp [closed, closeds]) (rdO_closed _) (rdO_closed _) (fun v B4 hB4 hR4 => next_of 1000 ?_)
    change BExt B3 B4 at hB4
    obtain ⟨tA, tc, qs⟩ := v
    simp only at hR4
    obtain ⟨ts, hts⟩ : ∃ ts, ts = (asL q1.1 0 many).1 := ⟨_, rfl⟩
    obtain ⟨e1, he1⟩ : ∃ e1, e1 = kp (asB q0.1 20 20).2 (asL q1.1 0 many).2 := ⟨_, rfl⟩
    rw [← hts] at hR4
    rw [← hts, ← he1]
    have hsk := fun (q : Itm) (hq : q ∈ t.kids) => hsm.kid hq
    have hs1 : Sm 200000 q1.1 := hsk _ (by rw [hks]; simp)
    have hs2 : Sm 200000 q2.1 := hsk _ (by rw [hks]; simp)
    have htl : ts.length ≤ 200000 := by rw [hts]; exact (asL_small hs1).1
    have hql : qs.length = ts.length := by rw [← hR4.m, List.length_map]
    have ha20 := fixB_len 20 q0.1
    have f2 : ∀ u v, (logE (fixB 20 q0.1) u v).length = 22 := fun u v => logE_len ha20
    have f3 : ∀ u v d, (logE (fixB 20 q0.1) u v).getD 20 d = u := fun u v d => logE_20 ha20
    have f5 : ∀ u v d, (logE (fixB 20 q0.1) u v).set 20 d = logE (fixB 20 q0.1) d v := fun u v d => logE_s20 ha20
    have f6 : ∀ u v d, (logE (fixB 20 q0.1) u v).set 21 d = logE (fixB 20 q0.1) u d := fun u v d => logE_s21 ha20
    have f8 : ∀ u v, List.take 22 (logE (fixB 20 q0.1) u v) = logE (fixB 20 q0.1) u v := fun u v => logE_take ha20
    have hlc0 : ∀ n u v, closeds n (logE (fixB 20 q0.1) (.raw u) (.raw v)) := fun n u v => logE_closed (by simp [closed]) (by simp [closed])
    have hlc5 : ∀ a c v, closeds 5 (logE (fixB 20 q0.1) (.sl 4 0 a c) (.raw v)) := fun a c v => logE_closed (by simp [closed]) (by simp [closed])
    repeat' (simp (maxSteps := 4000000) (disch := omega) only [go_sem, Nat.reduceBEq, Nat.reduceAdd, Nat.reduceMul, Nat.reduceSub, Nat.reduceLT, Nat.reduceLeDiff, Int.reduceToNat, Int.reduceLT, Int.reduceLE, Int.reduceAdd, Int.reduceMul, Int.reduceSub, Int.reduceNeg, Int.reduceDiv, Int.reduceMod, Nat.reduceBNe, Nat.reduceGT, Int.reduceBEq, Int.reduceBNe, Int.reduceGT, Nat.reduceDiv, Nat.reduceMod, Nat.reducePow, Int.reducePow, gt_iff_lt, ge_iff_le, List.reduceReplicate, ↓reduceIte])
    refine loopU (S := Nat × Lst × Base) (fun s => s.1 ≤ ts.length ∧ lOk z32 s.1 s.2.1 ∧ BExt B4 s.2.2)
      (fun s => ⟨[(33, .int .i64 (s.1 : Nat)), (32, .int .i64 (ts.length : Nat)), (31, .raw (.slice tA ts.length tc)), (6, .raw (.slice kA 3 kc)), (5, .ptr 3 0), (4, .ptr 2 0), (0, .ptr 0 0)], 5,
        [(4, lO 38 ((topsM (ts.take s.1)).map bE) s.2.1), (3, some (.cells (logE (fixB 20 q0.1) (lE 4 s.1 s.2.1) (.raw (.slice none 0 0))) 36 (0, 0))), (2, some (.cells z22 36 (0, 0))), (0, some (rdO (errT (ts.take s.1) e1)))], s.2.2, []⟩)
      (fun s => ts.length - s.1) (0, none, B4) ⟨Nat.zero_le _, rfl, BExt.refl _⟩ (Weak.sub (weak_of (by simp [wσ, go_sem, closed, closeds, lE_closed, lE, lO, clO, EObj.closed, topsM, errT, z22, List.replicate, hlc0] <;> omega) (by simp [whs, Go.Ew.hget, go_sem, EObj.closed, closed, closeds, lE_closed, lE, lO, clO, EObj.closed, topsM, errT, z22, List.replicate, hlc0]) (by simp [*]) rfl rfl (by simp))) ?_
    rintro ⟨i, l, B5⟩ ⟨hi, hl, hB5⟩
    simp only at hi hl hB5 ⊢
    replace hR4 := hR4.ext hB5
    have htpl : (topsM (ts.take i)).length = i * 32 := by rw [topsM_len, List.length_take]; omega
    rcases Nat.lt_or_ge i ts.length with hi2 | hi2
    · refine next_of 1000 ?_
      simp (maxSteps := 4000000) (disch := omega) only [go_sem, Nat.reduceBEq, Nat.reduceAdd, Nat.reduceMul, Nat.reduceSub, Nat.reduceLT, Nat.reduceLeDiff, Int.reduceToNat, Int.reduceLT, Int.reduceLE, Int.reduceAdd, Int.reduceMul, Int.reduceSub, Int.reduceNeg, Int.reduceDiv, Int.reduceMod, Nat.reduceBNe, Nat.reduceGT, Int.reduceBEq, Int.reduceBNe, Int.reduceGT, Nat.reduceDiv, Nat.reduceMod, Nat.reducePow, Int.reducePow, gt_iff_lt, ge_iff_le, List.reduceReplicate, ↓reduceIte]
      repeat (with_reducible refine And.intro (by first | omega | assumption | (constructor <;> assumption) | (simp; done) | (simp; omega) | (simp [*]; done) | ((repeat' refine And.intro ?_ ?_) <;> first | omega | assumption | (refine SlOk.so (n := ?_) ?_ ?_; rotate_left; assumption; omega) | (simp; done) | fail) | fail) ?_)
      refine condS_split (fun h2 => ?_) (fun h2 => by simp at h2; omega)
      obtain ⟨n1, n2, n3, n4⟩ := kid_ld hR4.c (i := i) (by omega)
      have ik := hR4.ok _ (List.getElem_mem (show i < qs.length by omega))
      have hqi : (qs[i]'(by omega)).1 = ts[i] := by
        have h1 : (qs.map Prod.fst)[i]? = ts[i]? := by rw [hR4.m]
        rw [List.getElem?_map, List.getElem?_eq_getElem (show i < qs.length by omega), List.getElem?_eq_getElem hi2] at h1
        simpa using h1
      have hee := errT_take hi2 e1
      have htt := topsM_take hi2
      rw [← hqi] at hee htt
      obtain ⟨q, hq0⟩ : ∃ q, q = qs[i]'(by omega) := ⟨_, rfl⟩
      rw [← hq0] at n1 ik hee htt
      obtain ⟨E, hE⟩ : ∃ E, E = errT (ts.take i) e1 := ⟨_, rfl⟩
      rw [← hE] at hee ⊢
      obtain ⟨TP, hTP⟩ : ∃ TP, TP = topsM (ts.take i) := ⟨_, rfl⟩
      rw [← hTP] at htt htpl ⊢
      repeat' (first | with_reducible refine And.intro (by first | omega | assumption | (constructor <;> assumption) | (simp; done) | (simp; omega) | (simp [*]; done) | ((repeat' refine And.intro ?_ ?_) <;> first | omega | assumption | (refine SlOk.so (n := ?_) ?_ ?_; rotate_left; assumption; omega) | (simp; done) | fail) | fail) ?_ | simp (maxSteps := 4000000) (disch := omega) only [go_sem, Nat.reduceBEq, Nat.reduceAdd, Nat.reduceMul, Nat.reduceSub, Nat.reduceLT, Nat.reduceLeDiff, Int.reduceToNat, Int.reduceLT, Int.reduceLE, Int.reduceAdd, Int.reduceMul, Int.reduceSub, Int.reduceNeg, Int.reduceDiv, Int.reduceMod, Nat.reduceBNe, Nat.reduceGT, Int.reduceBEq, Int.reduceBNe, Int.reduceGT, Nat.reduceDiv, Nat.reduceMod, Nat.reducePow, Int.reducePow, gt_iff_lt, ge_iff_le, List.reduceReplicate, ↓reduceIte, Int.toNat_natCast, n1] | with_reducible refine drawT_of (id := 10) [0, 1, 2, 3, 4] mixed (by kernel_rfl) (by simp) (fun hin => dt_of 1000 hin ?_))
      refine callT_t 0 (rbytes_fn ik E 32 32 (by omega) (Nat.le_refl _)) rfl (fun _ => by simp [closed]) (rdO_closed _) (rdO_closed _) (by kernel_rfl) (ck_of (by kernel_rfl) (nmT_of (by kernel_rfl))) (fun hin2 s6 B6 hB6 hR6 => dt_of 1000 hin2 ?_)
      change BExt B5 B6 at hB6
      repeat' (simp (maxSteps := 4000000) (disch := omega) only [go_sem, Nat.reduceBEq, Nat.reduceAdd, Nat.reduceMul, Nat.reduceSub, Nat.reduceLT, Nat.reduceLeDiff, Int.reduceToNat, Int.reduceLT, Int.reduceLE, Int.reduceAdd, Int.reduceMul, Int.reduceSub, Int.reduceNeg, Int.reduceDiv, Int.reduceMod, Nat.reduceBNe, Nat.reduceGT, Int.reduceBEq, Int.reduceBNe, Int.reduceGT, Nat.reduceDiv, Nat.reduceMod, Nat.reducePow, Int.reducePow, gt_iff_lt, ge_iff_le, List.reduceReplicate, ↓reduceIte])
      refine copyT (m := (asB q.1 32 32).1.length) (news := (asB q.1 32 32).1.map bE) (cs' := (fixB 32 q.1).map bE) rfl Try.underlying23 cz5 ⟨_, Try.underlying5⟩ rfl rfl rfl (fun B hs hB => (hR6.1.ext hB).src hs) (bE_one _) (by simp [ints_len]) (.inl (Nat.zero_le _)) ?_ (fun hin3 => dt_of 1000 hin3 ?_)
      · have h := fixB_copy 32 q.1 (ints .u8 (fun _ => 0) 32) rfl
        rw [List.take_zero, List.nil_append, Nat.zero_add, h]
      repeat' (first | with_reducible refine And.intro (by first | omega | assumption | (constructor <;> assumption) | (simp; done) | (simp; omega) | (simp [*]; done) | ((repeat' refine And.intro ?_ ?_) <;> first | omega | assumption | (refine SlOk.so (n := ?_) ?_ ?_; rotate_left; assumption; omega) | (simp; done) | fail) | fail) ?_ | simp (maxSteps := 4000000) (disch := omega) only [go_sem, Nat.reduceBEq, Nat.reduceAdd, Nat.reduceMul, Nat.reduceSub, Nat.reduceLT, Nat.reduceLeDiff, Int.reduceToNat, Int.reduceLT, Int.reduceLE, Int.reduceAdd, Int.reduceMul, Int.reduceSub, Int.reduceNeg, Int.reduceDiv, Int.reduceMod, Nat.reduceBNe, Nat.reduceGT, Int.reduceBEq, Int.reduceBNe, Int.reduceGT, Nat.reduceDiv, Nat.reduceMod, Nat.reducePow, Int.reducePow, gt_iff_lt, ge_iff_le, List.reduceReplicate, ↓reduceIte] | with_reducible refine endT_of (by kernel_rfl) (nmT_of (by kernel_rfl)) (next_of 1000 ?_))
      have g1 : ((fixB 32 q.1).map bE).length = 32 := by rw [List.length_map, fixB_len]
      have g2 : List.take 32 ((fixB 32 q.1).map bE) = (fixB 32 q.1).map bE := List.take_of_length_le (by omega)
      have g3 := bE_one (fixB 32 q.1)
      have g4 : ints .u8 (fun _ => (0 : Int)) 32 ≠ [] := by simp [ints]
      have g5 : (ints .u8 (fun _ => (0 : Int)) 32).length = 32 := ints_len _ _ _
      have g6 := bE_splice (l := fixB 32 q.1) (n := 32) (fixB_len 32 q.1) (by omega)
      repeat' (first | with_reducible refine And.intro (by first | omega | assumption | (constructor <;> assumption) | (simp; done) | (simp; omega) | (simp [*]; done) | ((repeat' refine And.intro ?_ ?_) <;> first | omega | assumption | (refine SlOk.so (n := ?_) ?_ ?_; rotate_left; assumption; omega) | (simp; done) | fail) | fail) ?_ | simp (maxSteps := 4000000) (disch := omega) only [go_sem, Nat.reduceBEq, Nat.reduceAdd, Nat.reduceMul, Nat.reduceSub, Nat.reduceLT, Nat.reduceLeDiff, Int.reduceToNat, Int.reduceLT, Int.reduceLE, Int.reduceAdd, Int.reduceMul, Int.reduceSub, Int.reduceNeg, Int.reduceDiv, Int.reduceMod, Nat.reduceBNe, Nat.reduceGT, Int.reduceBEq, Int.reduceBNe, Int.reduceGT, Nat.reduceDiv, Nat.reduceMod, Nat.reducePow, Int.reducePow, gt_iff_lt, ge_iff_le, List.reduceReplicate, ↓reduceIte, f3, g1, g2, g3, g5, g6])
      refine appendL (l := l) (xs := TP.map bE) (zs := z32) (news := (fixB 32 q.1).map bE) (T := 38) 4 i rfl Try.underlying34 (.inl ⟨_, Try.underlying34⟩) zr38 cz38 (by simp [z32, ints]) z32_closed rfl rfl rfl hl (by rw [List.length_map, htpl]; rfl) (closeds_bE 0 _) (src_own (m := 1) rfl (by rw [List.drop_zero, List.take_of_length_le (by simp [z32, ints_len, fixB_len])])) (by simp [z32, ints_len, fixB_len]) (bE_one _) (by simp only [maxLen]; omega) (by rw [show Try.prog.bytesOf 38 = 32 from by38]; omega) (fun l2 hl2 => ?_)
      have hl2' := hl2
      obtain ⟨cp, rest, rfl, -⟩ := lst_some hl2 (by omega)
      simp only [lE_some]
      have hev : TP.map bE ++ (fixB 32 q.1).map bE = (topsM (ts.take (i + 1))).map bE := by rw [htt, List.map_append]
      repeat' (first | with_reducible refine And.intro (by first | omega | assumption | (constructor <;> assumption) | (simp; done) | (simp; omega) | (simp [*]; done) | ((repeat' refine And.intro ?_ ?_) <;> first | omega | assumption | (refine SlOk.so (n := ?_) ?_ ?_; rotate_left; assumption; omega) | (simp; done) | fail) | fail) ?_ | simp (maxSteps := 4000000) (disch := omega) only [go_sem, Nat.reduceBEq, Nat.reduceAdd, Nat.reduceMul, Nat.reduceSub, Nat.reduceLT, Nat.reduceLeDiff, Int.reduceToNat, Int.reduceLT, Int.reduceLE, Int.reduceAdd, Int.reduceMul, Int.reduceSub, Int.reduceNeg, Int.reduceDiv, Int.reduceMod, Nat.reduceBNe, Nat.reduceGT, Int.reduceBEq, Int.reduceBNe, Int.reduceGT, Nat.reduceDiv, Nat.reduceMod, Nat.reducePow, Int.reducePow, gt_iff_lt, ge_iff_le, List.reduceReplicate, ↓reduceIte, hev, f2, f5] | with_reducible refine next_of 1000 ?_)
      have cl2 : ∀ n, clO n (lO 38 ((topsM (ts.take (i + 1))).map bE) (some (cp, rest))) = True := fun n => clO_lO hl2' (closeds_bE 0 _) z32_closed
      refine ⟨(i + 1, some (cp, rest), B6), ⟨hi2, hl2', hB5.trans hB6⟩, (pack_sub [200001] 4 (by simp) (by simp) (by simp) (by simp)).trans ?_, by simp only; omega⟩
      simp only [go_sem, okC, okE, okCs, okCs_log, rens_log, z22_ok, z22_ren, pkO_some, pkO_lO (ks := [200001]) (k := 4) hl2' (closeds_bE 0 _) z32_closed, pkO_none, lE_some]
      exact Weak.sub (weak_of (by simp [wσ, go_sem, closed, closeds, lE_closed, cl2, lE_some, hee, hlc5, hlc0, z22_cl, okCs_log, rens_log, okC, ren, z22_ok, z22_ren] <;> omega) (by simp [whs, Go.Ew.hget, go_sem, EObj.closed, closed, closeds, lE_closed, cl2, lE_some, hee, hlc5, hlc0, z22_cl, okCs_log, rens_log, okC, ren, z22_ok, z22_ren]) (by simp [*]) rfl rfl (by simp))
    · obtain rfl : i = ts.length := by omega
      rw [List.take_length] at htpl ⊢
      have hxl : ((topsM ts).map bE).length = ts.length * z32.length := by rw [List.length_map, htpl]; rfl
      refine freezeL (xs := (topsM ts).map bE) (T := 38) 4 ts.length rfl hl hxl (closeds_bE 0 _) z32_closed (by simp) (fun b2 fA fc B6 hB6 hf2' hD hso hcell => ?_)
      change BExt B5 B6 at hB6
      have hC : BytesAt B6 fA (topsM ts) := cellsAt_frz hD hso (fun h0 => by
        rw [h0, Nat.zero_mul] at htpl; have h9 := List.length_eq_zero_iff.1 htpl; rw [h9]; rfl) hcell (reals_bE _ _)
      simp only [frzσ, frz, frzs_log, frzs_z22, hf2', frzh_cons, frzh_nil, Nat.reduceEqDiff, if_false, if_true, ↓reduceIte, fzO_some, EObj.frz, frzs]
      have hB36 := hB4.trans (hB5.trans hB6)
      obtain ⟨r1, r2, r3, r4⟩ := kid_ld (hR2.c.ext (hB3.trans hB36)) (i := 2) (by simp)
      simp only [Nat.reduceMul, List.getElem_cons_succ, List.getElem_cons_zero] at r1 r3
      refine next_of 1000 ?_
      simp (maxSteps := 4000000) (disch := omega) only [go_sem, Nat.reduceBEq, Nat.reduceAdd, Nat.reduceMul, Nat.reduceSub, Nat.reduceLT, Nat.reduceLeDiff, Int.reduceToNat, Int.reduceLT, Int.reduceLE, Int.reduceAdd, Int.reduceMul, Int.reduceSub, Int.reduceNeg, Int.reduceDiv, Int.reduceMod, Nat.reduceBNe, Nat.reduceGT, Int.reduceBEq, Int.reduceBNe, Int.reduceGT, Nat.reduceDiv, Nat.reduceMod, Nat.reducePow, Int.reducePow, gt_iff_lt, ge_iff_le, List.reduceReplicate, ↓reduceIte]
      repeat (with_reducible refine And.intro (by first | omega | assumption | (constructor <;> assumption) | (simp; done) | (simp; omega) | (simp [*]; done) | ((repeat' refine And.intro ?_ ?_) <;> first | omega | assumption | (refine SlOk.so (n := ?_) ?_ ?_; rotate_left; assumption; omega) | (simp; done) | fail) | fail) ?_)
      refine condS_split (fun h2 => by simp at h2) (fun h2 => ?_)
      repeat' (first | with_reducible refine And.intro (by first | omega | assumption | (constructor <;> assumption) | (simp; done) | (simp; omega) | (simp [*]; done) | ((repeat' refine And.intro ?_ ?_) <;> first | omega | assumption | (refine SlOk.so (n := ?_) ?_ ?_; rotate_left; assumption; omega) | (simp; done) | fail) | fail) ?_ | simp (maxSteps := 4000000) (disch := omega) only [go_sem, Nat.reduceBEq, Nat.reduceAdd, Nat.reduceMul, Nat.reduceSub, Nat.reduceLT, Nat.reduceLeDiff, Int.reduceToNat, Int.reduceLT, Int.reduceLE, Int.reduceAdd, Int.reduceMul, Int.reduceSub, Int.reduceNeg, Int.reduceDiv, Int.reduceMod, Nat.reduceBNe, Nat.reduceGT, Int.reduceBEq, Int.reduceBNe, Int.reduceGT, Nat.reduceDiv, Nat.reduceMod, Nat.reducePow, Int.reducePow, gt_iff_lt, ge_iff_le, List.reduceReplicate, ↓reduceIte, r1] | with_reducible refine next_of 1000 ?_)
      refine callS_t 0 (rbytes_fn (i2.ext (hB3.trans hB36)) (errT ts e1) 0 many (Nat.le_refl _) (Nat.zero_le _)) rfl (fun _ => by simp [closed]) (rdO_closed _) (rdO_closed _) (fun s8 B8 hB8 hR8 => next_of 1000 ?_)
      change BExt B6 B8 at hB8
      have hdl : (asB q2.1 0 many).1.length ≤ 200000 := asB_small hs2
      have f1 : ∀ u v, oneAll (logE (fixB 20 q0.1) (.raw u) (.raw v)) = (u.oneCell' && v.oneCell') := fun u v => by rw [oneAll_logE]; rfl
      have hsp : ∀ u v, splice z22 0 (logE (fixB 20 q0.1) u v) = logE (fixB 20 q0.1) u v := fun u v => logE_splice ha20 _ _ _ _ _ _ _ _ _ _ _ _ _ _ _ _ _ _ _ _ _ _
      repeat' (first | with_reducible refine And.intro (by first | omega | assumption | (constructor <;> assumption) | (simp; done) | (simp; omega) | (simp [*]; done) | ((repeat' refine And.intro ?_ ?_) <;> first | omega | assumption | (refine SlOk.so (n := ?_) ?_ ?_; rotate_left; assumption; omega) | (simp; done) | fail) | fail) ?_ | simp (maxSteps := 4000000) (disch := omega) only [go_sem, Nat.reduceBEq, Nat.reduceAdd, Nat.reduceMul, Nat.reduceSub, Nat.reduceLT, Nat.reduceLeDiff, Int.reduceToNat, Int.reduceLT, Int.reduceLE, Int.reduceAdd, Int.reduceMul, Int.reduceSub, Int.reduceNeg, Int.reduceDiv, Int.reduceMod, Nat.reduceBNe, Nat.reduceGT, Int.reduceBEq, Int.reduceBNe, Int.reduceGT, Nat.reduceDiv, Nat.reduceMod, Nat.reducePow, Int.reducePow, gt_iff_lt, ge_iff_le, List.reduceReplicate, ↓reduceIte, f1, f2, f6, f8, hsp, show z22.length = 22 from rfl])
      have hBX := hB2.trans (hB3.trans (hB36.trans hB8))
      have hfe : kp (errT ts e1) (asB q2.1 0 many).2 = logE3 q0.1 q1.1 q2.1 := by rw [logE3, ← hts, ← he1]
      exact ⟨hBX, ⟨fixB 20 q0.1, fA, ts.length, fc, topsM ts, s8.1, (asB q2.1 0 many).1.length, s8.2, (asB q2.1 0 many).1⟩, rfl, logE_closed (by simp [closed]) (by simp [closed]), by rw [hfe], ⟨ha20, topsM_len ts, rfl, hC.ext hB8, hR8.1, by simp only; omega, by simp only; omega⟩, fun _ _ => by rw [logB, ← hts]; rfl⟩
  · have hne : kp e (asL t 3 3).2 ≠ 0 := hz
    have hE : kp e (logT t).2 = kp e (asL t 3 3).2 := by
      by_cases h0 : e = 0
      · subst h0
        rw [kp_zero] at hne
        rw [kp_zero, kp_zero, logT, if_pos hne]
      · rw [kp_ne h0, kp_ne h0]
    have hnz : e = 0 → (logT t).2 ≠ 0 := fun h0 h1 => by
      subst h0
      rw [kp_zero] at hne hE
      rw [kp_zero] at hE
      omega
    rw [hE]
    obtain ⟨E, hE0⟩ : ∃ E, E = kp e (asL t 3 3).2 := ⟨_, rfl⟩
    rw [← hE0] at hne ⊢
    have hei : ((E : Nat) : Int) ≠ 0 := by omega
    repeat' (first | with_reducible refine And.intro (by first | omega | assumption | (constructor <;> assumption) | (simp; done) | (simp; omega) | (simp [*]; done) | ((repeat' refine And.intro ?_ ?_) <;> first | omega | assumption | (refine SlOk.so (n := ?_) ?_ ?_; rotate_left; assumption; omega) | (simp; done) | fail) | fail) ?_ | simp (maxSteps := 4000000) (disch := omega) only [go_sem, Nat.reduceBEq, Nat.reduceAdd, Nat.reduceMul, Nat.reduceSub, Nat.reduceLT, Nat.reduceLeDiff, Int.reduceToNat, Int.reduceLT, Int.reduceLE, Int.reduceAdd, Int.reduceMul, Int.reduceSub, Int.reduceNeg, Int.reduceDiv, Int.reduceMod, Nat.reduceBNe, Nat.reduceGT, Int.reduceBEq, Int.reduceBNe, Int.reduceGT, Nat.reduceDiv, Nat.reduceMod, Nat.reducePow, Int.reducePow, gt_iff_lt, ge_iff_le, List.reduceReplicate, ↓reduceIte] | ((first | refine condS_split (fun h => ?_) (fun h => ?_) | refine testS_split (fun h => ?_) (fun h => ?_) | refine testT_split (fun h => ?_) (fun h => ?_)) <;> (try simp only [bne_iff_ne, ne_eq, beq_iff_eq, decide_eq_true_eq, decide_eq_false_iff_not, Bool.not_eq_true, Bool.not_eq_false, Bool.not_true, Bool.not_false, bne_eq_false_iff_eq, beq_eq_false_iff_ne, Bool.and_eq_true, Bool.or_eq_true, Bool.and_eq_false_imp, Bool.or_eq_false_iff, Bool.not_eq_true', Bool.not_eq_false', Int.not_lt, Int.not_le] at h) <;> (try (exfalso; omega))))
    exact ⟨g0, rfl, logE_closed (by simp [closed]) (by simp [closed]), g0_ok _, fun h0 h1 => absurd h1 (hnz h0)⟩
end Go.Proofs.Ytepabkjfnpaijaa

