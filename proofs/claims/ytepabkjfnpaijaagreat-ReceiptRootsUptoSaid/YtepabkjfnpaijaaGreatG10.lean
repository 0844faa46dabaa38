/- Part of a proof over the seat YtepabkjfnpaijaaGreat. -/
import Derived.Test.YtepabkjfnpaijaaGreatG09
import Derived.Test.YtepabkjfnpaijaaGreatEng2
set_option linter.unusedSimpArgs false
set_option linter.unusedVariables false
set_option maxRecDepth 100000
namespace Go.Proofs.YtepabkjfnpaijaaGreat
open Go RowKit Go.Ew
set_option maxHeartbeats 4000000
theorem Ek2 : D5 Tryz.f34.ntmps (Tryz.f34.body.getD .skip) = true := by kernel_rfl
/-- What there is between two kids. -/
def Az4 (sl : EV) (N : Nat) (ys : List UInt8) : Nat → Lst → List (Nat × Option EObj)
 | 0, l => [(5, some (.cells [sl] 53 (0, 0))), (3, lO 5 (ys.map bE) l), (1, some (.cells [lE 3 N l] 39 (0, 0)))]
 | _ + 1, l => [(8, lO 5 (ys.map bE) l), (5, some (.cells [sl] 53 (0, 0))), (1, some (.cells [lE 8 N l] 39 (0, 0)))]
theorem Cc7 {B : Base} {t : Itm} {s : Plc} (h : ItAt B t s) (hok : okI t = true) (hf : (H5 t).length < 35184372088832) : Apps Tryz.prog 34 5 [.agg (itE t s)] B (H5 t) := by
 induction h with
 | mk l b qs s hb hbl hc hql hk ih =>
 have hit : ItAt B (.mk l b (qs.map Prod.fst)) s := .mk l b qs s hb hbl hc hql hk
 have hsz := Dh6 hit hok (by omega)
 have e1 : (Itm.mk l b (qs.map Prod.fst)).list = l := rfl
 have e2 : (Itm.mk l b (qs.map Prod.fst)).bytes = b := rfl
 have e3 : (Itm.mk l b (qs.map Prod.fst)).kids.length = qs.length := List.length_map _
 simp only [itE, e1, e2, e3] at hsz ⊢
 refine Dm0 Er0 Tryz.func34 rfl Ek2 (by simp [Tryz.f34]) (by simp [A0, closed]) (fun B0 hB0 n ll xs olds hold hxn hll hmax => ?_)
 replace hb := hb.ext hB0
 replace hc := hc.ext hB0
 replace hsz := O4 hsz hB0
 obtain ⟨K, hK⟩ : ∃ K, K = qs.map Prod.fst := ⟨_, rfl⟩
 have hKl : K.length = qs.length := by rw [hK, List.length_map]
 rw [← hK] at hok hf hsz hmax
 simp only [← hK]
 simp only [okI, Bool.and_eq_true, Bool.or_eq_true, beq_iff_eq, List.isEmpty_iff] at hok
 obtain ⟨hs, hkids⟩ := hok
 rcases hs with ⟨rfl, hks⟩ | ⟨rfl, rfl⟩
 ·rcases ll with _ | ⟨cp0, rest0⟩
  ·simp only [show ∀ r n, lE r n none = .raw (.slice none 0 0) from fun _ _ => rfl, show ∀ T xs, lO T xs none = none from fun _ _ => rfl]
   subst hks
   have hq0 : qs.length = 0 := by rw [← hKl]; rfl
   have n10 : ((0 : Int) = 1) = False := by simp
   simp only [H5, n10, if_false, pay] at hf hsz hmax ⊢
   by_cases h1 : b.length = 1 ∧ b.getD 0 0 < 128
   ·rw [if_pos h1] at hf hsz hmax ⊢
    refine A3 1000 ?_
    repeat' (first | with_reducible refine And.intro (by omega) ?_ | simp (maxSteps := 4000000) (disch := omega) only [go_sem, ↓reduceIte, Tryz.f34] | refine F5 (hsz) (by simp [closed, A0, A2, C6]) (A3 1000 ?_) | ((first | refine A8 (fun h => ?_) (fun h => ?_) | refine E8 (fun h => ?_) (fun h => ?_) | refine F6 (fun h => ?_) (fun h => ?_)) <;> (try simp only [bne_iff_ne, ne_eq, beq_iff_eq, decide_eq_true_eq, decide_eq_false_iff_not, Bool.not_eq_true, Bool.not_eq_false, Bool.not_true, Bool.not_false, bne_eq_false_iff_eq, beq_eq_false_iff_ne, Bool.and_eq_true, Bool.or_eq_true, Bool.and_eq_false_imp, Bool.or_eq_false_iff, Bool.not_eq_true', Bool.not_eq_false', Int.not_lt, Int.not_le] at h) <;> (try (exfalso; omega))))
    refine appB (T := 5) (l := none) (xs := xs) 0 n b rfl Tryz.underlying39 (.inl ⟨_, Tryz.underlying39⟩) zr5 cz5 by5 hxn rfl rfl hll (hb.src _) (by omega) (fun l1 hl1 => A3 1000 ?_)
    repeat' (simp (maxSteps := 4000000) (disch := omega) only [go_sem, ↓reduceIte])
    exact ⟨by rcases l1 with _ | ⟨q1, q2⟩ <;> rfl, BExt.refl _, 3, l1, (by rw [hxn]), rfl, (by rw [hxn]; exact hl1)⟩
   ·rw [if_neg h1] at hf hsz hmax ⊢
    have hh := Ap0 (base := 128) (n := b.length) (by omega)
    rw [List.length_append] at hf hsz hmax
    refine A3 1000 ?_
    repeat' (first | with_reducible refine And.intro (by omega) ?_ | simp (maxSteps := 4000000) (disch := omega) only [go_sem, ↓reduceIte, Tryz.f34] | with_reducible refine C9 (id := 4) [0, 1, 2, 3, 4] mixed (by kernel_rfl) (by simp) (fun hin => C8 1000 hin ?_) | refine F5 (hsz) (by simp [closed, A0, A2, C6]) (A3 1000 ?_) | ((first | refine A8 (fun h => ?_) (fun h => ?_) | refine E8 (fun h => ?_) (fun h => ?_) | refine F6 (fun h => ?_) (fun h => ?_)) <;> (try simp only [bne_iff_ne, ne_eq, beq_iff_eq, decide_eq_true_eq, decide_eq_false_iff_not, Bool.not_eq_true, Bool.not_eq_false, Bool.not_true, Bool.not_false, bne_eq_false_iff_eq, beq_eq_false_iff_ne, Bool.and_eq_true, Bool.or_eq_true, Bool.and_eq_false_imp, Bool.or_eq_false_iff, Bool.not_eq_true', Bool.not_eq_false', Int.not_lt, Int.not_le] at h) <;> (try (exfalso; omega))))
    refine H7 (Ag0 128 b.length (by omega) (by omega) _) (fun _ => by simp [closed]) (by kernel_rfl) (F1 (by kernel_rfl) (C1 (by kernel_rfl))) (fun hin2 s1 B1 hB1 hR1 => C8 1000 hin2 ?_)
    change BExt B0 B1 at hB1
    repeat' (simp (maxSteps := 4000000) (disch := omega) only [go_sem, ↓reduceIte])
    refine Y9 (T := 5) (l := none) (xs := xs) 22 0 n (hd 128 b.length) [] rfl rfl Tryz.underlying39 (.inl ⟨_, Tryz.underlying39⟩) zr5 cz5 by5 hxn rfl rfl hll (fun B hs hB _ => (hR1.ext hB).src _) (by omega) (by simp only [cxG]; omega) (by kernel_rfl) (F1 (by kernel_rfl) (C1 (by kernel_rfl))) (fun l1 hl1 => C8 1000 (by assumption) ?_)
    have hl1' := hl1
    obtain ⟨cp, rest, rfl, -⟩ := D8 hl1 (by omega)
    simp only [A6]
    repeat' (simp (maxSteps := 4000000) (disch := omega) only [go_sem, ↓reduceIte])
    refine D7 (by kernel_rfl) (C1 (by kernel_rfl)) ?_
    refine K7 [100022] 3 (by simp) (by simp) (by simp only [cxG]; omega) (by simp) (A3 1000 ?_)
    have hpk := F4 (T := 5) (ks := [100022]) (k := 3) hl1' (A9 0 (xs ++ hd 128 b.length)) hz8
    repeat' (first | with_reducible refine And.intro (by omega) ?_ | simp (maxSteps := 4000000) (disch := omega) only [go_sem, ↓reduceIte, okC, okE, O8, E6, hpk, E1])
    refine appB (T := 5) (l := some (cp, rest)) (xs := xs ++ hd 128 b.length) 3 (n + (hd 128 b.length).length) b rfl Tryz.underlying39 (.inl ⟨_, Tryz.underlying39⟩) zr5 cz5 by5 (by rw [List.length_append, hxn]) rfl rfl hl1' ((hb.ext hB1).src _) (by omega) (fun l2 hl2 => A3 1000 ?_)
    repeat' (simp (maxSteps := 4000000) (disch := omega) only [go_sem, ↓reduceIte])
    exact ⟨by rcases l2 with _ | ⟨q1, q2⟩ <;> rfl, hB1, 4, l2, by rw [List.length_append, hxn, Nat.add_assoc], by rw [← List.append_assoc]; rfl, by rw [List.length_append, hxn, ← Nat.add_assoc]; exact hl2⟩
  ·simp only [A6]
   subst hks
   have hq0 : qs.length = 0 := by rw [← hKl]; rfl
   have n10 : ((0 : Int) = 1) = False := by simp
   simp only [H5, n10, if_false, pay] at hf hsz hmax ⊢
   by_cases h1 : b.length = 1 ∧ b.getD 0 0 < 128
   ·rw [if_pos h1] at hf hsz hmax ⊢
    refine A3 1000 ?_
    repeat' (first | with_reducible refine And.intro (by omega) ?_ | simp (maxSteps := 4000000) (disch := omega) only [go_sem, ↓reduceIte, Tryz.f34] | refine F5 (hsz) (by simp [closed, A0, A2, C6]) (A3 1000 ?_) | ((first | refine A8 (fun h => ?_) (fun h => ?_) | refine E8 (fun h => ?_) (fun h => ?_) | refine F6 (fun h => ?_) (fun h => ?_)) <;> (try simp only [bne_iff_ne, ne_eq, beq_iff_eq, decide_eq_true_eq, decide_eq_false_iff_not, Bool.not_eq_true, Bool.not_eq_false, Bool.not_true, Bool.not_false, bne_eq_false_iff_eq, beq_eq_false_iff_ne, Bool.and_eq_true, Bool.or_eq_true, Bool.and_eq_false_imp, Bool.or_eq_false_iff, Bool.not_eq_true', Bool.not_eq_false', Int.not_lt, Int.not_le] at h) <;> (try (exfalso; omega))))
    refine appB (T := 5) (l := (some (cp0, rest0))) (xs := xs) 0 n b rfl Tryz.underlying39 (.inl ⟨_, Tryz.underlying39⟩) zr5 cz5 by5 hxn rfl rfl hll (hb.src _) (by omega) (fun l1 hl1 => A3 1000 ?_)
    repeat' (simp (maxSteps := 4000000) (disch := omega) only [go_sem, ↓reduceIte])
    exact ⟨by rcases l1 with _ | ⟨q1, q2⟩ <;> rfl, BExt.refl _, 3, l1, (by rw [hxn]), rfl, (by rw [hxn]; exact hl1)⟩
   ·rw [if_neg h1] at hf hsz hmax ⊢
    have hh := Ap0 (base := 128) (n := b.length) (by omega)
    rw [List.length_append] at hf hsz hmax
    refine A3 1000 ?_
    repeat' (first | with_reducible refine And.intro (by omega) ?_ | simp (maxSteps := 4000000) (disch := omega) only [go_sem, ↓reduceIte, Tryz.f34] | with_reducible refine C9 (id := 4) [0, 1, 2, 3, 4] mixed (by kernel_rfl) (by simp) (fun hin => C8 1000 hin ?_) | refine F5 (hsz) (by simp [closed, A0, A2, C6]) (A3 1000 ?_) | ((first | refine A8 (fun h => ?_) (fun h => ?_) | refine E8 (fun h => ?_) (fun h => ?_) | refine F6 (fun h => ?_) (fun h => ?_)) <;> (try simp only [bne_iff_ne, ne_eq, beq_iff_eq, decide_eq_true_eq, decide_eq_false_iff_not, Bool.not_eq_true, Bool.not_eq_false, Bool.not_true, Bool.not_false, bne_eq_false_iff_eq, beq_eq_false_iff_ne, Bool.and_eq_true, Bool.or_eq_true, Bool.and_eq_false_imp, Bool.or_eq_false_iff, Bool.not_eq_true', Bool.not_eq_false', Int.not_lt, Int.not_le] at h) <;> (try (exfalso; omega))))
    refine H7 (Ag0 128 b.length (by omega) (by omega) _) (fun _ => by simp [closed]) (by kernel_rfl) (F1 (by kernel_rfl) (C1 (by kernel_rfl))) (fun hin2 s1 B1 hB1 hR1 => C8 1000 hin2 ?_)
    change BExt B0 B1 at hB1
    repeat' (simp (maxSteps := 4000000) (disch := omega) only [go_sem, ↓reduceIte])
    refine Y9 (T := 5) (l := (some (cp0, rest0))) (xs := xs) 22 0 n (hd 128 b.length) [] rfl rfl Tryz.underlying39 (.inl ⟨_, Tryz.underlying39⟩) zr5 cz5 by5 hxn rfl rfl hll (fun B hs hB _ => (hR1.ext hB).src _) (by omega) (by simp only [cxG]; omega) (by kernel_rfl) (F1 (by kernel_rfl) (C1 (by kernel_rfl))) (fun l1 hl1 => C8 1000 (by assumption) ?_)
    have hl1' := hl1
    obtain ⟨cp, rest, rfl, -⟩ := D8 hl1 (by omega)
    simp only [A6]
    repeat' (simp (maxSteps := 4000000) (disch := omega) only [go_sem, ↓reduceIte])
    refine D7 (by kernel_rfl) (C1 (by kernel_rfl)) ?_
    refine K7 [100022] 3 (by simp) (by simp) (by simp only [cxG]; omega) (by simp) (A3 1000 ?_)
    have hpk := F4 (T := 5) (ks := [100022]) (k := 3) hl1' (A9 0 (xs ++ hd 128 b.length)) hz8
    repeat' (first | with_reducible refine And.intro (by omega) ?_ | simp (maxSteps := 4000000) (disch := omega) only [go_sem, ↓reduceIte, okC, okE, O8, E6, hpk, E1])
    refine appB (T := 5) (l := some (cp, rest)) (xs := xs ++ hd 128 b.length) 3 (n + (hd 128 b.length).length) b rfl Tryz.underlying39 (.inl ⟨_, Tryz.underlying39⟩) zr5 cz5 by5 (by rw [List.length_append, hxn]) rfl rfl hl1' ((hb.ext hB1).src _) (by omega) (fun l2 hl2 => A3 1000 ?_)
    repeat' (simp (maxSteps := 4000000) (disch := omega) only [go_sem, ↓reduceIte])
    exact ⟨by rcases l2 with _ | ⟨q1, q2⟩ <;> rfl, hB1, 4, l2, by rw [List.length_append, hxn, Nat.add_assoc], by rw [← List.append_assoc]; rfl, by rw [List.length_append, hxn, ← Nat.add_assoc]; exact hl2⟩
 ·rcases ll with _ | ⟨cp0, rest0⟩
  ·simp only [show ∀ r n, lE r n none = .raw (.slice none 0 0) from fun _ _ => rfl, show ∀ T xs, lO T xs none = none from fun _ _ => rfl]
   simp only [H5, ↓reduceIte, pay, List.length_append, List.length_nil] at hf hsz hmax ⊢
   obtain ⟨hdl, hdl0⟩ : ∃ hdl, hdl = hd 192 (E7 K).length := ⟨_, rfl⟩
   have hh := Ap0 (base := 192) (n := (E7 K).length) (by omega)
   have hhf := Ag0 192 (E7 K).length (by omega) (by omega) B0
   rw [← hdl0] at hf hsz hmax hh hhf ⊢
   have ih' : ∀ q ∈ qs, Apps Tryz.prog 34 5 [.agg (itE q.1 q.2)] B0 (H5 q.1) := fun q hq => by
    have hm : q.1 ∈ K := by rw [hK]; exact List.mem_map_of_mem hq
    exact (ih q hq (okL_iff.1 hkids _ hm) (by have := Bd5 hm; omega)).ext hB0
   refine A3 1000 ?_
   repeat' (first | with_reducible refine And.intro (by omega) ?_ | simp (maxSteps := 4000000) (disch := omega) only [go_sem, ↓reduceIte, Tryz.f34] | with_reducible refine C9 (id := 6) [0, 1, 2, 3, 4] mixed (by kernel_rfl) (by simp) (fun hin => C8 1000 hin ?_) | refine F5 (hsz) (by simp [closed, A0, A2, C6]) (A3 1000 ?_))
   refine H7 hhf (fun _ => by simp [closed]) (by kernel_rfl) (F1 (by kernel_rfl) (C1 (by kernel_rfl))) (fun hin2 s1 B1 hB1 hR1 => C8 1000 hin2 ?_)
   change BExt B0 B1 at hB1
   repeat' (simp (maxSteps := 4000000) (disch := omega) only [go_sem, ↓reduceIte])
   refine Y9 (T := 5) (l := none) (xs := xs) 30 0 n hdl [] rfl rfl Tryz.underlying39 (.inl ⟨_, Tryz.underlying39⟩) zr5 cz5 by5 hxn rfl rfl hll (fun B hs hB _ => (hR1.ext hB).src _) (by omega) (by simp only [cxG]; omega) (by kernel_rfl) (F1 (by kernel_rfl) (C1 (by kernel_rfl))) (fun l1 hl1 => C8 1000 (by assumption) ?_)
   have hl1' := hl1
   obtain ⟨cp, rest, rfl, -⟩ := D8 hl1 (by omega)
   simp only [A6]
   repeat' (simp (maxSteps := 4000000) (disch := omega) only [go_sem, ↓reduceIte])
   refine D7 (by kernel_rfl) (C1 (by kernel_rfl)) ?_
   refine K7 [100030] 3 (by simp) (by simp) (by simp only [cxG]; omega) (by simp) (A3 1000 ?_)
   have hpk := F4 (T := 5) (ks := [100030]) (k := 3) hl1' (A9 0 (xs ++ hdl)) hz8
   repeat' (simp (maxSteps := 4000000) (disch := omega) only [go_sem, ↓reduceIte, okC, okE, O8, E6, hpk, E1])
   have hcB := hc.ext hB1
   replace ih' := fun q hq => (ih' q hq).ext hB1
   refine Y6 (.fn (.func 90) [] [.ptr 1 0]) [.cells [.int .i64 1, .raw (.slice s.bA 0 s.bc), .raw (.slice s.kA qs.length s.kc)] 55 (0, 0), .cells [.raw (.slice s.kA qs.length s.kc)] 53 (0, 0)] Du9 (by simp [closed, A0]) (by simp [EObj.closed, closed, A0]) (fun bs w _ => by rw [F0 bs (fun _ => 0) (by simp [A0, closed])]; exact Ad9 _ _ _ _ _ _ _ w) (A3 1000 ?_)
   repeat' (simp (maxSteps := 4000000) (disch := omega) only [go_sem, ↓reduceIte])
   obtain ⟨N0, hN0⟩ : ∃ N0, N0 = n + hdl.length := ⟨_, rfl⟩
   obtain ⟨Y0, hY0⟩ : ∃ Y0, Y0 = xs ++ hdl := ⟨_, rfl⟩
   have hYl : Y0.length = N0 := by rw [hY0, hN0, List.length_append, hxn]
   rw [← hN0] at hl1'
   simp only [← hN0, ← hY0]
   have cl1 : ∀ m, clO m (lO 5 (Y0.map bE) (some (cp, rest))) = True := fun m => clB (xs := Y0) hl1'
   clear hpk hl1 hll hin hin2
   have ho9 : olds.length ≤ 9 := by omega
   refine Bv0 rfl rfl Du8 (by simp) ⟨by kernel_rfl, by kernel_rfl⟩ (S := Nat × Lst)
    (fun k u => u.1 = k ∧ k ≤ qs.length ∧ lOk [.int .u8 0] (N0 + (E7 (K.take k)).length) u.2) (fun cd u => False) (fun _ => 9)
    (fun u => Az4 (.raw (.slice s.kA qs.length s.kc)) (N0 + (E7 (K.take u.1)).length) (Y0 ++ E7 (K.take u.1)) u.1 u.2)
    (fun _ => B1) (0, some (cp, rest)) ⟨rfl, Nat.zero_le _, hl1'⟩ (A5 (by simp [wσ, go_sem, closed, A0, A4, Az4, E7, A6, cl1] <;> omega) (by simp [whs, Go.Ew.hget, go_sem, EObj.closed, closed, A0, A4, Az4, E7, A6, cl1]) (by simp [*]) rfl rfl (by simp)) (fun u => by rcases u with ⟨_ | k, l⟩ <;> simp [hget, Az4]) ⟨fun _ _ _ => by simp, fun _ _ h => h.elim⟩ [5] (fun q => B1.D q)
    (by intro i hi; simp only [List.mem_singleton] at hi; subst hi; exact ⟨rfl, fun k u _ => by rcases u with ⟨_ | k', l⟩ <;> rfl, fun _ _ h => h.elim⟩)
    (fun q hq => ⟨hq, fun k u hs => ⟨hq, rfl⟩, fun k u hs => ⟨hq, rfl⟩⟩)
    (len := qs.length) (enc := Cs7) (El := fun k q _ _ => qs[k]? = some q) (fun q => [.agg (itE q.1 q.2)]) (fun q bs => by simp only [Cs7]; rw [F0 bs (fun _ => 0) (by simp [A0, closed])]) (fun q => by simp [A0, closed]) (fun q => rfl) ?_
    (fun k q => qs[k]? = some q) (fun k q D w h => h) ?_ ?_ ?_ ?_ (fun cd u h => h.elim)
   ·intro bs w2 hH
    have hl1 := (hH.live 5 _ rfl).2
    refine Ah1 w2 qs (bs 5) s.kc s.kA B1.D (fun b hb => (hH.frame b hb).1) (by simp [World.cell?, hl1, EObj.real, C5, real]) (hcB.ext hH.ext) hql _ (.inl ⟨5, by simp, rfl⟩) (fun b hb => .inr hb) ?_
    rintro q (⟨i, hi, rfl⟩ | hq)
    ·simp only [List.mem_singleton] at hi; subst hi; exact I8 hl1
    ·exact (hH.frame q hq).1
   ·rintro k ⟨k', l2⟩ q l' olds2 e' E r r' ⟨rfl, hkk, hl2⟩ hk2 hq holds
    have hx := ih' q (List.mem_of_getElem? hq)
    simp only at hl2 hkk hk2 hq
    have hft := X8 (ks := K) (i := k') (by omega)
    obtain ⟨hlt, hge⟩ := List.getElem?_eq_some_iff.1 hq
    have hKk : K[k']'(by omega) = q.1 := by simp [hK, hge]
    rw [hKk] at hft
    have hle2 := Ae0 (ks := K) (k' + 1)
    have hlen : (E7 (K.take (k' + 1))).length = (E7 (K.take k')).length + (H5 q.1).length := by rw [hft, List.length_append]
    have hNpos : 0 < N0 + (E7 (K.take k')).length := by omega
    obtain ⟨cp2, rest2, rfl, -⟩ := D8 hl2 hNpos
    obtain ⟨Yk, hYk⟩ : ∃ Yk, Yk = Y0 ++ E7 (K.take k') := ⟨_, rfl⟩
    obtain ⟨Nk, hNk⟩ : ∃ Nk, Nk = N0 + (E7 (K.take k')).length := ⟨_, rfl⟩
    have hYN : Yk.length = Nk := by rw [hYk, hNk, List.length_append, hYl]
    have hY2 : Yk ++ H5 q.1 = Y0 ++ E7 (K.take (k' + 1)) := by rw [hYk, hft, List.append_assoc]
    have hN2 : Nk + (H5 q.1).length = N0 + (E7 (K.take (k' + 1))).length := by rw [hNk, hlen, Nat.add_assoc]
    have hmx : Nk + (H5 q.1).length ≤ 70368744177664 := by omega
    rw [← hNk] at hl2
    simp only [← hYk, ← hNk]
    obtain ⟨Z, hZ⟩ : ∃ Z, Z = Y0 ++ E7 (K.take (k' + 1)) := ⟨_, rfl⟩
    obtain ⟨M, hM⟩ : ∃ M, M = N0 + (E7 (K.take (k' + 1))).length := ⟨_, rfl⟩
    simp only [← hZ, ← hM] at hY2 hN2 ⊢
    clear hYk hNk hlen hle2 hft
    cases k' with
    | zero =>
     simp only [Az4, A6]
     refine A3 1000 ?_
     repeat' (first | simp (maxSteps := 4000000) (disch := omega) only [go_sem, ↓reduceIte] | with_reducible refine A3 1000 ?_)
     refine Ad1 (T := 5) (l := some (cp2, rest2)) (xs := Yk) 3 Nk hx rfl hYN hl2 hmx (fun l3 hl3 => ?_)
     rw [hN2] at hl3
     simp only [hN2, hY2]
     have hl3' := hl3
     obtain ⟨cp3, rest3, rfl, -⟩ := D8 hl3 (by omega)
     simp only [A6]
     refine K7 [10] 8 (by simp) (by simp) (by simp only [holds]; omega) (by simp) (A3 1000 ?_)
     have hpk2 := F4 (T := 5) (ks := [10]) (k := 8) hl3' (A9 0 Z) hz8
     have cl3 : ∀ m, clO m (lO 5 (Z.map bE) (some (cp3, rest3))) = True := fun m => clB (xs := Z) hl3'
     have ho10 : olds2.length ≤ 9 := by rw [holds]; simp
     repeat' (simp (maxSteps := 4000000) (disch := omega) only [go_sem, ↓reduceIte, okC, okE, O8, E6, hpk2, E1])
     refine ⟨(1, some (cp3, rest3)), ⟨rfl, hk2, hl3'⟩, ?_⟩
     simp only [Az4, ← hZ, ← hM, A6]
     exact (A5 (by simp [wσ, go_sem, closed, A0, A4, cl3] <;> omega) (by simp [whs, Go.Ew.hget, go_sem, EObj.closed, closed, A0, A4, cl3]) (by simp [*]) rfl rfl (by simp))
    | succ k' =>
     simp only [Az4, A6]
     refine A3 1000 ?_
     repeat' (first | simp (maxSteps := 4000000) (disch := omega) only [go_sem, ↓reduceIte] | with_reducible refine A3 1000 ?_)
     refine Ad1 (T := 5) (l := some (cp2, rest2)) (xs := Yk) 8 Nk hx rfl hYN hl2 hmx (fun l3 hl3 => ?_)
     rw [hN2] at hl3
     simp only [hN2, hY2]
     have hl3' := hl3
     obtain ⟨cp3, rest3, rfl, -⟩ := D8 hl3 (by omega)
     simp only [A6]
     refine K7 [10, 8] 8 (by simp) (by simp) (by simp only [holds]; omega) (by simp) (A3 1000 ?_)
     have hpk2 := F4 (T := 5) (ks := [10, 8]) (k := 8) hl3' (A9 0 Z) hz8
     have cl3 : ∀ m, clO m (lO 5 (Z.map bE) (some (cp3, rest3))) = True := fun m => clB (xs := Z) hl3'
     have ho10 : olds2.length ≤ 9 := by rw [holds]; simp
     repeat' (simp (maxSteps := 4000000) (disch := omega) only [go_sem, ↓reduceIte, okC, okE, O8, E6, hpk2, E1])
     refine ⟨(k' + 1 + 1, some (cp3, rest3)), ⟨rfl, hk2, hl3'⟩, ?_⟩
     simp only [Az4, ← hZ, ← hM, A6]
     exact (A5 (by simp [wσ, go_sem, closed, A0, A4, cl3] <;> omega) (by simp [whs, Go.Ew.hget, go_sem, EObj.closed, closed, A0, A4, cl3]) (by simp [*]) rfl rfl (by simp))
   ·rintro ⟨k', l2⟩ ⟨rfl, hkk, hl2⟩
    simp only at hl2 ⊢
    have hfin : K.take qs.length = K := by rw [← hKl, List.take_length]
    have hY : Y0 ++ E7 K = xs ++ (hdl ++ E7 K) := by rw [hY0, List.append_assoc]
    have hN : N0 + (E7 K).length = xs.length + (hdl.length + (E7 K).length) := by rw [hN0, hxn, Nat.add_assoc]
    rw [hfin] at hl2 ⊢
    rw [hN] at hl2 ⊢
    rw [hY]
    obtain ⟨cp2, rest2, rfl, -⟩ := D8 hl2 (by omega)
    cases hq : qs.length with
    | zero =>
     simp only [Az4, A6]
     refine A3 1000 ?_
     repeat' (first | with_reducible refine And.intro (by omega) ?_ | simp (maxSteps := 4000000) (disch := omega) only [go_sem, ↓reduceIte])
     exact ⟨3, some (cp2, rest2), rfl, rfl, hl2⟩
    | succ k' =>
     simp only [Az4, A6]
     refine A3 1000 ?_
     repeat' (first | with_reducible refine And.intro (by omega) ?_ | simp (maxSteps := 4000000) (disch := omega) only [go_sem, ↓reduceIte])
     exact ⟨8, some (cp2, rest2), rfl, rfl, hl2⟩
   ·intro u hs; exact hs.elim
   ·intro id u hs; exact hs.elim
  ·simp only [A6]
   simp only [H5, ↓reduceIte, pay, List.length_append, List.length_nil] at hf hsz hmax ⊢
   obtain ⟨hdl, hdl0⟩ : ∃ hdl, hdl = hd 192 (E7 K).length := ⟨_, rfl⟩
   have hh := Ap0 (base := 192) (n := (E7 K).length) (by omega)
   have hhf := Ag0 192 (E7 K).length (by omega) (by omega) B0
   rw [← hdl0] at hf hsz hmax hh hhf ⊢
   have ih' : ∀ q ∈ qs, Apps Tryz.prog 34 5 [.agg (itE q.1 q.2)] B0 (H5 q.1) := fun q hq => by
    have hm : q.1 ∈ K := by rw [hK]; exact List.mem_map_of_mem hq
    exact (ih q hq (okL_iff.1 hkids _ hm) (by have := Bd5 hm; omega)).ext hB0
   refine A3 1000 ?_
   repeat' (first | with_reducible refine And.intro (by omega) ?_ | simp (maxSteps := 4000000) (disch := omega) only [go_sem, ↓reduceIte, Tryz.f34] | with_reducible refine C9 (id := 6) [0, 1, 2, 3, 4] mixed (by kernel_rfl) (by simp) (fun hin => C8 1000 hin ?_) | refine F5 (hsz) (by simp [closed, A0, A2, C6]) (A3 1000 ?_))
   refine H7 hhf (fun _ => by simp [closed]) (by kernel_rfl) (F1 (by kernel_rfl) (C1 (by kernel_rfl))) (fun hin2 s1 B1 hB1 hR1 => C8 1000 hin2 ?_)
   change BExt B0 B1 at hB1
   repeat' (simp (maxSteps := 4000000) (disch := omega) only [go_sem, ↓reduceIte])
   refine Y9 (T := 5) (l := (some (cp0, rest0))) (xs := xs) 30 0 n hdl [] rfl rfl Tryz.underlying39 (.inl ⟨_, Tryz.underlying39⟩) zr5 cz5 by5 hxn rfl rfl hll (fun B hs hB _ => (hR1.ext hB).src _) (by omega) (by simp only [cxG]; omega) (by kernel_rfl) (F1 (by kernel_rfl) (C1 (by kernel_rfl))) (fun l1 hl1 => C8 1000 (by assumption) ?_)
   have hl1' := hl1
   obtain ⟨cp, rest, rfl, -⟩ := D8 hl1 (by omega)
   simp only [A6]
   repeat' (simp (maxSteps := 4000000) (disch := omega) only [go_sem, ↓reduceIte])
   refine D7 (by kernel_rfl) (C1 (by kernel_rfl)) ?_
   refine K7 [100030] 3 (by simp) (by simp) (by simp only [cxG]; omega) (by simp) (A3 1000 ?_)
   have hpk := F4 (T := 5) (ks := [100030]) (k := 3) hl1' (A9 0 (xs ++ hdl)) hz8
   repeat' (simp (maxSteps := 4000000) (disch := omega) only [go_sem, ↓reduceIte, okC, okE, O8, E6, hpk, E1])
   have hcB := hc.ext hB1
   replace ih' := fun q hq => (ih' q hq).ext hB1
   refine Y6 (.fn (.func 90) [] [.ptr 1 0]) [.cells [.int .i64 1, .raw (.slice s.bA 0 s.bc), .raw (.slice s.kA qs.length s.kc)] 55 (0, 0), .cells [.raw (.slice s.kA qs.length s.kc)] 53 (0, 0)] Du9 (by simp [closed, A0]) (by simp [EObj.closed, closed, A0]) (fun bs w _ => by rw [F0 bs (fun _ => 0) (by simp [A0, closed])]; exact Ad9 _ _ _ _ _ _ _ w) (A3 1000 ?_)
   repeat' (simp (maxSteps := 4000000) (disch := omega) only [go_sem, ↓reduceIte])
   obtain ⟨N0, hN0⟩ : ∃ N0, N0 = n + hdl.length := ⟨_, rfl⟩
   obtain ⟨Y0, hY0⟩ : ∃ Y0, Y0 = xs ++ hdl := ⟨_, rfl⟩
   have hYl : Y0.length = N0 := by rw [hY0, hN0, List.length_append, hxn]
   rw [← hN0] at hl1'
   simp only [← hN0, ← hY0]
   have cl1 : ∀ m, clO m (lO 5 (Y0.map bE) (some (cp, rest))) = True := fun m => clB (xs := Y0) hl1'
   clear hpk hl1 hll hin hin2
   have ho9 : olds.length ≤ 9 := by omega
   refine Bv0 rfl rfl Du8 (by simp) ⟨by kernel_rfl, by kernel_rfl⟩ (S := Nat × Lst)
    (fun k u => u.1 = k ∧ k ≤ qs.length ∧ lOk [.int .u8 0] (N0 + (E7 (K.take k)).length) u.2) (fun cd u => False) (fun _ => 9)
    (fun u => Az4 (.raw (.slice s.kA qs.length s.kc)) (N0 + (E7 (K.take u.1)).length) (Y0 ++ E7 (K.take u.1)) u.1 u.2)
    (fun _ => B1) (0, some (cp, rest)) ⟨rfl, Nat.zero_le _, hl1'⟩ (A5 (by simp [wσ, go_sem, closed, A0, A4, Az4, E7, A6, cl1] <;> omega) (by simp [whs, Go.Ew.hget, go_sem, EObj.closed, closed, A0, A4, Az4, E7, A6, cl1]) (by simp [*]) rfl rfl (by simp)) (fun u => by rcases u with ⟨_ | k, l⟩ <;> simp [hget, Az4]) ⟨fun _ _ _ => by simp, fun _ _ h => h.elim⟩ [5] (fun q => B1.D q)
    (by intro i hi; simp only [List.mem_singleton] at hi; subst hi; exact ⟨rfl, fun k u _ => by rcases u with ⟨_ | k', l⟩ <;> rfl, fun _ _ h => h.elim⟩)
    (fun q hq => ⟨hq, fun k u hs => ⟨hq, rfl⟩, fun k u hs => ⟨hq, rfl⟩⟩)
    (len := qs.length) (enc := Cs7) (El := fun k q _ _ => qs[k]? = some q) (fun q => [.agg (itE q.1 q.2)]) (fun q bs => by simp only [Cs7]; rw [F0 bs (fun _ => 0) (by simp [A0, closed])]) (fun q => by simp [A0, closed]) (fun q => rfl) ?_
    (fun k q => qs[k]? = some q) (fun k q D w h => h) ?_ ?_ ?_ ?_ (fun cd u h => h.elim)
   ·intro bs w2 hH
    have hl1 := (hH.live 5 _ rfl).2
    refine Ah1 w2 qs (bs 5) s.kc s.kA B1.D (fun b hb => (hH.frame b hb).1) (by simp [World.cell?, hl1, EObj.real, C5, real]) (hcB.ext hH.ext) hql _ (.inl ⟨5, by simp, rfl⟩) (fun b hb => .inr hb) ?_
    rintro q (⟨i, hi, rfl⟩ | hq)
    ·simp only [List.mem_singleton] at hi; subst hi; exact I8 hl1
    ·exact (hH.frame q hq).1
   ·rintro k ⟨k', l2⟩ q l' olds2 e' E r r' ⟨rfl, hkk, hl2⟩ hk2 hq holds
    have hx := ih' q (List.mem_of_getElem? hq)
    simp only at hl2 hkk hk2 hq
    have hft := X8 (ks := K) (i := k') (by omega)
    obtain ⟨hlt, hge⟩ := List.getElem?_eq_some_iff.1 hq
    have hKk : K[k']'(by omega) = q.1 := by simp [hK, hge]
    rw [hKk] at hft
    have hle2 := Ae0 (ks := K) (k' + 1)
    have hlen : (E7 (K.take (k' + 1))).length = (E7 (K.take k')).length + (H5 q.1).length := by rw [hft, List.length_append]
    have hNpos : 0 < N0 + (E7 (K.take k')).length := by omega
    obtain ⟨cp2, rest2, rfl, -⟩ := D8 hl2 hNpos
    obtain ⟨Yk, hYk⟩ : ∃ Yk, Yk = Y0 ++ E7 (K.take k') := ⟨_, rfl⟩
    obtain ⟨Nk, hNk⟩ : ∃ Nk, Nk = N0 + (E7 (K.take k')).length := ⟨_, rfl⟩
    have hYN : Yk.length = Nk := by rw [hYk, hNk, List.length_append, hYl]
    have hY2 : Yk ++ H5 q.1 = Y0 ++ E7 (K.take (k' + 1)) := by rw [hYk, hft, List.append_assoc]
    have hN2 : Nk + (H5 q.1).length = N0 + (E7 (K.take (k' + 1))).length := by rw [hNk, hlen, Nat.add_assoc]
    have hmx : Nk + (H5 q.1).length ≤ 70368744177664 := by omega
    rw [← hNk] at hl2
    simp only [← hYk, ← hNk]
    obtain ⟨Z, hZ⟩ : ∃ Z, Z = Y0 ++ E7 (K.take (k' + 1)) := ⟨_, rfl⟩
    obtain ⟨M, hM⟩ : ∃ M, M = N0 + (E7 (K.take (k' + 1))).length := ⟨_, rfl⟩
    simp only [← hZ, ← hM] at hY2 hN2 ⊢
    clear hYk hNk hlen hle2 hft
    cases k' with
    | zero =>
     simp only [Az4, A6]
     refine A3 1000 ?_
     repeat' (first | simp (maxSteps := 4000000) (disch := omega) only [go_sem, ↓reduceIte] | with_reducible refine A3 1000 ?_)
     refine Ad1 (T := 5) (l := some (cp2, rest2)) (xs := Yk) 3 Nk hx rfl hYN hl2 hmx (fun l3 hl3 => ?_)
     rw [hN2] at hl3
     simp only [hN2, hY2]
     have hl3' := hl3
     obtain ⟨cp3, rest3, rfl, -⟩ := D8 hl3 (by omega)
     simp only [A6]
     refine K7 [10] 8 (by simp) (by simp) (by simp only [holds]; omega) (by simp) (A3 1000 ?_)
     have hpk2 := F4 (T := 5) (ks := [10]) (k := 8) hl3' (A9 0 Z) hz8
     have cl3 : ∀ m, clO m (lO 5 (Z.map bE) (some (cp3, rest3))) = True := fun m => clB (xs := Z) hl3'
     have ho10 : olds2.length ≤ 9 := by rw [holds]; simp
     repeat' (simp (maxSteps := 4000000) (disch := omega) only [go_sem, ↓reduceIte, okC, okE, O8, E6, hpk2, E1])
     refine ⟨(1, some (cp3, rest3)), ⟨rfl, hk2, hl3'⟩, ?_⟩
     simp only [Az4, ← hZ, ← hM, A6]
     exact (A5 (by simp [wσ, go_sem, closed, A0, A4, cl3] <;> omega) (by simp [whs, Go.Ew.hget, go_sem, EObj.closed, closed, A0, A4, cl3]) (by simp [*]) rfl rfl (by simp))
    | succ k' =>
     simp only [Az4, A6]
     refine A3 1000 ?_
     repeat' (first | simp (maxSteps := 4000000) (disch := omega) only [go_sem, ↓reduceIte] | with_reducible refine A3 1000 ?_)
     refine Ad1 (T := 5) (l := some (cp2, rest2)) (xs := Yk) 8 Nk hx rfl hYN hl2 hmx (fun l3 hl3 => ?_)
     rw [hN2] at hl3
     simp only [hN2, hY2]
     have hl3' := hl3
     obtain ⟨cp3, rest3, rfl, -⟩ := D8 hl3 (by omega)
     simp only [A6]
     refine K7 [10, 8] 8 (by simp) (by simp) (by simp only [holds]; omega) (by simp) (A3 1000 ?_)
     have hpk2 := F4 (T := 5) (ks := [10, 8]) (k := 8) hl3' (A9 0 Z) hz8
     have cl3 : ∀ m, clO m (lO 5 (Z.map bE) (some (cp3, rest3))) = True := fun m => clB (xs := Z) hl3'
     have ho10 : olds2.length ≤ 9 := by rw [holds]; simp
     repeat' (simp (maxSteps := 4000000) (disch := omega) only [go_sem, ↓reduceIte, okC, okE, O8, E6, hpk2, E1])
     refine ⟨(k' + 1 + 1, some (cp3, rest3)), ⟨rfl, hk2, hl3'⟩, ?_⟩
     simp only [Az4, ← hZ, ← hM, A6]
     exact (A5 (by simp [wσ, go_sem, closed, A0, A4, cl3] <;> omega) (by simp [whs, Go.Ew.hget, go_sem, EObj.closed, closed, A0, A4, cl3]) (by simp [*]) rfl rfl (by simp))
   ·rintro ⟨k', l2⟩ ⟨rfl, hkk, hl2⟩
    simp only at hl2 ⊢
    have hfin : K.take qs.length = K := by rw [← hKl, List.take_length]
    have hY : Y0 ++ E7 K = xs ++ (hdl ++ E7 K) := by rw [hY0, List.append_assoc]
    have hN : N0 + (E7 K).length = xs.length + (hdl.length + (E7 K).length) := by rw [hN0, hxn, Nat.add_assoc]
    rw [hfin] at hl2 ⊢
    rw [hN] at hl2 ⊢
    rw [hY]
    obtain ⟨cp2, rest2, rfl, -⟩ := D8 hl2 (by omega)
    cases hq : qs.length with
    | zero =>
     simp only [Az4, A6]
     refine A3 1000 ?_
     repeat' (first | with_reducible refine And.intro (by omega) ?_ | simp (maxSteps := 4000000) (disch := omega) only [go_sem, ↓reduceIte])
     exact ⟨3, some (cp2, rest2), rfl, rfl, hl2⟩
    | succ k' =>
     simp only [Az4, A6]
     refine A3 1000 ?_
     repeat' (first | with_reducible refine And.intro (by omega) ?_ | simp (maxSteps := 4000000) (disch := omega) only [go_sem, ↓reduceIte])
     exact ⟨8, some (cp2, rest2), rfl, rfl, hl2⟩
   ·intro u hs; exact hs.elim
   ·intro id u hs; exact hs.elim
end Go.Proofs.YtepabkjfnpaijaaGreat
namespace Go.Proofs.YtepabkjfnpaijaaGreat
open Go RowKit Go.Ew
set_option maxHeartbeats 4000000
theorem Em0 : D5 Tryz.f15.ntmps (Tryz.f15.body.getD .skip) = true := by kernel_rfl
theorem El6 : D5 Tryz.f19.ntmps (Tryz.f19.body.getD .skip) = true := by kernel_rfl
mutual
theorem Co3 : ∀ (t : Itm) (d : Nat), chk t d = 0 → okI t = true
 | .mk l b ks, d, h => by
  simp only [chk] at h
  split at h
  ·omega
  ·split at h
   ·omega
   ·rename_i h1 h2
    have hk := Co4 ks (d + 1) h
    simp only [okI, hk, Bool.and_true, Bool.or_eq_true, Bool.and_eq_true, beq_iff_eq, List.isEmpty_iff]
    by_cases h0 : l = 0
    ·exact .inl ⟨h0, Classical.byContradiction fun hn => h2 (.inr (.inl ⟨h0, hn⟩))⟩
    ·by_cases h1 : l = 1
     ·exact .inr ⟨h1, Classical.byContradiction fun hn => h2 (.inr (.inr ⟨h1, hn⟩))⟩
     ·exact absurd (.inl ⟨h0, h1⟩) h2
theorem Co4 : ∀ (ks : List Itm) (d : Nat), Bf9 ks d = 0 → okL ks = true
 | [], _, _ => rfl
 | k :: ks, d, h => by
  simp only [Bf9] at h
  split at h
  ·rename_i h0
   simp only [okL, Co3 k d h0, Co4 ks d h, Bool.and_self]
  ·exact absurd h ‹_›
end
theorem Cn3 {B : Base} {t : Itm} {s : Plc} (h : ItAt B t s) (hok : chk t 0 = 0) (hf : (H5 t).length < 35184372088832) :
  Does Tryz.prog 15 [.agg (itE t s)] B (fun s : Option Addr × Nat => .tup [.raw (.slice s.1 (H5 t).length s.2), .int .i64 0]) (fun s B' => BytesAt B' s.1 (H5 t) ∧ (H5 t).length ≤ s.2) := by
 refine Cm9 Es3 (fun s B B' hB hR => ⟨hR.1.ext hB, hR.2⟩) Tryz.func15 rfl Em0 (by simp [Tryz.f15]) (by simp [A0, closed]) (fun B0 hB0 => A3 1000 ?_)
 replace h := h.ext hB0
 have h1 := Da8 h 0 (by omega)
 rw [hok] at h1
 repeat' (first | simp (maxSteps := 4000000) (disch := omega) only [go_sem, ↓reduceIte, Tryz.f15] | refine F5 (h1) (by simp [closed, A0, A2, C6]) (A3 1000 ?_))
 refine Ad1 (T := 5) (l := none) (xs := []) 50 0 (Cc7 h (Co3 t 0 hok) hf) rfl rfl rfl (by omega) (fun l1 hl1 => A3 1000 ?_)
 repeat' (simp (maxSteps := 4000000) (disch := omega) only [go_sem, ↓reduceIte])
 refine ⟨by rcases l1 with _ | ⟨q1, q2⟩ <;> rfl, BExt.refl _, Bw0 (T := 5) 1 (H5 t).length (l := l1) (xs := H5 t) rfl rfl (by rw [Nat.zero_add] at hl1; exact hl1) (fun b ad cap B' hB hf hC hc => ?_)⟩
 simp only [frz, Ab4, hf]
 exact ⟨by simp [closed, A0], (ad, cap), rfl, hC, hc⟩
theorem Br9 (k : UInt8) (hk : k.toNat ≤ 127) (p : List UInt8) (n : Nat) (B : Base) (ad : Option Addr) (cap : Nat) (hb : BytesAt B ad p) (hn : p.length = n) (hp : n ≤ 35184372088832) :
  Does Tryz.prog 19 [.int .u8 (k.toNat : Int), .raw (.slice ad n cap)] B (fun s : Option Addr × Nat => .tup [.raw (.slice s.1 (n + 1) s.2), .int .i64 0]) (fun s B' => BytesAt B' s.1 (k :: p) ∧ n + 1 ≤ s.2) := by
 refine Cm9 Es1 (fun s B B' hB hR => ⟨hR.1.ext hB, hR.2⟩) Tryz.func19 rfl El6 (by simp [Tryz.f19]) (by simp [A0, closed]) (fun B0 hB0 => A3 1000 ?_)
 replace hb := hb.ext hB0
 subst hn
 have hk2 := k.toNat_lt
 repeat' (first | with_reducible refine And.intro (by first | omega | (simp; done)) ?_ | simp (maxSteps := 4000000) (disch := omega) only [go_sem, ↓reduceIte, Tryz.f19] | ((first | refine A8 (fun h => ?_) (fun h => ?_) | refine E8 (fun h => ?_) (fun h => ?_) | refine F6 (fun h => ?_) (fun h => ?_)) <;> (try simp only [bne_iff_ne, ne_eq, beq_iff_eq, decide_eq_true_eq, decide_eq_false_iff_not, Bool.not_eq_true, Bool.not_eq_false, Bool.not_true, Bool.not_false, bne_eq_false_iff_eq, beq_eq_false_iff_ne, Bool.and_eq_true, Bool.or_eq_true, Bool.and_eq_false_imp, Bool.or_eq_false_iff, Bool.not_eq_true', Bool.not_eq_false', Int.not_lt, Int.not_le] at h) <;> (try (exfalso; omega))))
 refine appB (T := 5) (l := some (1, [])) (xs := [k]) 0 1 p rfl Tryz.underlying39 (.inl ⟨_, Tryz.underlying39⟩) zr5 cz5 by5 rfl rfl rfl (by simp [lOk, maxLen]) (hb.src _) (by omega) (fun l1 hl1 => A3 1000 ?_)
 repeat' (simp (maxSteps := 4000000) (disch := omega) only [go_sem, ↓reduceIte])
 refine ⟨by rcases l1 with _ | ⟨q1, q2⟩ <;> rfl, BExt.refl _, Bw0 (T := 5) 1 (1 + p.length) (l := l1) (xs := k :: p) rfl (by rw [List.length_cons]; omega) hl1 (fun b ad cap B' hB hf hC hc => ?_)⟩
 simp only [frz, Ab4, hf]
 exact ⟨by simp [closed, A0], (ad, cap), by rw [Nat.add_comm], hC, by omega⟩
end Go.Proofs.YtepabkjfnpaijaaGreat
