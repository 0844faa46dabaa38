/- Part of a proof over the seat Ytncjbfkkgdepoaa. -/
import Derived.Test.YtncjbfkkgdepoaaG08
import Derived.Test.YtncjbfkkgdepoaaEng2
set_option linter.unusedSimpArgs false
set_option linter.unusedVariables false
set_option maxRecDepth 100000
namespace Go.Proofs.Ytncjbfkkgdepoaa
open Go RowKit Go.Ew
set_option maxHeartbeats 4000000
theorem De8 : C5 Try.f87.ntmps (Try.f87.body.getD .skip) = true := by kernel_rfl
/-- What there is between two kids. -/
def Ao4 (sl : EV) (N : Nat) (ys : List UInt8) : Nat → Lst → List (Nat × Option EObj)
 | 0, l => [(5, some (.cells [sl] 89 (0, 0))), (3, lO 5 (ys.map bE) l), (1, some (.cells [lE 3 N l] 22 (0, 0)))]
 | _ + 1, l => [(8, lO 5 (ys.map bE) l), (5, some (.cells [sl] 89 (0, 0))), (1, some (.cells [lE 8 N l] 22 (0, 0)))]
theorem Bm2 {B : Base} {t : Itm} {s : Plc} (h : ItAt B t s) (hok : okI t = true) (hf : (J2 t).length < 35184372088832) : Apps Try.prog 87 5 [.agg (itE t s)] B (J2 t) := by
 induction h with
 | mk l b qs s hb hbl hc hql hk ih =>
 have hit : ItAt B (.mk l b (qs.map Prod.fst)) s := .mk l b qs s hb hbl hc hql hk
 have hsz := Ch7 hit hok (by omega)
 have e1 : (Itm.mk l b (qs.map Prod.fst)).list = l := rfl
 have e2 : (Itm.mk l b (qs.map Prod.fst)).bytes = b := rfl
 have e3 : (Itm.mk l b (qs.map Prod.fst)).kids.length = qs.length := List.length_map _
 simp only [itE, e1, e2, e3] at hsz ⊢
 refine Cl7 Di2 Try.func87 rfl De8 (by simp [Try.f87]) (by simp [A0, closed]) (fun B0 hB0 n ll xs olds hold hxn hll hmax => ?_)
 replace hb := hb.ext hB0
 replace hc := hc.ext hB0
 replace hsz := N5 hsz hB0
 obtain ⟨K, hK⟩ : ∃ K, K = qs.map Prod.fst := ⟨_, rfl⟩
 have hKl : K.length = qs.length := by rw [hK, List.length_map]
 rw [← hK] at hok hf hsz hmax
 simp only [← hK]
 simp only [okI, Bool.and_eq_true, Bool.or_eq_true, beq_iff_eq, List.isEmpty_iff] at hok
 obtain ⟨hs, hkids⟩ := hok
 rcases hs with ⟨rfl, hks⟩ | ⟨rfl, rfl⟩
 ·rcases ll with _ | ⟨cp0, rest0⟩
  ·simp only [show ∀ r n, lE r n none = .raw (.slice none 0 0) from fun _ _ => rfl, show ∀ T xs, lO T xs none = none from fun _ _ => rfl]
   subst hks
   have hq0 : qs.length = 0 := by rw [← hKl]; rfl
   have n10 : ((0 : Int) = 1) = False := by simp
   simp only [J2, n10, if_false, pay] at hf hsz hmax ⊢
   by_cases h1 : b.length = 1 ∧ b.getD 0 0 < 128
   ·rw [if_pos h1] at hf hsz hmax ⊢
    refine A3 1000 ?_
    repeat' (first | with_reducible refine And.intro (by omega) ?_ | simp (maxSteps := 4000000) (disch := omega) only [go_sem, ↓reduceIte, Try.f87] | refine G9 (hsz) (by simp [closed, A0, A2, C4]) (A3 1000 ?_) | ((first | refine A6 (fun h => ?_) (fun h => ?_) | refine D9 (fun h => ?_) (fun h => ?_) | refine E9 (fun h => ?_) (fun h => ?_)) <;> (try simp only [bne_iff_ne, ne_eq, beq_iff_eq, decide_eq_true_eq, decide_eq_false_iff_not, Bool.not_eq_true, Bool.not_eq_false, Bool.not_true, Bool.not_false, bne_eq_false_iff_eq, beq_eq_false_iff_ne, Bool.and_eq_true, Bool.or_eq_true, Bool.and_eq_false_imp, Bool.or_eq_false_iff, Bool.not_eq_true', Bool.not_eq_false', Int.not_lt, Int.not_le] at h) <;> (try (exfalso; omega))))
    refine appB (T := 5) (l := none) (xs := xs) 0 n b rfl Try.underlying22 (.inl ⟨_, Try.underlying22⟩) zr5 cz5 by5 hxn rfl rfl hll (hb.src _) (by omega) (fun l1 hl1 => A3 1000 ?_)
    repeat' (simp (maxSteps := 4000000) (disch := omega) only [go_sem, ↓reduceIte])
    exact ⟨by rcases l1 with _ | ⟨q1, q2⟩ <;> rfl, BExt.refl _, 3, l1, (by rw [hxn]), rfl, (by rw [hxn]; exact hl1)⟩
   ·rw [if_neg h1] at hf hsz hmax ⊢
    have hh := Ar9 (base := 128) (n := b.length) (by omega)
    rw [List.length_append] at hf hsz hmax
    refine A3 1000 ?_
    repeat' (first | with_reducible refine And.intro (by omega) ?_ | simp (maxSteps := 4000000) (disch := omega) only [go_sem, ↓reduceIte, Try.f87] | with_reducible refine D6 (id := 4) [0, 1, 2, 3, 4] mixed (by kernel_rfl) (by simp) (fun hin => D4 1000 hin ?_) | refine G9 (hsz) (by simp [closed, A0, A2, C4]) (A3 1000 ?_) | ((first | refine A6 (fun h => ?_) (fun h => ?_) | refine D9 (fun h => ?_) (fun h => ?_) | refine E9 (fun h => ?_) (fun h => ?_)) <;> (try simp only [bne_iff_ne, ne_eq, beq_iff_eq, decide_eq_true_eq, decide_eq_false_iff_not, Bool.not_eq_true, Bool.not_eq_false, Bool.not_true, Bool.not_false, bne_eq_false_iff_eq, beq_eq_false_iff_ne, Bool.and_eq_true, Bool.or_eq_true, Bool.and_eq_false_imp, Bool.or_eq_false_iff, Bool.not_eq_true', Bool.not_eq_false', Int.not_lt, Int.not_le] at h) <;> (try (exfalso; omega))))
    refine G8 (Z4 128 b.length (by omega) (by omega) _) (fun _ => by simp [closed]) (by kernel_rfl) (F9 (by kernel_rfl) (C3 (by kernel_rfl))) (fun hin2 s1 B1 hB1 hR1 => D4 1000 hin2 ?_)
    change BExt B0 B1 at hB1
    repeat' (simp (maxSteps := 4000000) (disch := omega) only [go_sem, ↓reduceIte])
    refine Ac3 (T := 5) (l := none) (xs := xs) 22 0 n (hd 128 b.length) [] rfl rfl Try.underlying22 (.inl ⟨_, Try.underlying22⟩) zr5 cz5 by5 hxn rfl rfl hll (fun B hs hB _ => (hR1.ext hB).src _) (by omega) (by simp only [cxG]; omega) (by kernel_rfl) (F9 (by kernel_rfl) (C3 (by kernel_rfl))) (fun l1 hl1 => D4 1000 (by assumption) ?_)
    have hl1' := hl1
    obtain ⟨cp, rest, rfl, -⟩ := E6 hl1 (by omega)
    simp only [C1]
    repeat' (simp (maxSteps := 4000000) (disch := omega) only [go_sem, ↓reduceIte])
    refine E1 (by kernel_rfl) (C3 (by kernel_rfl)) ?_
    refine L0 [100022] 3 (by simp) (by simp) (by simp only [cxG]; omega) (by simp) (A3 1000 ?_)
    have hpk := H2 (T := 5) (ks := [100022]) (k := 3) hl1' (A7 0 (xs ++ hd 128 b.length)) hz8
    repeat' (first | with_reducible refine And.intro (by omega) ?_ | simp (maxSteps := 4000000) (disch := omega) only [go_sem, ↓reduceIte, okC, okE, U9, F2, hpk, E3])
    refine appB (T := 5) (l := some (cp, rest)) (xs := xs ++ hd 128 b.length) 3 (n + (hd 128 b.length).length) b rfl Try.underlying22 (.inl ⟨_, Try.underlying22⟩) zr5 cz5 by5 (by rw [List.length_append, hxn]) rfl rfl hl1' ((hb.ext hB1).src _) (by omega) (fun l2 hl2 => A3 1000 ?_)
    repeat' (simp (maxSteps := 4000000) (disch := omega) only [go_sem, ↓reduceIte])
    exact ⟨by rcases l2 with _ | ⟨q1, q2⟩ <;> rfl, hB1, 4, l2, by rw [List.length_append, hxn, Nat.add_assoc], by rw [← List.append_assoc]; rfl, by rw [List.length_append, hxn, ← Nat.add_assoc]; exact hl2⟩
  ·simp only [C1]
   subst hks
   have hq0 : qs.length = 0 := by rw [← hKl]; rfl
   have n10 : ((0 : Int) = 1) = False := by simp
   simp only [J2, n10, if_false, pay] at hf hsz hmax ⊢
   by_cases h1 : b.length = 1 ∧ b.getD 0 0 < 128
   ·rw [if_pos h1] at hf hsz hmax ⊢
    refine A3 1000 ?_
    repeat' (first | with_reducible refine And.intro (by omega) ?_ | simp (maxSteps := 4000000) (disch := omega) only [go_sem, ↓reduceIte, Try.f87] | refine G9 (hsz) (by simp [closed, A0, A2, C4]) (A3 1000 ?_) | ((first | refine A6 (fun h => ?_) (fun h => ?_) | refine D9 (fun h => ?_) (fun h => ?_) | refine E9 (fun h => ?_) (fun h => ?_)) <;> (try simp only [bne_iff_ne, ne_eq, beq_iff_eq, decide_eq_true_eq, decide_eq_false_iff_not, Bool.not_eq_true, Bool.not_eq_false, Bool.not_true, Bool.not_false, bne_eq_false_iff_eq, beq_eq_false_iff_ne, Bool.and_eq_true, Bool.or_eq_true, Bool.and_eq_false_imp, Bool.or_eq_false_iff, Bool.not_eq_true', Bool.not_eq_false', Int.not_lt, Int.not_le] at h) <;> (try (exfalso; omega))))
    refine appB (T := 5) (l := (some (cp0, rest0))) (xs := xs) 0 n b rfl Try.underlying22 (.inl ⟨_, Try.underlying22⟩) zr5 cz5 by5 hxn rfl rfl hll (hb.src _) (by omega) (fun l1 hl1 => A3 1000 ?_)
    repeat' (simp (maxSteps := 4000000) (disch := omega) only [go_sem, ↓reduceIte])
    exact ⟨by rcases l1 with _ | ⟨q1, q2⟩ <;> rfl, BExt.refl _, 3, l1, (by rw [hxn]), rfl, (by rw [hxn]; exact hl1)⟩
   ·rw [if_neg h1] at hf hsz hmax ⊢
    have hh := Ar9 (base := 128) (n := b.length) (by omega)
    rw [List.length_append] at hf hsz hmax
    refine A3 1000 ?_
    repeat' (first | with_reducible refine And.intro (by omega) ?_ | simp (maxSteps := 4000000) (disch := omega) only [go_sem, ↓reduceIte, Try.f87] | with_reducible refine D6 (id := 4) [0, 1, 2, 3, 4] mixed (by kernel_rfl) (by simp) (fun hin => D4 1000 hin ?_) | refine G9 (hsz) (by simp [closed, A0, A2, C4]) (A3 1000 ?_) | ((first | refine A6 (fun h => ?_) (fun h => ?_) | refine D9 (fun h => ?_) (fun h => ?_) | refine E9 (fun h => ?_) (fun h => ?_)) <;> (try simp only [bne_iff_ne, ne_eq, beq_iff_eq, decide_eq_true_eq, decide_eq_false_iff_not, Bool.not_eq_true, Bool.not_eq_false, Bool.not_true, Bool.not_false, bne_eq_false_iff_eq, beq_eq_false_iff_ne, Bool.and_eq_true, Bool.or_eq_true, Bool.and_eq_false_imp, Bool.or_eq_false_iff, Bool.not_eq_true', Bool.not_eq_false', Int.not_lt, Int.not_le] at h) <;> (try (exfalso; omega))))
    refine G8 (Z4 128 b.length (by omega) (by omega) _) (fun _ => by simp [closed]) (by kernel_rfl) (F9 (by kernel_rfl) (C3 (by kernel_rfl))) (fun hin2 s1 B1 hB1 hR1 => D4 1000 hin2 ?_)
    change BExt B0 B1 at hB1
    repeat' (simp (maxSteps := 4000000) (disch := omega) only [go_sem, ↓reduceIte])
    refine Ac3 (T := 5) (l := (some (cp0, rest0))) (xs := xs) 22 0 n (hd 128 b.length) [] rfl rfl Try.underlying22 (.inl ⟨_, Try.underlying22⟩) zr5 cz5 by5 hxn rfl rfl hll (fun B hs hB _ => (hR1.ext hB).src _) (by omega) (by simp only [cxG]; omega) (by kernel_rfl) (F9 (by kernel_rfl) (C3 (by kernel_rfl))) (fun l1 hl1 => D4 1000 (by assumption) ?_)
    have hl1' := hl1
    obtain ⟨cp, rest, rfl, -⟩ := E6 hl1 (by omega)
    simp only [C1]
    repeat' (simp (maxSteps := 4000000) (disch := omega) only [go_sem, ↓reduceIte])
    refine E1 (by kernel_rfl) (C3 (by kernel_rfl)) ?_
    refine L0 [100022] 3 (by simp) (by simp) (by simp only [cxG]; omega) (by simp) (A3 1000 ?_)
    have hpk := H2 (T := 5) (ks := [100022]) (k := 3) hl1' (A7 0 (xs ++ hd 128 b.length)) hz8
    repeat' (first | with_reducible refine And.intro (by omega) ?_ | simp (maxSteps := 4000000) (disch := omega) only [go_sem, ↓reduceIte, okC, okE, U9, F2, hpk, E3])
    refine appB (T := 5) (l := some (cp, rest)) (xs := xs ++ hd 128 b.length) 3 (n + (hd 128 b.length).length) b rfl Try.underlying22 (.inl ⟨_, Try.underlying22⟩) zr5 cz5 by5 (by rw [List.length_append, hxn]) rfl rfl hl1' ((hb.ext hB1).src _) (by omega) (fun l2 hl2 => A3 1000 ?_)
    repeat' (simp (maxSteps := 4000000) (disch := omega) only [go_sem, ↓reduceIte])
    exact ⟨by rcases l2 with _ | ⟨q1, q2⟩ <;> rfl, hB1, 4, l2, by rw [List.length_append, hxn, Nat.add_assoc], by rw [← List.append_assoc]; rfl, by rw [List.length_append, hxn, ← Nat.add_assoc]; exact hl2⟩
 ·rcases ll with _ | ⟨cp0, rest0⟩
  ·simp only [show ∀ r n, lE r n none = .raw (.slice none 0 0) from fun _ _ => rfl, show ∀ T xs, lO T xs none = none from fun _ _ => rfl]
   simp only [J2, ↓reduceIte, pay, List.length_append, List.length_nil] at hf hsz hmax ⊢
   obtain ⟨hdl, hdl0⟩ : ∃ hdl, hdl = hd 192 (E2 K).length := ⟨_, rfl⟩
   have hh := Ar9 (base := 192) (n := (E2 K).length) (by omega)
   have hhf := Z4 192 (E2 K).length (by omega) (by omega) B0
   rw [← hdl0] at hf hsz hmax hh hhf ⊢
   have ih' : ∀ q ∈ qs, Apps Try.prog 87 5 [.agg (itE q.1 q.2)] B0 (J2 q.1) := fun q hq => by
    have hm : q.1 ∈ K := by rw [hK]; exact List.mem_map_of_mem hq
    exact (ih q hq (okL_iff.1 hkids _ hm) (by have := Bd2 hm; omega)).ext hB0
   refine A3 1000 ?_
   repeat' (first | with_reducible refine And.intro (by omega) ?_ | simp (maxSteps := 4000000) (disch := omega) only [go_sem, ↓reduceIte, Try.f87] | with_reducible refine D6 (id := 6) [0, 1, 2, 3, 4] mixed (by kernel_rfl) (by simp) (fun hin => D4 1000 hin ?_) | refine G9 (hsz) (by simp [closed, A0, A2, C4]) (A3 1000 ?_))
   refine G8 hhf (fun _ => by simp [closed]) (by kernel_rfl) (F9 (by kernel_rfl) (C3 (by kernel_rfl))) (fun hin2 s1 B1 hB1 hR1 => D4 1000 hin2 ?_)
   change BExt B0 B1 at hB1
   repeat' (simp (maxSteps := 4000000) (disch := omega) only [go_sem, ↓reduceIte])
   refine Ac3 (T := 5) (l := none) (xs := xs) 30 0 n hdl [] rfl rfl Try.underlying22 (.inl ⟨_, Try.underlying22⟩) zr5 cz5 by5 hxn rfl rfl hll (fun B hs hB _ => (hR1.ext hB).src _) (by omega) (by simp only [cxG]; omega) (by kernel_rfl) (F9 (by kernel_rfl) (C3 (by kernel_rfl))) (fun l1 hl1 => D4 1000 (by assumption) ?_)
   have hl1' := hl1
   obtain ⟨cp, rest, rfl, -⟩ := E6 hl1 (by omega)
   simp only [C1]
   repeat' (simp (maxSteps := 4000000) (disch := omega) only [go_sem, ↓reduceIte])
   refine E1 (by kernel_rfl) (C3 (by kernel_rfl)) ?_
   refine L0 [100030] 3 (by simp) (by simp) (by simp only [cxG]; omega) (by simp) (A3 1000 ?_)
   have hpk := H2 (T := 5) (ks := [100030]) (k := 3) hl1' (A7 0 (xs ++ hdl)) hz8
   repeat' (simp (maxSteps := 4000000) (disch := omega) only [go_sem, ↓reduceIte, okC, okE, U9, F2, hpk, E3])
   have hcB := hc.ext hB1
   replace ih' := fun q hq => (ih' q hq).ext hB1
   refine W1 (.fn (.func 119) [] [.ptr 1 0]) [.cells [.int .i64 1, .raw (.slice s.bA 0 s.bc), .raw (.slice s.kA qs.length s.kc)] 91 (0, 0), .cells [.raw (.slice s.kA qs.length s.kc)] 89 (0, 0)] Cb8 (by simp [closed, A0]) (by simp [EObj.closed, closed, A0]) (fun bs w _ => by rw [D5 bs (fun _ => 0) (by simp [A0, closed])]; exact X2 _ _ _ _ _ _ _ w) (A3 1000 ?_)
   repeat' (simp (maxSteps := 4000000) (disch := omega) only [go_sem, ↓reduceIte])
   obtain ⟨N0, hN0⟩ : ∃ N0, N0 = n + hdl.length := ⟨_, rfl⟩
   obtain ⟨Y0, hY0⟩ : ∃ Y0, Y0 = xs ++ hdl := ⟨_, rfl⟩
   have hYl : Y0.length = N0 := by rw [hY0, hN0, List.length_append, hxn]
   rw [← hN0] at hl1'
   simp only [← hN0, ← hY0]
   have cl1 : ∀ m, clO m (lO 5 (Y0.map bE) (some (cp, rest))) = True := fun m => clB (xs := Y0) hl1'
   clear hpk hl1 hll hin hin2
   have ho9 : olds.length ≤ 9 := by omega
   refine Bf9 rfl rfl Cb7 (by simp) ⟨by kernel_rfl, by kernel_rfl⟩ (S := Nat × Lst)
    (fun k u => u.1 = k ∧ k ≤ qs.length ∧ lOk [.int .u8 0] (N0 + (E2 (K.take k)).length) u.2) (fun cd u => False) (fun _ => 9)
    (fun u => Ao4 (.raw (.slice s.kA qs.length s.kc)) (N0 + (E2 (K.take u.1)).length) (Y0 ++ E2 (K.take u.1)) u.1 u.2)
    (fun _ => B1) (0, some (cp, rest)) ⟨rfl, Nat.zero_le _, hl1'⟩ (A5 (by simp [wσ, go_sem, closed, A0, A4, Ao4, E2, C1, cl1] <;> omega) (by simp [whs, Go.Ew.hget, go_sem, EObj.closed, closed, A0, A4, Ao4, E2, C1, cl1]) (by first | (simp [*]; done) | (simp only [cxG]; omega)) rfl rfl (by simp)) (fun u => by rcases u with ⟨_ | k, l⟩ <;> simp [hget, Ao4]) ⟨fun _ _ _ => by simp, fun _ _ h => h.elim⟩ [5] (fun q => B1.D q)
    (by intro i hi; simp only [List.mem_singleton] at hi; subst hi; exact ⟨rfl, fun k u _ => by rcases u with ⟨_ | k', l⟩ <;> rfl, fun _ _ h => h.elim⟩)
    (fun q hq => ⟨hq, fun k u hs => ⟨hq, rfl⟩, fun k u hs => ⟨hq, rfl⟩⟩)
    (len := qs.length) (enc := Bx9) (El := fun k q _ _ => qs[k]? = some q) (fun q => [.agg (itE q.1 q.2)]) (fun q bs => by simp only [Bx9]; rw [D5 bs (fun _ => 0) (by simp [A0, closed])]) (fun q => by simp [A0, closed]) (fun q => rfl) ?_
    (fun k q => qs[k]? = some q) (fun k q D w h => h) ?_ ?_ ?_ ?_ (fun cd u h => h.elim)
   ·intro bs w2 hH
    have hl1 := (hH.live 5 _ rfl).2
    refine Aa0 w2 qs (bs 5) s.kc s.kA B1.D (fun b hb => (hH.frame b hb).1) (by simp [World.cell?, hl1, EObj.real, A8, real]) (hcB.ext hH.ext) hql _ (.inl ⟨5, by simp, rfl⟩) (fun b hb => .inr hb) ?_
    rintro q (⟨i, hi, rfl⟩ | hq)
    ·simp only [List.mem_singleton] at hi; subst hi; exact G3 hl1
    ·exact (hH.frame q hq).1
   ·rintro k ⟨k', l2⟩ q l' olds2 e' E r r' ⟨rfl, hkk, hl2⟩ hk2 hq holds
    have hx := ih' q (List.mem_of_getElem? hq)
    simp only at hl2 hkk hk2 hq
    have hft := X5 (ks := K) (i := k') (by omega)
    obtain ⟨hlt, hge⟩ := List.getElem?_eq_some_iff.1 hq
    have hKk : K[k']'(by omega) = q.1 := by simp [hK, hge]
    rw [hKk] at hft
    have hle2 := Ab6 (ks := K) (k' + 1)
    have hlen : (E2 (K.take (k' + 1))).length = (E2 (K.take k')).length + (J2 q.1).length := by rw [hft, List.length_append]
    have hNpos : 0 < N0 + (E2 (K.take k')).length := by omega
    obtain ⟨cp2, rest2, rfl, -⟩ := E6 hl2 hNpos
    obtain ⟨Yk, hYk⟩ : ∃ Yk, Yk = Y0 ++ E2 (K.take k') := ⟨_, rfl⟩
    obtain ⟨Nk, hNk⟩ : ∃ Nk, Nk = N0 + (E2 (K.take k')).length := ⟨_, rfl⟩
    have hYN : Yk.length = Nk := by rw [hYk, hNk, List.length_append, hYl]
    have hY2 : Yk ++ J2 q.1 = Y0 ++ E2 (K.take (k' + 1)) := by rw [hYk, hft, List.append_assoc]
    have hN2 : Nk + (J2 q.1).length = N0 + (E2 (K.take (k' + 1))).length := by rw [hNk, hlen, Nat.add_assoc]
    have hmx : Nk + (J2 q.1).length ≤ 70368744177664 := by omega
    rw [← hNk] at hl2
    simp only [← hYk, ← hNk]
    obtain ⟨Z, hZ⟩ : ∃ Z, Z = Y0 ++ E2 (K.take (k' + 1)) := ⟨_, rfl⟩
    obtain ⟨M, hM⟩ : ∃ M, M = N0 + (E2 (K.take (k' + 1))).length := ⟨_, rfl⟩
    simp only [← hZ, ← hM] at hY2 hN2 ⊢
    clear hYk hNk hlen hle2 hft
    cases k' with
    | zero =>
     simp only [Ao4, C1]
     refine A3 1000 ?_
     repeat' (first | simp (maxSteps := 4000000) (disch := omega) only [go_sem, ↓reduceIte] | with_reducible refine A3 1000 ?_)
     refine W2 (T := 5) (l := some (cp2, rest2)) (xs := Yk) 3 Nk hx rfl hYN hl2 hmx (fun l3 hl3 => ?_)
     rw [hN2] at hl3
     simp only [hN2, hY2]
     have hl3' := hl3
     obtain ⟨cp3, rest3, rfl, -⟩ := E6 hl3 (by omega)
     simp only [C1]
     refine L0 [10] 8 (by simp) (by simp) (by simp only [holds]; omega) (by simp) (A3 1000 ?_)
     have hpk2 := H2 (T := 5) (ks := [10]) (k := 8) hl3' (A7 0 Z) hz8
     have cl3 : ∀ m, clO m (lO 5 (Z.map bE) (some (cp3, rest3))) = True := fun m => clB (xs := Z) hl3'
     have ho10 : olds2.length ≤ 9 := by rw [holds]; simp
     repeat' (simp (maxSteps := 4000000) (disch := omega) only [go_sem, ↓reduceIte, okC, okE, U9, F2, hpk2, E3])
     refine ⟨(1, some (cp3, rest3)), ⟨rfl, hk2, hl3'⟩, ?_⟩
     simp only [Ao4, ← hZ, ← hM, C1]
     exact (A5 (by simp [wσ, go_sem, closed, A0, A4, cl3] <;> omega) (by simp [whs, Go.Ew.hget, go_sem, EObj.closed, closed, A0, A4, cl3]) (by first | (simp [*]; done) | (simp only [cxG]; omega)) rfl rfl (by simp))
    | succ k' =>
     simp only [Ao4, C1]
     refine A3 1000 ?_
     repeat' (first | simp (maxSteps := 4000000) (disch := omega) only [go_sem, ↓reduceIte] | with_reducible refine A3 1000 ?_)
     refine W2 (T := 5) (l := some (cp2, rest2)) (xs := Yk) 8 Nk hx rfl hYN hl2 hmx (fun l3 hl3 => ?_)
     rw [hN2] at hl3
     simp only [hN2, hY2]
     have hl3' := hl3
     obtain ⟨cp3, rest3, rfl, -⟩ := E6 hl3 (by omega)
     simp only [C1]
     refine L0 [10, 8] 8 (by simp) (by simp) (by simp only [holds]; omega) (by simp) (A3 1000 ?_)
     have hpk2 := H2 (T := 5) (ks := [10, 8]) (k := 8) hl3' (A7 0 Z) hz8
     have cl3 : ∀ m, clO m (lO 5 (Z.map bE) (some (cp3, rest3))) = True := fun m => clB (xs := Z) hl3'
     have ho10 : olds2.length ≤ 9 := by rw [holds]; simp
     repeat' (simp (maxSteps := 4000000) (disch := omega) only [go_sem, ↓reduceIte, okC, okE, U9, F2, hpk2, E3])
     refine ⟨(k' + 1 + 1, some (cp3, rest3)), ⟨rfl, hk2, hl3'⟩, ?_⟩
     simp only [Ao4, ← hZ, ← hM, C1]
     exact (A5 (by simp [wσ, go_sem, closed, A0, A4, cl3] <;> omega) (by simp [whs, Go.Ew.hget, go_sem, EObj.closed, closed, A0, A4, cl3]) (by first | (simp [*]; done) | (simp only [cxG]; omega)) rfl rfl (by simp))
   ·rintro ⟨k', l2⟩ ⟨rfl, hkk, hl2⟩
    simp only at hl2 ⊢
    have hfin : K.take qs.length = K := by rw [← hKl, List.take_length]
    have hY : Y0 ++ E2 K = xs ++ (hdl ++ E2 K) := by rw [hY0, List.append_assoc]
    have hN : N0 + (E2 K).length = xs.length + (hdl.length + (E2 K).length) := by rw [hN0, hxn, Nat.add_assoc]
    rw [hfin] at hl2 ⊢
    rw [hN] at hl2 ⊢
    rw [hY]
    obtain ⟨cp2, rest2, rfl, -⟩ := E6 hl2 (by omega)
    cases hq : qs.length with
    | zero =>
     simp only [Ao4, C1]
     refine A3 1000 ?_
     repeat' (first | with_reducible refine And.intro (by omega) ?_ | simp (maxSteps := 4000000) (disch := omega) only [go_sem, ↓reduceIte])
     exact ⟨3, some (cp2, rest2), rfl, rfl, hl2⟩
    | succ k' =>
     simp only [Ao4, C1]
     refine A3 1000 ?_
     repeat' (first | with_reducible refine And.intro (by omega) ?_ | simp (maxSteps := 4000000) (disch := omega) only [go_sem, ↓reduceIte])
     exact ⟨8, some (cp2, rest2), rfl, rfl, hl2⟩
   ·intro u hs; exact hs.elim
   ·intro id u hs; exact hs.elim
  ·simp only [C1]
   simp only [J2, ↓reduceIte, pay, List.length_append, List.length_nil] at hf hsz hmax ⊢
   obtain ⟨hdl, hdl0⟩ : ∃ hdl, hdl = hd 192 (E2 K).length := ⟨_, rfl⟩
   have hh := Ar9 (base := 192) (n := (E2 K).length) (by omega)
   have hhf := Z4 192 (E2 K).length (by omega) (by omega) B0
   rw [← hdl0] at hf hsz hmax hh hhf ⊢
   have ih' : ∀ q ∈ qs, Apps Try.prog 87 5 [.agg (itE q.1 q.2)] B0 (J2 q.1) := fun q hq => by
    have hm : q.1 ∈ K := by rw [hK]; exact List.mem_map_of_mem hq
    exact (ih q hq (okL_iff.1 hkids _ hm) (by have := Bd2 hm; omega)).ext hB0
   refine A3 1000 ?_
   repeat' (first | with_reducible refine And.intro (by omega) ?_ | simp (maxSteps := 4000000) (disch := omega) only [go_sem, ↓reduceIte, Try.f87] | with_reducible refine D6 (id := 6) [0, 1, 2, 3, 4] mixed (by kernel_rfl) (by simp) (fun hin => D4 1000 hin ?_) | refine G9 (hsz) (by simp [closed, A0, A2, C4]) (A3 1000 ?_))
   refine G8 hhf (fun _ => by simp [closed]) (by kernel_rfl) (F9 (by kernel_rfl) (C3 (by kernel_rfl))) (fun hin2 s1 B1 hB1 hR1 => D4 1000 hin2 ?_)
   change BExt B0 B1 at hB1
   repeat' (simp (maxSteps := 4000000) (disch := omega) only [go_sem, ↓reduceIte])
   refine Ac3 (T := 5) (l := (some (cp0, rest0))) (xs := xs) 30 0 n hdl [] rfl rfl Try.underlying22 (.inl ⟨_, Try.underlying22⟩) zr5 cz5 by5 hxn rfl rfl hll (fun B hs hB _ => (hR1.ext hB).src _) (by omega) (by simp only [cxG]; omega) (by kernel_rfl) (F9 (by kernel_rfl) (C3 (by kernel_rfl))) (fun l1 hl1 => D4 1000 (by assumption) ?_)
   have hl1' := hl1
   obtain ⟨cp, rest, rfl, -⟩ := E6 hl1 (by omega)
   simp only [C1]
   repeat' (simp (maxSteps := 4000000) (disch := omega) only [go_sem, ↓reduceIte])
   refine E1 (by kernel_rfl) (C3 (by kernel_rfl)) ?_
   refine L0 [100030] 3 (by simp) (by simp) (by simp only [cxG]; omega) (by simp) (A3 1000 ?_)
   have hpk := H2 (T := 5) (ks := [100030]) (k := 3) hl1' (A7 0 (xs ++ hdl)) hz8
   repeat' (simp (maxSteps := 4000000) (disch := omega) only [go_sem, ↓reduceIte, okC, okE, U9, F2, hpk, E3])
   have hcB := hc.ext hB1
   replace ih' := fun q hq => (ih' q hq).ext hB1
   refine W1 (.fn (.func 119) [] [.ptr 1 0]) [.cells [.int .i64 1, .raw (.slice s.bA 0 s.bc), .raw (.slice s.kA qs.length s.kc)] 91 (0, 0), .cells [.raw (.slice s.kA qs.length s.kc)] 89 (0, 0)] Cb8 (by simp [closed, A0]) (by simp [EObj.closed, closed, A0]) (fun bs w _ => by rw [D5 bs (fun _ => 0) (by simp [A0, closed])]; exact X2 _ _ _ _ _ _ _ w) (A3 1000 ?_)
   repeat' (simp (maxSteps := 4000000) (disch := omega) only [go_sem, ↓reduceIte])
   obtain ⟨N0, hN0⟩ : ∃ N0, N0 = n + hdl.length := ⟨_, rfl⟩
   obtain ⟨Y0, hY0⟩ : ∃ Y0, Y0 = xs ++ hdl := ⟨_, rfl⟩
   have hYl : Y0.length = N0 := by rw [hY0, hN0, List.length_append, hxn]
   rw [← hN0] at hl1'
   simp only [← hN0, ← hY0]
   have cl1 : ∀ m, clO m (lO 5 (Y0.map bE) (some (cp, rest))) = True := fun m => clB (xs := Y0) hl1'
   clear hpk hl1 hll hin hin2
   have ho9 : olds.length ≤ 9 := by omega
   refine Bf9 rfl rfl Cb7 (by simp) ⟨by kernel_rfl, by kernel_rfl⟩ (S := Nat × Lst)
    (fun k u => u.1 = k ∧ k ≤ qs.length ∧ lOk [.int .u8 0] (N0 + (E2 (K.take k)).length) u.2) (fun cd u => False) (fun _ => 9)
    (fun u => Ao4 (.raw (.slice s.kA qs.length s.kc)) (N0 + (E2 (K.take u.1)).length) (Y0 ++ E2 (K.take u.1)) u.1 u.2)
    (fun _ => B1) (0, some (cp, rest)) ⟨rfl, Nat.zero_le _, hl1'⟩ (A5 (by simp [wσ, go_sem, closed, A0, A4, Ao4, E2, C1, cl1] <;> omega) (by simp [whs, Go.Ew.hget, go_sem, EObj.closed, closed, A0, A4, Ao4, E2, C1, cl1]) (by first | (simp [*]; done) | (simp only [cxG]; omega)) rfl rfl (by simp)) (fun u => by rcases u with ⟨_ | k, l⟩ <;> simp [hget, Ao4]) ⟨fun _ _ _ => by simp, fun _ _ h => h.elim⟩ [5] (fun q => B1.D q)
    (by intro i hi; simp only [List.mem_singleton] at hi; subst hi; exact ⟨rfl, fun k u _ => by rcases u with ⟨_ | k', l⟩ <;> rfl, fun _ _ h => h.elim⟩)
    (fun q hq => ⟨hq, fun k u hs => ⟨hq, rfl⟩, fun k u hs => ⟨hq, rfl⟩⟩)
    (len := qs.length) (enc := Bx9) (El := fun k q _ _ => qs[k]? = some q) (fun q => [.agg (itE q.1 q.2)]) (fun q bs => by simp only [Bx9]; rw [D5 bs (fun _ => 0) (by simp [A0, closed])]) (fun q => by simp [A0, closed]) (fun q => rfl) ?_
    (fun k q => qs[k]? = some q) (fun k q D w h => h) ?_ ?_ ?_ ?_ (fun cd u h => h.elim)
   ·intro bs w2 hH
    have hl1 := (hH.live 5 _ rfl).2
    refine Aa0 w2 qs (bs 5) s.kc s.kA B1.D (fun b hb => (hH.frame b hb).1) (by simp [World.cell?, hl1, EObj.real, A8, real]) (hcB.ext hH.ext) hql _ (.inl ⟨5, by simp, rfl⟩) (fun b hb => .inr hb) ?_
    rintro q (⟨i, hi, rfl⟩ | hq)
    ·simp only [List.mem_singleton] at hi; subst hi; exact G3 hl1
    ·exact (hH.frame q hq).1
   ·rintro k ⟨k', l2⟩ q l' olds2 e' E r r' ⟨rfl, hkk, hl2⟩ hk2 hq holds
    have hx := ih' q (List.mem_of_getElem? hq)
    simp only at hl2 hkk hk2 hq
    have hft := X5 (ks := K) (i := k') (by omega)
    obtain ⟨hlt, hge⟩ := List.getElem?_eq_some_iff.1 hq
    have hKk : K[k']'(by omega) = q.1 := by simp [hK, hge]
    rw [hKk] at hft
    have hle2 := Ab6 (ks := K) (k' + 1)
    have hlen : (E2 (K.take (k' + 1))).length = (E2 (K.take k')).length + (J2 q.1).length := by rw [hft, List.length_append]
    have hNpos : 0 < N0 + (E2 (K.take k')).length := by omega
    obtain ⟨cp2, rest2, rfl, -⟩ := E6 hl2 hNpos
    obtain ⟨Yk, hYk⟩ : ∃ Yk, Yk = Y0 ++ E2 (K.take k') := ⟨_, rfl⟩
    obtain ⟨Nk, hNk⟩ : ∃ Nk, Nk = N0 + (E2 (K.take k')).length := ⟨_, rfl⟩
    have hYN : Yk.length = Nk := by rw [hYk, hNk, List.length_append, hYl]
    have hY2 : Yk ++ J2 q.1 = Y0 ++ E2 (K.take (k' + 1)) := by rw [hYk, hft, List.append_assoc]
    have hN2 : Nk + (J2 q.1).length = N0 + (E2 (K.take (k' + 1))).length := by rw [hNk, hlen, Nat.add_assoc]
    have hmx : Nk + (J2 q.1).length ≤ 70368744177664 := by omega
    rw [← hNk] at hl2
    simp only [← hYk, ← hNk]
    obtain ⟨Z, hZ⟩ : ∃ Z, Z = Y0 ++ E2 (K.take (k' + 1)) := ⟨_, rfl⟩
    obtain ⟨M, hM⟩ : ∃ M, M = N0 + (E2 (K.take (k' + 1))).length := ⟨_, rfl⟩
    simp only [← hZ, ← hM] at hY2 hN2 ⊢
    clear hYk hNk hlen hle2 hft
    cases k' with
    | zero =>
     simp only [Ao4, C1]
     refine A3 1000 ?_
     repeat' (first | simp (maxSteps := 4000000) (disch := omega) only [go_sem, ↓reduceIte] | with_reducible refine A3 1000 ?_)
     refine W2 (T := 5) (l := some (cp2, rest2)) (xs := Yk) 3 Nk hx rfl hYN hl2 hmx (fun l3 hl3 => ?_)
     rw [hN2] at hl3
     simp only [hN2, hY2]
     have hl3' := hl3
     obtain ⟨cp3, rest3, rfl, -⟩ := E6 hl3 (by omega)
     simp only [C1]
     refine L0 [10] 8 (by simp) (by simp) (by simp only [holds]; omega) (by simp) (A3 1000 ?_)
     have hpk2 := H2 (T := 5) (ks := [10]) (k := 8) hl3' (A7 0 Z) hz8
     have cl3 : ∀ m, clO m (lO 5 (Z.map bE) (some (cp3, rest3))) = True := fun m => clB (xs := Z) hl3'
     have ho10 : olds2.length ≤ 9 := by rw [holds]; simp
     repeat' (simp (maxSteps := 4000000) (disch := omega) only [go_sem, ↓reduceIte, okC, okE, U9, F2, hpk2, E3])
     refine ⟨(1, some (cp3, rest3)), ⟨rfl, hk2, hl3'⟩, ?_⟩
     simp only [Ao4, ← hZ, ← hM, C1]
     exact (A5 (by simp [wσ, go_sem, closed, A0, A4, cl3] <;> omega) (by simp [whs, Go.Ew.hget, go_sem, EObj.closed, closed, A0, A4, cl3]) (by first | (simp [*]; done) | (simp only [cxG]; omega)) rfl rfl (by simp))
    | succ k' =>
     simp only [Ao4, C1]
     refine A3 1000 ?_
     repeat' (first | simp (maxSteps := 4000000) (disch := omega) only [go_sem, ↓reduceIte] | with_reducible refine A3 1000 ?_)
     refine W2 (T := 5) (l := some (cp2, rest2)) (xs := Yk) 8 Nk hx rfl hYN hl2 hmx (fun l3 hl3 => ?_)
     rw [hN2] at hl3
     simp only [hN2, hY2]
     have hl3' := hl3
     obtain ⟨cp3, rest3, rfl, -⟩ := E6 hl3 (by omega)
     simp only [C1]
     refine L0 [10, 8] 8 (by simp) (by simp) (by simp only [holds]; omega) (by simp) (A3 1000 ?_)
     have hpk2 := H2 (T := 5) (ks := [10, 8]) (k := 8) hl3' (A7 0 Z) hz8
     have cl3 : ∀ m, clO m (lO 5 (Z.map bE) (some (cp3, rest3))) = True := fun m => clB (xs := Z) hl3'
     have ho10 : olds2.length ≤ 9 := by rw [holds]; simp
     repeat' (simp (maxSteps := 4000000) (disch := omega) only [go_sem, ↓reduceIte, okC, okE, U9, F2, hpk2, E3])
     refine ⟨(k' + 1 + 1, some (cp3, rest3)), ⟨rfl, hk2, hl3'⟩, ?_⟩
     simp only [Ao4, ← hZ, ← hM, C1]
     exact (A5 (by simp [wσ, go_sem, closed, A0, A4, cl3] <;> omega) (by simp [whs, Go.Ew.hget, go_sem, EObj.closed, closed, A0, A4, cl3]) (by first | (simp [*]; done) | (simp only [cxG]; omega)) rfl rfl (by simp))
   ·rintro ⟨k', l2⟩ ⟨rfl, hkk, hl2⟩
    simp only at hl2 ⊢
    have hfin : K.take qs.length = K := by rw [← hKl, List.take_length]
    have hY : Y0 ++ E2 K = xs ++ (hdl ++ E2 K) := by rw [hY0, List.append_assoc]
    have hN : N0 + (E2 K).length = xs.length + (hdl.length + (E2 K).length) := by rw [hN0, hxn, Nat.add_assoc]
    rw [hfin] at hl2 ⊢
    rw [hN] at hl2 ⊢
    rw [hY]
    obtain ⟨cp2, rest2, rfl, -⟩ := E6 hl2 (by omega)
    cases hq : qs.length with
    | zero =>
     simp only [Ao4, C1]
     refine A3 1000 ?_
     repeat' (first | with_reducible refine And.intro (by omega) ?_ | simp (maxSteps := 4000000) (disch := omega) only [go_sem, ↓reduceIte])
     exact ⟨3, some (cp2, rest2), rfl, rfl, hl2⟩
    | succ k' =>
     simp only [Ao4, C1]
     refine A3 1000 ?_
     repeat' (first | with_reducible refine And.intro (by omega) ?_ | simp (maxSteps := 4000000) (disch := omega) only [go_sem, ↓reduceIte])
     exact ⟨8, some (cp2, rest2), rfl, rfl, hl2⟩
   ·intro u hs; exact hs.elim
   ·intro id u hs; exact hs.elim
end Go.Proofs.Ytncjbfkkgdepoaa
namespace Go.Proofs.Ytncjbfkkgdepoaa
open Go RowKit Go.Ew
set_option maxHeartbeats 4000000
theorem Df4 : C5 Try.f61.ntmps (Try.f61.body.getD .skip) = true := by kernel_rfl
mutual
theorem Cg2 : ∀ (t : Itm) (d : Nat), chk t d = 0 → okI t = true
 | .mk l b ks, d, h => by
  simp only [chk] at h
  split at h
  ·omega
  ·split at h
   ·omega
   ·rename_i h1 h2
    have hk := Bv0 ks (d + 1) h
    simp only [okI, hk, Bool.and_true, Bool.or_eq_true, Bool.and_eq_true, beq_iff_eq, List.isEmpty_iff]
    by_cases h0 : l = 0
    ·exact .inl ⟨h0, Classical.byContradiction fun hn => h2 (.inr (.inl ⟨h0, hn⟩))⟩
    ·by_cases h1 : l = 1
     ·exact .inr ⟨h1, Classical.byContradiction fun hn => h2 (.inr (.inr ⟨h1, hn⟩))⟩
     ·exact absurd (.inl ⟨h0, h1⟩) h2
theorem Bv0 : ∀ (ks : List Itm) (d : Nat), Ba4 ks d = 0 → okL ks = true
 | [], _, _ => rfl
 | k :: ks, d, h => by
  simp only [Ba4] at h
  split at h
  ·rename_i h0
   simp only [okL, Cg2 k d h0, Bv0 ks d h, Bool.and_self]
  ·exact absurd h ‹_›
end
theorem Cq8 {B : Base} {t : Itm} {s : Plc} (h : ItAt B t s) (hok : chk t 0 = 0) (hf : (J2 t).length < 35184372088832) :
  Does Try.prog 61 [.agg (itE t s)] B (fun s : Option Addr × Nat => .tup [.raw (.slice s.1 (J2 t).length s.2), .int .i64 0]) (fun s B' => BytesAt B' s.1 (J2 t) ∧ (J2 t).length ≤ s.2) := by
 refine Bu2 Di7 (fun s B B' hB hR => ⟨hR.1.ext hB, hR.2⟩) Try.func61 rfl Df4 (by simp [Try.f61]) (by simp [A0, closed]) (fun B0 hB0 => A3 1000 ?_)
 replace h := h.ext hB0
 have h1 := Cc3 h 0 (by omega)
 rw [hok] at h1
 repeat' (first | simp (maxSteps := 4000000) (disch := omega) only [go_sem, ↓reduceIte, Try.f61] | refine G9 (h1) (by simp [closed, A0, A2, C4]) (A3 1000 ?_))
 refine W2 (T := 5) (l := none) (xs := []) 50 0 (Bm2 h (Cg2 t 0 hok) hf) rfl rfl rfl (by omega) (fun l1 hl1 => A3 1000 ?_)
 repeat' (simp (maxSteps := 4000000) (disch := omega) only [go_sem, ↓reduceIte])
 refine ⟨by rcases l1 with _ | ⟨q1, q2⟩ <;> rfl, BExt.refl _, Bs5 (T := 5) 1 (J2 t).length (l := l1) (xs := J2 t) rfl rfl (by rw [Nat.zero_add] at hl1; exact hl1) (fun b ad cap B' hB hf hC hc => ?_)⟩
 simp only [frz, Ag3, hf]
 exact ⟨by simp [closed, A0], (ad, cap), rfl, hC, hc⟩
end Go.Proofs.Ytncjbfkkgdepoaa
