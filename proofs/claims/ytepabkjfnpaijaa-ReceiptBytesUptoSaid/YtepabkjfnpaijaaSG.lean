/- Part of a proof over the seat Ytepabkjfnpaijaa. -/
import Derived.Test.YtepabkjfnpaijaaSF
import Derived.Test.YtepabkjfnpaijaaG14
set_option linter.unusedSimpArgs false
set_option linter.unusedVariables false
set_option maxRecDepth 100000
namespace Go.Proofs.Ytepabkjfnpaijaa
open Go RowKit Go.Ew
set_option maxHeartbeats 4000000
theorem in73 : codeIn Try.f73.ntmps (Try.f73.body.getD .skip) = true := by kernel_rfl
theorem rdecode_fn : ∀ (m : Nat), m ≤ 64 → ∀ (b : List UInt8) (n : Nat) (B : Base) (ad : Option Addr) (cap : Nat), BytesAt B ad b → b.length = n → n ≤ cap → n ≤ 1099511627776 →
  Does Try.prog 73 [.raw (.slice ad n cap), .int .i64 ((64 - m : Nat) : Int)] B (fun s : Plc => .tup [.agg (itE (decM m b).1 s), .int .i64 ((decM m b).2.1 : Nat), .int .i64 ((decM m b).2.2 : Nat)]) (fun s B' => ItAt B' (decM m b).1 s) := by
 intro m
 induction m with
 | zero =>
  intro hm b n B ad cap hb hn hcap hc
  subst hn
  refine fn_of en73 (fun s B B' hB hR => hR.ext hB) Try.func73 rfl in73 (by simp [Try.f73]) (by simp [closeds, closed]) (fun B0 hB0 => next_of 1000 ?_)
  replace hb := hb.ext hB0
  have hM : decM 0 b = decB (fun _ => ([], 44)) b := rfl
  have hhd := rhd_fn b b.length B0 ad cap hb rfl hcap (by omega)
  have hpl := fun h => payM_len (b := b) h
  have hpay : payM b = (b.take (headM b).1.2.2).drop (headM b).1.2.1 := rfl
  unfold decB at hM
  have hok := fun h => headM_ok (b := b) h
  have herr := headM_err b
  by_cases h1 : (headM b).2 = 0
  ·rw [if_neg (by omega)] at hM
   obtain ⟨a1, a2, a3, a4⟩ := hok h1
   replace hpl := hpl h1
   have hbs := bytes_sub hb a1 a2 hcap
   rw [← hpay] at hbs
   rw [h1] at hhd
   obtain ⟨P, hP⟩ : ∃ P, P = payM b := ⟨_, rfl⟩
   rw [← hP] at hM hpl hbs
   obtain ⟨ls, fr, to, hq⟩ : ∃ ls fr to, (headM b).1 = (ls, fr, to) := ⟨_, _, _, rfl⟩
   rw [hq] at hM hpl hbs hhd a1 a2 a3 a4 hpay
   rw [← hP] at hpay
   simp only at hM hpl hbs hhd a1 a2 a3 a4 hpay
   clear hok hq herr h1
   by_cases h2 : ls = 0
   ·subst h2
    rw [if_pos rfl] at hM
    rw [hM]
    repeat' (first | with_reducible refine And.intro (by first | omega | (simp; done) | (simp; omega)) ?_ | simp (maxSteps := 4000000) (disch := omega) only [go_sem, ↓reduceIte, Try.f73, Int.toNat_natCast] | refine callS_fp (hhd) (by simp [closed, closeds, closeds_ints, closed_wE]) (next_of 1000 ?_))
    refine appB (T := 5) (l := some (0, [])) (xs := []) 3 0 P rfl Try.underlying23 (.inl ⟨_, Try.underlying23⟩) zr5 cz5 by5 rfl rfl rfl ⟨Nat.le_refl _, Nat.zero_le _, rfl, by simp⟩ (hpl ▸ hbs.src _) (by omega) (fun l1 hl1 => ?_)
    simp only [Nat.zero_add, List.nil_append] at hl1 ⊢
    refine freezeB (xs := P) (T := 5) 4 P.length rfl rfl hl1 (by simp) (fun b2 ad2 cap2 B2 hB2 hfz hbY hcap2 => next_of 1000 ?_)
    change BExt B0 B2 at hB2
    repeat' (first | with_reducible refine And.intro (by omega) ?_ | simp (maxSteps := 4000000) (disch := omega) only [go_sem, ↓reduceIte, hfz] | with_reducible refine drawT_of (id := 7) [0, 1, 2, 3, 4, 5] mixed (by kernel_rfl) (by simp) (fun hin => dt_of 1000 hin ?_) | with_reducible refine endT_of (by kernel_rfl) (nmT_of (by kernel_rfl)) (next_of 1000 ?_))
    first | exact ⟨hB2, ⟨ad2, cap2, none, 0⟩, rfl, by simp [closed, closeds], txt_at hbY (by omega)⟩ | exact ⟨⟨ad2, cap2, none, 0⟩, rfl, by simp [closed, closeds], txt_at hbY (by omega)⟩ | exact ⟨hB2, ⟨ad2, cap2, none, 0⟩, by simp [closed, closeds], txt_at hbY (by omega)⟩ | exact ⟨⟨ad2, cap2, none, 0⟩, by simp [closed, closeds], txt_at hbY (by omega)⟩ | exact ⟨hB2, ⟨ad2, cap2, none, 0⟩, by simp [closed, closeds, bytes_any]⟩ | exact ⟨⟨ad2, cap2, none, 0⟩, by simp [closed, closeds, bytes_any]⟩
   ·rw [if_neg h2] at hM
    have c2 : (((ls : Nat) : Int) == 0) = false := by rw [beq_eq_false_iff_ne]; omega
    rw [if_pos (by simp)] at hM
    rw [hM]
    repeat' (first | with_reducible refine And.intro (by omega) ?_ | simp (maxSteps := 4000000) (disch := omega) only [go_sem, ↓reduceIte, Try.f73, c2] | refine callS_fp (hhd) (by simp [closed, closeds, closeds_ints, closed_wE]) (next_of 1000 ?_))
    first | exact ⟨BExt.refl _, ⟨none, 0, none, 0⟩, rfl, by simp [closed, closeds], zI_at _⟩ | exact ⟨⟨none, 0, none, 0⟩, rfl, by simp [closed, closeds], zI_at _⟩ | exact ⟨BExt.refl _, ⟨none, 0, none, 0⟩, by simp [closed, closeds], zI_at _⟩ | exact ⟨⟨none, 0, none, 0⟩, by simp [closed, closeds], zI_at _⟩ | exact ⟨BExt.refl _, ⟨none, 0, none, 0⟩, by simp [closed, closeds, bytes_any]⟩ | exact ⟨⟨none, 0, none, 0⟩, by simp [closed, closeds, bytes_any]⟩
  ·rw [if_pos h1] at hM
   rw [hM]
   obtain ⟨e, he⟩ : ∃ e, e = (headM b).2 := ⟨_, rfl⟩
   rw [← he] at hhd h1 herr ⊢
   have hei : ((e : Nat) : Int) ≠ 0 := by omega
   repeat' (first | simp (maxSteps := 4000000) (disch := omega) only [go_sem, ↓reduceIte, Try.f73] | refine callS_fp (hhd) (by simp [closed, closeds, closeds_ints, closed_wE]) (next_of 1000 ?_) | ((first | refine condS_split (fun h => ?_) (fun h => ?_) | refine testS_split (fun h => ?_) (fun h => ?_) | refine testT_split (fun h => ?_) (fun h => ?_)) <;> (try simp only [bne_iff_ne, ne_eq, beq_iff_eq, decide_eq_true_eq, decide_eq_false_iff_not, Bool.not_eq_true, Bool.not_eq_false, Bool.not_true, Bool.not_false, bne_eq_false_iff_eq, beq_eq_false_iff_ne, Bool.and_eq_true, Bool.or_eq_true, Bool.and_eq_false_imp, Bool.or_eq_false_iff, Bool.not_eq_true', Bool.not_eq_false', Int.not_lt, Int.not_le] at h) <;> (try (exfalso; omega))))
   first | exact ⟨BExt.refl _, ⟨none, 0, none, 0⟩, rfl, by simp [closed, closeds], zI_at _⟩ | exact ⟨⟨none, 0, none, 0⟩, rfl, by simp [closed, closeds], zI_at _⟩ | exact ⟨BExt.refl _, ⟨none, 0, none, 0⟩, by simp [closed, closeds], zI_at _⟩ | exact ⟨⟨none, 0, none, 0⟩, by simp [closed, closeds], zI_at _⟩ | exact ⟨BExt.refl _, ⟨none, 0, none, 0⟩, by simp [closed, closeds, bytes_any]⟩ | exact ⟨⟨none, 0, none, 0⟩, by simp [closed, closeds, bytes_any]⟩
 | succ m ih =>
  intro hm b n B ad cap hb hn hcap hc
  subst hn
  refine fn_of en73 (fun s B B' hB hR => hR.ext hB) Try.func73 rfl in73 (by simp [Try.f73]) (by simp [closeds, closed]) (fun B0 hB0 => next_of 1000 ?_)
  replace hb := hb.ext hB0
  have hM : decM (m + 1) b = decB (fun p => kidsL (decM m) p.length p []) b := rfl
  have hhd := rhd_fn b b.length B0 ad cap hb rfl hcap (by omega)
  have hpl := fun h => payM_len (b := b) h
  have hpay : payM b = (b.take (headM b).1.2.2).drop (headM b).1.2.1 := rfl
  unfold decB at hM
  have hok := fun h => headM_ok (b := b) h
  have herr := headM_err b
  by_cases h1 : (headM b).2 = 0
  ·rw [if_neg (by omega)] at hM
   obtain ⟨a1, a2, a3, a4⟩ := hok h1
   replace hpl := hpl h1
   have hbs := bytes_sub hb a1 a2 hcap
   rw [← hpay] at hbs
   rw [h1] at hhd
   obtain ⟨P, hP⟩ : ∃ P, P = payM b := ⟨_, rfl⟩
   rw [← hP] at hM hpl hbs
   obtain ⟨ls, fr, to, hq⟩ : ∃ ls fr to, (headM b).1 = (ls, fr, to) := ⟨_, _, _, rfl⟩
   rw [hq] at hM hpl hbs hhd a1 a2 a3 a4 hpay
   rw [← hP] at hpay
   simp only at hM hpl hbs hhd a1 a2 a3 a4 hpay
   clear hok hq herr h1
   by_cases h2 : ls = 0
   ·subst h2
    rw [if_pos rfl] at hM
    rw [hM]
    repeat' (first | with_reducible refine And.intro (by first | omega | (simp; done) | (simp; omega)) ?_ | simp (maxSteps := 4000000) (disch := omega) only [go_sem, ↓reduceIte, Try.f73, Int.toNat_natCast] | refine callS_fp (hhd) (by simp [closed, closeds, closeds_ints, closed_wE]) (next_of 1000 ?_))
    refine appB (T := 5) (l := some (0, [])) (xs := []) 3 0 P rfl Try.underlying23 (.inl ⟨_, Try.underlying23⟩) zr5 cz5 by5 rfl rfl rfl ⟨Nat.le_refl _, Nat.zero_le _, rfl, by simp⟩ (hpl ▸ hbs.src _) (by omega) (fun l1 hl1 => ?_)
    simp only [Nat.zero_add, List.nil_append] at hl1 ⊢
    refine freezeB (xs := P) (T := 5) 4 P.length rfl rfl hl1 (by simp) (fun b2 ad2 cap2 B2 hB2 hfz hbY hcap2 => next_of 1000 ?_)
    change BExt B0 B2 at hB2
    repeat' (first | with_reducible refine And.intro (by omega) ?_ | simp (maxSteps := 4000000) (disch := omega) only [go_sem, ↓reduceIte, hfz] | with_reducible refine drawT_of (id := 7) [0, 1, 2, 3, 4, 5] mixed (by kernel_rfl) (by simp) (fun hin => dt_of 1000 hin ?_) | with_reducible refine endT_of (by kernel_rfl) (nmT_of (by kernel_rfl)) (next_of 1000 ?_))
    first | exact ⟨hB2, ⟨ad2, cap2, none, 0⟩, rfl, by simp [closed, closeds], txt_at hbY (by omega)⟩ | exact ⟨⟨ad2, cap2, none, 0⟩, rfl, by simp [closed, closeds], txt_at hbY (by omega)⟩ | exact ⟨hB2, ⟨ad2, cap2, none, 0⟩, by simp [closed, closeds], txt_at hbY (by omega)⟩ | exact ⟨⟨ad2, cap2, none, 0⟩, by simp [closed, closeds], txt_at hbY (by omega)⟩ | exact ⟨hB2, ⟨ad2, cap2, none, 0⟩, by simp [closed, closeds, bytes_any]⟩ | exact ⟨⟨ad2, cap2, none, 0⟩, by simp [closed, closeds, bytes_any]⟩
   ·rw [if_neg h2] at hM
    have c2 : (((ls : Nat) : Int) == 0) = false := by rw [beq_eq_false_iff_ne]; omega
    have e7 : ((64 - (m + 1) : Nat) : Int) < 64 := by omega
    have e6 : ((64 - (m + 1) : Nat) : Int) + 1 = ((64 - m : Nat) : Int) := by omega
    obtain ⟨dp, hdp⟩ : ∃ dp, dp = 64 - (m + 1) := ⟨_, rfl⟩
    rw [← hdp] at e6 e7 ⊢
    have c7 : decide ((64 : Int) ≤ (dp : Int)) = false := decide_eq_false (by omega)
    repeat' (first | with_reducible refine And.intro (by omega) ?_ | simp (maxSteps := 4000000) (disch := omega) only [go_sem, ↓reduceIte, Try.f73, c2, c7] | refine callS_fp (hhd) (by simp [closed, closeds, closeds_ints, closed_wE]) (next_of 1000 ?_))
    refine loopU (S := Lst × List (Itm × Plc) × Nat × Nat × Base) (fun s => lOk z3 s.2.1.length s.1 ∧ BExt B0 s.2.2.2.2 ∧ (∀ q ∈ s.2.1, ItAt s.2.2.2.2 q.1 q.2) ∧ fr ≤ s.2.2.1 ∧ s.2.2.1 ≤ to ∧ s.2.1.length + (to - s.2.2.1) ≤ P.length ∧ to - s.2.2.1 ≤ s.2.2.2.1 ∧ kidsL (decM m) s.2.2.2.1 ((b.take to).drop s.2.2.1) (s.2.1.map Prod.fst) = kidsL (decM m) P.length P [])
     (fun s => ⟨[(10, .int .i64 (s.2.2.1 : Nat)), (9, .ptr 2 0), (7, .ptr 1 0), (4, .ptr 0 0), (1, .int .i64 (dp : Nat)), (0, .raw (.slice ad b.length cap))], 4,
      [(3, lO 79 (s.2.1.flatMap itQ) s.1), (2, some (.cells [.int .i64 (ls : Nat), .raw (.slice none 0 0), lE 3 s.2.1.length s.1] 79 (0, 0))), (1, some (.cells [.int .i64 (ls : Nat), .int .i64 (fr : Nat), .int .i64 (to : Nat)] 155 (0, 0))), (0, some (.cells [.int .i64 0, .raw (.slice none 0 0), .raw (.slice none 0 0)] 79 (0, 0)))], s.2.2.2.2, []⟩)
     (fun s => to - s.2.2.1) (none, [], fr, P.length, B0) ⟨rfl, BExt.refl _, by simp, Nat.le_refl _, a1, by simp; omega, by simp only; omega, by rw [hpay]; rfl⟩ (Weak.sub (weak_of (by simp [wσ, go_sem, closed, closeds, lE_closed, lE, lO, clO, EObj.closed] <;> omega) (by simp [whs, Go.Ew.hget, go_sem, EObj.closed, closed, closeds, lE_closed, lE, lO, clO, EObj.closed]) (by simp [*]) rfl rfl (by simp))) ?_
    rintro ⟨l, qs, at', fuel, B1⟩ ⟨hl, hB1, hqs, hat1, hat2, hcnt, hfu, hkk⟩
    simp only at hl hB1 hqs hat1 hat2 hcnt hfu hkk ⊢
    have hpl2 : ((b.take to).drop at').length = to - at' := by rw [List.length_drop, List.length_take]; omega
    have hls1 : ls = 1 := by omega
    rcases Nat.lt_or_ge at' to with hlt | hge
    ·have cA : decide ((at' : Int) < (to : Int)) = true := decide_eq_true (by omega)
     have hp0 : (b.take to).drop at' ≠ [] := fun h => by have := congrArg List.length h; rw [hpl2, List.length_nil] at this; omega
     obtain ⟨fuel', rfl⟩ : ∃ k, fuel = k + 1 := ⟨fuel - 1, by omega⟩
     rw [kidsL, if_neg hp0] at hkk
     have hbp := bytes_sub (hb.ext hB1) hat2 a2 hcap
     have hrec := ih (by omega) ((b.take to).drop at') (to - at') B1 _ (cap - at') hbp hpl2 (by omega) (by omega)
     rw [← e6] at hrec
     have hto := fun h => decM_to (m := m) (b := (b.take to).drop at') h
     have her := decM_err m ((b.take to).drop at')
     rw [hpl2] at hto
     obtain ⟨t, k, e, hq⟩ : ∃ t k e, decM m ((b.take to).drop at') = (t, k, e) := ⟨_, _, _, rfl⟩
     rw [hq] at hrec hto her hkk
     simp only at hrec hto her hkk
     refine next_of 1000 ?_
     repeat' (first | with_reducible refine And.intro (by first | omega | (simp; omega)) ?_ | simp (maxSteps := 4000000) (disch := omega) only [go_sem, ↓reduceIte, cA, Int.toNat_natCast])
     refine callS_f hrec (fun _ => by simp [closed, closeds]) (fun s2 B2 hB2 hR2 => next_of 1000 ?_)
     change BExt B1 B2 at hB2
     by_cases he : e = 0
     ·subst he
      obtain ⟨t1, t2⟩ := hto rfl
      rw [if_neg (by simp)] at hkk
      repeat' (first | with_reducible refine And.intro (by first | omega | (simp; done)) ?_ | simp (maxSteps := 4000000) (disch := omega) only [go_sem, ↓reduceIte])
      refine appendL (l := l) (xs := qs.flatMap itQ) (zs := z3) (news := itE t s2) (T := 79) 3 qs.length rfl Try.underlying77 (.inl ⟨_, Try.underlying77⟩) zr79 cz79 (by simp [z3]) z3_closed rfl rfl rfl hl (by rw [itsE_len]; rfl) (itsE_closed 0 _) (src_own (m := 1) rfl rfl) (by simp [z3]) rfl (by simp only [maxLen]; omega) (by rw [show Try.prog.bytesOf 79 = 56 from by79]; omega) (fun l2 hl2 => ?_)
      have hl2' := hl2
      obtain ⟨cp, rest, rfl, -⟩ := lst_some hl2 (by omega)
      simp only [lE_some]
      have hev : qs.flatMap itQ ++ itE t s2 = (qs ++ [(t, s2)]).flatMap itQ := by
       rw [List.flatMap_append, List.flatMap_singleton]; rfl
      refine next_of 1000 ?_
      repeat' (first | with_reducible refine And.intro (by omega) ?_ | simp (maxSteps := 4000000) (disch := omega) only [go_sem, ↓reduceIte, hev, Int.toNat_natCast])
      have hok' : ∀ a ∈ qs ++ [(t, s2)], ItAt B2 a.1 a.2 := fun a ha => by
       rcases List.mem_append.1 ha with h3 | h3
       ·exact (hqs a h3).ext hB2
       ·obtain rfl := List.mem_singleton.1 h3
        exact hR2
      have cl2 : ∀ n, clO n (lO 79 ((qs ++ [(t, s2)]).flatMap itQ) (some (cp, rest))) = True := fun n => clO_lO hl2' (itsE_closed 0 _) z3_closed
      have cl3 : ∀ n, clO n (lO 79 (qs.flatMap itQ ++ itQ (t, s2)) (some (cp, rest))) = True := fun n => by have := cl2 n; rwa [List.flatMap_append, List.flatMap_singleton] at this
      have hql : (qs ++ [(t, s2)]).length = qs.length + 1 := by simp
      have hcA : ((at' + k : Nat) : Int) = (at' : Int) + (k : Int) := by push_cast; rfl
      refine ⟨(some (cp, rest), qs ++ [(t, s2)], at' + k, fuel', B2), ⟨by simp only [hql]; exact hl2', hB1.trans hB2, hok', by simp only; omega, by simp only; omega, by simp only [hql]; omega, by simp only; omega, by simp only; rw [List.map_append, ← List.drop_drop]; exact hkk⟩, (pack_sub [6] 3 (by simp) (by simp) (by simp) (by simp)).trans ?_, by simp only; omega⟩
      simp only [go_sem, okC, okE, okCs, pkO_some, pkO_lO (ks := [6]) (k := 3) hl2' (itsE_closed 0 (qs ++ [(t, s2)])) z3_closed, pkO_none, hql, lE_some]
      exact Weak.sub (weak_of (by simp [wσ, go_sem, closed, closeds, lE_closed, cl3, lE_some, hcA] <;> omega) (by simp [whs, Go.Ew.hget, go_sem, EObj.closed, closed, closeds, lE_closed, cl3, lE_some, hcA]) (by simp [*]) rfl rfl (by simp))
     ·rw [if_pos he] at hkk
      rw [← hkk, if_pos (by simpa using he)] at hM
      rw [hM]
      have hei : ((e : Nat) : Int) ≠ 0 := by omega
      repeat' (first | simp (maxSteps := 4000000) (disch := omega) only [go_sem, ↓reduceIte] | ((first | refine condS_split (fun h => ?_) (fun h => ?_) | refine testS_split (fun h => ?_) (fun h => ?_) | refine testT_split (fun h => ?_) (fun h => ?_)) <;> (try simp only [bne_iff_ne, ne_eq, beq_iff_eq, decide_eq_true_eq, decide_eq_false_iff_not, Bool.not_eq_true, Bool.not_eq_false, Bool.not_true, Bool.not_false, bne_eq_false_iff_eq, beq_eq_false_iff_ne, Bool.and_eq_true, Bool.or_eq_true, Bool.and_eq_false_imp, Bool.or_eq_false_iff, Bool.not_eq_true', Bool.not_eq_false', Int.not_lt, Int.not_le] at h) <;> (try (exfalso; omega))))
      first | exact ⟨hB1.trans hB2, ⟨none, 0, none, 0⟩, rfl, by simp [closed, closeds], zI_at _⟩ | exact ⟨⟨none, 0, none, 0⟩, rfl, by simp [closed, closeds], zI_at _⟩ | exact ⟨hB1.trans hB2, ⟨none, 0, none, 0⟩, by simp [closed, closeds], zI_at _⟩ | exact ⟨⟨none, 0, none, 0⟩, by simp [closed, closeds], zI_at _⟩ | exact ⟨hB1.trans hB2, ⟨none, 0, none, 0⟩, by simp [closed, closeds, bytes_any]⟩ | exact ⟨⟨none, 0, none, 0⟩, by simp [closed, closeds, bytes_any]⟩
    ·have cA : decide ((at' : Int) < (to : Int)) = false := decide_eq_false (by omega)
     have hp0 : (b.take to).drop at' = [] := List.length_eq_zero_iff.1 (by omega)
     rw [hp0, kidsL_nil] at hkk
     refine freezeL (xs := qs.flatMap itQ) (T := 79) 3 qs.length rfl hl (by rw [itsE_len]; rfl) (itsE_closed 0 qs) z3_closed (by simp) (fun b2 kA kc B3 hB3 hf2' hD hso hcell => ?_)
     change BExt B1 B3 at hB3
     have hC : CellsAt B3 kA (qs.flatMap itC) := cellsAt_frz hD hso (fun h0 => by
      rw [List.length_eq_zero_iff.1 h0]; rfl) hcell (reals_itQ _ _)
     rw [← hkk, if_neg (by simp)] at hM
     simp only [frzσ, frz, frzs, hf2', frzh_cons, frzh_nil, Nat.reduceEqDiff, if_false, if_true, ↓reduceIte, fzO_some, EObj.frz]
     rw [hM]
     refine next_of 1000 ?_
     repeat' (first | with_reducible refine And.intro (by omega) ?_ | simp (maxSteps := 4000000) (disch := omega) only [go_sem, ↓reduceIte, cA] | with_reducible refine drawT_of (id := 17) [0, 1, 2, 3, 4, 5] mixed (by kernel_rfl) (by simp) (fun hin => dt_of 1000 hin ?_) | with_reducible refine endT_of (by kernel_rfl) (nmT_of (by kernel_rfl)) (next_of 1000 ?_) | with_reducible refine next_of 1000 ?_)
     have hfin : ItAt B3 (.mk 1 [] (qs.map Prod.fst)) ⟨none, 0, kA, kc⟩ := .mk 1 [] qs _ (bytes_any _) (by simp) hC (by omega) (fun q hq => (hqs q hq).ext hB3)
     have hBX := hB1.trans hB3
     subst hls1
     refine ⟨hBX, ⟨none, 0, kA, kc⟩, ?_, by simp [closed, closeds], hfin⟩
     simp [Itm.list, Itm.bytes, Itm.kids]
  ·rw [if_pos h1] at hM
   rw [hM]
   obtain ⟨e, he⟩ : ∃ e, e = (headM b).2 := ⟨_, rfl⟩
   rw [← he] at hhd h1 herr ⊢
   have hei : ((e : Nat) : Int) ≠ 0 := by omega
   repeat' (first | simp (maxSteps := 4000000) (disch := omega) only [go_sem, ↓reduceIte, Try.f73] | refine callS_fp (hhd) (by simp [closed, closeds, closeds_ints, closed_wE]) (next_of 1000 ?_) | ((first | refine condS_split (fun h => ?_) (fun h => ?_) | refine testS_split (fun h => ?_) (fun h => ?_) | refine testT_split (fun h => ?_) (fun h => ?_)) <;> (try simp only [bne_iff_ne, ne_eq, beq_iff_eq, decide_eq_true_eq, decide_eq_false_iff_not, Bool.not_eq_true, Bool.not_eq_false, Bool.not_true, Bool.not_false, bne_eq_false_iff_eq, beq_eq_false_iff_ne, Bool.and_eq_true, Bool.or_eq_true, Bool.and_eq_false_imp, Bool.or_eq_false_iff, Bool.not_eq_true', Bool.not_eq_false', Int.not_lt, Int.not_le] at h) <;> (try (exfalso; omega))))
   first | exact ⟨BExt.refl _, ⟨none, 0, none, 0⟩, rfl, by simp [closed, closeds], zI_at _⟩ | exact ⟨⟨none, 0, none, 0⟩, rfl, by simp [closed, closeds], zI_at _⟩ | exact ⟨BExt.refl _, ⟨none, 0, none, 0⟩, by simp [closed, closeds], zI_at _⟩ | exact ⟨⟨none, 0, none, 0⟩, by simp [closed, closeds], zI_at _⟩ | exact ⟨BExt.refl _, ⟨none, 0, none, 0⟩, by simp [closed, closeds, bytes_any]⟩ | exact ⟨⟨none, 0, none, 0⟩, by simp [closed, closeds, bytes_any]⟩
end Go.Proofs.Ytepabkjfnpaijaa
