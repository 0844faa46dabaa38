/- Part of a proof over the seat Ytepabkjfnpaijaa. -/
import Derived.Test.YtepabkjfnpaijaaKS
namespace Go.Proofs.Ytepabkjfnpaijaa
open Go RowKit Go.Ew
set_option maxRecDepth 100000
set_option linter.unusedSimpArgs false
set_option linter.unusedVariables false
set_option maxHeartbeats 4000000
theorem in61 : codeIn Try.f61.ntmps (Try.f61.body.getD .skip) = true := by kernel_rfl
theorem in35 : codeIn Try.f35.ntmps (Try.f35.body.getD .skip) = true := by kernel_rfl
def z3 : List EV := [.int .i64 0, .raw (.slice none 0 0), .raw (.slice none 0 0)]
theorem z3_closed : closeds 0 z3 := by simp [z3, closeds, closed]
theorem Does_ext {S : Type} {P : Program} {f : FuncId} {args : List EV} {B B' : Base} {vf : S → EV} {R : S → Base → Prop} (h : Does P f args B vf R) (e : BExt B B') : Does P f args B' vf R := ⟨h.en, h.cl, fun B0 hB => h.run B0 (e.trans hB)⟩
theorem twinI_fn {B : Base} {t : Itm} {s : Plc} (h : ItAt B t s) : Does Try.prog 61 [.agg (itE t s)] B (fun s : Plc => .agg (itE t s)) (fun s B' => ItAt B' t s) := by
  induction h with
  | mk l b qs s hb hbl hc hql hk ih =>
  have e1 : (Itm.mk l b (qs.map Prod.fst)).list = l := rfl
  have e2 : (Itm.mk l b (qs.map Prod.fst)).bytes = b := rfl
  have e3 : (Itm.mk l b (qs.map Prod.fst)).kids.length = qs.length := List.length_map _
  simp only [itE, e1, e2, e3]
  refine fn_of en61 (fun s B B' hB hR => hR.ext hB) Try.func61 rfl in61 (by simp [Try.f61]) (by simp [closeds, closed]) (fun B0 hB0 => next_of 1000 ?_)
  replace hb := hb.ext hB0
  replace hc := hc.ext hB0
  replace ih := fun q hq => Does_ext (ih q hq) hB0
  repeat' (first | with_reducible refine And.intro (by first | omega | assumption | (constructor <;> assumption) | (simp; done) | (simp; omega) | (simp [*]; done) | ((repeat' refine And.intro ?_ ?_) <;> first | omega | assumption | (refine SlOk.so (n := ?_) ?_ ?_; rotate_left; assumption; omega) | (simp; done) | fail) | fail) ?_ | simp (maxSteps := 4000000) (disch := omega) only [go_sem, Nat.reduceBEq, Nat.reduceAdd, Nat.reduceMul, Nat.reduceSub, Nat.reduceLT, Nat.reduceLeDiff, Int.reduceToNat, Int.reduceLT, Int.reduceLE, Int.reduceAdd, Int.reduceMul, Int.reduceSub, Int.reduceNeg, Int.reduceDiv, Int.reduceMod, Nat.reduceBNe, Nat.reduceGT, Int.reduceBEq, Int.reduceBNe, Int.reduceGT, Nat.reduceDiv, Nat.reduceMod, Nat.reducePow, Int.reducePow, gt_iff_lt, ge_iff_le, List.reduceReplicate, ↓reduceIte, Try.f61] | with_reducible refine drawT_of (id := 1) [0, 1, 2, 3, 6, 4, 5, 7] mixed (by kernel_rfl) (by simp) (fun hin => dt_of 1000 hin ?_))
  refine callT_f (clone_fn b b.length _ _ _ hb rfl hbl) (fun _ => by simp [closed]) (by kernel_rfl) (ck_of (by kernel_rfl) (nmT_of (by kernel_rfl))) (fun hin2 s1 B1 hB1 hR1 => dt_of 1000 hin2 ?_)
  change BExt B0 B1 at hB1
  repeat' (first | with_reducible refine And.intro (by first | omega | assumption | (constructor <;> assumption) | (simp; done) | (simp; omega) | (simp [*]; done) | ((repeat' refine And.intro ?_ ?_) <;> first | omega | assumption | (refine SlOk.so (n := ?_) ?_ ?_; rotate_left; assumption; omega) | (simp; done) | fail) | fail) ?_ | simp (maxSteps := 4000000) (disch := omega) only [go_sem, Nat.reduceBEq, Nat.reduceAdd, Nat.reduceMul, Nat.reduceSub, Nat.reduceLT, Nat.reduceLeDiff, Int.reduceToNat, Int.reduceLT, Int.reduceLE, Int.reduceAdd, Int.reduceMul, Int.reduceSub, Int.reduceNeg, Int.reduceDiv, Int.reduceMod, Nat.reduceBNe, Nat.reduceGT, Int.reduceBEq, Int.reduceBNe, Int.reduceGT, Nat.reduceDiv, Nat.reduceMod, Nat.reducePow, Int.reducePow, gt_iff_lt, ge_iff_le, List.reduceReplicate, ↓reduceIte] | with_reducible refine endT_of (by kernel_rfl) (nmT_of (by kernel_rfl)) (next_of 1000 ?_))
  refine packS [100003] 2 (by simp) (by simp) (by simp) (by simp) (next_of 1000 ?_)
  repeat' (simp (maxSteps := 4000000) (disch := omega) only [go_sem, Nat.reduceBEq, Nat.reduceAdd, Nat.reduceMul, Nat.reduceSub, Nat.reduceLT, Nat.reduceLeDiff, Int.reduceToNat, Int.reduceLT, Int.reduceLE, Int.reduceAdd, Int.reduceMul, Int.reduceSub, Int.reduceNeg, Int.reduceDiv, Int.reduceMod, Nat.reduceBNe, Nat.reduceGT, Int.reduceBEq, Int.reduceBNe, Int.reduceGT, Nat.reduceDiv, Nat.reduceMod, Nat.reducePow, Int.reducePow, gt_iff_lt, ge_iff_le, List.reduceReplicate, ↓reduceIte, okC, okE, okCs, pkO_some, pkO_none])
  refine loopU (S := Nat × Lst × List (Itm × Plc) × Base) (fun s => s.1 ≤ qs.length ∧ lOk z3 s.1 s.2.1 ∧ BExt B1 s.2.2.2 ∧ (∀ q ∈ s.2.2.1, ItAt s.2.2.2 q.1 q.2) ∧ s.2.2.1.map Prod.fst = (qs.take s.1).map Prod.fst)
    (fun u => ⟨[(15, .int .i64 (u.1 : Nat)), (14, .int .i64 (qs.length : Nat)), (13, .raw (.slice s.kA qs.length s.kc)), (3, .ptr 2 0), (2, .ptr 1 0)], 4, [(3, lO 79 (u.2.2.1.flatMap itQ) u.2.1), (2, some (.cells [.int .i64 l, .raw (.slice s1.1 b.length s1.2), lE 3 u.1 u.2.1] 79 (0, 0))), (1, some (.cells [.int .i64 0, .raw (.slice none 0 0), .raw (.slice none 0 0)] 79 (0, 0)))], u.2.2.2, []⟩)
    (fun u => qs.length - u.1) (0, none, [], B1) ⟨Nat.zero_le _, rfl, BExt.refl _, by simp, rfl⟩ (Weak.sub (weak_of (by simp [wσ, go_sem, closed, closeds, lE_closed, lE, lO, clO] <;> omega) (by simp [whs, Go.Ew.hget, go_sem, EObj.closed, closed, closeds, lE_closed, lE, lO, clO]) (by simp [*]) rfl rfl (by simp))) ?_
  rintro ⟨i, l', qs', B2⟩ ⟨hi, hl, hB2, hok, hbd⟩
  simp only at hi hl hB2 hok hbd ⊢
  replace hc := hc.ext (hB1.trans hB2)
  replace ih := fun q hq => Does_ext (ih q hq) (hB1.trans hB2)
  have hLl : qs'.length = i := by have := congrArg List.length hbd; simp at this; omega
  rcases Nat.lt_or_ge i qs.length with hi2 | hi2
  · refine next_of 1000 ?_
    simp (maxSteps := 4000000) (disch := omega) only [go_sem, Nat.reduceBEq, Nat.reduceAdd, Nat.reduceMul, Nat.reduceSub, Nat.reduceLT, Nat.reduceLeDiff, Int.reduceToNat, Int.reduceLT, Int.reduceLE, Int.reduceAdd, Int.reduceMul, Int.reduceSub, Int.reduceNeg, Int.reduceDiv, Int.reduceMod, Nat.reduceBNe, Nat.reduceGT, Int.reduceBEq, Int.reduceBNe, Int.reduceGT, Nat.reduceDiv, Nat.reduceMod, Nat.reducePow, Int.reducePow, gt_iff_lt, ge_iff_le, List.reduceReplicate, ↓reduceIte]
    repeat (with_reducible refine And.intro (by first | omega | assumption | (constructor <;> assumption) | (simp; done) | (simp; omega) | (simp [*]; done) | ((repeat' refine And.intro ?_ ?_) <;> first | omega | assumption | (refine SlOk.so (n := ?_) ?_ ?_; rotate_left; assumption; omega) | (simp; done) | fail) | fail) ?_)
    refine condS_split (fun h2 => ?_) (fun h2 => by simp at h2; omega)
    obtain ⟨l1, l2, l3, l4⟩ := kid_ld hc hi2
    have hq := ih _ (List.getElem_mem hi2)
    have hqm := List.getElem_mem hi2
    obtain ⟨q, hq0⟩ : ∃ q, q = qs[i] := ⟨_, rfl⟩
    rw [← hq0] at l1 hq hqm
    rcases l' with _ | ⟨cp0, rest0⟩
    · have hi0 : i = 0 := hl
      simp only [show ∀ r n, lE r n none = .raw (.slice none 0 0) from fun _ _ => rfl, show ∀ T xs, lO T xs none = none from fun _ _ => rfl]
      repeat' (first | with_reducible refine And.intro (by first | omega | assumption | (constructor <;> assumption) | (simp; done) | (simp; omega) | (simp [*]; done) | ((repeat' refine And.intro ?_ ?_) <;> first | omega | assumption | (refine SlOk.so (n := ?_) ?_ ?_; rotate_left; assumption; omega) | (simp; done) | fail) | fail) ?_ | simp (maxSteps := 4000000) (disch := omega) only [go_sem, Nat.reduceBEq, Nat.reduceAdd, Nat.reduceMul, Nat.reduceSub, Nat.reduceLT, Nat.reduceLeDiff, Int.reduceToNat, Int.reduceLT, Int.reduceLE, Int.reduceAdd, Int.reduceMul, Int.reduceSub, Int.reduceNeg, Int.reduceDiv, Int.reduceMod, Nat.reduceBNe, Nat.reduceGT, Int.reduceBEq, Int.reduceBNe, Int.reduceGT, Nat.reduceDiv, Nat.reduceMod, Nat.reducePow, Int.reducePow, gt_iff_lt, ge_iff_le, List.reduceReplicate, ↓reduceIte, Int.toNat_natCast, l1] | with_reducible refine drawT_of (id := 5) [0, 1, 2, 3, 4, 5, 6, 7] mixed (by kernel_rfl) (by simp) (fun hin => dt_of 1000 hin ?_))
      refine callT_f hq (fun _ => by simp [closed, closeds]) (by kernel_rfl) (ck_of (by kernel_rfl) (nmT_of (by kernel_rfl))) (fun hin2 s2 B3 hB3 hR3 => dt_of 1000 hin2 ?_)
      change BExt B2 B3 at hB3
      repeat' (first | with_reducible refine And.intro (by first | omega | assumption | (constructor <;> assumption) | (simp; done) | (simp; omega) | (simp [*]; done) | ((repeat' refine And.intro ?_ ?_) <;> first | omega | assumption | (refine SlOk.so (n := ?_) ?_ ?_; rotate_left; assumption; omega) | (simp; done) | fail) | fail) ?_ | simp (maxSteps := 4000000) (disch := omega) only [go_sem, Nat.reduceBEq, Nat.reduceAdd, Nat.reduceMul, Nat.reduceSub, Nat.reduceLT, Nat.reduceLeDiff, Int.reduceToNat, Int.reduceLT, Int.reduceLE, Int.reduceAdd, Int.reduceMul, Int.reduceSub, Int.reduceNeg, Int.reduceDiv, Int.reduceMod, Nat.reduceBNe, Nat.reduceGT, Int.reduceBEq, Int.reduceBNe, Int.reduceGT, Nat.reduceDiv, Nat.reduceMod, Nat.reducePow, Int.reducePow, gt_iff_lt, ge_iff_le, List.reduceReplicate, ↓reduceIte])
      refine appT (c := True) (zs := z3) (xs := qs'.flatMap itQ) (m := 1) (news := itE q.1 s2) (T := 79) (l := none) 24 3 i [100023] rfl rfl Try.underlying77 (.inl ⟨_, Try.underlying77⟩) zr79 cz79 (by simp [z3]) z3_closed rfl rfl rfl hl (by rw [itsE_len, hLl]; rfl) (itsE_closed 0 _) (fun B hs hB hfb => ⟨_, src_own (by rw [hfb 100023 (by simp)]; rfl) rfl, by simp [z3]⟩) rfl (by simp [closeds, closed]) (by simp only [maxLen]; omega) (by rw [show Try.prog.bytesOf 79 = 56 from by79]; omega) (by simp) (by kernel_rfl) (ck_of (by kernel_rfl) (nmT_of (by kernel_rfl))) (fun l2 hl2 => dt_of 1000 (by assumption) ?_)
      have hl2' := hl2
      obtain ⟨cp, rest, rfl, -⟩ := lst_some hl2 (by omega)
      simp only [lE_some]
      repeat' (first | with_reducible refine And.intro (by first | omega | assumption | (constructor <;> assumption) | (simp; done) | (simp; omega) | (simp [*]; done) | ((repeat' refine And.intro ?_ ?_) <;> first | omega | assumption | (refine SlOk.so (n := ?_) ?_ ?_; rotate_left; assumption; omega) | (simp; done) | fail) | fail) ?_ | simp (maxSteps := 4000000) (disch := omega) only [go_sem, Nat.reduceBEq, Nat.reduceAdd, Nat.reduceMul, Nat.reduceSub, Nat.reduceLT, Nat.reduceLeDiff, Int.reduceToNat, Int.reduceLT, Int.reduceLE, Int.reduceAdd, Int.reduceMul, Int.reduceSub, Int.reduceNeg, Int.reduceDiv, Int.reduceMod, Nat.reduceBNe, Nat.reduceGT, Int.reduceBEq, Int.reduceBNe, Int.reduceGT, Nat.reduceDiv, Nat.reduceMod, Nat.reducePow, Int.reducePow, gt_iff_lt, ge_iff_le, List.reduceReplicate, ↓reduceIte])
      refine endT_of (by kernel_rfl) (nmT_of (by kernel_rfl)) ?_
      refine packS [100024] 3 (by simp) (by simp) (by simp) (by simp) (next_of 1000 ?_)
      have hev : qs'.flatMap itQ ++ [EV.int IntKind.i64 q.1.list, EV.raw (Value.slice s2.bA q.1.bytes.length s2.bc), EV.raw (Value.slice s2.kA q.1.kids.length s2.kc)] = (qs' ++ [(q.1, s2)]).flatMap itQ := by
        rw [List.flatMap_append, List.flatMap_singleton]; rfl
      repeat' (simp (maxSteps := 4000000) (disch := omega) only [go_sem, Nat.reduceBEq, Nat.reduceAdd, Nat.reduceMul, Nat.reduceSub, Nat.reduceLT, Nat.reduceLeDiff, Int.reduceToNat, Int.reduceLT, Int.reduceLE, Int.reduceAdd, Int.reduceMul, Int.reduceSub, Int.reduceNeg, Int.reduceDiv, Int.reduceMod, Nat.reduceBNe, Nat.reduceGT, Int.reduceBEq, Int.reduceBNe, Int.reduceGT, Nat.reduceDiv, Nat.reduceMod, Nat.reducePow, Int.reducePow, gt_iff_lt, ge_iff_le, List.reduceReplicate, ↓reduceIte, hev, okC, okE, okCs, pkO_some, pkO_lO (ks := [100024]) (k := 3) hl2' (itsE_closed 0 (qs' ++ [(q.1, s2)])) z3_closed, pkO_none])
      have hok' : ∀ a ∈ qs' ++ [(q.1, s2)], ItAt B3 a.1 a.2 := fun a ha => by
        rcases List.mem_append.1 ha with h3 | h3
        · exact (hok a h3).ext hB3
        · obtain rfl := List.mem_singleton.1 h3
          exact hR3
      have hbd' : (qs' ++ [(q.1, s2)]).map Prod.fst = (qs.take (i + 1)).map Prod.fst := by
        rw [List.take_succ_eq_append_getElem hi2, List.map_append, List.map_append, hbd, ← hq0]
        rfl
      have cl2 : ∀ n, clO n (lO 79 ((qs' ++ [(q.1, s2)]).flatMap itQ) (some (cp, rest))) = True := fun n => clO_lO hl2' (itsE_closed 0 _) z3_closed
      have cl3 : ∀ n, clO n (lO 79 (qs'.flatMap itQ ++ itQ (q.1, s2)) (some (cp, rest))) = True := fun n => by have := cl2 n; rwa [List.flatMap_append, List.flatMap_singleton] at this
      exact ⟨(i + 1, some (cp, rest), qs' ++ [(q.1, s2)], B3), ⟨hi2, hl2', hB2.trans hB3, hok', hbd'⟩, Weak.sub (weak_of (by simp [wσ, go_sem, closed, closeds, lE_closed, cl3, lE_some] <;> omega) (by simp [whs, Go.Ew.hget, go_sem, EObj.closed, closed, closeds, lE_closed, cl3, lE_some]) (by simp [*]) rfl rfl (by simp)), by simp only; omega⟩
    · simp only [lE_some]
      repeat' (first | with_reducible refine And.intro (by first | omega | assumption | (constructor <;> assumption) | (simp; done) | (simp; omega) | (simp [*]; done) | ((repeat' refine And.intro ?_ ?_) <;> first | omega | assumption | (refine SlOk.so (n := ?_) ?_ ?_; rotate_left; assumption; omega) | (simp; done) | fail) | fail) ?_ | simp (maxSteps := 4000000) (disch := omega) only [go_sem, Nat.reduceBEq, Nat.reduceAdd, Nat.reduceMul, Nat.reduceSub, Nat.reduceLT, Nat.reduceLeDiff, Int.reduceToNat, Int.reduceLT, Int.reduceLE, Int.reduceAdd, Int.reduceMul, Int.reduceSub, Int.reduceNeg, Int.reduceDiv, Int.reduceMod, Nat.reduceBNe, Nat.reduceGT, Int.reduceBEq, Int.reduceBNe, Int.reduceGT, Nat.reduceDiv, Nat.reduceMod, Nat.reducePow, Int.reducePow, gt_iff_lt, ge_iff_le, List.reduceReplicate, ↓reduceIte, Int.toNat_natCast, l1] | with_reducible refine drawT_of (id := 5) [0, 1, 2, 3, 4, 5, 6, 7] mixed (by kernel_rfl) (by simp) (fun hin => dt_of 1000 hin ?_))
      refine callT_f hq (fun _ => by simp [closed, closeds]) (by kernel_rfl) (ck_of (by kernel_rfl) (nmT_of (by kernel_rfl))) (fun hin2 s2 B3 hB3 hR3 => dt_of 1000 hin2 ?_)
      change BExt B2 B3 at hB3
      repeat' (first | with_reducible refine And.intro (by first | omega | assumption | (constructor <;> assumption) | (simp; done) | (simp; omega) | (simp [*]; done) | ((repeat' refine And.intro ?_ ?_) <;> first | omega | assumption | (refine SlOk.so (n := ?_) ?_ ?_; rotate_left; assumption; omega) | (simp; done) | fail) | fail) ?_ | simp (maxSteps := 4000000) (disch := omega) only [go_sem, Nat.reduceBEq, Nat.reduceAdd, Nat.reduceMul, Nat.reduceSub, Nat.reduceLT, Nat.reduceLeDiff, Int.reduceToNat, Int.reduceLT, Int.reduceLE, Int.reduceAdd, Int.reduceMul, Int.reduceSub, Int.reduceNeg, Int.reduceDiv, Int.reduceMod, Nat.reduceBNe, Nat.reduceGT, Int.reduceBEq, Int.reduceBNe, Int.reduceGT, Nat.reduceDiv, Nat.reduceMod, Nat.reducePow, Int.reducePow, gt_iff_lt, ge_iff_le, List.reduceReplicate, ↓reduceIte])
      refine appT (c := True) (zs := z3) (xs := qs'.flatMap itQ) (m := 1) (news := itE q.1 s2) (T := 79) (l := some (cp0, rest0)) 24 3 i [100023] rfl rfl Try.underlying77 (.inl ⟨_, Try.underlying77⟩) zr79 cz79 (by simp [z3]) z3_closed rfl rfl rfl hl (by rw [itsE_len, hLl]; rfl) (itsE_closed 0 _) (fun B hs hB hfb => ⟨_, src_own (by rw [hfb 100023 (by simp)]; rfl) rfl, by simp [z3]⟩) rfl (by simp [closeds, closed]) (by simp only [maxLen]; omega) (by rw [show Try.prog.bytesOf 79 = 56 from by79]; omega) (by simp) (by kernel_rfl) (ck_of (by kernel_rfl) (nmT_of (by kernel_rfl))) (fun l2 hl2 => dt_of 1000 (by assumption) ?_)
      have hl2' := hl2
      obtain ⟨cp, rest, rfl, -⟩ := lst_some hl2 (by omega)
      simp only [lE_some]
      repeat' (first | with_reducible refine And.intro (by first | omega | assumption | (constructor <;> assumption) | (simp; done) | (simp; omega) | (simp [*]; done) | ((repeat' refine And.intro ?_ ?_) <;> first | omega | assumption | (refine SlOk.so (n := ?_) ?_ ?_; rotate_left; assumption; omega) | (simp; done) | fail) | fail) ?_ | simp (maxSteps := 4000000) (disch := omega) only [go_sem, Nat.reduceBEq, Nat.reduceAdd, Nat.reduceMul, Nat.reduceSub, Nat.reduceLT, Nat.reduceLeDiff, Int.reduceToNat, Int.reduceLT, Int.reduceLE, Int.reduceAdd, Int.reduceMul, Int.reduceSub, Int.reduceNeg, Int.reduceDiv, Int.reduceMod, Nat.reduceBNe, Nat.reduceGT, Int.reduceBEq, Int.reduceBNe, Int.reduceGT, Nat.reduceDiv, Nat.reduceMod, Nat.reducePow, Int.reducePow, gt_iff_lt, ge_iff_le, List.reduceReplicate, ↓reduceIte])
      refine endT_of (by kernel_rfl) (nmT_of (by kernel_rfl)) ?_
      refine packS [100024] 3 (by simp) (by simp) (by simp) (by simp) (next_of 1000 ?_)
      have hev : qs'.flatMap itQ ++ [EV.int IntKind.i64 q.1.list, EV.raw (Value.slice s2.bA q.1.bytes.length s2.bc), EV.raw (Value.slice s2.kA q.1.kids.length s2.kc)] = (qs' ++ [(q.1, s2)]).flatMap itQ := by
        rw [List.flatMap_append, List.flatMap_singleton]; rfl
      repeat' (simp (maxSteps := 4000000) (disch := omega) only [go_sem, Nat.reduceBEq, Nat.reduceAdd, Nat.reduceMul, Nat.reduceSub, Nat.reduceLT, Nat.reduceLeDiff, Int.reduceToNat, Int.reduceLT, Int.reduceLE, Int.reduceAdd, Int.reduceMul, Int.reduceSub, Int.reduceNeg, Int.reduceDiv, Int.reduceMod, Nat.reduceBNe, Nat.reduceGT, Int.reduceBEq, Int.reduceBNe, Int.reduceGT, Nat.reduceDiv, Nat.reduceMod, Nat.reducePow, Int.reducePow, gt_iff_lt, ge_iff_le, List.reduceReplicate, ↓reduceIte, hev, okC, okE, okCs, pkO_some, pkO_lO (ks := [100024]) (k := 3) hl2' (itsE_closed 0 (qs' ++ [(q.1, s2)])) z3_closed, pkO_none])
      have hok' : ∀ a ∈ qs' ++ [(q.1, s2)], ItAt B3 a.1 a.2 := fun a ha => by
        rcases List.mem_append.1 ha with h3 | h3
        · exact (hok a h3).ext hB3
        · obtain rfl := List.mem_singleton.1 h3
          exact hR3
      have hbd' : (qs' ++ [(q.1, s2)]).map Prod.fst = (qs.take (i + 1)).map Prod.fst := by
        rw [List.take_succ_eq_append_getElem hi2, List.map_append, List.map_append, hbd, ← hq0]
        rfl
      have cl2 : ∀ n, clO n (lO 79 ((qs' ++ [(q.1, s2)]).flatMap itQ) (some (cp, rest))) = True := fun n => clO_lO hl2' (itsE_closed 0 _) z3_closed
      have cl3 : ∀ n, clO n (lO 79 (qs'.flatMap itQ ++ itQ (q.1, s2)) (some (cp, rest))) = True := fun n => by have := cl2 n; rwa [List.flatMap_append, List.flatMap_singleton] at this
      exact ⟨(i + 1, some (cp, rest), qs' ++ [(q.1, s2)], B3), ⟨hi2, hl2', hB2.trans hB3, hok', hbd'⟩, Weak.sub (weak_of (by simp [wσ, go_sem, closed, closeds, lE_closed, cl3, lE_some] <;> omega) (by simp [whs, Go.Ew.hget, go_sem, EObj.closed, closed, closeds, lE_closed, cl3, lE_some]) (by simp [*]) rfl rfl (by simp)), by simp only; omega⟩
  · obtain rfl : i = qs.length := by omega
    refine freezeL (xs := qs'.flatMap itQ) (T := 79) 3 qs.length rfl hl (by rw [itsE_len, hLl]; rfl) (itsE_closed 0 _) z3_closed (by simp) (fun b2 ad2 cap2 B3 hB3 hf hD hso hcell => next_of 1000 ?_)
    change BExt B2 B3 at hB3
    have hC : CellsAt B3 ad2 (qs'.flatMap itC) := cellsAt_frz hD hso (fun h0 => by
      rw [h0] at hLl; rw [List.length_eq_zero_iff.1 hLl]; rfl) hcell (reals_itQ _ _)
    have hbt : qs'.map Prod.fst = qs.map Prod.fst := by rw [hbd, List.take_length]
    simp (maxSteps := 4000000) (disch := omega) only [go_sem, Nat.reduceBEq, Nat.reduceAdd, Nat.reduceMul, Nat.reduceSub, Nat.reduceLT, Nat.reduceLeDiff, Int.reduceToNat, Int.reduceLT, Int.reduceLE, Int.reduceAdd, Int.reduceMul, Int.reduceSub, Int.reduceNeg, Int.reduceDiv, Int.reduceMod, Nat.reduceBNe, Nat.reduceGT, Int.reduceBEq, Int.reduceBNe, Int.reduceGT, Nat.reduceDiv, Nat.reduceMod, Nat.reducePow, Int.reducePow, gt_iff_lt, ge_iff_le, List.reduceReplicate, ↓reduceIte, hf]
    repeat (with_reducible refine And.intro (by first | omega | assumption | (constructor <;> assumption) | (simp; done) | (simp; omega) | (simp [*]; done) | ((repeat' refine And.intro ?_ ?_) <;> first | omega | assumption | (refine SlOk.so (n := ?_) ?_ ?_; rotate_left; assumption; omega) | (simp; done) | fail) | fail) ?_)
    refine condS_split (fun h2 => by simp at h2) (fun h2 => ?_)
    repeat' (first | simp (maxSteps := 4000000) (disch := omega) only [go_sem, Nat.reduceBEq, Nat.reduceAdd, Nat.reduceMul, Nat.reduceSub, Nat.reduceLT, Nat.reduceLeDiff, Int.reduceToNat, Int.reduceLT, Int.reduceLE, Int.reduceAdd, Int.reduceMul, Int.reduceSub, Int.reduceNeg, Int.reduceDiv, Int.reduceMod, Nat.reduceBNe, Nat.reduceGT, Int.reduceBEq, Int.reduceBNe, Int.reduceGT, Nat.reduceDiv, Nat.reduceMod, Nat.reducePow, Int.reducePow, gt_iff_lt, ge_iff_le, List.reduceReplicate, ↓reduceIte, hf, bne_self_eq_false, beq_self_eq_true] | with_reducible refine next_of 1000 ?_)
    refine ⟨hB1.trans (hB2.trans hB3), ⟨s1.1, s1.2, ad2, cap2⟩, rfl, by simp [closed, closeds], ?_⟩
    rw [← hbt]
    exact .mk l b qs' _ (hR1.1.ext (hB2.trans hB3)) hbl hC (by omega) (fun q hq => (hok q hq).ext hB3)
theorem list_fn (qs : List (Itm × Plc)) (n : Nat) (B : Base) (ad : Option Addr) (cap : Nat) (hc : CellsAt B ad (qs.flatMap itC)) (hql : qs.length ≤ 1099511627776) (hk : ∀ q ∈ qs, ItAt B q.1 q.2) (hn : qs.length = n) :
    Does Try.prog 35 [.raw (.slice ad n cap)] B (fun s : Plc => .agg (itE (.mk 1 [] (qs.map Prod.fst)) s)) (fun s B' => ItAt B' (.mk 1 [] (qs.map Prod.fst)) s) := by
  subst hn
  have e1 : (Itm.mk 1 [] (qs.map Prod.fst)).list = 1 := rfl
  have e2 : (Itm.mk 1 [] (qs.map Prod.fst)).bytes = [] := rfl
  have e3 : (Itm.mk 1 [] (qs.map Prod.fst)).kids.length = qs.length := List.length_map _
  simp only [itE, e1, e2, e3, List.length_nil]
  refine fn_of en35 (fun s B B' hB hR => hR.ext hB) Try.func35 rfl in35 (by simp [Try.f35]) (by simp [closeds, closed]) (fun B0 hB0 => next_of 1000 ?_)
  replace hc := hc.ext hB0
  have ih : ∀ q ∈ qs, Does Try.prog 61 [.agg (itE q.1 q.2)] B0 (fun s : Plc => .agg (itE q.1 s)) (fun s B' => ItAt B' q.1 s) := fun q hq => Does_ext (twinI_fn (hk q hq)) hB0
  repeat' (simp (maxSteps := 4000000) (disch := omega) only [go_sem, Nat.reduceBEq, Nat.reduceAdd, Nat.reduceMul, Nat.reduceSub, Nat.reduceLT, Nat.reduceLeDiff, Int.reduceToNat, Int.reduceLT, Int.reduceLE, Int.reduceAdd, Int.reduceMul, Int.reduceSub, Int.reduceNeg, Int.reduceDiv, Int.reduceMod, Nat.reduceBNe, Nat.reduceGT, Int.reduceBEq, Int.reduceBNe, Int.reduceGT, Nat.reduceDiv, Nat.reduceMod, Nat.reducePow, Int.reducePow, gt_iff_lt, ge_iff_le, List.reduceReplicate, ↓reduceIte, Try.f35])
  refine loopU (S := Nat × Lst × List (Itm × Plc) × Base) (fun s => s.1 ≤ qs.length ∧ lOk z3 s.1 s.2.1 ∧ BExt B0 s.2.2.2 ∧ (∀ q ∈ s.2.2.1, ItAt s.2.2.2 q.1 q.2) ∧ s.2.2.1.map Prod.fst = (qs.take s.1).map Prod.fst)
    (fun u => ⟨[(9, .int .i64 (u.1 : Nat)), (8, .int .i64 (qs.length : Nat)), (7, .raw (.slice ad qs.length cap)), (3, .ptr 1 0), (2, .ptr 0 0)], 3, [(2, lO 79 (u.2.2.1.flatMap itQ) u.2.1), (1, some (.cells [.int .i64 1, .raw (.slice none 0 0), lE 2 u.1 u.2.1] 79 (0, 0))), (0, some (.cells [.int .i64 0, .raw (.slice none 0 0), .raw (.slice none 0 0)] 79 (0, 0)))], u.2.2.2, []⟩)
    (fun u => qs.length - u.1) (0, none, [], B0) ⟨Nat.zero_le _, rfl, BExt.refl _, by simp, rfl⟩ (Weak.sub (weak_of (by simp [wσ, go_sem, closed, closeds, lE_closed, lE, lO, clO] <;> omega) (by simp [whs, Go.Ew.hget, go_sem, EObj.closed, closed, closeds, lE_closed, lE, lO, clO]) (by simp [*]) rfl rfl (by simp))) ?_
  rintro ⟨i, l', qs', B2⟩ ⟨hi, hl, hB2, hok, hbd⟩
  simp only at hi hl hB2 hok hbd ⊢
  replace hc := hc.ext hB2
  replace ih := fun q hq => Does_ext (ih q hq) hB2
  have hLl : qs'.length = i := by have := congrArg List.length hbd; simp at this; omega
  rcases Nat.lt_or_ge i qs.length with hi2 | hi2
  · refine next_of 1000 ?_
    simp (maxSteps := 4000000) (disch := omega) only [go_sem, Nat.reduceBEq, Nat.reduceAdd, Nat.reduceMul, Nat.reduceSub, Nat.reduceLT, Nat.reduceLeDiff, Int.reduceToNat, Int.reduceLT, Int.reduceLE, Int.reduceAdd, Int.reduceMul, Int.reduceSub, Int.reduceNeg, Int.reduceDiv, Int.reduceMod, Nat.reduceBNe, Nat.reduceGT, Int.reduceBEq, Int.reduceBNe, Int.reduceGT, Nat.reduceDiv, Nat.reduceMod, Nat.reducePow, Int.reducePow, gt_iff_lt, ge_iff_le, List.reduceReplicate, ↓reduceIte]
    repeat (with_reducible refine And.intro (by first | omega | assumption | (constructor <;> assumption) | (simp; done) | (simp; omega) | (simp [*]; done) | ((repeat' refine And.intro ?_ ?_) <;> first | omega | assumption | (refine SlOk.so (n := ?_) ?_ ?_; rotate_left; assumption; omega) | (simp; done) | fail) | fail) ?_)
    refine condS_split (fun h2 => ?_) (fun h2 => by simp at h2; omega)
    obtain ⟨l1, l2, l3, l4⟩ := kid_ld hc hi2
    have hq := ih _ (List.getElem_mem hi2)
    have hqm := List.getElem_mem hi2
    obtain ⟨q, hq0⟩ : ∃ q, q = qs[i] := ⟨_, rfl⟩
    rw [← hq0] at l1 hq hqm
    rcases l' with _ | ⟨cp0, rest0⟩
    · have hi0 : i = 0 := hl
      simp only [show ∀ r n, lE r n none = .raw (.slice none 0 0) from fun _ _ => rfl, show ∀ T xs, lO T xs none = none from fun _ _ => rfl]
      repeat' (first | with_reducible refine And.intro (by first | omega | assumption | (constructor <;> assumption) | (simp; done) | (simp; omega) | (simp [*]; done) | ((repeat' refine And.intro ?_ ?_) <;> first | omega | assumption | (refine SlOk.so (n := ?_) ?_ ?_; rotate_left; assumption; omega) | (simp; done) | fail) | fail) ?_ | simp (maxSteps := 4000000) (disch := omega) only [go_sem, Nat.reduceBEq, Nat.reduceAdd, Nat.reduceMul, Nat.reduceSub, Nat.reduceLT, Nat.reduceLeDiff, Int.reduceToNat, Int.reduceLT, Int.reduceLE, Int.reduceAdd, Int.reduceMul, Int.reduceSub, Int.reduceNeg, Int.reduceDiv, Int.reduceMod, Nat.reduceBNe, Nat.reduceGT, Int.reduceBEq, Int.reduceBNe, Int.reduceGT, Nat.reduceDiv, Nat.reduceMod, Nat.reducePow, Int.reducePow, gt_iff_lt, ge_iff_le, List.reduceReplicate, ↓reduceIte, Int.toNat_natCast, l1] | with_reducible refine drawT_of (id := 5) [0, 1, 2, 3, 4, 5, 6, 7] mixed (by kernel_rfl) (by simp) (fun hin => dt_of 1000 hin ?_))
      refine callT_f hq (fun _ => by simp [closed, closeds]) (by kernel_rfl) (ck_of (by kernel_rfl) (nmT_of (by kernel_rfl))) (fun hin2 s2 B3 hB3 hR3 => dt_of 1000 hin2 ?_)
      change BExt B2 B3 at hB3
      repeat' (first | with_reducible refine And.intro (by first | omega | assumption | (constructor <;> assumption) | (simp; done) | (simp; omega) | (simp [*]; done) | ((repeat' refine And.intro ?_ ?_) <;> first | omega | assumption | (refine SlOk.so (n := ?_) ?_ ?_; rotate_left; assumption; omega) | (simp; done) | fail) | fail) ?_ | simp (maxSteps := 4000000) (disch := omega) only [go_sem, Nat.reduceBEq, Nat.reduceAdd, Nat.reduceMul, Nat.reduceSub, Nat.reduceLT, Nat.reduceLeDiff, Int.reduceToNat, Int.reduceLT, Int.reduceLE, Int.reduceAdd, Int.reduceMul, Int.reduceSub, Int.reduceNeg, Int.reduceDiv, Int.reduceMod, Nat.reduceBNe, Nat.reduceGT, Int.reduceBEq, Int.reduceBNe, Int.reduceGT, Nat.reduceDiv, Nat.reduceMod, Nat.reducePow, Int.reducePow, gt_iff_lt, ge_iff_le, List.reduceReplicate, ↓reduceIte])
      refine appT (c := True) (zs := z3) (xs := qs'.flatMap itQ) (m := 1) (news := itE q.1 s2) (T := 79) (l := none) 18 2 i [100017] rfl rfl Try.underlying77 (.inl ⟨_, Try.underlying77⟩) zr79 cz79 (by simp [z3]) z3_closed rfl rfl rfl hl (by rw [itsE_len, hLl]; rfl) (itsE_closed 0 _) (fun B hs hB hfb => ⟨_, src_own (by rw [hfb 100017 (by simp)]; rfl) rfl, by simp [z3]⟩) rfl (by simp [closeds, closed]) (by simp only [maxLen]; omega) (by rw [show Try.prog.bytesOf 79 = 56 from by79]; omega) (by simp) (by kernel_rfl) (ck_of (by kernel_rfl) (nmT_of (by kernel_rfl))) (fun l2 hl2 => dt_of 1000 (by assumption) ?_)
      have hl2' := hl2
      obtain ⟨cp, rest, rfl, -⟩ := lst_some hl2 (by omega)
      simp only [lE_some]
      repeat' (first | with_reducible refine And.intro (by first | omega | assumption | (constructor <;> assumption) | (simp; done) | (simp; omega) | (simp [*]; done) | ((repeat' refine And.intro ?_ ?_) <;> first | omega | assumption | (refine SlOk.so (n := ?_) ?_ ?_; rotate_left; assumption; omega) | (simp; done) | fail) | fail) ?_ | simp (maxSteps := 4000000) (disch := omega) only [go_sem, Nat.reduceBEq, Nat.reduceAdd, Nat.reduceMul, Nat.reduceSub, Nat.reduceLT, Nat.reduceLeDiff, Int.reduceToNat, Int.reduceLT, Int.reduceLE, Int.reduceAdd, Int.reduceMul, Int.reduceSub, Int.reduceNeg, Int.reduceDiv, Int.reduceMod, Nat.reduceBNe, Nat.reduceGT, Int.reduceBEq, Int.reduceBNe, Int.reduceGT, Nat.reduceDiv, Nat.reduceMod, Nat.reducePow, Int.reducePow, gt_iff_lt, ge_iff_le, List.reduceReplicate, ↓reduceIte])
      refine endT_of (by kernel_rfl) (nmT_of (by kernel_rfl)) ?_
      refine packS [100018] 2 (by simp) (by simp) (by simp) (by simp) (next_of 1000 ?_)
      have hev : qs'.flatMap itQ ++ [EV.int IntKind.i64 q.1.list, EV.raw (Value.slice s2.bA q.1.bytes.length s2.bc), EV.raw (Value.slice s2.kA q.1.kids.length s2.kc)] = (qs' ++ [(q.1, s2)]).flatMap itQ := by
        rw [List.flatMap_append, List.flatMap_singleton]; rfl
      repeat' (simp (maxSteps := 4000000) (disch := omega) only [go_sem, Nat.reduceBEq, Nat.reduceAdd, Nat.reduceMul, Nat.reduceSub, Nat.reduceLT, Nat.reduceLeDiff, Int.reduceToNat, Int.reduceLT, Int.reduceLE, Int.reduceAdd, Int.reduceMul, Int.reduceSub, Int.reduceNeg, Int.reduceDiv, Int.reduceMod, Nat.reduceBNe, Nat.reduceGT, Int.reduceBEq, Int.reduceBNe, Int.reduceGT, Nat.reduceDiv, Nat.reduceMod, Nat.reducePow, Int.reducePow, gt_iff_lt, ge_iff_le, List.reduceReplicate, ↓reduceIte, hev, okC, okE, okCs, pkO_some, pkO_lO (ks := [100018]) (k := 2) hl2' (itsE_closed 0 (qs' ++ [(q.1, s2)])) z3_closed, pkO_none])
      have hok' : ∀ a ∈ qs' ++ [(q.1, s2)], ItAt B3 a.1 a.2 := fun a ha => by
        rcases List.mem_append.1 ha with h3 | h3
        · exact (hok a h3).ext hB3
        · obtain rfl := List.mem_singleton.1 h3
          exact hR3
      have hbd' : (qs' ++ [(q.1, s2)]).map Prod.fst = (qs.take (i + 1)).map Prod.fst := by
        rw [List.take_succ_eq_append_getElem hi2, List.map_append, List.map_append, hbd, ← hq0]
        rfl
      have cl2 : ∀ n, clO n (lO 79 ((qs' ++ [(q.1, s2)]).flatMap itQ) (some (cp, rest))) = True := fun n => clO_lO hl2' (itsE_closed 0 _) z3_closed
      have cl3 : ∀ n, clO n (lO 79 (qs'.flatMap itQ ++ itQ (q.1, s2)) (some (cp, rest))) = True := fun n => by have := cl2 n; rwa [List.flatMap_append, List.flatMap_singleton] at this
      exact ⟨(i + 1, some (cp, rest), qs' ++ [(q.1, s2)], B3), ⟨hi2, hl2', hB2.trans hB3, hok', hbd'⟩, Weak.sub (weak_of (by simp [wσ, go_sem, closed, closeds, lE_closed, cl3, lE_some] <;> omega) (by simp [whs, Go.Ew.hget, go_sem, EObj.closed, closed, closeds, lE_closed, cl3, lE_some]) (by simp [*]) rfl rfl (by simp)), by simp only; omega⟩
    · simp only [lE_some]
      repeat' (first | with_reducible refine And.intro (by first | omega | assumption | (constructor <;> assumption) | (simp; done) | (simp; omega) | (simp [*]; done) | ((repeat' refine And.intro ?_ ?_) <;> first | omega | assumption | (refine SlOk.so (n := ?_) ?_ ?_; rotate_left; assumption; omega) | (simp; done) | fail) | fail) ?_ | simp (maxSteps := 4000000) (disch := omega) only [go_sem, Nat.reduceBEq, Nat.reduceAdd, Nat.reduceMul, Nat.reduceSub, Nat.reduceLT, Nat.reduceLeDiff, Int.reduceToNat, Int.reduceLT, Int.reduceLE, Int.reduceAdd, Int.reduceMul, Int.reduceSub, Int.reduceNeg, Int.reduceDiv, Int.reduceMod, Nat.reduceBNe, Nat.reduceGT, Int.reduceBEq, Int.reduceBNe, Int.reduceGT, Nat.reduceDiv, Nat.reduceMod, Nat.reducePow, Int.reducePow, gt_iff_lt, ge_iff_le, List.reduceReplicate, ↓reduceIte, Int.toNat_natCast, l1] | with_reducible refine drawT_of (id := 5) [0, 1, 2, 3, 4, 5, 6, 7] mixed (by kernel_rfl) (by simp) (fun hin => dt_of 1000 hin ?_))
      refine callT_f hq (fun _ => by simp [closed, closeds]) (by kernel_rfl) (ck_of (by kernel_rfl) (nmT_of (by kernel_rfl))) (fun hin2 s2 B3 hB3 hR3 => dt_of 1000 hin2 ?_)
      change BExt B2 B3 at hB3
      repeat' (first | with_reducible refine And.intro (by first | omega | assumption | (constructor <;> assumption) | (simp; done) | (simp; omega) | (simp [*]; done) | ((repeat' refine And.intro ?_ ?_) <;> first | omega | assumption | (refine SlOk.so (n := ?_) ?_ ?_; rotate_left; assumption; omega) | (simp; done) | fail) | fail) ?_ | simp (maxSteps := 4000000) (disch := omega) only [go_sem, Nat.reduceBEq, Nat.reduceAdd, Nat.reduceMul, Nat.reduceSub, Nat.reduceLT, Nat.reduceLeDiff, Int.reduceToNat, Int.reduceLT, Int.reduceLE, Int.reduceAdd, Int.reduceMul, Int.reduceSub, Int.reduceNeg, Int.reduceDiv, Int.reduceMod, Nat.reduceBNe, Nat.reduceGT, Int.reduceBEq, Int.reduceBNe, Int.reduceGT, Nat.reduceDiv, Nat.reduceMod, Nat.reducePow, Int.reducePow, gt_iff_lt, ge_iff_le, List.reduceReplicate, ↓reduceIte])
      refine appT (c := True) (zs := z3) (xs := qs'.flatMap itQ) (m := 1) (news := itE q.1 s2) (T := 79) (l := some (cp0, rest0)) 18 2 i [100017] rfl rfl Try.underlying77 (.inl ⟨_, Try.underlying77⟩) zr79 cz79 (by simp [z3]) z3_closed rfl rfl rfl hl (by rw [itsE_len, hLl]; rfl) (itsE_closed 0 _) (fun B hs hB hfb => ⟨_, src_own (by rw [hfb 100017 (by simp)]; rfl) rfl, by simp [z3]⟩) rfl (by simp [closeds, closed]) (by simp only [maxLen]; omega) (by rw [show Try.prog.bytesOf 79 = 56 from by79]; omega) (by simp) (by kernel_rfl) (ck_of (by kernel_rfl) (nmT_of (by kernel_rfl))) (fun l2 hl2 => dt_of 1000 (by assumption) ?_)
      have hl2' := hl2
      obtain ⟨cp, rest, rfl, -⟩ := lst_some hl2 (by omega)
      simp only [lE_some]
      repeat' (first | with_reducible refine And.intro (by first | omega | assumption | (constructor <;> assumption) | (simp; done) | (simp; omega) | (simp [*]; done) | ((repeat' refine And.intro ?_ ?_) <;> first | omega | assumption | (refine SlOk.so (n := ?_) ?_ ?_; rotate_left; assumption; omega) | (simp; done) | fail) | fail) ?_ | simp (maxSteps := 4000000) (disch := omega) only [go_sem, Nat.reduceBEq, Nat.reduceAdd, Nat.reduceMul, Nat.reduceSub, Nat.reduceLT, Nat.reduceLeDiff, Int.reduceToNat, Int.reduceLT, Int.reduceLE, Int.reduceAdd, Int.reduceMul, Int.reduceSub, Int.reduceNeg, Int.reduceDiv, Int.reduceMod, Nat.reduceBNe, Nat.reduceGT, Int.reduceBEq, Int.reduceBNe, Int.reduceGT, Nat.reduceDiv, Nat.reduceMod, Nat.reducePow, Int.reducePow, gt_iff_lt, ge_iff_le, List.reduceReplicate, ↓reduceIte])
      refine endT_of (by kernel_rfl) (nmT_of (by kernel_rfl)) ?_
      refine packS [100018] 2 (by simp) (by simp) (by simp) (by simp) (next_of 1000 ?_)
      have hev : qs'.flatMap itQ ++ [EV.int IntKind.i64 q.1.list, EV.raw (Value.slice s2.bA q.1.bytes.length s2.bc), EV.raw (Value.slice s2.kA q.1.kids.length s2.kc)] = (qs' ++ [(q.1, s2)]).flatMap itQ := by
        rw [List.flatMap_append, List.flatMap_singleton]; rfl
      repeat' (simp (maxSteps := 4000000) (disch := omega) only [go_sem, Nat.reduceBEq, Nat.reduceAdd, Nat.reduceMul, Nat.reduceSub, Nat.reduceLT, Nat.reduceLeDiff, Int.reduceToNat, Int.reduceLT, Int.reduceLE, Int.reduceAdd, Int.reduceMul, Int.reduceSub, Int.reduceNeg, Int.reduceDiv, Int.reduceMod, Nat.reduceBNe, Nat.reduceGT, Int.reduceBEq, Int.reduceBNe, Int.reduceGT, Nat.reduceDiv, Nat.reduceMod, Nat.reducePow, Int.reducePow, gt_iff_lt, ge_iff_le, List.reduceReplicate, ↓reduceIte, hev, okC, okE, okCs, pkO_some, pkO_lO (ks := [100018]) (k := 2) hl2' (itsE_closed 0 (qs' ++ [(q.1, s2)])) z3_closed, pkO_none])
      have hok' : ∀ a ∈ qs' ++ [(q.1, s2)], ItAt B3 a.1 a.2 := fun a ha => by
        rcases List.mem_append.1 ha with h3 | h3
        · exact (hok a h3).ext hB3
        · obtain rfl := List.mem_singleton.1 h3
          exact hR3
      have hbd' : (qs' ++ [(q.1, s2)]).map Prod.fst = (qs.take (i + 1)).map Prod.fst := by
        rw [List.take_succ_eq_append_getElem hi2, List.map_append, List.map_append, hbd, ← hq0]
        rfl
      have cl2 : ∀ n, clO n (lO 79 ((qs' ++ [(q.1, s2)]).flatMap itQ) (some (cp, rest))) = True := fun n => clO_lO hl2' (itsE_closed 0 _) z3_closed
      have cl3 : ∀ n, clO n (lO 79 (qs'.flatMap itQ ++ itQ (q.1, s2)) (some (cp, rest))) = True := fun n => by have := cl2 n; rwa [List.flatMap_append, List.flatMap_singleton] at this
      exact ⟨(i + 1, some (cp, rest), qs' ++ [(q.1, s2)], B3), ⟨hi2, hl2', hB2.trans hB3, hok', hbd'⟩, Weak.sub (weak_of (by simp [wσ, go_sem, closed, closeds, lE_closed, cl3, lE_some] <;> omega) (by simp [whs, Go.Ew.hget, go_sem, EObj.closed, closed, closeds, lE_closed, cl3, lE_some]) (by simp [*]) rfl rfl (by simp)), by simp only; omega⟩
  · obtain rfl : i = qs.length := by omega
    refine freezeL (xs := qs'.flatMap itQ) (T := 79) 2 qs.length rfl hl (by rw [itsE_len, hLl]; rfl) (itsE_closed 0 _) z3_closed (by simp) (fun b2 ad2 cap2 B3 hB3 hf hD hso hcell => next_of 1000 ?_)
    change BExt B2 B3 at hB3
    have hC : CellsAt B3 ad2 (qs'.flatMap itC) := cellsAt_frz hD hso (fun h0 => by
      rw [h0] at hLl; rw [List.length_eq_zero_iff.1 hLl]; rfl) hcell (reals_itQ _ _)
    have hbt : qs'.map Prod.fst = qs.map Prod.fst := by rw [hbd, List.take_length]
    simp (maxSteps := 4000000) (disch := omega) only [go_sem, Nat.reduceBEq, Nat.reduceAdd, Nat.reduceMul, Nat.reduceSub, Nat.reduceLT, Nat.reduceLeDiff, Int.reduceToNat, Int.reduceLT, Int.reduceLE, Int.reduceAdd, Int.reduceMul, Int.reduceSub, Int.reduceNeg, Int.reduceDiv, Int.reduceMod, Nat.reduceBNe, Nat.reduceGT, Int.reduceBEq, Int.reduceBNe, Int.reduceGT, Nat.reduceDiv, Nat.reduceMod, Nat.reducePow, Int.reducePow, gt_iff_lt, ge_iff_le, List.reduceReplicate, ↓reduceIte, hf]
    repeat (with_reducible refine And.intro (by first | omega | assumption | (constructor <;> assumption) | (simp; done) | (simp; omega) | (simp [*]; done) | ((repeat' refine And.intro ?_ ?_) <;> first | omega | assumption | (refine SlOk.so (n := ?_) ?_ ?_; rotate_left; assumption; omega) | (simp; done) | fail) | fail) ?_)
    refine condS_split (fun h2 => by simp at h2) (fun h2 => ?_)
    repeat' (first | simp (maxSteps := 4000000) (disch := omega) only [go_sem, Nat.reduceBEq, Nat.reduceAdd, Nat.reduceMul, Nat.reduceSub, Nat.reduceLT, Nat.reduceLeDiff, Int.reduceToNat, Int.reduceLT, Int.reduceLE, Int.reduceAdd, Int.reduceMul, Int.reduceSub, Int.reduceNeg, Int.reduceDiv, Int.reduceMod, Nat.reduceBNe, Nat.reduceGT, Int.reduceBEq, Int.reduceBNe, Int.reduceGT, Nat.reduceDiv, Nat.reduceMod, Nat.reducePow, Int.reducePow, gt_iff_lt, ge_iff_le, List.reduceReplicate, ↓reduceIte, hf, bne_self_eq_false, beq_self_eq_true] | with_reducible refine next_of 1000 ?_)
    refine ⟨hB2.trans hB3, ⟨none, 0, ad2, cap2⟩, rfl, by simp [closed, closeds], ?_⟩
    rw [← hbt]
    exact .mk 1 [] qs' _ (CellsAt.nil _) (by simp) hC (by omega) (fun q hq => (hok q hq).ext hB3)
end Go.Proofs.Ytepabkjfnpaijaa

