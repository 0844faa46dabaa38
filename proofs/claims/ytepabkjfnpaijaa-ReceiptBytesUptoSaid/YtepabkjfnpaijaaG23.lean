/- Part of a proof over the seat Ytepabkjfnpaijaa. -/
import Derived.Test.YtepabkjfnpaijaaG20
import Derived.Test.YtepabkjfnpaijaaG11
import Derived.Test.YtepabkjfnpaijaaG22
import Derived.Test.YtepabkjfnpaijaaEng2
import Derived.Test.YtepabkjfnpaijaaG19
import Derived.WideKeyArr
set_option linter.unusedSimpArgs false
set_option linter.unusedVariables false
set_option maxRecDepth 100000
namespace Go.Proofs.Ytepabkjfnpaijaa
open Go RowKit Go.Ew
set_option maxHeartbeats 8000000
theorem in20 : codeIn Try.f20.ntmps (Try.f20.body.getD .skip) = true := by kernel_rfl
theorem mayR_ok' {r : RcV} (h : mayR r = true) : r.ok = 0 ∨ r.ok = 1 := by
 simp only [mayR, Bool.and_eq_true, decide_eq_true_eq, Bool.or_eq_true, beq_iff_eq] at h
 exact h.2.1.2
theorem rencno_fn {B : Base} {r : RcV} (h : LogsAt B r.lA r.L) (hm : mayR r = false) : Does Try.prog 20 [.agg (rcE r)] B (fun _ : Unit => .tup [.raw (.slice none 0 0), .int .i64 190]) (fun _ _ => True) := by
 refine fn_of en20 (fun s B B' hB hR => hR) Try.func20 rfl in20 (by simp [Try.f20]) ⟨rc_closed 0 r, trivial⟩ (fun B0 hB0 => next_of 1000 ?_)
 have hmy := rgood_fn (h.ext hB0)
 rw [hm] at hmy
 repeat' (first | simp (maxSteps := 4000000) (disch := omega) only [go_sem, ↓reduceIte, Try.f20, rc_len, rc_all, rc_one] | refine callS_fp (hmy) (by simp [closed, closeds, closeds_ints, closed_wE]) (next_of 1000 ?_))
 first | exact ⟨BExt.refl _, (), rfl, by simp [closed, closeds], trivial⟩ | exact ⟨(), rfl, by simp [closed, closeds], trivial⟩ | exact ⟨BExt.refl _, (), by simp [closed, closeds], trivial⟩ | exact ⟨(), by simp [closed, closeds], trivial⟩ | exact ⟨BExt.refl _, (), by simp [closed, closeds, bytes_any]⟩ | exact ⟨(), by simp [closed, closeds, bytes_any]⟩
theorem rencr_fn {B : Base} {r : RcV} (h : LogsAt B r.lA r.L) (hm : mayR r = true) (hgas : r.gas < 18446744073709551616) (hf : (form (recI r)).length < 35184372088832) :
  Does Try.prog 20 [.agg (rcE r)] B (fun s : Option Addr × Nat => .tup [.raw (.slice s.1 (encR r).length s.2), .int .i64 0]) (fun s B' => BytesAt B' s.1 (encR r) ∧ (encR r).length ≤ s.2) := by
 refine fn_of en20 (fun s B B' hB hR => ⟨hR.1.ext hB, hR.2⟩) Try.func20 rfl in20 (by simp [Try.f20]) ⟨rc_closed 0 r, trivial⟩ (fun B0 hB0 => next_of 1000 ?_)
 replace h := h.ext hB0
 have hmy := rgood_fn h
 rw [hm] at hmy
 have hrc : ∀ n, closeds n (rcE r) := fun n => rc_closed n r
 repeat' (first | with_reducible refine And.intro (by omega) ?_ | simp (maxSteps := 4000000) (disch := omega) only [go_sem, ↓reduceIte, Try.f20, rc_len, rc_0, rc_1, rc_2, rc_259, rc_all, rc_one] | refine callS_fp (hmy) (by simp [closed, closeds, closeds_ints, closed_wE]) (next_of 1000 ?_))
 refine loopU (S := Nat × Lst × List (Itm × Plc) × Base) (fun s => s.1 ≤ r.L.length ∧ lOk z3 s.1 s.2.1 ∧ BExt B0 s.2.2.2 ∧ (∀ q ∈ s.2.2.1, ItAt s.2.2.2 q.1 q.2) ∧ s.2.2.1.map Prod.fst = (r.L.take s.1).map logI)
  (fun u => ⟨[(19, .int .i64 (u.1 : Nat)), (18, .int .i64 (r.L.length : Nat)), (17, .raw (.slice r.lA r.L.length r.lc)), (4, .ptr 1 0), (1, .ptr 0 0)], 3, [(2, lO 79 (u.2.2.1.flatMap itQ) u.2.1), (1, some (.cells [.int .i64 1, .raw (.slice none 0 0), lE 2 u.1 u.2.1] 79 (0, 0))), (0, some (.cells (rcE r) 45 (0, 0)))], u.2.2.2, []⟩)
  (fun u => r.L.length - u.1) (0, none, [], B0) ⟨Nat.zero_le _, rfl, BExt.refl _, by simp, rfl⟩ (Weak.sub (weak_of (by simp [wσ, go_sem, closed, closeds, lE_closed, lE, lO, clO, hrc, EObj.closed] <;> omega) (by simp [whs, Go.Ew.hget, go_sem, EObj.closed, closed, closeds, lE_closed, lE, lO, clO, hrc, EObj.closed]) (by simp [*]) rfl rfl (by simp))) ?_
 rintro ⟨i, l, qs, B2⟩ ⟨hi, hl, hB2, hok, hbd⟩
 simp only at hi hl hB2 hok hbd ⊢
 replace h := h.ext hB2
 have hlen := h.len
 have hLl : qs.length = i := by have := congrArg List.length hbd; simp at this; omega
 rcases Nat.lt_or_ge i r.L.length with hi2 | hi2
 ·have cA : decide ((i : Int) < (r.L.length : Int)) = true := decide_eq_true (by omega)
  obtain ⟨l1, l2, l3, l4⟩ := h.ld hi2
  have h1 := h.ok _ (List.getElem_mem hi2)
  have htk : r.L.take (i + 1) = r.L.take i ++ [r.L[i]] := List.take_succ_eq_append_getElem hi2
  obtain ⟨g, hg⟩ : ∃ g, g = r.L[i] := ⟨_, rfl⟩
  rw [← hg] at l1 h1 htk
  have ht := h1.tb
  have f1 : oneAll g.ev = true := logE_one rfl rfl
  have f2 : ∀ u v, (logE g.ad u v).length = 22 := fun u v => logE_len h1.ha
  have f3 : ∀ u v d, (logE g.ad u v).getD 20 d = u := fun u v d => logE_20 h1.ha
  have f4 : ∀ u v d, (logE g.ad u v).getD 21 d = v := fun u v d => logE_21 h1.ha
  have f8 : ∀ u v, List.take 22 (logE g.ad u v) = logE g.ad u v := fun u v => logE_take h1.ha
  have hgc : ∀ n, closeds n g.ev := fun n => logE_closed (by simp [closed]) (by simp [closed])
  have cn : ∀ n, clO n (none : Option EObj) = True := fun n => by simp [clO]
  have eN : ∀ r n, lE r n none = .raw (.slice none 0 0) := fun _ _ => rfl
  have oN : ∀ T xs, lO T xs none = none := fun _ _ => rfl
  have cl0 : ∀ n, clO n (lO 79 (qs.flatMap itQ) l) = True := fun n => clO_lO hl (itsE_closed 0 _) z3_closed
  refine next_of 1000 ?_
  repeat' (first | with_reducible refine And.intro (by first | omega | (constructor <;> assumption) | (simp [*]; done)) ?_ | simp (maxSteps := 4000000) (disch := omega) only [go_sem, ↓reduceIte, cA, Int.toNat_natCast, l1, f1, f2, f3, f4, f8, logE_splice h1.ha])
  refine loopU (S := Nat × Lst × List (Itm × Plc) × Base) (fun s => s.1 ≤ g.tn ∧ lOk z3 s.1 s.2.1 ∧ BExt B2 s.2.2.2 ∧ (∀ q ∈ s.2.2.1, ItAt s.2.2.2 q.1 q.2) ∧ s.2.2.1.map Prod.fst = (g.tops.take s.1).map txt)
   (fun u => ⟨[(27, .int .i64 (u.1 : Nat)), (26, .int .i64 (g.tn : Nat)), (25, .raw (.slice g.tA g.tn g.tc)), (7, .ptr 4 0), (6, .ptr 3 0), (19, .int .i64 (i : Nat)), (18, .int .i64 (r.L.length : Nat)), (17, .raw (.slice r.lA r.L.length r.lc)), (4, .ptr 1 0), (1, .ptr 0 0)], 6,
    [(5, lO 79 (u.2.2.1.flatMap itQ) u.2.1), (4, some (.cells [.int .i64 1, .raw (.slice none 0 0), lE 5 u.1 u.2.1] 79 (0, 0))), (3, some (.cells g.ev 36 (0, 0))), (2, lO 79 (qs.flatMap itQ) l), (1, some (.cells [.int .i64 1, .raw (.slice none 0 0), lE 2 i l] 79 (0, 0))), (0, some (.cells (rcE r) 45 (0, 0)))], u.2.2.2, []⟩)
   (fun u => g.tn - u.1) (0, none, [], B2) ⟨Nat.zero_le _, rfl, BExt.refl _, by simp, rfl⟩ (Weak.sub (weak_of (by simp [wσ, go_sem, closed, closeds, lE_closed, eN, oN, cn, cl0, hrc, hgc, EObj.closed] <;> omega) (by simp [whs, Go.Ew.hget, go_sem, EObj.closed, closed, closeds, lE_closed, eN, oN, cn, cl0, hrc, hgc, EObj.closed]) (by simp [*]) rfl rfl (by simp))) ?_
  --INNER
  rintro ⟨k, l', qs2, B3⟩ ⟨hk, hl2, hB3, hok2, hbd2⟩
  simp only at hk hl2 hB3 hok2 hbd2 ⊢
  replace h1 := h1.ext hB3
  have hLl2 : qs2.length = k := by have := congrArg List.length hbd2; simp [tops_len] at this; omega
  rcases Nat.lt_or_ge k g.tn with hk2 | hk2
  ·have cB : decide ((k : Int) < (g.tn : Int)) = true := decide_eq_true (by omega)
   obtain ⟨m1, m2, m3, m4⟩ := h1.ldT hk2
   have hq := top_len h1 hk2
   have hqi : g.tops[k]'(by rw [tops_len]; exact hk2) = g.top k := tops_get hk2
   obtain ⟨q, hq0⟩ : ∃ q, q = g.top k := ⟨_, rfl⟩
   rw [← hq0] at m1 hq hqi
   have q1 := bE_one q
   refine next_of 1000 ?_
   rcases l' with _ | ⟨cp0, rest0⟩
   ·have hk0 : k = 0 := hl2
    simp only [eN, oN]
    repeat' (first | with_reducible refine And.intro (by first | omega | (constructor <;> assumption) | (simp; done) | ((repeat' refine And.intro ?_ ?_) <;> first | omega | assumption | (refine SlOk.so (n := ?_) ?_ ?_; rotate_left; assumption; omega) | (simp; done) | fail)) ?_ | simp (maxSteps := 4000000) (disch := omega) only [go_sem, ↓reduceIte, cB, Int.toNat_natCast, m1, q1, List.length_map, hq, bE_splice hq] | with_reducible refine drawT_of (id := 11) [0, 1, 2, 3, 4, 5, 6, 7] mixed (by kernel_rfl) (by simp) (fun hin => dt_of 1000 hin ?_))
    refine callT_roc 6 0 32 32 [] (q.map bV) en40 rfl rfl (by rw [ofS_bV, List.drop_zero, List.length_map, hq, List.take_of_length_le (by rw [List.length_map]; omega)]) (fun s => by simp [closed, closeds]) (fun B ad cap hB hC => rtext_fn q 32 B ad cap hC hq (by omega)) (by kernel_rfl) (ck_of (by kernel_rfl) (nmT_of (by kernel_rfl))) (fun hin2 s2 B4 hB4 hR4 => dt_of 1000 hin2 ?_)
    change BExt B3 B4 at hB4
    repeat' (first | with_reducible refine And.intro (by first | omega | (simp; done)) ?_ | simp (maxSteps := 4000000) (disch := omega) only [go_sem, ↓reduceIte])
    refine appT (c := True) (zs := z3) (xs := qs2.flatMap itQ) (m := 1) (news := itE (txt q) s2) (T := 79) (l := none) 36 5 k [100035] rfl rfl Try.underlying77 (.inl ⟨_, Try.underlying77⟩) zr79 cz79 (by simp [z3]) z3_closed rfl rfl rfl hl2 (by rw [itsE_len, hLl2]; rfl) (itsE_closed 0 _) (fun B hs hB hfb => ⟨_, src_own (by rw [hfb 100035 (by simp)]; rfl) rfl, by simp [z3]⟩) rfl (by simp [closeds, closed]) (by simp only [maxLen]; omega) (by rw [show Try.prog.bytesOf 79 = 56 from by79]; omega) (by simp) (by kernel_rfl) (ck_of (by kernel_rfl) (nmT_of (by kernel_rfl))) (fun l5 hl5 => dt_of 1000 (by assumption) ?_)
    have hl5' := hl5
    obtain ⟨cp, rest, rfl, -⟩ := lst_some hl5 (by omega)
    simp only [lE_some]
    repeat' (first | with_reducible refine And.intro (by omega) ?_ | simp (maxSteps := 4000000) (disch := omega) only [go_sem, ↓reduceIte])
    refine endT_of (by kernel_rfl) (nmT_of (by kernel_rfl)) ?_
    refine packS [100036] 5 (by simp) (by simp) (by simp) (by simp) (next_of 1000 ?_)
    have hev : qs2.flatMap itQ ++ itE (txt q) s2 = (qs2 ++ [(txt q, s2)]).flatMap itQ := by
     rw [List.flatMap_append, List.flatMap_singleton]; rfl
    repeat' (simp (maxSteps := 4000000) (disch := omega) only [go_sem, ↓reduceIte, hev, okC, okE, okCs, okC_lE' (ks := [100036]) (k := 5) (r := 2) (len := i) (l := l) rfl, lE_ren, pkO_some, pkO_lO (ks := [100036]) (k := 5) hl5' (itsE_closed 0 (qs2 ++ [(txt q, s2)])) z3_closed, pkO_lO (ks := [100036]) (k := 5) hl (itsE_closed 0 qs) z3_closed, pkO_none, okCs_closed (Nat.zero_le _) _ (hrc 0), rens_closed0' _ _ (hrc 0), okCs_closed (Nat.zero_le _) _ (hgc 0), rens_closed0' _ _ (hgc 0), okCs_closed (Nat.zero_le _) _ (closeds_bE 0 q), rens_closed0' _ _ (closeds_bE 0 q)])
    have hok' : ∀ a ∈ qs2 ++ [(txt q, s2)], ItAt B4 a.1 a.2 := fun a ha => by
     rcases List.mem_append.1 ha with h3 | h3
     ·exact (hok2 a h3).ext hB4
     ·obtain rfl := List.mem_singleton.1 h3
      exact hR4
    have hbd' : (qs2 ++ [(txt q, s2)]).map Prod.fst = (g.tops.take (k + 1)).map txt := by
     rw [List.take_succ_eq_append_getElem (by rw [tops_len]; exact hk2), List.map_append, List.map_append, hbd2, hqi]
     rfl
    have cl2 : ∀ n, clO n (lO 79 ((qs2 ++ [(txt q, s2)]).flatMap itQ) (some (cp, rest))) = True := fun n => clO_lO hl5' (itsE_closed 0 _) z3_closed
    have cl3 : ∀ n, clO n (lO 79 (qs2.flatMap itQ ++ itQ (txt q, s2)) (some (cp, rest))) = True := fun n => by have := cl2 n; rwa [List.flatMap_append, List.flatMap_singleton] at this
    exact ⟨(k + 1, some (cp, rest), qs2 ++ [(txt q, s2)], B4), ⟨hk2, hl5', hB3.trans hB4, hok', hbd'⟩, Weak.sub (weak_of (by simp [wσ, go_sem, closed, closeds, lE_closed, cl3, cl0, lE_some, hrc, hgc] <;> omega) (by simp [whs, Go.Ew.hget, go_sem, EObj.closed, closed, closeds, lE_closed, cl3, cl0, lE_some, hrc, hgc]) (by simp [*]) rfl rfl (by simp)), by simp only; omega⟩
   ·simp only [lE_some]
    repeat' (first | with_reducible refine And.intro (by first | omega | (constructor <;> assumption) | (simp; done) | ((repeat' refine And.intro ?_ ?_) <;> first | omega | assumption | (refine SlOk.so (n := ?_) ?_ ?_; rotate_left; assumption; omega) | (simp; done) | fail)) ?_ | simp (maxSteps := 4000000) (disch := omega) only [go_sem, ↓reduceIte, cB, Int.toNat_natCast, m1, q1, List.length_map, hq, bE_splice hq] | with_reducible refine drawT_of (id := 11) [0, 1, 2, 3, 4, 5, 6, 7] mixed (by kernel_rfl) (by simp) (fun hin => dt_of 1000 hin ?_))
    refine callT_roc 6 0 32 32 [] (q.map bV) en40 rfl rfl (by rw [ofS_bV, List.drop_zero, List.length_map, hq, List.take_of_length_le (by rw [List.length_map]; omega)]) (fun s => by simp [closed, closeds]) (fun B ad cap hB hC => rtext_fn q 32 B ad cap hC hq (by omega)) (by kernel_rfl) (ck_of (by kernel_rfl) (nmT_of (by kernel_rfl))) (fun hin2 s2 B4 hB4 hR4 => dt_of 1000 hin2 ?_)
    change BExt B3 B4 at hB4
    repeat' (first | with_reducible refine And.intro (by first | omega | (simp; done)) ?_ | simp (maxSteps := 4000000) (disch := omega) only [go_sem, ↓reduceIte])
    refine appT (c := True) (zs := z3) (xs := qs2.flatMap itQ) (m := 1) (news := itE (txt q) s2) (T := 79) (l := (some (cp0, rest0))) 36 5 k [100035] rfl rfl Try.underlying77 (.inl ⟨_, Try.underlying77⟩) zr79 cz79 (by simp [z3]) z3_closed rfl rfl rfl hl2 (by rw [itsE_len, hLl2]; rfl) (itsE_closed 0 _) (fun B hs hB hfb => ⟨_, src_own (by rw [hfb 100035 (by simp)]; rfl) rfl, by simp [z3]⟩) rfl (by simp [closeds, closed]) (by simp only [maxLen]; omega) (by rw [show Try.prog.bytesOf 79 = 56 from by79]; omega) (by simp) (by kernel_rfl) (ck_of (by kernel_rfl) (nmT_of (by kernel_rfl))) (fun l5 hl5 => dt_of 1000 (by assumption) ?_)
    have hl5' := hl5
    obtain ⟨cp, rest, rfl, -⟩ := lst_some hl5 (by omega)
    simp only [lE_some]
    repeat' (first | with_reducible refine And.intro (by omega) ?_ | simp (maxSteps := 4000000) (disch := omega) only [go_sem, ↓reduceIte])
    refine endT_of (by kernel_rfl) (nmT_of (by kernel_rfl)) ?_
    refine packS [100036] 5 (by simp) (by simp) (by simp) (by simp) (next_of 1000 ?_)
    have hev : qs2.flatMap itQ ++ itE (txt q) s2 = (qs2 ++ [(txt q, s2)]).flatMap itQ := by
     rw [List.flatMap_append, List.flatMap_singleton]; rfl
    repeat' (simp (maxSteps := 4000000) (disch := omega) only [go_sem, ↓reduceIte, hev, okC, okE, okCs, okC_lE' (ks := [100036]) (k := 5) (r := 2) (len := i) (l := l) rfl, lE_ren, pkO_some, pkO_lO (ks := [100036]) (k := 5) hl5' (itsE_closed 0 (qs2 ++ [(txt q, s2)])) z3_closed, pkO_lO (ks := [100036]) (k := 5) hl (itsE_closed 0 qs) z3_closed, pkO_none, okCs_closed (Nat.zero_le _) _ (hrc 0), rens_closed0' _ _ (hrc 0), okCs_closed (Nat.zero_le _) _ (hgc 0), rens_closed0' _ _ (hgc 0), okCs_closed (Nat.zero_le _) _ (closeds_bE 0 q), rens_closed0' _ _ (closeds_bE 0 q)])
    have hok' : ∀ a ∈ qs2 ++ [(txt q, s2)], ItAt B4 a.1 a.2 := fun a ha => by
     rcases List.mem_append.1 ha with h3 | h3
     ·exact (hok2 a h3).ext hB4
     ·obtain rfl := List.mem_singleton.1 h3
      exact hR4
    have hbd' : (qs2 ++ [(txt q, s2)]).map Prod.fst = (g.tops.take (k + 1)).map txt := by
     rw [List.take_succ_eq_append_getElem (by rw [tops_len]; exact hk2), List.map_append, List.map_append, hbd2, hqi]
     rfl
    have cl2 : ∀ n, clO n (lO 79 ((qs2 ++ [(txt q, s2)]).flatMap itQ) (some (cp, rest))) = True := fun n => clO_lO hl5' (itsE_closed 0 _) z3_closed
    have cl3 : ∀ n, clO n (lO 79 (qs2.flatMap itQ ++ itQ (txt q, s2)) (some (cp, rest))) = True := fun n => by have := cl2 n; rwa [List.flatMap_append, List.flatMap_singleton] at this
    exact ⟨(k + 1, some (cp, rest), qs2 ++ [(txt q, s2)], B4), ⟨hk2, hl5', hB3.trans hB4, hok', hbd'⟩, Weak.sub (weak_of (by simp [wσ, go_sem, closed, closeds, lE_closed, cl3, cl0, lE_some, hrc, hgc] <;> omega) (by simp [whs, Go.Ew.hget, go_sem, EObj.closed, closed, closeds, lE_closed, cl3, cl0, lE_some, hrc, hgc]) (by simp [*]) rfl rfl (by simp)), by simp only; omega⟩
  ·obtain rfl : k = g.tn := by omega
   have cB : decide ((g.tn : Int) < (g.tn : Int)) = false := decide_eq_false (by omega)
   refine freezeL (xs := qs2.flatMap itQ) (T := 79) 5 g.tn rfl hl2 (by rw [itsE_len, hLl2]; rfl) (itsE_closed 0 _) z3_closed (by simp) (fun b2 kA kc B4 hB4 hf2 hD hso hcell => ?_)
   change BExt B3 B4 at hB4
   have hC : CellsAt B4 kA (qs2.flatMap itC) := cellsAt_frz hD hso (fun h0 => by
    rw [h0] at hLl2; rw [List.length_eq_zero_iff.1 hLl2]; rfl) hcell (reals_itQ _ _)
   have hbt : qs2.map Prod.fst = g.tops.map txt := by rw [hbd2, List.take_of_length_le (by rw [tops_len]; omega)]
   simp only [frzσ, frz, hf2, frz_lE (show (2 : Nat) ≠ 5 by omega), fzO_lO hl (itsE_closed 0 _) z3_closed, frzh_cons, frzh_nil, fzO_some, EObj.frz, frzs_closed0 _ (hgc 0), frzs_closed0 _ (hrc 0), frzs, Nat.reduceEqDiff, if_false, if_true, ↓reduceIte, frz_closed0]
   refine freezeS 3 (cs := g.ev) (T := 36) (fr := (0, 0)) rfl (hgc 0) (by simp) (fun b B5 hB5 hbD hbH => ?_)
   change BExt B4 B5 at hB5
   have hev : reals (fun _ => 0) g.ev = g.cells := by simp [logE, LogV.cells, reals_eq, bE, bV, real, Function.comp_def]
   have hgC : CellsAt B5 (some ⟨b, 0, none⟩) g.cells := heap_cells hbD (by rw [← hev]; exact hbH)
   have hA : BytesAt B5 (some ⟨b, 0, none⟩) g.ad := by
    have := hgC.sub 0 20
    simp only [List.drop_zero, LogV.cells, List.take_append_of_le_length (show 20 ≤ (g.ad.map bV).length by simp [h1.ha]), List.take_of_length_le (show (g.ad.map bV).length ≤ 20 by simp [h1.ha])] at this
    exact this
   have h5 := h1.ext (hB4.trans hB5)
   simp only [frzσ, frz, frz_lE (show (2 : Nat) ≠ 3 by omega), fzO_lO hl (itsE_closed 0 _) z3_closed, frzh_cons, frzh_nil, fzO_some, EObj.frz, frzs_closed0 _ (hgc 0), frzs_closed0 _ (hrc 0), frzs, Nat.reduceEqDiff, if_false, if_true, ↓reduceIte, frz_closed0]
   obtain ⟨r1, r2, r3⟩ := hgC.raw (j := 21) (v := .slice g.dA g.dn g.dc) (by simp [LogV.cells, List.getElem?_append, h1.ha])
   have e21 : adrAt (some (⟨b, 0, none⟩ : Addr)) 21 = ⟨b, 21, none⟩ := by simp [adrAt_some, Addr.add]
   rw [e21] at r1 r3
   simp only [ofScalar] at r1
   have hdb := h1.db
   refine next_of 1000 ?_
   rcases l with _ | ⟨cp0, rest0⟩
   ·have hi0 : i = 0 := hl
    simp only [eN, oN]
    repeat' (first | with_reducible refine And.intro (by first | omega | (constructor <;> assumption) | (simp; done)) ?_ | simp (maxSteps := 4000000) (disch := omega) only [go_sem, ↓reduceIte, cB, r1, f1, f2, f3, f4, f8, logE_splice h1.ha] | with_reducible refine drawT_of (id := 13) [0, 1, 2, 3, 5, 6, 7, 4, 8, 9, 10, 11, 12, 13, 14] mixed (by kernel_rfl) (by simp) (fun hin => dt_of 1000 hin ?_) | with_reducible refine next_of 1000 ?_)
    refine callT_f (rtext_fn g.ad 20 B5 _ _ hA h1.ha (by omega)) (fun _ => by simp [closed, closeds]) (by kernel_rfl) (ck_of (by kernel_rfl) (nmT_of (by kernel_rfl))) (fun hin2 s5 B6 hB6 hR6 => dt_of 1000 hin2 ?_)
    change BExt B5 B6 at hB6
    repeat' (simp (maxSteps := 4000000) (disch := omega) only [go_sem, ↓reduceIte, r1, f1, f2, f3, f4, f8, logE_splice h1.ha])
    refine callT_f (rtext_fn g.dt g.dn B6 _ _ (h5.dB.ext hB6) h1.hd (by omega)) (fun _ => by simp [closed, closeds]) (by kernel_rfl) (ck_of (by kernel_rfl) (nmT_of (by kernel_rfl))) (fun hin2 s7 B7 hB7 hR7 => dt_of 1000 hin2 ?_)
    change BExt B6 B7 at hB7
    have hR5 : ItAt B5 (Itm.mk 1 [] (qs2.map Prod.fst)) ⟨none, 0, kA, kc⟩ := .mk 1 [] qs2 _ (bytes_any _) (by simp) (hC.ext hB5) (by omega) (fun q hq => (hok2 q hq).ext (hB4.trans hB5))
    repeat' (first | with_reducible refine And.intro (by first | omega | (simp; done)) ?_ | simp (maxSteps := 4000000) (disch := omega) only [go_sem, ↓reduceIte, f1, f2, f3, f4, f8, logE_splice h1.ha])
    refine callT_roc 100048 0 3 3 [] ([(txt g.ad, s5), (Itm.mk 1 [] (qs2.map Prod.fst), ⟨none, 0, kA, kc⟩), (txt g.dt, s7)].flatMap itC) en41 rfl rfl (by simp [itC, ofScalar, Itm.kids, Itm.bytes, Itm.list, hLl2]) (fun s => by simp [closed, closeds]) (fun B ad cap hB hc3 => rlst_fn [(txt g.ad, s5), (Itm.mk 1 [] (qs2.map Prod.fst), ⟨none, 0, kA, kc⟩), (txt g.dt, s7)] 3 B ad cap hc3 (by simp) (fun q hq => by
     simp only [List.mem_cons, List.not_mem_nil, or_false] at hq
     rcases hq with rfl | rfl | rfl
     ·exact hR6.ext (hB7.trans hB)
     ·exact hR5.ext (hB6.trans (hB7.trans hB))
     ·exact hR7.ext hB) rfl) (by kernel_rfl) (ck_of (by kernel_rfl) (nmT_of (by kernel_rfl))) (fun hin2 s8 B8 hB8 hR8 => dt_of 1000 hin2 ?_)
    change BExt B7 B8 at hB8
    have hfin : Itm.mk 1 [] (List.map Prod.fst [(txt g.ad, s5), (Itm.mk 1 [] (qs2.map Prod.fst), (⟨none, 0, kA, kc⟩ : Plc)), (txt g.dt, s7)]) = logI g := by
     simp only [List.map_cons, List.map_nil, hbt]; rfl
    rw [hfin] at hR8
    simp only [hfin]
    repeat' (first | with_reducible refine And.intro (by first | omega | (simp; done)) ?_ | simp (maxSteps := 4000000) (disch := omega) only [go_sem, ↓reduceIte, f1, f2, f3, f4, f8, logE_splice h1.ha])
    refine appT (c := True) (zs := z3) (xs := qs.flatMap itQ) (m := 1) (news := itE (logI g) s8) (T := 79) (l := none) 51 2 i [100050] rfl rfl Try.underlying77 (.inl ⟨_, Try.underlying77⟩) zr79 cz79 (by simp [z3]) z3_closed rfl rfl rfl hl (by rw [itsE_len, hLl]; rfl) (itsE_closed 0 _) (fun B hs hB hfb => ⟨_, src_own (by rw [hfb 100050 (by simp)]; rfl) rfl, by simp [z3]⟩) rfl (by simp [closeds, closed]) (by simp only [maxLen]; omega) (by rw [show Try.prog.bytesOf 79 = 56 from by79]; omega) (by simp) (by kernel_rfl) (ck_of (by kernel_rfl) (nmT_of (by kernel_rfl))) (fun l6 hl6 => dt_of 1000 (by assumption) ?_)
    have hl6' := hl6
    have hcl6 : closeds 0 (itE (logI g) s8) := by simp [closeds, closed]
    have hE51 := lO_av (T := 79) hl6 (closeds_append.2 ⟨itsE_closed 0 qs, hcl6⟩) z3_closed
    obtain ⟨cp, rest, rfl, -⟩ := lst_some hl6 (by omega)
    simp only [lE_some]
    repeat' (first | with_reducible refine And.intro (by omega) ?_ | simp (maxSteps := 4000000) (disch := omega) only [go_sem, ↓reduceIte])
    refine endT_of (by kernel_rfl) ((nmT_rv [100051] (by kernel_rfl) (by with_unfolding_all (repeat' (first | exact True.intro | exact none_av | exact hE51 | refine And.intro ?_ ?_))))) ?_
    refine packS [100051] 2 (by simp) (by simp) (by simp) (by simp) (next_of 1000 ?_)
    have hev : qs.flatMap itQ ++ itE (logI g) s8 = (qs ++ [(logI g, s8)]).flatMap itQ := by
     rw [List.flatMap_append, List.flatMap_singleton]; rfl
    repeat' (simp (maxSteps := 4000000) (disch := omega) only [go_sem, ↓reduceIte, hev, okC, okE, okCs, pkO_some, pkO_lO (ks := [100051]) (k := 2) hl6' (itsE_closed 0 (qs ++ [(logI g, s8)])) z3_closed, pkO_none, okCs_closed (Nat.zero_le _) _ (hrc 0), rens_closed0' _ _ (hrc 0), okCs_closed (Nat.zero_le _) _ (hgc 0), rens_closed0' _ _ (hgc 0)])
    have hB38 := hB3.trans (hB4.trans (hB5.trans (hB6.trans (hB7.trans hB8))))
    have hok' : ∀ a ∈ qs ++ [(logI g, s8)], ItAt B8 a.1 a.2 := fun a ha => by
     rcases List.mem_append.1 ha with h3 | h3
     ·exact (hok a h3).ext hB38
     ·obtain rfl := List.mem_singleton.1 h3
      exact hR8
    have hbd' : (qs ++ [(logI g, s8)]).map Prod.fst = (r.L.take (i + 1)).map logI := by
     rw [htk, List.map_append, List.map_append, hbd]
     rfl
    have cl2 : ∀ n, clO n (lO 79 ((qs ++ [(logI g, s8)]).flatMap itQ) (some (cp, rest))) = True := fun n => clO_lO hl6' (itsE_closed 0 _) z3_closed
    have cl3 : ∀ n, clO n (lO 79 (qs.flatMap itQ ++ itQ (logI g, s8)) (some (cp, rest))) = True := fun n => by have := cl2 n; rwa [List.flatMap_append, List.flatMap_singleton] at this
    exact ⟨(i + 1, some (cp, rest), qs ++ [(logI g, s8)], B8), ⟨hi2, hl6', hB2.trans hB38, hok', hbd'⟩, Weak.sub (weak_of (by simp [wσ, go_sem, closed, closeds, lE_closed, cl3, lE_some, hrc] <;> omega) (by simp [whs, Go.Ew.hget, go_sem, EObj.closed, closed, closeds, lE_closed, cl3, lE_some, hrc]) (by simp [*]) rfl rfl (by simp)), by simp only; omega⟩
   ·simp only [lE_some]
    repeat' (first | with_reducible refine And.intro (by first | omega | (constructor <;> assumption) | (simp; done)) ?_ | simp (maxSteps := 4000000) (disch := omega) only [go_sem, ↓reduceIte, cB, r1, f1, f2, f3, f4, f8, logE_splice h1.ha] | with_reducible refine drawT_of (id := 13) [0, 1, 2, 3, 5, 6, 7, 4, 8, 9, 10, 11, 12, 13, 14] mixed (by kernel_rfl) (by simp) (fun hin => dt_of 1000 hin ?_) | with_reducible refine next_of 1000 ?_)
    refine callT_f (rtext_fn g.ad 20 B5 _ _ hA h1.ha (by omega)) (fun _ => by simp [closed, closeds]) (by kernel_rfl) (ck_of (by kernel_rfl) (nmT_of (by kernel_rfl))) (fun hin2 s5 B6 hB6 hR6 => dt_of 1000 hin2 ?_)
    change BExt B5 B6 at hB6
    repeat' (simp (maxSteps := 4000000) (disch := omega) only [go_sem, ↓reduceIte, r1, f1, f2, f3, f4, f8, logE_splice h1.ha])
    refine callT_f (rtext_fn g.dt g.dn B6 _ _ (h5.dB.ext hB6) h1.hd (by omega)) (fun _ => by simp [closed, closeds]) (by kernel_rfl) (ck_of (by kernel_rfl) (nmT_of (by kernel_rfl))) (fun hin2 s7 B7 hB7 hR7 => dt_of 1000 hin2 ?_)
    change BExt B6 B7 at hB7
    have hR5 : ItAt B5 (Itm.mk 1 [] (qs2.map Prod.fst)) ⟨none, 0, kA, kc⟩ := .mk 1 [] qs2 _ (bytes_any _) (by simp) (hC.ext hB5) (by omega) (fun q hq => (hok2 q hq).ext (hB4.trans hB5))
    repeat' (first | with_reducible refine And.intro (by first | omega | (simp; done)) ?_ | simp (maxSteps := 4000000) (disch := omega) only [go_sem, ↓reduceIte, f1, f2, f3, f4, f8, logE_splice h1.ha])
    refine callT_roc 100048 0 3 3 [] ([(txt g.ad, s5), (Itm.mk 1 [] (qs2.map Prod.fst), ⟨none, 0, kA, kc⟩), (txt g.dt, s7)].flatMap itC) en41 rfl rfl (by simp [itC, ofScalar, Itm.kids, Itm.bytes, Itm.list, hLl2]) (fun s => by simp [closed, closeds]) (fun B ad cap hB hc3 => rlst_fn [(txt g.ad, s5), (Itm.mk 1 [] (qs2.map Prod.fst), ⟨none, 0, kA, kc⟩), (txt g.dt, s7)] 3 B ad cap hc3 (by simp) (fun q hq => by
     simp only [List.mem_cons, List.not_mem_nil, or_false] at hq
     rcases hq with rfl | rfl | rfl
     ·exact hR6.ext (hB7.trans hB)
     ·exact hR5.ext (hB6.trans (hB7.trans hB))
     ·exact hR7.ext hB) rfl) (by kernel_rfl) (ck_of (by kernel_rfl) (nmT_of (by kernel_rfl))) (fun hin2 s8 B8 hB8 hR8 => dt_of 1000 hin2 ?_)
    change BExt B7 B8 at hB8
    have hfin : Itm.mk 1 [] (List.map Prod.fst [(txt g.ad, s5), (Itm.mk 1 [] (qs2.map Prod.fst), (⟨none, 0, kA, kc⟩ : Plc)), (txt g.dt, s7)]) = logI g := by
     simp only [List.map_cons, List.map_nil, hbt]; rfl
    rw [hfin] at hR8
    simp only [hfin]
    repeat' (first | with_reducible refine And.intro (by first | omega | (simp; done)) ?_ | simp (maxSteps := 4000000) (disch := omega) only [go_sem, ↓reduceIte, f1, f2, f3, f4, f8, logE_splice h1.ha])
    refine appT (c := True) (zs := z3) (xs := qs.flatMap itQ) (m := 1) (news := itE (logI g) s8) (T := 79) (l := (some (cp0, rest0))) 51 2 i [100050] rfl rfl Try.underlying77 (.inl ⟨_, Try.underlying77⟩) zr79 cz79 (by simp [z3]) z3_closed rfl rfl rfl hl (by rw [itsE_len, hLl]; rfl) (itsE_closed 0 _) (fun B hs hB hfb => ⟨_, src_own (by rw [hfb 100050 (by simp)]; rfl) rfl, by simp [z3]⟩) rfl (by simp [closeds, closed]) (by simp only [maxLen]; omega) (by rw [show Try.prog.bytesOf 79 = 56 from by79]; omega) (by simp) (by kernel_rfl) (ck_of (by kernel_rfl) (nmT_of (by kernel_rfl))) (fun l6 hl6 => dt_of 1000 (by assumption) ?_)
    have hl6' := hl6
    have hcl6 : closeds 0 (itE (logI g) s8) := by simp [closeds, closed]
    have hE51 := lO_av (T := 79) hl6 (closeds_append.2 ⟨itsE_closed 0 qs, hcl6⟩) z3_closed
    obtain ⟨cp, rest, rfl, -⟩ := lst_some hl6 (by omega)
    simp only [lE_some]
    repeat' (first | with_reducible refine And.intro (by omega) ?_ | simp (maxSteps := 4000000) (disch := omega) only [go_sem, ↓reduceIte])
    refine endT_of (by kernel_rfl) ((nmT_rv [100051] (by kernel_rfl) (by with_unfolding_all (repeat' (first | exact True.intro | exact none_av | exact hE51 | refine And.intro ?_ ?_))))) ?_
    refine packS [100051] 2 (by simp) (by simp) (by simp) (by simp) (next_of 1000 ?_)
    have hev : qs.flatMap itQ ++ itE (logI g) s8 = (qs ++ [(logI g, s8)]).flatMap itQ := by
     rw [List.flatMap_append, List.flatMap_singleton]; rfl
    repeat' (simp (maxSteps := 4000000) (disch := omega) only [go_sem, ↓reduceIte, hev, okC, okE, okCs, pkO_some, pkO_lO (ks := [100051]) (k := 2) hl6' (itsE_closed 0 (qs ++ [(logI g, s8)])) z3_closed, pkO_none, okCs_closed (Nat.zero_le _) _ (hrc 0), rens_closed0' _ _ (hrc 0), okCs_closed (Nat.zero_le _) _ (hgc 0), rens_closed0' _ _ (hgc 0)])
    have hB38 := hB3.trans (hB4.trans (hB5.trans (hB6.trans (hB7.trans hB8))))
    have hok' : ∀ a ∈ qs ++ [(logI g, s8)], ItAt B8 a.1 a.2 := fun a ha => by
     rcases List.mem_append.1 ha with h3 | h3
     ·exact (hok a h3).ext hB38
     ·obtain rfl := List.mem_singleton.1 h3
      exact hR8
    have hbd' : (qs ++ [(logI g, s8)]).map Prod.fst = (r.L.take (i + 1)).map logI := by
     rw [htk, List.map_append, List.map_append, hbd]
     rfl
    have cl2 : ∀ n, clO n (lO 79 ((qs ++ [(logI g, s8)]).flatMap itQ) (some (cp, rest))) = True := fun n => clO_lO hl6' (itsE_closed 0 _) z3_closed
    have cl3 : ∀ n, clO n (lO 79 (qs.flatMap itQ ++ itQ (logI g, s8)) (some (cp, rest))) = True := fun n => by have := cl2 n; rwa [List.flatMap_append, List.flatMap_singleton] at this
    exact ⟨(i + 1, some (cp, rest), qs ++ [(logI g, s8)], B8), ⟨hi2, hl6', hB2.trans hB38, hok', hbd'⟩, Weak.sub (weak_of (by simp [wσ, go_sem, closed, closeds, lE_closed, cl3, lE_some, hrc] <;> omega) (by simp [whs, Go.Ew.hget, go_sem, EObj.closed, closed, closeds, lE_closed, cl3, lE_some, hrc]) (by simp [*]) rfl rfl (by simp)), by simp only; omega⟩
 ·obtain rfl : i = r.L.length := by omega
  have cA : decide ((r.L.length : Int) < (r.L.length : Int)) = false := decide_eq_false (by omega)
  refine freezeL (xs := qs.flatMap itQ) (T := 79) 2 r.L.length rfl hl (by rw [itsE_len, hLl]; rfl) (itsE_closed 0 _) z3_closed (by simp) (fun b2 kA kc B3 hB3 hf2 hD hso hcell => ?_)
  change BExt B2 B3 at hB3
  have hC : CellsAt B3 kA (qs.flatMap itC) := cellsAt_frz hD hso (fun h0 => by
   rw [h0] at hLl; rw [List.length_eq_zero_iff.1 hLl]; rfl) hcell (reals_itQ _ _)
  have hbt : qs.map Prod.fst = r.L.map logI := by rw [hbd, List.take_length]
  simp only [frzσ, frz, hf2, frzh_cons, frzh_nil, fzO_some, EObj.frz, frzs_closed0 _ (hrc 0), frzs, Nat.reduceEqDiff, if_false, if_true, ↓reduceIte, frz_closed0]
  refine freezeS 0 (cs := rcE r) (T := 45) (fr := (0, 0)) rfl (hrc 0) (by simp) (fun b B4 hB4 hbD hbH => next_of 1000 ?_)
  change BExt B3 B4 at hB4
  have hgC : CellsAt B4 (some ⟨b, 0, none⟩) (rcC r) := heap_cells hbD (by rw [← reals_rc]; exact hbH)
  have hA : BytesAt B4 (some ⟨b, 3, none⟩) (blB r.F) := by
   have := hgC.sub 3 256
   simp only [rcC, List.drop_succ_cons, List.drop_zero, List.take_append_of_le_length (show 256 ≤ ((blB r.F).map bV).length by simp [blB_len]), List.take_of_length_le (show ((blB r.F).map bV).length ≤ 256 by simp [blB_len])] at this
   have e : (⟨b, 0, none⟩ : Addr).add 3 = ⟨b, 3, none⟩ := by simp [Addr.add]
   rw [e] at this
   exact this
  obtain ⟨r0, r0d, r0s⟩ := hgC.raw (j := 0) (v := .int .u8 (r.ty.toNat : Int)) rfl
  obtain ⟨r1, r1d, r1s⟩ := hgC.raw (j := 1) (v := .int .i64 r.ok) rfl
  obtain ⟨r2, r2d, r2s⟩ := hgC.raw (j := 2) (v := .int .u64 (r.gas : Int)) rfl
  simp only [adrAt_some, Addr.add, ↓reduceIte, Nat.reduceAdd, Nat.reduceEqDiff, ofScalar, if_false, Nat.zero_add, Nat.one_ne_zero] at r0 r0s r1 r1s r2 r2s
  have hok01 : r.ok = 0 ∨ r.ok = 1 := (mayR_ok' hm)
  repeat' (first | with_reducible refine And.intro (by first | omega | (constructor <;> assumption) | (simp; done)) ?_ | simp (maxSteps := 4000000) (disch := omega) only [go_sem, ↓reduceIte, cA, r0, r1, r2] | with_reducible refine drawT_of (id := 15) [0, 1, 2, 4, 5, 7, 8, 10, 3, 6, 9, 11, 12, 13, 14, 15, 16, 17, 18] mixed (by kernel_rfl) (by simp) (fun hin => dt_of 1000 hin ?_) | with_reducible refine next_of 1000 ?_)
  have ho : ((r.ok.toNat : Nat) : Int) = r.ok := by omega
  have hN1 := rnum_fn r.ok.toNat (by omega) B4
  rw [ho] at hN1
  refine callT_f hN1 (fun _ => by simp [closed, closeds]) (by kernel_rfl) (ck_of (by kernel_rfl) (nmT_of (by kernel_rfl))) (fun hin2 s5 B5 hB5 hR5 => dt_of 1000 hin2 ?_)
  change BExt B4 B5 at hB5
  repeat' (simp (maxSteps := 4000000) (disch := omega) only [go_sem, ↓reduceIte])
  refine callT_f (rnum_fn r.gas hgas B5) (fun _ => by simp [closed, closeds]) (by kernel_rfl) (ck_of (by kernel_rfl) (nmT_of (by kernel_rfl))) (fun hin2 s6 B6 hB6 hR6 => dt_of 1000 hin2 ?_)
  change BExt B5 B6 at hB6
  repeat' (simp (maxSteps := 4000000) (disch := omega) only [go_sem, ↓reduceIte])
  refine callT_f (rtext_fn (blB r.F) 256 B6 _ _ (hA.ext (hB5.trans hB6)) (blB_len _) (by omega)) (fun _ => by simp [closed, closeds]) (by kernel_rfl) (ck_of (by kernel_rfl) (nmT_of (by kernel_rfl))) (fun hin2 s7 B7 hB7 hR7 => dt_of 1000 hin2 ?_)
  change BExt B6 B7 at hB7
  have hB47 := hB5.trans (hB6.trans hB7)
  have hR8 : ItAt B7 (Itm.mk 1 [] (qs.map Prod.fst)) ⟨none, 0, kA, kc⟩ := .mk 1 [] qs _ (bytes_any _) (by simp) (hC.ext (hB4.trans hB47)) (by omega) (fun q hq => (hok q hq).ext (hB3.trans (hB4.trans hB47)))
  repeat' (first | with_reducible refine And.intro (by first | omega | (simp; done)) ?_ | simp (maxSteps := 4000000) (disch := omega) only [go_sem, ↓reduceIte])
  refine callT_roc 100066 0 4 4 [] ([(txt (leB r.ok.toNat), s5), (txt (leB r.gas), s6), (txt (blB r.F), s7), (Itm.mk 1 [] (qs.map Prod.fst), ⟨none, 0, kA, kc⟩)].flatMap itC) en41 rfl rfl (by simp [itC, ofScalar, Itm.kids, Itm.bytes, Itm.list, hLl]) (fun s => by simp [closed, closeds]) (fun B ad cap hB hc3 => rlst_fn [(txt (leB r.ok.toNat), s5), (txt (leB r.gas), s6), (txt (blB r.F), s7), (Itm.mk 1 [] (qs.map Prod.fst), ⟨none, 0, kA, kc⟩)] 4 B ad cap hc3 (by simp) (fun q hq => by
   simp only [List.mem_cons, List.not_mem_nil, or_false] at hq
   rcases hq with rfl | rfl | rfl | rfl
   ·exact hR5.ext (hB6.trans (hB7.trans hB))
   ·exact hR6.ext (hB7.trans hB)
   ·exact hR7.ext hB
   ·exact hR8.ext hB) rfl) (by kernel_rfl) (ck_of (by kernel_rfl) (nmT_of (by kernel_rfl))) (fun hin2 s9 B9 hB9 hR9 => dt_of 1000 hin2 ?_)
  change BExt B7 B9 at hB9
  have hfin : Itm.mk 1 [] (List.map Prod.fst [(txt (leB r.ok.toNat), s5), (txt (leB r.gas), s6), (txt (blB r.F), s7), (Itm.mk 1 [] (qs.map Prod.fst), (⟨none, 0, kA, kc⟩ : Plc))]) = recI r := by
   simp only [List.map_cons, List.map_nil, hbt]; rfl
  rw [hfin] at hR9
  simp only [hfin]
  repeat' (simp (maxSteps := 4000000) (disch := omega) only [go_sem, ↓reduceIte])
  refine callT_f (renc_fn hR9 (chk_rec r) hf) (fun _ => by simp [closed, closeds]) (by kernel_rfl) (ck_of (by kernel_rfl) (nmT_of (by kernel_rfl))) (fun hin2 s10 B10 hB10 hR10 => dt_of 1000 hin2 ?_)
  change BExt B9 B10 at hB10
  have hB4X := hB47.trans (hB9.trans hB10)
  have hBX := hB2.trans (hB3.trans (hB4.trans hB4X))
  obtain ⟨x0, x0d, x0s⟩ := (hgC.ext hB4X).raw (j := 0) (v := .int .u8 (r.ty.toNat : Int)) rfl
  simp only [adrAt_some, Addr.add, ↓reduceIte, ofScalar] at x0 x0s
  have hty := r.ty.toNat_lt
  have xD : B10.D b := x0d
  by_cases ht0 : r.ty = 0
  ·have he : encR r = form (recI r) := by rw [encR, if_pos ht0, List.nil_append]
   have cT : decide ((0 : Int) < (r.ty.toNat : Int)) = false := decide_eq_false (by rw [ht0]; decide)
   rw [he]
   repeat' (first | with_reducible refine And.intro (by first | omega | (constructor <;> assumption)) ?_ | simp (maxSteps := 4000000) (disch := omega) only [go_sem, ↓reduceIte, x0, cT] | with_reducible refine endT_of (by kernel_rfl) (nmT_of (by kernel_rfl)) (next_of 1000 ?_))
   first | exact ⟨hBX, s10, rfl, by simp [closed, closeds], hR10⟩ | exact ⟨s10, rfl, by simp [closed, closeds], hR10⟩ | exact ⟨hBX, s10, by simp [closed, closeds], hR10⟩ | exact ⟨s10, by simp [closed, closeds], hR10⟩ | exact ⟨hBX, s10, by simp [closed, closeds, bytes_any]⟩ | exact ⟨s10, by simp [closed, closeds, bytes_any]⟩
  ·have he : encR r = r.ty :: form (recI r) := by rw [encR, if_neg ht0]; rfl
   have htn : r.ty.toNat ≠ 0 := fun h0 => ht0 (UInt8.toNat_inj.1 (by rw [h0]; rfl))
   have cT : decide ((0 : Int) < (r.ty.toNat : Int)) = true := decide_eq_true (by omega)
   rw [he]
   repeat' (first | with_reducible refine And.intro (by first | omega | (constructor <;> assumption) | (simp; done)) ?_ | simp (maxSteps := 4000000) (disch := omega) only [go_sem, ↓reduceIte, x0, cT] | with_reducible refine endT_of (by kernel_rfl) (nmT_of (by kernel_rfl)) (next_of 1000 ?_))
   refine appB (T := 5) (l := some (1, [])) (xs := [r.ty]) 200000 1 (form (recI r)) rfl Try.underlying23 (.inl ⟨_, Try.underlying23⟩) zr5 cz5 by5 rfl rfl rfl (by simp [lOk, maxLen]) (hR10.1.src _) (by omega) (fun l7 hl7 => ?_)
   refine freezeB (xs := [r.ty] ++ form (recI r)) (T := 5) 200001 (1 + (form (recI r)).length) rfl (by rw [List.length_append]; rfl) hl7 (by simp) (fun b3 ad3 cap3 B11 hB11 hfz hbY hcap3 => next_of 1000 ?_)
   change BExt B10 B11 at hB11
   repeat' (simp (maxSteps := 4000000) (disch := omega) only [go_sem, ↓reduceIte, hfz])
   rw [show 1 + (form (recI r)).length = (form (recI r)).length + 1 from Nat.add_comm _ _]
   exact ⟨hBX.trans hB11, (ad3, cap3), rfl, ⟨trivial, trivial, trivial⟩, hbY, by simp only; omega⟩
end Go.Proofs.Ytepabkjfnpaijaa
namespace Go.Proofs.Ytepabkjfnpaijaa
open Go RowKit Go.Ew
set_option maxHeartbeats 1000000
theorem hd_le9 {base n : Nat} (h : n < 4611686018427387904) : (hd base n).length ≤ 9 := (hd_le h).2
theorem form_txt_le {p : List UInt8} (h : p.length < 4611686018427387904) : (form (txt p)).length ≤ 9 + p.length := by
 have n10 : ((0 : Int) = 1) = False := by simp
 have h9 := hd_le9 (base := 128) h
 simp only [txt, form, n10, if_false]
 split
 ·omega
 ·rw [List.length_append]; omega
theorem form_lst_le {ks : List Itm} (h : (formL ks).length < 4611686018427387904) : (form (lst ks)).length ≤ 9 + (formL ks).length := by
 have h9 := hd_le9 (base := 192) h
 simp only [lst, form, ↓reduceIte]
 rw [List.length_append]; omega
theorem formL_tops : ∀ {ps : List (List UInt8)}, (∀ p ∈ ps, p.length = 32) → (formL (ps.map txt)).length ≤ 41 * ps.length
 | [], _ => by simp [formL]
 | p :: ps, h => by
  have h1 := formL_tops (ps := ps) (fun q hq => h q (by simp [hq]))
  have h2 := h p (by simp)
  have h3 := form_txt_le (p := p) (by omega)
  rw [List.map_cons, formL, List.length_append, List.length_cons]; omega
theorem form_log_le {B : Base} {g : LogV} (h : g.Ok B) : (form (logI g)).length ≤ 155 * (1 + (g.tn + g.dn / 100)) := by
 have htb := h.tb
 have hdb := h.db
 have hdd := h.hd
 have ha := h.ha
 have h1 := formL_tops (ps := g.tops) (fun q hq => top_mem h hq)
 rw [tops_len] at h1
 have h2 := form_lst_le (ks := g.tops.map txt) (by omega)
 have h3 := form_txt_le (p := g.ad) (by omega)
 have h4 := form_txt_le (p := g.dt) (by omega)
 have e : (formL [txt g.ad, lst (g.tops.map txt), txt g.dt]).length = (form (txt g.ad)).length + ((form (lst (g.tops.map txt))).length + (form (txt g.dt)).length) := by
  simp only [formL, List.length_append, List.length_nil, Nat.add_zero]
 have h5 := form_lst_le (ks := [txt g.ad, lst (g.tops.map txt), txt g.dt]) (by omega)
 rw [logI]
 omega
theorem formL_logs {B : Base} : ∀ {L : List LogV}, (∀ g ∈ L, g.Ok B) → (formL (L.map logI)).length ≤ 155 * (L.length + fewS L)
 | [], _ => by simp [formL]
 | g :: L, h => by
  have h1 := formL_logs (L := L) (fun q hq => h q (by simp [hq]))
  have h2 := form_log_le (h g (by simp))
  rw [List.map_cons, formL, List.length_append, List.length_cons, fewS]; omega
theorem form_rec_le {B : Base} {r : RcV} (h : LogsAt B r.lA r.L) (hok : r.ok.toNat < 18446744073709551616) (hgas : r.gas < 18446744073709551616) (hf : r.L.length + fewS r.L ≤ 500) : (form (recI r)).length ≤ 100000 := by
 have h1 := formL_logs h.ok
 have h2 := form_lst_le (ks := r.L.map logI) (by omega)
 have h3 := form_txt_le (p := leB r.ok.toNat) (by have := nby_8 hok; have := leB_len r.ok.toNat; omega)
 have h4 := form_txt_le (p := leB r.gas) (by have := nby_8 hgas; have := leB_len r.gas; omega)
 have h5 := form_txt_le (p := blB r.F) (by have := blB_len r.F; omega)
 have g1 := nby_8 hok
 have g2 := leB_len r.ok.toNat
 have g3 := nby_8 hgas
 have g4 := leB_len r.gas
 have g5 := blB_len r.F
 have e : (formL [txt (leB r.ok.toNat), txt (leB r.gas), txt (blB r.F), lst (r.L.map logI)]).length = (form (txt (leB r.ok.toNat))).length + ((form (txt (leB r.gas))).length + ((form (txt (blB r.F))).length + (form (lst (r.L.map logI))).length)) := by
  simp only [formL, List.length_append, List.length_nil, Nat.add_zero]
 have h6 := form_lst_le (ks := [txt (leB r.ok.toNat), txt (leB r.gas), txt (blB r.F), lst (r.L.map logI)]) (by omega)
 rw [recI]
 omega
theorem encR_len (r : RcV) : (encR r).length ≤ (form (recI r)).length + 1 := by
 rw [encR, List.length_append]; split <;> simp <;> omega
end Go.Proofs.Ytepabkjfnpaijaa
namespace Go.Proofs.Ytepabkjfnpaijaa
open Go RowKit Go.Ew
set_option maxHeartbeats 4000000
theorem numEq (a b : List UInt8) : (List.map EV.num (a.map bE) == List.map EV.num (b.map bE)) = decide (a = b) := by
 have e : ∀ l : List UInt8, List.map EV.num (l.map bE) = l.map (fun x => (x.toNat : Int)) := fun l => by simp [bE, EV.num, Function.comp_def]
 rw [Bool.eq_iff_iff, beq_iff_eq, decide_eq_true_eq, e, e]
 refine ⟨fun h => ?_, fun h => by rw [h]⟩
 exact (List.map_inj_right (fun x y h => UInt8.toNat_inj.1 (Int.ofNat_inj.1 h))).1 h
theorem bE_isInt (l : List UInt8) : (l.map bE).all (EV.isInt .u8) = true := by simp [bE, EV.isInt]
end Go.Proofs.Ytepabkjfnpaijaa
