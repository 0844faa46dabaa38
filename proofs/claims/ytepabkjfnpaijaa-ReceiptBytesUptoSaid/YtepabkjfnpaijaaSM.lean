/- Part of a proof over the seat Ytepabkjfnpaijaa. -/
import Derived.Test.YtepabkjfnpaijaaSL
import Derived.Test.YtepabkjfnpaijaaG23
import Derived.Test.YtepabkjfnpaijaaG24
import Derived.Test.YtepabkjfnpaijaaPI
import Derived.Test.YtepabkjfnpaijaaG11
set_option linter.unusedSimpArgs false
set_option linter.unusedVariables false
set_option maxRecDepth 100000
namespace Go.Proofs.Ytepabkjfnpaijaa
open Go RowKit Go.Ew
set_option maxHeartbeats 8000000
theorem in5 : codeIn Try.f5.ntmps (Try.f5.body.getD .skip) = true := by kernel_rfl
attribute [-go_sem] zr45
theorem rc_splice0 (r r' : RcV) : splice (rcE r) 0 (rcE r') = rcE r' := splice_all (by rw [rc_len, rc_len]) (by rw [rc_len]; omega)
theorem zero_rc : rcX (.int .u8 0) (.int .i64 0) (.int .u64 0) zbl (.raw (.slice none 0 0)) = rcE ⟨0, 0, 0, blmOf zbl, none, 0, []⟩ := rcX_rc 0 0 0 zbl_len none 0 []
theorem logI_body {g g' : LogV} (h : g.body = g'.body) : logI g = logI g' := by
 simp only [LogV.body, Prod.mk.injEq] at h
 obtain ⟨h1, h2, h3, h4⟩ := h
 have ht : g.tops = g'.tops := by
  simp only [LogV.tops, h2]
  exact List.map_congr_left fun k _ => by simp only [LogV.top, h3]
 simp only [logI, h1, ht, h4]
theorem encR_body {r r' : RcV} (h1 : r'.ty = r.ty) (h2 : r'.ok = r.ok) (h3 : r'.gas = r.gas) (h4 : r'.F = r.F) (h : r'.L.map LogV.body = r.L.map LogV.body) : recI r' = recI r ∧ encR r' = encR r := by
 have hl : r'.L.map logI = r.L.map logI := by
  have hlen : r'.L.length = r.L.length := by have := congrArg List.length h; simpa using this
  apply List.ext_getElem (by simp [hlen])
  intro i a b
  rw [List.getElem_map, List.getElem_map]
  apply logI_body
  have := congrArg (fun l => l[i]?) h
  simp only [List.length_map] at a b
  simpa only [List.getElem?_map, List.getElem?_eq_getElem a, List.getElem?_eq_getElem b, Option.map_some, Option.some.injEq] using this
 have e : recI r' = recI r := by rw [recI, recI, h2, h3, h4, hl]
 exact ⟨e, by rw [encR, encR, h1, e]⟩
theorem rc_set259 (r : RcV) (v : Option Addr) (n c : Nat) (L : List LogV) (h : L.length = n) : (rcE r).set 259 (.raw (.slice v n c)) = rcE ⟨r.ty, r.ok, r.gas, r.F, v, c, L⟩ := by
 have e : (rcE r) = [.int .u8 (r.ty.toNat : Int), .int .i64 r.ok, .int .u64 (r.gas : Int)] ++ (ints .u8 (fB r.F) 256 ++ [.raw (.slice r.lA r.L.length r.lc)]) := rfl
 rw [e, List.set_append_right _ _ (by simp), List.set_append_right _ _ (by simp [ints_len])]
 simp only [List.length_cons, List.length_nil, ints_len, Nat.reduceAdd, Nat.reduceSub, List.set_cons_zero]
 rw [← h]; rfl
theorem law_bytes (W : World) (r : RcV) (b : List UInt8) (n : Nat) (ad : Option Addr) (cap : Nat) (hL : LogsAt (base W) r.lA r.L) (hgas : r.gas < 18446744073709551616) (hb : BytesAt (base W) ad b) (hn : b.length = n) (hcap : n ≤ cap) (hsm : n ≤ 1048576) :
  Calls Try.prog 5 (reals (fun _ => 0) [.agg (rcE r), .raw (.slice ad n cap)]).toArray W (Ret (.bool true) W) := by
 refine pure_callsX [.agg (rcE r), .raw (.slice ad n cap)] Try.func5 rfl in5 (by simp [Try.f5]) ⟨rc_closed 0 r, by simp [closed, closeds]⟩ (next_of 1000 ?_)
 have hcl : ∀ n r, closeds n (rcE r) := fun n r => rc_closed n r
 have hfew := few_fn r.L r.L.length _ r.lA r.lc hL rfl
 repeat' (first | with_reducible refine And.intro (by omega) ?_ | simp (maxSteps := 4000000) (disch := omega) only [go_sem, ↓reduceIte, Try.f5, rc_len, rc_0, rc_1, rc_2, rc_259, rc_all, rc_one, hcl] | refine callS_fp (awake_fn _) (by simp [closed, closeds, closeds_ints, closed_wE]) (next_of 1000 ?_))
 cases hbf : decide (r.L.length + fewS r.L ≤ 500) with
 | false =>
  rw [hbf] at hfew
  repeat' (first | simp (maxSteps := 4000000) (disch := omega) only [go_sem, ↓reduceIte] | refine callS_fp (hfew) (by simp [closed, closeds, closeds_ints, closed_wE]) (next_of 1000 ?_))
  exact ⟨BExt.refl _, fun bs => rfl⟩
 | true =>
  rw [hbf] at hfew
  have hle : r.L.length + fewS r.L ≤ 500 := of_decide_eq_true hbf
  by_cases h2 : n ≤ 20000
  ·have c1 : decide ((20000 : Int) < (n : Int)) = false := decide_eq_false (by omega)
   repeat' (first | with_reducible refine And.intro (by omega) ?_ | simp (maxSteps := 4000000) (disch := omega) only [go_sem, ↓reduceIte, c1, rc_len, rc_0, rc_1, rc_2, rc_259, rc_all, rc_one, rc_splice0, hcl, zero_rc, zrR] | refine callS_fp (hfew) (by simp [closed, closeds, closeds_ints, closed_wE]) (next_of 1000 ?_))
   refine callS_f (twin_fn r.L r.L.length _ r.lA r.lc hL rfl) (fun _ => by simp [closed]) (fun s1 B1 hB1 hR1 => next_of 1000 ?_)
   change BExt (base W) B1 at hB1
   obtain ⟨tA, tc, L'⟩ := s1
   obtain ⟨hLt, hbd⟩ := hR1
   simp only at hLt hbd
   have hLl : L'.length = r.L.length := by have := congrArg List.length hbd; simpa using this
   have hset := rc_set259 r tA r.L.length tc L' hLl
   obtain ⟨r', hr'⟩ : ∃ r' : RcV, r' = ⟨r.ty, r.ok, r.gas, r.F, tA, tc, L'⟩ := ⟨_, rfl⟩
   rw [← hr'] at hset
   have hL' : LogsAt B1 r'.lA r'.L := by rw [hr']; exact hLt
   have hgas' : r'.gas < 18446744073709551616 := by rw [hr']; exact hgas
   obtain ⟨hI, hE⟩ := encR_body (r := r) (r' := r') (by rw [hr']) (by rw [hr']) (by rw [hr']) (by rw [hr']) (by rw [hr']; exact hbd)
   have hmm : mayR r' = mayR r := by
    rw [mayR_body, mayR_body]
    congr 1
    simp only [RcV.body, hr', hbd]
   repeat' (first | with_reducible refine And.intro (by omega) ?_ | simp (maxSteps := 4000000) (disch := omega) only [go_sem, ↓reduceIte, c1, rc_len, rc_0, rc_1, rc_2, rc_259, rc_all, rc_one, rc_splice0, hcl, hset, zero_rc, zrR])
   cases hmr : mayR r with
   | false =>
    rw [hmr] at hmm
    refine callS_f (encno_fn hL' hmm) (fun _ => by simp [closed, closeds]) (fun _ B2 hB2 _ => next_of 1000 ?_)
    change BExt B1 B2 at hB2
    repeat' (simp (maxSteps := 4000000) (disch := omega) only [go_sem, ↓reduceIte, c1, rc_len, rc_0, rc_1, rc_2, rc_259, rc_all, rc_one, rc_splice0, hcl, hset, zero_rc, zrR])
    refine callS_f (rencno_fn (hL.ext (hB1.trans hB2)) hmr) (fun _ => by simp [closed, closeds]) (fun _ B3 hB3 _ => next_of 1000 ?_)
    change BExt B2 B3 at hB3
    repeat' (simp (maxSteps := 4000000) (disch := omega) only [go_sem, ↓reduceIte, c1, rc_len, rc_0, rc_1, rc_2, rc_259, rc_all, rc_one, rc_splice0, hcl, hset, zero_rc, zrR])
    refine strBS [] rfl Try.underlying23 Try.underlying5 Try.underlying9 rfl rfl (bytes_any none) (next_of 1000 ?_)
    repeat' (simp (maxSteps := 4000000) (disch := omega) only [go_sem, ↓reduceIte, c1, rc_len, rc_0, rc_1, rc_2, rc_259, rc_all, rc_one, rc_splice0, hcl, hset, zero_rc, zrR])
    refine strBS [] rfl Try.underlying23 Try.underlying5 Try.underlying9 rfl rfl (bytes_any none) (next_of 1000 ?_)
    repeat' (simp (maxSteps := 4000000) (disch := omega) only [go_sem, ↓reduceIte, c1, rc_len, rc_0, rc_1, rc_2, rc_259, rc_all, rc_one, rc_splice0, hcl, hset, zero_rc, zrR, bne, beq_self_eq_true, Bool.not_true])
    have hb0 := hb.ext (hB1.trans (hB2.trans hB3))
    refine appF (T := 5) (m := n) (cs := b.map bV) 1 rfl Try.underlying23 (.inl ⟨_, Try.underlying23⟩) zr5 cz5 rfl (by omega) hz8 rfl (CellsAt.src hb0 (by omega) (by simp; omega) _) (by simp; omega) (by rw [ofS_bV]; exact bE_one _) (by simp only [maxLen]; omega) (by rw [show Try.prog.bytesOf 5 = 1 from by5]; omega) (fun dA dc B6 hB6 hcd hcapd => next_of 1000 ?_)
    change BExt B3 B6 at hB6
    repeat' (simp (maxSteps := 4000000) (disch := omega) only [go_sem, ↓reduceIte, c1, rc_len, rc_0, rc_1, rc_2, rc_259, rc_all, rc_one, rc_splice0, hcl, hset, zero_rc, zrR])
    refine callS_f (decR_fn b n B6 dA dc hcd hn (by omega) (by omega) (by omega)) (fun _ => ⟨rc_closed 0 _, by simp [closed, closeds]⟩) (fun c B7 hB7 hR7 => next_of 1000 ?_)
    change BExt B6 B7 at hB7
    obtain ⟨hcL, hcb, hcg⟩ := hR7
    have hb7 := hb0.ext (hB6.trans hB7)
    repeat' (simp (maxSteps := 4000000) (disch := omega) only [go_sem, ↓reduceIte, c1, rc_len, rc_0, rc_1, rc_2, rc_259, rc_all, rc_one, rc_splice0, hcl, hset, zero_rc, zrR])
    refine callS_f (rdecR_fn b n B7 ad cap hb7 hn hcap (by omega) (by omega)) (fun _ => ⟨rc_closed 0 _, by simp [closed, closeds]⟩) (fun d B8 hB8 hR8 => next_of 1000 ?_)
    change BExt B7 B8 at hB8
    obtain ⟨hdL, hdb, hdg⟩ := hR8
    have hsame := same_fn c d (hcL.ext hB8) hdL (by rw [hcb, hdb])
    obtain ⟨E, hE⟩ : ∃ E, E = (recD b).2 := ⟨_, rfl⟩
    rw [← hE]
    have hEE : (((E : Nat) : Int) == ((E : Nat) : Int)) = true := beq_self_eq_true _
    repeat' (first | simp (maxSteps := 4000000) (disch := omega) only [go_sem, ↓reduceIte, hEE, c1, rc_len, rc_0, rc_1, rc_2, rc_259, rc_all, rc_one, rc_splice0, hcl, hset, zero_rc, zrR] | refine callS_fp (hsame) (by simp [closed, closeds, closeds_ints, closed_wE]) (next_of 1000 ?_))
    exact ⟨(hB1.trans (hB2.trans hB3)).trans (hB6.trans (hB7.trans hB8)), fun bs => rfl⟩
   | true =>
    rw [hmr] at hmm
    have hok' : r.ok.toNat < 18446744073709551616 := by have := (mayR_ok hmr).2; omega
    have hfl := form_rec_le hL hok' hgas hle
    have hel := encR_len r
    refine callS_f (encr_fn hL' hmm hgas' (by rw [hI]; omega)) (fun _ => by simp [closed, closeds]) (fun s2 B2 hB2 hR2 => next_of 1000 ?_)
    change BExt B1 B2 at hB2
    rw [hE] at hR2 ⊢
    repeat' (simp (maxSteps := 4000000) (disch := omega) only [go_sem, ↓reduceIte, c1, rc_len, rc_0, rc_1, rc_2, rc_259, rc_all, rc_one, rc_splice0, hcl, hset, zero_rc, zrR])
    refine callS_f (rencr_fn (hL.ext (hB1.trans hB2)) hmr hgas (by omega)) (fun _ => by simp [closed, closeds]) (fun s3 B3 hB3 hR3 => next_of 1000 ?_)
    change BExt B2 B3 at hB3
    repeat' (simp (maxSteps := 4000000) (disch := omega) only [go_sem, ↓reduceIte, c1, rc_len, rc_0, rc_1, rc_2, rc_259, rc_all, rc_one, rc_splice0, hcl, hset, zero_rc, zrR])
    refine strBS (encR r) rfl Try.underlying23 Try.underlying5 Try.underlying9 rfl rfl (hR2.1.ext hB3) (next_of 1000 ?_)
    repeat' (simp (maxSteps := 4000000) (disch := omega) only [go_sem, ↓reduceIte, c1, rc_len, rc_0, rc_1, rc_2, rc_259, rc_all, rc_one, rc_splice0, hcl, hset, zero_rc, zrR])
    refine strBS (encR r) rfl Try.underlying23 Try.underlying5 Try.underlying9 rfl rfl hR3.1 (next_of 1000 ?_)
    repeat' (simp (maxSteps := 4000000) (disch := omega) only [go_sem, ↓reduceIte, c1, rc_len, rc_0, rc_1, rc_2, rc_259, rc_all, rc_one, rc_splice0, hcl, hset, zero_rc, zrR, bne, beq_self_eq_true, Bool.not_true])
    have hb0 := hb.ext (hB1.trans (hB2.trans hB3))
    refine appF (T := 5) (m := n) (cs := b.map bV) 1 rfl Try.underlying23 (.inl ⟨_, Try.underlying23⟩) zr5 cz5 rfl (by omega) hz8 rfl (CellsAt.src hb0 (by omega) (by simp; omega) _) (by simp; omega) (by rw [ofS_bV]; exact bE_one _) (by simp only [maxLen]; omega) (by rw [show Try.prog.bytesOf 5 = 1 from by5]; omega) (fun dA dc B6 hB6 hcd hcapd => next_of 1000 ?_)
    change BExt B3 B6 at hB6
    repeat' (simp (maxSteps := 4000000) (disch := omega) only [go_sem, ↓reduceIte, c1, rc_len, rc_0, rc_1, rc_2, rc_259, rc_all, rc_one, rc_splice0, hcl, hset, zero_rc, zrR])
    refine callS_f (decR_fn b n B6 dA dc hcd hn (by omega) (by omega) (by omega)) (fun _ => ⟨rc_closed 0 _, by simp [closed, closeds]⟩) (fun c B7 hB7 hR7 => next_of 1000 ?_)
    change BExt B6 B7 at hB7
    obtain ⟨hcL, hcb, hcg⟩ := hR7
    have hb7 := hb0.ext (hB6.trans hB7)
    repeat' (simp (maxSteps := 4000000) (disch := omega) only [go_sem, ↓reduceIte, c1, rc_len, rc_0, rc_1, rc_2, rc_259, rc_all, rc_one, rc_splice0, hcl, hset, zero_rc, zrR])
    refine callS_f (rdecR_fn b n B7 ad cap hb7 hn hcap (by omega) (by omega)) (fun _ => ⟨rc_closed 0 _, by simp [closed, closeds]⟩) (fun d B8 hB8 hR8 => next_of 1000 ?_)
    change BExt B7 B8 at hB8
    obtain ⟨hdL, hdb, hdg⟩ := hR8
    have hsame := same_fn c d (hcL.ext hB8) hdL (by rw [hcb, hdb])
    obtain ⟨E, hE⟩ : ∃ E, E = (recD b).2 := ⟨_, rfl⟩
    rw [← hE]
    have hEE : (((E : Nat) : Int) == ((E : Nat) : Int)) = true := beq_self_eq_true _
    repeat' (first | simp (maxSteps := 4000000) (disch := omega) only [go_sem, ↓reduceIte, hEE, c1, rc_len, rc_0, rc_1, rc_2, rc_259, rc_all, rc_one, rc_splice0, hcl, hset, zero_rc, zrR] | refine callS_fp (hsame) (by simp [closed, closeds, closeds_ints, closed_wE]) (next_of 1000 ?_))
    exact ⟨(hB1.trans (hB2.trans hB3)).trans (hB6.trans (hB7.trans hB8)), fun bs => rfl⟩
  ·have c1 : decide ((20000 : Int) < (n : Int)) = true := decide_eq_true (by omega)
   repeat' (first | simp (maxSteps := 4000000) (disch := omega) only [go_sem, ↓reduceIte, c1] | refine callS_fp (hfew) (by simp [closed, closeds, closeds_ints, closed_wE]) (next_of 1000 ?_))
   exact ⟨BExt.refl _, fun bs => rfl⟩
end Go.Proofs.Ytepabkjfnpaijaa
