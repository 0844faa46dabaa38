/- Part of a proof over the seat Ytepabkjfnpaijaa. -/
import Derived.Test.YtepabkjfnpaijaaND
namespace Go.Proofs.Ytepabkjfnpaijaa
open Go RowKit Go.Ew
set_option maxRecDepth 100000
set_option linter.unusedSimpArgs false
set_option linter.unusedVariables false
set_option maxHeartbeats 4000000
theorem in18 : codeIn Try.f18.ntmps (Try.f18.body.getD .skip) = true := by kernel_rfl
theorem in17 : codeIn Try.f17.ntmps (Try.f17.body.getD .skip) = true := by kernel_rfl
theorem rcC_len (r : RcV) : (rcC r).length = 260 := by simp [rcC, blB_len]
theorem rcC_E (r : RcV) : (rcC r).map ofScalar = rcE r := by
  simp only [rcE, rcC, ← blB_bE, List.map_cons, List.map_append, ofS_bV, List.map_nil, ofScalar]
structure RcsAt (B : Base) (ad : Option Addr) (Rs : List RcV) : Prop where
  c : CellsAt B ad (Rs.flatMap rcC)
  ok : ∀ r ∈ Rs, LogsAt B r.lA r.L
  len : Rs.length ≤ 1048576
theorem RcsAt.ext {B B' : Base} {ad : Option Addr} {Rs : List RcV} (h : RcsAt B ad Rs) (e : BExt B B') : RcsAt B' ad Rs := ⟨h.c.ext e, fun g hg => (h.ok g hg).ext e, h.len⟩
theorem RcsAt.ld {B : Base} {ad : Option Addr} {Rs : List RcV} (h : RcsAt B ad Rs) {i : Nat} (hi : i < Rs.length) :
    rawCells B (adrAt ad (i * 260)) 260 = rcE Rs[i] ∧ B.D (adr ad).block ∧ LiveAt B (adrAt ad (i * 260)) 260 ∧ ad.isSome = true := by
  have e : ∀ j, (adrAt ad (i * 260)).add j = adrAt ad (i * 260 + j) := fun j => by unfold adrAt; rw [add_add]
  have hl := rcC_len Rs[i]
  have hg : ∀ j (hj : j < 260), rawCell B (adrAt ad (i * 260 + j)) = ofScalar ((rcC Rs[i])[j]'(by omega)) ∧ B.D (adr ad).block ∧ (B.w.cell? (adrAt ad (i * 260 + j))).isSome = true := fun j hj =>
    h.c.raw (by rw [flat_get (k := 260) (fun a ha => rcC_len a) hi hj, List.getElem?_eq_getElem (by omega)])
  refine ⟨?_, (hg 0 (by omega)).2.1, fun j hj => by rw [e]; exact (hg j hj).2.2, h.c.so (by rw [flat_len (k := 260) (fun a ha => rcC_len a)]; omega)⟩
  rw [← rcC_E]
  unfold rawCells
  apply List.ext_getElem (by simp [hl])
  intro j h1 h2
  simp only [List.length_map, List.length_range] at h1
  simp only [List.getElem_map, List.getElem_range, e]
  exact (hg j h1).1
theorem rc_splice (r : RcV) : splice [EV.int .u8 0, EV.int .i64 0, EV.int .u64 0, EV.int .u8 0, EV.int .u8 0, EV.int .u8 0, EV.int .u8 0, EV.int .u8 0, EV.int .u8 0, EV.int .u8 0, EV.int .u8 0, EV.int .u8 0, EV.int .u8 0, EV.int .u8 0, EV.int .u8 0, EV.int .u8 0, EV.int .u8 0, EV.int .u8 0, EV.int .u8 0, EV.int .u8 0, EV.int .u8 0, EV.int .u8 0, EV.int .u8 0, EV.int .u8 0, EV.int .u8 0, EV.int .u8 0, EV.int .u8 0, EV.int .u8 0, EV.int .u8 0, EV.int .u8 0, EV.int .u8 0, EV.int .u8 0, EV.int .u8 0, EV.int .u8 0, EV.int .u8 0, EV.int .u8 0, EV.int .u8 0, EV.int .u8 0, EV.int .u8 0, EV.int .u8 0, EV.int .u8 0, EV.int .u8 0, EV.int .u8 0, EV.int .u8 0, EV.int .u8 0, EV.int .u8 0, EV.int .u8 0, EV.int .u8 0, EV.int .u8 0, EV.int .u8 0, EV.int .u8 0, EV.int .u8 0, EV.int .u8 0, EV.int .u8 0, EV.int .u8 0, EV.int .u8 0, EV.int .u8 0, EV.int .u8 0, EV.int .u8 0, EV.int .u8 0, EV.int .u8 0, EV.int .u8 0, EV.int .u8 0, EV.int .u8 0, EV.int .u8 0, EV.int .u8 0, EV.int .u8 0, EV.int .u8 0, EV.int .u8 0, EV.int .u8 0, EV.int .u8 0, EV.int .u8 0, EV.int .u8 0, EV.int .u8 0, EV.int .u8 0, EV.int .u8 0, EV.int .u8 0, EV.int .u8 0, EV.int .u8 0, EV.int .u8 0, EV.int .u8 0, EV.int .u8 0, EV.int .u8 0, EV.int .u8 0, EV.int .u8 0, EV.int .u8 0, EV.int .u8 0, EV.int .u8 0, EV.int .u8 0, EV.int .u8 0, EV.int .u8 0, EV.int .u8 0, EV.int .u8 0, EV.int .u8 0, EV.int .u8 0, EV.int .u8 0, EV.int .u8 0, EV.int .u8 0, EV.int .u8 0, EV.int .u8 0, EV.int .u8 0, EV.int .u8 0, EV.int .u8 0, EV.int .u8 0, EV.int .u8 0, EV.int .u8 0, EV.int .u8 0, EV.int .u8 0, EV.int .u8 0, EV.int .u8 0, EV.int .u8 0, EV.int .u8 0, EV.int .u8 0, EV.int .u8 0, EV.int .u8 0, EV.int .u8 0, EV.int .u8 0, EV.int .u8 0, EV.int .u8 0, EV.int .u8 0, EV.int .u8 0, EV.int .u8 0, EV.int .u8 0, EV.int .u8 0, EV.int .u8 0, EV.int .u8 0, EV.int .u8 0, EV.int .u8 0, EV.int .u8 0, EV.int .u8 0, EV.int .u8 0, EV.int .u8 0, EV.int .u8 0, EV.int .u8 0, EV.int .u8 0, EV.int .u8 0, EV.int .u8 0, EV.int .u8 0, EV.int .u8 0, EV.int .u8 0, EV.int .u8 0, EV.int .u8 0, EV.int .u8 0, EV.int .u8 0, EV.int .u8 0, EV.int .u8 0, EV.int .u8 0, EV.int .u8 0, EV.int .u8 0, EV.int .u8 0, EV.int .u8 0, EV.int .u8 0, EV.int .u8 0, EV.int .u8 0, EV.int .u8 0, EV.int .u8 0, EV.int .u8 0, EV.int .u8 0, EV.int .u8 0, EV.int .u8 0, EV.int .u8 0, EV.int .u8 0, EV.int .u8 0, EV.int .u8 0, EV.int .u8 0, EV.int .u8 0, EV.int .u8 0, EV.int .u8 0, EV.int .u8 0, EV.int .u8 0, EV.int .u8 0, EV.int .u8 0, EV.int .u8 0, EV.int .u8 0, EV.int .u8 0, EV.int .u8 0, EV.int .u8 0, EV.int .u8 0, EV.int .u8 0, EV.int .u8 0, EV.int .u8 0, EV.int .u8 0, EV.int .u8 0, EV.int .u8 0, EV.int .u8 0, EV.int .u8 0, EV.int .u8 0, EV.int .u8 0, EV.int .u8 0, EV.int .u8 0, EV.int .u8 0, EV.int .u8 0, EV.int .u8 0, EV.int .u8 0, EV.int .u8 0, EV.int .u8 0, EV.int .u8 0, EV.int .u8 0, EV.int .u8 0, EV.int .u8 0, EV.int .u8 0, EV.int .u8 0, EV.int .u8 0, EV.int .u8 0, EV.int .u8 0, EV.int .u8 0, EV.int .u8 0, EV.int .u8 0, EV.int .u8 0, EV.int .u8 0, EV.int .u8 0, EV.int .u8 0, EV.int .u8 0, EV.int .u8 0, EV.int .u8 0, EV.int .u8 0, EV.int .u8 0, EV.int .u8 0, EV.int .u8 0, EV.int .u8 0, EV.int .u8 0, EV.int .u8 0, EV.int .u8 0, EV.int .u8 0, EV.int .u8 0, EV.int .u8 0, EV.int .u8 0, EV.int .u8 0, EV.int .u8 0, EV.int .u8 0, EV.int .u8 0, EV.int .u8 0, EV.int .u8 0, EV.int .u8 0, EV.int .u8 0, EV.int .u8 0, EV.int .u8 0, EV.int .u8 0, EV.int .u8 0, EV.int .u8 0, EV.int .u8 0, EV.int .u8 0, EV.int .u8 0, EV.int .u8 0, EV.int .u8 0, EV.int .u8 0, EV.int .u8 0, EV.int .u8 0, EV.int .u8 0, EV.int .u8 0, EV.int .u8 0, EV.int .u8 0, EV.int .u8 0, EV.int .u8 0, EV.int .u8 0, EV.int .u8 0, EV.int .u8 0, EV.int .u8 0, EV.int .u8 0, EV.raw (.slice none 0 0)] 0 (rcE r) = rcE r := splice_all (by rw [rc_len]; rfl) (by rw [rc_len]; omega)
/-- The logs that are looked for. -/
def findL (A : List (List UInt8)) (T : List (List (List UInt8))) (Rs : List RcV) : List LogV := Rs.flatMap fun r => r.L.filter (lookB A T)
theorem findL_take (A : List (List UInt8)) (T : List (List (List UInt8))) {Rs : List RcV} {i : Nat} (hi : i < Rs.length) : findL A T (Rs.take (i + 1)) = findL A T (Rs.take i) ++ (Rs[i].L).filter (lookB A T) := by
  rw [List.take_succ_eq_append_getElem hi, findL, List.flatMap_append, List.flatMap_singleton]; rfl
theorem filter_take {p : LogV → Bool} {L : List LogV} {j : Nat} (hj : j < L.length) : (L.take (j + 1)).filter p = (L.take j).filter p ++ (if p L[j] then [L[j]] else []) := by
  rw [List.take_succ_eq_append_getElem hj, List.filter_append]
  congr 1
  cases h : p L[j] <;> simp [h]
theorem findL_le (A : List (List UInt8)) (T : List (List (List UInt8))) {Rs : List RcV} (h : ∀ r ∈ Rs, r.L.length ≤ 500) : (findL A T Rs).length ≤ Rs.length * 500 := by
  induction Rs with
  | nil => simp [findL]
  | cons r Rs ih =>
    have h1 := h r (by simp)
    have h2 := ih (fun a ha => h a (by simp [ha]))
    have h3 := List.length_filter_le (lookB A T) r.L
    simp only [findL, List.flatMap_cons, List.length_append, List.length_cons] at h2 ⊢
    omega
theorem findL_ok {B : Base} {A : List (List UInt8)} {T : List (List (List UInt8))} {Rs : List RcV} (h : ∀ r ∈ Rs, LogsAt B r.lA r.L) : ∀ g ∈ findL A T Rs, g.Ok B := fun g hg => by
  obtain ⟨r, hr, hg⟩ := List.mem_flatMap.1 hg
  exact (h r hr).ok g (List.mem_filter.1 hg).1
theorem reffind_fn {B : Base} (Rs : List RcV) (A : List (List UInt8)) (T : List KsV) (q n m : Nat) (rA aA tA : Option Addr) (rc ac tc : Nat) (hR : RcsAt B rA Rs) (hA : KeysAt B 20 aA A) (hT : TopsAt B tA T) (hq : Rs.length = q) (hn : A.length = n) (hm : T.length = m)
    (hf1 : Rs.length ≤ 40) (hf2 : ∀ r ∈ Rs, r.L.length ≤ 500) :
    Does Try.prog 18 [.raw (.slice rA q rc), .raw (.slice aA n ac), .raw (.slice tA m tc)] B (fun s : Option Addr × Nat => .raw (.slice s.1 (findL A (T.map KsV.l) Rs).length s.2)) (fun s B' => LogsAt B' s.1 (findL A (T.map KsV.l) Rs)) := by
  refine fn_ofX en18 (fun s B B' hB hR => hR.ext hB) Try.func18 rfl in18 (by simp [Try.f18]) (by simp [closed, closeds]) (fun B0 hB0 => next_of 1000 ?_)
  replace hA := hA.ext hB0
  replace hT := hT.ext hB0
  replace hR := hR.ext hB0
  subst hq
  have hlR := hR.len
  obtain ⟨TT, hTT⟩ : ∃ TT, TT = T.map KsV.l := ⟨_, rfl⟩
  rw [← hTT]
  repeat' (simp (maxSteps := 4000000) (disch := omega) only [go_sem, Nat.reduceBEq, Nat.reduceAdd, Nat.reduceMul, Nat.reduceSub, Nat.reduceLT, Nat.reduceLeDiff, Int.reduceToNat, Int.reduceLT, Int.reduceLE, Int.reduceAdd, Int.reduceMul, Int.reduceSub, Int.reduceNeg, Int.reduceDiv, Int.reduceMod, Nat.reduceBNe, Nat.reduceGT, Int.reduceBEq, Int.reduceBNe, Int.reduceGT, Nat.reduceDiv, Nat.reduceMod, Nat.reducePow, Int.reducePow, gt_iff_lt, ge_iff_le, List.reduceReplicate, ↓reduceIte, Try.f18])
  refine loopU (S := Nat × Lst) (fun s => s.1 ≤ Rs.length ∧ lOk z22 (findL A TT (Rs.take s.1)).length s.2)
    (fun s => ⟨[(14, .int .i64 (s.1 : Nat)), (13, .int .i64 (Rs.length : Nat)), (12, .raw (.slice rA Rs.length rc)), (7, lE 0 (findL A TT (Rs.take s.1)).length s.2), (2, .raw (.slice tA m tc)), (1, .raw (.slice aA n ac))], 1, [(0, lO 36 (logsE (findL A TT (Rs.take s.1))) s.2)], B0, []⟩)
    (fun s => Rs.length - s.1) (0, none) ⟨Nat.zero_le _, rfl⟩ (Weak.sub (weak_of (by simp [wσ, go_sem, closed, closeds, lE_closed, lE, lO, clO, findL] <;> omega) (by simp [whs, Go.Ew.hget, go_sem, EObj.closed, closed, closeds, lE_closed, lE, lO, clO, findL]) (by simp [*]) rfl rfl (by simp))) ?_
  rintro ⟨i, l⟩ ⟨hi, hl⟩
  simp only at hi hl ⊢
  rcases Nat.lt_or_ge i Rs.length with hi2 | hi2
  · refine next_of 1000 ?_
    simp (maxSteps := 4000000) (disch := omega) only [go_sem, Nat.reduceBEq, Nat.reduceAdd, Nat.reduceMul, Nat.reduceSub, Nat.reduceLT, Nat.reduceLeDiff, Int.reduceToNat, Int.reduceLT, Int.reduceLE, Int.reduceAdd, Int.reduceMul, Int.reduceSub, Int.reduceNeg, Int.reduceDiv, Int.reduceMod, Nat.reduceBNe, Nat.reduceGT, Int.reduceBEq, Int.reduceBNe, Int.reduceGT, Nat.reduceDiv, Nat.reduceMod, Nat.reducePow, Int.reducePow, gt_iff_lt, ge_iff_le, List.reduceReplicate, ↓reduceIte]
    repeat (with_reducible refine And.intro (by first | omega | assumption | (constructor <;> assumption) | (simp; done) | (simp; omega) | (simp [*]; done) | ((repeat' refine And.intro ?_ ?_) <;> first | omega | assumption | (refine SlOk.so (n := ?_) ?_ ?_; rotate_left; assumption; omega) | (simp; done) | fail) | fail) ?_)
    refine condS_split (fun h2 => ?_) (fun h2 => by simp at h2; omega)
    obtain ⟨l1, l2, l3, l4⟩ := hR.ld hi2
    have hL := hR.ok _ (List.getElem_mem hi2)
    have hf := hf2 _ (List.getElem_mem hi2)
    have htk := findL_take A TT hi2
    have hF0 : ∀ g ∈ findL A TT (Rs.take i), g.Ok B0 := findL_ok fun r hr => hR.ok r (List.mem_of_mem_take hr)
    have hFl : (findL A TT (Rs.take i)).length ≤ 20000 := by
      have h1 := findL_le A TT (Rs := Rs.take i) (fun r hr => hf2 r (List.mem_of_mem_take hr))
      have h2 : (Rs.take i).length ≤ 40 := by simp; omega
      omega
    obtain ⟨F, hF⟩ : ∃ F, F = findL A TT (Rs.take i) := ⟨_, rfl⟩
    rw [← hF] at htk hF0 hFl hl ⊢
    obtain ⟨r, hr⟩ : ∃ r, r = Rs[i] := ⟨_, rfl⟩
    rw [← hr] at l1 hL hf htk
    have hlen := hL.len
    have cl0 : ∀ n, clO n (lO 36 (logsE F) l) = True := fun n => clO_lO hl (logsE_closed 0 _) z22_closed
    repeat' (first | with_reducible refine And.intro (by first | omega | assumption | (constructor <;> assumption) | (simp; done) | (simp; omega) | (simp [*]; done) | ((repeat' refine And.intro ?_ ?_) <;> first | omega | assumption | (refine SlOk.so (n := ?_) ?_ ?_; rotate_left; assumption; omega) | (simp; done) | fail) | fail) ?_ | simp (maxSteps := 4000000) (disch := omega) only [go_sem, Nat.reduceBEq, Nat.reduceAdd, Nat.reduceMul, Nat.reduceSub, Nat.reduceLT, Nat.reduceLeDiff, Int.reduceToNat, Int.reduceLT, Int.reduceLE, Int.reduceAdd, Int.reduceMul, Int.reduceSub, Int.reduceNeg, Int.reduceDiv, Int.reduceMod, Nat.reduceBNe, Nat.reduceGT, Int.reduceBEq, Int.reduceBNe, Int.reduceGT, Nat.reduceDiv, Nat.reduceMod, Nat.reducePow, Int.reducePow, gt_iff_lt, ge_iff_le, List.reduceReplicate, ↓reduceIte, Int.toNat_natCast, l1, rc_len, rc_one, rc_splice, rc_259])
    refine loopU (S := Nat × Lst) (fun s => s.1 ≤ r.L.length ∧ lOk z22 (F ++ (r.L.take s.1).filter (lookB A TT)).length s.2)
      (fun s => ⟨[(21, .int .i64 (s.1 : Nat)), (20, .int .i64 (r.L.length : Nat)), (19, .raw (.slice r.lA r.L.length r.lc)), (14, .int .i64 (i : Nat)), (13, .int .i64 (Rs.length : Nat)), (12, .raw (.slice rA Rs.length rc)), (7, lE 0 (F ++ (r.L.take s.1).filter (lookB A TT)).length s.2), (2, .raw (.slice tA m tc)), (1, .raw (.slice aA n ac))], 1, [(0, lO 36 (logsE (F ++ (r.L.take s.1).filter (lookB A TT))) s.2)], B0, []⟩)
      (fun s => r.L.length - s.1) (0, l) ⟨Nat.zero_le _, by simpa using hl⟩ (Weak.sub (weak_of (by simp [wσ, go_sem, closed, closeds, lE_closed, List.take_zero, List.filter_nil, List.append_nil, cl0] <;> omega) (by simp [whs, Go.Ew.hget, go_sem, EObj.closed, closed, closeds, lE_closed, List.take_zero, List.filter_nil, List.append_nil, cl0]) (by simp [*]) rfl rfl (by simp))) ?_
    rintro ⟨j, l⟩ ⟨hj, hl⟩
    simp only at hj hl ⊢
    rcases Nat.lt_or_ge j r.L.length with hj2 | hj2
    · refine next_of 1000 ?_
      simp (maxSteps := 4000000) (disch := omega) only [go_sem, Nat.reduceBEq, Nat.reduceAdd, Nat.reduceMul, Nat.reduceSub, Nat.reduceLT, Nat.reduceLeDiff, Int.reduceToNat, Int.reduceLT, Int.reduceLE, Int.reduceAdd, Int.reduceMul, Int.reduceSub, Int.reduceNeg, Int.reduceDiv, Int.reduceMod, Nat.reduceBNe, Nat.reduceGT, Int.reduceBEq, Int.reduceBNe, Int.reduceGT, Nat.reduceDiv, Nat.reduceMod, Nat.reducePow, Int.reducePow, gt_iff_lt, ge_iff_le, List.reduceReplicate, ↓reduceIte]
      repeat (with_reducible refine And.intro (by first | omega | assumption | (constructor <;> assumption) | (simp; done) | (simp; omega) | (simp [*]; done) | ((repeat' refine And.intro ?_ ?_) <;> first | omega | assumption | (refine SlOk.so (n := ?_) ?_ ?_; rotate_left; assumption; omega) | (simp; done) | fail) | fail) ?_)
      refine condS_split (fun h2 => ?_) (fun h2 => by simp at h2; omega)
      obtain ⟨n1, n2, n3, n4⟩ := hL.ld hj2
      have h1 := hL.ok _ (List.getElem_mem hj2)
      have hft := filter_take (p := lookB A TT) hj2
      have hG0 : ∀ g ∈ F ++ (r.L.take j).filter (lookB A TT), g.Ok B0 := fun g hg => by
        rcases List.mem_append.1 hg with hg | hg
        · exact hF0 g hg
        · exact hL.ok g (List.mem_of_mem_take (List.mem_filter.1 hg).1)
      have hGl : (F ++ (r.L.take j).filter (lookB A TT)).length ≤ 20500 := by
        have h3 := List.length_filter_le (lookB A TT) (r.L.take j)
        have h4 : (r.L.take j).length ≤ 500 := by simp; omega
        rw [List.length_append]; omega
      have happ : F ++ (r.L.take (j + 1)).filter (lookB A TT) = (F ++ (r.L.take j).filter (lookB A TT)) ++ (if lookB A TT r.L[j] then [r.L[j]] else []) := by rw [hft, List.append_assoc]
      obtain ⟨G, hG⟩ : ∃ G, G = F ++ (r.L.take j).filter (lookB A TT) := ⟨_, rfl⟩
      rw [← hG] at hG0 hGl hl happ ⊢
      obtain ⟨g, hg⟩ : ∃ g, g = r.L[j] := ⟨_, rfl⟩
      rw [← hg] at n1 h1 happ
      have f1 : oneAll g.ev = true := logE_one rfl rfl
      have f2 : ∀ u v, (logE g.ad u v).length = 22 := fun u v => logE_len h1.ha
      have f8 : ∀ u v, List.take 22 (logE g.ad u v) = logE g.ad u v := fun u v => logE_take h1.ha
      have hlk := looked_fn g A T n m aA tA ac tc h1 hA hT hn hm
      rw [← hTT] at hlk
      cases hb : lookB A TT g with
      | false =>
        rw [hb] at hlk happ
        rw [if_neg (by simp), List.append_nil] at happ
        have cl1 : ∀ n, clO n (lO 36 (logsE G) l) = True := fun n => clO_lO hl (logsE_closed 0 _) z22_closed
        repeat' (first | with_reducible refine And.intro (by first | omega | assumption | (constructor <;> assumption) | (simp; done) | (simp; omega) | (simp [*]; done) | ((repeat' refine And.intro ?_ ?_) <;> first | omega | assumption | (refine SlOk.so (n := ?_) ?_ ?_; rotate_left; assumption; omega) | (simp; done) | fail) | fail) ?_ | simp (maxSteps := 4000000) (disch := omega) only [go_sem, Nat.reduceBEq, Nat.reduceAdd, Nat.reduceMul, Nat.reduceSub, Nat.reduceLT, Nat.reduceLeDiff, Int.reduceToNat, Int.reduceLT, Int.reduceLE, Int.reduceAdd, Int.reduceMul, Int.reduceSub, Int.reduceNeg, Int.reduceDiv, Int.reduceMod, Nat.reduceBNe, Nat.reduceGT, Int.reduceBEq, Int.reduceBNe, Int.reduceGT, Nat.reduceDiv, Nat.reduceMod, Nat.reducePow, Int.reducePow, gt_iff_lt, ge_iff_le, List.reduceReplicate, ↓reduceIte, Int.toNat_natCast, n1, f1, f2, f8, logE_splice h1.ha] | refine callS_fp (hlk) (by simp [closed, closeds, closeds_ints, closed_wE]) (next_of 1000 ?_))
        exact ⟨(j + 1, l), ⟨hj2, by simp only; rw [happ]; exact hl⟩, Weak.sub (weak_of (by simp [wσ, go_sem, closed, closeds, lE_closed, happ, cl1] <;> omega) (by simp [whs, Go.Ew.hget, go_sem, EObj.closed, closed, closeds, lE_closed, happ, cl1]) (by simp [*]) rfl rfl (by simp)), by simp only; omega⟩
      | true =>
        rw [hb] at hlk happ
        rw [if_pos rfl] at happ
        repeat' (first | with_reducible refine And.intro (by first | omega | assumption | (constructor <;> assumption) | (simp; done) | (simp; omega) | (simp [*]; done) | ((repeat' refine And.intro ?_ ?_) <;> first | omega | assumption | (refine SlOk.so (n := ?_) ?_ ?_; rotate_left; assumption; omega) | (simp; done) | fail) | fail) ?_ | simp (maxSteps := 4000000) (disch := omega) only [go_sem, Nat.reduceBEq, Nat.reduceAdd, Nat.reduceMul, Nat.reduceSub, Nat.reduceLT, Nat.reduceLeDiff, Int.reduceToNat, Int.reduceLT, Int.reduceLE, Int.reduceAdd, Int.reduceMul, Int.reduceSub, Int.reduceNeg, Int.reduceDiv, Int.reduceMod, Nat.reduceBNe, Nat.reduceGT, Int.reduceBEq, Int.reduceBNe, Int.reduceGT, Nat.reduceDiv, Nat.reduceMod, Nat.reducePow, Int.reducePow, gt_iff_lt, ge_iff_le, List.reduceReplicate, ↓reduceIte, Int.toNat_natCast, n1, f1, f2, f8, logE_splice h1.ha] | refine callS_fp (hlk) (by simp [closed, closeds, closeds_ints, closed_wE]) (next_of 1000 ?_))
        have f7 : ∀ u v, oneAll (logE g.ad (.raw u) (.raw v)) = (u.oneCell' && v.oneCell') := fun u v => by rw [oneAll_logE]; rfl
        have f9 : ∀ u v, ((logE g.ad u v).drop 0).take (1 * z22.length) = logE g.ad u v := fun u v => logE_take h1.ha
        refine appendL (l := l) (xs := logsE G) (zs := z22) (T := 36) 0 G.length rfl Try.underlying22 (.inl ⟨_, Try.underlying22⟩) zr36 cz36 (by simp [z22]) z22_closed rfl rfl rfl hl (by rw [logsE_len hG0]; rfl) (logsE_closed 0 G) (src_own rfl (f9 _ _)) (by rw [f2]; decide) (by rw [f7]; rfl) (by simp only [maxLen]; omega) (by rw [show Try.prog.bytesOf 36 = 72 from by36]; omega) (fun l2 hl2 => ?_)
        refine packS [3] 0 (by simp) (by simp) (by simp) (by simp) (next_of 1000 ?_)
        have hev : logsE G ++ g.ev = logsE (G ++ [g]) := by rw [logsE, logsE, List.flatMap_append, List.flatMap_singleton]
        repeat' (simp (maxSteps := 4000000) (disch := omega) only [go_sem, Nat.reduceBEq, Nat.reduceAdd, Nat.reduceMul, Nat.reduceSub, Nat.reduceLT, Nat.reduceLeDiff, Int.reduceToNat, Int.reduceLT, Int.reduceLE, Int.reduceAdd, Int.reduceMul, Int.reduceSub, Int.reduceNeg, Int.reduceDiv, Int.reduceMod, Nat.reduceBNe, Nat.reduceGT, Int.reduceBEq, Int.reduceBNe, Int.reduceGT, Nat.reduceDiv, Nat.reduceMod, Nat.reducePow, Int.reducePow, gt_iff_lt, ge_iff_le, List.reduceReplicate, ↓reduceIte, hev, okC_lE' (ks := [3]) (k := 0) (r := 3) rfl, pkO_lO (ks := [3]) (k := 0) hl2 (logsE_closed 0 _) z22_closed, pkO_none])
        have cl2 : ∀ n, clO n (lO 36 (logsE (G ++ [g])) l2) = True := fun n => clO_lO hl2 (logsE_closed 0 _) z22_closed
        have cl3 : ∀ n, clO n (lO 36 (G.flatMap LogV.ev ++ g.ev) l2) = True := fun n => by have := cl2 n; rwa [logsE, List.flatMap_append, List.flatMap_singleton] at this
        have hgl : (G ++ [g]).length = G.length + 1 := by simp
        exact ⟨(j + 1, l2), ⟨hj2, by simp only; rw [happ, hgl]; exact hl2⟩, Weak.sub (weak_of (by simp [wσ, go_sem, closed, closeds, lE_closed, happ, cl3, hgl] <;> omega) (by simp [whs, Go.Ew.hget, go_sem, EObj.closed, closed, closeds, lE_closed, happ, cl3, hgl]) (by simp [*]) rfl rfl (by simp)), by simp only; omega⟩
    · obtain rfl : j = r.L.length := by omega
      refine next_of 1000 ?_
      simp (maxSteps := 4000000) (disch := omega) only [go_sem, Nat.reduceBEq, Nat.reduceAdd, Nat.reduceMul, Nat.reduceSub, Nat.reduceLT, Nat.reduceLeDiff, Int.reduceToNat, Int.reduceLT, Int.reduceLE, Int.reduceAdd, Int.reduceMul, Int.reduceSub, Int.reduceNeg, Int.reduceDiv, Int.reduceMod, Nat.reduceBNe, Nat.reduceGT, Int.reduceBEq, Int.reduceBNe, Int.reduceGT, Nat.reduceDiv, Nat.reduceMod, Nat.reducePow, Int.reducePow, gt_iff_lt, ge_iff_le, List.reduceReplicate, ↓reduceIte]
      repeat (with_reducible refine And.intro (by first | omega | assumption | (constructor <;> assumption) | (simp; done) | (simp; omega) | (simp [*]; done) | ((repeat' refine And.intro ?_ ?_) <;> first | omega | assumption | (refine SlOk.so (n := ?_) ?_ ?_; rotate_left; assumption; omega) | (simp; done) | fail) | fail) ?_)
      refine condS_split (fun h2 => by simp at h2) (fun h2 => ?_)
      repeat' (first | simp (maxSteps := 4000000) (disch := omega) only [go_sem, Nat.reduceBEq, Nat.reduceAdd, Nat.reduceMul, Nat.reduceSub, Nat.reduceLT, Nat.reduceLeDiff, Int.reduceToNat, Int.reduceLT, Int.reduceLE, Int.reduceAdd, Int.reduceMul, Int.reduceSub, Int.reduceNeg, Int.reduceDiv, Int.reduceMod, Nat.reduceBNe, Nat.reduceGT, Int.reduceBEq, Int.reduceBNe, Int.reduceGT, Nat.reduceDiv, Nat.reduceMod, Nat.reducePow, Int.reducePow, gt_iff_lt, ge_iff_le, List.reduceReplicate, ↓reduceIte] | with_reducible refine next_of 1000 ?_)
      rw [List.take_length, ← htk] at hl
      have cl1 : ∀ n, clO n (lO 36 (logsE (findL A TT (Rs.take (i + 1)))) l) = True := fun n => clO_lO hl (logsE_closed 0 _) z22_closed
      exact ⟨(i + 1, l), ⟨hi2, hl⟩, Weak.sub (weak_of (by simp [wσ, go_sem, closed, closeds, lE_closed, List.take_length, ← htk, cl1] <;> omega) (by simp [whs, Go.Ew.hget, go_sem, EObj.closed, closed, closeds, lE_closed, List.take_length, ← htk, cl1]) (by simp [*]) rfl rfl (by simp)), by simp only; omega⟩
  · obtain rfl : i = Rs.length := by omega
    refine next_of 1000 ?_
    simp (maxSteps := 4000000) (disch := omega) only [go_sem, Nat.reduceBEq, Nat.reduceAdd, Nat.reduceMul, Nat.reduceSub, Nat.reduceLT, Nat.reduceLeDiff, Int.reduceToNat, Int.reduceLT, Int.reduceLE, Int.reduceAdd, Int.reduceMul, Int.reduceSub, Int.reduceNeg, Int.reduceDiv, Int.reduceMod, Nat.reduceBNe, Nat.reduceGT, Int.reduceBEq, Int.reduceBNe, Int.reduceGT, Nat.reduceDiv, Nat.reduceMod, Nat.reducePow, Int.reducePow, gt_iff_lt, ge_iff_le, List.reduceReplicate, ↓reduceIte]
    repeat (with_reducible refine And.intro (by first | omega | assumption | (constructor <;> assumption) | (simp; done) | (simp; omega) | (simp [*]; done) | ((repeat' refine And.intro ?_ ?_) <;> first | omega | assumption | (refine SlOk.so (n := ?_) ?_ ?_; rotate_left; assumption; omega) | (simp; done) | fail) | fail) ?_)
    refine condS_split (fun h2 => by simp at h2) (fun h2 => ?_)
    repeat' (first | simp (maxSteps := 4000000) (disch := omega) only [go_sem, Nat.reduceBEq, Nat.reduceAdd, Nat.reduceMul, Nat.reduceSub, Nat.reduceLT, Nat.reduceLeDiff, Int.reduceToNat, Int.reduceLT, Int.reduceLE, Int.reduceAdd, Int.reduceMul, Int.reduceSub, Int.reduceNeg, Int.reduceDiv, Int.reduceMod, Nat.reduceBNe, Nat.reduceGT, Int.reduceBEq, Int.reduceBNe, Int.reduceGT, Nat.reduceDiv, Nat.reduceMod, Nat.reducePow, Int.reducePow, gt_iff_lt, ge_iff_le, List.reduceReplicate, ↓reduceIte] | with_reducible refine next_of 1000 ?_)
    rw [List.take_length] at hl ⊢
    have hF0 : ∀ g ∈ findL A TT Rs, g.Ok B0 := findL_ok fun r hr => hR.ok r hr
    have hFl : (findL A TT Rs).length ≤ 20000 := by
      have h1 := findL_le A TT hf2
      omega
    refine ⟨by rcases l with _ | ⟨q1, q2⟩ <;> rfl, BExt.refl _, lays_L 0 (findL A TT Rs).length rfl hl (by rw [logsE_len hF0]; rfl) (logsE_closed 0 _) (fun b ad cap B' hB hf hC hc => ?_)⟩
    rw [hf]
    refine ⟨by simp [closed], (ad, cap), rfl, ?_⟩
    rw [reals_logs] at hC
    exact ⟨hC, fun g hg => (hF0 g hg).ext hB, by omega⟩
end Go.Proofs.Ytepabkjfnpaijaa
