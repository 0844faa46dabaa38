/- Part of a proof over the seat Ytepabkjfnpaijaa. -/
import Derived.Test.YtepabkjfnpaijaaME
import Derived.Test.YtepabkjfnpaijaaEng3
namespace Go.Proofs.Ytepabkjfnpaijaa
open Go RowKit Go.Ew
set_option maxRecDepth 100000
set_option linter.unusedSimpArgs false
set_option linter.unusedVariables false
set_option maxHeartbeats 4000000
/-! ### sets of texts, kept as maps -/
abbrev keyV (k : List UInt8) : Value := .agg (k.map bV).toArray
theorem bV_inj {a b : UInt8} (h : bV a = bV b) : a = b := by
  unfold bV at h
  injection h with _ h
  exact UInt8.toNat_inj.1 (Int.ofNat_inj.1 h)
theorem keyV_inj {a b : List UInt8} (h : keyV a = keyV b) : a = b := by
  injection h with h
  have h2 : a.map bV = b.map bV := by simpa using h
  exact (List.map_inj_right (fun _ _ h => bV_inj h)).1 h2
theorem real_key (k : List UInt8) (bs : Nat → Nat) : real bs (.agg (k.map bE)) = keyV k := by
  simp [real, keyV, reals_eq, bE, bV, Function.comp_def]
theorem key_lit {P : Program} {k e : TypeId} {n : Nat} (A : WideMaps.ArrKey P k e n) (he : P.underlying e = some (.int .u8)) (hsz : ∃ m, P.types.size = m + 1) (p : List UInt8) (hp : p.length = n) : ∃ l, keyOf P k (keyV p) = some l := by
  have hkt := A.keyType hsz
  obtain ⟨m0, hm0⟩ := hsz
  have hm : ∃ r, ((List.range n).mapM fun i => P.keyLits (m0 + 1) e (((p.map bV).drop (i * P.cellsOf e)).take (P.cellsOf e))) = some r := by
    refine MapFrom.mapM_some fun i hi => ?_
    have hi' : i < n := List.mem_range.1 hi
    have e1 : ((p.map bV).drop (i * P.cellsOf e)).take (P.cellsOf e) = [bV (p[i]'(by omega))] := by
      rw [A.one, Nat.mul_one, List.drop_eq_getElem_cons (by simp; omega)]
      simp
    have hw : (Lit.int .u8 ((p[i]'(by omega)).toNat : Int)).wf = true := by
      have := (p[i]'(by omega)).toNat_lt
      simp [Lit.wf, IntKind.min, IntKind.max, IntKind.signed, IntKind.bits]
      omega
    exact ⟨[.int .u8 ((p[i]'(by omega)).toNat : Int)], by rw [e1]; unfold Program.keyLits; simp [he, bV, hw]⟩
  obtain ⟨r, hr⟩ := hm
  refine ⟨.string (keyBytes r.flatten), ?_⟩
  unfold keyOf
  simp only [A.hu]
  rw [if_pos (by simp [hkt, Value.formed, A.hu, A.size, hp]), hm0]
  unfold Program.keyLits
  simp only [A.hu, Value.cells]
  rw [if_pos (by rw [A.size]; simpa using hp), hr]
  rfl
theorem arr20 : WideMaps.ArrKey Try.prog 33 5 20 := ⟨Try.underlying33, by kernel_rfl, by kernel_rfl, by kernel_rfl⟩
theorem arr32 : WideMaps.ArrKey Try.prog 38 5 32 := ⟨Try.underlying38, by kernel_rfl, by kernel_rfl, by kernel_rfl⟩
theorem types_pos : ∃ m, Try.prog.types.size = m + 1 := ⟨Try.prog.types.size - 1, by decide +kernel⟩
theorem key20 (p : List UInt8) (hp : p.length = 20) : ∃ l, keyOf Try.prog 33 (keyV p) = some l := key_lit arr20 Try.underlying5 types_pos p hp
theorem key32 (p : List UInt8) (hp : p.length = 32) : ∃ l, keyOf Try.prog 38 (keyV p) = some l := key_lit arr32 Try.underlying5 types_pos p hp
/-- The texts ks as a map to 1. -/
def SetEs (es : Array MapEntry) (ks : List (List UInt8)) : Prop := es.toList.map (fun e => (e.key, e.val)) = ks.map (fun k => (keyV k, Value.int .i64 1))
def insK (ks : List (List UInt8)) (k : List UInt8) : List (List UInt8) := if k ∈ ks then ks else ks ++ [k]
def setK (l : List (List UInt8)) : List (List UInt8) := l.foldl insK []
theorem insK_mem {ks : List (List UInt8)} {k a : List UInt8} : a ∈ insK ks k ↔ a ∈ ks ∨ a = k := by
  unfold insK
  split
  · rename_i h
    exact ⟨fun x => .inl x, fun x => x.elim id (fun e => e ▸ h)⟩
  · simp
theorem foldl_ins_mem (l : List (List UInt8)) : ∀ (ks : List (List UInt8)) (a : List UInt8), a ∈ l.foldl insK ks ↔ a ∈ ks ∨ a ∈ l := by
  induction l with
  | nil => intro ks a; simp
  | cons k l ih => intro ks a; rw [List.foldl_cons, ih, insK_mem, List.mem_cons, or_assoc]
theorem setK_mem {l : List (List UInt8)} {a : List UInt8} : a ∈ setK l ↔ a ∈ l := by rw [setK, foldl_ins_mem]; simp
theorem setK_nil {l : List (List UInt8)} : setK l = [] ↔ l = [] := by
  constructor
  · intro h
    cases l with
    | nil => rfl
    | cons a l =>
      have : a ∈ setK (a :: l) := setK_mem.2 (by simp)
      rw [h] at this; simp at this
  · rintro rfl; rfl
theorem setK_take {l : List (List UInt8)} {i : Nat} (hi : i < l.length) : setK (l.take (i + 1)) = insK (setK (l.take i)) l[i] := by
  rw [List.take_succ_eq_append_getElem hi, setK, List.foldl_append]; rfl
theorem SetEs.nil : SetEs #[] [] := rfl
theorem SetEs.len {es : Array MapEntry} {ks : List (List UInt8)} (h : SetEs es ks) : es.size = ks.length := by
  have := congrArg List.length h
  simpa using this
theorem SetEs.of_mem {es : Array MapEntry} {ks : List (List UInt8)} (h : SetEs es ks) {e : MapEntry} (he : e ∈ es.toList) : ∃ k ∈ ks, e.key = keyV k ∧ e.val = .int .i64 1 := by
  have : (e.key, e.val) ∈ es.toList.map (fun e => (e.key, e.val)) := List.mem_map.2 ⟨e, he, rfl⟩
  rw [h] at this
  obtain ⟨k, hk, h2⟩ := List.mem_map.1 this
  injection h2 with h3 h4
  exact ⟨k, hk, h3.symm, h4.symm⟩
theorem SetEs.mem_of {es : Array MapEntry} {ks : List (List UInt8)} (h : SetEs es ks) {k : List UInt8} (hk : k ∈ ks) : ∃ e ∈ es.toList, e.key = keyV k := by
  have : (keyV k, Value.int .i64 1) ∈ ks.map (fun k => (keyV k, Value.int .i64 1)) := List.mem_map.2 ⟨k, hk, rfl⟩
  rw [← h] at this
  obtain ⟨e, he, h2⟩ := List.mem_map.1 this
  injection h2 with h3 h4
  exact ⟨e, he, h3⟩
theorem SetEs.set {es es' : Array MapEntry} {clock : Nat} {ks : List (List UInt8)} {k : List UInt8} (h : SetEs es ks) (hs : MapSet es clock (keyV k) (.int .i64 1) es') : SetEs es' (insK ks k) := by
  rcases hs with ⟨h1, h2⟩ | ⟨j, e, h1, h2, h3⟩
  · have hn : k ∉ ks := fun hk => by
      obtain ⟨e, he, h3⟩ := h.mem_of hk
      exact h1 e he h3
    rw [insK, if_neg hn, SetEs, h2, List.map_append, List.map_append, h]
    rfl
  · obtain ⟨k', hk', h4, h5⟩ := h.of_mem (List.mem_of_getElem? h1)
    have : k' = k := keyV_inj (h4.symm.trans h2)
    subst this
    rw [insK, if_pos hk', SetEs, h3, List.map_set, ← h]
    apply List.ext_getElem?
    intro q
    rw [List.getElem?_set]
    split
    · rename_i hq
      subst hq
      have hj := (List.getElem?_eq_some_iff.1 h1).1
      rw [if_pos (by simpa using hj), List.getElem?_map, h1, Option.map_some, h2, h5]
    · rfl
theorem SetEs.keys {es : Array MapEntry} {ks : List (List UInt8)} (h : SetEs es ks) {P : Program} {kt : TypeId} {n : Nat} (hl : ∀ p : List UInt8, p.length = n → ∃ l, keyOf P kt (keyV p) = some l) (hk : ∀ k ∈ ks, k.length = n) : MapKeys P kt es := fun e he => by
  obtain ⟨k, hk', h1, _⟩ := h.of_mem he
  rw [h1]; exact hl k (hk k hk')
def MapAt (B : Base) (b : Nat) (ks : List (List UInt8)) : Prop := B.D b ∧ ∃ es clock, B.w.heap[b]? = some (.map es clock) ∧ SetEs es ks
theorem MapAt.ext {B B' : Base} {b : Nat} {ks : List (List UInt8)} (h : MapAt B b ks) (e : BExt B B') : MapAt B' b ks := by
  obtain ⟨hD, es, clock, h1, h2⟩ := h
  exact ⟨e.D b hD, es, clock, (e.same b hD).trans h1, h2⟩
/-- Texts of n bytes, one behind the other. -/
structure KeysAt (B : Base) (n : Nat) (ad : Option Addr) (l : List (List UInt8)) : Prop where
  c : CellsAt B ad (l.flatMap (fun k => k.map bV))
  ok : ∀ k ∈ l, k.length = n
  len : l.length ≤ 1048576
theorem KeysAt.ext {B B' : Base} {n : Nat} {ad : Option Addr} {l : List (List UInt8)} (h : KeysAt B n ad l) (e : BExt B B') : KeysAt B' n ad l := ⟨h.c.ext e, h.ok, h.len⟩
theorem KeysAt.ld {B : Base} {n : Nat} {ad : Option Addr} {l : List (List UInt8)} (h : KeysAt B n ad l) (hn : 0 < n) {i : Nat} (hi : i < l.length) :
    rawCells B (adrAt ad (i * n)) n = (l[i]).map bE ∧ B.D (adr ad).block ∧ LiveAt B (adrAt ad (i * n)) n ∧ ad.isSome = true := by
  have e : ∀ j, (adrAt ad (i * n)).add j = adrAt ad (i * n + j) := fun j => by unfold adrAt; rw [add_add]
  have hl := h.ok _ (List.getElem_mem hi)
  have hlen : ∀ a ∈ l, (a.map bV).length = n := fun a ha => by rw [List.length_map]; exact h.ok a ha
  have hg : ∀ j (hj : j < n), rawCell B (adrAt ad (i * n + j)) = bE (l[i][j]'(by omega)) ∧ B.D (adr ad).block ∧ (B.w.cell? (adrAt ad (i * n + j))).isSome = true := fun j hj =>
    h.c.raw (by rw [flat_get hlen hi hj, List.getElem?_map, List.getElem?_eq_getElem (by omega)]; rfl)
  refine ⟨?_, (hg 0 hn).2.1, fun j hj => by rw [e]; exact (hg j hj).2.2, h.c.so ?_⟩
  · unfold rawCells
    apply List.ext_getElem (by simp [hl])
    intro j h1 h2
    simp only [List.length_map, List.length_range] at h1
    simp only [List.getElem_map, List.getElem_range, e]
    exact (hg j h1).1
  · rw [flat_len hlen]
    exact Nat.mul_pos hn (by omega)
def hasK (ks : List (List UInt8)) (k : List UInt8) : Bool := decide (ks = []) || decide (k ∈ ks)
theorem in27 : codeIn Try.f27.ntmps (Try.f27.body.getD .skip) = true := by kernel_rfl
theorem in28 : codeIn Try.f28.ntmps (Try.f28.body.getD .skip) = true := by kernel_rfl
theorem in29 : codeIn Try.f29.ntmps (Try.f29.body.getD .skip) = true := by kernel_rfl
theorem in58 : codeIn Try.f58.ntmps (Try.f58.body.getD .skip) = true := by kernel_rfl
theorem of20_fn (l : List (List UInt8)) (n : Nat) (B : Base) (ad : Option Addr) (cap : Nat) (h : KeysAt B 20 ad l) (hn : l.length = n) :
    Does Try.prog 27 [.raw (.slice ad n cap)] B (fun b : Nat => .raw (.map (some b))) (fun b B' => MapAt B' b (setK l)) := by
  refine fn_ofX en27 (fun s B B' hB hR => hR.ext hB) Try.func27 rfl in27 (by simp [Try.f27]) (by simp [closeds, closed]) (fun B0 hB0 => next_of 1000 ?_)
  replace h := h.ext hB0
  subst hn
  repeat' (simp (maxSteps := 4000000) (disch := omega) only [go_sem, Nat.reduceBEq, Nat.reduceAdd, Nat.reduceMul, Nat.reduceSub, Nat.reduceLT, Nat.reduceLeDiff, Int.reduceToNat, Int.reduceLT, Int.reduceLE, Int.reduceAdd, Int.reduceMul, Int.reduceSub, Int.reduceNeg, Int.reduceDiv, Int.reduceMod, Nat.reduceBNe, Nat.reduceGT, Int.reduceBEq, Int.reduceBNe, Int.reduceGT, Nat.reduceDiv, Nat.reduceMod, Nat.reducePow, Int.reducePow, gt_iff_lt, ge_iff_le, List.reduceReplicate, ↓reduceIte, Try.f27])
  refine mapMakeS rfl (next_of 1000 ?_)
  repeat' (simp (maxSteps := 4000000) (disch := omega) only [go_sem, Nat.reduceBEq, Nat.reduceAdd, Nat.reduceMul, Nat.reduceSub, Nat.reduceLT, Nat.reduceLeDiff, Int.reduceToNat, Int.reduceLT, Int.reduceLE, Int.reduceAdd, Int.reduceMul, Int.reduceSub, Int.reduceNeg, Int.reduceDiv, Int.reduceMod, Nat.reduceBNe, Nat.reduceGT, Int.reduceBEq, Int.reduceBNe, Int.reduceGT, Nat.reduceDiv, Nat.reduceMod, Nat.reducePow, Int.reducePow, gt_iff_lt, ge_iff_le, List.reduceReplicate, ↓reduceIte])
  refine loopU (S := Nat × Array MapEntry × Nat) (fun s => s.1 ≤ l.length ∧ SetEs s.2.1 (setK (l.take s.1)))
    (fun s => ⟨[(9, .int .i64 (s.1 : Nat)), (8, .int .i64 (l.length : Nat)), (7, .raw (.slice ad l.length cap)), (3, .mp 0)], 1, [(0, some (.obj (.map s.2.1 s.2.2)))], B0, []⟩)
    (fun s => l.length - s.1) (0, #[], 0) ⟨Nat.zero_le _, SetEs.nil⟩ (Weak.sub (weak_of (by simp [wσ, go_sem, closed, closeds, lE_closed, clO, EObj.closed] <;> omega) (by simp [whs, Go.Ew.hget, go_sem, EObj.closed, closed, closeds, lE_closed, clO, EObj.closed]) (by simp [*]) rfl rfl (by simp))) ?_
  rintro ⟨i, es, clock⟩ ⟨hi, hes⟩
  simp only at hi hes ⊢
  have hlen := h.len
  rcases Nat.lt_or_ge i l.length with hi2 | hi2
  · refine next_of 1000 ?_
    simp (maxSteps := 4000000) (disch := omega) only [go_sem, Nat.reduceBEq, Nat.reduceAdd, Nat.reduceMul, Nat.reduceSub, Nat.reduceLT, Nat.reduceLeDiff, Int.reduceToNat, Int.reduceLT, Int.reduceLE, Int.reduceAdd, Int.reduceMul, Int.reduceSub, Int.reduceNeg, Int.reduceDiv, Int.reduceMod, Nat.reduceBNe, Nat.reduceGT, Int.reduceBEq, Int.reduceBNe, Int.reduceGT, Nat.reduceDiv, Nat.reduceMod, Nat.reducePow, Int.reducePow, gt_iff_lt, ge_iff_le, List.reduceReplicate, ↓reduceIte]
    repeat (with_reducible refine And.intro (by first | omega | assumption | (constructor <;> assumption) | (simp; done) | (simp; omega) | (simp [*]; done) | ((repeat' refine And.intro ?_ ?_) <;> first | omega | assumption | (refine SlOk.so (n := ?_) ?_ ?_; rotate_left; assumption; omega) | (simp; done) | fail) | fail) ?_)
    refine condS_split (fun h2 => ?_) (fun h2 => by simp at h2; omega)
    obtain ⟨l1, l2, l3, l4⟩ := h.ld (by omega) hi2
    have hq := h.ok _ (List.getElem_mem hi2)
    have e1 := setK_take hi2
    have hall : ∀ k ∈ setK (l.take i), k.length = 20 := fun k hk => h.ok k (List.mem_of_mem_take (setK_mem.1 hk))
    obtain ⟨q, hq0⟩ : ∃ q, q = l[i] := ⟨_, rfl⟩
    rw [← hq0] at l1 hq e1
    have q1 := bE_one q
    have q2 : List.take 20 (q.map bE) = q.map bE := List.take_of_length_le (by simp [hq])
    repeat' (first | with_reducible refine And.intro (by first | omega | assumption | (constructor <;> assumption) | (simp; done) | (simp; omega) | (simp [*]; done) | ((repeat' refine And.intro ?_ ?_) <;> first | omega | assumption | (refine SlOk.so (n := ?_) ?_ ?_; rotate_left; assumption; omega) | (simp; done) | fail) | fail) ?_ | simp (maxSteps := 4000000) (disch := omega) only [go_sem, Nat.reduceBEq, Nat.reduceAdd, Nat.reduceMul, Nat.reduceSub, Nat.reduceLT, Nat.reduceLeDiff, Int.reduceToNat, Int.reduceLT, Int.reduceLE, Int.reduceAdd, Int.reduceMul, Int.reduceSub, Int.reduceNeg, Int.reduceDiv, Int.reduceMod, Nat.reduceBNe, Nat.reduceGT, Int.reduceBEq, Int.reduceBNe, Int.reduceGT, Nat.reduceDiv, Nat.reduceMod, Nat.reducePow, Int.reducePow, gt_iff_lt, ge_iff_le, List.reduceReplicate, ↓reduceIte, Int.toNat_natCast, l1, q1, q2, List.length_map, hq, bE_splice hq, bE_all hq])
    obtain ⟨kl, hkl⟩ := key20 q hq
    refine mapSetS (K := keyV q) (V := .int .i64 1) 0 rfl arr20.law Try.underlying67 rfl rfl rfl (fun bs => by with_unfolding_all (exact real_key q bs)) (fun bs => rfl) rfl (hes.keys key20 hall) hkl (fun es' clock' hs => next_of 1000 ?_)
    repeat' (simp (maxSteps := 4000000) (disch := omega) only [go_sem, Nat.reduceBEq, Nat.reduceAdd, Nat.reduceMul, Nat.reduceSub, Nat.reduceLT, Nat.reduceLeDiff, Int.reduceToNat, Int.reduceLT, Int.reduceLE, Int.reduceAdd, Int.reduceMul, Int.reduceSub, Int.reduceNeg, Int.reduceDiv, Int.reduceMod, Nat.reduceBNe, Nat.reduceGT, Int.reduceBEq, Int.reduceBNe, Int.reduceGT, Nat.reduceDiv, Nat.reduceMod, Nat.reducePow, Int.reducePow, gt_iff_lt, ge_iff_le, List.reduceReplicate, ↓reduceIte])
    have hes' := hes.set hs
    rw [← e1] at hes'
    exact ⟨(i + 1, es', clock'), ⟨hi2, hes'⟩, Weak.sub (weak_of (by simp [wσ, go_sem, closed, closeds, lE_closed, clO, EObj.closed] <;> omega) (by simp [whs, Go.Ew.hget, go_sem, EObj.closed, closed, closeds, lE_closed, clO, EObj.closed]) (by simp [*]) rfl rfl (by simp)), by simp only; omega⟩
  · obtain rfl : i = l.length := by omega
    refine next_of 1000 ?_
    simp (maxSteps := 4000000) (disch := omega) only [go_sem, Nat.reduceBEq, Nat.reduceAdd, Nat.reduceMul, Nat.reduceSub, Nat.reduceLT, Nat.reduceLeDiff, Int.reduceToNat, Int.reduceLT, Int.reduceLE, Int.reduceAdd, Int.reduceMul, Int.reduceSub, Int.reduceNeg, Int.reduceDiv, Int.reduceMod, Nat.reduceBNe, Nat.reduceGT, Int.reduceBEq, Int.reduceBNe, Int.reduceGT, Nat.reduceDiv, Nat.reduceMod, Nat.reducePow, Int.reducePow, gt_iff_lt, ge_iff_le, List.reduceReplicate, ↓reduceIte]
    repeat (with_reducible refine And.intro (by first | omega | assumption | (constructor <;> assumption) | (simp; done) | (simp; omega) | (simp [*]; done) | ((repeat' refine And.intro ?_ ?_) <;> first | omega | assumption | (refine SlOk.so (n := ?_) ?_ ?_; rotate_left; assumption; omega) | (simp; done) | fail) | fail) ?_)
    refine condS_split (fun h2 => by simp at h2) (fun h2 => ?_)
    repeat' (first | simp (maxSteps := 4000000) (disch := omega) only [go_sem, Nat.reduceBEq, Nat.reduceAdd, Nat.reduceMul, Nat.reduceSub, Nat.reduceLT, Nat.reduceLeDiff, Int.reduceToNat, Int.reduceLT, Int.reduceLE, Int.reduceAdd, Int.reduceMul, Int.reduceSub, Int.reduceNeg, Int.reduceDiv, Int.reduceMod, Nat.reduceBNe, Nat.reduceGT, Int.reduceBEq, Int.reduceBNe, Int.reduceGT, Nat.reduceDiv, Nat.reduceMod, Nat.reducePow, Int.reducePow, gt_iff_lt, ge_iff_le, List.reduceReplicate, ↓reduceIte] | with_reducible refine next_of 1000 ?_)
    rw [List.take_length] at hes
    exact ⟨BExt.refl _, lays_M 0 rfl (fun b B' hB hD hb => ⟨by simp [frz, closed], b, by simp [frz], hD, es, clock, hb, hes⟩)⟩
theorem has20_fn (ks : List (List UInt8)) (b : Nat) (B : Base) (q : List UInt8) (h : MapAt B b ks) (hall : ∀ k ∈ ks, k.length = 20) (hl : ks.length ≤ 1048576) (hq : q.length = 20) :
    Does Try.prog 29 [.raw (.map (some b)), .agg (q.map bE)] B (fun _ : Unit => .bool (hasK ks q)) (fun _ _ => True) := by
  refine fn_of en29 (fun s B B' hB hR => hR) Try.func29 rfl in29 (by simp [Try.f29]) (by simp [closeds, closed, closeds_bE]) (fun B0 hB0 => next_of 1000 ?_)
  obtain ⟨hD, es, clock, hb, hes⟩ := h.ext hB0
  have q1 := bE_one q
  have q2 : List.take 20 (q.map bE) = q.map bE := List.take_of_length_le (by simp [hq])
  repeat' (simp (maxSteps := 4000000) (disch := omega) only [go_sem, Nat.reduceBEq, Nat.reduceAdd, Nat.reduceMul, Nat.reduceSub, Nat.reduceLT, Nat.reduceLeDiff, Int.reduceToNat, Int.reduceLT, Int.reduceLE, Int.reduceAdd, Int.reduceMul, Int.reduceSub, Int.reduceNeg, Int.reduceDiv, Int.reduceMod, Nat.reduceBNe, Nat.reduceGT, Int.reduceBEq, Int.reduceBNe, Int.reduceGT, Nat.reduceDiv, Nat.reduceMod, Nat.reducePow, Int.reducePow, gt_iff_lt, ge_iff_le, List.reduceReplicate, ↓reduceIte, Try.f29, q1, q2, List.length_map, hq, bE_all hq, EV.cells])
  refine mapLenS ks.length rfl Try.underlying67 (.inl ⟨b, clock, rfl, hD, hb⟩) hes.len (next_of 1000 ?_)
  by_cases hks : ks = []
  · have e0 : (((ks.length : Nat) : Int) == 0) = true := by rw [hks]; rfl
    repeat' (simp (maxSteps := 4000000) (disch := omega) only [go_sem, Nat.reduceBEq, Nat.reduceAdd, Nat.reduceMul, Nat.reduceSub, Nat.reduceLT, Nat.reduceLeDiff, Int.reduceToNat, Int.reduceLT, Int.reduceLE, Int.reduceAdd, Int.reduceMul, Int.reduceSub, Int.reduceNeg, Int.reduceDiv, Int.reduceMod, Nat.reduceBNe, Nat.reduceGT, Int.reduceBEq, Int.reduceBNe, Int.reduceGT, Nat.reduceDiv, Nat.reduceMod, Nat.reducePow, Int.reducePow, gt_iff_lt, ge_iff_le, List.reduceReplicate, ↓reduceIte, e0])
    exact ⟨BExt.refl _, (), by simp [hasK, hks], trivial⟩
  · have e0 : (((ks.length : Nat) : Int) == 0) = false := by
      rw [beq_eq_false_iff_ne]
      intro h0
      exact hks (List.length_eq_zero_iff.1 (by omega))
    repeat' (first | with_reducible refine And.intro (by first | omega | assumption | (constructor <;> assumption) | (simp; done) | (simp; omega) | (simp [*]; done) | ((repeat' refine And.intro ?_ ?_) <;> first | omega | assumption | (refine SlOk.so (n := ?_) ?_ ?_; rotate_left; assumption; omega) | (simp; done) | fail) | fail) ?_ | simp (maxSteps := 4000000) (disch := omega) only [go_sem, Nat.reduceBEq, Nat.reduceAdd, Nat.reduceMul, Nat.reduceSub, Nat.reduceLT, Nat.reduceLeDiff, Int.reduceToNat, Int.reduceLT, Int.reduceLE, Int.reduceAdd, Int.reduceMul, Int.reduceSub, Int.reduceNeg, Int.reduceDiv, Int.reduceMod, Nat.reduceBNe, Nat.reduceGT, Int.reduceBEq, Int.reduceBNe, Int.reduceGT, Nat.reduceDiv, Nat.reduceMod, Nat.reducePow, Int.reducePow, gt_iff_lt, ge_iff_le, List.reduceReplicate, ↓reduceIte, e0, q2])
    obtain ⟨kl, hkl⟩ := key20 q hq
    refine mapGetS (K := keyV q) (z := .int .i64 0) (v := .int .i64 (if q ∈ ks then 1 else 0)) rfl arr20.law Try.underlying67 (fun w => by kernel_rfl) trivial trivial (.inl ⟨b, clock, rfl, hD, hb⟩) rfl (fun bs => by with_unfolding_all (exact real_key q bs)) (hes.keys key20 hall) hkl (fun hno => ?_) (fun e he hk => ?_) (next_of 1000 ?_)
    · rw [if_neg]
      intro hk
      obtain ⟨e, he, h3⟩ := hes.mem_of hk
      exact hno e he h3
    · obtain ⟨k', hk', h4, h5⟩ := hes.of_mem he
      have : k' = q := keyV_inj (h4.symm.trans hk)
      subst this
      rw [if_pos hk', h5]; rfl
    · by_cases hm : q ∈ ks
      · simp only [if_pos hm]
        repeat' (simp (maxSteps := 4000000) (disch := omega) only [go_sem, Nat.reduceBEq, Nat.reduceAdd, Nat.reduceMul, Nat.reduceSub, Nat.reduceLT, Nat.reduceLeDiff, Int.reduceToNat, Int.reduceLT, Int.reduceLE, Int.reduceAdd, Int.reduceMul, Int.reduceSub, Int.reduceNeg, Int.reduceDiv, Int.reduceMod, Nat.reduceBNe, Nat.reduceGT, Int.reduceBEq, Int.reduceBNe, Int.reduceGT, Nat.reduceDiv, Nat.reduceMod, Nat.reducePow, Int.reducePow, gt_iff_lt, ge_iff_le, List.reduceReplicate, ↓reduceIte])
        exact ⟨BExt.refl _, (), by simp [hasK, hks, hm], trivial⟩
      · simp only [if_neg hm]
        repeat' (simp (maxSteps := 4000000) (disch := omega) only [go_sem, Nat.reduceBEq, Nat.reduceAdd, Nat.reduceMul, Nat.reduceSub, Nat.reduceLT, Nat.reduceLeDiff, Int.reduceToNat, Int.reduceLT, Int.reduceLE, Int.reduceAdd, Int.reduceMul, Int.reduceSub, Int.reduceNeg, Int.reduceDiv, Int.reduceMod, Nat.reduceBNe, Nat.reduceGT, Int.reduceBEq, Int.reduceBNe, Int.reduceGT, Nat.reduceDiv, Nat.reduceMod, Nat.reducePow, Int.reducePow, gt_iff_lt, ge_iff_le, List.reduceReplicate, ↓reduceIte])
        exact ⟨BExt.refl _, (), by simp [hasK, hks, hm], trivial⟩
theorem of32_fn (l : List (List UInt8)) (n : Nat) (B : Base) (ad : Option Addr) (cap : Nat) (h : KeysAt B 32 ad l) (hn : l.length = n) :
    Does Try.prog 28 [.raw (.slice ad n cap)] B (fun b : Nat => .raw (.map (some b))) (fun b B' => MapAt B' b (setK l)) := by
  refine fn_ofX en28 (fun s B B' hB hR => hR.ext hB) Try.func28 rfl in28 (by simp [Try.f28]) (by simp [closeds, closed]) (fun B0 hB0 => next_of 1000 ?_)
  replace h := h.ext hB0
  subst hn
  repeat' (simp (maxSteps := 4000000) (disch := omega) only [go_sem, Nat.reduceBEq, Nat.reduceAdd, Nat.reduceMul, Nat.reduceSub, Nat.reduceLT, Nat.reduceLeDiff, Int.reduceToNat, Int.reduceLT, Int.reduceLE, Int.reduceAdd, Int.reduceMul, Int.reduceSub, Int.reduceNeg, Int.reduceDiv, Int.reduceMod, Nat.reduceBNe, Nat.reduceGT, Int.reduceBEq, Int.reduceBNe, Int.reduceGT, Nat.reduceDiv, Nat.reduceMod, Nat.reducePow, Int.reducePow, gt_iff_lt, ge_iff_le, List.reduceReplicate, ↓reduceIte, Try.f28])
  refine mapMakeS rfl (next_of 1000 ?_)
  repeat' (simp (maxSteps := 4000000) (disch := omega) only [go_sem, Nat.reduceBEq, Nat.reduceAdd, Nat.reduceMul, Nat.reduceSub, Nat.reduceLT, Nat.reduceLeDiff, Int.reduceToNat, Int.reduceLT, Int.reduceLE, Int.reduceAdd, Int.reduceMul, Int.reduceSub, Int.reduceNeg, Int.reduceDiv, Int.reduceMod, Nat.reduceBNe, Nat.reduceGT, Int.reduceBEq, Int.reduceBNe, Int.reduceGT, Nat.reduceDiv, Nat.reduceMod, Nat.reducePow, Int.reducePow, gt_iff_lt, ge_iff_le, List.reduceReplicate, ↓reduceIte])
  refine loopU (S := Nat × Array MapEntry × Nat) (fun s => s.1 ≤ l.length ∧ SetEs s.2.1 (setK (l.take s.1)))
    (fun s => ⟨[(9, .int .i64 (s.1 : Nat)), (8, .int .i64 (l.length : Nat)), (7, .raw (.slice ad l.length cap)), (3, .mp 0)], 1, [(0, some (.obj (.map s.2.1 s.2.2)))], B0, []⟩)
    (fun s => l.length - s.1) (0, #[], 0) ⟨Nat.zero_le _, SetEs.nil⟩ (Weak.sub (weak_of (by simp [wσ, go_sem, closed, closeds, lE_closed, clO, EObj.closed] <;> omega) (by simp [whs, Go.Ew.hget, go_sem, EObj.closed, closed, closeds, lE_closed, clO, EObj.closed]) (by simp [*]) rfl rfl (by simp))) ?_
  rintro ⟨i, es, clock⟩ ⟨hi, hes⟩
  simp only at hi hes ⊢
  have hlen := h.len
  rcases Nat.lt_or_ge i l.length with hi2 | hi2
  · refine next_of 1000 ?_
    simp (maxSteps := 4000000) (disch := omega) only [go_sem, Nat.reduceBEq, Nat.reduceAdd, Nat.reduceMul, Nat.reduceSub, Nat.reduceLT, Nat.reduceLeDiff, Int.reduceToNat, Int.reduceLT, Int.reduceLE, Int.reduceAdd, Int.reduceMul, Int.reduceSub, Int.reduceNeg, Int.reduceDiv, Int.reduceMod, Nat.reduceBNe, Nat.reduceGT, Int.reduceBEq, Int.reduceBNe, Int.reduceGT, Nat.reduceDiv, Nat.reduceMod, Nat.reducePow, Int.reducePow, gt_iff_lt, ge_iff_le, List.reduceReplicate, ↓reduceIte]
    repeat (with_reducible refine And.intro (by first | omega | assumption | (constructor <;> assumption) | (simp; done) | (simp; omega) | (simp [*]; done) | ((repeat' refine And.intro ?_ ?_) <;> first | omega | assumption | (refine SlOk.so (n := ?_) ?_ ?_; rotate_left; assumption; omega) | (simp; done) | fail) | fail) ?_)
    refine condS_split (fun h2 => ?_) (fun h2 => by simp at h2; omega)
    obtain ⟨l1, l2, l3, l4⟩ := h.ld (by omega) hi2
    have hq := h.ok _ (List.getElem_mem hi2)
    have e1 := setK_take hi2
    have hall : ∀ k ∈ setK (l.take i), k.length = 32 := fun k hk => h.ok k (List.mem_of_mem_take (setK_mem.1 hk))
    obtain ⟨q, hq0⟩ : ∃ q, q = l[i] := ⟨_, rfl⟩
    rw [← hq0] at l1 hq e1
    have q1 := bE_one q
    have q2 : List.take 32 (q.map bE) = q.map bE := List.take_of_length_le (by simp [hq])
    repeat' (first | with_reducible refine And.intro (by first | omega | assumption | (constructor <;> assumption) | (simp; done) | (simp; omega) | (simp [*]; done) | ((repeat' refine And.intro ?_ ?_) <;> first | omega | assumption | (refine SlOk.so (n := ?_) ?_ ?_; rotate_left; assumption; omega) | (simp; done) | fail) | fail) ?_ | simp (maxSteps := 4000000) (disch := omega) only [go_sem, Nat.reduceBEq, Nat.reduceAdd, Nat.reduceMul, Nat.reduceSub, Nat.reduceLT, Nat.reduceLeDiff, Int.reduceToNat, Int.reduceLT, Int.reduceLE, Int.reduceAdd, Int.reduceMul, Int.reduceSub, Int.reduceNeg, Int.reduceDiv, Int.reduceMod, Nat.reduceBNe, Nat.reduceGT, Int.reduceBEq, Int.reduceBNe, Int.reduceGT, Nat.reduceDiv, Nat.reduceMod, Nat.reducePow, Int.reducePow, gt_iff_lt, ge_iff_le, List.reduceReplicate, ↓reduceIte, Int.toNat_natCast, l1, q1, q2, List.length_map, hq, bE_splice hq, bE_all hq])
    obtain ⟨kl, hkl⟩ := key32 q hq
    refine mapSetS (K := keyV q) (V := .int .i64 1) 0 rfl arr32.law Try.underlying71 rfl rfl rfl (fun bs => by with_unfolding_all (exact real_key q bs)) (fun bs => rfl) rfl (hes.keys key32 hall) hkl (fun es' clock' hs => next_of 1000 ?_)
    repeat' (simp (maxSteps := 4000000) (disch := omega) only [go_sem, Nat.reduceBEq, Nat.reduceAdd, Nat.reduceMul, Nat.reduceSub, Nat.reduceLT, Nat.reduceLeDiff, Int.reduceToNat, Int.reduceLT, Int.reduceLE, Int.reduceAdd, Int.reduceMul, Int.reduceSub, Int.reduceNeg, Int.reduceDiv, Int.reduceMod, Nat.reduceBNe, Nat.reduceGT, Int.reduceBEq, Int.reduceBNe, Int.reduceGT, Nat.reduceDiv, Nat.reduceMod, Nat.reducePow, Int.reducePow, gt_iff_lt, ge_iff_le, List.reduceReplicate, ↓reduceIte])
    have hes' := hes.set hs
    rw [← e1] at hes'
    exact ⟨(i + 1, es', clock'), ⟨hi2, hes'⟩, Weak.sub (weak_of (by simp [wσ, go_sem, closed, closeds, lE_closed, clO, EObj.closed] <;> omega) (by simp [whs, Go.Ew.hget, go_sem, EObj.closed, closed, closeds, lE_closed, clO, EObj.closed]) (by simp [*]) rfl rfl (by simp)), by simp only; omega⟩
  · obtain rfl : i = l.length := by omega
    refine next_of 1000 ?_
    simp (maxSteps := 4000000) (disch := omega) only [go_sem, Nat.reduceBEq, Nat.reduceAdd, Nat.reduceMul, Nat.reduceSub, Nat.reduceLT, Nat.reduceLeDiff, Int.reduceToNat, Int.reduceLT, Int.reduceLE, Int.reduceAdd, Int.reduceMul, Int.reduceSub, Int.reduceNeg, Int.reduceDiv, Int.reduceMod, Nat.reduceBNe, Nat.reduceGT, Int.reduceBEq, Int.reduceBNe, Int.reduceGT, Nat.reduceDiv, Nat.reduceMod, Nat.reducePow, Int.reducePow, gt_iff_lt, ge_iff_le, List.reduceReplicate, ↓reduceIte]
    repeat (with_reducible refine And.intro (by first | omega | assumption | (constructor <;> assumption) | (simp; done) | (simp; omega) | (simp [*]; done) | ((repeat' refine And.intro ?_ ?_) <;> first | omega | assumption | (refine SlOk.so (n := ?_) ?_ ?_; rotate_left; assumption; omega) | (simp; done) | fail) | fail) ?_)
    refine condS_split (fun h2 => by simp at h2) (fun h2 => ?_)
    repeat' (first | simp (maxSteps := 4000000) (disch := omega) only [go_sem, Nat.reduceBEq, Nat.reduceAdd, Nat.reduceMul, Nat.reduceSub, Nat.reduceLT, Nat.reduceLeDiff, Int.reduceToNat, Int.reduceLT, Int.reduceLE, Int.reduceAdd, Int.reduceMul, Int.reduceSub, Int.reduceNeg, Int.reduceDiv, Int.reduceMod, Nat.reduceBNe, Nat.reduceGT, Int.reduceBEq, Int.reduceBNe, Int.reduceGT, Nat.reduceDiv, Nat.reduceMod, Nat.reducePow, Int.reducePow, gt_iff_lt, ge_iff_le, List.reduceReplicate, ↓reduceIte] | with_reducible refine next_of 1000 ?_)
    rw [List.take_length] at hes
    exact ⟨BExt.refl _, lays_M 0 rfl (fun b B' hB hD hb => ⟨by simp [frz, closed], b, by simp [frz], hD, es, clock, hb, hes⟩)⟩
theorem has32_fn (ks : List (List UInt8)) (b : Nat) (B : Base) (q : List UInt8) (h : MapAt B b ks) (hall : ∀ k ∈ ks, k.length = 32) (hl : ks.length ≤ 1048576) (hq : q.length = 32) :
    Does Try.prog 58 [.raw (.map (some b)), .agg (q.map bE)] B (fun _ : Unit => .bool (hasK ks q)) (fun _ _ => True) := by
  refine fn_of en58 (fun s B B' hB hR => hR) Try.func58 rfl in58 (by simp [Try.f58]) (by simp [closeds, closed, closeds_bE]) (fun B0 hB0 => next_of 1000 ?_)
  obtain ⟨hD, es, clock, hb, hes⟩ := h.ext hB0
  have q1 := bE_one q
  have q2 : List.take 32 (q.map bE) = q.map bE := List.take_of_length_le (by simp [hq])
  repeat' (simp (maxSteps := 4000000) (disch := omega) only [go_sem, Nat.reduceBEq, Nat.reduceAdd, Nat.reduceMul, Nat.reduceSub, Nat.reduceLT, Nat.reduceLeDiff, Int.reduceToNat, Int.reduceLT, Int.reduceLE, Int.reduceAdd, Int.reduceMul, Int.reduceSub, Int.reduceNeg, Int.reduceDiv, Int.reduceMod, Nat.reduceBNe, Nat.reduceGT, Int.reduceBEq, Int.reduceBNe, Int.reduceGT, Nat.reduceDiv, Nat.reduceMod, Nat.reducePow, Int.reducePow, gt_iff_lt, ge_iff_le, List.reduceReplicate, ↓reduceIte, Try.f58, q1, q2, List.length_map, hq, bE_all hq, EV.cells])
  refine mapLenS ks.length rfl Try.underlying71 (.inl ⟨b, clock, rfl, hD, hb⟩) hes.len (next_of 1000 ?_)
  by_cases hks : ks = []
  · have e0 : (((ks.length : Nat) : Int) == 0) = true := by rw [hks]; rfl
    repeat' (simp (maxSteps := 4000000) (disch := omega) only [go_sem, Nat.reduceBEq, Nat.reduceAdd, Nat.reduceMul, Nat.reduceSub, Nat.reduceLT, Nat.reduceLeDiff, Int.reduceToNat, Int.reduceLT, Int.reduceLE, Int.reduceAdd, Int.reduceMul, Int.reduceSub, Int.reduceNeg, Int.reduceDiv, Int.reduceMod, Nat.reduceBNe, Nat.reduceGT, Int.reduceBEq, Int.reduceBNe, Int.reduceGT, Nat.reduceDiv, Nat.reduceMod, Nat.reducePow, Int.reducePow, gt_iff_lt, ge_iff_le, List.reduceReplicate, ↓reduceIte, e0])
    exact ⟨BExt.refl _, (), by simp [hasK, hks], trivial⟩
  · have e0 : (((ks.length : Nat) : Int) == 0) = false := by
      rw [beq_eq_false_iff_ne]
      intro h0
      exact hks (List.length_eq_zero_iff.1 (by omega))
    repeat' (first | with_reducible refine And.intro (by first | omega | assumption | (constructor <;> assumption) | (simp; done) | (simp; omega) | (simp [*]; done) | ((repeat' refine And.intro ?_ ?_) <;> first | omega | assumption | (refine SlOk.so (n := ?_) ?_ ?_; rotate_left; assumption; omega) | (simp; done) | fail) | fail) ?_ | simp (maxSteps := 4000000) (disch := omega) only [go_sem, Nat.reduceBEq, Nat.reduceAdd, Nat.reduceMul, Nat.reduceSub, Nat.reduceLT, Nat.reduceLeDiff, Int.reduceToNat, Int.reduceLT, Int.reduceLE, Int.reduceAdd, Int.reduceMul, Int.reduceSub, Int.reduceNeg, Int.reduceDiv, Int.reduceMod, Nat.reduceBNe, Nat.reduceGT, Int.reduceBEq, Int.reduceBNe, Int.reduceGT, Nat.reduceDiv, Nat.reduceMod, Nat.reducePow, Int.reducePow, gt_iff_lt, ge_iff_le, List.reduceReplicate, ↓reduceIte, e0, q2])
    obtain ⟨kl, hkl⟩ := key32 q hq
    refine mapGetS (K := keyV q) (z := .int .i64 0) (v := .int .i64 (if q ∈ ks then 1 else 0)) rfl arr32.law Try.underlying71 (fun w => by kernel_rfl) trivial trivial (.inl ⟨b, clock, rfl, hD, hb⟩) rfl (fun bs => by with_unfolding_all (exact real_key q bs)) (hes.keys key32 hall) hkl (fun hno => ?_) (fun e he hk => ?_) (next_of 1000 ?_)
    · rw [if_neg]
      intro hk
      obtain ⟨e, he, h3⟩ := hes.mem_of hk
      exact hno e he h3
    · obtain ⟨k', hk', h4, h5⟩ := hes.of_mem he
      have : k' = q := keyV_inj (h4.symm.trans hk)
      subst this
      rw [if_pos hk', h5]; rfl
    · by_cases hm : q ∈ ks
      · simp only [if_pos hm]
        repeat' (simp (maxSteps := 4000000) (disch := omega) only [go_sem, Nat.reduceBEq, Nat.reduceAdd, Nat.reduceMul, Nat.reduceSub, Nat.reduceLT, Nat.reduceLeDiff, Int.reduceToNat, Int.reduceLT, Int.reduceLE, Int.reduceAdd, Int.reduceMul, Int.reduceSub, Int.reduceNeg, Int.reduceDiv, Int.reduceMod, Nat.reduceBNe, Nat.reduceGT, Int.reduceBEq, Int.reduceBNe, Int.reduceGT, Nat.reduceDiv, Nat.reduceMod, Nat.reducePow, Int.reducePow, gt_iff_lt, ge_iff_le, List.reduceReplicate, ↓reduceIte])
        exact ⟨BExt.refl _, (), by simp [hasK, hks, hm], trivial⟩
      · simp only [if_neg hm]
        repeat' (simp (maxSteps := 4000000) (disch := omega) only [go_sem, Nat.reduceBEq, Nat.reduceAdd, Nat.reduceMul, Nat.reduceSub, Nat.reduceLT, Nat.reduceLeDiff, Int.reduceToNat, Int.reduceLT, Int.reduceLE, Int.reduceAdd, Int.reduceMul, Int.reduceSub, Int.reduceNeg, Int.reduceDiv, Int.reduceMod, Nat.reduceBNe, Nat.reduceGT, Int.reduceBEq, Int.reduceBNe, Int.reduceGT, Nat.reduceDiv, Nat.reduceMod, Nat.reducePow, Int.reducePow, gt_iff_lt, ge_iff_le, List.reduceReplicate, ↓reduceIte])
        exact ⟨BExt.refl _, (), by simp [hasK, hks, hm], trivial⟩
end Go.Proofs.Ytepabkjfnpaijaa
