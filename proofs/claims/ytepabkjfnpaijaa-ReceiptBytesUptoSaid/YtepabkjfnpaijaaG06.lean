/- Part of a proof over the seat Ytepabkjfnpaijaa. -/
import Derived.Test.YtepabkjfnpaijaaG05
import Derived.Test.YtepabkjfnpaijaaEng2
set_option linter.unusedSimpArgs false
set_option linter.unusedVariables false
set_option maxRecDepth 100000
namespace Go.Proofs.Ytepabkjfnpaijaa
open Go RowKit Go.Ew
set_option maxHeartbeats 4000000
theorem bytes_lds {B : Base} {ad : Option Addr} {l : List UInt8} (h : BytesAt B ad l) {o n : Nat} (hn : o + n ≤ l.length) (h0 : 0 < n) :
  rawCells B (adrAt ad o) n = ((l.drop o).take n).map bE ∧ B.D (adr ad).block ∧ LiveAt B (adrAt ad o) n ∧ ad.isSome = true := by
 have e : ∀ j, (adrAt ad o).add j = adrAt ad (o + j) := fun j => by unfold adrAt; rw [add_add]
 refine ⟨?_, h.lD (by omega), fun j hj => by rw [e]; exact h.lS _ (by omega), h.ok.so (by omega)⟩
 unfold rawCells
 apply List.ext_getElem
 ·simp; omega
 ·intro j h1 h2
  simp only [List.length_map, List.length_range] at h1
  simp only [List.getElem_map, List.getElem_range, e, List.getElem_take, List.getElem_drop]
  rw [h.ld _ (by omega), List.getD_eq_getElem?_getD, List.getElem?_eq_getElem (by omega)]; rfl
theorem bE_one (l : List UInt8) : oneAll (l.map bE) = true := by
 induction l with
 | nil => rfl
 | cons a l ih => simp only [List.map_cons, oneAll, Bool.and_eq_true]; exact ⟨rfl, ih⟩
theorem bE_splice {l : List UInt8} {n : Nat} (h : l.length = n) (h2 : 1 < n) (f : Nat → Int) : splice (ints .u8 f n) 0 (l.map bE) = l.map bE :=
 splice_all (by simp [ints_len, h]) (by simp; omega)
theorem bE_all {l : List UInt8} {n : Nat} (h : l.length = n) : ((l.map bE).drop 0).take n = l.map bE := by
 rw [List.drop_zero, List.take_of_length_le (by simp; omega)]
theorem logE_ad {ad : List UInt8} {u v : EV} (h : ad.length = 20) : ((logE ad u v).drop 0).take 20 = ad.map bE := by
 rw [List.drop_zero, logE, List.take_append_of_le_length (by simp; omega), List.take_of_length_le (by simp; omega)]
/-- A log's topics, and all its texts. -/
def LogV.top (g : LogV) (k : Nat) : List UInt8 := (g.tp.drop (32 * k)).take 32
def LogV.tops (g : LogV) : List (List UInt8) := (List.range g.tn).map g.top
def LogV.marks (g : LogV) : List (List UInt8) := g.ad :: g.tops
def marksL (L : List LogV) : List (List UInt8) := L.flatMap LogV.marks
theorem top_len {B : Base} {g : LogV} (h : g.Ok B) {k : Nat} (hk : k < g.tn) : (g.top k).length = 32 := by
 have := h.ht
 simp [LogV.top]; omega
theorem tops_len (g : LogV) : g.tops.length = g.tn := by simp [LogV.tops]
theorem tops_get {g : LogV} {k : Nat} (hk : k < g.tn) : g.tops[k]'(by rw [tops_len]; exact hk) = g.top k := by simp [LogV.tops]
theorem allB_append (F : Blm) (ps qs : List (List UInt8)) : allB F (ps ++ qs) = allB (allB F ps) qs := List.foldl_append
theorem allB_one (F : Blm) (p : List UInt8) : allB F [p] = withP F p := rfl
theorem allB_tops {F : Blm} {g : LogV} {k : Nat} (hk : k < g.tn) : withP (allB F (g.tops.take k)) (g.top k) = allB F (g.tops.take (k + 1)) := by
 rw [List.take_succ_eq_append_getElem (by rw [tops_len]; exact hk), allB_append, tops_get hk, allB_one]
theorem allB_logs {F : Blm} {L : List LogV} {i : Nat} (hi : i < L.length) : allB (withP (allB F (marksL (L.take i))) L[i].ad) L[i].tops = allB F (marksL (L.take (i + 1))) := by
 rw [List.take_succ_eq_append_getElem hi, marksL, marksL, List.flatMap_append, allB_append]
 simp only [List.flatMap_cons, List.flatMap_nil, List.append_nil, LogV.marks]
 rfl
theorem LogV.Ok.ldT {B : Base} {g : LogV} (h : g.Ok B) {k : Nat} (hk : k < g.tn) :
  rawCells B (adrAt g.tA (k * 32)) 32 = (g.top k).map bE ∧ B.D (adr g.tA).block ∧ LiveAt B (adrAt g.tA (k * 32)) 32 ∧ g.tA.isSome = true := by
 have := h.ht
 have := bytes_lds h.tB (o := k * 32) (n := 32) (by omega) (by omega)
 rwa [Nat.mul_comm k 32] at this ⊢
theorem refof_fn (L : List LogV) (n : Nat) (B : Base) (ad : Option Addr) (cap : Nat) (h : LogsAt B ad L) (hn : L.length = n) :
  Does Try.prog 12 [.raw (.slice ad n cap)] B (fun _ : Unit => .agg (ints .u8 (fB (allB zB (marksL L))) 256)) (fun _ _ => True) := by
 refine fn_of en12 (fun s B B' hB hR => hR) Try.func12 rfl in12 (by simp [Try.f12]) (by simp [closeds, closed, closeds_ints]) (fun B0 hB0 => next_of 1000 ?_)
 replace h := h.ext hB0
 subst hn
 repeat' (simp (maxSteps := 4000000) (disch := omega) only [go_sem, ↓reduceIte, Try.f12])
 refine loopU (S := Nat) (fun i => i ≤ L.length)
  (fun i => ⟨[(10, .int .i64 (i : Nat)), (9, .int .i64 (L.length : Nat)), (8, .raw (.slice ad L.length cap)), (3, .ptr 1 0), (2, .ptr 0 0)], 2, [(1, some (.cells (ints .u8 (fB (allB zB (marksL (L.take i)))) 256) 27 (0, 0))), (0, some (.cells (ints .u8 (fun _ => 0) 256) 27 (0, 0)))], B0, []⟩)
  (fun i => L.length - i) 0 (by simp) (Weak.sub (weak_of (by simp [wσ, go_sem, closed, closeds, lE_closed, closeds_ints, marksL, allB, zB_fB] <;> omega) (by simp [whs, Go.Ew.hget, go_sem, EObj.closed, closed, closeds, lE_closed, closeds_ints, marksL, allB, zB_fB]) (by simp [*]) rfl rfl (by simp))) ?_
 intro i hi
 have hlen := h.len
 refine next_of 1000 ?_
 simp (maxSteps := 4000000) (disch := omega) only [go_sem, ↓reduceIte]
 repeat (with_reducible refine And.intro (by omega) ?_)
 refine condS_split (fun h2 => ?_) (fun h2 => ?_)
 all_goals (try simp only [bne_iff_ne, ne_eq, beq_iff_eq, decide_eq_true_eq, decide_eq_false_iff_not, Bool.not_eq_true, Bool.not_eq_false, Bool.not_true, Bool.not_false, bne_eq_false_iff_eq, beq_eq_false_iff_ne, Bool.and_eq_true, Bool.or_eq_true, Bool.and_eq_false_imp, Bool.or_eq_false_iff, Bool.not_eq_true', Bool.not_eq_false', Int.not_lt, Int.not_le] at h2)
 ·have hi2 : i < L.length := by omega
  obtain ⟨l1, l2, l3, l4⟩ := h.ld hi2
  have h1 := h.ok _ (List.getElem_mem hi2)
  have e1 := allB_logs (F := zB) hi2
  obtain ⟨g, hg⟩ : ∃ g, g = L[i] := ⟨_, rfl⟩
  rw [← hg] at l1 h1 e1
  have ht := h1.tb
  have f1 : oneAll g.ev = true := logE_one rfl rfl
  have f2 : ∀ u v, (logE g.ad u v).length = 22 := fun u v => logE_len h1.ha
  have f3 : ∀ u v d, (logE g.ad u v).getD 20 d = u := fun u v d => logE_20 h1.ha
  have f4 : ∀ u v d, (logE g.ad u v).getD 21 d = v := fun u v d => logE_21 h1.ha
  obtain ⟨F, hF⟩ : ∃ F, F = allB zB (marksL (L.take i)) := ⟨_, rfl⟩
  rw [← hF] at e1 ⊢
  repeat' (first | with_reducible refine And.intro (by first | omega | (constructor <;> assumption) | (simp; done) | (simp [*]; done)) ?_ | simp (maxSteps := 4000000) (disch := omega) only [go_sem, ↓reduceIte, Int.toNat_natCast, l1, f1, f2, f3, f4, logE_splice h1.ha] | with_reducible refine drawT_of (id := 5) [0, 1, 2, 3, 4] mixed (by kernel_rfl) (by simp) (fun hin => dt_of 1000 hin ?_) | with_reducible refine endT_of (by kernel_rfl) (nmT_of (by kernel_rfl)) (next_of 1000 ?_) | refine callT_ro 2 0 20 20 [.agg (ints .u8 (fB F) 256)] g.ad en26 (by simp [closeds, closed, closeds_ints]) rfl rfl (logE_ad h1.ha) (by simp [closed, closeds_ints]) (fun B ad cap hb => with_fn F g.ad 20 B ad cap hb h1.ha (by omega)) (by kernel_rfl) (ck_of (by kernel_rfl) (nmT_of (by kernel_rfl))) (fun hin => dt_of 1000 hin ?_))
  refine loopU (S := Nat) (fun k => k ≤ g.tn)
   (fun k => ⟨[(21, .int .i64 (k : Nat)), (20, .int .i64 (g.tn : Nat)), (19, .raw (.slice g.tA g.tn g.tc)), (10, .int .i64 (i : Nat)), (9, .int .i64 (L.length : Nat)), (8, .raw (.slice ad L.length cap)), (3, .ptr 1 0), (2, .ptr 0 0)], 2, [(1, some (.cells (ints .u8 (fB (allB (withP F g.ad) (g.tops.take k))) 256) 27 (0, 0))), (0, some (.cells (ints .u8 (fun _ => 0) 256) 27 (0, 0)))], B0, []⟩)
   (fun k => g.tn - k) 0 (by simp) (Weak.sub (weak_of (by simp [wσ, go_sem, closed, closeds, lE_closed, closeds_ints, allB] <;> omega) (by simp [whs, Go.Ew.hget, go_sem, EObj.closed, closed, closeds, lE_closed, closeds_ints, allB]) (by simp [*]) rfl rfl (by simp))) ?_
  intro k hk
  refine next_of 1000 ?_
  simp (maxSteps := 4000000) (disch := omega) only [go_sem, ↓reduceIte]
  repeat (with_reducible refine And.intro (by omega) ?_)
  refine condS_split (fun h3 => ?_) (fun h3 => ?_)
  all_goals (try simp only [bne_iff_ne, ne_eq, beq_iff_eq, decide_eq_true_eq, decide_eq_false_iff_not, Bool.not_eq_true, Bool.not_eq_false, Bool.not_true, Bool.not_false, bne_eq_false_iff_eq, beq_eq_false_iff_ne, Bool.and_eq_true, Bool.or_eq_true, Bool.and_eq_false_imp, Bool.or_eq_false_iff, Bool.not_eq_true', Bool.not_eq_false', Int.not_lt, Int.not_le] at h3)
  ·have hk2 : k < g.tn := by omega
   obtain ⟨m1, m2, m3, m4⟩ := h1.ldT hk2
   have e2 := allB_tops (F := withP F g.ad) hk2
   have hq := top_len h1 hk2
   obtain ⟨q, hq0⟩ : ∃ q, q = g.top k := ⟨_, rfl⟩
   rw [← hq0] at m1 e2 hq
   obtain ⟨G, hG⟩ : ∃ G, G = allB (withP F g.ad) (g.tops.take k) := ⟨_, rfl⟩
   rw [← hG] at e2 ⊢
   have q1 := bE_one q
   repeat' (first | with_reducible refine And.intro (by first | omega | (constructor <;> assumption) | (simp; done) | ((repeat' refine And.intro ?_ ?_) <;> first | omega | assumption | (refine SlOk.so (n := ?_) ?_ ?_; rotate_left; assumption; omega) | (simp; done) | fail)) ?_ | simp (maxSteps := 4000000) (disch := omega) only [go_sem, ↓reduceIte, Int.toNat_natCast, m1, q1, List.length_map, hq, bE_splice hq] | with_reducible refine drawT_of (id := 9) [0, 1, 2, 3] mixed (by kernel_rfl) (by simp) (fun hin => dt_of 1000 hin ?_) | with_reducible refine endT_of (by kernel_rfl) (nmT_of (by kernel_rfl)) (next_of 1000 ?_) | refine callT_ro 2 0 32 32 [.agg (ints .u8 (fB G) 256)] q en26 (by simp [closeds, closed, closeds_ints]) rfl rfl (bE_all hq) (by simp [closed, closeds_ints]) (fun B ad cap hb => with_fn G q 32 B ad cap hb hq (by omega)) (by kernel_rfl) (ck_of (by kernel_rfl) (nmT_of (by kernel_rfl))) (fun hin => dt_of 1000 hin ?_))
   exact ⟨k + 1, hk2, Weak.sub (weak_of (by simp [wσ, go_sem, closed, closeds, lE_closed, closeds_ints, e2] <;> omega) (by simp [whs, Go.Ew.hget, go_sem, EObj.closed, closed, closeds, lE_closed, closeds_ints, e2]) (by simp [*]) rfl rfl (by simp)), by omega⟩
  ·obtain rfl : k = g.tn := by omega
   repeat' (first | simp (maxSteps := 4000000) (disch := omega) only [go_sem, ↓reduceIte] | with_reducible refine next_of 1000 ?_)
   exact ⟨i + 1, hi2, Weak.sub (weak_of (by simp [wσ, go_sem, closed, closeds, lE_closed, closeds_ints, ← e1, List.take_of_length_le (Nat.le_of_eq (tops_len g))] <;> omega) (by simp [whs, Go.Ew.hget, go_sem, EObj.closed, closed, closeds, lE_closed, closeds_ints, ← e1, List.take_of_length_le (Nat.le_of_eq (tops_len g))]) (by simp [*]) rfl rfl (by simp)), by omega⟩
 ·obtain rfl : i = L.length := by omega
  repeat' (first | simp (maxSteps := 4000000) (disch := omega) only [go_sem, ↓reduceIte, List.take_length] | with_reducible refine next_of 1000 ?_)
  exact ⟨BExt.refl _, (), closeds_ints _ _ _ _⟩
end Go.Proofs.Ytepabkjfnpaijaa
namespace Go.Proofs.Ytepabkjfnpaijaa
open Go RowKit Go.Ew
set_option maxHeartbeats 4000000
/-- What a log says, wherever it lies. -/
def LogV.body (g : LogV) : List UInt8 × Nat × List UInt8 × List UInt8 := (g.ad, g.tn, g.tp, g.dt)
theorem ofS_bV (l : List UInt8) : (l.map bV).map ofScalar = l.map bE := by
 simp [bV, bE, ofScalar, Function.comp_def]
def z22 : List EV := List.replicate 20 (.int .u8 0) ++ [.raw (.slice none 0 0), .raw (.slice none 0 0)]
/-- A list of logs of one's own. -/
abbrev logsE (L : List LogV) : List EV := L.flatMap LogV.ev
theorem z22_closed : closeds 0 z22 := by simp [z22, closeds, closed, List.replicate]
theorem reals_logs (bs : Nat → Nat) (L : List LogV) : reals bs (logsE L) = L.flatMap LogV.cells :=
 reals_flat _ _ _ (fun g => by simp [logE, LogV.cells, reals_eq, bE, bV, real, Function.comp_def]) L
theorem oneAll_logE (ad : List UInt8) (u v : EV) : oneAll (logE ad u v) = (u.one && v.one) := by
 induction ad with
 | nil => simp [logE, oneAll]
 | cons a l ih => simp only [logE, List.map_cons, List.cons_append, oneAll] at ih ⊢; rw [ih]; rfl
theorem logsE_len {B : Base} {L : List LogV} (h : ∀ g ∈ L, g.Ok B) : (logsE L).length = L.length * 22 := by
 have := flat_len (f := LogV.ev) (k := 22) (l := L) (fun g hg => logE_len (h g hg).ha)
 rw [this]; omega
theorem logsE_closed (n : Nat) (L : List LogV) : closeds n (logsE L) := by
 induction L with
 | nil => trivial
 | cons g L ih => exact closeds_append.2 ⟨logE_closed (by simp [closed]) (by simp [closed]), ih⟩
theorem twin_fn (L : List LogV) (n : Nat) (B : Base) (ad : Option Addr) (cap : Nat) (h : LogsAt B ad L) (hn : L.length = n) :
  Does Try.prog 10 [.raw (.slice ad n cap)] B (fun s : Option Addr × Nat × List LogV => .raw (.slice s.1 n s.2.1)) (fun s B' => LogsAt B' s.1 s.2.2 ∧ s.2.2.map LogV.body = L.map LogV.body) := by
 refine fn_of en10 (fun s B B' hB hR => ⟨hR.1.ext hB, hR.2⟩) Try.func10 rfl in10 (by simp [Try.f10]) (by simp [closeds, closed, closeds_ints]) (fun B0 hB0 => next_of 1000 ?_)
 replace h := h.ext hB0
 subst hn
 repeat' (simp (maxSteps := 4000000) (disch := omega) only [go_sem, ↓reduceIte, Try.f10])
 refine loopU (S := Nat × Lst × List LogV × Base) (fun s => s.1 ≤ L.length ∧ lOk z22 s.1 s.2.1 ∧ BExt B0 s.2.2.2 ∧ (∀ g ∈ s.2.2.1, g.Ok s.2.2.2) ∧ s.2.2.1.map LogV.body = (L.take s.1).map LogV.body)
  (fun s => ⟨[(8, .int .i64 (s.1 : Nat)), (7, .int .i64 (L.length : Nat)), (6, .raw (.slice ad L.length cap)), (3, lE 0 s.1 s.2.1)], 1, [(0, lO 36 (logsE s.2.2.1) s.2.1)], s.2.2.2, []⟩)
  (fun s => L.length - s.1) (0, none, [], B0) ⟨Nat.zero_le _, rfl, BExt.refl _, by simp, rfl⟩ (Weak.sub (weak_of (by simp [wσ, go_sem, closed, closeds, lE_closed, lE, lO, clO] <;> omega) (by simp [whs, Go.Ew.hget, go_sem, EObj.closed, closed, closeds, lE_closed, lE, lO, clO]) (by simp [*]) rfl rfl (by simp))) ?_
 rintro ⟨i, l, L', B1⟩ ⟨hi, hl, hB1, hok, hbd⟩
 simp only at hi hl hB1 hok hbd ⊢
 have hlen := h.len
 replace h := h.ext hB1
 have hLl : L'.length = i := by have := congrArg List.length hbd; simp at this; omega
 rcases Nat.lt_or_ge i L.length with hi2 | hi2
 ·refine next_of 1000 ?_
  simp (maxSteps := 4000000) (disch := omega) only [go_sem, ↓reduceIte]
  repeat (with_reducible refine And.intro (by omega) ?_)
  refine condS_split (fun h2 => ?_) (fun h2 => by simp at h2; omega)
  obtain ⟨l1, l2, l3, l4⟩ := h.ld hi2
  have h1 := h.ok _ (List.getElem_mem hi2)
  obtain ⟨g, hg⟩ : ∃ g, g = L[i] := ⟨_, rfl⟩
  rw [← hg] at l1 h1
  have ht := h1.tb
  have f1 : oneAll g.ev = true := logE_one rfl rfl
  have f2 : ∀ u v, (logE g.ad u v).length = 22 := fun u v => logE_len h1.ha
  have f3 : ∀ u v d, (logE g.ad u v).getD 20 d = u := fun u v d => logE_20 h1.ha
  have f4 : ∀ u v d, (logE g.ad u v).getD 21 d = v := fun u v d => logE_21 h1.ha
  have f5 : ∀ u v d, (logE g.ad u v).set 20 d = logE g.ad d v := fun u v d => logE_s20 h1.ha
  have f6 : ∀ u v d, (logE g.ad u v).set 21 d = logE g.ad u d := fun u v d => logE_s21 h1.ha
  repeat' (first | with_reducible refine And.intro (by first | omega | (constructor <;> assumption) | (simp [*]; done)) ?_ | simp (maxSteps := 4000000) (disch := omega) only [go_sem, ↓reduceIte, Int.toNat_natCast, l1, f1, f2, f3, f4, f5, f6, logE_splice h1.ha])
  have hx := h1.ht
  refine appF (T := 38) (m := g.tn) (cs := g.tp.map bV) 32 rfl Try.underlying34 (.inl ⟨_, Try.underlying34⟩) zr38 cz38 (ints_len _ _ _) (by omega) (closeds_ints _ _ _ _) rfl (CellsAt.src h1.tB (by omega) (by simp; omega) _) (by simp; omega) (by rw [ofS_bV]; exact bE_one _) (by simp only [maxLen]; omega) (by rw [show Try.prog.bytesOf 38 = 32 from by38]; omega) (fun tA' tc' B2 hB2 hct hcapt => ?_)
  change BExt B1 B2 at hB2
  have h1' := h1.ext hB2
  refine next_of 1000 ?_
  repeat' (first | with_reducible refine And.intro (by omega) ?_ | simp (maxSteps := 4000000) (disch := omega) only [go_sem, ↓reduceIte, f1, f2, f3, f4, f5, f6])
  have hx2 := h1.hd
  have ht2 := h1.db
  refine appF (T := 5) (m := g.dn) (cs := g.dt.map bV) 1 rfl Try.underlying23 (.inl ⟨_, Try.underlying23⟩) zr5 cz5 rfl (by omega) hz8 rfl (CellsAt.src h1'.dB (by omega) (by simp; omega) _) (by simp; omega) (by rw [ofS_bV]; exact bE_one _) (by simp only [maxLen]; omega) (by rw [show Try.prog.bytesOf 5 = 1 from by5]; omega) (fun dA' dc' B3 hB3 hcd hcapd => ?_)
  change BExt B2 B3 at hB3
  refine next_of 1000 ?_
  have f7 : ∀ u v, oneAll (logE g.ad (.raw u) (.raw v)) = (u.oneCell' && v.oneCell') := fun u v => by rw [oneAll_logE]; rfl
  have f8 : ∀ u v, List.take 22 (logE g.ad u v) = logE g.ad u v := fun u v => logE_take h1.ha
  repeat' (first | with_reducible refine And.intro (by first | omega | (simp; done)) ?_ | simp (maxSteps := 4000000) (disch := omega) only [go_sem, ↓reduceIte, f2, f3, f4, f5, f6, f7, f8, logE_splice h1.ha])
  have f9 : ∀ u v, ((logE g.ad u v).drop 0).take (1 * z22.length) = logE g.ad u v := fun u v => logE_take h1.ha
  refine appendL (l := l) (xs := logsE L') (zs := z22) (T := 36) 0 i rfl Try.underlying22 (.inl ⟨_, Try.underlying22⟩) zr36 cz36 (by simp [z22]) z22_closed rfl rfl rfl hl (by rw [logsE_len hok, show L'.length = i from hLl]; rfl) (logsE_closed 0 L') (src_own rfl (f9 _ _)) (by rw [f2]; decide) (by rw [f7]; rfl) (by simp only [maxLen]; omega) (by rw [show Try.prog.bytesOf 36 = 72 from by36]; omega) (fun l2 hl2 => ?_)
  refine packS [3] 0 (by simp) (by simp) (by simp) (by simp) (next_of 1000 ?_)
  obtain ⟨g', hg'⟩ : ∃ g' : LogV, g' = ⟨g.ad, tA', g.tn, tc', g.tp, dA', g.dn, dc', g.dt⟩ := ⟨_, rfl⟩
  have hev : logsE L' ++ logE g.ad (EV.raw (Value.slice tA' g.tn tc')) (EV.raw (Value.slice dA' g.dn dc')) = logsE (L' ++ [g']) := by
   rw [hg', logsE, logsE, List.flatMap_append, List.flatMap_singleton]
  repeat' (simp (maxSteps := 4000000) (disch := omega) only [go_sem, ↓reduceIte, hev, okC_lE' (ks := [3]) (k := 0) (r := 3) rfl, pkO_lO (ks := [3]) (k := 0) hl2 (logsE_closed 0 _) z22_closed, pkO_none])
  have hB13 := hB2.trans hB3
  have hok' : ∀ a ∈ L' ++ [g'], a.Ok B3 := fun a ha => by
   rcases List.mem_append.1 ha with h3 | h3
   ·exact (hok a h3).ext hB13
   ·obtain rfl := List.mem_singleton.1 h3
    rw [hg']
    exact ⟨h1.ha, h1.ht, h1.hd, hct.ext hB3, hcd, h1.tb, h1.db⟩
  have hbd' : (L' ++ [g']).map LogV.body = (L.take (i + 1)).map LogV.body := by
   rw [List.take_succ_eq_append_getElem hi2, List.map_append, List.map_append, hbd, ← hg, hg']
   rfl
  have cl2 : ∀ n, clO n (lO 36 (logsE (L' ++ [g'])) l2) = True := fun n => clO_lO hl2 (logsE_closed 0 _) z22_closed
  have cl3 : ∀ n, clO n (lO 36 (L'.flatMap LogV.ev ++ g'.ev) l2) = True := fun n => by have := cl2 n; rwa [logsE, List.flatMap_append, List.flatMap_singleton] at this
  exact ⟨(i + 1, l2, L' ++ [g'], B3), ⟨hi2, hl2, hB1.trans hB13, hok', hbd'⟩, Weak.sub (weak_of (by simp [wσ, go_sem, closed, closeds, lE_closed, cl3] <;> omega) (by simp [whs, Go.Ew.hget, go_sem, EObj.closed, closed, closeds, lE_closed, cl3]) (by simp [*]) rfl rfl (by simp)), by simp only; omega⟩
 ·obtain rfl : i = L.length := by omega
  refine freezeL (xs := logsE L') (T := 36) 0 L.length rfl hl (by rw [logsE_len hok, hLl]; rfl) (logsE_closed 0 _) z22_closed (by simp) (fun b ad2 cap2 B2 hB2 hf hD hso hc => next_of 1000 ?_)
  change BExt B1 B2 at hB2
  have hC : CellsAt B2 ad2 (L'.flatMap LogV.cells) := cellsAt_frz hD hso (fun h0 => by
   rw [h0] at hLl; rw [List.length_eq_zero_iff.1 hLl]; rfl) hc (reals_logs _ _)
  simp (maxSteps := 4000000) (disch := omega) only [go_sem, ↓reduceIte, hf]
  repeat (with_reducible refine And.intro (by omega) ?_)
  refine condS_split (fun h2 => by simp at h2) (fun h2 => ?_)
  repeat' (first | simp (maxSteps := 4000000) (disch := omega) only [go_sem, ↓reduceIte, hf] | with_reducible refine next_of 1000 ?_)
  exact ⟨hB1.trans hB2, ⟨ad2, cap2, L'⟩, rfl, by simp [closed], ⟨hC, fun g hg => (hok g hg).ext hB2, by simp only; omega⟩, by rw [hbd, List.take_length]⟩
end Go.Proofs.Ytepabkjfnpaijaa
namespace Go.Proofs.Ytepabkjfnpaijaa
open Go RowKit Go.Ew
set_option maxHeartbeats 4000000
theorem in24 : codeIn Try.f24.ntmps (Try.f24.body.getD .skip) = true := by kernel_rfl
theorem in55 : codeIn Try.f55.ntmps (Try.f55.body.getD .skip) = true := by kernel_rfl
theorem in9 : codeIn Try.f9.ntmps (Try.f9.body.getD .skip) = true := by kernel_rfl
/-- Bytes of a block of one's own, seen from outside. -/
theorem own_bytes {C : Cx} {B : Base} {n : Nat} {hs : List (Nat × Option EObj)} {bs : Nat → Nat} {w : World} (hh : HRel C B n hs bs w) {j off m : Nat} {cs : List EV} {T : TypeId} {fr : Nat × Nat} {xs : List UInt8}
  (hg : hget hs j = some (.cells cs T fr)) (hcs : (cs.drop off).take m = xs.map bE) (D : Nat → Prop) (hD : D (bs j)) : BytesAt ⟨w, D⟩ (some ⟨bs j, off, none⟩) xs := by
 have hlive := (hh.live j _ hg).2
 simp only [EObj.real] at hlive
 refine ⟨?_, fun _ => rfl, fun i hi => ?_⟩
 ·intro a ha _
  cases ha
  exact hD
 ·have e : adrAt (some (⟨bs j, off, none⟩ : Addr)) i = ⟨bs j, off + i, none⟩ := by
   rw [adrAt_some]
   unfold Addr.add
   split
   ·rename_i h0; subst h0; rfl
   ·simp
  have hi' : i < xs.length := by simpa using hi
  have e3 : cs[off + i]? = (xs.map bE)[i]? := by
   have h3 := congrArg (fun l => l[i]?) hcs
   simp only [List.getElem?_take, List.getElem?_drop] at h3
   split at h3
   ·exact h3
   ·rw [List.getElem?_eq_getElem (by simpa using hi')] at h3; cases h3
  rw [e, cellHeap hlive, List.getElem?_toArray, reals_eq, List.getElem?_map, e3, ← List.getElem?_map, ← reals_eq, reals_bE]
theorem marks_calls (a : Option Addr) (n m : Nat) (w : World) : Calls Try.prog 24 #[.slice a n m] w (RetN (.fn (.func 55) [] [.ptr 0 0]) [.cells [.raw (.slice a n m)] 22 (0, 0)] w) := by
 refine new_calls _ _ [.raw (.slice a n m)] Try.func24 rfl in24 (by simp [Try.f24]) (by simp [closeds, closed]) ?_
 refine next_of 1000 ?_
 simp (maxSteps := 4000000) (disch := omega) only [go_sem, ↓reduceIte, Try.f24, Value.oneCell']
 repeat (with_reducible refine And.intro (by fail) ?_)
 rintro (_ | i) o h <;> simp_all [hget]
def encM (a : Option Addr × Nat × Nat) : Array Value := #[.slice a.1 a.2.1 a.2.2]
def elM (ms : List (List UInt8)) (k : Nat) (a : Option Addr × Nat × Nat) (D : Nat → Prop) (w : World) : Prop :=
 ∃ m, ms[k]? = some m ∧ m.length = a.2.1 ∧ BytesAt ⟨w, fun b => b < w.heap.size ∧ ¬ D b⟩ a.1 m
theorem marks_take (L : List LogV) {i k : Nat} (hi : i < L.length) (hk : k < L[i].tn) : (marksL L)[(marksL (L.take i)).length + 1 + k]? = some (L[i].top k) := by
 have e : L = L.take i ++ L[i] :: L.drop (i + 1) := by rw [← List.drop_eq_getElem_cons hi, List.take_append_drop]
 have h2 : marksL L = marksL (L.take i) ++ (L[i].marks ++ marksL (L.drop (i + 1))) := by
  conv => lhs; rw [e]
  simp only [marksL, List.flatMap_append, List.flatMap_cons]
 rw [h2, List.getElem?_append_right (by omega), show (marksL (L.take i)).length + 1 + k - (marksL (L.take i)).length = k + 1 by omega, LogV.marks, List.cons_append, List.getElem?_cons_succ, List.getElem?_append_left (by rw [tops_len]; exact hk),
  List.getElem?_eq_getElem (by rw [tops_len]; exact hk), tops_get hk]
theorem marks_at (L : List LogV) {i : Nat} (hi : i < L.length) : (marksL L)[(marksL (L.take i)).length]? = some L[i].ad := by
 have e : L = L.take i ++ L[i] :: L.drop (i + 1) := by rw [← List.drop_eq_getElem_cons hi, List.take_append_drop]
 have h2 : marksL L = marksL (L.take i) ++ (L[i].marks ++ marksL (L.drop (i + 1))) := by
  conv => lhs; rw [e]
  simp only [marksL, List.flatMap_append, List.flatMap_cons]
 rw [h2, List.getElem?_append_right (by omega), Nat.sub_self]
 rfl
theorem marks_len (L : List LogV) {i : Nat} (hi : i < L.length) : (marksL (L.take (i + 1))).length = (marksL (L.take i)).length + 1 + L[i].tn := by
 rw [List.take_succ_eq_append_getElem hi, marksL, List.flatMap_append, List.length_append]
 simp only [List.flatMap_cons, List.flatMap_nil, List.append_nil, LogV.marks, List.length_cons, tops_len, marksL]
 omega
/-- marks$1 runs over the texts. -/
theorem marks1_iter (W : World) (L : List LogV) (p cap : Nat) (ad : Option Addr) (DB : Nat → Prop) (hDB : ∀ b, DB b → b < W.heap.size) (hp : W.cell? ⟨p, 0, none⟩ = some (.slice ad L.length cap)) (hL : LogsAt ⟨W, DB⟩ ad L)
  (Rd : Nat → Prop) (hRp : Rd p) (hRB : ∀ b, DB b → Rd b) (hRW : ∀ b, Rd b → b < W.heap.size) :
  IterOk Try.prog 55 (fun y => (reals (fun _ => 0) [.raw y, .raw (.pointer (some ⟨p, 0, none⟩))]).toArray) W Rd (marksL L).length encM (elM (marksL L)) := by
 refine iter_of (fun y => [.raw y, .raw (.pointer (some ⟨p, 0, none⟩))]) Try.func55 rfl in55 (fun y => by simp [Try.f55]) (fun y => by simp [closeds, closed]) ?_
 intro l J Jx hJ hJx hR h0 hB
 have hDp : p < W.heap.size := hRW p hRp
 have hX : ∀ B', ItB W Rd B' → BExt ⟨W, DB⟩ B' := fun B' h => ⟨fun b hb => h.D b (hDB b hb), fun b hb => h.rd b (hRB b hb), h.size, h.os, h.tape, h.output⟩
 have hlen := hL.len
 refine next_of 1000 ?_
 simp (maxSteps := 4000000) (disch := omega) only [go_sem, ↓reduceIte, Try.f55, Value.oneCell', hp, rawCell, Option.getD_some]
 repeat (with_reducible refine And.intro (by omega) ?_)
 refine loopU (S := Nat × Base) (fun s => ItB W Rd s.2 ∧ s.1 ≤ L.length ∧ J (marksL (L.take s.1)).length s.2.D s.2.w)
  (fun s => ⟨[(9, .int .i64 (s.1 : Nat)), (8, .int .i64 (L.length : Nat)), (7, .raw (.slice ad L.length cap)), (0, .raw (.func (.yield l) #[] #[]))], 0, [], s.2, []⟩) (fun s => L.length - s.1) (0, base W) ⟨hB, Nat.zero_le _, h0⟩ (Weak.sub (weak_of (by simp [wσ, go_sem, closed, closeds, lE_closed] <;> omega) (by simp [whs, Go.Ew.hget, go_sem, EObj.closed, closed, closeds, lE_closed]) (by simp [*]) rfl rfl (by simp))) ?_
 rintro ⟨i, B⟩ ⟨hI, hi, hJi⟩
 simp only at hI hi hJi ⊢
 have h := hL.ext (hX _ hI)
 refine next_of 1000 ?_
 simp (maxSteps := 4000000) (disch := omega) only [go_sem, ↓reduceIte]
 repeat (with_reducible refine And.intro (by omega) ?_)
 refine condS_split (fun h2 => ?_) (fun h2 => ?_)
 all_goals (try simp only [bne_iff_ne, ne_eq, beq_iff_eq, decide_eq_true_eq, decide_eq_false_iff_not, Bool.not_eq_true, Bool.not_eq_false, Bool.not_true, Bool.not_false, bne_eq_false_iff_eq, beq_eq_false_iff_ne, Bool.and_eq_true, Bool.or_eq_true, Bool.and_eq_false_imp, Bool.or_eq_false_iff, Bool.not_eq_true', Bool.not_eq_false', Int.not_lt, Int.not_le] at h2)
 ·have hi2 : i < L.length := by omega
  obtain ⟨l1, l2, l3, l4⟩ := h.ld hi2
  have h1 := h.ok _ (List.getElem_mem hi2)
  have em := marks_at L hi2
  have et := fun k hk => marks_take L (k := k) hi2 hk
  have en := marks_len L hi2
  obtain ⟨g, hg⟩ : ∃ g, g = L[i] := ⟨_, rfl⟩
  rw [← hg] at l1 h1 em en
  simp only [← hg] at et
  have ht := h1.tb
  have f1 : oneAll g.ev = true := logE_one rfl rfl
  have f2 : ∀ u v, (logE g.ad u v).length = 22 := fun u v => logE_len h1.ha
  have f3 : ∀ u v d, (logE g.ad u v).getD 20 d = u := fun u v d => logE_20 h1.ha
  have f4 : ∀ u v d, (logE g.ad u v).getD 21 d = v := fun u v d => logE_21 h1.ha
  have hlt : (marksL (L.take i)).length < (marksL L).length := by
   rcases Nat.lt_or_ge (marksL (L.take i)).length (marksL L).length with h | h
   ·exact h
   ·rw [List.getElem?_eq_none h] at em; cases em
  repeat' (first | with_reducible refine And.intro (by first | omega | (constructor <;> assumption) | (simp; done) | (simp [*]; done)) ?_ | simp (maxSteps := 4000000) (disch := omega) only [go_sem, ↓reduceIte, Int.toNat_natCast, l1, f1, f2, f3, f4, logE_splice h1.ha])
  refine yieldH (vs := [.sl 0 0 20 20]) (fun bs => (some ⟨bs 0, 0, none⟩, 20, 20)) rfl rfl hR hJ rfl rfl hlt (fun bs w hH => ⟨rfl, g.ad, em, h1.ha, own_bytes hH rfl (logE_ad h1.ha) _ ⟨heap_lt (hH.live 0 _ rfl).2, hH.new 0 _ rfl⟩⟩) hJi hI hRW (fun B2 hJ2 hI2 => next_of 1000 ?_) (fun B2 hJ2 hI2 => next_of 1000 ?_)
  ·repeat' (first | with_reducible refine And.intro (by omega) ?_ | simp (maxSteps := 4000000) (disch := omega) only [go_sem, ↓reduceIte, f1, f2, f3, f4])
   refine loopU (S := Nat × Base) (fun s => ItB W Rd s.2 ∧ s.1 ≤ g.tn ∧ J ((marksL (L.take i)).length + 1 + s.1) s.2.D s.2.w)
    (fun s => ⟨[(21, .int .i64 (s.1 : Nat)), (20, .int .i64 (g.tn : Nat)), (19, .raw (.slice g.tA g.tn g.tc)), (9, .int .i64 (i : Nat)), (8, .int .i64 (L.length : Nat)), (7, .raw (.slice ad L.length cap)), (0, .raw (.func (.yield l) #[] #[]))], 0, [], s.2, []⟩) (fun s => g.tn - s.1) (0, B2) ⟨hI2, Nat.zero_le _, hJ2⟩ (Weak.sub (weak_of (by simp [wσ, go_sem, closed, closeds, lE_closed] <;> omega) (by simp [whs, Go.Ew.hget, go_sem, EObj.closed, closed, closeds, lE_closed]) (by simp [*]) rfl rfl (by simp))) ?_
   rintro ⟨k, B3⟩ ⟨hI3, hk, hJk⟩
   simp only at hI3 hk hJk ⊢
   have h1' : g.Ok B3 := (hL.ext (hX _ hI3)).ok g (by rw [hg]; exact List.getElem_mem hi2)
   refine next_of 1000 ?_
   simp (maxSteps := 4000000) (disch := omega) only [go_sem, ↓reduceIte]
   repeat (with_reducible refine And.intro (by omega) ?_)
   refine condS_split (fun h3 => ?_) (fun h3 => ?_)
   all_goals (try simp only [bne_iff_ne, ne_eq, beq_iff_eq, decide_eq_true_eq, decide_eq_false_iff_not, Bool.not_eq_true, Bool.not_eq_false, Bool.not_true, Bool.not_false, bne_eq_false_iff_eq, beq_eq_false_iff_ne, Bool.and_eq_true, Bool.or_eq_true, Bool.and_eq_false_imp, Bool.or_eq_false_iff, Bool.not_eq_true', Bool.not_eq_false', Int.not_lt, Int.not_le] at h3)
   ·have hk2 : k < g.tn := by omega
    obtain ⟨m1, m2, m3, m4⟩ := h1'.ldT hk2
    have hq := top_len h1' hk2
    have hem := et k hk2
    obtain ⟨q, hq0⟩ : ∃ q, q = g.top k := ⟨_, rfl⟩
    rw [← hq0] at m1 hq hem
    have q1 := bE_one q
    have hlt2 : (marksL (L.take i)).length + 1 + k < (marksL L).length := by
     rcases Nat.lt_or_ge ((marksL (L.take i)).length + 1 + k) (marksL L).length with h | h
     ·exact h
     ·rw [List.getElem?_eq_none h] at hem; cases hem
    repeat' (first | with_reducible refine And.intro (by first | omega | (constructor <;> assumption) | (simp; done) | ((repeat' refine And.intro ?_ ?_) <;> first | omega | assumption | (refine SlOk.so (n := ?_) ?_ ?_; rotate_left; assumption; omega) | (simp; done) | fail)) ?_ | simp (maxSteps := 4000000) (disch := omega) only [go_sem, ↓reduceIte, Int.toNat_natCast, m1, q1, List.length_map, hq, bE_splice hq])
    refine yieldH (vs := [.sl 0 0 32 32]) (fun bs => (some ⟨bs 0, 0, none⟩, 32, 32)) rfl rfl hR hJ rfl rfl hlt2 (fun bs w hH => ⟨rfl, q, hem, hq, own_bytes hH rfl (bE_all hq) _ ⟨heap_lt (hH.live 0 _ rfl).2, hH.new 0 _ rfl⟩⟩) hJk hI3 hRW (fun B4 hJ4 hI4 => next_of 1000 ?_) (fun B4 hJ4 hI4 => next_of 1000 ?_)
    ·repeat' (simp (maxSteps := 4000000) (disch := omega) only [go_sem, ↓reduceIte])
     exact ⟨(k + 1, B4), ⟨hI4, hk2, hJ4⟩, Weak.sub (weak_of (by simp [wσ, go_sem, closed, closeds, lE_closed] <;> omega) (by simp [whs, Go.Ew.hget, go_sem, EObj.closed, closed, closeds, lE_closed]) (by simp [*]) rfl rfl (by simp)), by simp only; omega⟩
    ·repeat' (simp (maxSteps := 4000000) (disch := omega) only [go_sem, ↓reduceIte])
     exact ⟨hI4, .inr ⟨_, hJ4⟩⟩
   ·obtain rfl : k = g.tn := by omega
    repeat' (first | simp (maxSteps := 4000000) (disch := omega) only [go_sem, ↓reduceIte] | with_reducible refine next_of 1000 ?_)
    exact ⟨(i + 1, B3), ⟨hI3, hi2, by rw [en]; exact hJk⟩, Weak.sub (weak_of (by simp [wσ, go_sem, closed, closeds, lE_closed] <;> omega) (by simp [whs, Go.Ew.hget, go_sem, EObj.closed, closed, closeds, lE_closed]) (by simp [*]) rfl rfl (by simp)), by simp only; omega⟩
  ·repeat' (simp (maxSteps := 4000000) (disch := omega) only [go_sem, ↓reduceIte])
   exact ⟨hI2, .inr ⟨_, hJ2⟩⟩
 ·obtain rfl : i = L.length := by omega
  repeat' (first | simp (maxSteps := 4000000) (disch := omega) only [go_sem, ↓reduceIte] | with_reducible refine next_of 1000 ?_)
  exact ⟨hI, .inl (by rw [List.take_length] at hJi; exact hJi)⟩
theorem marks_le {B : Base} {L : List LogV} (h : ∀ g ∈ L, g.Ok B) (m : List UInt8) (hm : m ∈ marksL L) : m.length ≤ 32 := by
 obtain ⟨g, hg, hm⟩ := List.mem_flatMap.1 hm
 rcases List.mem_cons.1 hm with rfl | hm
 ·rw [(h g hg).ha]; omega
 ·obtain ⟨k, _, rfl⟩ := List.mem_map.1 hm
  simp only [LogV.top, List.length_take]; omega
theorem of_fn (L : List LogV) (n : Nat) (B : Base) (ad : Option Addr) (cap : Nat) (h : LogsAt B ad L) (hn : L.length = n) :
  Does Try.prog 9 [.raw (.slice ad n cap)] B (fun _ : Unit => .agg (ints .u8 (fB (allB zB (marksL L))) 256)) (fun _ _ => True) := by
 refine fn_of en9 (fun s B B' hB hR => hR) Try.func9 rfl in9 (by simp [Try.f9]) (by simp [closeds, closed, closeds_ints]) (fun B0 hB0 => next_of 1000 ?_)
 replace h := h.ext hB0
 subst hn
 repeat' (simp (maxSteps := 4000000) (disch := omega) only [go_sem, ↓reduceIte, Try.f9])
 refine callS_new (.fn (.func 55) [] [.ptr 0 0]) [.cells [.raw (.slice ad L.length cap)] 22 (0, 0)] en24 (by simp [closed, closeds]) (by simp [EObj.closed, closed, closeds]) (fun bs w _ => marks_calls _ _ _ w) (next_of 1000 ?_)
 repeat' (simp (maxSteps := 4000000) (disch := omega) only [go_sem, ↓reduceIte])
 refine rangeE rfl rfl en55 (by simp) ⟨by kernel_rfl, by kernel_rfl⟩ (S := Nat)
  (fun k s => s = k) (fun cd s => False) (fun _ => 5)
  (fun s => [(2, some (.cells [.raw (.slice ad L.length cap)] 22 (0, 0))), (1, some (.cells (ints .u8 (fB (allB zB ((marksL L).take s))) 256) 27 (0, 0))), (0, some (.cells (ints .u8 (fun _ => 0) 256) 27 (0, 0)))])
  (fun _ => B0) (0 : Nat) rfl (weak_of (by simp [wσ, go_sem, closed, closeds, lE_closed, closeds_ints, allB, zB_fB] <;> omega) (by simp [whs, Go.Ew.hget, go_sem, EObj.closed, closed, closeds, lE_closed, closeds_ints, allB, zB_fB]) (by simp [*]) rfl rfl (by simp)) (fun s => by simp [hget]) ⟨fun _ _ _ => Nat.le_refl _, fun _ _ h => h.elim⟩ [2] (fun q => B0.D q) (by simp [hget])
  (fun q hq => ⟨hq, fun k s hs => ⟨hq, rfl⟩, fun k s hs => hs.elim⟩)
  (len := (marksL L).length) (enc := encM) (El := elM (marksL L)) (fun a => [.raw (.slice a.1 a.2.1 a.2.2)]) (fun p bs => rfl) (fun p => by simp [closeds, closed]) (fun p => rfl) ?_
  (fun k a w E => ∃ m, (marksL L)[k]? = some m ∧ m.length = a.2.1 ∧ BytesAt ⟨w, E⟩ a.1 m) (fun k a D w E h hE => ?_) ?_ ?_ ?_ ?_ (fun cd s h => h.elim)
 ·intro bs w2 hH
  have hl1 := (hH.live 2 _ rfl).2
  refine marks1_iter w2 L (bs 2) cap ad B0.D (fun b hb => (hH.frame b hb).1) (by simp [World.cell?, hl1, EObj.real, reals, real]) (h.ext hH.ext) _ (.inl ⟨2, by simp, rfl⟩) (fun b hb => .inr hb) ?_
  rintro q (⟨i, hi, rfl⟩ | hq)
  ·simp only [List.mem_singleton] at hi; subst hi; exact heap_lt hl1
  ·exact (hH.frame q hq).1
 ·obtain ⟨m, h1, h2, h3⟩ := h
  exact ⟨m, h1, h2, h3.ext ⟨fun b hb => hE b hb.1 hb.2, fun _ _ => rfl, Nat.le_refl _, rfl, rfl, rfl⟩⟩
 ·rintro k s ⟨am, nm, cm⟩ l' olds e E r r' rfl hk ⟨m, h1, h2, h3⟩ holds
  have hml : m.length ≤ 32 := marks_le h.ok m (List.mem_of_getElem? h1)
  have e1 : allB zB ((marksL L).take (s + 1)) = withP (allB zB ((marksL L).take s)) m := by
   rw [List.take_add_one, h1, Option.toList_some, allB_append, allB_one]
  obtain ⟨F, hF⟩ : ∃ F, F = allB zB ((marksL L).take s) := ⟨_, rfl⟩
  rw [← hF] at e1
  simp only [← hF]
  simp only at h2 h3
  refine next_of 1000 ?_
  simp (maxSteps := 4000000) (disch := omega) only [go_sem, ↓reduceIte]
  repeat (with_reducible refine And.intro (by omega) ?_)
  refine next_of 1000 ?_
  repeat' (simp (maxSteps := 4000000) (disch := omega) only [go_sem, ↓reduceIte])
  refine callS_fpw en25 (by simp [closed, closeds]) (fun w hw1 hw2 => bits_fn m nm _ am cm (h3.ext ⟨fun b hb => .inr hb, hw2.same, hw2.size, hw2.os, hw2.tape, hw2.output⟩) h2 (by omega)) (by simp [closed, closeds_ints]) (next_of 1000 ?_)
  repeat' (simp (maxSteps := 4000000) (disch := omega) only [go_sem, ↓reduceIte])
  refine loopU (S := Nat) (fun i => i ≤ 3)
   (fun i => ⟨[(12, .int .i64 (i : Nat)), (11, .agg (ints .i64 (bitsF m) 3)), (8, .fn (.func 55) [] [.ptr 2 0]), (3, .ptr 1 0), (2, .ptr 0 0)], 5, [(4, some (.obj (.loop r'))), (3, some (.obj (.deferred (some [])))), (2, some (.cells [.raw (.slice ad L.length cap)] 22 (0, 0))), (1, some (.cells (ints .u8 (fB (withK F m i)) 256) 27 (0, 0))), (0, some (.cells (ints .u8 (fun _ => 0) 256) 27 (0, 0)))], B0, []⟩)
   (fun i => 3 - i) 0 (by simp) (Weak.sub (weak_of (by simp [wσ, go_sem, closed, closeds, lE_closed, closeds_ints, withK, holds] <;> omega) (by simp [whs, Go.Ew.hget, go_sem, EObj.closed, closed, closeds, lE_closed, closeds_ints, withK, holds]) (by simp [*]) rfl rfl (by simp))) ?_
  intro i hi
  refine next_of 1000 ?_
  simp (maxSteps := 4000000) (disch := omega) only [go_sem, ↓reduceIte]
  repeat (with_reducible refine And.intro (by omega) ?_)
  refine condS_split (fun h2 => ?_) (fun h2 => ?_)
  all_goals (try simp only [bne_iff_ne, ne_eq, beq_iff_eq, decide_eq_true_eq, decide_eq_false_iff_not, Bool.not_eq_true, Bool.not_eq_false, Bool.not_true, Bool.not_false, bne_eq_false_iff_eq, beq_eq_false_iff_ne, Bool.and_eq_true, Bool.or_eq_true, Bool.and_eq_false_imp, Bool.or_eq_false_iff, Bool.not_eq_true', Bool.not_eq_false', Int.not_lt, Int.not_le] at h2)
  ·have hb := bitN_lt m i
   have e8 : ((255 : Int) - (bitN m i : Int) / 8).toNat = 255 - bitN m i / 8 := by omega
   have e9 : (bitN m i : Int) % 8 = ((bitN m i % 8 : Nat) : Int) := by omega
   have e10 := shl8 (bitN m i % 8) (by omega)
   repeat' (first | with_reducible refine And.intro (by omega) ?_ | simp (maxSteps := 4000000) (disch := omega) only [go_sem, ↓reduceIte, Int.toNat_natCast, e8, e9, e10, bitsF_ap, fB_ap, or8, fB_set] | with_reducible refine drawT_of (id := 7) [0, 1, 2, 3, 4, 5, 6, 7, 8, 9, 10] mixed (by kernel_rfl) (by simp) (fun hin => dt_of 1000 hin ?_) | with_reducible refine endT_of (by kernel_rfl) (nmT_of (by kernel_rfl)) (next_of 1000 ?_))
   exact ⟨i + 1, by omega, Weak.sub (weak_of (by simp [wσ, go_sem, closed, closeds, lE_closed, closeds_ints, withK, holds] <;> omega) (by simp [whs, Go.Ew.hget, go_sem, EObj.closed, closed, closeds, lE_closed, closeds_ints, withK, holds]) (by simp [*]) rfl rfl (by simp)), by omega⟩
  ·obtain rfl : i = 3 := by omega
   repeat' (first | simp (maxSteps := 4000000) (disch := omega) only [go_sem, ↓reduceIte] | with_reducible refine next_of 1000 ?_)
   have e2 : withK F m 3 = allB zB ((marksL L).take (s + 1)) := e1.symm
   exact ⟨s + 1, rfl, (weak_of (by simp [wσ, go_sem, closed, closeds, lE_closed, closeds_ints, holds, e2] <;> omega) (by simp [whs, Go.Ew.hget, go_sem, EObj.closed, closed, closeds, lE_closed, closeds_ints, holds, e2]) (by simp [*]) rfl rfl (by simp))⟩
 ·rintro s rfl
  rw [List.take_length]
  refine next_of 1000 ?_
  repeat' (simp (maxSteps := 4000000) (disch := omega) only [go_sem, ↓reduceIte])
  exact ⟨BExt.refl _, (), closeds_ints _ _ _ _⟩
 ·intro s hs; exact hs.elim
 ·intro id s hs; exact hs.elim
end Go.Proofs.Ytepabkjfnpaijaa
