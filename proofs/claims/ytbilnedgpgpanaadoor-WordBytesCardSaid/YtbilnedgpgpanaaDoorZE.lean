/- Part of a proof over the seat YtbilnedgpgpanaaDoor. -/
import Derived.Test.YtbilnedgpgpanaaDoorZC
import Derived.Test.YtbilnedgpgpanaaDoorZD
import Derived.Test.YtbilnedgpgpanaaDoorXE
namespace Go.Proofs.YtbilnedgpgpanaaDoor
open Go RowKit Go.Ew
set_option maxRecDepth 100000
set_option linter.unusedSimpArgs false
set_option linter.unusedVariables false
set_option maxHeartbeats 4000000
theorem in7 : codeIn Tryd.f7.ntmps (Tryd.f7.body.getD .skip) = true := by kernel_rfl
theorem in19 : codeIn Tryd.f19.ntmps (Tryd.f19.body.getD .skip) = true := by kernel_rfl
theorem read_nil0 {w : World} : Calls Tryd.prog 57 #[.slice none 0 0] w (Ret (.tuple #[wV 0, .int .i64 0]) w) := by
  refine pure_calls [.raw (.slice none 0 0)] Tryd.func57 rfl in57 (by simp [Tryd.f57]) (by simp [closeds, closed]) (next_of 1000 ?_)
  simp (maxSteps := 4000000) (disch := omega) only [go_sem, Nat.reduceBEq, Nat.reduceAdd, Nat.reduceMul, Nat.reduceSub, Nat.reduceLT, Nat.reduceLeDiff, Int.reduceToNat, Int.reduceLT, Int.reduceLE, Int.reduceAdd, Int.reduceMul, Int.reduceSub, Int.reduceNeg, Int.reduceDiv, Int.reduceMod, Nat.reduceBNe, Nat.reduceGT, Int.reduceBEq, Int.reduceBNe, Int.reduceGT, Nat.reduceDiv, Nat.reduceMod, Nat.reducePow, Int.reducePow, gt_iff_lt, ge_iff_le, List.reduceReplicate, ↓reduceIte, Tryd.f57]
  repeat (with_reducible refine And.intro (by first | omega | assumption | (constructor <;> assumption) | (simp; done) | (simp; omega) | (simp [*]; done)) ?_)
  repeat' (first
    | with_reducible refine And.intro (by first | omega | assumption | (constructor <;> assumption) | (simp; done) | (simp; omega) | (simp [*]; done)) ?_
    | simp (maxSteps := 4000000) (disch := omega) only [go_sem, Nat.reduceBEq, Nat.reduceAdd, Nat.reduceMul, Nat.reduceSub, Nat.reduceLT, Nat.reduceLeDiff, Int.reduceToNat, Int.reduceLT, Int.reduceLE, Int.reduceAdd, Int.reduceMul, Int.reduceSub, Int.reduceNeg, Int.reduceDiv, Int.reduceMod, Nat.reduceBNe, Nat.reduceGT, Int.reduceBEq, Int.reduceBNe, Int.reduceGT, Nat.reduceDiv, Nat.reduceMod, Nat.reducePow, Int.reducePow, gt_iff_lt, ge_iff_le, List.reduceReplicate, ↓reduceIte]
    | with_reducible refine roundS (next_of 1000 ?_)
    | with_reducible refine drawS_of mixed (by kernel_rfl) (dg_of 1000 ?_)
    | with_reducible refine endD_of (by kernel_rfl) (next_of 1000 ?_)
    | with_reducible refine next_of 1000 ?_
    | ((first | refine condS_split (fun h => ?_) (fun h => ?_) | refine testS_split (fun h => ?_) (fun h => ?_) | refine testD_split (fun h => ?_) (fun h => ?_)) <;> (try simp only [bne_iff_ne, ne_eq, beq_iff_eq, decide_eq_true_eq, decide_eq_false_iff_not, Bool.not_eq_true, Bool.not_eq_false, Bool.not_true, Bool.not_false, bne_eq_false_iff_eq, beq_eq_false_iff_ne, Bool.and_eq_true, Bool.or_eq_true, Bool.and_eq_false_imp, Bool.or_eq_false_iff, Bool.not_eq_true', Bool.not_eq_false', Int.not_lt, Int.not_le] at h) <;> (try (exfalso; omega))))
  refine loopS_rounds 1 ?_
  repeat' (first
    | with_reducible refine And.intro (by first | omega | assumption | (constructor <;> assumption) | (simp; done) | (simp; omega) | (simp [*]; done)) ?_
    | simp (maxSteps := 4000000) (disch := omega) only [go_sem, Nat.reduceBEq, Nat.reduceAdd, Nat.reduceMul, Nat.reduceSub, Nat.reduceLT, Nat.reduceLeDiff, Int.reduceToNat, Int.reduceLT, Int.reduceLE, Int.reduceAdd, Int.reduceMul, Int.reduceSub, Int.reduceNeg, Int.reduceDiv, Int.reduceMod, Nat.reduceBNe, Nat.reduceGT, Int.reduceBEq, Int.reduceBNe, Int.reduceGT, Nat.reduceDiv, Nat.reduceMod, Nat.reducePow, Int.reducePow, gt_iff_lt, ge_iff_le, List.reduceReplicate, ↓reduceIte]
    | with_reducible refine roundS (next_of 1000 ?_)
    | with_reducible refine drawS_of mixed (by kernel_rfl) (dg_of 1000 ?_)
    | with_reducible refine endD_of (by kernel_rfl) (next_of 1000 ?_)
    | with_reducible refine next_of 1000 ?_
    | ((first | refine condS_split (fun h => ?_) (fun h => ?_) | refine testS_split (fun h => ?_) (fun h => ?_) | refine testD_split (fun h => ?_) (fun h => ?_)) <;> (try simp only [bne_iff_ne, ne_eq, beq_iff_eq, decide_eq_true_eq, decide_eq_false_iff_not, Bool.not_eq_true, Bool.not_eq_false, Bool.not_true, Bool.not_false, bne_eq_false_iff_eq, beq_eq_false_iff_ne, Bool.and_eq_true, Bool.or_eq_true, Bool.and_eq_false_imp, Bool.or_eq_false_iff, Bool.not_eq_true', Bool.not_eq_false', Int.not_lt, Int.not_le] at h) <;> (try (exfalso; omega))))
  intro bs; simp only [real, reals]; rfl
theorem same_p0 (x : Nat) : Pure Tryd.prog 19 [wE x, wE x] (.bool true) := by
  refine pure_p (args := [wE x, wE x]) en19 (by simp [closed, closeds, closed_wE, closeds_ints]) Tryd.func19 rfl in19 (by simp [Tryd.f19]) (by simp [closeds, closed, closed_wE, closeds_ints]) (fun w => next_of 1000 ?_)
  simp (maxSteps := 4000000) (disch := omega) only [go_sem, Nat.reduceBEq, Nat.reduceAdd, Nat.reduceMul, Nat.reduceSub, Nat.reduceLT, Nat.reduceLeDiff, Int.reduceToNat, Int.reduceLT, Int.reduceLE, Int.reduceAdd, Int.reduceMul, Int.reduceSub, Int.reduceNeg, Int.reduceDiv, Int.reduceMod, Nat.reduceBNe, Nat.reduceGT, Int.reduceBEq, Int.reduceBNe, Int.reduceGT, Nat.reduceDiv, Nat.reduceMod, Nat.reducePow, Int.reducePow, gt_iff_lt, ge_iff_le, List.reduceReplicate, ↓reduceIte, Tryd.f19]
  repeat (with_reducible refine And.intro (by first | omega | assumption | (constructor <;> assumption) | (simp; done) | (simp; omega) | (simp [*]; done)) ?_)
  repeat' (first
    | with_reducible refine And.intro (by first | omega | assumption | (constructor <;> assumption) | (simp; done) | (simp; omega) | (simp [*]; done)) ?_
    | simp (maxSteps := 4000000) (disch := omega) only [go_sem, Nat.reduceBEq, Nat.reduceAdd, Nat.reduceMul, Nat.reduceSub, Nat.reduceLT, Nat.reduceLeDiff, Int.reduceToNat, Int.reduceLT, Int.reduceLE, Int.reduceAdd, Int.reduceMul, Int.reduceSub, Int.reduceNeg, Int.reduceDiv, Int.reduceMod, Nat.reduceBNe, Nat.reduceGT, Int.reduceBEq, Int.reduceBNe, Int.reduceGT, Nat.reduceDiv, Nat.reduceMod, Nat.reducePow, Int.reducePow, gt_iff_lt, ge_iff_le, List.reduceReplicate, ↓reduceIte]
    | with_reducible refine roundS (next_of 1000 ?_)
    | with_reducible refine drawS_of mixed (by kernel_rfl) (dg_of 1000 ?_)
    | with_reducible refine endD_of (by kernel_rfl) (next_of 1000 ?_)
    | with_reducible refine next_of 1000 ?_
    | ((first | refine condS_split (fun h => ?_) (fun h => ?_) | refine testS_split (fun h => ?_) (fun h => ?_) | refine testD_split (fun h => ?_) (fun h => ?_)) <;> (try simp only [bne_iff_ne, ne_eq, beq_iff_eq, decide_eq_true_eq, decide_eq_false_iff_not, Bool.not_eq_true, Bool.not_eq_false, Bool.not_true, Bool.not_false, bne_eq_false_iff_eq, beq_eq_false_iff_ne, Bool.and_eq_true, Bool.or_eq_true, Bool.and_eq_false_imp, Bool.or_eq_false_iff, Bool.not_eq_true', Bool.not_eq_false', Int.not_lt, Int.not_le] at h) <;> (try (exfalso; omega))))
theorem str_sl {C : Cx} {Q : Exit → X → Prop} {o : Oper} {st : List It} {x : X} {i n cap d : Nat} {z : Nat → Int} {T : TypeId} {fr : Nat × Nat} {b0 : ByteArray} (hP : C.P = Tryd.prog) (hop : o.op = .convert 54 9 (.tmp d))
    (ha : ev x.σ (.tmp d) = .sl i 0 n cap) (hg : hget x.hs i = some (.cells (ints .u8 z cap) T fr)) (hn : n ≤ cap) (hb : bytesOfE (ints .u8 z n) = b0)
    (hk : Go.Ew.Next C Q st { σ := put x.σ o.dst (.str b0), n := x.n, hs := x.hs, B := x.B, ms := x.ms }) : opS C Q o st x := by
  subst hb
  refine strOfS (T := 5) (b' := .sl i 0 n cap) (m := n) (news := ints .u8 z n) hop (by rw [hP]; exact Tryd.underlying54) (by rw [hP]; exact Tryd.underlying5) (by rw [hP]; exact Tryd.underlying9) ha (by simp)
    (c := 0 + n * 1 ≤ (ints .u8 z cap).length) ?_ (by simp [ints_len]; omega) ?_ hk
  · simp only [srcOf, hg]
    rw [show n * 1 = n by omega, ints_drop .u8 z cap 0 n (by omega)]
    simp
  · simp [ints, EV.isInt]
theorem str_nil {C : Cx} {Q : Exit → X → Prop} {o : Oper} {st : List It} {x : X} {d : Nat} {b0 : ByteArray} (hP : C.P = Tryd.prog) (hop : o.op = .convert 54 9 (.tmp d))
    (ha : ev x.σ (.tmp d) = .raw (.slice none 0 0)) (hb : bytesOfE [] = b0)
    (hk : Go.Ew.Next C Q st { σ := put x.σ o.dst (.str b0), n := x.n, hs := x.hs, B := x.B, ms := x.ms }) : opS C Q o st x := by
  subst hb
  exact strOfS (T := 5) (b' := .raw (.slice none 0 0)) (m := 0) (news := []) (c := 0 = 0) hop (by rw [hP]; exact Tryd.underlying54) (by rw [hP]; exact Tryd.underlying5) (by rw [hP]; exact Tryd.underlying9) ha (by simp)
    (by simp [srcOf]) rfl (by simp) hk
/-- The bytes of a slice that came in. -/
def BytesIn (w : World) (a : Option Addr) (L : Nat) (z : Nat → Int) : Prop := match a with
  | none => L = 0
  | some a => a.block < w.heap.size ∧ ∀ j, j < L → rawCell (base w) (a.add j) = .int .u8 (z j) ∧ (w.cell? (a.add j)).isSome = true
theorem BytesIn.later {C : Cx} {n : Nat} {hs : List (Nat × Option EObj)} {bs : Nat → Nat} {w w' : World} {a : Option Addr} {L : Nat} {z : Nat → Int} (h : BytesIn w a L z) (hr : HRel C (base w) n hs bs w') : BytesIn w' a L z := by
  cases a with
  | none => exact h
  | some a =>
    refine ⟨Nat.lt_of_lt_of_le h.1 hr.hsize, fun j hj => ?_⟩
    have e : w'.cell? (a.add j) = w.cell? (a.add j) := cell_frame hr (by rw [show (a.add j).block = a.block by unfold Addr.add; split <;> rfl]; exact h.1)
    have := h.2 j hj
    exact ⟨by rw [← this.1]; simp only [rawCell, base]; rw [e], by rw [e]; exact this.2⟩
theorem rread_any {w : World} {a : Option Addr} {L cap : Nat} {z : Nat → Int} (h : BytesIn w a L z) (hz : ∀ j, 0 ≤ z j ∧ z j < 256) (hL : L ≤ 32) :
    Calls Tryd.prog 58 #[.slice a L cap] w (Ret (wV (lastN z L L)) w) := by
  cases a with
  | none =>
    have : L = 0 := h
    subst this
    rw [lastN_zero]
    exact rread_nil
  | some a => exact rread_calls h.1 (fun j hj => (h.2 j hj).1) (fun j hj => (h.2 j hj).2) hz hL
theorem srcIn {w : World} {a : Option Addr} {L cap : Nat} {z : Nat → Int} (h : BytesIn w a L z) (hs : List (Nat × Option EObj)) : ∃ c, srcOf (base w) hs 1 (.raw (.slice a L cap)) = some (L, ints .u8 z L, c) ∧ c := by
  cases a with
  | none =>
    have : L = 0 := h
    subst this
    exact ⟨0 = 0, by simp [srcOf, ints], rfl⟩
  | some a =>
    refine ⟨(base w).D a.block ∧ ∀ j, j < L * 1 → ((base w).w.cell? (a.add j)).isSome = true, ?_, ⟨h.1, fun j hj => (h.2 j (by omega)).2⟩⟩
    simp only [srcOf, Nat.mul_one]
    have : (List.range L).map (fun j => rawCell (base w) (a.add j)) = ints .u8 z L := List.map_congr_left fun j hj => (h.2 j (List.mem_range.1 hj)).1
    rw [this]
theorem wbytes_calls (x : Nat) (hx : x < 115792089237316195423570985008687907853269984665640564039457584007913129639936) {w : World} {a : Option Addr} {L cap : Nat} {z : Nat → Int} (hz : ∀ j, 0 ≤ z j ∧ z j < 256) (hz0 : ∀ j, L ≤ j → z j = 0) (hin0 : BytesIn w a L z) (h47 : L ≤ 140737488355328) : Calls Tryd.prog 7 #[wV x, .slice a L cap] w (Ret (.bool true) w) := by
  have c1 := bytes_p x hx
  have c2 := rbytes_p x hx
  have e0 : #[wV x, .slice a L cap] = (reals (bsOf []) [wE x, .raw (.slice a L cap)]).toArray := by simp [reals, real, wV_real]
  rw [e0]
  refine pure_calls [wE x, .raw (.slice a L cap)] Tryd.func7 rfl in7 (by simp [Tryd.f7]) (by simp [closeds, closed, closed_wE]) (next_of 1000 ?_)
  simp (maxSteps := 4000000) (disch := omega) only [go_sem, Nat.reduceBEq, Nat.reduceAdd, Nat.reduceMul, Nat.reduceSub, Nat.reduceLT, Nat.reduceLeDiff, Int.reduceToNat, Int.reduceLT, Int.reduceLE, Int.reduceAdd, Int.reduceMul, Int.reduceSub, Int.reduceNeg, Int.reduceDiv, Int.reduceMod, Nat.reduceBNe, Nat.reduceGT, Int.reduceBEq, Int.reduceBNe, Int.reduceGT, Nat.reduceDiv, Nat.reduceMod, Nat.reducePow, Int.reducePow, gt_iff_lt, ge_iff_le, List.reduceReplicate, ↓reduceIte, Tryd.f7]
  repeat (with_reducible refine And.intro (by first | omega | assumption | (constructor <;> assumption) | (simp; done) | (simp; omega) | (simp [*]; done)) ?_)
  repeat' (first
    | with_reducible refine And.intro (by first | omega | assumption | (constructor <;> assumption) | (simp; done) | (simp; omega) | (simp [*]; done)) ?_
    | with_reducible refine next_of 1000 ?_
    | simp (maxSteps := 4000000) (disch := omega) only [go_sem])
  have hI : ∀ e ∈ ints .u8 (fun j => dig 256 x (31 - j)) 32, EV.isInt .u8 e = true := by
    intro e he; simp [ints] at he; obtain ⟨q, _, rfl⟩ := he; simp [EV.isInt]
  obtain ⟨b0, hb0⟩ : ∃ b0, bytesOfE (ints .u8 (lbZ x) (nby x)) = b0 := ⟨_, rfl⟩
  refine drawA_of mixed (fun hst hin => ?_)
  refine any_via 15 #[true, true, true, false, false, false, false, false, false, false, false, false, false, false, false, false, false, false] ⟨[(9, wE x), (8, .agg (ints .u8 (fun j => dig 256 x (31 - j)) 32)), (4, EV.bool false), (2, EV.ptr 0 0), (1, EV.raw (Value.slice a L cap))], 1, [(0, some (EObj.cells (wC x) 24 (0, 0)))], base w, []⟩ ?_ (fun key => ?_)
  rotate_left
  · refine any_step [0, 2] (by kernel_rfl) (by simp) hin (by kernel_rfl) ⟨⟨_, rfl, next_of 1000 ?_⟩, ⟨_, rfl, next_of 1000 ?_⟩, trivial⟩
    all_goals repeat' (first
                | with_reducible refine And.intro (by first | omega | assumption | (constructor <;> assumption) | (simp; done) | (simp; omega) | (simp [*]; done)) ?_
                | simp (maxSteps := 4000000) (disch := omega) only [go_sem, Nat.reduceBEq, Nat.reduceAdd, Nat.reduceMul, Nat.reduceSub, Nat.reduceLT, Nat.reduceLeDiff, Int.reduceToNat, Int.reduceLT, Int.reduceLE, Int.reduceAdd, Int.reduceMul, Int.reduceSub, Int.reduceNeg, Int.reduceDiv, Int.reduceMod, Nat.reduceBNe, Nat.reduceGT, Int.reduceBEq, Int.reduceBNe, Int.reduceGT, Nat.reduceDiv, Nat.reduceMod, Nat.reducePow, Int.reducePow, gt_iff_lt, ge_iff_le, List.reduceReplicate, ↓reduceIte, List.getElem?_take_of_lt, QA_normal]
                | with_reducible refine roundS (next_of 1000 ?_)
                | with_reducible refine drawS_of mixed (by kernel_rfl) (dg_of 1000 ?_)
                | with_reducible refine endD_of (by kernel_rfl) (next_of 1000 ?_)
                | refine callS_p (c1) (next_of 1000 ?_)
                | refine callD_p (c1) (dg_of 1000 ?_)
                | refine callS_p (c2) (next_of 1000 ?_)
                | refine callD_p (c2) (dg_of 1000 ?_)
                | with_reducible refine next_of 1000 ?_
                | ((first | refine condS_split (fun h => ?_) (fun h => ?_) | refine testS_split (fun h => ?_) (fun h => ?_) | refine testD_split (fun h => ?_) (fun h => ?_)) <;> (try simp only [bne_iff_ne, ne_eq, beq_iff_eq, decide_eq_true_eq, decide_eq_false_iff_not, Bool.not_eq_true, Bool.not_eq_false, Bool.not_true, Bool.not_false, bne_eq_false_iff_eq, beq_eq_false_iff_ne, Bool.and_eq_true, Bool.or_eq_true, Bool.and_eq_false_imp, Bool.or_eq_false_iff, Bool.not_eq_true', Bool.not_eq_false', Int.not_lt, Int.not_le] at h) <;> (try (exfalso; omega))))
    · refine any_step [1, 2] (by kernel_rfl) (by simp) hin (by kernel_rfl) ⟨⟨_, rfl, next_of 1000 ?_⟩, ⟨_, rfl, next_of 1000 ?_⟩, trivial⟩
      all_goals repeat' (first
                  | with_reducible refine And.intro (by first | omega | assumption | (constructor <;> assumption) | (simp; done) | (simp; omega) | (simp [*]; done)) ?_
                  | simp (maxSteps := 4000000) (disch := omega) only [go_sem, Nat.reduceBEq, Nat.reduceAdd, Nat.reduceMul, Nat.reduceSub, Nat.reduceLT, Nat.reduceLeDiff, Int.reduceToNat, Int.reduceLT, Int.reduceLE, Int.reduceAdd, Int.reduceMul, Int.reduceSub, Int.reduceNeg, Int.reduceDiv, Int.reduceMod, Nat.reduceBNe, Nat.reduceGT, Int.reduceBEq, Int.reduceBNe, Int.reduceGT, Nat.reduceDiv, Nat.reduceMod, Nat.reducePow, Int.reducePow, gt_iff_lt, ge_iff_le, List.reduceReplicate, ↓reduceIte, List.getElem?_take_of_lt, QA_normal]
                  | with_reducible refine roundS (next_of 1000 ?_)
                  | with_reducible refine drawS_of mixed (by kernel_rfl) (dg_of 1000 ?_)
                  | with_reducible refine endD_of (by kernel_rfl) (next_of 1000 ?_)
                  | refine callS_p (c1) (next_of 1000 ?_)
                  | refine callD_p (c1) (dg_of 1000 ?_)
                  | refine callS_p (c2) (next_of 1000 ?_)
                  | refine callD_p (c2) (dg_of 1000 ?_)
                  | with_reducible refine next_of 1000 ?_
                  | ((first | refine condS_split (fun h => ?_) (fun h => ?_) | refine testS_split (fun h => ?_) (fun h => ?_) | refine testD_split (fun h => ?_) (fun h => ?_)) <;> (try simp only [bne_iff_ne, ne_eq, beq_iff_eq, decide_eq_true_eq, decide_eq_false_iff_not, Bool.not_eq_true, Bool.not_eq_false, Bool.not_true, Bool.not_false, bne_eq_false_iff_eq, beq_eq_false_iff_ne, Bool.and_eq_true, Bool.or_eq_true, Bool.and_eq_false_imp, Bool.or_eq_false_iff, Bool.not_eq_true', Bool.not_eq_false', Int.not_lt, Int.not_le] at h) <;> (try (exfalso; omega))))
      · refine any_step [2] (by kernel_rfl) (by simp) hin (by kernel_rfl) ⟨⟨_, rfl, next_of 1000 ?_⟩, trivial⟩
        repeat' (first
          | with_reducible refine And.intro (by first | omega | assumption | (constructor <;> assumption) | (simp; done) | (simp; omega) | (simp [*]; done)) ?_
          | simp (maxSteps := 4000000) (disch := omega) only [go_sem, Nat.reduceBEq, Nat.reduceAdd, Nat.reduceMul, Nat.reduceSub, Nat.reduceLT, Nat.reduceLeDiff, Int.reduceToNat, Int.reduceLT, Int.reduceLE, Int.reduceAdd, Int.reduceMul, Int.reduceSub, Int.reduceNeg, Int.reduceDiv, Int.reduceMod, Nat.reduceBNe, Nat.reduceGT, Int.reduceBEq, Int.reduceBNe, Int.reduceGT, Nat.reduceDiv, Nat.reduceMod, Nat.reducePow, Int.reducePow, gt_iff_lt, ge_iff_le, List.reduceReplicate, ↓reduceIte, List.getElem?_take_of_lt, QA_normal]
          | with_reducible refine roundS (next_of 1000 ?_)
          | with_reducible refine drawS_of mixed (by kernel_rfl) (dg_of 1000 ?_)
          | with_reducible refine endD_of (by kernel_rfl) (next_of 1000 ?_)
          | refine callS_p (c1) (next_of 1000 ?_)
          | refine callD_p (c1) (dg_of 1000 ?_)
          | refine callS_p (c2) (next_of 1000 ?_)
          | refine callD_p (c2) (dg_of 1000 ?_)
          | with_reducible refine next_of 1000 ?_
          | ((first | refine condS_split (fun h => ?_) (fun h => ?_) | refine testS_split (fun h => ?_) (fun h => ?_) | refine testD_split (fun h => ?_) (fun h => ?_)) <;> (try simp only [bne_iff_ne, ne_eq, beq_iff_eq, decide_eq_true_eq, decide_eq_false_iff_not, Bool.not_eq_true, Bool.not_eq_false, Bool.not_true, Bool.not_false, bne_eq_false_iff_eq, beq_eq_false_iff_ne, Bool.and_eq_true, Bool.or_eq_true, Bool.and_eq_false_imp, Bool.or_eq_false_iff, Bool.not_eq_true', Bool.not_eq_false', Int.not_lt, Int.not_le] at h) <;> (try (exfalso; omega))))
        exact any_weak (by kernel_rfl) key (weak_of (by simp [wσ, go_sem, closed, closeds, closeds_ints, closed_wE]) (by simp [whs, go_sem, EObj.closed, closed, closeds, closeds_ints, closed_wE]) (by simp [*]) rfl rfl (by simp))
      · refine any_step [1] (by kernel_rfl) (by simp) hin (by kernel_rfl) ⟨⟨_, rfl, next_of 1000 ?_⟩, trivial⟩
        repeat' (first
          | with_reducible refine And.intro (by first | omega | assumption | (constructor <;> assumption) | (simp; done) | (simp; omega) | (simp [*]; done)) ?_
          | simp (maxSteps := 4000000) (disch := omega) only [go_sem, Nat.reduceBEq, Nat.reduceAdd, Nat.reduceMul, Nat.reduceSub, Nat.reduceLT, Nat.reduceLeDiff, Int.reduceToNat, Int.reduceLT, Int.reduceLE, Int.reduceAdd, Int.reduceMul, Int.reduceSub, Int.reduceNeg, Int.reduceDiv, Int.reduceMod, Nat.reduceBNe, Nat.reduceGT, Int.reduceBEq, Int.reduceBNe, Int.reduceGT, Nat.reduceDiv, Nat.reduceMod, Nat.reducePow, Int.reducePow, gt_iff_lt, ge_iff_le, List.reduceReplicate, ↓reduceIte, List.getElem?_take_of_lt, QA_normal]
          | with_reducible refine roundS (next_of 1000 ?_)
          | with_reducible refine drawS_of mixed (by kernel_rfl) (dg_of 1000 ?_)
          | with_reducible refine endD_of (by kernel_rfl) (next_of 1000 ?_)
          | refine callS_p (c1) (next_of 1000 ?_)
          | refine callD_p (c1) (dg_of 1000 ?_)
          | refine callS_p (c2) (next_of 1000 ?_)
          | refine callD_p (c2) (dg_of 1000 ?_)
          | with_reducible refine next_of 1000 ?_
          | ((first | refine condS_split (fun h => ?_) (fun h => ?_) | refine testS_split (fun h => ?_) (fun h => ?_) | refine testD_split (fun h => ?_) (fun h => ?_)) <;> (try simp only [bne_iff_ne, ne_eq, beq_iff_eq, decide_eq_true_eq, decide_eq_false_iff_not, Bool.not_eq_true, Bool.not_eq_false, Bool.not_true, Bool.not_false, bne_eq_false_iff_eq, beq_eq_false_iff_ne, Bool.and_eq_true, Bool.or_eq_true, Bool.and_eq_false_imp, Bool.or_eq_false_iff, Bool.not_eq_true', Bool.not_eq_false', Int.not_lt, Int.not_le] at h) <;> (try (exfalso; omega))))
        exact any_weak (by kernel_rfl) key (weak_of (by simp [wσ, go_sem, closed, closeds, closeds_ints, closed_wE]) (by simp [whs, go_sem, EObj.closed, closed, closeds, closeds_ints, closed_wE]) (by simp [*]) rfl rfl (by simp))
    · refine any_step [0] (by kernel_rfl) (by simp) hin (by kernel_rfl) ⟨⟨_, rfl, next_of 1000 ?_⟩, trivial⟩
      repeat' (first
        | with_reducible refine And.intro (by first | omega | assumption | (constructor <;> assumption) | (simp; done) | (simp; omega) | (simp [*]; done)) ?_
        | simp (maxSteps := 4000000) (disch := omega) only [go_sem, Nat.reduceBEq, Nat.reduceAdd, Nat.reduceMul, Nat.reduceSub, Nat.reduceLT, Nat.reduceLeDiff, Int.reduceToNat, Int.reduceLT, Int.reduceLE, Int.reduceAdd, Int.reduceMul, Int.reduceSub, Int.reduceNeg, Int.reduceDiv, Int.reduceMod, Nat.reduceBNe, Nat.reduceGT, Int.reduceBEq, Int.reduceBNe, Int.reduceGT, Nat.reduceDiv, Nat.reduceMod, Nat.reducePow, Int.reducePow, gt_iff_lt, ge_iff_le, List.reduceReplicate, ↓reduceIte, List.getElem?_take_of_lt, QA_normal]
        | with_reducible refine roundS (next_of 1000 ?_)
        | with_reducible refine drawS_of mixed (by kernel_rfl) (dg_of 1000 ?_)
        | with_reducible refine endD_of (by kernel_rfl) (next_of 1000 ?_)
        | refine callS_p (c1) (next_of 1000 ?_)
        | refine callD_p (c1) (dg_of 1000 ?_)
        | refine callS_p (c2) (next_of 1000 ?_)
        | refine callD_p (c2) (dg_of 1000 ?_)
        | with_reducible refine next_of 1000 ?_
        | ((first | refine condS_split (fun h => ?_) (fun h => ?_) | refine testS_split (fun h => ?_) (fun h => ?_) | refine testD_split (fun h => ?_) (fun h => ?_)) <;> (try simp only [bne_iff_ne, ne_eq, beq_iff_eq, decide_eq_true_eq, decide_eq_false_iff_not, Bool.not_eq_true, Bool.not_eq_false, Bool.not_true, Bool.not_false, bne_eq_false_iff_eq, beq_eq_false_iff_ne, Bool.and_eq_true, Bool.or_eq_true, Bool.and_eq_false_imp, Bool.or_eq_false_iff, Bool.not_eq_true', Bool.not_eq_false', Int.not_lt, Int.not_le] at h) <;> (try (exfalso; omega))))
      refine any_step [1] (by kernel_rfl) (by simp) hin (by kernel_rfl) ⟨⟨_, rfl, next_of 1000 ?_⟩, trivial⟩
      repeat' (first
        | with_reducible refine And.intro (by first | omega | assumption | (constructor <;> assumption) | (simp; done) | (simp; omega) | (simp [*]; done)) ?_
        | simp (maxSteps := 4000000) (disch := omega) only [go_sem, Nat.reduceBEq, Nat.reduceAdd, Nat.reduceMul, Nat.reduceSub, Nat.reduceLT, Nat.reduceLeDiff, Int.reduceToNat, Int.reduceLT, Int.reduceLE, Int.reduceAdd, Int.reduceMul, Int.reduceSub, Int.reduceNeg, Int.reduceDiv, Int.reduceMod, Nat.reduceBNe, Nat.reduceGT, Int.reduceBEq, Int.reduceBNe, Int.reduceGT, Nat.reduceDiv, Nat.reduceMod, Nat.reducePow, Int.reducePow, gt_iff_lt, ge_iff_le, List.reduceReplicate, ↓reduceIte, List.getElem?_take_of_lt, QA_normal]
        | with_reducible refine roundS (next_of 1000 ?_)
        | with_reducible refine drawS_of mixed (by kernel_rfl) (dg_of 1000 ?_)
        | with_reducible refine endD_of (by kernel_rfl) (next_of 1000 ?_)
        | refine callS_p (c1) (next_of 1000 ?_)
        | refine callD_p (c1) (dg_of 1000 ?_)
        | refine callS_p (c2) (next_of 1000 ?_)
        | refine callD_p (c2) (dg_of 1000 ?_)
        | with_reducible refine next_of 1000 ?_
        | ((first | refine condS_split (fun h => ?_) (fun h => ?_) | refine testS_split (fun h => ?_) (fun h => ?_) | refine testD_split (fun h => ?_) (fun h => ?_)) <;> (try simp only [bne_iff_ne, ne_eq, beq_iff_eq, decide_eq_true_eq, decide_eq_false_iff_not, Bool.not_eq_true, Bool.not_eq_false, Bool.not_true, Bool.not_false, bne_eq_false_iff_eq, beq_eq_false_iff_ne, Bool.and_eq_true, Bool.or_eq_true, Bool.and_eq_false_imp, Bool.or_eq_false_iff, Bool.not_eq_true', Bool.not_eq_false', Int.not_lt, Int.not_le] at h) <;> (try (exfalso; omega))))
      exact any_weak (by kernel_rfl) key (weak_of (by simp [wσ, go_sem, closed, closeds, closeds_ints, closed_wE]) (by simp [whs, go_sem, EObj.closed, closed, closeds, closeds_ints, closed_wE]) (by simp [*]) rfl rfl (by simp))
  refine any_step [3] (by kernel_rfl) (by simp) hin (by kernel_rfl) ⟨⟨_, rfl, next_of 1000 ?_⟩, trivial⟩
  repeat' (first
    | with_reducible refine And.intro (by first | omega | assumption | (constructor <;> assumption) | (simp; done) | (simp; omega) | (simp [*]; done)) ?_
    | simp (maxSteps := 4000000) (disch := omega) only [go_sem, Nat.reduceBEq, Nat.reduceAdd, Nat.reduceMul, Nat.reduceSub, Nat.reduceLT, Nat.reduceLeDiff, Int.reduceToNat, Int.reduceLT, Int.reduceLE, Int.reduceAdd, Int.reduceMul, Int.reduceSub, Int.reduceNeg, Int.reduceDiv, Int.reduceMod, Nat.reduceBNe, Nat.reduceGT, Int.reduceBEq, Int.reduceBNe, Int.reduceGT, Nat.reduceDiv, Nat.reduceMod, Nat.reducePow, Int.reducePow, gt_iff_lt, ge_iff_le, List.reduceReplicate, ↓reduceIte, List.getElem?_take_of_lt, QA_normal]
    | with_reducible refine roundS (next_of 1000 ?_)
    | with_reducible refine drawS_of mixed (by kernel_rfl) (dg_of 1000 ?_)
    | with_reducible refine endD_of (by kernel_rfl) (next_of 1000 ?_)
    | refine callS_p (c1) (next_of 1000 ?_)
    | refine callD_p (c1) (dg_of 1000 ?_)
    | refine callS_p (c2) (next_of 1000 ?_)
    | refine callD_p (c2) (dg_of 1000 ?_)
    | with_reducible refine next_of 1000 ?_
    | ((first | refine condS_split (fun h => ?_) (fun h => ?_) | refine testS_split (fun h => ?_) (fun h => ?_) | refine testD_split (fun h => ?_) (fun h => ?_)) <;> (try simp only [bne_iff_ne, ne_eq, beq_iff_eq, decide_eq_true_eq, decide_eq_false_iff_not, Bool.not_eq_true, Bool.not_eq_false, Bool.not_true, Bool.not_false, bne_eq_false_iff_eq, beq_eq_false_iff_ne, Bool.and_eq_true, Bool.or_eq_true, Bool.and_eq_false_imp, Bool.or_eq_false_iff, Bool.not_eq_true', Bool.not_eq_false', Int.not_lt, Int.not_le] at h) <;> (try (exfalso; omega))))
  refine any_step [4] (by kernel_rfl) (by simp) hin (by kernel_rfl) ⟨⟨_, rfl, next_of 1000 ?_⟩, trivial⟩
  repeat' (first
    | with_reducible refine And.intro (by first | omega | assumption | (constructor <;> assumption) | (simp; done) | (simp; omega) | (simp [*]; done)) ?_
    | simp (maxSteps := 4000000) (disch := omega) only [go_sem, Nat.reduceBEq, Nat.reduceAdd, Nat.reduceMul, Nat.reduceSub, Nat.reduceLT, Nat.reduceLeDiff, Int.reduceToNat, Int.reduceLT, Int.reduceLE, Int.reduceAdd, Int.reduceMul, Int.reduceSub, Int.reduceNeg, Int.reduceDiv, Int.reduceMod, Nat.reduceBNe, Nat.reduceGT, Int.reduceBEq, Int.reduceBNe, Int.reduceGT, Nat.reduceDiv, Nat.reduceMod, Nat.reducePow, Int.reducePow, gt_iff_lt, ge_iff_le, List.reduceReplicate, ↓reduceIte, List.getElem?_take_of_lt, QA_normal]
    | with_reducible refine roundS (next_of 1000 ?_)
    | with_reducible refine drawS_of mixed (by kernel_rfl) (dg_of 1000 ?_)
    | with_reducible refine endD_of (by kernel_rfl) (next_of 1000 ?_)
    | refine callS_p (c1) (next_of 1000 ?_)
    | refine callD_p (c1) (dg_of 1000 ?_)
    | refine callS_p (c2) (next_of 1000 ?_)
    | refine callD_p (c2) (dg_of 1000 ?_)
    | with_reducible refine next_of 1000 ?_
    | ((first | refine condS_split (fun h => ?_) (fun h => ?_) | refine testS_split (fun h => ?_) (fun h => ?_) | refine testD_split (fun h => ?_) (fun h => ?_)) <;> (try simp only [bne_iff_ne, ne_eq, beq_iff_eq, decide_eq_true_eq, decide_eq_false_iff_not, Bool.not_eq_true, Bool.not_eq_false, Bool.not_true, Bool.not_false, bne_eq_false_iff_eq, beq_eq_false_iff_ne, Bool.and_eq_true, Bool.or_eq_true, Bool.and_eq_false_imp, Bool.or_eq_false_iff, Bool.not_eq_true', Bool.not_eq_false', Int.not_lt, Int.not_le] at h) <;> (try (exfalso; omega))))
  refine any_step [5] (by kernel_rfl) (by simp) hin (by kernel_rfl) ⟨⟨_, rfl, next_of 1000 ?_⟩, trivial⟩
  repeat' (first
    | with_reducible refine And.intro (by first | omega | assumption | (constructor <;> assumption) | (simp; done) | (simp; omega) | (simp [*]; done)) ?_
    | simp (maxSteps := 4000000) (disch := omega) only [go_sem, Nat.reduceBEq, Nat.reduceAdd, Nat.reduceMul, Nat.reduceSub, Nat.reduceLT, Nat.reduceLeDiff, Int.reduceToNat, Int.reduceLT, Int.reduceLE, Int.reduceAdd, Int.reduceMul, Int.reduceSub, Int.reduceNeg, Int.reduceDiv, Int.reduceMod, Nat.reduceBNe, Nat.reduceGT, Int.reduceBEq, Int.reduceBNe, Int.reduceGT, Nat.reduceDiv, Nat.reduceMod, Nat.reducePow, Int.reducePow, gt_iff_lt, ge_iff_le, List.reduceReplicate, ↓reduceIte, List.getElem?_take_of_lt, QA_normal]
    | with_reducible refine roundS (next_of 1000 ?_)
    | with_reducible refine drawS_of mixed (by kernel_rfl) (dg_of 1000 ?_)
    | with_reducible refine endD_of (by kernel_rfl) (next_of 1000 ?_)
    | refine callS_p (c1) (next_of 1000 ?_)
    | refine callD_p (c1) (dg_of 1000 ?_)
    | refine callS_p (c2) (next_of 1000 ?_)
    | refine callD_p (c2) (dg_of 1000 ?_)
    | with_reducible refine next_of 1000 ?_
    | ((first | refine condS_split (fun h => ?_) (fun h => ?_) | refine testS_split (fun h => ?_) (fun h => ?_) | refine testD_split (fun h => ?_) (fun h => ?_)) <;> (try simp only [bne_iff_ne, ne_eq, beq_iff_eq, decide_eq_true_eq, decide_eq_false_iff_not, Bool.not_eq_true, Bool.not_eq_false, Bool.not_true, Bool.not_false, bne_eq_false_iff_eq, beq_eq_false_iff_ne, Bool.and_eq_true, Bool.or_eq_true, Bool.and_eq_false_imp, Bool.or_eq_false_iff, Bool.not_eq_true', Bool.not_eq_false', Int.not_lt, Int.not_le] at h) <;> (try (exfalso; omega))))
  have rho0 : ∀ n i, rho [] n i = n + i := fun n i => by simp [rho]
  refine any_via 12 #[true, true, true, true, true, true, false, false, false, false, false, false, false, false, false, false, false, false] ⟨[(12, .bool false), (4, EV.bool false), (2, EV.ptr 0 0), (1, EV.raw (Value.slice a L cap))], 1, [(0, some (EObj.cells (wC x) 24 (0, 0)))], base w, []⟩ ?_ (fun key => any_weak (by kernel_rfl) key (weak_of (by simp [wσ, go_sem, closed, closeds]) (by simp [whs, go_sem, EObj.closed, closed, closeds]) (by simp [*]) rfl rfl (by simp)))
  clear c1 c2 hI
  refine any_via 6 #[true, true, true, true, true, true, true, true, true, true, true, true, false, false, false, false, false, false] ⟨[(18, .str b0), (15, .str b0), (12, .bool false), (4, EV.bool false), (2, EV.ptr 0 0), (1, EV.raw (Value.slice a L cap))], 8, [(0, some (EObj.cells (wC x) 24 (0, 0)))], base w, []⟩ ?_ (fun key => ?_)
  rotate_left
  · skip
    all_goals first
      | refine any_step [6, 9] (by decide +kernel) (by simp) hin (by kernel_rfl) ⟨⟨_, rfl, next_of 1000 ?_⟩, ⟨_, rfl, next_of 1000 ?_⟩, trivial⟩
      | refine any_step [7, 9] (by decide +kernel) (by simp) hin (by kernel_rfl) ⟨⟨_, rfl, next_of 1000 ?_⟩, ⟨_, rfl, next_of 1000 ?_⟩, trivial⟩
      | refine any_step [6] (by decide +kernel) (by simp) hin (by kernel_rfl) ⟨⟨_, rfl, next_of 1000 ?_⟩, trivial⟩
      | refine any_step [8, 9] (by decide +kernel) (by simp) hin (by kernel_rfl) ⟨⟨_, rfl, next_of 1000 ?_⟩, ⟨_, rfl, next_of 1000 ?_⟩, trivial⟩
      | refine any_step [7] (by decide +kernel) (by simp) hin (by kernel_rfl) ⟨⟨_, rfl, next_of 1000 ?_⟩, trivial⟩
      | refine any_step [9] (by decide +kernel) (by simp) hin (by kernel_rfl) ⟨⟨_, rfl, next_of 1000 ?_⟩, trivial⟩
      | refine any_step [8, 10] (by decide +kernel) (by simp) hin (by kernel_rfl) ⟨⟨_, rfl, next_of 1000 ?_⟩, ⟨_, rfl, next_of 1000 ?_⟩, trivial⟩
      | refine any_step [10] (by decide +kernel) (by simp) hin (by kernel_rfl) ⟨⟨_, rfl, next_of 1000 ?_⟩, trivial⟩
      | refine any_step [8, 11] (by decide +kernel) (by simp) hin (by kernel_rfl) ⟨⟨_, rfl, next_of 1000 ?_⟩, ⟨_, rfl, next_of 1000 ?_⟩, trivial⟩
      | refine any_step [11] (by decide +kernel) (by simp) hin (by kernel_rfl) ⟨⟨_, rfl, next_of 1000 ?_⟩, trivial⟩
      | refine any_step [8] (by decide +kernel) (by simp) hin (by kernel_rfl) ⟨⟨_, rfl, next_of 1000 ?_⟩, trivial⟩
    all_goals repeat' (first
                | with_reducible refine And.intro (by first | omega | assumption | (constructor <;> assumption) | (simp; done) | (simp; omega) | (simp [*]; done)) ?_
                | simp (maxSteps := 4000000) (disch := omega) only [go_sem, Nat.reduceBEq, Nat.reduceAdd, Nat.reduceMul, Nat.reduceSub, Nat.reduceLT, Nat.reduceLeDiff, Int.reduceToNat, Int.reduceLT, Int.reduceLE, Int.reduceAdd, Int.reduceMul, Int.reduceSub, Int.reduceNeg, Int.reduceDiv, Int.reduceMod, Nat.reduceBNe, Nat.reduceGT, Int.reduceBEq, Int.reduceBNe, Int.reduceGT, Nat.reduceDiv, Nat.reduceMod, Nat.reducePow, Int.reducePow, gt_iff_lt, ge_iff_le, List.reduceReplicate, ↓reduceIte, List.getElem?_take_of_lt, QA_normal, rho0]
                | with_reducible refine roundS (next_of 1000 ?_)
                | with_reducible refine drawS_of mixed (by kernel_rfl) (dg_of 1000 ?_)
                | with_reducible refine endD_of (by kernel_rfl) (next_of 1000 ?_)
                | with_reducible refine next_of 1000 ?_
                | ((first | refine condS_split (fun h => ?_) (fun h => ?_) | refine testS_split (fun h => ?_) (fun h => ?_) | refine testD_split (fun h => ?_) (fun h => ?_)) <;> (try simp only [bne_iff_ne, ne_eq, beq_iff_eq, decide_eq_true_eq, decide_eq_false_iff_not, Bool.not_eq_true, Bool.not_eq_false, Bool.not_true, Bool.not_false, bne_eq_false_iff_eq, beq_eq_false_iff_ne, Bool.and_eq_true, Bool.or_eq_true, Bool.and_eq_false_imp, Bool.or_eq_false_iff, Bool.not_eq_true', Bool.not_eq_false', Int.not_lt, Int.not_le] at h) <;> (try (exfalso; omega))))
    all_goals first
      | refine any_step [6, 9] (by decide +kernel) (by simp) hin (by kernel_rfl) ⟨⟨_, rfl, next_of 1000 ?_⟩, ⟨_, rfl, next_of 1000 ?_⟩, trivial⟩
      | refine any_step [7, 9] (by decide +kernel) (by simp) hin (by kernel_rfl) ⟨⟨_, rfl, next_of 1000 ?_⟩, ⟨_, rfl, next_of 1000 ?_⟩, trivial⟩
      | refine any_step [6] (by decide +kernel) (by simp) hin (by kernel_rfl) ⟨⟨_, rfl, next_of 1000 ?_⟩, trivial⟩
      | refine any_step [8, 9] (by decide +kernel) (by simp) hin (by kernel_rfl) ⟨⟨_, rfl, next_of 1000 ?_⟩, ⟨_, rfl, next_of 1000 ?_⟩, trivial⟩
      | refine any_step [7] (by decide +kernel) (by simp) hin (by kernel_rfl) ⟨⟨_, rfl, next_of 1000 ?_⟩, trivial⟩
      | refine any_step [9] (by decide +kernel) (by simp) hin (by kernel_rfl) ⟨⟨_, rfl, next_of 1000 ?_⟩, trivial⟩
      | refine any_step [8, 10] (by decide +kernel) (by simp) hin (by kernel_rfl) ⟨⟨_, rfl, next_of 1000 ?_⟩, ⟨_, rfl, next_of 1000 ?_⟩, trivial⟩
      | refine any_step [10] (by decide +kernel) (by simp) hin (by kernel_rfl) ⟨⟨_, rfl, next_of 1000 ?_⟩, trivial⟩
      | refine any_step [8, 11] (by decide +kernel) (by simp) hin (by kernel_rfl) ⟨⟨_, rfl, next_of 1000 ?_⟩, ⟨_, rfl, next_of 1000 ?_⟩, trivial⟩
      | refine any_step [11] (by decide +kernel) (by simp) hin (by kernel_rfl) ⟨⟨_, rfl, next_of 1000 ?_⟩, trivial⟩
      | refine any_step [8] (by decide +kernel) (by simp) hin (by kernel_rfl) ⟨⟨_, rfl, next_of 1000 ?_⟩, trivial⟩
    all_goals repeat' (first
                | with_reducible refine And.intro (by first | omega | assumption | (constructor <;> assumption) | (simp; done) | (simp; omega) | (simp [*]; done)) ?_
                | simp (maxSteps := 4000000) (disch := omega) only [go_sem, Nat.reduceBEq, Nat.reduceAdd, Nat.reduceMul, Nat.reduceSub, Nat.reduceLT, Nat.reduceLeDiff, Int.reduceToNat, Int.reduceLT, Int.reduceLE, Int.reduceAdd, Int.reduceMul, Int.reduceSub, Int.reduceNeg, Int.reduceDiv, Int.reduceMod, Nat.reduceBNe, Nat.reduceGT, Int.reduceBEq, Int.reduceBNe, Int.reduceGT, Nat.reduceDiv, Nat.reduceMod, Nat.reducePow, Int.reducePow, gt_iff_lt, ge_iff_le, List.reduceReplicate, ↓reduceIte, List.getElem?_take_of_lt, QA_normal, rho0]
                | with_reducible refine roundS (next_of 1000 ?_)
                | with_reducible refine drawS_of mixed (by kernel_rfl) (dg_of 1000 ?_)
                | with_reducible refine endD_of (by kernel_rfl) (next_of 1000 ?_)
                | with_reducible refine next_of 1000 ?_
                | ((first | refine condS_split (fun h => ?_) (fun h => ?_) | refine testS_split (fun h => ?_) (fun h => ?_) | refine testD_split (fun h => ?_) (fun h => ?_)) <;> (try simp only [bne_iff_ne, ne_eq, beq_iff_eq, decide_eq_true_eq, decide_eq_false_iff_not, Bool.not_eq_true, Bool.not_eq_false, Bool.not_true, Bool.not_false, bne_eq_false_iff_eq, beq_eq_false_iff_ne, Bool.and_eq_true, Bool.or_eq_true, Bool.and_eq_false_imp, Bool.or_eq_false_iff, Bool.not_eq_true', Bool.not_eq_false', Int.not_lt, Int.not_le] at h) <;> (try (exfalso; omega))))
    all_goals try refine callS_wr (fun s : Option Nat => match s with | none => nby x = 0 | some cap => nby x ≤ cap ∧ cap ≤ maxLen) (fun s => match s with | none => .raw (.slice none 0 0) | some cap => .sl 2 0 (nby x) cap) (fun _ => 3) (fun s => match s with | none => [none, none, none] | some cap => [none, none, some (.cells (ints .u8 (lbZ x) cap) 5 (0, 0))]) [] en55 (by simp) (by simp) (by rintro (_|cap) _ <;> simp) (fun bs w hh => least_calls x hx bs w) (Option.rec (fun hG => next_of 1000 ?_) (fun cap1 hG => next_of 1000 ?_))
    all_goals try refine callS_wr (fun s : Option Nat => match s with | none => nby x = 0 | some cap => nby x ≤ cap ∧ cap ≤ maxLen) (fun s => match s with | none => .raw (.slice none 0 0) | some cap => .sl 3 0 (nby x) cap) (fun _ => 4) (fun s => match s with | none => [none, none, none, none] | some cap => [none, none, none, some (.cells (ints .u8 (lbZ x) cap) 5 (0, 0))]) [] en56 (by simp) (by simp) (by rintro (_|cap) _ <;> simp) (fun bs w hh => rleast_calls x hx bs w) (Option.rec (fun hG2 => next_of 1000 ?_) (fun cap2 hG2 => next_of 1000 ?_))
    all_goals try with_reducible refine str_sl rfl rfl rfl rfl (by first | exact hG.1 | exact hG2.1) hb0 (next_of 1000 ?_)
    all_goals try with_reducible refine str_nil (b0 := b0) rfl rfl rfl (by rw [← hb0]; first | simp [show nby x = 0 from hG, ints] | simp [show nby x = 0 from hG2, ints]) (next_of 1000 ?_)
    all_goals repeat' (first
                | with_reducible refine And.intro (by first | omega | assumption | (constructor <;> assumption) | (simp; done) | (simp; omega) | (simp [*]; done)) ?_
                | simp (maxSteps := 4000000) (disch := omega) only [go_sem, Nat.reduceBEq, Nat.reduceAdd, Nat.reduceMul, Nat.reduceSub, Nat.reduceLT, Nat.reduceLeDiff, Int.reduceToNat, Int.reduceLT, Int.reduceLE, Int.reduceAdd, Int.reduceMul, Int.reduceSub, Int.reduceNeg, Int.reduceDiv, Int.reduceMod, Nat.reduceBNe, Nat.reduceGT, Int.reduceBEq, Int.reduceBNe, Int.reduceGT, Nat.reduceDiv, Nat.reduceMod, Nat.reducePow, Int.reducePow, gt_iff_lt, ge_iff_le, List.reduceReplicate, ↓reduceIte, List.getElem?_take_of_lt, QA_normal, rho0]
                | with_reducible refine roundS (next_of 1000 ?_)
                | with_reducible refine drawS_of mixed (by kernel_rfl) (dg_of 1000 ?_)
                | with_reducible refine endD_of (by kernel_rfl) (next_of 1000 ?_)
                | with_reducible refine next_of 1000 ?_
                | ((first | refine condS_split (fun h => ?_) (fun h => ?_) | refine testS_split (fun h => ?_) (fun h => ?_) | refine testD_split (fun h => ?_) (fun h => ?_)) <;> (try simp only [bne_iff_ne, ne_eq, beq_iff_eq, decide_eq_true_eq, decide_eq_false_iff_not, Bool.not_eq_true, Bool.not_eq_false, Bool.not_true, Bool.not_false, bne_eq_false_iff_eq, beq_eq_false_iff_ne, Bool.and_eq_true, Bool.or_eq_true, Bool.and_eq_false_imp, Bool.or_eq_false_iff, Bool.not_eq_true', Bool.not_eq_false', Int.not_lt, Int.not_le] at h) <;> (try (exfalso; omega))))
    all_goals first
      | refine any_step [6, 9] (by decide +kernel) (by simp) hin (by kernel_rfl) ⟨⟨_, rfl, next_of 1000 ?_⟩, ⟨_, rfl, next_of 1000 ?_⟩, trivial⟩
      | refine any_step [7, 9] (by decide +kernel) (by simp) hin (by kernel_rfl) ⟨⟨_, rfl, next_of 1000 ?_⟩, ⟨_, rfl, next_of 1000 ?_⟩, trivial⟩
      | refine any_step [6] (by decide +kernel) (by simp) hin (by kernel_rfl) ⟨⟨_, rfl, next_of 1000 ?_⟩, trivial⟩
      | refine any_step [8, 9] (by decide +kernel) (by simp) hin (by kernel_rfl) ⟨⟨_, rfl, next_of 1000 ?_⟩, ⟨_, rfl, next_of 1000 ?_⟩, trivial⟩
      | refine any_step [7] (by decide +kernel) (by simp) hin (by kernel_rfl) ⟨⟨_, rfl, next_of 1000 ?_⟩, trivial⟩
      | refine any_step [9] (by decide +kernel) (by simp) hin (by kernel_rfl) ⟨⟨_, rfl, next_of 1000 ?_⟩, trivial⟩
      | refine any_step [8, 10] (by decide +kernel) (by simp) hin (by kernel_rfl) ⟨⟨_, rfl, next_of 1000 ?_⟩, ⟨_, rfl, next_of 1000 ?_⟩, trivial⟩
      | refine any_step [10] (by decide +kernel) (by simp) hin (by kernel_rfl) ⟨⟨_, rfl, next_of 1000 ?_⟩, trivial⟩
      | refine any_step [8, 11] (by decide +kernel) (by simp) hin (by kernel_rfl) ⟨⟨_, rfl, next_of 1000 ?_⟩, ⟨_, rfl, next_of 1000 ?_⟩, trivial⟩
      | refine any_step [11] (by decide +kernel) (by simp) hin (by kernel_rfl) ⟨⟨_, rfl, next_of 1000 ?_⟩, trivial⟩
      | refine any_step [8] (by decide +kernel) (by simp) hin (by kernel_rfl) ⟨⟨_, rfl, next_of 1000 ?_⟩, trivial⟩
    all_goals repeat' (first
                | with_reducible refine And.intro (by first | omega | assumption | (constructor <;> assumption) | (simp; done) | (simp; omega) | (simp [*]; done)) ?_
                | simp (maxSteps := 4000000) (disch := omega) only [go_sem, Nat.reduceBEq, Nat.reduceAdd, Nat.reduceMul, Nat.reduceSub, Nat.reduceLT, Nat.reduceLeDiff, Int.reduceToNat, Int.reduceLT, Int.reduceLE, Int.reduceAdd, Int.reduceMul, Int.reduceSub, Int.reduceNeg, Int.reduceDiv, Int.reduceMod, Nat.reduceBNe, Nat.reduceGT, Int.reduceBEq, Int.reduceBNe, Int.reduceGT, Nat.reduceDiv, Nat.reduceMod, Nat.reducePow, Int.reducePow, gt_iff_lt, ge_iff_le, List.reduceReplicate, ↓reduceIte, List.getElem?_take_of_lt, QA_normal, rho0]
                | with_reducible refine roundS (next_of 1000 ?_)
                | with_reducible refine drawS_of mixed (by kernel_rfl) (dg_of 1000 ?_)
                | with_reducible refine endD_of (by kernel_rfl) (next_of 1000 ?_)
                | with_reducible refine next_of 1000 ?_
                | ((first | refine condS_split (fun h => ?_) (fun h => ?_) | refine testS_split (fun h => ?_) (fun h => ?_) | refine testD_split (fun h => ?_) (fun h => ?_)) <;> (try simp only [bne_iff_ne, ne_eq, beq_iff_eq, decide_eq_true_eq, decide_eq_false_iff_not, Bool.not_eq_true, Bool.not_eq_false, Bool.not_true, Bool.not_false, bne_eq_false_iff_eq, beq_eq_false_iff_ne, Bool.and_eq_true, Bool.or_eq_true, Bool.and_eq_false_imp, Bool.or_eq_false_iff, Bool.not_eq_true', Bool.not_eq_false', Int.not_lt, Int.not_le] at h) <;> (try (exfalso; omega))))
    all_goals try refine callS_wr (fun s : Option Nat => match s with | none => nby x = 0 | some cap => nby x ≤ cap ∧ cap ≤ maxLen) (fun s => match s with | none => .raw (.slice none 0 0) | some cap => .sl 2 0 (nby x) cap) (fun _ => 3) (fun s => match s with | none => [none, none, none] | some cap => [none, none, some (.cells (ints .u8 (lbZ x) cap) 5 (0, 0))]) [] en55 (by simp) (by simp) (by rintro (_|cap) _ <;> simp) (fun bs w hh => least_calls x hx bs w) (Option.rec (fun hG => next_of 1000 ?_) (fun cap1 hG => next_of 1000 ?_))
    all_goals try refine callS_wr (fun s : Option Nat => match s with | none => nby x = 0 | some cap => nby x ≤ cap ∧ cap ≤ maxLen) (fun s => match s with | none => .raw (.slice none 0 0) | some cap => .sl 3 0 (nby x) cap) (fun _ => 4) (fun s => match s with | none => [none, none, none, none] | some cap => [none, none, none, some (.cells (ints .u8 (lbZ x) cap) 5 (0, 0))]) [] en56 (by simp) (by simp) (by rintro (_|cap) _ <;> simp) (fun bs w hh => rleast_calls x hx bs w) (Option.rec (fun hG2 => next_of 1000 ?_) (fun cap2 hG2 => next_of 1000 ?_))
    all_goals try with_reducible refine str_sl rfl rfl rfl rfl (by first | exact hG.1 | exact hG2.1) hb0 (next_of 1000 ?_)
    all_goals try with_reducible refine str_nil (b0 := b0) rfl rfl rfl (by rw [← hb0]; first | simp [show nby x = 0 from hG, ints] | simp [show nby x = 0 from hG2, ints]) (next_of 1000 ?_)
    all_goals repeat' (first
                | with_reducible refine And.intro (by first | omega | assumption | (constructor <;> assumption) | (simp; done) | (simp; omega) | (simp [*]; done)) ?_
                | simp (maxSteps := 4000000) (disch := omega) only [go_sem, Nat.reduceBEq, Nat.reduceAdd, Nat.reduceMul, Nat.reduceSub, Nat.reduceLT, Nat.reduceLeDiff, Int.reduceToNat, Int.reduceLT, Int.reduceLE, Int.reduceAdd, Int.reduceMul, Int.reduceSub, Int.reduceNeg, Int.reduceDiv, Int.reduceMod, Nat.reduceBNe, Nat.reduceGT, Int.reduceBEq, Int.reduceBNe, Int.reduceGT, Nat.reduceDiv, Nat.reduceMod, Nat.reducePow, Int.reducePow, gt_iff_lt, ge_iff_le, List.reduceReplicate, ↓reduceIte, List.getElem?_take_of_lt, QA_normal, rho0]
                | with_reducible refine roundS (next_of 1000 ?_)
                | with_reducible refine drawS_of mixed (by kernel_rfl) (dg_of 1000 ?_)
                | with_reducible refine endD_of (by kernel_rfl) (next_of 1000 ?_)
                | with_reducible refine next_of 1000 ?_
                | ((first | refine condS_split (fun h => ?_) (fun h => ?_) | refine testS_split (fun h => ?_) (fun h => ?_) | refine testD_split (fun h => ?_) (fun h => ?_)) <;> (try simp only [bne_iff_ne, ne_eq, beq_iff_eq, decide_eq_true_eq, decide_eq_false_iff_not, Bool.not_eq_true, Bool.not_eq_false, Bool.not_true, Bool.not_false, bne_eq_false_iff_eq, beq_eq_false_iff_ne, Bool.and_eq_true, Bool.or_eq_true, Bool.and_eq_false_imp, Bool.or_eq_false_iff, Bool.not_eq_true', Bool.not_eq_false', Int.not_lt, Int.not_le] at h) <;> (try (exfalso; omega))))
    all_goals first
      | refine any_step [6, 9] (by decide +kernel) (by simp) hin (by kernel_rfl) ⟨⟨_, rfl, next_of 1000 ?_⟩, ⟨_, rfl, next_of 1000 ?_⟩, trivial⟩
      | refine any_step [7, 9] (by decide +kernel) (by simp) hin (by kernel_rfl) ⟨⟨_, rfl, next_of 1000 ?_⟩, ⟨_, rfl, next_of 1000 ?_⟩, trivial⟩
      | refine any_step [6] (by decide +kernel) (by simp) hin (by kernel_rfl) ⟨⟨_, rfl, next_of 1000 ?_⟩, trivial⟩
      | refine any_step [8, 9] (by decide +kernel) (by simp) hin (by kernel_rfl) ⟨⟨_, rfl, next_of 1000 ?_⟩, ⟨_, rfl, next_of 1000 ?_⟩, trivial⟩
      | refine any_step [7] (by decide +kernel) (by simp) hin (by kernel_rfl) ⟨⟨_, rfl, next_of 1000 ?_⟩, trivial⟩
      | refine any_step [9] (by decide +kernel) (by simp) hin (by kernel_rfl) ⟨⟨_, rfl, next_of 1000 ?_⟩, trivial⟩
      | refine any_step [8, 10] (by decide +kernel) (by simp) hin (by kernel_rfl) ⟨⟨_, rfl, next_of 1000 ?_⟩, ⟨_, rfl, next_of 1000 ?_⟩, trivial⟩
      | refine any_step [10] (by decide +kernel) (by simp) hin (by kernel_rfl) ⟨⟨_, rfl, next_of 1000 ?_⟩, trivial⟩
      | refine any_step [8, 11] (by decide +kernel) (by simp) hin (by kernel_rfl) ⟨⟨_, rfl, next_of 1000 ?_⟩, ⟨_, rfl, next_of 1000 ?_⟩, trivial⟩
      | refine any_step [11] (by decide +kernel) (by simp) hin (by kernel_rfl) ⟨⟨_, rfl, next_of 1000 ?_⟩, trivial⟩
      | refine any_step [8] (by decide +kernel) (by simp) hin (by kernel_rfl) ⟨⟨_, rfl, next_of 1000 ?_⟩, trivial⟩
    all_goals repeat' (first
                | with_reducible refine And.intro (by first | omega | assumption | (constructor <;> assumption) | (simp; done) | (simp; omega) | (simp [*]; done)) ?_
                | simp (maxSteps := 4000000) (disch := omega) only [go_sem, Nat.reduceBEq, Nat.reduceAdd, Nat.reduceMul, Nat.reduceSub, Nat.reduceLT, Nat.reduceLeDiff, Int.reduceToNat, Int.reduceLT, Int.reduceLE, Int.reduceAdd, Int.reduceMul, Int.reduceSub, Int.reduceNeg, Int.reduceDiv, Int.reduceMod, Nat.reduceBNe, Nat.reduceGT, Int.reduceBEq, Int.reduceBNe, Int.reduceGT, Nat.reduceDiv, Nat.reduceMod, Nat.reducePow, Int.reducePow, gt_iff_lt, ge_iff_le, List.reduceReplicate, ↓reduceIte, List.getElem?_take_of_lt, QA_normal, rho0]
                | with_reducible refine roundS (next_of 1000 ?_)
                | with_reducible refine drawS_of mixed (by kernel_rfl) (dg_of 1000 ?_)
                | with_reducible refine endD_of (by kernel_rfl) (next_of 1000 ?_)
                | with_reducible refine next_of 1000 ?_
                | ((first | refine condS_split (fun h => ?_) (fun h => ?_) | refine testS_split (fun h => ?_) (fun h => ?_) | refine testD_split (fun h => ?_) (fun h => ?_)) <;> (try simp only [bne_iff_ne, ne_eq, beq_iff_eq, decide_eq_true_eq, decide_eq_false_iff_not, Bool.not_eq_true, Bool.not_eq_false, Bool.not_true, Bool.not_false, bne_eq_false_iff_eq, beq_eq_false_iff_ne, Bool.and_eq_true, Bool.or_eq_true, Bool.and_eq_false_imp, Bool.or_eq_false_iff, Bool.not_eq_true', Bool.not_eq_false', Int.not_lt, Int.not_le] at h) <;> (try (exfalso; omega))))
    all_goals try refine callS_wr (fun s : Option Nat => match s with | none => nby x = 0 | some cap => nby x ≤ cap ∧ cap ≤ maxLen) (fun s => match s with | none => .raw (.slice none 0 0) | some cap => .sl 2 0 (nby x) cap) (fun _ => 3) (fun s => match s with | none => [none, none, none] | some cap => [none, none, some (.cells (ints .u8 (lbZ x) cap) 5 (0, 0))]) [] en55 (by simp) (by simp) (by rintro (_|cap) _ <;> simp) (fun bs w hh => least_calls x hx bs w) (Option.rec (fun hG => next_of 1000 ?_) (fun cap1 hG => next_of 1000 ?_))
    all_goals try refine callS_wr (fun s : Option Nat => match s with | none => nby x = 0 | some cap => nby x ≤ cap ∧ cap ≤ maxLen) (fun s => match s with | none => .raw (.slice none 0 0) | some cap => .sl 3 0 (nby x) cap) (fun _ => 4) (fun s => match s with | none => [none, none, none, none] | some cap => [none, none, none, some (.cells (ints .u8 (lbZ x) cap) 5 (0, 0))]) [] en56 (by simp) (by simp) (by rintro (_|cap) _ <;> simp) (fun bs w hh => rleast_calls x hx bs w) (Option.rec (fun hG2 => next_of 1000 ?_) (fun cap2 hG2 => next_of 1000 ?_))
    all_goals try with_reducible refine str_sl rfl rfl rfl rfl (by first | exact hG.1 | exact hG2.1) hb0 (next_of 1000 ?_)
    all_goals try with_reducible refine str_nil (b0 := b0) rfl rfl rfl (by rw [← hb0]; first | simp [show nby x = 0 from hG, ints] | simp [show nby x = 0 from hG2, ints]) (next_of 1000 ?_)
    all_goals repeat' (first
                | with_reducible refine And.intro (by first | omega | assumption | (constructor <;> assumption) | (simp; done) | (simp; omega) | (simp [*]; done)) ?_
                | simp (maxSteps := 4000000) (disch := omega) only [go_sem, Nat.reduceBEq, Nat.reduceAdd, Nat.reduceMul, Nat.reduceSub, Nat.reduceLT, Nat.reduceLeDiff, Int.reduceToNat, Int.reduceLT, Int.reduceLE, Int.reduceAdd, Int.reduceMul, Int.reduceSub, Int.reduceNeg, Int.reduceDiv, Int.reduceMod, Nat.reduceBNe, Nat.reduceGT, Int.reduceBEq, Int.reduceBNe, Int.reduceGT, Nat.reduceDiv, Nat.reduceMod, Nat.reducePow, Int.reducePow, gt_iff_lt, ge_iff_le, List.reduceReplicate, ↓reduceIte, List.getElem?_take_of_lt, QA_normal, rho0]
                | with_reducible refine roundS (next_of 1000 ?_)
                | with_reducible refine drawS_of mixed (by kernel_rfl) (dg_of 1000 ?_)
                | with_reducible refine endD_of (by kernel_rfl) (next_of 1000 ?_)
                | with_reducible refine next_of 1000 ?_
                | ((first | refine condS_split (fun h => ?_) (fun h => ?_) | refine testS_split (fun h => ?_) (fun h => ?_) | refine testD_split (fun h => ?_) (fun h => ?_)) <;> (try simp only [bne_iff_ne, ne_eq, beq_iff_eq, decide_eq_true_eq, decide_eq_false_iff_not, Bool.not_eq_true, Bool.not_eq_false, Bool.not_true, Bool.not_false, bne_eq_false_iff_eq, beq_eq_false_iff_ne, Bool.and_eq_true, Bool.or_eq_true, Bool.and_eq_false_imp, Bool.or_eq_false_iff, Bool.not_eq_true', Bool.not_eq_false', Int.not_lt, Int.not_le] at h) <;> (try (exfalso; omega))))
    all_goals first
      | refine any_step [6, 9] (by decide +kernel) (by simp) hin (by kernel_rfl) ⟨⟨_, rfl, next_of 1000 ?_⟩, ⟨_, rfl, next_of 1000 ?_⟩, trivial⟩
      | refine any_step [7, 9] (by decide +kernel) (by simp) hin (by kernel_rfl) ⟨⟨_, rfl, next_of 1000 ?_⟩, ⟨_, rfl, next_of 1000 ?_⟩, trivial⟩
      | refine any_step [6] (by decide +kernel) (by simp) hin (by kernel_rfl) ⟨⟨_, rfl, next_of 1000 ?_⟩, trivial⟩
      | refine any_step [8, 9] (by decide +kernel) (by simp) hin (by kernel_rfl) ⟨⟨_, rfl, next_of 1000 ?_⟩, ⟨_, rfl, next_of 1000 ?_⟩, trivial⟩
      | refine any_step [7] (by decide +kernel) (by simp) hin (by kernel_rfl) ⟨⟨_, rfl, next_of 1000 ?_⟩, trivial⟩
      | refine any_step [9] (by decide +kernel) (by simp) hin (by kernel_rfl) ⟨⟨_, rfl, next_of 1000 ?_⟩, trivial⟩
      | refine any_step [8, 10] (by decide +kernel) (by simp) hin (by kernel_rfl) ⟨⟨_, rfl, next_of 1000 ?_⟩, ⟨_, rfl, next_of 1000 ?_⟩, trivial⟩
      | refine any_step [10] (by decide +kernel) (by simp) hin (by kernel_rfl) ⟨⟨_, rfl, next_of 1000 ?_⟩, trivial⟩
      | refine any_step [8, 11] (by decide +kernel) (by simp) hin (by kernel_rfl) ⟨⟨_, rfl, next_of 1000 ?_⟩, ⟨_, rfl, next_of 1000 ?_⟩, trivial⟩
      | refine any_step [11] (by decide +kernel) (by simp) hin (by kernel_rfl) ⟨⟨_, rfl, next_of 1000 ?_⟩, trivial⟩
      | refine any_step [8] (by decide +kernel) (by simp) hin (by kernel_rfl) ⟨⟨_, rfl, next_of 1000 ?_⟩, trivial⟩
    all_goals repeat' (first
                | with_reducible refine And.intro (by first | omega | assumption | (constructor <;> assumption) | (simp; done) | (simp; omega) | (simp [*]; done)) ?_
                | simp (maxSteps := 4000000) (disch := omega) only [go_sem, Nat.reduceBEq, Nat.reduceAdd, Nat.reduceMul, Nat.reduceSub, Nat.reduceLT, Nat.reduceLeDiff, Int.reduceToNat, Int.reduceLT, Int.reduceLE, Int.reduceAdd, Int.reduceMul, Int.reduceSub, Int.reduceNeg, Int.reduceDiv, Int.reduceMod, Nat.reduceBNe, Nat.reduceGT, Int.reduceBEq, Int.reduceBNe, Int.reduceGT, Nat.reduceDiv, Nat.reduceMod, Nat.reducePow, Int.reducePow, gt_iff_lt, ge_iff_le, List.reduceReplicate, ↓reduceIte, List.getElem?_take_of_lt, QA_normal, rho0]
                | with_reducible refine roundS (next_of 1000 ?_)
                | with_reducible refine drawS_of mixed (by kernel_rfl) (dg_of 1000 ?_)
                | with_reducible refine endD_of (by kernel_rfl) (next_of 1000 ?_)
                | with_reducible refine next_of 1000 ?_
                | ((first | refine condS_split (fun h => ?_) (fun h => ?_) | refine testS_split (fun h => ?_) (fun h => ?_) | refine testD_split (fun h => ?_) (fun h => ?_)) <;> (try simp only [bne_iff_ne, ne_eq, beq_iff_eq, decide_eq_true_eq, decide_eq_false_iff_not, Bool.not_eq_true, Bool.not_eq_false, Bool.not_true, Bool.not_false, bne_eq_false_iff_eq, beq_eq_false_iff_ne, Bool.and_eq_true, Bool.or_eq_true, Bool.and_eq_false_imp, Bool.or_eq_false_iff, Bool.not_eq_true', Bool.not_eq_false', Int.not_lt, Int.not_le] at h) <;> (try (exfalso; omega))))
    all_goals try refine callS_wr (fun s : Option Nat => match s with | none => nby x = 0 | some cap => nby x ≤ cap ∧ cap ≤ maxLen) (fun s => match s with | none => .raw (.slice none 0 0) | some cap => .sl 2 0 (nby x) cap) (fun _ => 3) (fun s => match s with | none => [none, none, none] | some cap => [none, none, some (.cells (ints .u8 (lbZ x) cap) 5 (0, 0))]) [] en55 (by simp) (by simp) (by rintro (_|cap) _ <;> simp) (fun bs w hh => least_calls x hx bs w) (Option.rec (fun hG => next_of 1000 ?_) (fun cap1 hG => next_of 1000 ?_))
    all_goals try refine callS_wr (fun s : Option Nat => match s with | none => nby x = 0 | some cap => nby x ≤ cap ∧ cap ≤ maxLen) (fun s => match s with | none => .raw (.slice none 0 0) | some cap => .sl 3 0 (nby x) cap) (fun _ => 4) (fun s => match s with | none => [none, none, none, none] | some cap => [none, none, none, some (.cells (ints .u8 (lbZ x) cap) 5 (0, 0))]) [] en56 (by simp) (by simp) (by rintro (_|cap) _ <;> simp) (fun bs w hh => rleast_calls x hx bs w) (Option.rec (fun hG2 => next_of 1000 ?_) (fun cap2 hG2 => next_of 1000 ?_))
    all_goals try with_reducible refine str_sl rfl rfl rfl rfl (by first | exact hG.1 | exact hG2.1) hb0 (next_of 1000 ?_)
    all_goals try with_reducible refine str_nil (b0 := b0) rfl rfl rfl (by rw [← hb0]; first | simp [show nby x = 0 from hG, ints] | simp [show nby x = 0 from hG2, ints]) (next_of 1000 ?_)
    all_goals repeat' (first
                | with_reducible refine And.intro (by first | omega | assumption | (constructor <;> assumption) | (simp; done) | (simp; omega) | (simp [*]; done)) ?_
                | simp (maxSteps := 4000000) (disch := omega) only [go_sem, Nat.reduceBEq, Nat.reduceAdd, Nat.reduceMul, Nat.reduceSub, Nat.reduceLT, Nat.reduceLeDiff, Int.reduceToNat, Int.reduceLT, Int.reduceLE, Int.reduceAdd, Int.reduceMul, Int.reduceSub, Int.reduceNeg, Int.reduceDiv, Int.reduceMod, Nat.reduceBNe, Nat.reduceGT, Int.reduceBEq, Int.reduceBNe, Int.reduceGT, Nat.reduceDiv, Nat.reduceMod, Nat.reducePow, Int.reducePow, gt_iff_lt, ge_iff_le, List.reduceReplicate, ↓reduceIte, List.getElem?_take_of_lt, QA_normal, rho0]
                | with_reducible refine roundS (next_of 1000 ?_)
                | with_reducible refine drawS_of mixed (by kernel_rfl) (dg_of 1000 ?_)
                | with_reducible refine endD_of (by kernel_rfl) (next_of 1000 ?_)
                | with_reducible refine next_of 1000 ?_
                | ((first | refine condS_split (fun h => ?_) (fun h => ?_) | refine testS_split (fun h => ?_) (fun h => ?_) | refine testD_split (fun h => ?_) (fun h => ?_)) <;> (try simp only [bne_iff_ne, ne_eq, beq_iff_eq, decide_eq_true_eq, decide_eq_false_iff_not, Bool.not_eq_true, Bool.not_eq_false, Bool.not_true, Bool.not_false, bne_eq_false_iff_eq, beq_eq_false_iff_ne, Bool.and_eq_true, Bool.or_eq_true, Bool.and_eq_false_imp, Bool.or_eq_false_iff, Bool.not_eq_true', Bool.not_eq_false', Int.not_lt, Int.not_le] at h) <;> (try (exfalso; omega))))
    all_goals first
      | refine any_step [6, 9] (by decide +kernel) (by simp) hin (by kernel_rfl) ⟨⟨_, rfl, next_of 1000 ?_⟩, ⟨_, rfl, next_of 1000 ?_⟩, trivial⟩
      | refine any_step [7, 9] (by decide +kernel) (by simp) hin (by kernel_rfl) ⟨⟨_, rfl, next_of 1000 ?_⟩, ⟨_, rfl, next_of 1000 ?_⟩, trivial⟩
      | refine any_step [6] (by decide +kernel) (by simp) hin (by kernel_rfl) ⟨⟨_, rfl, next_of 1000 ?_⟩, trivial⟩
      | refine any_step [8, 9] (by decide +kernel) (by simp) hin (by kernel_rfl) ⟨⟨_, rfl, next_of 1000 ?_⟩, ⟨_, rfl, next_of 1000 ?_⟩, trivial⟩
      | refine any_step [7] (by decide +kernel) (by simp) hin (by kernel_rfl) ⟨⟨_, rfl, next_of 1000 ?_⟩, trivial⟩
      | refine any_step [9] (by decide +kernel) (by simp) hin (by kernel_rfl) ⟨⟨_, rfl, next_of 1000 ?_⟩, trivial⟩
      | refine any_step [8, 10] (by decide +kernel) (by simp) hin (by kernel_rfl) ⟨⟨_, rfl, next_of 1000 ?_⟩, ⟨_, rfl, next_of 1000 ?_⟩, trivial⟩
      | refine any_step [10] (by decide +kernel) (by simp) hin (by kernel_rfl) ⟨⟨_, rfl, next_of 1000 ?_⟩, trivial⟩
      | refine any_step [8, 11] (by decide +kernel) (by simp) hin (by kernel_rfl) ⟨⟨_, rfl, next_of 1000 ?_⟩, ⟨_, rfl, next_of 1000 ?_⟩, trivial⟩
      | refine any_step [11] (by decide +kernel) (by simp) hin (by kernel_rfl) ⟨⟨_, rfl, next_of 1000 ?_⟩, trivial⟩
      | refine any_step [8] (by decide +kernel) (by simp) hin (by kernel_rfl) ⟨⟨_, rfl, next_of 1000 ?_⟩, trivial⟩
    all_goals repeat' (first
                | with_reducible refine And.intro (by first | omega | assumption | (constructor <;> assumption) | (simp; done) | (simp; omega) | (simp [*]; done)) ?_
                | simp (maxSteps := 4000000) (disch := omega) only [go_sem, Nat.reduceBEq, Nat.reduceAdd, Nat.reduceMul, Nat.reduceSub, Nat.reduceLT, Nat.reduceLeDiff, Int.reduceToNat, Int.reduceLT, Int.reduceLE, Int.reduceAdd, Int.reduceMul, Int.reduceSub, Int.reduceNeg, Int.reduceDiv, Int.reduceMod, Nat.reduceBNe, Nat.reduceGT, Int.reduceBEq, Int.reduceBNe, Int.reduceGT, Nat.reduceDiv, Nat.reduceMod, Nat.reducePow, Int.reducePow, gt_iff_lt, ge_iff_le, List.reduceReplicate, ↓reduceIte, List.getElem?_take_of_lt, QA_normal, rho0]
                | with_reducible refine roundS (next_of 1000 ?_)
                | with_reducible refine drawS_of mixed (by kernel_rfl) (dg_of 1000 ?_)
                | with_reducible refine endD_of (by kernel_rfl) (next_of 1000 ?_)
                | with_reducible refine next_of 1000 ?_
                | ((first | refine condS_split (fun h => ?_) (fun h => ?_) | refine testS_split (fun h => ?_) (fun h => ?_) | refine testD_split (fun h => ?_) (fun h => ?_)) <;> (try simp only [bne_iff_ne, ne_eq, beq_iff_eq, decide_eq_true_eq, decide_eq_false_iff_not, Bool.not_eq_true, Bool.not_eq_false, Bool.not_true, Bool.not_false, bne_eq_false_iff_eq, beq_eq_false_iff_ne, Bool.and_eq_true, Bool.or_eq_true, Bool.and_eq_false_imp, Bool.or_eq_false_iff, Bool.not_eq_true', Bool.not_eq_false', Int.not_lt, Int.not_le] at h) <;> (try (exfalso; omega))))
    all_goals try refine callS_wr (fun s : Option Nat => match s with | none => nby x = 0 | some cap => nby x ≤ cap ∧ cap ≤ maxLen) (fun s => match s with | none => .raw (.slice none 0 0) | some cap => .sl 2 0 (nby x) cap) (fun _ => 3) (fun s => match s with | none => [none, none, none] | some cap => [none, none, some (.cells (ints .u8 (lbZ x) cap) 5 (0, 0))]) [] en55 (by simp) (by simp) (by rintro (_|cap) _ <;> simp) (fun bs w hh => least_calls x hx bs w) (Option.rec (fun hG => next_of 1000 ?_) (fun cap1 hG => next_of 1000 ?_))
    all_goals try refine callS_wr (fun s : Option Nat => match s with | none => nby x = 0 | some cap => nby x ≤ cap ∧ cap ≤ maxLen) (fun s => match s with | none => .raw (.slice none 0 0) | some cap => .sl 3 0 (nby x) cap) (fun _ => 4) (fun s => match s with | none => [none, none, none, none] | some cap => [none, none, none, some (.cells (ints .u8 (lbZ x) cap) 5 (0, 0))]) [] en56 (by simp) (by simp) (by rintro (_|cap) _ <;> simp) (fun bs w hh => rleast_calls x hx bs w) (Option.rec (fun hG2 => next_of 1000 ?_) (fun cap2 hG2 => next_of 1000 ?_))
    all_goals try with_reducible refine str_sl rfl rfl rfl rfl (by first | exact hG.1 | exact hG2.1) hb0 (next_of 1000 ?_)
    all_goals try with_reducible refine str_nil (b0 := b0) rfl rfl rfl (by rw [← hb0]; first | simp [show nby x = 0 from hG, ints] | simp [show nby x = 0 from hG2, ints]) (next_of 1000 ?_)
    all_goals repeat' (first
                | with_reducible refine And.intro (by first | omega | assumption | (constructor <;> assumption) | (simp; done) | (simp; omega) | (simp [*]; done)) ?_
                | simp (maxSteps := 4000000) (disch := omega) only [go_sem, Nat.reduceBEq, Nat.reduceAdd, Nat.reduceMul, Nat.reduceSub, Nat.reduceLT, Nat.reduceLeDiff, Int.reduceToNat, Int.reduceLT, Int.reduceLE, Int.reduceAdd, Int.reduceMul, Int.reduceSub, Int.reduceNeg, Int.reduceDiv, Int.reduceMod, Nat.reduceBNe, Nat.reduceGT, Int.reduceBEq, Int.reduceBNe, Int.reduceGT, Nat.reduceDiv, Nat.reduceMod, Nat.reducePow, Int.reducePow, gt_iff_lt, ge_iff_le, List.reduceReplicate, ↓reduceIte, List.getElem?_take_of_lt, QA_normal, rho0]
                | with_reducible refine roundS (next_of 1000 ?_)
                | with_reducible refine drawS_of mixed (by kernel_rfl) (dg_of 1000 ?_)
                | with_reducible refine endD_of (by kernel_rfl) (next_of 1000 ?_)
                | with_reducible refine next_of 1000 ?_
                | ((first | refine condS_split (fun h => ?_) (fun h => ?_) | refine testS_split (fun h => ?_) (fun h => ?_) | refine testD_split (fun h => ?_) (fun h => ?_)) <;> (try simp only [bne_iff_ne, ne_eq, beq_iff_eq, decide_eq_true_eq, decide_eq_false_iff_not, Bool.not_eq_true, Bool.not_eq_false, Bool.not_true, Bool.not_false, bne_eq_false_iff_eq, beq_eq_false_iff_ne, Bool.and_eq_true, Bool.or_eq_true, Bool.and_eq_false_imp, Bool.or_eq_false_iff, Bool.not_eq_true', Bool.not_eq_false', Int.not_lt, Int.not_le] at h) <;> (try (exfalso; omega))))
    all_goals exact any_weak (by kernel_rfl) key (weak_of (by simp [wσ, go_sem, closed, closeds, closeds_ints]) (by simp [whs, go_sem, EObj.closed, closed, closeds, closeds_ints]) (by simp [*]) rfl rfl (by simp))
  refine any_step [12] (by kernel_rfl) (by simp) hin (by kernel_rfl) ⟨⟨_, rfl, next_of 1000 ?_⟩, trivial⟩
  repeat' (first
    | with_reducible refine And.intro (by first | omega | assumption | (constructor <;> assumption) | (simp; done) | (simp; omega) | (simp [*]; done)) ?_
    | simp (maxSteps := 4000000) (disch := omega) only [go_sem, Nat.reduceBEq, Nat.reduceAdd, Nat.reduceMul, Nat.reduceSub, Nat.reduceLT, Nat.reduceLeDiff, Int.reduceToNat, Int.reduceLT, Int.reduceLE, Int.reduceAdd, Int.reduceMul, Int.reduceSub, Int.reduceNeg, Int.reduceDiv, Int.reduceMod, Nat.reduceBNe, Nat.reduceGT, Int.reduceBEq, Int.reduceBNe, Int.reduceGT, Nat.reduceDiv, Nat.reduceMod, Nat.reducePow, Int.reducePow, gt_iff_lt, ge_iff_le, List.reduceReplicate, ↓reduceIte, List.getElem?_take_of_lt, QA_normal, rho0]
    | with_reducible refine roundS (next_of 1000 ?_)
    | with_reducible refine drawS_of mixed (by kernel_rfl) (dg_of 1000 ?_)
    | with_reducible refine endD_of (by kernel_rfl) (next_of 1000 ?_)
    | refine callS_p (awake_p) (next_of 1000 ?_)
    | refine callD_p (awake_p) (dg_of 1000 ?_)
    | with_reducible refine next_of 1000 ?_
    | ((first | refine condS_split (fun h => ?_) (fun h => ?_) | refine testS_split (fun h => ?_) (fun h => ?_) | refine testD_split (fun h => ?_) (fun h => ?_)) <;> (try simp only [bne_iff_ne, ne_eq, beq_iff_eq, decide_eq_true_eq, decide_eq_false_iff_not, Bool.not_eq_true, Bool.not_eq_false, Bool.not_true, Bool.not_false, bne_eq_false_iff_eq, beq_eq_false_iff_ne, Bool.and_eq_true, Bool.or_eq_true, Bool.and_eq_false_imp, Bool.or_eq_false_iff, Bool.not_eq_true', Bool.not_eq_false', Int.not_lt, Int.not_le] at h) <;> (try (exfalso; omega))))
  refine any_step [13] (by kernel_rfl) (by simp) hin (by kernel_rfl) ⟨⟨_, rfl, next_of 1000 ?_⟩, trivial⟩
  repeat' (first
    | with_reducible refine And.intro (by first | omega | assumption | (constructor <;> assumption) | (simp; done) | (simp; omega) | (simp [*]; done)) ?_
    | simp (maxSteps := 4000000) (disch := omega) only [go_sem, Nat.reduceBEq, Nat.reduceAdd, Nat.reduceMul, Nat.reduceSub, Nat.reduceLT, Nat.reduceLeDiff, Int.reduceToNat, Int.reduceLT, Int.reduceLE, Int.reduceAdd, Int.reduceMul, Int.reduceSub, Int.reduceNeg, Int.reduceDiv, Int.reduceMod, Nat.reduceBNe, Nat.reduceGT, Int.reduceBEq, Int.reduceBNe, Int.reduceGT, Nat.reduceDiv, Nat.reduceMod, Nat.reducePow, Int.reducePow, gt_iff_lt, ge_iff_le, List.reduceReplicate, ↓reduceIte, List.getElem?_take_of_lt, QA_normal, rho0]
    | with_reducible refine roundS (next_of 1000 ?_)
    | with_reducible refine drawS_of mixed (by kernel_rfl) (dg_of 1000 ?_)
    | with_reducible refine endD_of (by kernel_rfl) (next_of 1000 ?_)
    | refine callS_p (awake_p) (next_of 1000 ?_)
    | refine callD_p (awake_p) (dg_of 1000 ?_)
    | with_reducible refine next_of 1000 ?_
    | ((first | refine condS_split (fun h => ?_) (fun h => ?_) | refine testS_split (fun h => ?_) (fun h => ?_) | refine testD_split (fun h => ?_) (fun h => ?_)) <;> (try simp only [bne_iff_ne, ne_eq, beq_iff_eq, decide_eq_true_eq, decide_eq_false_iff_not, Bool.not_eq_true, Bool.not_eq_false, Bool.not_true, Bool.not_false, bne_eq_false_iff_eq, beq_eq_false_iff_ne, Bool.and_eq_true, Bool.or_eq_true, Bool.and_eq_false_imp, Bool.or_eq_false_iff, Bool.not_eq_true', Bool.not_eq_false', Int.not_lt, Int.not_le] at h) <;> (try (exfalso; omega))))
  refine any_step [14] (by kernel_rfl) (by simp) hin (by kernel_rfl) ⟨⟨_, rfl, next_of 1000 ?_⟩, trivial⟩
  repeat' (first
    | with_reducible refine And.intro (by first | omega | assumption | (constructor <;> assumption) | (simp; done) | (simp; omega) | (simp [*]; done)) ?_
    | simp (maxSteps := 4000000) (disch := omega) only [go_sem, Nat.reduceBEq, Nat.reduceAdd, Nat.reduceMul, Nat.reduceSub, Nat.reduceLT, Nat.reduceLeDiff, Int.reduceToNat, Int.reduceLT, Int.reduceLE, Int.reduceAdd, Int.reduceMul, Int.reduceSub, Int.reduceNeg, Int.reduceDiv, Int.reduceMod, Nat.reduceBNe, Nat.reduceGT, Int.reduceBEq, Int.reduceBNe, Int.reduceGT, Nat.reduceDiv, Nat.reduceMod, Nat.reducePow, Int.reducePow, gt_iff_lt, ge_iff_le, List.reduceReplicate, ↓reduceIte, List.getElem?_take_of_lt, QA_normal, rho0]
    | with_reducible refine roundS (next_of 1000 ?_)
    | with_reducible refine drawS_of mixed (by kernel_rfl) (dg_of 1000 ?_)
    | with_reducible refine endD_of (by kernel_rfl) (next_of 1000 ?_)
    | refine callS_p (awake_p) (next_of 1000 ?_)
    | refine callD_p (awake_p) (dg_of 1000 ?_)
    | with_reducible refine next_of 1000 ?_
    | ((first | refine condS_split (fun h => ?_) (fun h => ?_) | refine testS_split (fun h => ?_) (fun h => ?_) | refine testD_split (fun h => ?_) (fun h => ?_)) <;> (try simp only [bne_iff_ne, ne_eq, beq_iff_eq, decide_eq_true_eq, decide_eq_false_iff_not, Bool.not_eq_true, Bool.not_eq_false, Bool.not_true, Bool.not_false, bne_eq_false_iff_eq, beq_eq_false_iff_ne, Bool.and_eq_true, Bool.or_eq_true, Bool.and_eq_false_imp, Bool.or_eq_false_iff, Bool.not_eq_true', Bool.not_eq_false', Int.not_lt, Int.not_le] at h) <;> (try (exfalso; omega))))
  refine any_step [15] (by kernel_rfl) (by simp) hin (by kernel_rfl) ⟨⟨_, rfl, next_of 1000 ?_⟩, trivial⟩
  repeat' (first
    | with_reducible refine And.intro (by first | omega | assumption | (constructor <;> assumption) | (simp; done) | (simp; omega) | (simp [*]; done)) ?_
    | simp (maxSteps := 4000000) (disch := omega) only [go_sem, Nat.reduceBEq, Nat.reduceAdd, Nat.reduceMul, Nat.reduceSub, Nat.reduceLT, Nat.reduceLeDiff, Int.reduceToNat, Int.reduceLT, Int.reduceLE, Int.reduceAdd, Int.reduceMul, Int.reduceSub, Int.reduceNeg, Int.reduceDiv, Int.reduceMod, Nat.reduceBNe, Nat.reduceGT, Int.reduceBEq, Int.reduceBNe, Int.reduceGT, Nat.reduceDiv, Nat.reduceMod, Nat.reducePow, Int.reducePow, gt_iff_lt, ge_iff_le, List.reduceReplicate, ↓reduceIte, List.getElem?_take_of_lt, QA_normal, rho0]
    | with_reducible refine roundS (next_of 1000 ?_)
    | with_reducible refine drawS_of mixed (by kernel_rfl) (dg_of 1000 ?_)
    | with_reducible refine endD_of (by kernel_rfl) (next_of 1000 ?_)
    | refine callS_p (awake_p) (next_of 1000 ?_)
    | refine callD_p (awake_p) (dg_of 1000 ?_)
    | with_reducible refine next_of 1000 ?_
    | ((first | refine condS_split (fun h => ?_) (fun h => ?_) | refine testS_split (fun h => ?_) (fun h => ?_) | refine testD_split (fun h => ?_) (fun h => ?_)) <;> (try simp only [bne_iff_ne, ne_eq, beq_iff_eq, decide_eq_true_eq, decide_eq_false_iff_not, Bool.not_eq_true, Bool.not_eq_false, Bool.not_true, Bool.not_false, bne_eq_false_iff_eq, beq_eq_false_iff_ne, Bool.and_eq_true, Bool.or_eq_true, Bool.and_eq_false_imp, Bool.or_eq_false_iff, Bool.not_eq_true', Bool.not_eq_false', Int.not_lt, Int.not_le] at h) <;> (try (exfalso; omega))))
  refine any_step [16] (by kernel_rfl) (by simp) hin (by kernel_rfl) ⟨⟨_, rfl, next_of 1000 ?_⟩, trivial⟩
  repeat' (first
    | with_reducible refine And.intro (by first | omega | assumption | (constructor <;> assumption) | (simp; done) | (simp; omega) | (simp [*]; done)) ?_
    | simp (maxSteps := 4000000) (disch := omega) only [go_sem, Nat.reduceBEq, Nat.reduceAdd, Nat.reduceMul, Nat.reduceSub, Nat.reduceLT, Nat.reduceLeDiff, Int.reduceToNat, Int.reduceLT, Int.reduceLE, Int.reduceAdd, Int.reduceMul, Int.reduceSub, Int.reduceNeg, Int.reduceDiv, Int.reduceMod, Nat.reduceBNe, Nat.reduceGT, Int.reduceBEq, Int.reduceBNe, Int.reduceGT, Nat.reduceDiv, Nat.reduceMod, Nat.reducePow, Int.reducePow, gt_iff_lt, ge_iff_le, List.reduceReplicate, ↓reduceIte, List.getElem?_take_of_lt, QA_normal, rho0]
    | with_reducible refine roundS (next_of 1000 ?_)
    | with_reducible refine drawS_of mixed (by kernel_rfl) (dg_of 1000 ?_)
    | with_reducible refine endD_of (by kernel_rfl) (next_of 1000 ?_)
    | refine callS_p (awake_p) (next_of 1000 ?_)
    | refine callD_p (awake_p) (dg_of 1000 ?_)
    | with_reducible refine next_of 1000 ?_
    | ((first | refine condS_split (fun h => ?_) (fun h => ?_) | refine testS_split (fun h => ?_) (fun h => ?_) | refine testD_split (fun h => ?_) (fun h => ?_)) <;> (try simp only [bne_iff_ne, ne_eq, beq_iff_eq, decide_eq_true_eq, decide_eq_false_iff_not, Bool.not_eq_true, Bool.not_eq_false, Bool.not_true, Bool.not_false, bne_eq_false_iff_eq, beq_eq_false_iff_ne, Bool.and_eq_true, Bool.or_eq_true, Bool.and_eq_false_imp, Bool.or_eq_false_iff, Bool.not_eq_true', Bool.not_eq_false', Int.not_lt, Int.not_le] at h) <;> (try (exfalso; omega))))
  refine any_step [17] (by kernel_rfl) (by simp) hin (by kernel_rfl) ⟨⟨_, rfl, next_of 1000 ?_⟩, trivial⟩
  repeat' (first
    | with_reducible refine And.intro (by first | omega | assumption | (constructor <;> assumption) | (simp; done) | (simp; omega) | (simp [*]; done)) ?_
    | simp (maxSteps := 4000000) (disch := omega) only [go_sem, Nat.reduceBEq, Nat.reduceAdd, Nat.reduceMul, Nat.reduceSub, Nat.reduceLT, Nat.reduceLeDiff, Int.reduceToNat, Int.reduceLT, Int.reduceLE, Int.reduceAdd, Int.reduceMul, Int.reduceSub, Int.reduceNeg, Int.reduceDiv, Int.reduceMod, Nat.reduceBNe, Nat.reduceGT, Int.reduceBEq, Int.reduceBNe, Int.reduceGT, Nat.reduceDiv, Nat.reduceMod, Nat.reducePow, Int.reducePow, gt_iff_lt, ge_iff_le, List.reduceReplicate, ↓reduceIte, List.getElem?_take_of_lt, QA_normal, rho0]
    | with_reducible refine roundS (next_of 1000 ?_)
    | with_reducible refine drawS_of mixed (by kernel_rfl) (dg_of 1000 ?_)
    | with_reducible refine endD_of (by kernel_rfl) (next_of 1000 ?_)
    | refine callS_p (awake_p) (next_of 1000 ?_)
    | refine callD_p (awake_p) (dg_of 1000 ?_)
    | with_reducible refine next_of 1000 ?_
    | ((first | refine condS_split (fun h => ?_) (fun h => ?_) | refine testS_split (fun h => ?_) (fun h => ?_) | refine testD_split (fun h => ?_) (fun h => ?_)) <;> (try simp only [bne_iff_ne, ne_eq, beq_iff_eq, decide_eq_true_eq, decide_eq_false_iff_not, Bool.not_eq_true, Bool.not_eq_false, Bool.not_true, Bool.not_false, bne_eq_false_iff_eq, beq_eq_false_iff_ne, Bool.and_eq_true, Bool.or_eq_true, Bool.and_eq_false_imp, Bool.or_eq_false_iff, Bool.not_eq_true', Bool.not_eq_false', Int.not_lt, Int.not_le] at h) <;> (try (exfalso; omega))))
  refine any_done (by kernel_rfl) hst (next_of 1000 ?_)
  repeat' (first
    | with_reducible refine And.intro (by first | omega | assumption | (constructor <;> assumption) | (simp; done) | (simp; omega) | (simp [*]; done)) ?_
    | simp (maxSteps := 4000000) (disch := omega) only [go_sem, Nat.reduceBEq, Nat.reduceAdd, Nat.reduceMul, Nat.reduceSub, Nat.reduceLT, Nat.reduceLeDiff, Int.reduceToNat, Int.reduceLT, Int.reduceLE, Int.reduceAdd, Int.reduceMul, Int.reduceSub, Int.reduceNeg, Int.reduceDiv, Int.reduceMod, Nat.reduceBNe, Nat.reduceGT, Int.reduceBEq, Int.reduceBNe, Int.reduceGT, Nat.reduceDiv, Nat.reduceMod, Nat.reducePow, Int.reducePow, gt_iff_lt, ge_iff_le, List.reduceReplicate, ↓reduceIte]
    | with_reducible refine roundS (next_of 1000 ?_)
    | with_reducible refine drawS_of mixed (by kernel_rfl) (dg_of 1000 ?_)
    | with_reducible refine endD_of (by kernel_rfl) (next_of 1000 ?_)
    | with_reducible refine next_of 1000 ?_
    | ((first | refine condS_split (fun h => ?_) (fun h => ?_) | refine testS_split (fun h => ?_) (fun h => ?_) | refine testD_split (fun h => ?_) (fun h => ?_)) <;> (try simp only [bne_iff_ne, ne_eq, beq_iff_eq, decide_eq_true_eq, decide_eq_false_iff_not, Bool.not_eq_true, Bool.not_eq_false, Bool.not_true, Bool.not_false, bne_eq_false_iff_eq, beq_eq_false_iff_ne, Bool.and_eq_true, Bool.or_eq_true, Bool.and_eq_false_imp, Bool.or_eq_false_iff, Bool.not_eq_true', Bool.not_eq_false', Int.not_lt, Int.not_le] at h) <;> (try (exfalso; omega))))
  obtain ⟨cc, hsrc, hcc⟩ := srcIn (cap := cap) hin0 [(8, some (EObj.cells [] 5 (0, 0))), (0, some (EObj.cells (wC x) 24 (0, 0)))]
  refine appendS (T := 5) 8 0 [] rfl Tryd.underlying54 (.inl ⟨_, Tryd.underlying54⟩) zr5 cz5 (by simp) rfl rfl ⟨by simp, .inr ⟨0, [], rfl, Nat.le_refl _, by decide, ⟨by simp, by simp⟩, rfl, by simp [closeds]⟩⟩ hsrc hcc (oneAll_ints _ _ _) (by simp [maxLen]; omega) (by rw [by5]; omega) (fun e' oo' hO => ?_)
  have hO2 : Own 10 5 [.int .u8 0] 9 e' oo' L (ints .u8 z L) := by simpa using hO
  clear hO hsrc hcc
  by_cases h32 : 32 < L
  · have hdec : decide (32 < (L : Int)) = true := by simp; omega
    have h63 : L < 9223372036854775808 := by omega
    rcases own_any hO2 with ⟨h0, rfl⟩ | ⟨cap3, rfl, hc1, hc2, rfl⟩
    · omega
    · clear hO2
      refine next_of 1000 ?_
      repeat' (first
        | with_reducible refine And.intro (by first | omega | assumption | (constructor <;> assumption) | (simp; done) | (simp; omega) | (simp [*]; done)) ?_
        | simp (maxSteps := 4000000) (disch := omega) only [go_sem, Nat.reduceBEq, Nat.reduceAdd, Nat.reduceMul, Nat.reduceSub, Nat.reduceLT, Nat.reduceLeDiff, Int.reduceToNat, Int.reduceLT, Int.reduceLE, Int.reduceAdd, Int.reduceMul, Int.reduceSub, Int.reduceNeg, Int.reduceDiv, Int.reduceMod, Nat.reduceBNe, Nat.reduceGT, Int.reduceBEq, Int.reduceBNe, Int.reduceGT, Nat.reduceDiv, Nat.reduceMod, Nat.reducePow, Int.reducePow, gt_iff_lt, ge_iff_le, List.reduceReplicate, ↓reduceIte]
        | with_reducible refine roundS (next_of 1000 ?_)
        | with_reducible refine drawS_of mixed (by kernel_rfl) (dg_of 1000 ?_)
        | with_reducible refine endD_of (by kernel_rfl) (next_of 1000 ?_)
        | with_reducible refine next_of 1000 ?_
        | ((first | refine condS_split (fun h => ?_) (fun h => ?_) | refine testS_split (fun h => ?_) (fun h => ?_) | refine testD_split (fun h => ?_) (fun h => ?_)) <;> (try simp only [bne_iff_ne, ne_eq, beq_iff_eq, decide_eq_true_eq, decide_eq_false_iff_not, Bool.not_eq_true, Bool.not_eq_false, Bool.not_true, Bool.not_false, bne_eq_false_iff_eq, beq_eq_false_iff_ne, Bool.and_eq_true, Bool.or_eq_true, Bool.and_eq_false_imp, Bool.or_eq_false_iff, Bool.not_eq_true', Bool.not_eq_false', Int.not_lt, Int.not_le] at h) <;> (try (exfalso; omega))))
      refine callS_pure (.tup [wE 0, .int .i64 2]) en57 (by simp [closed, closeds, closed_wE]) (fun bs w' _ => by simpa [reals, real, wV_real] using read_long h32 h63) (next_of 1000 ?_)
      repeat' (first
        | with_reducible refine And.intro (by first | omega | assumption | (constructor <;> assumption) | (simp; done) | (simp; omega) | (simp [*]; done)) ?_
        | simp (maxSteps := 4000000) (disch := omega) only [go_sem, Nat.reduceBEq, Nat.reduceAdd, Nat.reduceMul, Nat.reduceSub, Nat.reduceLT, Nat.reduceLeDiff, Int.reduceToNat, Int.reduceLT, Int.reduceLE, Int.reduceAdd, Int.reduceMul, Int.reduceSub, Int.reduceNeg, Int.reduceDiv, Int.reduceMod, Nat.reduceBNe, Nat.reduceGT, Int.reduceBEq, Int.reduceBNe, Int.reduceGT, Nat.reduceDiv, Nat.reduceMod, Nat.reducePow, Int.reducePow, gt_iff_lt, ge_iff_le, List.reduceReplicate, ↓reduceIte, hdec]
        | with_reducible refine roundS (next_of 1000 ?_)
        | with_reducible refine drawS_of mixed (by kernel_rfl) (dg_of 1000 ?_)
        | with_reducible refine endD_of (by kernel_rfl) (next_of 1000 ?_)
        | with_reducible refine next_of 1000 ?_
        | ((first | refine condS_split (fun h => ?_) (fun h => ?_) | refine testS_split (fun h => ?_) (fun h => ?_) | refine testD_split (fun h => ?_) (fun h => ?_)) <;> (try simp only [bne_iff_ne, ne_eq, beq_iff_eq, decide_eq_true_eq, decide_eq_false_iff_not, Bool.not_eq_true, Bool.not_eq_false, Bool.not_true, Bool.not_false, bne_eq_false_iff_eq, beq_eq_false_iff_ne, Bool.and_eq_true, Bool.or_eq_true, Bool.and_eq_false_imp, Bool.or_eq_false_iff, Bool.not_eq_true', Bool.not_eq_false', Int.not_lt, Int.not_le] at h) <;> (try (exfalso; omega))))
      exact fun bs => rfl
  · have hdec : decide (32 < (L : Int)) = false := by simp; omega
    rcases own_any hO2 with ⟨h0, rfl⟩ | ⟨cap3, rfl, hc1, hc2, rfl⟩
    · clear hO2
      subst h0
      refine next_of 1000 ?_
      repeat' (first
        | with_reducible refine And.intro (by first | omega | assumption | (constructor <;> assumption) | (simp; done) | (simp; omega) | (simp [*]; done)) ?_
        | simp (maxSteps := 4000000) (disch := omega) only [go_sem, Nat.reduceBEq, Nat.reduceAdd, Nat.reduceMul, Nat.reduceSub, Nat.reduceLT, Nat.reduceLeDiff, Int.reduceToNat, Int.reduceLT, Int.reduceLE, Int.reduceAdd, Int.reduceMul, Int.reduceSub, Int.reduceNeg, Int.reduceDiv, Int.reduceMod, Nat.reduceBNe, Nat.reduceGT, Int.reduceBEq, Int.reduceBNe, Int.reduceGT, Nat.reduceDiv, Nat.reduceMod, Nat.reducePow, Int.reducePow, gt_iff_lt, ge_iff_le, List.reduceReplicate, ↓reduceIte]
        | with_reducible refine roundS (next_of 1000 ?_)
        | with_reducible refine drawS_of mixed (by kernel_rfl) (dg_of 1000 ?_)
        | with_reducible refine endD_of (by kernel_rfl) (next_of 1000 ?_)
        | with_reducible refine next_of 1000 ?_
        | ((first | refine condS_split (fun h => ?_) (fun h => ?_) | refine testS_split (fun h => ?_) (fun h => ?_) | refine testD_split (fun h => ?_) (fun h => ?_)) <;> (try simp only [bne_iff_ne, ne_eq, beq_iff_eq, decide_eq_true_eq, decide_eq_false_iff_not, Bool.not_eq_true, Bool.not_eq_false, Bool.not_true, Bool.not_false, bne_eq_false_iff_eq, beq_eq_false_iff_ne, Bool.and_eq_true, Bool.or_eq_true, Bool.and_eq_false_imp, Bool.or_eq_false_iff, Bool.not_eq_true', Bool.not_eq_false', Int.not_lt, Int.not_le] at h) <;> (try (exfalso; omega))))
      refine callS_pure (.tup [wE (lastN z 0 0), .int .i64 0]) en57 (by simp [closed, closeds, closed_wE]) (fun bs w' _ => by simpa [reals, real, wV_real, lastN_zero] using read_nil0) (next_of 1000 ?_)
      repeat' (first
        | with_reducible refine And.intro (by first | omega | assumption | (constructor <;> assumption) | (simp; done) | (simp; omega) | (simp [*]; done)) ?_
        | simp (maxSteps := 4000000) (disch := omega) only [go_sem, Nat.reduceBEq, Nat.reduceAdd, Nat.reduceMul, Nat.reduceSub, Nat.reduceLT, Nat.reduceLeDiff, Int.reduceToNat, Int.reduceLT, Int.reduceLE, Int.reduceAdd, Int.reduceMul, Int.reduceSub, Int.reduceNeg, Int.reduceDiv, Int.reduceMod, Nat.reduceBNe, Nat.reduceGT, Int.reduceBEq, Int.reduceBNe, Int.reduceGT, Nat.reduceDiv, Nat.reduceMod, Nat.reducePow, Int.reducePow, gt_iff_lt, ge_iff_le, List.reduceReplicate, ↓reduceIte, hdec]
        | with_reducible refine roundS (next_of 1000 ?_)
        | with_reducible refine drawN_of (id := 3) mixed (by kernel_rfl) (by simp; done) (dg_of 1000 ?_)
        | with_reducible refine endN_of (by kernel_rfl) rfl (by simp [nmRes, off_eq, offL, av, avs, EObj.av, sentE, avs_ints, avs_wC, hasEdge_eq, edgeL, Region.binds]) (next_of 1000 ?_)
        | with_reducible refine next_of 1000 ?_
        | ((first | refine condS_split (fun h => ?_) (fun h => ?_) | refine testS_split (fun h => ?_) (fun h => ?_) | refine testD_split (fun h => ?_) (fun h => ?_)) <;> (try simp only [bne_iff_ne, ne_eq, beq_iff_eq, decide_eq_true_eq, decide_eq_false_iff_not, Bool.not_eq_true, Bool.not_eq_false, Bool.not_true, Bool.not_false, bne_eq_false_iff_eq, beq_eq_false_iff_ne, Bool.and_eq_true, Bool.or_eq_true, Bool.and_eq_false_imp, Bool.or_eq_false_iff, Bool.not_eq_true', Bool.not_eq_false', Int.not_lt, Int.not_le] at h) <;> (try (exfalso; omega))))
      refine drawS_of mixed (by kernel_rfl) (dg_of 1000 ?_)
      repeat' (first
        | with_reducible refine And.intro (by first | omega | assumption | (constructor <;> assumption) | (simp; done) | (simp; omega) | (simp [*]; done)) ?_
        | simp (maxSteps := 4000000) (disch := omega) only [go_sem, Nat.reduceBEq, Nat.reduceAdd, Nat.reduceMul, Nat.reduceSub, Nat.reduceLT, Nat.reduceLeDiff, Int.reduceToNat, Int.reduceLT, Int.reduceLE, Int.reduceAdd, Int.reduceMul, Int.reduceSub, Int.reduceNeg, Int.reduceDiv, Int.reduceMod, Nat.reduceBNe, Nat.reduceGT, Int.reduceBEq, Int.reduceBNe, Int.reduceGT, Nat.reduceDiv, Nat.reduceMod, Nat.reducePow, Int.reducePow, gt_iff_lt, ge_iff_le, List.reduceReplicate, ↓reduceIte, hdec]
        | with_reducible refine roundS (next_of 1000 ?_)
        | with_reducible refine drawS_of mixed (by kernel_rfl) (dg_of 1000 ?_)
        | with_reducible refine endD_of (by kernel_rfl) (next_of 1000 ?_)
        | with_reducible refine next_of 1000 ?_
        | ((first | refine condS_split (fun h => ?_) (fun h => ?_) | refine testS_split (fun h => ?_) (fun h => ?_) | refine testD_split (fun h => ?_) (fun h => ?_)) <;> (try simp only [bne_iff_ne, ne_eq, beq_iff_eq, decide_eq_true_eq, decide_eq_false_iff_not, Bool.not_eq_true, Bool.not_eq_false, Bool.not_true, Bool.not_false, bne_eq_false_iff_eq, beq_eq_false_iff_ne, Bool.and_eq_true, Bool.or_eq_true, Bool.and_eq_false_imp, Bool.or_eq_false_iff, Bool.not_eq_true', Bool.not_eq_false', Int.not_lt, Int.not_le] at h) <;> (try (exfalso; omega))))
      refine callD_pure (wE (lastN z 0 0)) [] en58 (by simp [closed, closeds, closed_wE]) (fun y bs w' hB _ hr => ?_) (dg_of 1000 ?_)
      · rw [hB] at hr
        have := rread_any (cap := cap) (hin0.later hr) hz (by omega)
        simpa [reals, real, wV_real] using this
      repeat' (first
        | with_reducible refine And.intro (by first | omega | assumption | (constructor <;> assumption) | (simp; done) | (simp; omega) | (simp [*]; done)) ?_
        | simp (maxSteps := 4000000) (disch := omega) only [go_sem, Nat.reduceBEq, Nat.reduceAdd, Nat.reduceMul, Nat.reduceSub, Nat.reduceLT, Nat.reduceLeDiff, Int.reduceToNat, Int.reduceLT, Int.reduceLE, Int.reduceAdd, Int.reduceMul, Int.reduceSub, Int.reduceNeg, Int.reduceDiv, Int.reduceMod, Nat.reduceBNe, Nat.reduceGT, Int.reduceBEq, Int.reduceBNe, Int.reduceGT, Nat.reduceDiv, Nat.reduceMod, Nat.reducePow, Int.reducePow, gt_iff_lt, ge_iff_le, List.reduceReplicate, ↓reduceIte, hdec]
        | with_reducible refine roundS (next_of 1000 ?_)
        | with_reducible refine drawS_of mixed (by kernel_rfl) (dg_of 1000 ?_)
        | with_reducible refine endD_of (by kernel_rfl) (next_of 1000 ?_)
        | refine callS_p (same_p0 _) (next_of 1000 ?_)
        | refine callD_p (same_p0 _) (dg_of 1000 ?_)
        | with_reducible refine next_of 1000 ?_
        | ((first | refine condS_split (fun h => ?_) (fun h => ?_) | refine testS_split (fun h => ?_) (fun h => ?_) | refine testD_split (fun h => ?_) (fun h => ?_)) <;> (try simp only [bne_iff_ne, ne_eq, beq_iff_eq, decide_eq_true_eq, decide_eq_false_iff_not, Bool.not_eq_true, Bool.not_eq_false, Bool.not_true, Bool.not_false, bne_eq_false_iff_eq, beq_eq_false_iff_ne, Bool.and_eq_true, Bool.or_eq_true, Bool.and_eq_false_imp, Bool.or_eq_false_iff, Bool.not_eq_true', Bool.not_eq_false', Int.not_lt, Int.not_le] at h) <;> (try (exfalso; omega))))
      all_goals exact fun bs => rfl
    · have ez : (fun i => if i < L then z i else 0) = z := by
        funext i; split
        · rfl
        · exact (hz0 i (by omega)).symm
      rw [ez]
      clear hO2
      refine next_of 1000 ?_
      repeat' (first
        | with_reducible refine And.intro (by first | omega | assumption | (constructor <;> assumption) | (simp; done) | (simp; omega) | (simp [*]; done)) ?_
        | simp (maxSteps := 4000000) (disch := omega) only [go_sem, Nat.reduceBEq, Nat.reduceAdd, Nat.reduceMul, Nat.reduceSub, Nat.reduceLT, Nat.reduceLeDiff, Int.reduceToNat, Int.reduceLT, Int.reduceLE, Int.reduceAdd, Int.reduceMul, Int.reduceSub, Int.reduceNeg, Int.reduceDiv, Int.reduceMod, Nat.reduceBNe, Nat.reduceGT, Int.reduceBEq, Int.reduceBNe, Int.reduceGT, Nat.reduceDiv, Nat.reduceMod, Nat.reducePow, Int.reducePow, gt_iff_lt, ge_iff_le, List.reduceReplicate, ↓reduceIte]
        | with_reducible refine roundS (next_of 1000 ?_)
        | with_reducible refine drawS_of mixed (by kernel_rfl) (dg_of 1000 ?_)
        | with_reducible refine endD_of (by kernel_rfl) (next_of 1000 ?_)
        | with_reducible refine next_of 1000 ?_
        | ((first | refine condS_split (fun h => ?_) (fun h => ?_) | refine testS_split (fun h => ?_) (fun h => ?_) | refine testD_split (fun h => ?_) (fun h => ?_)) <;> (try simp only [bne_iff_ne, ne_eq, beq_iff_eq, decide_eq_true_eq, decide_eq_false_iff_not, Bool.not_eq_true, Bool.not_eq_false, Bool.not_true, Bool.not_false, bne_eq_false_iff_eq, beq_eq_false_iff_ne, Bool.and_eq_true, Bool.or_eq_true, Bool.and_eq_false_imp, Bool.or_eq_false_iff, Bool.not_eq_true', Bool.not_eq_false', Int.not_lt, Int.not_le] at h) <;> (try (exfalso; omega))))
      refine callS_read 9 (cs := ints .u8 z cap3) (T := 5) (fr := (0, 0)) (v := .tup [wE (lastN z L L), .int .i64 0]) en57 (by simp [closed, closeds, closed_wE]) rfl (fun bs w' hw => ?_) (next_of 1000 ?_)
      · rw [reals_ints] at hw
        have := read_calls (cap := cap3) hw hz hc1 (by omega)
        simpa [reals, real, wV_real] using this
      repeat' (first
        | with_reducible refine And.intro (by first | omega | assumption | (constructor <;> assumption) | (simp; done) | (simp; omega) | (simp [*]; done)) ?_
        | simp (maxSteps := 4000000) (disch := omega) only [go_sem, Nat.reduceBEq, Nat.reduceAdd, Nat.reduceMul, Nat.reduceSub, Nat.reduceLT, Nat.reduceLeDiff, Int.reduceToNat, Int.reduceLT, Int.reduceLE, Int.reduceAdd, Int.reduceMul, Int.reduceSub, Int.reduceNeg, Int.reduceDiv, Int.reduceMod, Nat.reduceBNe, Nat.reduceGT, Int.reduceBEq, Int.reduceBNe, Int.reduceGT, Nat.reduceDiv, Nat.reduceMod, Nat.reducePow, Int.reducePow, gt_iff_lt, ge_iff_le, List.reduceReplicate, ↓reduceIte, hdec]
        | with_reducible refine roundS (next_of 1000 ?_)
        | with_reducible refine drawN_of (id := 3) mixed (by kernel_rfl) (by simp; done) (dg_of 1000 ?_)
        | with_reducible refine endN_of (by kernel_rfl) rfl (by simp [nmRes, off_eq, offL, av, avs, EObj.av, sentE, avs_ints, avs_wC, hasEdge_eq, edgeL, Region.binds]) (next_of 1000 ?_)
        | with_reducible refine next_of 1000 ?_
        | ((first | refine condS_split (fun h => ?_) (fun h => ?_) | refine testS_split (fun h => ?_) (fun h => ?_) | refine testD_split (fun h => ?_) (fun h => ?_)) <;> (try simp only [bne_iff_ne, ne_eq, beq_iff_eq, decide_eq_true_eq, decide_eq_false_iff_not, Bool.not_eq_true, Bool.not_eq_false, Bool.not_true, Bool.not_false, bne_eq_false_iff_eq, beq_eq_false_iff_ne, Bool.and_eq_true, Bool.or_eq_true, Bool.and_eq_false_imp, Bool.or_eq_false_iff, Bool.not_eq_true', Bool.not_eq_false', Int.not_lt, Int.not_le] at h) <;> (try (exfalso; omega))))
      refine drawS_of mixed (by kernel_rfl) (dg_of 1000 ?_)
      repeat' (first
        | with_reducible refine And.intro (by first | omega | assumption | (constructor <;> assumption) | (simp; done) | (simp; omega) | (simp [*]; done)) ?_
        | simp (maxSteps := 4000000) (disch := omega) only [go_sem, Nat.reduceBEq, Nat.reduceAdd, Nat.reduceMul, Nat.reduceSub, Nat.reduceLT, Nat.reduceLeDiff, Int.reduceToNat, Int.reduceLT, Int.reduceLE, Int.reduceAdd, Int.reduceMul, Int.reduceSub, Int.reduceNeg, Int.reduceDiv, Int.reduceMod, Nat.reduceBNe, Nat.reduceGT, Int.reduceBEq, Int.reduceBNe, Int.reduceGT, Nat.reduceDiv, Nat.reduceMod, Nat.reducePow, Int.reducePow, gt_iff_lt, ge_iff_le, List.reduceReplicate, ↓reduceIte, hdec]
        | with_reducible refine roundS (next_of 1000 ?_)
        | with_reducible refine drawS_of mixed (by kernel_rfl) (dg_of 1000 ?_)
        | with_reducible refine endD_of (by kernel_rfl) (next_of 1000 ?_)
        | with_reducible refine next_of 1000 ?_
        | ((first | refine condS_split (fun h => ?_) (fun h => ?_) | refine testS_split (fun h => ?_) (fun h => ?_) | refine testD_split (fun h => ?_) (fun h => ?_)) <;> (try simp only [bne_iff_ne, ne_eq, beq_iff_eq, decide_eq_true_eq, decide_eq_false_iff_not, Bool.not_eq_true, Bool.not_eq_false, Bool.not_true, Bool.not_false, bne_eq_false_iff_eq, beq_eq_false_iff_ne, Bool.and_eq_true, Bool.or_eq_true, Bool.and_eq_false_imp, Bool.or_eq_false_iff, Bool.not_eq_true', Bool.not_eq_false', Int.not_lt, Int.not_le] at h) <;> (try (exfalso; omega))))
      refine callD_pure (wE (lastN z L L)) [] en58 (by simp [closed, closeds, closed_wE]) (fun y bs w' hB _ hr => ?_) (dg_of 1000 ?_)
      · rw [hB] at hr
        have := rread_any (cap := cap) (hin0.later hr) hz (by omega)
        simpa [reals, real, wV_real] using this
      repeat' (first
        | with_reducible refine And.intro (by first | omega | assumption | (constructor <;> assumption) | (simp; done) | (simp; omega) | (simp [*]; done)) ?_
        | simp (maxSteps := 4000000) (disch := omega) only [go_sem, Nat.reduceBEq, Nat.reduceAdd, Nat.reduceMul, Nat.reduceSub, Nat.reduceLT, Nat.reduceLeDiff, Int.reduceToNat, Int.reduceLT, Int.reduceLE, Int.reduceAdd, Int.reduceMul, Int.reduceSub, Int.reduceNeg, Int.reduceDiv, Int.reduceMod, Nat.reduceBNe, Nat.reduceGT, Int.reduceBEq, Int.reduceBNe, Int.reduceGT, Nat.reduceDiv, Nat.reduceMod, Nat.reducePow, Int.reducePow, gt_iff_lt, ge_iff_le, List.reduceReplicate, ↓reduceIte, hdec]
        | with_reducible refine roundS (next_of 1000 ?_)
        | with_reducible refine drawS_of mixed (by kernel_rfl) (dg_of 1000 ?_)
        | with_reducible refine endD_of (by kernel_rfl) (next_of 1000 ?_)
        | refine callS_p (same_p0 _) (next_of 1000 ?_)
        | refine callD_p (same_p0 _) (dg_of 1000 ?_)
        | with_reducible refine next_of 1000 ?_
        | ((first | refine condS_split (fun h => ?_) (fun h => ?_) | refine testS_split (fun h => ?_) (fun h => ?_) | refine testD_split (fun h => ?_) (fun h => ?_)) <;> (try simp only [bne_iff_ne, ne_eq, beq_iff_eq, decide_eq_true_eq, decide_eq_false_iff_not, Bool.not_eq_true, Bool.not_eq_false, Bool.not_true, Bool.not_false, bne_eq_false_iff_eq, beq_eq_false_iff_ne, Bool.and_eq_true, Bool.or_eq_true, Bool.and_eq_false_imp, Bool.or_eq_false_iff, Bool.not_eq_true', Bool.not_eq_false', Int.not_lt, Int.not_le] at h) <;> (try (exfalso; omega))))
      all_goals exact fun bs => rfl
end Go.Proofs.YtbilnedgpgpanaaDoor
