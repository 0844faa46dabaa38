/- Part of a proof over the seat Ytncjbfkkgdepoaa. -/
import Derived.Test.YtncjbfkkgdepoaaUH
import Derived.Test.YtncjbfkkgdepoaaEng3
set_option linter.unusedSimpArgs false
set_option linter.unusedVariables false
set_option maxRecDepth 100000
namespace Go.Proofs.Ytncjbfkkgdepoaa
open Go RowKit Go.Ew
set_option maxHeartbeats 16000000
theorem Ea6 : D0 Try.f42.ntmps (Try.f42.body.getD .skip) = true := by kernel_rfl
structure NvsAt (B : Base) (ad : Option Addr) (ns : List Nv) : Prop where
 c : CellsAt B ad (ns.flatMap Nv.C)
 ok : ∀ q ∈ ns, q.h.length = 32 ∧ q.b.Ok B
 len : ns.length ≤ 1099511627776
theorem NvsAt.ext {B B' : Base} {ad : Option Addr} {ns : List Nv} (h : NvsAt B ad ns) (e : BExt B B') : NvsAt B' ad ns := ⟨h.c.ext e, fun q hq => ⟨(h.ok q hq).1, (h.ok q hq).2.ext e⟩, h.len⟩
theorem Ai2 {ns : List Nv} (h : ∀ q ∈ ns, q.h.length = 32) : (ns.flatMap Nv.C).length = ns.length * 33 := by
 rw [N1 (k := 33) (fun q hq => by simp [Nv.C, h q hq])]; omega
theorem Dh8 (q : Nv) : q.C.map D9 = q.E := by
 rw [Nv.C, Nv.E, List.map_append, List.map_map]; rfl
theorem Be9 (ns : List Nv) : (ns.flatMap Nv.C).map D9 = ns.flatMap Nv.E := by
 rw [List.map_flatMap]; congr 1; funext q; exact Dh8 q
theorem Cc4 (bs : Nat → Nat) (ns : List Nv) : C2 bs (ns.flatMap Nv.E) = ns.flatMap Nv.C := Ah9 _ _ _ (fun q => by
 rw [Nv.E, C3, List.map_append, List.map_map]; rfl) ns
theorem NvsAt.ld {B : Base} {ad : Option Addr} {ns : List Nv} (h : NvsAt B ad ns) {i : Nat} (hi : i < ns.length) :
  N9 B (H7 ad (i * 33)) 33 = (ns[i]).E ∧ N9 B (H7 ad (i * 33)) 32 = (ns[i]).h.map bE ∧ BytesAt B (some (H7 ad (i * 33))) (ns[i]).h ∧ B.D (adr ad).block ∧ Al5 B (H7 ad (i * 33)) 33 ∧ Al5 B (H7 ad (i * 33)) 32 ∧ ad.isSome = true := by
 have hl := Ai2 fun q hq => (h.ok q hq).1
 have hq := (h.ok _ (List.getElem_mem hi)).1
 obtain ⟨a1, a2, a3, a4⟩ := Aa3 h.c (o := i * 33) (n := 33) (by rw [hl]; omega) (by omega)
 obtain ⟨b1, b2, b3, b4⟩ := Aa3 h.c (o := i * 33) (n := 32) (by rw [hl]; omega) (by omega)
 have e33 : ((ns.flatMap Nv.C).drop (i * 33)).take 33 = (ns[i]).C := Br4 (k := 33) (fun q hq => by simp [Nv.C, (h.ok q hq).1]) hi
 have e32 : ((ns.flatMap Nv.C).drop (i * 33)).take 32 = (ns[i]).h.map bV := by
  have : ((ns.flatMap Nv.C).drop (i * 33)).take 32 = (((ns.flatMap Nv.C).drop (i * 33)).take 33).take 32 := by rw [List.take_take]; rfl
  rw [this, e33, Nv.C, List.take_left' (by rw [List.length_map, hq])]
 rw [e33, Dh8] at a1
 rw [e32] at b1
 refine ⟨a1, ?_, ?_, a2, a3, b3, a4⟩
 ·rw [b1, List.map_map]; rfl
 ·obtain ⟨a, rfl⟩ := Option.isSome_iff_exists.1 a4
  have := h.c.sub (i * 33) 32
  rw [e32] at this
  rw [F4]; exact this
theorem NvsAt.src {B : Base} {ad : Option Addr} {ns : List Nv} (h : NvsAt B ad ns) (n cap : Nat) (hn : ns.length = n) (hs : List (Nat × Option EObj)) : ∃ c, O6 B hs 33 (.raw (.slice ad n cap)) = some (n, ns.flatMap Nv.E, c) ∧ c := by
 have := CellsAt.src (cap := cap) h.c (sz := 33) (n := n) (by omega) (by rw [Ai2 fun q hq => (h.ok q hq).1, hn]) hs
 rwa [Be9] at this
theorem Cq3 {ns : List Nv} (h : ∀ q ∈ ns, q.h.length = 32) (k : Nat) : (ns.take k).flatMap Nv.C = (ns.flatMap Nv.C).take (k * 33) := by
 induction ns generalizing k with
 | nil => simp
 | cons q ns ih =>
  cases k with
  | zero => simp
  | succ k =>
   have hq : q.C.length = 33 := by simp [Nv.C, h q (by simp)]
   rw [List.take_succ_cons, List.flatMap_cons, List.flatMap_cons, ih (fun q hq => h q (by simp [hq])), show (k + 1) * 33 = q.C.length + k * 33 by omega, List.take_length_add_append]
theorem Cq4 {ns : List Nv} (h : ∀ q ∈ ns, q.h.length = 32) (k : Nat) : (ns.drop k).flatMap Nv.C = (ns.flatMap Nv.C).drop (k * 33) := by
 induction ns generalizing k with
 | nil => simp
 | cons q ns ih =>
  cases k with
  | zero => simp
  | succ k =>
   have hq : q.C.length = 33 := by simp [Nv.C, h q (by simp)]
   rw [List.drop_succ_cons, List.flatMap_cons, ih (fun q hq => h q (by simp [hq])), show (k + 1) * 33 = q.C.length + k * 33 by omega, List.drop_length_add_append]
theorem NvsAt.take {B : Base} {ad : Option Addr} {ns : List Nv} (h : NvsAt B ad ns) (k : Nat) : NvsAt B ad (ns.take k) :=
 ⟨by rw [Cq3 fun q hq => (h.ok q hq).1]; exact Av9 h.c _, fun p hp => h.ok p (List.mem_of_mem_take hp), by have := h.len; rw [List.length_take]; omega⟩
theorem NvsAt.drop {B : Base} {ad : Option Addr} {ns : List Nv} (h : NvsAt B ad ns) (k : Nat) : NvsAt B (ad.map (·.add (k * 33))) (ns.drop k) :=
 ⟨by rw [Cq4 fun q hq => (h.ok q hq).1]; exact Aw0 h.c _, fun p hp => h.ok p (List.mem_of_mem_drop hp), by have := h.len; rw [List.length_drop]; omega⟩
def Do2 (m : List KV) (p : KV) : List KV := if isM m p.1 then m else m.take (atM m p.1) ++ [p] ++ m.drop (atM m p.1)
def Co0 (l : List KV) : List KV := l.foldl Do2 []
theorem Ca7 {l : List KV} {i : Nat} {p : KV} (h : l[i]? = some p) : Co0 (l.take (i + 1)) = Do2 (Co0 (l.take i)) p := by
 obtain ⟨hj, he⟩ := List.getElem?_eq_some_iff.1 h
 rw [Co0, List.take_succ_eq_append_getElem hj, List.foldl_append, he]; rfl
theorem Ch0 {C : Cx} {Q : Exit → X → Prop} {st : List It} {x : X} (r n : Nat) {l : Lst} {xs : List Nv} {T : TypeId} (h32 : ∀ q ∈ xs, q.h.length = 32) (hg : hget x.hs r = lO T (xs.flatMap Nv.E) l) (hn : xs.length = n) (hl : lOk zN n l) (hms : r ∉ x.ms)
  (hk : ∀ b ad cap B', BExt x.B B' → frz r b (lE r n l) = .raw (.slice ad n cap) → CellsAt B' ad (xs.flatMap Nv.C) → n ≤ cap → Go.Ew.Next C Q st ⟨frzσ r b x.σ, x.n, As0 r b x.hs, B', x.ms⟩) : Go.Ew.Next C Q st x := by
 subst hn
 refine X8 r xs.length hg hl (by rw [X5 h32]; rfl) (E3 0 _) C9 hms (fun b ad cap B' hE hf hD hso hc => ?_)
 refine hk b ad cap B' hE hf (L7 hD hso (fun h0 => by rw [List.length_eq_zero_iff.1 h0]; rfl) hc (Cc4 _ _)) ?_
 cases l with
 | none => simp only [lE, frz] at hf; have := hl; simp only [lOk] at this; injection hf with hf; injection hf with _ h1 h2; omega
 | some q => obtain ⟨c, z⟩ := q; simp only [lE, frz, ↓reduceIte] at hf; have := hl.1; injection hf with hf; injection hf with _ h1 h2; omega
theorem Bg1 {h : List UInt8} (hl : h.length = 32) : h.map bE = D5 .u8 (fun j => ((h.getD j 0).toNat : Int)) 32 := by
 apply List.ext_getElem
 ·simp [D5, hl]
 ·intro j h1 h2
  have hj : j < h.length := by simpa using h1
  simp [D5, bE, List.getD, hj]
theorem Cv8 (a b : List UInt8) : (List.map EV.num (a.map bE) == List.map EV.num (b.map bE)) = decide (a = b) := by
 have e : ∀ l : List UInt8, List.map EV.num (l.map bE) = l.map (fun x => (x.toNat : Int)) := fun l => by simp [bE, EV.num, Function.comp_def]
 rw [Bool.eq_iff_iff, beq_iff_eq, decide_eq_true_eq, e, e]
 refine ⟨fun h => ?_, fun h => by rw [h]⟩
 exact (List.map_inj_right (fun x y h => UInt8.toNat_inj.1 (Int.ofNat_inj.1 h))).1 h
theorem Bi7 (l : List UInt8) : (l.map bE).all (EV.isInt .u8) = true := by simp [bE, EV.isInt]
theorem Bd1 {B : Base} (ns : List Nv) (n : Nat) (ad : Option Addr) (cap : Nat) (h : NvsAt B ad ns) (hn : ns.length = n) :
  Does Try.prog 42 [.raw (.slice ad n cap)] B (fun s : Option Addr × Nat × List Nv => .raw (.slice s.1 s.2.2.length s.2.1)) (fun s B' => NvsAt B' s.1 s.2.2 ∧ s.2.2.length ≤ s.2.1 ∧ s.2.2.map Nv.nd = Co0 (ns.map Nv.nd)) := by
 subst hn
 refine K2 Dr0 (fun s B B' hB hR => ⟨hR.1.ext hB, hR.2⟩) Try.func42 rfl Ea6 (by simp [Try.f42]) (by simp [A0, closed]) (fun B0 hB0 => A2 1000 ?_)
 replace h := h.ext hB0
 have hlen := h.len
 obtain ⟨L, hL⟩ : ∃ L, L = ns.map Nv.nd := ⟨_, rfl⟩
 rw [← hL]
 repeat' (simp (maxSteps := 4000000) (disch := omega) only [go_sem, ↓reduceIte, Try.f42])
 refine H2 (S := Nat × Option Addr × Nat × List Nv × Base) (fun s => s.1 ≤ ns.length ∧ NvsAt s.2.2.2.2 s.2.1 s.2.2.2.1 ∧ s.2.2.2.1.length ≤ s.2.2.1 ∧ s.2.2.2.1.length ≤ s.1 ∧ s.2.2.2.1.map Nv.nd = Co0 (L.take s.1) ∧ BExt B0 s.2.2.2.2)
  (fun s => ⟨[(4, .int .i64 (s.1 : Nat)), (3, .raw (.slice s.2.1 s.2.2.2.1.length s.2.2.1)), (0, .raw (.slice ad ns.length cap))], 0, [], s.2.2.2.2, []⟩)
  (fun s => ns.length - s.1) (0, none, 0, [], B0) ⟨Nat.zero_le _, ⟨T3 _ _, fun q hq => by simp at hq, by simp⟩, by simp, by simp, rfl, BExt.refl _⟩ (Weak.sub (A6 (by simp [wσ, go_sem, closed, A0, A4, ] <;> omega) (by simp [whs, Go.Ew.hget, go_sem, EObj.closed, closed, A0, A4, ]) (by first | (simp [*]; done) | (simp only [cxG]; omega)) rfl rfl (by simp))) ?_
 rintro ⟨i, oA, oc, os, B2⟩ ⟨hi, hos, hoc, hoi, hod, hB2⟩
 simp only at hi hos hoc hoi hod hB2 ⊢
 refine A2 1000 ?_
 rcases Nat.lt_or_ge i ns.length with hi2 | hi2
 ·have cA : decide ((i : Int) < (ns.length : Int)) = true := decide_eq_true (by omega)
  obtain ⟨l1, l2, l3, l4, l5, l6, l7⟩ := (h.ext hB2).ld hi2
  have hLi : L[i]? = some (ns[i]).nd := by rw [hL]; simp [hi2]
  have hsu := Ca7 hLi
  have hqok := (h.ext hB2).ok _ (List.getElem_mem hi2)
  obtain ⟨q, hq⟩ : ∃ q, q = ns[i] := ⟨_, rfl⟩
  rw [← hq] at l1 l2 l3 hsu hqok
  obtain ⟨M, hM⟩ : ∃ M, M = os.map Nv.nd := ⟨_, rfl⟩
  have hMl : M.length = os.length := by rw [hM, List.length_map]
  have hal := Bi8 M q.h
  rw [← hod, ← hM] at hsu
  have hqk : q.nd.1 = q.h := rfl
  rw [Do2, hqk] at hsu
  have hosl := hos.len
  repeat' (simp (maxSteps := 4000000) (disch := omega) only [go_sem, ↓reduceIte, cA])
  refine H2 (S := Nat) (fun k => k ≤ atM M q.h)
   (fun k => ⟨[(5, .int .i64 (k : Nat)), (4, .int .i64 (i : Nat)), (3, .raw (.slice oA os.length oc)), (0, .raw (.slice ad ns.length cap))], 0, [], B2, []⟩)
   (fun k => os.length - k) 0 (Nat.zero_le _) (Weak.sub (A6 (by simp [wσ, go_sem, closed, A0, A4, ] <;> omega) (by simp [whs, Go.Ew.hget, go_sem, EObj.closed, closed, A0, A4, ]) (by first | (simp [*]; done) | (simp only [cxG]; omega)) rfl rfl (by simp))) ?_
  intro k hk
  refine A2 1000 ?_
  rcases Nat.lt_or_ge k os.length with hk2 | hk2
  ·have cB : decide ((k : Int) < (os.length : Int)) = true := decide_eq_true (by omega)
   obtain ⟨m1, m2, m3, m4, m5, m6, m7⟩ := hos.ld hk2
   have hook := hos.ok _ (List.getElem_mem hk2)
   have hst := Bt8 hk (by omega : k < M.length)
   have hhe := Bt9 hk (by omega : k < M.length)
   have hMk : (M[k]'(by omega)).1 = (os[k]).h := by simp [hM, Nv.nd]
   have hgk : M[k]? = some (M[k]'(by omega)) := List.getElem?_eq_getElem (by omega)
   rw [hMk] at hst hhe
   obtain ⟨p, hp⟩ : ∃ p, p = os[k] := ⟨_, rfl⟩
   rw [← hp] at m1 m2 m3 hook hst hhe hMk
   repeat' (first | with_reducible refine And.intro (by first | omega | (simp; done) | (simp [*]; done)) ?_ | simp (maxSteps := 4000000) (disch := omega) only [go_sem, ↓reduceIte, cB, Int.toNat_natCast] | with_reducible refine C8 (id := 6) [0, 1, 2, 3, 4, 5, 6, 7, 8, 9, 10, 11, 12, 13, 14, 15, 16, 17, 18] mixed (by kernel_rfl) (by simp) (fun hin => D7 1000 hin ?_))
   refine Bv2 p.h rfl Try.underlying22 Try.underlying5 Try.underlying9 rfl hook.1 m3 (fun hin2 => D7 1000 hin2 ?_)
   repeat' (first | with_reducible refine And.intro (by first | omega | (simp; done) | (simp [*]; done)) ?_ | simp (maxSteps := 4000000) (disch := omega) only [go_sem, ↓reduceIte, Int.toNat_natCast])
   refine Bv2 q.h rfl Try.underlying22 Try.underlying5 Try.underlying9 rfl hqok.1 l3 (fun hin2 => D7 1000 hin2 ?_)
   by_cases hb : Op.bytesLess p.h q.h = true
   ·repeat' (first | simp (maxSteps := 4000000) (disch := omega) only [go_sem, ↓reduceIte, P5, hb] | with_reducible refine E1 (by kernel_rfl) (C4 (by kernel_rfl)) (A2 1000 ?_))
    exact ⟨k + 1, hst hb, Weak.sub (A6 (by simp [wσ, go_sem, closed, A0, A4, ] <;> omega) (by simp [whs, Go.Ew.hget, go_sem, EObj.closed, closed, A0, A4, ]) (by first | (simp [*]; done) | (simp only [cxG]; omega)) rfl rfl (by simp)), by omega⟩
   ·have hb' : Op.bytesLess p.h q.h = false := by simpa using hb
    have hka := hhe hb'
    have hie : isM M q.h = decide (p.h = q.h) := by
     rw [isM, ← hka, hgk]
     simp only
     rw [hMk, Bool.eq_iff_iff, beq_iff_eq, decide_eq_true_eq]
    repeat' (simp (maxSteps := 4000000) (disch := omega) only [go_sem, ↓reduceIte, P5, hb'])
    refine E1 (by kernel_rfl) (C4 (by kernel_rfl)) (L2 [] 0 (by simp) (by simp) (by simp) (by simp) (A2 1000 ?_))
    have hEl : p.E.length = 33 := by simp [Nv.E, hook.1]
    have hpl : (p.h.map bE).length = 32 := by simp [hook.1]
    have hql : (q.h.map bE).length = 32 := by simp [hqok.1]
    by_cases he : p.h = q.h
    ·have cE : decide (p.h = q.h) = true := decide_eq_true he
     repeat' (first | with_reducible refine And.intro (by first | omega | (constructor <;> assumption) | (simp [*]; done) | ((repeat' refine And.intro ?_ ?_) <;> first | omega | assumption | (refine SlOk.so (n := ?_) ?_ ?_; rotate_left; assumption; omega) | (simp; done) | fail)) ?_ | simp (maxSteps := 4000000) (disch := omega) only [go_sem, ↓reduceIte, okC, okE, P3, E4, cB, Int.toNat_natCast, m2, l2, Cv8, Bi7, Bt7, cE] | with_reducible refine C8 (id := 8) [0, 1, 2, 3, 4, 5, 6, 7, 8, 9, 10, 11, 12, 13, 14, 15, 16] mixed (by kernel_rfl) (by simp) (fun hin => D7 1000 hin ?_) | with_reducible refine E1 (by kernel_rfl) (C4 (by kernel_rfl)) (A2 1000 ?_) | with_reducible refine A2 1000 ?_)
     have hit : isM M q.h = true := by rw [hie, cE]
     rw [hit, if_pos rfl] at hsu
     exact ⟨(i + 1, oA, oc, os, B2), ⟨hi2, hos, hoc, by simp only; omega, by rw [hsu, hM], hB2⟩, Weak.sub (A6 (by simp [wσ, go_sem, closed, A0, A4, ] <;> omega) (by simp [whs, Go.Ew.hget, go_sem, EObj.closed, closed, A0, A4, ]) (by first | (simp [*]; done) | (simp only [cxG]; omega)) rfl rfl (by simp)), by simp only; omega⟩
    ·have cE : decide (p.h = q.h) = false := decide_eq_false he
     repeat' (first | with_reducible refine And.intro (by first | omega | (constructor <;> assumption) | (simp [*]; done) | ((repeat' refine And.intro ?_ ?_) <;> first | omega | assumption | (refine SlOk.so (n := ?_) ?_ ?_; rotate_left; assumption; omega) | (simp; done) | fail)) ?_ | simp (maxSteps := 4000000) (disch := omega) only [go_sem, ↓reduceIte, okC, okE, P3, E4, cB, Int.toNat_natCast, m2, l2, Cv8, Bi7, Bt7, cE] | with_reducible refine C8 (id := 8) [0, 1, 2, 3, 4, 5, 6, 7, 8, 9, 10, 11, 12, 13, 14, 15, 16] mixed (by kernel_rfl) (by simp) (fun hin => D7 1000 hin ?_) | with_reducible refine A2 1000 ?_)
     refine E1 (by kernel_rfl) (C4 (by kernel_rfl)) (L2 [] 0 (by simp) (by simp) (by simp) (by simp) (A2 1000 ?_))
     obtain ⟨fq, hfq⟩ : ∃ fq : Nat → Int, fq = fun j => ((q.h.getD j 0).toNat : Int) := ⟨_, rfl⟩
     have hqE : q.E = (D5 .u8 fq 32 ++ [EV.raw (.slice q.b.ad q.b.l.length q.b.c)]) := by rw [Nv.E, Bg1 hqok.1, hfq]; rfl
     have hqE1 : G2 (D5 .u8 fq 32 ++ [EV.raw (.slice q.b.ad q.b.l.length q.b.c)]) = true := by rw [← hqE]; exact Z5 q
     have hqE33 : (D5 .u8 fq 32 ++ [EV.raw (.slice q.b.ad q.b.l.length q.b.c)]).length = 33 := by simp [D5]
     have hqc : ∀ n, A0 n (D5 .u8 fq 32 ++ [EV.raw (.slice q.b.ad q.b.l.length q.b.c)]) := fun n => by rw [← hqE]; exact V7 n q
     have hqs : H5 [EV.int IntKind.u8 0, EV.int IntKind.u8 0, EV.int IntKind.u8 0, EV.int IntKind.u8 0, EV.int IntKind.u8 0, EV.int IntKind.u8 0, EV.int IntKind.u8 0, EV.int IntKind.u8 0, EV.int IntKind.u8 0, EV.int IntKind.u8 0, EV.int IntKind.u8 0, EV.int IntKind.u8 0, EV.int IntKind.u8 0, EV.int IntKind.u8 0, EV.int IntKind.u8 0, EV.int IntKind.u8 0, EV.int IntKind.u8 0, EV.int IntKind.u8 0, EV.int IntKind.u8 0, EV.int IntKind.u8 0, EV.int IntKind.u8 0, EV.int IntKind.u8 0, EV.int IntKind.u8 0, EV.int IntKind.u8 0, EV.int IntKind.u8 0, EV.int IntKind.u8 0, EV.int IntKind.u8 0, EV.int IntKind.u8 0, EV.int IntKind.u8 0, EV.int IntKind.u8 0, EV.int IntKind.u8 0, EV.int IntKind.u8 0, EV.raw (Value.slice none 0 0)] 0 (D5 .u8 fq 32 ++ [EV.raw (.slice q.b.ad q.b.l.length q.b.c)]) = (D5 .u8 fq 32 ++ [EV.raw (.slice q.b.ad q.b.l.length q.b.c)]) := by rfl
     have hqa : avs 100058 (D5 .u8 fq 32 ++ [EV.raw (.slice q.b.ad q.b.l.length q.b.c)]) := K3 _ (hqc 0)
     rw [hqE] at l1
     have hisf : isM M q.h = false := by rw [hie, cE]
     rw [hisf, if_neg (by simp), ← hka] at hsu
     have hko : k ≤ os.length := by omega
     obtain ⟨Y, hY⟩ : ∃ Y, Y = os.drop k := ⟨_, rfl⟩
     have hYl : Y.length = os.length - k := by rw [hY, List.length_drop]
     have hYp : NvsAt B2 (if oc = k then oA else oA.map (·.add (k * 33))) Y := by
      have h1 := hos.drop k
      rw [← hY] at h1
      split
      ·have e : Y = [] := List.length_eq_zero_iff.1 (by omega)
       rw [e]; exact ⟨T3 _ _, fun p hp => by simp at hp, by simp⟩
      ·exact h1
     obtain ⟨X, hX⟩ : ∃ X, X = os.take k := ⟨_, rfl⟩
     have hXl : X.length = k := by rw [hX, List.length_take]; omega
     have hXp : NvsAt B2 oA X := by rw [hX]; exact hos.take k
     have g1 : (if oc = 0 then oA else Option.map (fun x => x) oA) = oA := by split <;> simp
     have g2 : (if k = 0 then oA else Option.map (fun x => x) oA) = oA := by split <;> simp
     repeat' (first | with_reducible refine And.intro (by first | omega | (constructor <;> assumption) | (simp; omega) | (simp [*]; done)) ?_ | simp (maxSteps := 4000000) (disch := omega) only [go_sem, ↓reduceIte, Int.toNat_natCast, l1, hqE1, hqE33, hqs, g1, g2, Nat.sub_zero] | with_reducible refine C8 (id := 9) [0, 1, 2, 3, 4, 5, 6, 7, 8, 9, 10, 11, 12, 13, 14] mixed (by kernel_rfl) (by simp) (fun hin => D7 1000 hin ?_))
     refine Bb8 (c := True) (zs := zN) (l := some (1, [])) (xs := (D5 .u8 fq 32 ++ [EV.raw (.slice q.b.ad q.b.l.length q.b.c)])) (m := os.length - k) (news := Y.flatMap Nv.E) (T := 95) 62 100058 1 [] rfl rfl Try.underlying50 (.inl ⟨_, Try.underlying50⟩) Cl9 Cs4 (by simp [zN]) C9 rfl rfl (by rfl) ⟨Nat.le_refl _, by simp only [maxLen]; omega, rfl, by simp⟩ (by rw [hqE33]; rfl) (hqc 0) (fun B hs hB hfb => (hYp.ext hB).src _ _ hYl hs) (by
      have : ∀ l : List Nv, G2 (l.flatMap Nv.E) = true := fun l => by
       induction l with
       | nil => rfl
       | cons a l ih => rw [List.flatMap_cons, J2, Z5, ih]; rfl
      exact this Y) (E3 0 _) (by simp only [maxLen]; omega) (by rw [show Try.prog.bytesOf 95 = 56 from Ct8]; omega) (by simp [cxG]) (by kernel_rfl) (F6 (by kernel_rfl) (C4 (by kernel_rfl))) (fun l5 hl5 => D7 1000 (by assumption) ?_)
     have hl5' := hl5
     have hE5 := L6 (T := 95) hl5 (closeds_append.2 ⟨hqc 0, E3 0 Y⟩) C9
     obtain ⟨cp5, rest5, rfl, -⟩ := D8 hl5 (by omega)
     simp only [A5]
     repeat' (simp (maxSteps := 4000000) (disch := omega) only [go_sem, ↓reduceIte])
     have hXc : (X.flatMap Nv.C).length = k * zN.length := by rw [Ai2 fun q hq => (hXp.ok q hq).1, hXl]; rfl
     have hlen5 : ((D5 .u8 fq 32 ++ [EV.raw (.slice q.b.ad q.b.l.length q.b.c)]) ++ Y.flatMap Nv.E).length = (1 + (os.length - k)) * 33 := by
      rw [List.length_append, hqE33, X5 fun q hq => (hYp.ok q hq).1, hYl]; omega
     refine Bu1 (zs := zN) (cs := X.flatMap Nv.C) (m := 1 + (os.length - k)) (news := (D5 .u8 fq 32 ++ [EV.raw (.slice q.b.ad q.b.l.length q.b.c)]) ++ Y.flatMap Nv.E) (T := 95) 63 k [100062] rfl rfl Try.underlying50 (.inl ⟨_, Try.underlying50⟩) Cl9 Cs4 (by simp [zN]) C9 rfl rfl hXp.c hXc (fun B hs hB hfb => ⟨_, F3 (by rw [hfb 100062 (by simp)]; rfl) (by
      rw [List.drop_zero, show (1 + (os.length - k)) * zN.length = ((D5 .u8 fq 32 ++ [EV.raw (.slice q.b.ad q.b.l.length q.b.c)]) ++ Y.flatMap Nv.E).length from hlen5.symm, List.take_left]), by
      rw [List.length_append, hlen5, show zN.length = 33 from rfl]; omega⟩) (by
      have : ∀ l : List Nv, G2 (l.flatMap Nv.E) = true := fun l => by
       induction l with
       | nil => rfl
       | cons a l ih => rw [List.flatMap_cons, J2, Z5, ih]; rfl
      rw [J2, hqE1, this Y]; rfl) (closeds_append.2 ⟨hqc 0, E3 0 _⟩) (by omega) (by simp only [maxLen]; omega) (by rw [show Try.prog.bytesOf 95 = 56 from Ct8]; omega) (by simp [cxG]) (by kernel_rfl) (F6 (by kernel_rfl) ((J4 [100062, 100063] (by kernel_rfl) (by with_unfolding_all (repeat' (first | exact True.intro | exact H1 | exact hE5 | refine And.intro ?_ ?_)))))) (fun l6 hl6 => D7 1000 (by assumption) ?_)
     have hl6' := hl6
     have hev : (X.flatMap Nv.C).map D9 ++ ((D5 .u8 fq 32 ++ [EV.raw (.slice q.b.ad q.b.l.length q.b.c)]) ++ Y.flatMap Nv.E) = (X ++ [q] ++ Y).flatMap Nv.E := by
      rw [Be9, ← hqE, List.flatMap_append, List.flatMap_append, List.flatMap_singleton, List.append_assoc]
     rw [hev]
     have hE6 := L6 (T := 95) hl6 (E3 0 (X ++ [q] ++ Y)) C9
     obtain ⟨cp6, rest6, rfl, -⟩ := D8 hl6 (by omega)
     simp only [A5]
     repeat' (simp (maxSteps := 4000000) (disch := omega) only [go_sem, ↓reduceIte])
     refine E1 (by kernel_rfl) ((J4 [100062, 100063] (by kernel_rfl) (by with_unfolding_all (repeat' (first | exact True.intro | exact H1 | exact hE5 | exact hE6 | refine And.intro ?_ ?_))))) ?_
     have hnl : k + (1 + (os.length - k)) = (X ++ [q] ++ Y).length := by rw [List.length_append, List.length_append, hXl, hYl]; simp; omega
     rw [hnl] at hl6' ⊢
     have hok32 : ∀ a ∈ X ++ [q] ++ Y, a.h.length = 32 ∧ a.b.Ok B2 := fun a ha => by
      rcases List.mem_append.1 ha with h3 | h3
      ·rcases List.mem_append.1 h3 with h3 | h3
       ·exact hXp.ok a h3
       ·obtain rfl := List.mem_singleton.1 h3; exact hqok
      ·exact hYp.ok a h3
     refine Ch0 (xs := X ++ [q] ++ Y) (T := 95) (l := some (cp6, rest6)) 100063 (X ++ [q] ++ Y).length (fun a ha => (hok32 a ha).1) rfl rfl hl6' (by simp) (fun b7 ad7 cap7 B4 hB4 hfz7 hC7 hcap7 => A2 1000 ?_)
     change BExt B2 B4 at hB4
     simp only [A5, frz, ↓reduceIte, EV.raw.injEq, Value.slice.injEq, true_and] at hfz7
     obtain ⟨rfl, rfl⟩ := hfz7
     repeat' (simp (maxSteps := 4000000) (disch := omega) only [go_sem, ↓reduceIte])
     have hsu2 : (X ++ [q] ++ Y).map Nv.nd = Co0 (L.take (i + 1)) := by
      rw [hsu, List.map_append, List.map_append, hX, hY, List.map_take, List.map_drop, ← hM]; rfl
     exact ⟨(i + 1, some ⟨b7, 0, none⟩, cp6, X ++ [q] ++ Y, B4), ⟨hi2, ⟨hC7, fun a ha => ⟨(hok32 a ha).1, (hok32 a ha).2.ext hB4⟩, by rw [← hnl]; omega⟩, hcap7, by rw [← hnl]; simp only; omega, hsu2, hB2.trans hB4⟩, Weak.sub (A6 (by simp [wσ, go_sem, closed, A0, A4, frz, Ac8] <;> omega) (by simp [whs, Go.Ew.hget, go_sem, EObj.closed, closed, A0, A4, frz, Ac8]) (by first | (simp [*]; done) | (simp only [cxG]; omega)) rfl rfl (by simp)), by simp only; omega⟩
  ·have cB : decide ((k : Int) < (os.length : Int)) = false := decide_eq_false (by omega)
   have hka : k = atM M q.h := by omega
   repeat' (first | simp (maxSteps := 4000000) (disch := omega) only [go_sem, ↓reduceIte, cB, Int.toNat_natCast] | with_reducible refine C8 (id := 6) [0, 1, 2, 3, 4, 5, 6, 7, 8, 9, 10, 11, 12, 13, 14, 15, 16, 17, 18] mixed (by kernel_rfl) (by simp) (fun hin => D7 1000 hin ?_))
   refine E1 (by kernel_rfl) (C4 (by kernel_rfl)) (L2 [] 0 (by simp) (by simp) (by simp) (by simp) (A2 1000 ?_))
   repeat' (first | simp (maxSteps := 4000000) (disch := omega) only [go_sem, ↓reduceIte, okC, okE, P3, E4, cB, Int.toNat_natCast] | with_reducible refine C8 (id := 8) [0, 1, 2, 3, 4, 5, 6, 7, 8, 9, 10, 11, 12, 13, 14, 15, 16] mixed (by kernel_rfl) (by simp) (fun hin => D7 1000 hin ?_) | with_reducible refine A2 1000 ?_)
   refine E1 (by kernel_rfl) (C4 (by kernel_rfl)) (L2 [] 0 (by simp) (by simp) (by simp) (by simp) (A2 1000 ?_))
   obtain ⟨fq, hfq⟩ : ∃ fq : Nat → Int, fq = fun j => ((q.h.getD j 0).toNat : Int) := ⟨_, rfl⟩
   have hqE : q.E = (D5 .u8 fq 32 ++ [EV.raw (.slice q.b.ad q.b.l.length q.b.c)]) := by rw [Nv.E, Bg1 hqok.1, hfq]; rfl
   have hqE1 : G2 (D5 .u8 fq 32 ++ [EV.raw (.slice q.b.ad q.b.l.length q.b.c)]) = true := by rw [← hqE]; exact Z5 q
   have hqE33 : (D5 .u8 fq 32 ++ [EV.raw (.slice q.b.ad q.b.l.length q.b.c)]).length = 33 := by simp [D5]
   have hqc : ∀ n, A0 n (D5 .u8 fq 32 ++ [EV.raw (.slice q.b.ad q.b.l.length q.b.c)]) := fun n => by rw [← hqE]; exact V7 n q
   have hqs : H5 [EV.int IntKind.u8 0, EV.int IntKind.u8 0, EV.int IntKind.u8 0, EV.int IntKind.u8 0, EV.int IntKind.u8 0, EV.int IntKind.u8 0, EV.int IntKind.u8 0, EV.int IntKind.u8 0, EV.int IntKind.u8 0, EV.int IntKind.u8 0, EV.int IntKind.u8 0, EV.int IntKind.u8 0, EV.int IntKind.u8 0, EV.int IntKind.u8 0, EV.int IntKind.u8 0, EV.int IntKind.u8 0, EV.int IntKind.u8 0, EV.int IntKind.u8 0, EV.int IntKind.u8 0, EV.int IntKind.u8 0, EV.int IntKind.u8 0, EV.int IntKind.u8 0, EV.int IntKind.u8 0, EV.int IntKind.u8 0, EV.int IntKind.u8 0, EV.int IntKind.u8 0, EV.int IntKind.u8 0, EV.int IntKind.u8 0, EV.int IntKind.u8 0, EV.int IntKind.u8 0, EV.int IntKind.u8 0, EV.int IntKind.u8 0, EV.raw (Value.slice none 0 0)] 0 (D5 .u8 fq 32 ++ [EV.raw (.slice q.b.ad q.b.l.length q.b.c)]) = (D5 .u8 fq 32 ++ [EV.raw (.slice q.b.ad q.b.l.length q.b.c)]) := by rfl
   have hqa : avs 100058 (D5 .u8 fq 32 ++ [EV.raw (.slice q.b.ad q.b.l.length q.b.c)]) := K3 _ (hqc 0)
   rw [hqE] at l1
   have hisf : isM M q.h = false := by rw [isM, ← hka, List.getElem?_eq_none (by omega)]
   rw [hisf, if_neg (by simp), ← hka] at hsu
   have hko : k ≤ os.length := by omega
   obtain ⟨Y, hY⟩ : ∃ Y, Y = os.drop k := ⟨_, rfl⟩
   have hYl : Y.length = os.length - k := by rw [hY, List.length_drop]
   have hYp : NvsAt B2 (if oc = k then oA else oA.map (·.add (k * 33))) Y := by
    have h1 := hos.drop k
    rw [← hY] at h1
    split
    ·have e : Y = [] := List.length_eq_zero_iff.1 (by omega)
     rw [e]; exact ⟨T3 _ _, fun p hp => by simp at hp, by simp⟩
    ·exact h1
   obtain ⟨X, hX⟩ : ∃ X, X = os.take k := ⟨_, rfl⟩
   have hXl : X.length = k := by rw [hX, List.length_take]; omega
   have hXp : NvsAt B2 oA X := by rw [hX]; exact hos.take k
   have g1 : (if oc = 0 then oA else Option.map (fun x => x) oA) = oA := by split <;> simp
   have g2 : (if k = 0 then oA else Option.map (fun x => x) oA) = oA := by split <;> simp
   repeat' (first | with_reducible refine And.intro (by first | omega | (constructor <;> assumption) | (simp; omega) | (simp [*]; done)) ?_ | simp (maxSteps := 4000000) (disch := omega) only [go_sem, ↓reduceIte, Int.toNat_natCast, l1, hqE1, hqE33, hqs, g1, g2, Nat.sub_zero] | with_reducible refine C8 (id := 9) [0, 1, 2, 3, 4, 5, 6, 7, 8, 9, 10, 11, 12, 13, 14] mixed (by kernel_rfl) (by simp) (fun hin => D7 1000 hin ?_))
   refine Bb8 (c := True) (zs := zN) (l := some (1, [])) (xs := (D5 .u8 fq 32 ++ [EV.raw (.slice q.b.ad q.b.l.length q.b.c)])) (m := os.length - k) (news := Y.flatMap Nv.E) (T := 95) 62 100058 1 [] rfl rfl Try.underlying50 (.inl ⟨_, Try.underlying50⟩) Cl9 Cs4 (by simp [zN]) C9 rfl rfl (by rfl) ⟨Nat.le_refl _, by simp only [maxLen]; omega, rfl, by simp⟩ (by rw [hqE33]; rfl) (hqc 0) (fun B hs hB hfb => (hYp.ext hB).src _ _ hYl hs) (by
    have : ∀ l : List Nv, G2 (l.flatMap Nv.E) = true := fun l => by
     induction l with
     | nil => rfl
     | cons a l ih => rw [List.flatMap_cons, J2, Z5, ih]; rfl
    exact this Y) (E3 0 _) (by simp only [maxLen]; omega) (by rw [show Try.prog.bytesOf 95 = 56 from Ct8]; omega) (by simp [cxG]) (by kernel_rfl) (F6 (by kernel_rfl) (C4 (by kernel_rfl))) (fun l5 hl5 => D7 1000 (by assumption) ?_)
   have hl5' := hl5
   have hE5 := L6 (T := 95) hl5 (closeds_append.2 ⟨hqc 0, E3 0 Y⟩) C9
   obtain ⟨cp5, rest5, rfl, -⟩ := D8 hl5 (by omega)
   simp only [A5]
   repeat' (simp (maxSteps := 4000000) (disch := omega) only [go_sem, ↓reduceIte])
   have hXc : (X.flatMap Nv.C).length = k * zN.length := by rw [Ai2 fun q hq => (hXp.ok q hq).1, hXl]; rfl
   have hlen5 : ((D5 .u8 fq 32 ++ [EV.raw (.slice q.b.ad q.b.l.length q.b.c)]) ++ Y.flatMap Nv.E).length = (1 + (os.length - k)) * 33 := by
    rw [List.length_append, hqE33, X5 fun q hq => (hYp.ok q hq).1, hYl]; omega
   refine Bu1 (zs := zN) (cs := X.flatMap Nv.C) (m := 1 + (os.length - k)) (news := (D5 .u8 fq 32 ++ [EV.raw (.slice q.b.ad q.b.l.length q.b.c)]) ++ Y.flatMap Nv.E) (T := 95) 63 k [100062] rfl rfl Try.underlying50 (.inl ⟨_, Try.underlying50⟩) Cl9 Cs4 (by simp [zN]) C9 rfl rfl hXp.c hXc (fun B hs hB hfb => ⟨_, F3 (by rw [hfb 100062 (by simp)]; rfl) (by
    rw [List.drop_zero, show (1 + (os.length - k)) * zN.length = ((D5 .u8 fq 32 ++ [EV.raw (.slice q.b.ad q.b.l.length q.b.c)]) ++ Y.flatMap Nv.E).length from hlen5.symm, List.take_left]), by
    rw [List.length_append, hlen5, show zN.length = 33 from rfl]; omega⟩) (by
    have : ∀ l : List Nv, G2 (l.flatMap Nv.E) = true := fun l => by
     induction l with
     | nil => rfl
     | cons a l ih => rw [List.flatMap_cons, J2, Z5, ih]; rfl
    rw [J2, hqE1, this Y]; rfl) (closeds_append.2 ⟨hqc 0, E3 0 _⟩) (by omega) (by simp only [maxLen]; omega) (by rw [show Try.prog.bytesOf 95 = 56 from Ct8]; omega) (by simp [cxG]) (by kernel_rfl) (F6 (by kernel_rfl) ((J4 [100062, 100063] (by kernel_rfl) (by with_unfolding_all (repeat' (first | exact True.intro | exact H1 | exact hE5 | refine And.intro ?_ ?_)))))) (fun l6 hl6 => D7 1000 (by assumption) ?_)
   have hl6' := hl6
   have hev : (X.flatMap Nv.C).map D9 ++ ((D5 .u8 fq 32 ++ [EV.raw (.slice q.b.ad q.b.l.length q.b.c)]) ++ Y.flatMap Nv.E) = (X ++ [q] ++ Y).flatMap Nv.E := by
    rw [Be9, ← hqE, List.flatMap_append, List.flatMap_append, List.flatMap_singleton, List.append_assoc]
   rw [hev]
   have hE6 := L6 (T := 95) hl6 (E3 0 (X ++ [q] ++ Y)) C9
   obtain ⟨cp6, rest6, rfl, -⟩ := D8 hl6 (by omega)
   simp only [A5]
   repeat' (simp (maxSteps := 4000000) (disch := omega) only [go_sem, ↓reduceIte])
   refine E1 (by kernel_rfl) ((J4 [100062, 100063] (by kernel_rfl) (by with_unfolding_all (repeat' (first | exact True.intro | exact H1 | exact hE5 | exact hE6 | refine And.intro ?_ ?_))))) ?_
   have hnl : k + (1 + (os.length - k)) = (X ++ [q] ++ Y).length := by rw [List.length_append, List.length_append, hXl, hYl]; simp; omega
   rw [hnl] at hl6' ⊢
   have hok32 : ∀ a ∈ X ++ [q] ++ Y, a.h.length = 32 ∧ a.b.Ok B2 := fun a ha => by
    rcases List.mem_append.1 ha with h3 | h3
    ·rcases List.mem_append.1 h3 with h3 | h3
     ·exact hXp.ok a h3
     ·obtain rfl := List.mem_singleton.1 h3; exact hqok
    ·exact hYp.ok a h3
   refine Ch0 (xs := X ++ [q] ++ Y) (T := 95) (l := some (cp6, rest6)) 100063 (X ++ [q] ++ Y).length (fun a ha => (hok32 a ha).1) rfl rfl hl6' (by simp) (fun b7 ad7 cap7 B4 hB4 hfz7 hC7 hcap7 => A2 1000 ?_)
   change BExt B2 B4 at hB4
   simp only [A5, frz, ↓reduceIte, EV.raw.injEq, Value.slice.injEq, true_and] at hfz7
   obtain ⟨rfl, rfl⟩ := hfz7
   repeat' (simp (maxSteps := 4000000) (disch := omega) only [go_sem, ↓reduceIte])
   have hsu2 : (X ++ [q] ++ Y).map Nv.nd = Co0 (L.take (i + 1)) := by
    rw [hsu, List.map_append, List.map_append, hX, hY, List.map_take, List.map_drop, ← hM]; rfl
   exact ⟨(i + 1, some ⟨b7, 0, none⟩, cp6, X ++ [q] ++ Y, B4), ⟨hi2, ⟨hC7, fun a ha => ⟨(hok32 a ha).1, (hok32 a ha).2.ext hB4⟩, by rw [← hnl]; omega⟩, hcap7, by rw [← hnl]; simp only; omega, hsu2, hB2.trans hB4⟩, Weak.sub (A6 (by simp [wσ, go_sem, closed, A0, A4, frz, Ac8] <;> omega) (by simp [whs, Go.Ew.hget, go_sem, EObj.closed, closed, A0, A4, frz, Ac8]) (by first | (simp [*]; done) | (simp only [cxG]; omega)) rfl rfl (by simp)), by simp only; omega⟩
 ·obtain rfl : i = ns.length := by omega
  have cA : decide ((ns.length : Int) < (ns.length : Int)) = false := decide_eq_false (by omega)
  rw [List.take_of_length_le (by rw [hL, List.length_map]; omega)] at hod
  repeat' (first | with_reducible refine And.intro (by omega) ?_ | simp (maxSteps := 4000000) (disch := omega) only [go_sem, ↓reduceIte, cA] | with_reducible refine A2 1000 ?_)
  first | exact ⟨hB2, (oA, oc, os), rfl, by simp [closed, A0], ⟨hos, hoc, hod⟩⟩ | exact ⟨(oA, oc, os), rfl, by simp [closed, A0], ⟨hos, hoc, hod⟩⟩ | exact ⟨hB2, (oA, oc, os), by simp [closed, A0], ⟨hos, hoc, hod⟩⟩ | exact ⟨(oA, oc, os), by simp [closed, A0], ⟨hos, hoc, hod⟩⟩ | exact ⟨hB2, (oA, oc, os), by simp [closed, A0, E5]⟩ | exact ⟨(oA, oc, os), by simp [closed, A0, E5]⟩
end Go.Proofs.Ytncjbfkkgdepoaa
