/- Part of a proof over the seat YtepabkjfnpaijaaGreat. -/
import Derived.Test.YtepabkjfnpaijaaGreatG05
import Derived.Test.YtepabkjfnpaijaaGreatEng2
set_option linter.unusedSimpArgs false
set_option linter.unusedVariables false
set_option maxRecDepth 100000
namespace Go.Proofs.YtepabkjfnpaijaaGreat
open Go RowKit Go.Ew
set_option maxHeartbeats 4000000
theorem Cp8 {B : Base} {ad : Option Addr} {l : List UInt8} (h : BytesAt B ad l) {o n : Nat} (hn : o + n ≤ l.length) (h0 : 0 < n) :
  L2 B (G9 ad o) n = ((l.drop o).take n).map bE ∧ B.D (adr ad).block ∧ Ad3 B (G9 ad o) n ∧ ad.isSome = true := by
 have e : ∀ j, (G9 ad o).add j = G9 ad (o + j) := fun j => by unfold G9; rw [X0]
 refine ⟨?_, h.lD (by omega), fun j hj => by rw [e]; exact h.lS _ (by omega), h.ok.so (by omega)⟩
 unfold L2
 apply List.ext_getElem
 ·simp; omega
 ·intro j h1 h2
  simp only [List.length_map, List.length_range] at h1
  simp only [List.getElem_map, List.getElem_range, e, List.getElem_take, List.getElem_drop]
  rw [h.ld _ (by omega), List.getD_eq_getElem?_getD, List.getElem?_eq_getElem (by omega)]; rfl
theorem Ao5 (l : List UInt8) : F7 (l.map bE) = true := by
 induction l with
 | nil => rfl
 | cons a l ih => simp only [List.map_cons, F7, Bool.and_eq_true]; exact ⟨rfl, ih⟩
theorem J6 {l : List UInt8} {n : Nat} (h : l.length = n) (h2 : 1 < n) (f : Nat → Int) : I3 (D4 .u8 f n) 0 (l.map bE) = l.map bE :=
 Ak5 (by simp [P0, h]) (by simp; omega)
theorem Cr4 {l : List UInt8} {n : Nat} (h : l.length = n) : ((l.map bE).drop 0).take n = l.map bE := by
 rw [List.drop_zero, List.take_of_length_le (by simp; omega)]
theorem Ck3 {ad : List UInt8} {u v : EV} (h : ad.length = 20) : ((T7 ad u v).drop 0).take 20 = ad.map bE := by
 rw [List.drop_zero, T7, List.take_append_of_le_length (by simp; omega), List.take_of_length_le (by simp; omega)]
/-- A log's topics, and all its texts. -/
def LogV.top (g : LogV) (k : Nat) : List UInt8 := (g.tp.drop (32 * k)).take 32
def LogV.tops (g : LogV) : List (List UInt8) := (List.range g.tn).map g.top
def LogV.marks (g : LogV) : List (List UInt8) := g.ad :: g.tops
def G7 (L : List LogV) : List (List UInt8) := L.flatMap LogV.marks
theorem Ar0 {B : Base} {g : LogV} (h : g.Ok B) {k : Nat} (hk : k < g.tn) : (g.top k).length = 32 := by
 have := h.ht
 simp [LogV.top]; omega
theorem L1 (g : LogV) : g.tops.length = g.tn := by simp [LogV.tops]
theorem Ap4 {g : LogV} {k : Nat} (hk : k < g.tn) : g.tops[k]'(by rw [L1]; exact hk) = g.top k := by simp [LogV.tops]
theorem Ag6 (F : Blm) (ps qs : List (List UInt8)) : Ak2 F (ps ++ qs) = Ak2 (Ak2 F ps) qs := List.foldl_append
theorem Bz6 (F : Blm) (p : List UInt8) : Ak2 F [p] = Bb1 F p := rfl
theorem Cr8 {F : Blm} {g : LogV} {k : Nat} (hk : k < g.tn) : Bb1 (Ak2 F (g.tops.take k)) (g.top k) = Ak2 F (g.tops.take (k + 1)) := by
 rw [List.take_succ_eq_append_getElem (by rw [L1]; exact hk), Ag6, Ap4 hk, Bz6]
theorem Cr9 {F : Blm} {L : List LogV} {i : Nat} (hi : i < L.length) : Ak2 (Bb1 (Ak2 F (G7 (L.take i))) L[i].ad) L[i].tops = Ak2 F (G7 (L.take (i + 1))) := by
 rw [List.take_succ_eq_append_getElem hi, G7, G7, List.flatMap_append, Ag6]
 simp only [List.flatMap_cons, List.flatMap_nil, List.append_nil, LogV.marks]
 rfl
theorem LogV.Ok.ldT {B : Base} {g : LogV} (h : g.Ok B) {k : Nat} (hk : k < g.tn) :
  L2 B (G9 g.tA (k * 32)) 32 = (g.top k).map bE ∧ B.D (adr g.tA).block ∧ Ad3 B (G9 g.tA (k * 32)) 32 ∧ g.tA.isSome = true := by
 have := h.ht
 have := Cp8 h.tB (o := k * 32) (n := 32) (by omega) (by omega)
 rwa [Nat.mul_comm k 32] at this ⊢
theorem Cw9 (L : List LogV) (n : Nat) (B : Base) (ad : Option Addr) (cap : Nat) (h : LogsAt B ad L) (hn : L.length = n) :
  Does Tryz.prog 46 [.raw (.slice ad n cap)] B (fun _ : Unit => .agg (D4 .u8 (fB (Ak2 zB (G7 L))) 256)) (fun _ _ => True) := by
 refine I7 Eq0 (fun s B B' hB hR => hR) Tryz.func46 rfl Ej1 (by simp [Tryz.f46]) (by simp [A0, closed, A2]) (fun B0 hB0 => A3 1000 ?_)
 replace h := h.ext hB0
 subst hn
 repeat' (simp (maxSteps := 4000000) (disch := omega) only [go_sem, ↓reduceIte, Tryz.f46])
 refine G8 (S := Nat) (fun i => i ≤ L.length)
  (fun i => ⟨[(10, .int .i64 (i : Nat)), (9, .int .i64 (L.length : Nat)), (8, .raw (.slice ad L.length cap)), (3, .ptr 1 0), (2, .ptr 0 0)], 2, [(1, some (.cells (D4 .u8 (fB (Ak2 zB (G7 (L.take i)))) 256) 26 (0, 0))), (0, some (.cells (D4 .u8 (fun _ => 0) 256) 26 (0, 0)))], B0, []⟩)
  (fun i => L.length - i) 0 (by simp) (Weak.sub (A5 (by simp [wσ, go_sem, closed, A0, A4, A2, G7, Ak2, Ct2] <;> omega) (by simp [whs, Go.Ew.hget, go_sem, EObj.closed, closed, A0, A4, A2, G7, Ak2, Ct2]) (by simp [*]) rfl rfl (by simp))) ?_
 intro i hi
 have hlen := h.len
 refine A3 1000 ?_
 simp (maxSteps := 4000000) (disch := omega) only [go_sem, ↓reduceIte]
 repeat (with_reducible refine And.intro (by omega) ?_)
 refine A8 (fun h2 => ?_) (fun h2 => ?_)
 all_goals (try simp only [bne_iff_ne, ne_eq, beq_iff_eq, decide_eq_true_eq, decide_eq_false_iff_not, Bool.not_eq_true, Bool.not_eq_false, Bool.not_true, Bool.not_false, bne_eq_false_iff_eq, beq_eq_false_iff_ne, Bool.and_eq_true, Bool.or_eq_true, Bool.and_eq_false_imp, Bool.or_eq_false_iff, Bool.not_eq_true', Bool.not_eq_false', Int.not_lt, Int.not_le] at h2)
 ·have hi2 : i < L.length := by omega
  obtain ⟨l1, l2, l3, l4⟩ := h.ld hi2
  have h1 := h.ok _ (List.getElem_mem hi2)
  have e1 := Cr9 (F := zB) hi2
  obtain ⟨g, hg⟩ : ∃ g, g = L[i] := ⟨_, rfl⟩
  rw [← hg] at l1 h1 e1
  have ht := h1.tb
  have f1 : F7 g.ev = true := Aa0 rfl rfl
  have f2 : ∀ u v, (T7 g.ad u v).length = 22 := fun u v => Q4 h1.ha
  have f3 : ∀ u v d, (T7 g.ad u v).getD 20 d = u := fun u v d => Af7 h1.ha
  have f4 : ∀ u v d, (T7 g.ad u v).getD 21 d = v := fun u v d => As6 h1.ha
  obtain ⟨F, hF⟩ : ∃ F, F = Ak2 zB (G7 (L.take i)) := ⟨_, rfl⟩
  rw [← hF] at e1 ⊢
  repeat' (first | with_reducible refine And.intro (by first | omega | (constructor <;> assumption) | (simp; done) | (simp [*]; done)) ?_ | simp (maxSteps := 4000000) (disch := omega) only [go_sem, ↓reduceIte, Int.toNat_natCast, l1, f1, f2, f3, f4, I4 h1.ha] | with_reducible refine C9 (id := 5) [0, 1, 2, 3, 4] mixed (by kernel_rfl) (by simp) (fun hin => C8 1000 hin ?_) | with_reducible refine D7 (by kernel_rfl) (C1 (by kernel_rfl)) (A3 1000 ?_) | refine Bx9 2 0 20 20 [.agg (D4 .u8 (fB F) 256)] g.ad Dy4 (by simp [A0, closed, A2]) rfl rfl (Ck3 h1.ha) (by simp [closed, A2]) (fun B ad cap hb => Ce9 F g.ad 20 B ad cap hb h1.ha (by omega)) (by kernel_rfl) (F1 (by kernel_rfl) (C1 (by kernel_rfl))) (fun hin => C8 1000 hin ?_))
  refine G8 (S := Nat) (fun k => k ≤ g.tn)
   (fun k => ⟨[(21, .int .i64 (k : Nat)), (20, .int .i64 (g.tn : Nat)), (19, .raw (.slice g.tA g.tn g.tc)), (10, .int .i64 (i : Nat)), (9, .int .i64 (L.length : Nat)), (8, .raw (.slice ad L.length cap)), (3, .ptr 1 0), (2, .ptr 0 0)], 2, [(1, some (.cells (D4 .u8 (fB (Ak2 (Bb1 F g.ad) (g.tops.take k))) 256) 26 (0, 0))), (0, some (.cells (D4 .u8 (fun _ => 0) 256) 26 (0, 0)))], B0, []⟩)
   (fun k => g.tn - k) 0 (by simp) (Weak.sub (A5 (by simp [wσ, go_sem, closed, A0, A4, A2, Ak2] <;> omega) (by simp [whs, Go.Ew.hget, go_sem, EObj.closed, closed, A0, A4, A2, Ak2]) (by simp [*]) rfl rfl (by simp))) ?_
  intro k hk
  refine A3 1000 ?_
  simp (maxSteps := 4000000) (disch := omega) only [go_sem, ↓reduceIte]
  repeat (with_reducible refine And.intro (by omega) ?_)
  refine A8 (fun h3 => ?_) (fun h3 => ?_)
  all_goals (try simp only [bne_iff_ne, ne_eq, beq_iff_eq, decide_eq_true_eq, decide_eq_false_iff_not, Bool.not_eq_true, Bool.not_eq_false, Bool.not_true, Bool.not_false, bne_eq_false_iff_eq, beq_eq_false_iff_ne, Bool.and_eq_true, Bool.or_eq_true, Bool.and_eq_false_imp, Bool.or_eq_false_iff, Bool.not_eq_true', Bool.not_eq_false', Int.not_lt, Int.not_le] at h3)
  ·have hk2 : k < g.tn := by omega
   obtain ⟨m1, m2, m3, m4⟩ := h1.ldT hk2
   have e2 := Cr8 (F := Bb1 F g.ad) hk2
   have hq := Ar0 h1 hk2
   obtain ⟨q, hq0⟩ : ∃ q, q = g.top k := ⟨_, rfl⟩
   rw [← hq0] at m1 e2 hq
   obtain ⟨G, hG⟩ : ∃ G, G = Ak2 (Bb1 F g.ad) (g.tops.take k) := ⟨_, rfl⟩
   rw [← hG] at e2 ⊢
   have q1 := Ao5 q
   repeat' (first | with_reducible refine And.intro (by first | omega | (constructor <;> assumption) | (simp; done) | ((repeat' refine And.intro ?_ ?_) <;> first | omega | assumption | (refine SlOk.so (n := ?_) ?_ ?_; rotate_left; assumption; omega) | (simp; done) | fail)) ?_ | simp (maxSteps := 4000000) (disch := omega) only [go_sem, ↓reduceIte, Int.toNat_natCast, m1, q1, List.length_map, hq, J6 hq] | with_reducible refine C9 (id := 9) [0, 1, 2, 3] mixed (by kernel_rfl) (by simp) (fun hin => C8 1000 hin ?_) | with_reducible refine D7 (by kernel_rfl) (C1 (by kernel_rfl)) (A3 1000 ?_) | refine Bx9 2 0 32 32 [.agg (D4 .u8 (fB G) 256)] q Dy4 (by simp [A0, closed, A2]) rfl rfl (Cr4 hq) (by simp [closed, A2]) (fun B ad cap hb => Ce9 G q 32 B ad cap hb hq (by omega)) (by kernel_rfl) (F1 (by kernel_rfl) (C1 (by kernel_rfl))) (fun hin => C8 1000 hin ?_))
   exact ⟨k + 1, hk2, Weak.sub (A5 (by simp [wσ, go_sem, closed, A0, A4, A2, e2] <;> omega) (by simp [whs, Go.Ew.hget, go_sem, EObj.closed, closed, A0, A4, A2, e2]) (by simp [*]) rfl rfl (by simp)), by omega⟩
  ·obtain rfl : k = g.tn := by omega
   repeat' (first | simp (maxSteps := 4000000) (disch := omega) only [go_sem, ↓reduceIte] | with_reducible refine A3 1000 ?_)
   exact ⟨i + 1, hi2, Weak.sub (A5 (by simp [wσ, go_sem, closed, A0, A4, A2, ← e1, List.take_of_length_le (Nat.le_of_eq (L1 g))] <;> omega) (by simp [whs, Go.Ew.hget, go_sem, EObj.closed, closed, A0, A4, A2, ← e1, List.take_of_length_le (Nat.le_of_eq (L1 g))]) (by simp [*]) rfl rfl (by simp)), by omega⟩
 ·obtain rfl : i = L.length := by omega
  repeat' (first | simp (maxSteps := 4000000) (disch := omega) only [go_sem, ↓reduceIte, List.take_length] | with_reducible refine A3 1000 ?_)
  exact ⟨BExt.refl _, (), A2 _ _ _ _⟩
end Go.Proofs.YtepabkjfnpaijaaGreat
namespace Go.Proofs.YtepabkjfnpaijaaGreat
open Go RowKit Go.Ew
set_option maxHeartbeats 4000000
theorem Bi9 (l : List UInt8) : (l.map bV).map D6 = l.map bE := by
 simp [bV, bE, D6, Function.comp_def]
theorem Bp2 (ad : List UInt8) (u v : EV) : F7 (T7 ad u v) = (u.one && v.one) := by
 induction ad with
 | nil => simp [T7, F7]
 | cons a l ih => simp only [T7, List.map_cons, List.cons_append, F7] at ih ⊢; rw [ih]; rfl
end Go.Proofs.YtepabkjfnpaijaaGreat
namespace Go.Proofs.YtepabkjfnpaijaaGreat
open Go RowKit Go.Ew
set_option maxHeartbeats 4000000
theorem El5 : D5 Tryz.f20.ntmps (Tryz.f20.body.getD .skip) = true := by kernel_rfl
theorem Ej8 : D5 Tryz.f38.ntmps (Tryz.f38.body.getD .skip) = true := by kernel_rfl
theorem in9 : D5 Tryz.f9.ntmps (Tryz.f9.body.getD .skip) = true := by kernel_rfl
/-- Bytes of a block of one's own, seen from outside. -/
theorem Bi5 {C : Cx} {B : Base} {n : Nat} {hs : List (Nat × Option EObj)} {bs : Nat → Nat} {w : World} (hh : HRel C B n hs bs w) {j off m : Nat} {cs : List EV} {T : TypeId} {fr : Nat × Nat} {xs : List UInt8}
  (hg : hget hs j = some (.cells cs T fr)) (hcs : (cs.drop off).take m = xs.map bE) (D : Nat → Prop) (hD : D (bs j)) : BytesAt ⟨w, D⟩ (some ⟨bs j, off, none⟩) xs := by
 have hlive := (hh.live j _ hg).2
 simp only [EObj.real] at hlive
 refine ⟨?_, fun _ => rfl, fun i hi => ?_⟩
 ·intro a ha _
  cases ha
  exact hD
 ·have e : G9 (some (⟨bs j, off, none⟩ : Addr)) i = ⟨bs j, off + i, none⟩ := by
   rw [E9]
   unfold Addr.add
   split
   ·rename_i h0; subst h0; rfl
   ·simp
  have hi' : i < xs.length := by simpa using hi
  have e3 : cs[off + i]? = (xs.map bE)[i]? := by
   have h3 := congrArg (fun l => l[i]?) hcs
   simp only [List.getElem?_take, List.getElem?_drop] at h3
   split at h3
   ·exact h3
   ·rw [List.getElem?_eq_getElem (by simpa using hi')] at h3; cases h3
  rw [e, Ae2 hlive, List.getElem?_toArray, C4, List.getElem?_map, e3, ← List.getElem?_map, ← C4, Ah8]
theorem Bp9 (a : Option Addr) (n m : Nat) (w : World) : Calls Tryz.prog 20 #[.slice a n m] w (Dn8 (.fn (.func 38) [] [.ptr 0 0]) [.cells [.raw (.slice a n m)] 27 (0, 0)] w) := by
 refine As3 _ _ [.raw (.slice a n m)] Tryz.func20 rfl El5 (by simp [Tryz.f20]) (by simp [A0, closed]) ?_
 refine A3 1000 ?_
 simp (maxSteps := 4000000) (disch := omega) only [go_sem, ↓reduceIte, Tryz.f20, Value.oneCell']
 repeat (with_reducible refine And.intro (by fail) ?_)
 rintro (_ | i) o h <;> simp_all [hget]
def Ec4 (a : Option Addr × Nat × Nat) : Array Value := #[.slice a.1 a.2.1 a.2.2]
def elM (ms : List (List UInt8)) (k : Nat) (a : Option Addr × Nat × Nat) (D : Nat → Prop) (w : World) : Prop :=
 ∃ m, ms[k]? = some m ∧ m.length = a.2.1 ∧ BytesAt ⟨w, fun b => b < w.heap.size ∧ ¬ D b⟩ a.1 m
theorem Cb7 (L : List LogV) {i k : Nat} (hi : i < L.length) (hk : k < L[i].tn) : (G7 L)[(G7 (L.take i)).length + 1 + k]? = some (L[i].top k) := by
 have e : L = L.take i ++ L[i] :: L.drop (i + 1) := by rw [← List.drop_eq_getElem_cons hi, List.take_append_drop]
 have h2 : G7 L = G7 (L.take i) ++ (L[i].marks ++ G7 (L.drop (i + 1))) := by
  conv => lhs; rw [e]
  simp only [G7, List.flatMap_append, List.flatMap_cons]
 rw [h2, List.getElem?_append_right (by omega), show (G7 (L.take i)).length + 1 + k - (G7 (L.take i)).length = k + 1 by omega, LogV.marks, List.cons_append, List.getElem?_cons_succ, List.getElem?_append_left (by rw [L1]; exact hk),
  List.getElem?_eq_getElem (by rw [L1]; exact hk), Ap4 hk]
theorem Cy4 (L : List LogV) {i : Nat} (hi : i < L.length) : (G7 L)[(G7 (L.take i)).length]? = some L[i].ad := by
 have e : L = L.take i ++ L[i] :: L.drop (i + 1) := by rw [← List.drop_eq_getElem_cons hi, List.take_append_drop]
 have h2 : G7 L = G7 (L.take i) ++ (L[i].marks ++ G7 (L.drop (i + 1))) := by
  conv => lhs; rw [e]
  simp only [G7, List.flatMap_append, List.flatMap_cons]
 rw [h2, List.getElem?_append_right (by omega), Nat.sub_self]
 rfl
theorem Cj9 (L : List LogV) {i : Nat} (hi : i < L.length) : (G7 (L.take (i + 1))).length = (G7 (L.take i)).length + 1 + L[i].tn := by
 rw [List.take_succ_eq_append_getElem hi, G7, List.flatMap_append, List.length_append]
 simp only [List.flatMap_cons, List.flatMap_nil, List.append_nil, LogV.marks, List.length_cons, L1, G7]
 omega
/-- marks$1 runs over the texts. -/
theorem Bq0 (W : World) (L : List LogV) (p cap : Nat) (ad : Option Addr) (DB : Nat → Prop) (hDB : ∀ b, DB b → b < W.heap.size) (hp : W.cell? ⟨p, 0, none⟩ = some (.slice ad L.length cap)) (hL : LogsAt ⟨W, DB⟩ ad L)
  (Rd : Nat → Prop) (hRp : Rd p) (hRB : ∀ b, DB b → Rd b) (hRW : ∀ b, Rd b → b < W.heap.size) :
  Bn1 Tryz.prog 38 (fun y => (C5 (fun _ => 0) [.raw y, .raw (.pointer (some ⟨p, 0, none⟩))]).toArray) W Rd (G7 L).length Ec4 (elM (G7 L)) := by
 refine Cl2 (fun y => [.raw y, .raw (.pointer (some ⟨p, 0, none⟩))]) Tryz.func38 rfl Ej8 (fun y => by simp [Tryz.f38]) (fun y => by simp [A0, closed]) ?_
 intro l J Jx hJ hJx hR h0 hB
 have hDp : p < W.heap.size := hRW p hRp
 have hX : ∀ B', ItB W Rd B' → BExt ⟨W, DB⟩ B' := fun B' h => ⟨fun b hb => h.D b (hDB b hb), fun b hb => h.rd b (hRB b hb), h.size, h.os, h.tape, h.output⟩
 have hlen := hL.len
 refine A3 1000 ?_
 simp (maxSteps := 4000000) (disch := omega) only [go_sem, ↓reduceIte, Tryz.f38, Value.oneCell', hp, H2, Option.getD_some]
 repeat (with_reducible refine And.intro (by omega) ?_)
 refine G8 (S := Nat × Base) (fun s => ItB W Rd s.2 ∧ s.1 ≤ L.length ∧ J (G7 (L.take s.1)).length s.2.D s.2.w)
  (fun s => ⟨[(9, .int .i64 (s.1 : Nat)), (8, .int .i64 (L.length : Nat)), (7, .raw (.slice ad L.length cap)), (0, .raw (.func (.yield l) #[] #[]))], 0, [], s.2, []⟩) (fun s => L.length - s.1) (0, base W) ⟨hB, Nat.zero_le _, h0⟩ (Weak.sub (A5 (by simp [wσ, go_sem, closed, A0, A4] <;> omega) (by simp [whs, Go.Ew.hget, go_sem, EObj.closed, closed, A0, A4]) (by simp [*]) rfl rfl (by simp))) ?_
 rintro ⟨i, B⟩ ⟨hI, hi, hJi⟩
 simp only at hI hi hJi ⊢
 have h := hL.ext (hX _ hI)
 refine A3 1000 ?_
 simp (maxSteps := 4000000) (disch := omega) only [go_sem, ↓reduceIte]
 repeat (with_reducible refine And.intro (by omega) ?_)
 refine A8 (fun h2 => ?_) (fun h2 => ?_)
 all_goals (try simp only [bne_iff_ne, ne_eq, beq_iff_eq, decide_eq_true_eq, decide_eq_false_iff_not, Bool.not_eq_true, Bool.not_eq_false, Bool.not_true, Bool.not_false, bne_eq_false_iff_eq, beq_eq_false_iff_ne, Bool.and_eq_true, Bool.or_eq_true, Bool.and_eq_false_imp, Bool.or_eq_false_iff, Bool.not_eq_true', Bool.not_eq_false', Int.not_lt, Int.not_le] at h2)
 ·have hi2 : i < L.length := by omega
  obtain ⟨l1, l2, l3, l4⟩ := h.ld hi2
  have h1 := h.ok _ (List.getElem_mem hi2)
  have em := Cy4 L hi2
  have et := fun k hk => Cb7 L (k := k) hi2 hk
  have en := Cj9 L hi2
  obtain ⟨g, hg⟩ : ∃ g, g = L[i] := ⟨_, rfl⟩
  rw [← hg] at l1 h1 em en
  simp only [← hg] at et
  have ht := h1.tb
  have f1 : F7 g.ev = true := Aa0 rfl rfl
  have f2 : ∀ u v, (T7 g.ad u v).length = 22 := fun u v => Q4 h1.ha
  have f3 : ∀ u v d, (T7 g.ad u v).getD 20 d = u := fun u v d => Af7 h1.ha
  have f4 : ∀ u v d, (T7 g.ad u v).getD 21 d = v := fun u v d => As6 h1.ha
  have hlt : (G7 (L.take i)).length < (G7 L).length := by
   rcases Nat.lt_or_ge (G7 (L.take i)).length (G7 L).length with h | h
   ·exact h
   ·rw [List.getElem?_eq_none h] at em; cases em
  repeat' (first | with_reducible refine And.intro (by first | omega | (constructor <;> assumption) | (simp; done) | (simp [*]; done)) ?_ | simp (maxSteps := 4000000) (disch := omega) only [go_sem, ↓reduceIte, Int.toNat_natCast, l1, f1, f2, f3, f4, I4 h1.ha])
  refine Ce5 (vs := [.sl 0 0 20 20]) (fun bs => (some ⟨bs 0, 0, none⟩, 20, 20)) rfl rfl hR hJ rfl rfl hlt (fun bs w hH => ⟨rfl, g.ad, em, h1.ha, Bi5 hH rfl (Ck3 h1.ha) _ ⟨I8 (hH.live 0 _ rfl).2, hH.new 0 _ rfl⟩⟩) hJi hI hRW (fun B2 hJ2 hI2 => A3 1000 ?_) (fun B2 hJ2 hI2 => A3 1000 ?_)
  ·repeat' (first | with_reducible refine And.intro (by omega) ?_ | simp (maxSteps := 4000000) (disch := omega) only [go_sem, ↓reduceIte, f1, f2, f3, f4])
   refine G8 (S := Nat × Base) (fun s => ItB W Rd s.2 ∧ s.1 ≤ g.tn ∧ J ((G7 (L.take i)).length + 1 + s.1) s.2.D s.2.w)
    (fun s => ⟨[(21, .int .i64 (s.1 : Nat)), (20, .int .i64 (g.tn : Nat)), (19, .raw (.slice g.tA g.tn g.tc)), (9, .int .i64 (i : Nat)), (8, .int .i64 (L.length : Nat)), (7, .raw (.slice ad L.length cap)), (0, .raw (.func (.yield l) #[] #[]))], 0, [], s.2, []⟩) (fun s => g.tn - s.1) (0, B2) ⟨hI2, Nat.zero_le _, hJ2⟩ (Weak.sub (A5 (by simp [wσ, go_sem, closed, A0, A4] <;> omega) (by simp [whs, Go.Ew.hget, go_sem, EObj.closed, closed, A0, A4]) (by simp [*]) rfl rfl (by simp))) ?_
   rintro ⟨k, B3⟩ ⟨hI3, hk, hJk⟩
   simp only at hI3 hk hJk ⊢
   have h1' : g.Ok B3 := (hL.ext (hX _ hI3)).ok g (by rw [hg]; exact List.getElem_mem hi2)
   refine A3 1000 ?_
   simp (maxSteps := 4000000) (disch := omega) only [go_sem, ↓reduceIte]
   repeat (with_reducible refine And.intro (by omega) ?_)
   refine A8 (fun h3 => ?_) (fun h3 => ?_)
   all_goals (try simp only [bne_iff_ne, ne_eq, beq_iff_eq, decide_eq_true_eq, decide_eq_false_iff_not, Bool.not_eq_true, Bool.not_eq_false, Bool.not_true, Bool.not_false, bne_eq_false_iff_eq, beq_eq_false_iff_ne, Bool.and_eq_true, Bool.or_eq_true, Bool.and_eq_false_imp, Bool.or_eq_false_iff, Bool.not_eq_true', Bool.not_eq_false', Int.not_lt, Int.not_le] at h3)
   ·have hk2 : k < g.tn := by omega
    obtain ⟨m1, m2, m3, m4⟩ := h1'.ldT hk2
    have hq := Ar0 h1' hk2
    have hem := et k hk2
    obtain ⟨q, hq0⟩ : ∃ q, q = g.top k := ⟨_, rfl⟩
    rw [← hq0] at m1 hq hem
    have q1 := Ao5 q
    have hlt2 : (G7 (L.take i)).length + 1 + k < (G7 L).length := by
     rcases Nat.lt_or_ge ((G7 (L.take i)).length + 1 + k) (G7 L).length with h | h
     ·exact h
     ·rw [List.getElem?_eq_none h] at hem; cases hem
    repeat' (first | with_reducible refine And.intro (by first | omega | (constructor <;> assumption) | (simp; done) | ((repeat' refine And.intro ?_ ?_) <;> first | omega | assumption | (refine SlOk.so (n := ?_) ?_ ?_; rotate_left; assumption; omega) | (simp; done) | fail)) ?_ | simp (maxSteps := 4000000) (disch := omega) only [go_sem, ↓reduceIte, Int.toNat_natCast, m1, q1, List.length_map, hq, J6 hq])
    refine Ce5 (vs := [.sl 0 0 32 32]) (fun bs => (some ⟨bs 0, 0, none⟩, 32, 32)) rfl rfl hR hJ rfl rfl hlt2 (fun bs w hH => ⟨rfl, q, hem, hq, Bi5 hH rfl (Cr4 hq) _ ⟨I8 (hH.live 0 _ rfl).2, hH.new 0 _ rfl⟩⟩) hJk hI3 hRW (fun B4 hJ4 hI4 => A3 1000 ?_) (fun B4 hJ4 hI4 => A3 1000 ?_)
    ·repeat' (simp (maxSteps := 4000000) (disch := omega) only [go_sem, ↓reduceIte])
     exact ⟨(k + 1, B4), ⟨hI4, hk2, hJ4⟩, Weak.sub (A5 (by simp [wσ, go_sem, closed, A0, A4] <;> omega) (by simp [whs, Go.Ew.hget, go_sem, EObj.closed, closed, A0, A4]) (by simp [*]) rfl rfl (by simp)), by simp only; omega⟩
    ·repeat' (simp (maxSteps := 4000000) (disch := omega) only [go_sem, ↓reduceIte])
     exact ⟨hI4, .inr ⟨_, hJ4⟩⟩
   ·obtain rfl : k = g.tn := by omega
    repeat' (first | simp (maxSteps := 4000000) (disch := omega) only [go_sem, ↓reduceIte] | with_reducible refine A3 1000 ?_)
    exact ⟨(i + 1, B3), ⟨hI3, hi2, by rw [en]; exact hJk⟩, Weak.sub (A5 (by simp [wσ, go_sem, closed, A0, A4] <;> omega) (by simp [whs, Go.Ew.hget, go_sem, EObj.closed, closed, A0, A4]) (by simp [*]) rfl rfl (by simp)), by simp only; omega⟩
  ·repeat' (simp (maxSteps := 4000000) (disch := omega) only [go_sem, ↓reduceIte])
   exact ⟨hI2, .inr ⟨_, hJ2⟩⟩
 ·obtain rfl : i = L.length := by omega
  repeat' (first | simp (maxSteps := 4000000) (disch := omega) only [go_sem, ↓reduceIte] | with_reducible refine A3 1000 ?_)
  exact ⟨hI, .inl (by rw [List.take_length] at hJi; exact hJi)⟩
theorem Cy3 {B : Base} {L : List LogV} (h : ∀ g ∈ L, g.Ok B) (m : List UInt8) (hm : m ∈ G7 L) : m.length ≤ 32 := by
 obtain ⟨g, hg, hm⟩ := List.mem_flatMap.1 hm
 rcases List.mem_cons.1 hm with rfl | hm
 ·rw [(h g hg).ha]; omega
 ·obtain ⟨k, _, rfl⟩ := List.mem_map.1 hm
  simp only [LogV.top, List.length_take]; omega
theorem Dr0 (L : List LogV) (n : Nat) (B : Base) (ad : Option Addr) (cap : Nat) (h : LogsAt B ad L) (hn : L.length = n) :
  Does Tryz.prog 9 [.raw (.slice ad n cap)] B (fun _ : Unit => .agg (D4 .u8 (fB (Ak2 zB (G7 L))) 256)) (fun _ _ => True) := by
 refine I7 en9 (fun s B B' hB hR => hR) Tryz.func9 rfl in9 (by simp [Tryz.f9]) (by simp [A0, closed, A2]) (fun B0 hB0 => A3 1000 ?_)
 replace h := h.ext hB0
 subst hn
 repeat' (simp (maxSteps := 4000000) (disch := omega) only [go_sem, ↓reduceIte, Tryz.f9])
 refine Y6 (.fn (.func 38) [] [.ptr 0 0]) [.cells [.raw (.slice ad L.length cap)] 27 (0, 0)] Es0 (by simp [closed, A0]) (by simp [EObj.closed, closed, A0]) (fun bs w _ => Bp9 _ _ _ w) (A3 1000 ?_)
 repeat' (simp (maxSteps := 4000000) (disch := omega) only [go_sem, ↓reduceIte])
 refine Dd5 rfl rfl Eq6 (by simp) ⟨by kernel_rfl, by kernel_rfl⟩ (S := Nat)
  (fun k s => s = k) (fun cd s => False) (fun _ => 5)
  (fun s => [(2, some (.cells [.raw (.slice ad L.length cap)] 27 (0, 0))), (1, some (.cells (D4 .u8 (fB (Ak2 zB ((G7 L).take s))) 256) 26 (0, 0))), (0, some (.cells (D4 .u8 (fun _ => 0) 256) 26 (0, 0)))])
  (fun _ => B0) (0 : Nat) rfl (A5 (by simp [wσ, go_sem, closed, A0, A4, A2, Ak2, Ct2] <;> omega) (by simp [whs, Go.Ew.hget, go_sem, EObj.closed, closed, A0, A4, A2, Ak2, Ct2]) (by simp [*]) rfl rfl (by simp)) (fun s => by simp [hget]) ⟨fun _ _ _ => Nat.le_refl _, fun _ _ h => h.elim⟩ [2] (fun q => B0.D q) (by simp [hget])
  (fun q hq => ⟨hq, fun k s hs => ⟨hq, rfl⟩, fun k s hs => hs.elim⟩)
  (len := (G7 L).length) (enc := Ec4) (El := elM (G7 L)) (fun a => [.raw (.slice a.1 a.2.1 a.2.2)]) (fun p bs => rfl) (fun p => by simp [A0, closed]) (fun p => rfl) ?_
  (fun k a w E => ∃ m, (G7 L)[k]? = some m ∧ m.length = a.2.1 ∧ BytesAt ⟨w, E⟩ a.1 m) (fun k a D w E h hE => ?_) ?_ ?_ ?_ ?_ (fun cd s h => h.elim)
 ·intro bs w2 hH
  have hl1 := (hH.live 2 _ rfl).2
  refine Bq0 w2 L (bs 2) cap ad B0.D (fun b hb => (hH.frame b hb).1) (by simp [World.cell?, hl1, EObj.real, C5, real]) (h.ext hH.ext) _ (.inl ⟨2, by simp, rfl⟩) (fun b hb => .inr hb) ?_
  rintro q (⟨i, hi, rfl⟩ | hq)
  ·simp only [List.mem_singleton] at hi; subst hi; exact I8 hl1
  ·exact (hH.frame q hq).1
 ·obtain ⟨m, h1, h2, h3⟩ := h
  exact ⟨m, h1, h2, h3.ext ⟨fun b hb => hE b hb.1 hb.2, fun _ _ => rfl, Nat.le_refl _, rfl, rfl, rfl⟩⟩
 ·rintro k s ⟨am, nm, cm⟩ l' olds e E r r' rfl hk ⟨m, h1, h2, h3⟩ holds
  have hml : m.length ≤ 32 := Cy3 h.ok m (List.mem_of_getElem? h1)
  have e1 : Ak2 zB ((G7 L).take (s + 1)) = Bb1 (Ak2 zB ((G7 L).take s)) m := by
   rw [List.take_add_one, h1, Option.toList_some, Ag6, Bz6]
  obtain ⟨F, hF⟩ : ∃ F, F = Ak2 zB ((G7 L).take s) := ⟨_, rfl⟩
  rw [← hF] at e1
  simp only [← hF]
  simp only at h2 h3
  refine A3 1000 ?_
  simp (maxSteps := 4000000) (disch := omega) only [go_sem, ↓reduceIte]
  repeat (with_reducible refine And.intro (by omega) ?_)
  refine A3 1000 ?_
  repeat' (simp (maxSteps := 4000000) (disch := omega) only [go_sem, ↓reduceIte])
  refine Cp2 Ed0 (by simp [closed, A0]) (fun w hw1 hw2 => Dl9 m nm _ am cm (h3.ext ⟨fun b hb => .inr hb, hw2.same, hw2.size, hw2.os, hw2.tape, hw2.output⟩) h2 (by omega)) (by simp [closed, A2]) (A3 1000 ?_)
  repeat' (simp (maxSteps := 4000000) (disch := omega) only [go_sem, ↓reduceIte])
  refine G8 (S := Nat) (fun i => i ≤ 3)
   (fun i => ⟨[(12, .int .i64 (i : Nat)), (11, .agg (D4 .i64 (Bt0 m) 3)), (8, .fn (.func 38) [] [.ptr 2 0]), (3, .ptr 1 0), (2, .ptr 0 0)], 5, [(4, some (.obj (.loop r'))), (3, some (.obj (.deferred (some [])))), (2, some (.cells [.raw (.slice ad L.length cap)] 27 (0, 0))), (1, some (.cells (D4 .u8 (fB (Ak4 F m i)) 256) 26 (0, 0))), (0, some (.cells (D4 .u8 (fun _ => 0) 256) 26 (0, 0)))], B0, []⟩)
   (fun i => 3 - i) 0 (by simp) (Weak.sub (A5 (by simp [wσ, go_sem, closed, A0, A4, A2, Ak4, holds] <;> omega) (by simp [whs, Go.Ew.hget, go_sem, EObj.closed, closed, A0, A4, A2, Ak4, holds]) (by simp [*]) rfl rfl (by simp))) ?_
  intro i hi
  refine A3 1000 ?_
  simp (maxSteps := 4000000) (disch := omega) only [go_sem, ↓reduceIte]
  repeat (with_reducible refine And.intro (by omega) ?_)
  refine A8 (fun h2 => ?_) (fun h2 => ?_)
  all_goals (try simp only [bne_iff_ne, ne_eq, beq_iff_eq, decide_eq_true_eq, decide_eq_false_iff_not, Bool.not_eq_true, Bool.not_eq_false, Bool.not_true, Bool.not_false, bne_eq_false_iff_eq, beq_eq_false_iff_ne, Bool.and_eq_true, Bool.or_eq_true, Bool.and_eq_false_imp, Bool.or_eq_false_iff, Bool.not_eq_true', Bool.not_eq_false', Int.not_lt, Int.not_le] at h2)
  ·have hb := Cq7 m i
   have e8 : ((255 : Int) - (bitN m i : Int) / 8).toNat = 255 - bitN m i / 8 := by omega
   have e9 : (bitN m i : Int) % 8 = ((bitN m i % 8 : Nat) : Int) := by omega
   have e10 := Eb3 (bitN m i % 8) (by omega)
   repeat' (first | with_reducible refine And.intro (by omega) ?_ | simp (maxSteps := 4000000) (disch := omega) only [go_sem, ↓reduceIte, Int.toNat_natCast, e8, e9, e10, By6, Ds4, or8, Df1] | with_reducible refine C9 (id := 7) [0, 1, 2, 3, 4, 5, 6, 7, 8, 9, 10] mixed (by kernel_rfl) (by simp) (fun hin => C8 1000 hin ?_) | with_reducible refine D7 (by kernel_rfl) (C1 (by kernel_rfl)) (A3 1000 ?_))
   exact ⟨i + 1, by omega, Weak.sub (A5 (by simp [wσ, go_sem, closed, A0, A4, A2, Ak4, holds] <;> omega) (by simp [whs, Go.Ew.hget, go_sem, EObj.closed, closed, A0, A4, A2, Ak4, holds]) (by simp [*]) rfl rfl (by simp)), by omega⟩
  ·obtain rfl : i = 3 := by omega
   repeat' (first | simp (maxSteps := 4000000) (disch := omega) only [go_sem, ↓reduceIte] | with_reducible refine A3 1000 ?_)
   have e2 : Ak4 F m 3 = Ak2 zB ((G7 L).take (s + 1)) := e1.symm
   exact ⟨s + 1, rfl, (A5 (by simp [wσ, go_sem, closed, A0, A4, A2, holds, e2] <;> omega) (by simp [whs, Go.Ew.hget, go_sem, EObj.closed, closed, A0, A4, A2, holds, e2]) (by simp [*]) rfl rfl (by simp))⟩
 ·rintro s rfl
  rw [List.take_length]
  refine A3 1000 ?_
  repeat' (simp (maxSteps := 4000000) (disch := omega) only [go_sem, ↓reduceIte])
  exact ⟨BExt.refl _, (), A2 _ _ _ _⟩
 ·intro s hs; exact hs.elim
 ·intro id s hs; exact hs.elim
end Go.Proofs.YtepabkjfnpaijaaGreat
