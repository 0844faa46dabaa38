/- Part of a proof over the seat Ytncjbfkkgdepoaa. -/
import Derived.Test.YtncjbfkkgdepoaaG10
set_option linter.unusedSimpArgs false
set_option linter.unusedVariables false
set_option maxRecDepth 100000
namespace Go.Proofs.Ytncjbfkkgdepoaa
open Go RowKit Go.Ew
set_option maxHeartbeats 16000000
theorem Dg2 : C5 Try.f50.ntmps (Try.f50.body.getD .skip) = true := by kernel_rfl
def nil16 : List Nd := List.replicate 16 .nil
/-- A node that is parted from what comes. -/
def Aa5 (r rest : List UInt8) (kid : Nd) (w v : List UInt8) : Nd :=
 let b1 := Q4 nil16 [] (r.drop (com r rest)) kid w
 let b2 := Q4 b1.1 b1.2 (rest.drop (com r rest)) .nil v
 Au4 (rest.take (com r rest)) (.br b2.1 b2.2)
def Q5 : Nat → Nd → List UInt8 → List UInt8 → Nd
 | _, .nil, rest, v => .leaf rest v
 | 0, n, _, _ => n
 | _ + 1, .leaf r w, rest, v => if r = rest then .leaf rest v else Aa5 r rest .nil w v
 | f + 1, .ext r k, rest, v => if com r rest = r.length then .ext r (Q5 f k (rest.drop (com r rest)) v) else Aa5 r rest k [] v
 | f + 1, .br ks w, rest, v => if rest = [] then .br ks v else .br (ks.set (rest.getD 0 0).toNat (Q5 f (ks.getD (rest.getD 0 0).toNat .nil) (rest.drop 1) v)) w
inductive Wf : Nd → Prop
 | nil : Wf .nil
 | leaf (r v : List UInt8) (h : ∀ x ∈ r, x.toNat < 16) : Wf (.leaf r v)
 | ext (r : List UInt8) (k : Nd) (h : ∀ x ∈ r, x.toNat < 16) (h0 : r ≠ []) (hk : Wf k) : Wf (.ext r k)
 | br (ks : List Nd) (v : List UInt8) (hk : ∀ k ∈ ks, Wf k) : Wf (.br ks v)
def zBr : BrS := ⟨List.replicate 16 (.nil, .nilIface), none, 0, 0⟩
theorem Cd9 (B : Base) : BrOk B zBr [] := ⟨by simp [zBr], fun q hq => by
 obtain rfl := List.eq_of_mem_replicate hq
 exact .nil, S7 _, rfl, by simp [zBr]⟩
theorem Cm8 : brC zBr = [.raw .nilIface, .raw .nilIface, .raw .nilIface, .raw .nilIface, .raw .nilIface, .raw .nilIface, .raw .nilIface, .raw .nilIface, .raw .nilIface, .raw .nilIface, .raw .nilIface, .raw .nilIface, .raw .nilIface, .raw .nilIface, .raw .nilIface, .raw .nilIface, .raw (.slice none 0 0)] := rfl
theorem Bw3 (s : BrS) : A8 (fun _ => 0) (brC s) = s.qs.map Prod.snd ++ [.slice s.vA s.vn s.vc] := by
 simp [brC, A9, real, Function.comp_def]
theorem Cd2 {B : Base} {s : BrS} {v : List UInt8} (h : BrOk B s v) {b : Nat} {T : TypeId} {fr : Nat × Nat} (hD : B.D b) (hH : B.w.heap[b]? = some (.cells (A8 (fun _ => 0) (brC s)).toArray T fr)) : NdAt B (.br (s.qs.map Prod.fst) v) (.iface 119 (.pointer (some ⟨b, 0, none⟩))) := by
 have hC := M4 hD hH
 rw [Bw3, ← h.l] at hC
 exact NdAt.br s.qs v b s.vA s.vc hC h.q h.k h.b (by rw [h.l]; exact h.m)
theorem An5 {B : Base} {n : Nd} {a : Nat} (hn : NdAt B n (.iface 119 (.pointer (some ⟨a, 0, none⟩)))) (head : List UInt8) (k : Nat) (hA : Option Addr) (hc : Nat) (hh : BytesAt B hA head) (hk : head.length = k) (h1 : k ≤ hc) (h2 : k ≤ 1099511627776) :
  Does Try.prog 81 ([.raw (.slice hA k hc)] ++ [.raw (.pointer (some ⟨a, 0, none⟩))]) B (fun u : Value => .raw u) (fun u B' => NdAt B' (Au4 head n) u) := by
 subst hk
 exact Bp6 hn head hA hc hh h1 h2
theorem Bn6 (w : World) : (zeroValue 112).run Try.prog w = .ok (.pointer none) w := by kernel_rfl
theorem Cm6 (w : World) : (zeroValue 116).run Try.prog w = .ok (.pointer none) w := by kernel_rfl
theorem Bp7 (l : List UInt8) (n : Nd) (h : n ≠ .nil) : Au4 l n ≠ .nil := by
 unfold Au4
 split
 ·exact h
 ·simp
theorem Bb8 (f : Nat) (nd : Nd) (rest v : List UInt8) : Q5 f nd rest v ≠ .nil := by
 cases nd with
 | nil => cases f <;> simp [Q5]
 | leaf r w => cases f with
  | zero => simp [Q5]
  | succ f =>
   rw [Q5]; split
   ·simp
   ·exact Bp7 _ _ (by simp)
 | ext r k => cases f with
  | zero => simp [Q5]
  | succ f =>
   rw [Q5]; split
   ·simp
   ·exact Bp7 _ _ (by simp)
 | br ks w => cases f with
  | zero => simp [Q5]
  | succ f => rw [Q5]; split <;> simp
theorem NdAt.ofS {B : Base} {k : Nd} {kv : Value} (h : NdAt B k kv) : C9 kv = .raw kv := by
 cases h <;> rfl
theorem Cl5 {B : Base} {qs : List (Nd × Value)} (h : ∀ q ∈ qs, NdAt B q.1 q.2) (vA : Option Addr) (vn vc : Nat) : H8 (brC ⟨qs, vA, vn, vc⟩) = true := by
 induction qs with
 | nil => rfl
 | cons q qs ih =>
  have h1 : (EV.raw q.2).one = true := by
   have := h q (by simp)
   generalize q.1 = k, q.2 = kv at this
   cases this <;> rfl
  have h2 := ih (fun q hq => h q (by simp [hq]))
  simp only [brC, List.map_cons, List.cons_append, H8, h1, Bool.true_and]
  exact h2
theorem Da9 {B : Base} {a : Nat} {qs : List (Nd × Value)} {vA : Option Addr} {vn vc : Nat} (hc : CellsAt B (some ⟨a, 0, none⟩) (qs.map Prod.snd ++ [.slice vA vn vc])) (hq : qs.length = 16) (hk : ∀ q ∈ qs, NdAt B q.1 q.2) :
  M9 B ⟨a, 0, none⟩ 17 = brC ⟨qs, vA, vn, vc⟩ ∧ B.D a ∧ Ap5 B ⟨a, 0, none⟩ 17 := by
 obtain ⟨h1, h2, h3, _⟩ := Ak5 hc (o := 0) (n := 17) (by simp [hq]) (by omega)
 have e : I0 (some (⟨a, 0, none⟩ : Addr)) 0 = ⟨a, 0, none⟩ := rfl
 rw [e] at h1 h3
 refine ⟨?_, h2, h3⟩
 rw [h1, List.drop_zero, List.take_of_length_le (by simp [hq])]
 simp only [brC, List.map_append, List.map_map]
 congr 1
 exact List.map_congr_left fun q hm => (hk q hm).ofS
theorem Co5 (sv rv : Value) : ∀ (f : Nat) (nd : Nd) (B : Base) (kv : Value) (rest v : List UInt8) (rA vA : Option Addr) (n rc vn vc : Nat), NdAt B nd kv → Wf nd → rest.length < f → (∀ x ∈ rest, x.toNat < 16) → rest.length = n → v.length = vn → BytesAt B rA rest → BytesAt B vA v → n ≤ rc → n ≤ 1099511627776 → vn ≤ 1099511627776 →
  Turn2 Try.prog 50 [.raw kv, .raw (.slice rA n rc), .raw (.slice vA vn vc)] (trO sv rv) B (fun u : Value => .tup [.raw u, .int .i64 0]) (fun _ => trO sv rv) (fun u B' => NdAt B' (Q5 f nd rest v) u) := by
 intro f
 induction f with
 | zero => intro nd B kv rest v rA vA n rc vn vc hk hw hf; omega
 | succ f ih =>
  intro nd B kv rest v rA vA n rc vn vc hk hw hf h16 hn hvn hr hv hrc hrl hvl
  subst hn hvn
  refine Q3 Dj5 (fun s B B' hB hR => hR.ext' hB) Try.func50 rfl Dg2 (by simp [Try.f50]) (by simp [A0, closed]) (C7 _ _) (fun u => C7 _ _) (fun B0 hB0 b => A3 1000 ?_)
  replace hk := hk.ext' hB0
  replace hr := hr.ext hB0
  replace hv := hv.ext hB0
  have htc : ∀ n, A0 n [EV.int .i64 1, EV.raw sv, EV.raw rv] := fun n => by simp [A0, closed]
  rcases hk.cases' with ⟨rfl, rfl⟩ | ⟨hkn, T, a, rfl⟩
  ·have hp : Q5 (f + 1) .nil rest v = .leaf rest v := by cases f <;> rfl
   rw [hp]
   repeat' (simp (maxSteps := 4000000) (disch := omega) only [go_sem, ↓reduceIte, Try.f50])
   refine As8 rfl Try.underlying71 rfl (A3 1000 ?_)
   repeat' (simp (maxSteps := 4000000) (disch := omega) only [go_sem, ↓reduceIte])
   refine V6 1 rfl Try.underlying112 rfl rfl (by simp [A0, closed]) (by simp) (by simp) (fun b2 B1 hB1 hD hH => A3 1000 ?_)
   change BExt B0 B1 at hB1
   have hC := M4 hD hH
   have hN : NdAt B1 (.leaf rest v) (.iface 112 (.pointer (some ⟨b2, 0, none⟩))) := NdAt.leaf rest v b2 rA vA rc vc hC (hr.ext hB1) (hv.ext hB1) hrc hrl hvl
   simp only [frzσ, frz, I6, N1, EObj.frz, trO, Nat.reduceEqDiff, if_false, if_true, ↓reduceIte, Ag3]
   repeat' (first | with_reducible refine And.intro (by omega) ?_ | simp (maxSteps := 4000000) (disch := omega) only [go_sem, ↓reduceIte])
   first | exact ⟨_, rfl, ⟨trivial, trivial, trivial⟩, hN⟩ | exact ⟨hB1, _, rfl, ⟨trivial, trivial, trivial⟩, hN⟩
  ·have hTn := Bg6 hk
   repeat' (simp (maxSteps := 4000000) (disch := omega) only [go_sem, ↓reduceIte, Try.f50])
   refine Ab8 rfl Try.underlying71 rfl (A3 1000 ?_)
   repeat' (simp (maxSteps := 4000000) (disch := omega) only [go_sem, ↓reduceIte])
   refine O9 0 (Bf1 B0 sv rv T a hTn) rfl (fun _ => by simp [closed, A0]) (C7 _ _) (fun _ => C7 _ _) (fun _ B1 hB1 _ => A3 1000 ?_)
   change BExt B0 B1 at hB1
   replace hk := hk.ext' hB1
   replace hr := hr.ext hB1
   replace hv := hv.ext hB1
   repeat' (simp (maxSteps := 4000000) (disch := omega) only [go_sem, ↓reduceIte])
   cases hk with
   | leaf r w _ sA wA sc wc hc hsr hwv e1 e2 e3 =>
    obtain ⟨q0, q0d, q0s⟩ := hc.raw (j := 0) (v := .slice sA r.length sc) rfl
    obtain ⟨q1, q1d, q1s⟩ := hc.raw (j := 1) (v := .slice wA w.length wc) rfl
    simp only [E8, Addr.add, ↓reduceIte, Nat.reduceAdd, Nat.reduceEqDiff, C9, if_false, Nat.zero_add, Nat.one_ne_zero] at q0 q0s q1 q1s
    have qD : B1.D a := q0d
    have heq := Bh7 r rest r.length rest.length B1 sA rA sc rc hsr hr rfl rfl
    have hcm := Ay5 r rest r.length rest.length B1 sA rA sc rc hsr hr rfl rfl e2 hrl
    have hle := Ao6 r rest
    refine Ap8 rfl Try.underlying112 rfl (A3 1000 ?_)
    by_cases hrr : r = rest
    ·have hp : Q5 (f + 1) (.leaf r w) rest v = .leaf rest v := by rw [Q5, if_pos hrr]
     rw [hp]
     have cE : decide (r = rest) = true := decide_eq_true hrr
     rw [cE] at heq
     repeat' (first | with_reducible refine And.intro (by first | omega | (constructor <;> assumption)) ?_ | simp (maxSteps := 4000000) (disch := omega) only [go_sem, ↓reduceIte, q0, q1] | refine G9 (heq) (by simp [closed, A0, A2, C4]) (A3 1000 ?_))
     refine V6 1 rfl Try.underlying112 rfl rfl (by simp [A0, closed]) (by simp) (by simp) (fun b2 B2 hB2 hD hH => A3 1000 ?_)
     change BExt B1 B2 at hB2
     have hC := M4 hD hH
     have hN : NdAt B2 (.leaf rest v) (.iface 112 (.pointer (some ⟨b2, 0, none⟩))) := NdAt.leaf rest v b2 rA vA rc vc hC (hr.ext hB2) (hv.ext hB2) hrc hrl hvl
     simp only [frzσ, frz, I6, N1, EObj.frz, trO, Nat.reduceEqDiff, if_false, if_true, ↓reduceIte, Ag3]
     repeat' (simp (maxSteps := 4000000) (disch := omega) only [go_sem, ↓reduceIte])
     first | exact ⟨hB1.trans hB2, _, rfl, ⟨trivial, trivial, trivial⟩, hN⟩ | exact ⟨_, rfl, ⟨trivial, trivial, trivial⟩, hN⟩
    ·have hp : Q5 (f + 1) (.leaf r w) rest v = Aa5 r rest .nil w v := by rw [Q5, if_neg hrr]
     rw [hp]
     have cE : decide (r = rest) = false := decide_eq_false hrr
     rw [cE] at heq
     have hsp : Aa5 r rest .nil w v = Au4 (rest.take (com r rest)) (.br (Q4 (Q4 nil16 [] (r.drop (com r rest)) .nil w).1 (Q4 nil16 [] (r.drop (com r rest)) .nil w).2 (rest.drop (com r rest)) .nil v).1 (Q4 (Q4 nil16 [] (r.drop (com r rest)) .nil w).1 (Q4 nil16 [] (r.drop (com r rest)) .nil w).2 (rest.drop (com r rest)) .nil v).2) := rfl
     rw [hsp]
     obtain ⟨k, hk⟩ : ∃ k, k = com r rest := ⟨_, rfl⟩
     rw [← hk] at hcm hle ⊢
     have hr16 : ∀ x ∈ r, x.toNat < 16 := by cases hw; assumption
     have s1 := I1 hsr k e1
     have s2 := I1 hr k hrc
     repeat' (first | with_reducible refine And.intro (by first | omega | (constructor <;> assumption) | (simp; omega)) ?_ | simp (maxSteps := 4000000) (disch := omega) only [go_sem, ↓reduceIte, q0, q1, Int.toNat_natCast] | with_reducible refine D6 (id := 13) [0, 1, 2, 3, 4, 5, 6, 7, 8, 9, 10, 11] mixed (by kernel_rfl) (by simp) (fun hin => D4 1000 hin ?_) | refine G9 (heq) (by simp [closed, A0, A2, C4]) (A3 1000 ?_) | refine G9 (hcm) (by simp [closed, A0, A2, C4]) (A3 1000 ?_))
     refine Ac1 1 (Aq6 (Cd9 B1) (r.drop k) (r.length - k) _ (sc - k) .nil .nilIface w wA w.length wc (by rw [List.length_drop]) rfl s1 (by rw [List.length_drop]; omega) (by rw [List.length_drop]; omega) .nil hwv e3 (fun x hx => hr16 x (List.mem_of_mem_drop hx))) rfl (fun _ => by simp [closed, A0]) (H5 _) (fun u => H5 u) (by kernel_rfl) (F9 (by kernel_rfl) (C3 (by kernel_rfl))) (fun hin2 u B2 hB2 hR2 => D4 1000 hin2 ?_)
     change BExt B1 B2 at hB2
     obtain ⟨hu1, hu2⟩ := hR2
     have hz16 : zBr.qs.map Prod.fst = nil16 := by simp [zBr, nil16]
     rw [hz16] at hu1 hu2
     repeat' (simp (maxSteps := 4000000) (disch := omega) only [go_sem, ↓reduceIte])
     refine E1 (by kernel_rfl) (C3 (by kernel_rfl)) (A3 1000 ?_)
     repeat' (first | with_reducible refine And.intro (by first | omega | (simp; omega)) ?_ | simp (maxSteps := 4000000) (disch := omega) only [go_sem, ↓reduceIte, Int.toNat_natCast])
     replace hr := hr.ext hB2
     replace hv := hv.ext hB2
     have s3 := s2.ext hB2
     refine O9 1 (Aq6 hu1 (rest.drop k) (rest.length - k) _ (rc - k) .nil .nilIface v vA v.length vc (by rw [List.length_drop]) rfl s3 (by rw [List.length_drop]; omega) (by rw [List.length_drop]; omega) .nil hv hvl (fun x hx => h16 x (List.mem_of_mem_drop hx))) rfl (fun _ => by simp [closed, A0]) (H5 _) (fun u => H5 u) (fun u2 B3 hB3 hR3 => A3 1000 ?_)
     change BExt B2 B3 at hB3
     obtain ⟨hv1, hv2⟩ := hR3
     rw [hu2] at hv1 hv2
     have g1 : (if rc = 0 then rA else Option.map (fun x => x) rA) = rA := by split <;> simp
     repeat' (first | with_reducible refine And.intro (by first | omega | (simp; omega)) ?_ | simp (maxSteps := 4000000) (disch := omega) only [go_sem, ↓reduceIte, Int.toNat_natCast, g1, Nat.sub_zero])
     have hdk : (rest.take k).length = k := by rw [List.length_take]; omega
     refine Az1 1 [.raw (.slice rA k rc)] Cy2 rfl rfl (P1 0 u2) (fun _ => by simp [closed]) (fun B4 b4 hB4 hD4 hH4 => An5 (Cd2 (hv1.ext hB4) hD4 hH4) (rest.take k) k rA rc ((hr.ext (hB3.trans hB4)).take k) hdk (by omega) (by omega)) (fun u3 B4 hB4 hR4 => A3 1000 ?_)
     change BExt B3 B4 at hB4
     rw [hv2] at hR4
     repeat' (simp (maxSteps := 4000000) (disch := omega) only [go_sem, ↓reduceIte])
     have hBX := hB1.trans (hB2.trans (hB3.trans hB4))
     first | exact ⟨hBX, _, rfl, ⟨trivial, trivial, trivial⟩, rfl, hR4⟩ | exact ⟨_, rfl, ⟨trivial, trivial, trivial⟩, rfl, hR4⟩ | exact ⟨hBX, _, rfl, ⟨trivial, trivial, trivial⟩, hR4⟩ | exact ⟨_, rfl, ⟨trivial, trivial, trivial⟩, hR4⟩
   | ext r kd _ sA sc kdv hc hsr e1 e2 hkd =>
    obtain ⟨q0, q0d, q0s⟩ := hc.raw (j := 0) (v := .slice sA r.length sc) rfl
    obtain ⟨q1, q1d, q1s⟩ := hc.raw (j := 1) (v := kdv) rfl
    rw [hkd.ofS] at q1
    simp only [E8, Addr.add, ↓reduceIte, Nat.reduceAdd, Nat.reduceEqDiff, C9, if_false, Nat.zero_add, Nat.one_ne_zero] at q0 q0s q1 q1s
    have qD : B1.D a := q0d
    have hcm := Ay5 r rest r.length rest.length B1 sA rA sc rc hsr hr rfl rfl e2 hrl
    have hle := Ao6 r rest
    obtain ⟨hr16, hr0, hwk⟩ : (∀ x ∈ r, x.toNat < 16) ∧ r ≠ [] ∧ Wf kd := by cases hw; exact ⟨‹_›, ‹_›, ‹_›⟩
    have hrl0 : 0 < r.length := List.length_pos_iff.2 hr0
    refine Am6 rfl Try.underlying112 Bn6 rfl (by decide) (A3 1000 ?_)
    repeat' (simp (maxSteps := 4000000) (disch := omega) only [go_sem, ↓reduceIte])
    refine Ap8 rfl Try.underlying116 rfl (A3 1000 ?_)
    obtain ⟨k, hk⟩ : ∃ k, k = com r rest := ⟨_, rfl⟩
    rw [← hk] at hcm hle
    have s2 := I1 hr k hrc
    by_cases hkr : k = r.length
    ·have hp : Q5 (f + 1) (.ext r kd) rest v = .ext r (Q5 f kd (rest.drop k) v) := by rw [Q5, if_pos (by rw [← hk]; exact hkr), hk]
     rw [hp]
     have c1 : (((k : Nat) : Int) == (r.length : Int)) = true := by rw [beq_iff_eq]; omega
     repeat' (first | with_reducible refine And.intro (by first | omega | (constructor <;> assumption) | (simp; omega)) ?_ | simp (maxSteps := 4000000) (disch := omega) only [go_sem, ↓reduceIte, q0, q1, c1, Int.toNat_natCast] | with_reducible refine D6 (id := 20) [0, 1, 2, 3, 4, 5, 6, 7, 8, 9, 10, 11, 12, 13, 14] mixed (by kernel_rfl) (by simp) (fun hin => D4 1000 hin ?_) | refine G9 (hcm) (by simp [closed, A0, A2, C4]) (A3 1000 ?_))
     have hdl : (rest.drop k).length = rest.length - k := List.length_drop
     have hdl2 : (rest.drop k).length < f := by omega
     refine Ac1 0 (ih kd B1 kdv (rest.drop k) v _ vA (rest.length - k) (rc - k) v.length vc hkd hwk hdl2 (fun x hx => h16 x (List.mem_of_mem_drop hx)) hdl rfl s2 hv (by omega) (by omega) hvl) rfl (fun _ => by simp [closed, A0]) (C7 _ _) (fun _ => C7 _ _) (by kernel_rfl) (F9 (by kernel_rfl) (C3 (by kernel_rfl))) (fun hin2 u B2 hB2 hR2 => D4 1000 hin2 ?_)
     change BExt B1 B2 at hB2
     repeat' (simp (maxSteps := 4000000) (disch := omega) only [go_sem, ↓reduceIte])
     refine E1 (by kernel_rfl) (C3 (by kernel_rfl)) (A3 1000 ?_)
     have qD2 : B2.D a := hB2.D a qD
     replace hc := hc.ext hB2
     obtain ⟨p0, p0d, p0s⟩ := hc.raw (j := 0) (v := .slice sA r.length sc) rfl
     simp only [E8, Addr.add, ↓reduceIte, Nat.reduceAdd, Nat.reduceEqDiff, C9, if_false, Nat.zero_add, Nat.one_ne_zero] at p0 p0s
     obtain ⟨T2, a2, rfl⟩ : ∃ T a, u = .iface T (.pointer (some ⟨a, 0, none⟩)) := by
      rcases hR2.cases' with ⟨hu, _⟩ | ⟨_, h⟩
      ·exact absurd hu (Bb8 _ _ _ _)
      ·exact h
     repeat' (first | with_reducible refine And.intro (by first | omega | (constructor <;> assumption)) ?_ | simp (maxSteps := 4000000) (disch := omega) only [go_sem, ↓reduceIte, p0])
     refine V6 200000 rfl Try.underlying116 rfl rfl (by simp [A0, closed]) (by simp) (by simp) (fun b2 B3 hB3 hD hH => A3 1000 ?_)
     change BExt B2 B3 at hB3
     have hC := M4 hD hH
     have hN : NdAt B3 (.ext r (Q5 f kd (rest.drop k) v)) (.iface 116 (.pointer (some ⟨b2, 0, none⟩))) := NdAt.ext r _ b2 sA sc _ hC (hsr.ext (hB2.trans hB3)) e1 e2 (hR2.ext' hB3)
     simp only [frzσ, frz, I6, N1, EObj.frz, trO, Nat.reduceEqDiff, if_false, if_true, ↓reduceIte, Ag3]
     repeat' (simp (maxSteps := 4000000) (disch := omega) only [go_sem, ↓reduceIte])
     have hBX := hB1.trans (hB2.trans hB3)
     first | exact ⟨hBX, _, rfl, ⟨trivial, trivial, trivial⟩, rfl, hN⟩ | exact ⟨_, rfl, ⟨trivial, trivial, trivial⟩, rfl, hN⟩ | exact ⟨hBX, _, rfl, ⟨trivial, trivial, trivial⟩, hN⟩ | exact ⟨_, rfl, ⟨trivial, trivial, trivial⟩, hN⟩
    ·have hp : Q5 (f + 1) (.ext r kd) rest v = Aa5 r rest kd [] v := by rw [Q5, if_neg (by rw [← hk]; exact hkr)]
     rw [hp]
     have c1 : (((k : Nat) : Int) == (r.length : Int)) = false := by rw [beq_eq_false_iff_ne]; omega
     have hsp : Aa5 r rest kd [] v = Au4 (rest.take k) (.br (Q4 (Q4 nil16 [] (r.drop k) kd []).1 (Q4 nil16 [] (r.drop k) kd []).2 (rest.drop k) .nil v).1 (Q4 (Q4 nil16 [] (r.drop k) kd []).1 (Q4 nil16 [] (r.drop k) kd []).2 (rest.drop k) .nil v).2) := by rw [hk]; rfl
     rw [hsp]
     have s1 := I1 hsr k e1
     repeat' (first | with_reducible refine And.intro (by first | omega | (constructor <;> assumption) | (simp; omega)) ?_ | simp (maxSteps := 4000000) (disch := omega) only [go_sem, ↓reduceIte, q0, q1, c1, Int.toNat_natCast] | with_reducible refine D6 (id := 25) [0, 1, 2, 3, 4, 5, 6, 7, 8, 9, 10, 11] mixed (by kernel_rfl) (by simp) (fun hin => D4 1000 hin ?_) | refine G9 (hcm) (by simp [closed, A0, A2, C4]) (A3 1000 ?_))
     refine Ac1 1 (Aq6 (Cd9 B1) (r.drop k) (r.length - k) _ (sc - k) kd kdv [] none 0 0 (by rw [List.length_drop]) rfl s1 (by rw [List.length_drop]; omega) (by rw [List.length_drop]; omega) hkd (S7 _) (by simp) (fun x hx => hr16 x (List.mem_of_mem_drop hx))) rfl (fun _ => by simp [closed, A0]) (H5 _) (fun u => H5 u) (by kernel_rfl) (F9 (by kernel_rfl) (C3 (by kernel_rfl))) (fun hin2 u B2 hB2 hR2 => D4 1000 hin2 ?_)
     change BExt B1 B2 at hB2
     obtain ⟨hu1, hu2⟩ := hR2
     have hz16 : zBr.qs.map Prod.fst = nil16 := by simp [zBr, nil16]
     rw [hz16] at hu1 hu2
     repeat' (simp (maxSteps := 4000000) (disch := omega) only [go_sem, ↓reduceIte])
     refine E1 (by kernel_rfl) (C3 (by kernel_rfl)) (A3 1000 ?_)
     repeat' (first | with_reducible refine And.intro (by first | omega | (simp; omega)) ?_ | simp (maxSteps := 4000000) (disch := omega) only [go_sem, ↓reduceIte, Int.toNat_natCast])
     replace hr := hr.ext hB2
     replace hv := hv.ext hB2
     have s3 := s2.ext hB2
     refine O9 1 (Aq6 hu1 (rest.drop k) (rest.length - k) _ (rc - k) .nil .nilIface v vA v.length vc (by rw [List.length_drop]) rfl s3 (by rw [List.length_drop]; omega) (by rw [List.length_drop]; omega) .nil hv hvl (fun x hx => h16 x (List.mem_of_mem_drop hx))) rfl (fun _ => by simp [closed, A0]) (H5 _) (fun u => H5 u) (fun u2 B3 hB3 hR3 => A3 1000 ?_)
     change BExt B2 B3 at hB3
     obtain ⟨hv1, hv2⟩ := hR3
     rw [hu2] at hv1 hv2
     have g1 : (if rc = 0 then rA else Option.map (fun x => x) rA) = rA := by split <;> simp
     repeat' (first | with_reducible refine And.intro (by first | omega | (simp; omega)) ?_ | simp (maxSteps := 4000000) (disch := omega) only [go_sem, ↓reduceIte, Int.toNat_natCast, g1, Nat.sub_zero])
     have hdk : (rest.take k).length = k := by rw [List.length_take]; omega
     refine Az1 1 [.raw (.slice rA k rc)] Cy2 rfl rfl (P1 0 u2) (fun _ => by simp [closed]) (fun B4 b4 hB4 hD4 hH4 => An5 (Cd2 (hv1.ext hB4) hD4 hH4) (rest.take k) k rA rc ((hr.ext (hB3.trans hB4)).take k) hdk (by omega) (by omega)) (fun u3 B4 hB4 hR4 => A3 1000 ?_)
     change BExt B3 B4 at hB4
     rw [hv2] at hR4
     repeat' (simp (maxSteps := 4000000) (disch := omega) only [go_sem, ↓reduceIte])
     have hBX := hB1.trans (hB2.trans (hB3.trans hB4))
     first | exact ⟨hBX, _, rfl, ⟨trivial, trivial, trivial⟩, rfl, hR4⟩ | exact ⟨_, rfl, ⟨trivial, trivial, trivial⟩, rfl, hR4⟩ | exact ⟨hBX, _, rfl, ⟨trivial, trivial, trivial⟩, hR4⟩ | exact ⟨_, rfl, ⟨trivial, trivial, trivial⟩, hR4⟩
   | br qs w _ wA wc hc hq hkk hwv e3 =>
    obtain ⟨l1, l2, l3⟩ := Da9 hc hq hkk
    have l4 := Cl5 hkk wA w.length wc
    obtain ⟨s, hs⟩ : ∃ s : BrS, s = ⟨qs, wA, w.length, wc⟩ := ⟨_, rfl⟩
    have hso : BrOk B1 s w := by subst hs; exact ⟨hq, hkk, hwv, rfl, e3⟩
    have hsq : s.qs = qs := by rw [hs]
    rw [← hs] at l1 l4
    have hbl := Be2 hso.q
    have hspl : H7 (brC zBr) 0 (brC s) = brC s := by
     rw [H7]
     ·rw [List.take_zero, List.nil_append, Nat.zero_add, List.drop_eq_nil_of_le (by rw [hbl]; simp [Cm8]), List.append_nil]
     ·intro v h
      rw [h] at hbl
      simp at hbl
    rw [Cm8] at hspl
    have hset16 := fun vA vn vc => Az7 (s := s) hso.q vA vn vc
    refine Am6 rfl Try.underlying112 Bn6 rfl (by decide) (A3 1000 ?_)
    repeat' (simp (maxSteps := 4000000) (disch := omega) only [go_sem, ↓reduceIte])
    refine Am6 rfl Try.underlying116 Cm6 rfl (by decide) (A3 1000 ?_)
    repeat' (simp (maxSteps := 4000000) (disch := omega) only [go_sem, ↓reduceIte])
    refine Ap8 rfl Try.underlying119 rfl (A3 1000 ?_)
    by_cases h0 : rest = []
    ·subst h0
     have hp : Q5 (f + 1) (.br (qs.map Prod.fst) w) [] v = .br (qs.map Prod.fst) v := by rw [Q5, if_pos rfl]
     rw [hp]
     repeat' (first | with_reducible refine And.intro (by first | omega | (constructor <;> assumption)) ?_ | simp (maxSteps := 4000000) (disch := omega) only [go_sem, ↓reduceIte, l1, l4, hbl, hspl, hset16, List.length_nil])
     refine V6 1 rfl Try.underlying119 rfl rfl (P1 0 _) (by simp) (by simp) (fun b2 B2 hB2 hD hH => A3 1000 ?_)
     change BExt B1 B2 at hB2
     have hso2 : BrOk B1 ⟨s.qs, vA, v.length, vc⟩ v := ⟨hso.q, hso.k, hv, rfl, hvl⟩
     have hN := Cd2 (hso2.ext hB2) hD hH
     simp only [hsq] at hN
     simp only [frzσ, frz, I6, N1, EObj.frz, trO, Nat.reduceEqDiff, if_false, if_true, ↓reduceIte, Ag3]
     repeat' (simp (maxSteps := 4000000) (disch := omega) only [go_sem, ↓reduceIte])
     have hBX := hB1.trans hB2
     first | exact ⟨hBX, _, rfl, ⟨trivial, trivial, trivial⟩, rfl, hN⟩ | exact ⟨_, rfl, ⟨trivial, trivial, trivial⟩, rfl, hN⟩ | exact ⟨hBX, _, rfl, ⟨trivial, trivial, trivial⟩, hN⟩ | exact ⟨_, rfl, ⟨trivial, trivial, trivial⟩, hN⟩
    ·obtain ⟨z, hz⟩ : ∃ z, z = (rest.getD 0 0).toNat := ⟨_, rfl⟩
     have hp : Q5 (f + 1) (.br (qs.map Prod.fst) w) rest v = .br ((qs.map Prod.fst).set z (Q5 f ((qs.map Prod.fst).getD z .nil) (rest.drop 1) v)) w := by rw [Q5, if_neg h0, hz]
     rw [hp]
     have hlp : 0 < rest.length := List.length_pos_iff.2 h0
     have hz16 : z < 16 := by
      rw [hz]
      cases rest with
      | nil => exact absurd rfl h0
      | cons x l => exact h16 x (by simp)
     have c0 : (((rest.length : Nat) : Int) == 0) = false := by rw [beq_eq_false_iff_ne]; omega
     have m1 := hr.ld 0 (by omega)
     have m2 := hr.lS 0 (by omega)
     have m3 := hr.lD (by omega)
     have m4 := hr.ok.so (by omega)
     have m5 : F5 B1 (I0 rA 0) = .int .u8 (z : Int) := by rw [m1, bE, hz]
     have hzq : z < qs.length := by omega
     obtain ⟨q1, q1d, q1s⟩ := hc.raw (j := z) (v := (qs[z]'hzq).2) (by rw [List.getElem?_append_left (by simpa using hzq)]; simp [hzq])
     have hkz : NdAt B1 ((qs.map Prod.fst).getD z .nil) (qs[z]'hzq).2 := by
      have := hkk _ (List.getElem_mem hzq)
      simpa [List.getD, hzq] using this
     have hwz : Wf ((qs.map Prod.fst).getD z .nil) := by
      cases hw with
      | br _ _ hk => exact hk _ (by simp only [List.getD, List.getElem?_map, hzq, List.getElem?_eq_getElem, Option.map_some, Option.getD_some]; exact List.mem_map.2 ⟨_, List.getElem_mem hzq, rfl⟩)
     rw [hkz.ofS] at q1
     obtain ⟨kdv, hkdv⟩ : ∃ kdv, kdv = (qs[z]'hzq).2 := ⟨_, rfl⟩
     rw [← hkdv] at q1 hkz
     simp only [E8, Addr.add, ↓reduceIte, Nat.reduceAdd, Nat.reduceEqDiff, C9, if_false, Nat.zero_add] at q1 q1s
     have e9 : (if z = 0 then (⟨a, 0, none⟩ : Addr) else ⟨a, z, none⟩) = ⟨a, z, none⟩ := by
      split
      ·rename_i h; rw [h]
      ·rfl
     rw [e9] at q1 q1s
     have s1 := I1 hr 1 hrc
     have hdl : (rest.drop 1).length = rest.length - 1 := List.length_drop
     have hdl2 : (rest.drop 1).length < f := by omega
     repeat' (first | with_reducible refine And.intro (by first | omega | (constructor <;> assumption) | (simp; omega) | (simp [*]; done)) ?_ | simp (maxSteps := 4000000) (disch := omega) only [go_sem, ↓reduceIte, l1, l4, hbl, hspl, c0, m5, q1, Int.toNat_natCast] | with_reducible refine D6 (id := 34) [0, 1, 2, 3, 4, 5, 6, 7, 8, 9, 10, 11, 12, 13, 14, 15, 16, 17] mixed (by kernel_rfl) (by simp) (fun hin => D4 1000 hin ?_))
     refine Ac1 0 (ih _ B1 kdv (rest.drop 1) v _ vA (rest.length - 1) (rc - 1) v.length vc hkz hwz hdl2 (fun x hx => h16 x (List.mem_of_mem_drop hx)) hdl rfl s1 hv (by omega) (by omega) hvl) rfl (fun _ => by simp [closed, A0]) (C7 _ _) (fun _ => C7 _ _) (by kernel_rfl) (F9 (by kernel_rfl) (C3 (by kernel_rfl))) (fun hin2 u B2 hB2 hR2 => D4 1000 hin2 ?_)
     change BExt B1 B2 at hB2
     repeat' (simp (maxSteps := 4000000) (disch := omega) only [go_sem, ↓reduceIte])
     refine E1 (by kernel_rfl) (C3 (by kernel_rfl)) (A3 1000 ?_)
     have hr2 := hr.ext hB2
     have k1 := hr2.ld 0 (by omega)
     have k2 := hr2.lS 0 (by omega)
     have k3 := hr2.lD (by omega)
     have k5 : F5 B2 (I0 rA 0) = .int .u8 (z : Int) := by rw [k1, bE, hz]
     obtain ⟨T2, a2, rfl⟩ : ∃ T a, u = .iface T (.pointer (some ⟨a, 0, none⟩)) := by
      rcases hR2.cases' with ⟨hu, _⟩ | ⟨_, h⟩
      ·exact absurd hu (Bb8 _ _ _ _)
      ·exact h
     have hbs := fun t v => Bw2 (s := s) (i := z) (by rw [hso.q]; omega) t v
     repeat' (first | with_reducible refine And.intro (by first | omega | (constructor <;> assumption) | (simp [*]; done)) ?_ | simp (maxSteps := 4000000) (disch := omega) only [go_sem, ↓reduceIte, k5, hbl, hbs (Q5 f ((qs.map Prod.fst).getD z .nil) (rest.drop 1) v), Int.toNat_natCast])
     refine V6 1 rfl Try.underlying119 rfl rfl (P1 0 _) (by simp) (by simp) (fun b2 B3 hB3 hD hH => A3 1000 ?_)
     change BExt B2 B3 at hB3
     have hso2 : BrOk B2 ⟨s.qs.set z (Q5 f ((qs.map Prod.fst).getD z .nil) (rest.drop 1) v, _), s.vA, s.vn, s.vc⟩ w := ⟨by simp [hso.q], fun q hq => by
      rcases List.mem_or_eq_of_mem_set hq with hq | rfl
      ·exact (hso.k q hq).ext' hB2
      ·exact hR2, hso.b.ext hB2, hso.l, hso.m⟩
     have hN := Cd2 (hso2.ext hB3) hD hH
     simp only [List.map_set, hsq] at hN
     simp only [frzσ, frz, I6, N1, EObj.frz, trO, Nat.reduceEqDiff, if_false, if_true, ↓reduceIte, Ag3]
     repeat' (simp (maxSteps := 4000000) (disch := omega) only [go_sem, ↓reduceIte])
     have hBX := hB1.trans (hB2.trans hB3)
     first | exact ⟨hBX, _, rfl, ⟨trivial, trivial, trivial⟩, rfl, hN⟩ | exact ⟨_, rfl, ⟨trivial, trivial, trivial⟩, rfl, hN⟩ | exact ⟨hBX, _, rfl, ⟨trivial, trivial, trivial⟩, hN⟩ | exact ⟨_, rfl, ⟨trivial, trivial, trivial⟩, hN⟩
end Go.Proofs.Ytncjbfkkgdepoaa
