/- Part of a proof over the seat Ytncjbfkkgdepoaa. -/
import Derived.Test.YtncjbfkkgdepoaaG22
set_option linter.unusedSimpArgs false
set_option linter.unusedVariables false
set_option maxRecDepth 100000
namespace Go.Proofs.Ytncjbfkkgdepoaa
open Go RowKit Go.Ew
set_option maxHeartbeats 16000000
theorem Eb8 : D0 Try.f29.ntmps (Try.f29.body.getD .skip) = true := by kernel_rfl
theorem Ec3 : D0 Try.f18.ntmps (Try.f18.body.getD .skip) = true := by kernel_rfl
theorem Eb3 : D0 Try.f34.ntmps (Try.f34.body.getD .skip) = true := by kernel_rfl
theorem Ec5 : D0 Try.f15.ntmps (Try.f15.body.getD .skip) = true := by kernel_rfl
theorem Db9 {C : Cx} {Q : Exit → X → Prop} {st : List It} {x : X} (i : Nat) {es : Array MapEntry} {clock : Nat} (hg : hget x.hs i = some (.obj (.map es clock))) (hms : i ∉ x.ms)
  (hk : ∀ b B', BExt x.B B' → B'.D b → B'.w.heap[b]? = some (.map es clock) → Go.Ew.Next C Q st ⟨frzσ i b x.σ, x.n, As0 i b x.hs, B', x.ms⟩) : Go.Ew.Next C Q st x := by
 intro hst bs a w hr
 refine hk (bs i) ⟨w, fun k => x.B.D k ∨ k = bs i⟩ (hr.frz_ext _ (fun k h => .inl h)) (.inr rfl) ?_ hst bs a w (hr.frz i hms _ (fun k => by simp [hg]))
 have := (hr.h.live i _ hg).2
 simp only [EObj.real] at this
 exact this
theorem Ce1 {C : Cx} {Q : Exit → X → Prop} {o : Oper} {st : List It} {x : X} {I T R : TypeId} {ms : Array (String × TypeId)} {a : Operand} {v : Value} (hop : o.op = .binOp .neq I a (.const .nilIface) R) (ht : C.P.underlying I = some (.interface ms))
  (ha : ev x.σ a = .raw (.iface T v)) (hk : Go.Ew.Next C Q st { σ := put x.σ o.dst (.bool true), n := x.n, hs := x.hs, B := x.B, ms := x.ms }) : opS C Q o st x := by
 refine Ac3 (.bool true) (by rw [hop]; simp) trivial ?_ hk
 intro bs ac w hr
 obtain ⟨dst, op, type, pos, after, guard⟩ := o
 simp only at hop; subst hop
 have ea := E7 hr.t a (by rw [ha]; simp)
 rw [ha] at ea
 have eb : ac.eval (.const .nilIface) = .nilIface := rfl
 have h1 : eqGuard .neq I a (.const .nilIface) (.iface T v) .nilIface = pure () := rfl
 have h2 : binOp .neq I (.iface T v) .nilIface = (do pure (.bool (!(← Op.equalIn (9999 + 1) I (.iface T v) .nilIface)))) := rfl
 simp only [execOp, ea, eb, real, h1, h2, Sem.run_bind, Sem.run_pure, Result.andThen_ok, Av3 ht, Bool.not_false]
theorem Aw3 {B : Base} {b : Nat} {l : List UInt8} {rest : List EV} {T : TypeId} {fr : Nat × Nat} (hD : B.D b) (h : B.w.heap[b]? = some (.cells (C2 (fun _ => 0) (l.map bE ++ rest)).toArray T fr)) : BytesAt B (some ⟨b, 0, none⟩) l := by
 refine Aq9 (b := b) (fun a ha => by cases ha; exact ⟨rfl, hD⟩) (fun _ => rfl) (fun j hj => ?_)
 rw [F4, O2, M7 h]
 simp only [Nat.zero_add]
 rw [List.getElem?_toArray, C3, List.getElem?_map, List.getElem?_append_left hj, List.getElem?_eq_getElem hj, List.getD_eq_getElem?_getD, List.getElem?_eq_getElem hj]
 rfl
theorem Ay8 (B : Base) (k v : ByteArray) (hk : k.size ≤ 1048576) (hv : v.size ≤ 1048576) :
  Does Try.prog 29 [.str k, .str v] B (fun s : Pr => .agg (Pr.E s)) (fun s B' => s.k.Ok B' ∧ s.v.Ok B' ∧ s.kv = (k.data.toList, v.data.toList)) := by
 refine K2 Eg0 (fun s B B' hB hR => ⟨hR.1.ext hB, hR.2.1.ext hB, hR.2.2⟩) Try.func29 rfl Eb8 (by simp [Try.f29]) (by simp [A0, closed]) (fun B0 hB0 => A2 1000 ?_)
 have hm : (1048576 : Nat) ≤ maxLen := by decide +kernel
 repeat' (simp (maxSteps := 4000000) (disch := omega) only [go_sem, ↓reduceIte, Try.f29])
 refine Bs9 rfl Try.underlying9 Try.underlying5 Try.underlying22 rfl (by omega) (fun c1 hc1 _ => ?_)
 refine Az9 1 rfl (closeds_append.2 ⟨Q5 _ _, by rw [F1]; intro v hv; rw [List.eq_of_mem_replicate hv]; trivial⟩) (by simp) (fun b1 B1 hB1 hD1 hH1 => A2 1000 ?_)
 change BExt B0 B1 at hB1
 repeat' (simp (maxSteps := 4000000) (disch := omega) only [go_sem, ↓reduceIte])
 refine Bs9 rfl Try.underlying9 Try.underlying5 Try.underlying22 rfl (by omega) (fun c2 hc2 _ => ?_)
 refine Az9 2 rfl (closeds_append.2 ⟨Q5 _ _, by rw [F1]; intro v hv; rw [List.eq_of_mem_replicate hv]; trivial⟩) (by simp) (fun b2 B2 hB2 hD2 hH2 => A2 1000 ?_)
 change BExt B1 B2 at hB2
 repeat' (simp (maxSteps := 4000000) (disch := omega) only [go_sem, ↓reduceIte])
 obtain ⟨q, hq⟩ : ∃ q : Pr, q = ⟨⟨k.data.toList, some ⟨b1, 0, none⟩, c1⟩, ⟨v.data.toList, some ⟨b2, 0, none⟩, c2⟩⟩ := ⟨_, rfl⟩
 have hR : q.k.Ok B2 ∧ q.v.Ok B2 ∧ q.kv = (k.data.toList, v.data.toList) := by
  rw [hq]
  exact ⟨⟨(Aw3 hD1 hH1).ext hB2, hc1, Nat.le_trans hk (by decide)⟩, ⟨Aw3 hD2 hH2, hc2, Nat.le_trans hv (by decide)⟩, rfl⟩
 have hE : Pr.E q = [.raw (.slice (some ⟨b1, 0, none⟩) k.size c1), .raw (.slice (some ⟨b2, 0, none⟩) v.size c2)] := by rw [hq]; rfl
 first | exact ⟨q, hE ▸ rfl, by simp [closed, A0, hE], hR⟩ | exact ⟨hB1.trans hB2, q, by rw [hE], by simp [closed, A0, hE], hR⟩ | exact ⟨hB1.trans hB2, q, by rw [hE]; exact ⟨rfl, by simp [closed, A0], hR⟩⟩
theorem Cf4 {x : X} {v : EV} {G : EV → Base → Prop} (r : Nat) {cs : List EV} {T : TypeId} {fr : Nat × Nat} (hg : hget x.hs r = some (.cells cs T fr))
  (h : ∀ b B', BExt x.B B' → B'.D b → closed 0 (frz r b v) ∧ G (frz r b v) B') : Lays x v G := fun C bs w hh => by
 have hE : BExt x.B ⟨w, fun k => x.B.D k ∨ k = bs r⟩ := ⟨fun _ h => .inl h, hh.ext.same, hh.ext.size, hh.ext.os, hh.ext.tape, hh.ext.output⟩
 obtain ⟨h1, h2⟩ := h (bs r) ⟨w, fun k => x.B.D k ∨ k = bs r⟩ hE (.inr rfl)
 refine ⟨frz r (bs r) v, fun k => x.B.D k ∨ k = bs r, by rw [← real_frz bs r v]; exact L3 _ _ h1, h1, fun _ h => .inl h, ?_, h2⟩
 rintro b (hb | rfl)
 ·exact .inl hb
 ·exact .inr ⟨r, _, hg, rfl⟩
theorem Cd9 (B : Base) : Does Try.prog 18 [] B (fun a : Nat => .raw (.pointer (some ⟨a, 0, none⟩))) (fun _ _ => True) := by
 refine Ch3 Eg4 (fun s B B' hB hR => hR) Try.func18 rfl Ec3 (by simp [Try.f18]) (by simp [A0, closed]) (fun B0 hB0 => A2 1000 ?_)
 repeat' (simp (maxSteps := 4000000) (disch := omega) only [go_sem, ↓reduceIte, Try.f18])
 refine Bq6 rfl (Db9 0 rfl (by simp) (fun b1 B1 hB1 hD1 hH1 => A2 1000 ?_))
 change BExt B0 B1 at hB1
 repeat' (first | with_reducible refine And.intro (by omega) ?_ | simp (maxSteps := 4000000) (disch := omega) only [go_sem, ↓reduceIte])
 first | exact ⟨hB1, Cf4 1 rfl (fun b B' hB hD => ⟨by simp [frz, closed], b, by simp [frz], trivial⟩)⟩ | exact Cf4 1 rfl (fun b B' hB hD => ⟨by simp [frz, closed], b, by simp [frz], trivial⟩) | exact Cf4 1 rfl (fun b B' hB hD => ⟨by simp [frz, closed], b, by simp [frz]⟩)
theorem Bj7 (B : Base) (sv rv : Value) {r v key : List UInt8} {kn kc : Nat} {kA : Option Addr} (hd : NdAt B (.leaf r v) rv) (hk : BytesAt B kA key) (hkn : key.length = kn) (hk64 : kn ≤ 64) (hr : M0 key = r) (hv : v.length ≤ 1048576) :
  Turn2 Try.prog 34 [.raw (.slice kA kn kc)] (trO sv rv) B (fun s : Option Addr × Nat => .tup [.raw (.slice s.1 v.length s.2), .int .i64 0]) (fun _ => trO sv rv) (fun s B' => BytesAt B' s.1 v ∧ v.length ≤ s.2) := by
 refine T6 Dw5 (fun s B B' hB hR => ⟨hR.1.ext hB, hR.2⟩) Try.func34 rfl Eb3 (by simp [Try.f34]) (by simp [A0, closed]) (E2 _ _) (fun u => E2 _ _) (fun B0 hB0 b => A2 1000 ?_)
 replace hd := hd.ext' hB0
 replace hk := hk.ext hB0
 have c1 : decide ((64 : Int) < (kn : Int)) = false := decide_eq_false (by omega)
 repeat' (simp (maxSteps := 4000000) (disch := omega) only [go_sem, ↓reduceIte, Try.f34])
 refine R7 0 (Db5 B0 sv rv) rfl (fun _ => trivial) (E2 _ _) (fun _ => E2 _ _) (fun _ B1 hB1 _ => A2 1000 ?_)
 change BExt B0 B1 at hB1
 repeat' (first | with_reducible refine And.intro (by omega) ?_ | simp (maxSteps := 4000000) (disch := omega) only [go_sem, ↓reduceIte, c1, trO] | with_reducible refine C8 (id := 5) [0, 1, 2, 3, 4, 5, 6, 7] mixed (by kernel_rfl) (by simp) (fun hin => D7 1000 hin ?_))
 refine J6 (Ai5 key kn _ kA kc (hk.ext hB1) hkn (by omega)) (fun _ => by simp [closed]) (by kernel_rfl) (F6 (by kernel_rfl) (C4 (by kernel_rfl))) (fun hin2 s2 B2 hB2 hR2 => D7 1000 hin2 ?_)
 change BExt B1 B2 at hB2
 repeat' (first | simp (maxSteps := 4000000) (disch := omega) only [go_sem, ↓reduceIte] | with_reducible refine E1 (by kernel_rfl) (C4 (by kernel_rfl)) (A2 1000 ?_))
 rcases hd.cases' with ⟨h0, _⟩ | ⟨_, T, a, rfl⟩
 ·cases h0
 have hTn := Bq4 hd
 have hd2 := hd.ext' (hB1.trans hB2)
 refine H2 (S := Unit) (fun _ => True)
  (fun _ => ⟨[(7, .raw (.slice s2.1 (M0 key).length s2.2)), (6, .raw (.iface T (.pointer (some ⟨a, 0, none⟩)))), (5, .int .i64 0), (4, .raw (.slice none 0 0)), (0, .ptr 0 0), (1, .raw (.slice kA kn kc))], 200000, [(0, some (trO sv (.iface T (.pointer (some ⟨a, 0, none⟩)))))], B2, []⟩)
  (fun _ => 0) () trivial (Weak.sub (A6 (by simp [wσ, go_sem, closed, A0, A4, trO] <;> omega) (by simp [whs, Go.Ew.hget, go_sem, EObj.closed, closed, A0, A4, trO]) (by first | (simp [*]; done) | (simp only [cxG]; omega)) rfl rfl (by simp))) ?_
 intro _ _
 refine A2 1000 ?_
 repeat' (simp (maxSteps := 4000000) (disch := omega) only [go_sem, ↓reduceIte])
 refine Ce1 rfl Try.underlying71 rfl (A2 1000 ?_)
 repeat' (simp (maxSteps := 4000000) (disch := omega) only [go_sem, ↓reduceIte])
 refine R7 0 (Bo7 B2 sv _ T a hTn) rfl (fun _ => by simp [closed, A0]) (E2 _ _) (fun _ => E2 _ _) (fun _ B3 hB3 _ => A2 1000 ?_)
 change BExt B2 B3 at hB3
 replace hd2 := hd2.ext' hB3
 have hrs := hR2.1.ext hB3
 repeat' (simp (maxSteps := 4000000) (disch := omega) only [go_sem, ↓reduceIte])
 cases hd2 with
 | leaf r v _ sA wA sc wc hc hsr hwv e1 e2 e3 =>
  obtain ⟨q0, q0d, q0s⟩ := hc.raw (j := 0) (v := .slice sA r.length sc) rfl
  obtain ⟨q1, q1d, q1s⟩ := hc.raw (j := 1) (v := .slice wA v.length wc) rfl
  simp only [F4, Addr.add, ↓reduceIte, Nat.reduceAdd, Nat.reduceEqDiff, D9, if_false, Nat.zero_add, Nat.one_ne_zero] at q0 q0s q1 q1s
  have qD : B3.D a := q0d
  have heq := Br5 r (M0 key) r.length (M0 key).length B3 sA s2.1 sc s2.2 hsr hrs rfl rfl
  rw [decide_eq_true hr.symm] at heq
  refine Ax4 rfl Try.underlying112 rfl (A2 1000 ?_)
  repeat' (first | with_reducible refine And.intro (by first | omega | (constructor <;> assumption)) ?_ | simp (maxSteps := 4000000) (disch := omega) only [go_sem, ↓reduceIte, q0, q1] | refine G8 (heq) (by simp [closed, A0, A3, C6]) (A2 1000 ?_))
  refine F8 (Bi5 v v.length _ wA wc hwv rfl (by omega)) (fun _ => by simp [closed]) (fun s4 B4 hB4 hR4 => A2 1000 ?_)
  change BExt B3 B4 at hB4
  repeat' (simp (maxSteps := 4000000) (disch := omega) only [go_sem, ↓reduceIte])
  first | exact ⟨hB1.trans (hB2.trans (hB3.trans hB4)), s4, rfl, by simp [closed, A0], rfl, hR4⟩ | exact ⟨s4, by simp [closed, A0], hR4⟩ | exact ⟨s4, hR4⟩ | trace_state
end Go.Proofs.Ytncjbfkkgdepoaa
namespace Go.Proofs.Ytncjbfkkgdepoaa
open Go RowKit Go.Ew
set_option maxHeartbeats 4000000
def pkL (f : Nat → L64) : Nat → Nat
 | 0 => 0
 | n + 1 => pkL f n + (f n).toNat * 18446744073709551616 ^ n
def upL (S i : Nat) : L64 := BitVec.ofNat 64 (S / 18446744073709551616 ^ i)
theorem Cv6 (f : Nat → L64) : ∀ n, pkL f n < 18446744073709551616 ^ n
 | 0 => by simp [pkL]
 | n + 1 => by
  have ih := Cv6 f n
  have h := (f n).isLt
  rw [pkL, Nat.pow_succ]
  have h2 : (f n).toNat + 1 ≤ 18446744073709551616 := h
  have h3 := Nat.mul_le_mul_right (18446744073709551616 ^ n) h2
  rw [Nat.add_mul, Nat.one_mul] at h3
  rw [Nat.mul_comm (18446744073709551616 ^ n)]
  omega
theorem Cy6 (f : Nat → L64) : ∀ n i, i < n → upL (pkL f n) i = f i
 | n + 1, i, h => by
  have hlt := Cv6 f n
  by_cases hi : i = n
  ·subst hi
   rw [upL, pkL, Nat.add_mul_div_right _ _ (Nat.pow_pos (by decide)), Nat.div_eq_of_lt hlt, Nat.zero_add]
   simp
  ·have ih := Cy6 f n i (by omega)
   obtain ⟨d, rfl⟩ : ∃ d, n = i + d + 1 := ⟨n - i - 1, by omega⟩
   rw [← ih, upL, upL, pkL]
   apply BitVec.eq_of_toNat_eq
   rw [BitVec.toNat_ofNat, BitVec.toNat_ofNat]
   have e : (f (i + d + 1)).toNat * 18446744073709551616 ^ (i + d + 1) = ((f (i + d + 1)).toNat * 18446744073709551616 ^ d * 18446744073709551616) * 18446744073709551616 ^ i := by
    rw [Nat.pow_succ, Nat.pow_add]; ac_rfl
   rw [e, Nat.add_mul_div_right _ _ (Nat.pow_pos (by decide)), show (2 : Nat) ^ 64 = 18446744073709551616 by decide, Nat.add_mul_mod_self_right]
theorem Bf6 (rc : L64) {a b : Nat → L64} (h : ∀ j, j < 25 → a j = b j) (i : Nat) (hi : i < 25) : Ak6 rc a i = Ak6 rc b i := by
 have hC : ∀ x, x < 5 → thC a x = thC b x := fun x hx => by
  unfold thC
  rw [h x (by omega), h (x + 5) (by omega), h (x + 10) (by omega), h (x + 15) (by omega), h (x + 20) (by omega)]
 have hA : ∀ j, j < 25 → thA a 5 0 j = thA b 5 0 j := fun j hj => by
  simp only [thA, thD]
  rw [h j hj, hC _ (by omega), hC _ (by omega)]
 have hP : ∀ j, j < 25 → rpV (thA a 5 0) j = rpV (thA b 5 0) j := fun j hj => by
  unfold rpV
  rw [hA _ (by omega)]
 have hV : ∀ j, j < 25 → chV (rpV (thA a 5 0)) j = chV (rpV (thA b 5 0)) j := fun j hj => by
  unfold chV
  rw [hP _ hj, hP _ (by omega), hP _ (by omega)]
 simp only [Ak6, Ac5]
 rw [hV _ hi, hV 0 (by omega)]
def rcsL : List Nat := [1, 32898, 9223372036854808714, 9223372039002292224, 32907, 2147483649, 9223372039002292353, 9223372036854808585, 138, 136, 2147516425, 2147483658, 2147516555, 9223372036854775947, 9223372036854808713, 9223372036854808579, 9223372036854808578, 9223372036854775936, 32778, 9223372039002259466, 9223372039002292353, 9223372036854808704, 2147483649, 9223372039002292232]
theorem Da1 : (List.range 24).all (fun k => decide (rcF 168 k = BitVec.ofNat 64 (rcsL.getD k 0))) = true := by decide +kernel
def trsL : List Nat := [0, 1, 62, 28, 27, 36, 44, 6, 55, 20, 3, 10, 43, 25, 39, 41, 45, 15, 21, 8, 18, 2, 61, 56, 14]
theorem Cy8 : (List.range 25).all (fun i => decide (trn i = trsL.getD i 0)) = true := by decide +kernel
theorem Df8 {i : Nat} (h : i < 25) : trn i = trsL.getD i 0 := by
 have := List.all_eq_true.1 Cy8 i (List.mem_range.2 h)
 simpa using this
def cvC (a : Nat → L64) (i : Nat) : L64 := rot (a ((3 * (i / 5) + i % 5) % 5 + 5 * (i % 5))) (trsL.getD ((3 * (i / 5) + i % 5) % 5 + 5 * (i % 5)) 0)
def krC (rc : L64) (a : Nat → L64) (i : Nat) : L64 := if i = 0 then chV (cvC (thA a 5 0)) 0 ^^^ rc else chV (cvC (thA a 5 0)) i
theorem Di5 (rc : L64) (a : Nat → L64) (i : Nat) (hi : i < 25) : krC rc a i = Ak6 rc a i := by
 have hP : ∀ j, j < 25 → cvC (thA a 5 0) j = rpV (thA a 5 0) j := fun j hj => by
  rw [cvC, rpV, Df8 (by omega)]
 have hV : ∀ j, j < 25 → chV (cvC (thA a 5 0)) j = chV (rpV (thA a 5 0)) j := fun j hj => by
  rw [chV, chV, hP _ hj, hP _ (by omega), hP _ (by omega)]
 simp only [krC, Ak6, Ac5]
 rw [hV _ hi, hV 0 (by omega)]
def kpC (S : Nat) : Nat → Nat
 | 0 => S
 | k + 1 => pkL (krC (BitVec.ofNat 64 (rcsL.getD k 0)) (upL (kpC S k))) 25
theorem Cw7 (a : Nat → L64) : ∀ k, k ≤ 24 → ∀ i, i < 25 → upL (kpC (pkL a 25) k) i = X6 a k i
 | 0, _, i, hi => Cy6 a 25 i hi
 | k + 1, hk, i, hi => by
  have ih := Cw7 a k (by omega)
  have hrc : rcF 168 k = BitVec.ofNat 64 (rcsL.getD k 0) := by
   have := List.all_eq_true.1 Da1 k (List.mem_range.2 (by omega))
   simpa using this
  rw [kpC, Cy6 _ _ _ hi, Di5 _ _ _ hi, X6, hrc]
  exact Bf6 _ ih i hi
def Do1 (p : List UInt8) : List UInt8 := (List.range 32).map fun j => UInt8.ofNat ((upL (kpC (pkL (Bz7 (fun _ => 0) (De0 p) 0 17) 25) 24) (j / 8) >>> (8 * (j % 8))).toNat % 256)
theorem Bf7 (p : List UInt8) (h : p.length < 136) : Ae7 p = Do1 p := by
 have hN : (p.length + 1 + Ad3 p.length) / 136 = 1 := by unfold Ad3; omega
 unfold Ae7 Do1 J1
 rw [hN]
 apply List.map_congr_left
 intro j hj
 have hj := List.mem_range.1 hj
 have ha : Bj1 (De0 p) 1 = X6 (Bz7 (fun _ => 0) (De0 p) 0 17) 24 := rfl
 rw [ha, hF, Cw7 _ 24 (Nat.le_refl _) _ (by omega), n64]
 rfl
theorem Bm3 {p : List UInt8} {H : List UInt8} (h : Ae7 p = H) {i : Nat} (hi : i < 32) : J1 p i = ((H.getD i 0).toNat : Int) := by
 have hr := Av1 p i
 rw [← h, Ae7]
 have : ((List.range 32).map fun i => UInt8.ofNat (J1 p i).toNat).getD i 0 = UInt8.ofNat (J1 p i).toNat := by
  simp [List.getD, hi]
 rw [this, UInt8.toNat_ofNat_of_lt' (by show _ < 256; omega)]
 omega
def awL : List KV := [([100, 111], [118, 101, 114, 98]), ([100, 111, 103], [112, 117, 112, 112, 121]), ([100, 111, 103, 101], [99, 111, 105, 110]), ([104, 111, 114, 115, 101], [115, 116, 97, 108, 108, 105, 111, 110])]
theorem Dk3 : rtE awL = 0 := by decide +kernel
def awC : Nd := .br [.nil, .nil, .nil, .nil, .nil, .nil, .ext [7] (.br [.nil, .nil, .nil, .nil, .nil, .nil, .leaf [5] [99, 111, 105, 110], .nil, .nil, .nil, .nil, .nil, .nil, .nil, .nil, .nil] [112, 117, 112, 112, 121]), .nil, .nil, .nil, .nil, .nil, .nil, .nil, .nil, .nil] [118, 101, 114, 98]
def awA : Nd := .br [.nil, .nil, .nil, .nil, .ext [6, 15] awC, .nil, .nil, .nil, .leaf [6, 15, 7, 2, 7, 3, 6, 5] [115, 116, 97, 108, 108, 105, 111, 110], .nil, .nil, .nil, .nil, .nil, .nil, .nil] []
theorem awT : rtN awL 4 = .ext [6] awA := by kernel_rfl
theorem Au2 {t : Itm} (h : (H6 t).length < 32) : J8 t = t := by rw [J8, if_pos h]
theorem Bk8 {t : Itm} {f H : List UInt8} (hf : H6 t = f) (hl : (decide (f.length < 32)) = false) (hl2 : f.length < 136) (hk : Do1 f = H) : J8 t = txt H := by
 rw [J8, hf, if_neg (by simpa using hl), Bf7 _ hl2, hk]
theorem Du4 : J8 (D6 awC) = txt [212, 59, 135, 253, 205, 66, 23, 1, 60, 204, 146, 208, 70, 98, 225, 45, 54, 228, 204, 37, 220, 105, 0, 119, 205, 130, 26, 25, 86, 252, 62, 54] := by
 refine Bk8 (f := [243, 128, 128, 128, 128, 128, 128, 222, 23, 220, 128, 128, 128, 128, 128, 128, 198, 53, 132, 99, 111, 105, 110, 128, 128, 128, 128, 128, 128, 128, 128, 128, 133, 112, 117, 112, 112, 121, 128, 128, 128, 128, 128, 128, 128, 128, 128, 132, 118, 101, 114, 98]) ?_ (by decide +kernel) (by decide +kernel) (by decide +kernel)
 have h0 : J8 (D6 .nil) = txt [] := Au2 (by decide +kernel)
 have h1 : J8 (D6 (.leaf [5] [99, 111, 105, 110])) = D6 (.leaf [5] [99, 111, 105, 110]) := Au2 (by decide +kernel)
 have h2 : J8 (D6 (.br [.nil, .nil, .nil, .nil, .nil, .nil, .leaf [5] [99, 111, 105, 110], .nil, .nil, .nil, .nil, .nil, .nil, .nil, .nil, .nil] [112, 117, 112, 112, 121])) = lst (Y7 [.nil, .nil, .nil, .nil, .nil, .nil, .leaf [5] [99, 111, 105, 110], .nil, .nil, .nil, .nil, .nil, .nil, .nil, .nil, .nil] ++ [txt [112, 117, 112, 112, 121]]) := by
  rw [D6]
  refine Au2 ?_
  simp only [Y7, h0, h1]
  decide +kernel
 have h3 : ∀ k, k = Nd.ext [7] (.br [.nil, .nil, .nil, .nil, .nil, .nil, .leaf [5] [99, 111, 105, 110], .nil, .nil, .nil, .nil, .nil, .nil, .nil, .nil, .nil] [112, 117, 112, 112, 121]) → J8 (D6 k) = lst [txt (pfx [7] false), lst (Y7 [.nil, .nil, .nil, .nil, .nil, .nil, .leaf [5] [99, 111, 105, 110], .nil, .nil, .nil, .nil, .nil, .nil, .nil, .nil, .nil] ++ [txt [112, 117, 112, 112, 121]])] := fun k hk => by
  rw [hk, D6, h2]
  refine Au2 ?_
  simp only [Y7, h0, h1]
  decide +kernel
 have h4 := h3 _ rfl
 rw [awC, D6]
 simp only [Y7, h0, h1, h4]
 decide +kernel
theorem Du5 : J8 (D6 (.ext [6, 15] awC)) = txt [148, 169, 249, 91, 216, 150, 152, 228, 218, 24, 18, 224, 81, 128, 83, 129, 59, 77, 91, 135, 202, 175, 107, 60, 111, 165, 126, 158, 80, 192, 255, 104] := by
 refine Bk8 (f := [228, 130, 0, 111, 160, 212, 59, 135, 253, 205, 66, 23, 1, 60, 204, 146, 208, 70, 98, 225, 45, 54, 228, 204, 37, 220, 105, 0, 119, 205, 130, 26, 25, 86, 252, 62, 54]) ?_ (by decide +kernel) (by decide +kernel) (by decide +kernel)
 rw [D6, Du4]
 decide +kernel
theorem Du6 : J8 (D6 awA) = txt [189, 62, 229, 7, 230, 198, 124, 254, 252, 169, 143, 132, 190, 71, 193, 187, 192, 9, 49, 95, 171, 196, 64, 93, 180, 186, 50, 25, 3, 116, 87, 42] := by
 refine Bk8 (f := [248, 64, 128, 128, 128, 128, 160, 148, 169, 249, 91, 216, 150, 152, 228, 218, 24, 18, 224, 81, 128, 83, 129, 59, 77, 91, 135, 202, 175, 107, 60, 111, 165, 126, 158, 80, 192, 255, 104, 128, 128, 128, 207, 133, 32, 111, 114, 115, 101, 136, 115, 116, 97, 108, 108, 105, 111, 110, 128, 128, 128, 128, 128, 128, 128, 128]) ?_ (by decide +kernel) (by decide +kernel) (by decide +kernel)
 have h0 : J8 (D6 .nil) = txt [] := Au2 (by decide +kernel)
 have h1 : J8 (D6 (.leaf [6, 15, 7, 2, 7, 3, 6, 5] [115, 116, 97, 108, 108, 105, 111, 110])) = D6 (.leaf [6, 15, 7, 2, 7, 3, 6, 5] [115, 116, 97, 108, 108, 105, 111, 110]) := Au2 (by decide +kernel)
 rw [awA, D6]
 simp only [Y7, h0, h1, Du5]
 decide +kernel
theorem Dd4 : Ae7 (rtB awL) = [89, 145, 187, 140, 101, 20, 20, 138, 41, 219, 103, 106, 20, 172, 80, 108, 210, 205, 87, 117, 172, 230, 60, 48, 164, 254, 69, 119, 21, 233, 172, 132] := by
 have hf : rtB awL = [226, 22, 160, 189, 62, 229, 7, 230, 198, 124, 254, 252, 169, 143, 132, 190, 71, 193, 187, 192, 9, 49, 95, 171, 196, 64, 93, 180, 186, 50, 25, 3, 116, 87, 42] := by
  have h4 : awL.length = 4 := rfl
  rw [rtB, h4, awT, D6, Du6]
  decide +kernel
 rw [hf, Bf7 _ (by decide +kernel)]
 decide +kernel
theorem Du3 : J1 (rtB awL) 0 = 89 := Bm3 Dd4 (by decide)
theorem Du2 : J1 (rtB awL) 1 = 145 := Bm3 Dd4 (by decide)
theorem Dk4 : J1 (rtB awL) 31 = 132 := Bm3 Dd4 (by decide)
end Go.Proofs.Ytncjbfkkgdepoaa
namespace Go.Proofs.Ytncjbfkkgdepoaa
open Go RowKit Go.Ew
set_option maxHeartbeats 16000000
theorem Aj4 {C : Cx} {K : X → Prop} {f : FuncId} {dst : Option Tmp} {x : X} {args : List EV} (j : Nat) {cs : List EV} {T : TypeId} {fr : Nat × Nat} (hE : D4 C.P f) (hg : hget x.hs j = some (.cells cs T fr))
  (h : ∀ b B', BExt x.B B' → B'.D b → (∀ (off : Nat) (vs : List Value), (cs.drop off).take vs.length = vs.map D9 → CellsAt B' (some ⟨b, off, none⟩) vs) → ∃ args', A0 x.n args' ∧ (∀ bs : Nat → Nat, bs j = b → C2 bs args = C2 bs args') ∧ Y6 C f args' dst { x with hs := (j, none) :: x.hs, B := B' } K) : Y6 C f args dst x K := by
 refine ⟨hE, fun bs w hh hcla => ?_⟩
 obtain ⟨args', hc, he, hk⟩ := h (bs j) ⟨w, fun k => x.B.D k ∨ k = bs j⟩ ⟨fun _ h => .inl h, hh.ext.same, hh.ext.size, hh.ext.os, hh.ext.tape, hh.ext.output⟩ (.inr rfl) (fun off vs hcs => Ao0 hh hg hcs _ (.inr rfl))
 rw [he bs rfl]
 exact hk.2 bs w (hh.give hg) hc
theorem Cj1 {C : Cx} {Q : Exit → X → Prop} {f : FuncId} {dst : Option Tmp} {st : List It} {x : X} {args : List EV} (h : Y6 C f args dst x (Go.Ew.Next C Q st)) : Y8 C Q f args dst st x := fun _ => .inr h
theorem Dq5 {C : Cx} {Q : Exit → X → Prop} {o : Oper} {st : List It} {x : X} {T R e : TypeId} {a : Operand} {ad : Addr} (hop : o.op = .binOp .eql T a (.const (.pointer none)) R) (ht : C.P.underlying T = some (.pointer e))
  (ha : ev x.σ a = .raw (.pointer (some ad))) (hk : Go.Ew.Next C Q st { σ := put x.σ o.dst (.bool false), n := x.n, hs := x.hs, B := x.B, ms := x.ms }) : opS C Q o st x := by
 refine Ac3 (.bool false) (by rw [hop]; simp) trivial ?_ hk
 intro bs ac w hr
 obtain ⟨dst, op, type, pos, after, guard⟩ := o
 simp only at hop; subst hop
 have ea := E7 hr.t a (by rw [ha]; simp)
 rw [ha] at ea
 have eb : ac.eval (.const (.pointer none)) = .pointer none := rfl
 have h1 : eqGuard .eql T a (.const (.pointer none)) (.pointer (some ad)) (.pointer none) = pure () := rfl
 simp only [execOp, ea, eb, real, h1, Sem.run_bind, Sem.run_pure, Result.andThen_ok, Ap7 w ht]
/-- A constant text as bytes: what is behind its block's end is marked. -/
theorem Ba6 {C : Cx} {Q : Exit → X → Prop} {o : Oper} {st : List It} {x : X} {s T : TypeId} {a : Operand} {i off len cap : Nat} {cs : List EV} {T' : TypeId} (hop : o.op = .convert s s a)
  (hs : C.P.underlying s = some (.slice T)) (hT : C.P.underlying T = some (.int .u8)) (ha : ev x.σ a = .sl i off len cap) (hg : hget x.hs i = some (.cells cs T' (0, 0)))
  (hk : Go.Ew.Next C Q st { σ := put x.σ o.dst (.sl i off len cap), n := x.n, hs := (i, some (.cells cs T' (cs.length, cs.length + 1))) :: x.hs, B := x.B, ms := x.ms }) : opS C Q o st x := by
 intro hd bs ac w hr Q'
 obtain ⟨dst, op, type, pos, after, guard⟩ := o
 simp only at hop hd hk; subst hop
 have ea := E7 hr.t a (by rw [ha]; simp)
 rw [ha] at ea
 have hlive := (hr.h.live i _ hg).2
 simp only [EObj.real] at hlive
 have hlt := I8 hlive
 have hsh : w.shape? (bs i) = some (T', cs.length) := by
  unfold World.shape?
  rw [hlive]
  simp [C3]
 have hfr : w.freeze ⟨bs i, cs.length, none⟩ 1 = L9 w (bs i) ((EObj.cells cs T' (cs.length, cs.length + 1)).real bs) := by
  unfold World.freeze
  rw [if_neg (by decide)]
  unfold L9
  congr 1
  apply Array.ext_getElem?
  intro q
  rw [Array.getElem?_modify, Array.getElem?_setIfInBounds]
  by_cases hq : bs i = q
  ·subst hq
   simp only [if_true, hlive, Option.map_some, EObj.real]
   rw [if_pos hlt]
   simp
  ·rw [if_neg hq, if_neg hq]
 refine ⟨fun _ _ => trivial, ?_⟩
 rw [Oper.semAt_eq _ _ _ (by intro c; simp)]
 have hrun : (execOp ac.eval { dst := dst, op := .convert s s a, type := type, pos := pos, after := after, guard := guard }).run C.P w = .ok (.value (real bs (.sl i off len cap))) (L9 w (bs i) ((EObj.cells cs T' (cs.length, cs.length + 1)).real bs)) := by
  simp only [execOp, ea, real, Sem.run_bind]
  simp [convert, run_underlying hs, run_underlying hT, markStringish, hsh, hfr]
 rw [hrun]
 have hcl := hr.h.cl i _ hg
 exact ⟨_, bs, ⟨hr.t.next (Nat.le_refl _) (fun _ _ => rfl) hd (v := .sl i off len cap) (.inr rfl) (by simp only [closed]; exact (hr.h.live i _ hg).1), hr.h.store hg (.cells cs T' (cs.length, cs.length + 1)) hcl⟩, hk⟩
theorem By6 (B : Base) : Does Try.prog 15 [] B (fun _ : Unit => .bool true) (fun _ _ => True) := by
 refine K2 Eg6 (fun s B B' hB hR => hR) Try.func15 rfl Ec5 (by simp [Try.f15]) (by simp [A0, closed]) (fun B0 hB0 => A2 1000 ?_)
 have hcl : ∀ p n, A0 n (D5 .u8 (J1 p) 32) := fun p n => A3 _ _ _ _
 have hsp : ∀ p, H5 (D5 .u8 (fun _ => 0) 32) 0 (D5 .u8 (J1 p) 32) = D5 .u8 (J1 p) 32 := fun p => by rw [← O9]; exact N8 (K5 _) (by omega) _
 have hz32 : ∀ n, A0 n (D5 .u8 (fun _ => 0) 32) := fun n => A3 _ _ _ _
 have hoP : ∀ q : Pr, G2 (Pr.E q) = true := fun q => rfl
 have hcP : ∀ (q : Pr) n, A0 n (Pr.E q) := fun q n => by simp [Pr.E, A0, closed]
 repeat' (simp (maxSteps := 4000000) (disch := omega) only [go_sem, ↓reduceIte, Try.f15])
 refine F8 (Ay8 B0 ⟨#[100, 111]⟩ ⟨#[118, 101, 114, 98]⟩ (by decide +kernel) (by decide +kernel)) (fun _ => by simp [closed, hcP]) (fun s1 B1 hB1 hR1 => A2 1000 ?_)
 change BExt B0 B1 at hB1
 repeat' (simp (maxSteps := 4000000) (disch := omega) only [go_sem, ↓reduceIte])
 refine F8 (Ay8 B1 ⟨#[100, 111, 103]⟩ ⟨#[112, 117, 112, 112, 121]⟩ (by decide +kernel) (by decide +kernel)) (fun _ => by simp [closed, hcP]) (fun s2 B2 hB2 hR2 => A2 1000 ?_)
 change BExt B1 B2 at hB2
 repeat' (simp (maxSteps := 4000000) (disch := omega) only [go_sem, ↓reduceIte])
 refine F8 (Ay8 B2 ⟨#[100, 111, 103, 101]⟩ ⟨#[99, 111, 105, 110]⟩ (by decide +kernel) (by decide +kernel)) (fun _ => by simp [closed, hcP]) (fun s3 B3 hB3 hR3 => A2 1000 ?_)
 change BExt B2 B3 at hB3
 repeat' (simp (maxSteps := 4000000) (disch := omega) only [go_sem, ↓reduceIte])
 refine F8 (Ay8 B3 ⟨#[104, 111, 114, 115, 101]⟩ ⟨#[115, 116, 97, 108, 108, 105, 111, 110]⟩ (by decide +kernel) (by decide +kernel)) (fun _ => by simp [closed, hcP]) (fun s4 B4 hB4 hR4 => A2 1000 ?_)
 change BExt B3 B4 at hB4
 repeat' (first | with_reducible refine And.intro (by first | omega | (simp; done)) ?_ | simp (maxSteps := 4000000) (disch := omega) only [go_sem, ↓reduceIte, hoP, Pr.E, Bs.v])
 have hok : ∀ B', BExt B4 B' → ∀ q ∈ [s1, s2, s3, s4], q.k.Ok B' ∧ q.v.Ok B' := fun B' hB' q hq => by
  simp only [List.mem_cons, List.not_mem_nil, or_false] at hq
  rcases hq with rfl | rfl | rfl | rfl
  ·exact ⟨(((hR1.1.ext hB2).ext hB3).ext hB4).ext hB', (((hR1.2.1.ext hB2).ext hB3).ext hB4).ext hB'⟩
  ·exact ⟨((hR2.1.ext hB3).ext hB4).ext hB', ((hR2.2.1.ext hB3).ext hB4).ext hB'⟩
  ·exact ⟨(hR3.1.ext hB4).ext hB', (hR3.2.1.ext hB4).ext hB'⟩
  ·exact ⟨hR4.1.ext hB', hR4.2.1.ext hB'⟩
 have hkv : [s1, s2, s3, s4].map Pr.kv = awL := by
  simp only [List.map_cons, List.map_nil, hR1.2.2, hR2.2.2, hR3.2.2, hR4.2.2]; rfl
 have hrt := fun (B5 : Base) ad5 cap5 (hps : PrsAt B5 ad5 [s1, s2, s3, s4]) => Ax5 B5 [s1, s2, s3, s4] 4 ad5 cap5 hps rfl
 have hH : rtH awL = D5 .u8 (J1 (rtB awL)) 32 := by rw [rtH, if_pos Dk3]
 simp only [hkv, hH, Dk3] at hrt
 have k0 := Du3
 have k1 := Du2
 have k31 := Dk4
 obtain ⟨P, hP⟩ : ∃ P, P = rtB awL := ⟨_, rfl⟩
 rw [← hP] at hrt k0 k1 k31
 refine Aq5 0 0 4 4 [] ([s1, s2, s3, s4].flatMap Pr.cells) Dw6 rfl rfl rfl (fun s => by simp [closed, A0, hcl]) (fun B ad cap hB hC => hrt B ad cap ⟨hC, hok B hB, by simp⟩) (fun _ B6 hB6 _ => A2 1000 ?_)
 change BExt B4 B6 at hB6
 repeat' (simp (maxSteps := 4000000) (disch := omega) only [go_sem, ↓reduceIte, hsp])
 refine F8 (Cd9 B6) (fun _ => by simp [closed]) (fun ma B7 hB7 _ => A2 1000 ?_)
 change BExt B6 B7 at hB7
 repeat' (simp (maxSteps := 4000000) (disch := omega) only [go_sem, ↓reduceIte])
 refine Bl5 rfl Try.underlying39 rfl (A2 1000 ?_)
 repeat' (simp (maxSteps := 4000000) (disch := omega) only [go_sem, ↓reduceIte])
 refine F8 (Ab7 B7) (fun _ => by simp [closed, A0, hcl]) (fun _ B8 hB8 _ => A2 1000 ?_)
 change BExt B7 B8 at hB8
 repeat' (simp (maxSteps := 4000000) (disch := omega) only [go_sem, ↓reduceIte])
 refine Bh7 [] (Cw2 B8 (.iface 39 (.pointer (some ⟨ma, 0, none⟩))) (.inr ⟨_, _, rfl⟩)) (by simp [W6, ren, Ah7]) rfl (by simp) (by simp) (by simp) (by simp) (fun _ B9 hB9 _ => A2 1000 ?_)
 change BExt B8 B9 at hB9
 simp only [Ar6, rho, ren, trO, EObj.ren, W6]
 have c0 : ((89 : Int) == 89) = true := rfl
 repeat' (simp (maxSteps := 4000000) (disch := omega) only [go_sem, ↓reduceIte, k0, k1, k31])
 refine Dq5 rfl Try.underlying39 rfl (A2 1000 ?_)
 repeat' (first | with_reducible refine And.intro (by first | omega | (simp; done)) ?_ | simp (maxSteps := 4000000) (disch := omega) only [go_sem, ↓reduceIte])
 refine F8 (Ab7 B9) (fun _ => by simp [closed, A0, hcl]) (fun _ B10 hB10 _ => A2 1000 ?_)
 change BExt B9 B10 at hB10
 repeat' (simp (maxSteps := 4000000) (disch := omega) only [go_sem, ↓reduceIte])
 refine F8 (Bd8 B10) (fun _ => by simp [closed, A0, hcl]) (fun _ B11 hB11 _ => A2 1000 ?_)
 change BExt B10 B11 at hB11
 repeat' (simp (maxSteps := 4000000) (disch := omega) only [go_sem, ↓reduceIte])
 refine ⟨by simp [D5, EV.isInt], by simp, ?_⟩
 refine Ba6 rfl Try.underlying22 Try.underlying5 rfl rfl (A2 1000 ?_)
 repeat' (first | with_reducible refine And.intro (by first | omega | (simp; done)) ?_ | simp (maxSteps := 4000000) (disch := omega) only [go_sem, ↓reduceIte])
 refine Ba6 rfl Try.underlying22 Try.underlying5 rfl rfl (A2 1000 ?_)
 repeat' (simp (maxSteps := 4000000) (disch := omega) only [go_sem, ↓reduceIte])
 refine Cj1 (Aj4 3 Dr1 rfl (fun b1 B12 hB12 hD12 hC12 => ⟨[.ptr 2 0, .raw (.slice (some ⟨b1, 0, none⟩) 1 1), .sl 4 0 1 1], by simp [A0, closed], fun bs hbs => by simp [C2, real, hbs], Aj4 4 Dr1 rfl (fun b2 B13 hB13 hD13 hC13 => ⟨[.ptr 2 0, .raw (.slice (some ⟨b1, 0, none⟩) 1 1), .raw (.slice (some ⟨b2, 0, none⟩) 1 1)], by simp [A0, closed], fun bs hbs => by simp [C2, real, hbs],
  Am3 2 (Ca2 (f := 200) (key := [97]) (v := [98]) B13 (.iface 39 (.pointer (some ⟨ma, 0, none⟩))) .nilIface .nil .nil ((hC12 0 [bV 97] rfl).ext hB13) (hC13 0 [bV 98] rfl) rfl rfl (by decide) (by decide) (by decide) (by decide)) (BExt.refl _) rfl (fun _ => by simp [closed, A0]) (E2 _ _) (fun _ => E2 _ _) (fun u B14 hB14 hR14 => A2 1000 ?_)⟩)⟩))
 change BExt B11 B12 at hB12
 change BExt B13 B14 at hB14
 change BExt B12 B13 at hB13
 have hN : NdAt B14 (.leaf (M0 [97]) [98]) u := hR14
 repeat' (first | with_reducible refine And.intro (by first | omega | (simp; done)) ?_ | simp (maxSteps := 4000000) (disch := omega) only [go_sem, ↓reduceIte, trO])
 refine Ba6 rfl Try.underlying22 Try.underlying5 rfl rfl (A2 1000 ?_)
 repeat' (simp (maxSteps := 4000000) (disch := omega) only [go_sem, ↓reduceIte])
 refine Cj1 (Aj4 5 Dw5 rfl (fun b3 B15 hB15 hD15 hC15 => ⟨[.ptr 2 0, .raw (.slice (some ⟨b3, 0, none⟩) 1 1)], by simp [A0, closed], fun bs hbs => by simp [C2, real, hbs],
  Am3 2 (Bj7 (key := [97]) (v := [98]) B15 (.iface 39 (.pointer (some ⟨ma, 0, none⟩))) u (hN.ext' hB15) (hC15 0 [bV 97] rfl) rfl (by decide) rfl (by decide)) (BExt.refl _) rfl (fun _ => by simp [closed, A0]) (E2 _ _) (fun _ => E2 _ _) (fun s16 B16 hB16 hR16 => A2 1000 ?_)⟩))
 change BExt B14 B15 at hB15
 change BExt B15 B16 at hB16
 have h98 : Bj9 [98] = ⟨#[98]⟩ := by rw [Ax8]
 repeat' (simp (maxSteps := 4000000) (disch := omega) only [go_sem, ↓reduceIte, trO])
 refine Bv3 [98] rfl Try.underlying22 Try.underlying5 Try.underlying9 rfl rfl hR16.1 (A2 1000 ?_)
 rw [h98]
 repeat' (first | with_reducible refine And.intro (by first | omega | (simp; done)) ?_ | simp (maxSteps := 4000000) (disch := omega) only [go_sem, ↓reduceIte])
 refine W3 (vf := fun s : Option Addr × Nat => .raw (.slice s.1 2 s.2)) 6 0 1 1 [] [18] Dw7 (by simp [A0]) rfl rfl rfl (fun s => by simp [closed]) (fun B ad cap hB hb => Ai5 [18] 1 B ad cap hb rfl (by omega)) (fun s17 B17 hB17 hR17 => A2 1000 ?_)
 change BExt B16 B17 at hB17
 repeat' (simp (maxSteps := 4000000) (disch := omega) only [go_sem, ↓reduceIte])
 have hAll : BExt B0 B17 := hB1.trans (hB2.trans (hB3.trans (hB4.trans (hB6.trans (hB7.trans (hB8.trans (hB9.trans (hB10.trans (hB11.trans (hB12.trans (hB13.trans (hB14.trans (hB15.trans (hB16.trans hB17))))))))))))))
 first | exact ⟨hAll, (), rfl, by simp [closed], trivial⟩ | exact ⟨hAll, (), rfl, by simp [closed]⟩ | exact ⟨(), by simp [closed]⟩ | exact ⟨hAll, (), by simp [closed]⟩ | trace_state
end Go.Proofs.Ytncjbfkkgdepoaa
