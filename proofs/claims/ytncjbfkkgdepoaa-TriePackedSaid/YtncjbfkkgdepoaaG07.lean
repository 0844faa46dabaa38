/- Part of a proof over the seat Ytncjbfkkgdepoaa. -/
import Derived.Test.YtncjbfkkgdepoaaG05
import Derived.Test.YtncjbfkkgdepoaaEng2
import Derived.Test.YtncjbfkkgdepoaaShelf
set_option linter.unusedSimpArgs false
set_option linter.unusedVariables false
set_option maxRecDepth 100000
namespace Go.Proofs.Ytncjbfkkgdepoaa
open Go RowKit Go.Ew
set_option maxHeartbeats 4000000
theorem Cw8 : C5 Try.f125.ntmps (Try.f125.body.getD .skip) = true := by kernel_rfl
theorem Cw9 : C5 Try.f124.ntmps (Try.f124.body.getD .skip) = true := by kernel_rfl
theorem Cx0 : C5 Try.f121.ntmps (Try.f121.body.getD .skip) = true := by kernel_rfl
theorem Cx1 : C5 Try.f120.ntmps (Try.f120.body.getD .skip) = true := by kernel_rfl
theorem Cx4 : C5 Try.f113.ntmps (Try.f113.body.getD .skip) = true := by kernel_rfl
theorem evi {k : IntKind} {a b : Int} : (EV.int k a = EV.int k b) ↔ a = b := by simp
theorem Cj8 (a : Int) (h0 : 0 ≤ a) (h1 : a < 18446744073709551616) : Pure Try.prog 126 [.int .u64 a] (.int .i64 (blen a.toNat)) :=
 ⟨Cy9, trivial, fun bs w => (Go.Proofs.Try.bits_Len64 a w h0 (by omega)).mono (by rintro e w' ⟨rfl, rfl⟩; exact ⟨by rw [Bw5 (by omega)]; rfl, Below.refl' _ _⟩)⟩
theorem Cr8 (x : Nat) (hx : x < 115792089237316195423570985008687907853269984665640564039457584007913129639936) : Pure Try.prog 125 [wE x] (.int .i64 (blen x)) := by
 obtain ⟨a, b, c, d, hw, hl⟩ := Cg9 x hx
 rw [hw]
 obtain ⟨a0, a1, b0, b1, c0, c1, d0, d1, v⟩ := hl
 have la := At8 (n := a.toNat) (by omega)
 have lb := At8 (n := b.toNat) (by omega)
 have lc := At8 (n := c.toNat) (by omega)
 have ld := At8 (n := d.toNat) (by omega)
 refine V5 (args := [.agg [.int .u64 a, .int .u64 b, .int .u64 c, .int .u64 d]]) Cz0 (by simp [closed, A0, C4, A2]) Try.func125 rfl Cw8 (by simp [Try.f125]) (by simp [A0, closed, C4, A2]) (fun w => A3 1000 ?_)
 simp (maxSteps := 4000000) (disch := omega) only [go_sem, ↓reduceIte, Try.f125]
 repeat (with_reducible refine And.intro (by omega) ?_)
 refine Ax1 5 ?_
 repeat' (first | simp (maxSteps := 4000000) (disch := omega) only [go_sem, ↓reduceIte] | with_reducible refine Co1 (A3 1000 ?_) | refine R4 (Cj8 _ (by omega) (by omega)) (A3 1000 ?_) | with_reducible refine A3 1000 ?_ | ((first | refine A6 (fun h => ?_) (fun h => ?_) | refine D9 (fun h => ?_) (fun h => ?_) | refine T3 (fun h => ?_) (fun h => ?_)) <;> (try simp only [bne_iff_ne, ne_eq, beq_iff_eq, decide_eq_true_eq, decide_eq_false_iff_not, Bool.not_eq_true, Bool.not_eq_false, Bool.not_true, Bool.not_false, bne_eq_false_iff_eq, beq_eq_false_iff_ne, Bool.and_eq_true, Bool.or_eq_true, Bool.and_eq_false_imp, Bool.or_eq_false_iff, Bool.not_eq_true', Bool.not_eq_false', Int.not_lt, Int.not_le] at h) <;> (try (exfalso; omega))))
 ·have := At7 (d := d.toNat) (r := x - d.toNat * 2 ^ 192) (s := 192) (by omega) (by omega)
  rw [show d.toNat * 2 ^ 192 + (x - d.toNat * 2 ^ 192) = x by omega] at this
  rw [evi, this]; omega
 ·have := At7 (d := c.toNat) (r := x - c.toNat * 2 ^ 128) (s := 128) (by omega) (by omega)
  rw [show c.toNat * 2 ^ 128 + (x - c.toNat * 2 ^ 128) = x by omega] at this
  rw [evi, this]; omega
 ·have := At7 (d := b.toNat) (r := x - b.toNat * 2 ^ 64) (s := 64) (by omega) (by omega)
  rw [show b.toNat * 2 ^ 64 + (x - b.toNat * 2 ^ 64) = x by omega] at this
  rw [evi, this]; omega
 ·have : a.toNat = x := by omega
  rw [evi, this]; omega
 ·have : x = 0 := by omega
  rw [this]; rfl
theorem Cl4 (n i : Nat) (hi : i < 32) : dig 18446744073709551616 n (i / 8) / 2 ^ (8 * (i % 8)) % 256 = dig 256 n i := by
 have e : (18446744073709551616 : Nat) = 2 ^ 64 := by decide
 have e8 : (256 : Nat) = 2 ^ 8 := by decide
 have e2 : n / 256 ^ i = n / 2 ^ (64 * (i / 8)) / 2 ^ (8 * (i % 8)) := by
  rw [e8, ← Nat.pow_mul, Nat.div_div_eq_div_mul, ← Nat.pow_add]; congr 2; omega
 rw [dig, dig, e2, e, ← Nat.pow_mul]
 generalize n / 2 ^ (64 * (i / 8)) = q
 have h3 : 2 ^ 64 = 2 ^ (8 * (i % 8)) * 2 ^ (64 - 8 * (i % 8)) := by rw [← Nat.pow_add]; congr 1; omega
 have h4 : q % 2 ^ 64 / 2 ^ (8 * (i % 8)) % 256 = q / 2 ^ (8 * (i % 8)) % 256 := by
  rw [h3, Nat.mod_mul_right_div_self, show 64 - 8 * (i % 8) = 8 + (56 - 8 * (i % 8)) by omega, Nat.pow_add, ← e8, Nat.mod_mul_right_mod]
 rw [← h4]
 simp
/-- How many bytes a word needs. -/
def nby (x : Nat) : Nat := (blen x + 7) / 8
theorem Cp2 {x : Nat} (hx : x < 115792089237316195423570985008687907853269984665640564039457584007913129639936) : nby x ≤ 32 := by
 have : blen x ≤ 256 := blen_le.2 (by omega)
 unfold nby; omega
theorem Da8 (x i : Nat) (hi : i < 32) : IntKind.u8.wrap (Cg4 .u64 (dig 18446744073709551616 x ((i : Int) / 8).toNat) (8 * ((i : Int) % 8))) = dig 256 x i := by
 have h0 := Cr2 18446744073709551616 x ((i : Int) / 8).toNat
 have e1 : ((i : Int) / 8).toNat = i / 8 := by omega
 have e2 : (8 * ((i : Int) % 8)).toNat = 8 * (i % 8) := by omega
 rw [Bj1 h0 (by omega) (by omega), e2, e1, ← Cl4 x i hi]
 rfl
theorem Cl3 (x : Nat) (hx : x < 115792089237316195423570985008687907853269984665640564039457584007913129639936) : Pure Try.prog 124 [wE x] (.agg (C8 .u8 (fun j => dig 256 x (31 - j)) 32)) := by
 rw [Ch0 x]
 refine V5 (args := [.agg (C8 .u64 (dig 18446744073709551616 x) 4)]) Cz1 (by simp [closed, A0, C4, A2]) Try.func124 rfl Cw9 (by simp [Try.f124]) (by simp [A0, closed, C4, A2]) (fun w => A3 1000 ?_)
 simp (maxSteps := 4000000) (disch := omega) only [go_sem, ↓reduceIte, Try.f124]
 repeat (with_reducible refine And.intro (by omega) ?_)
 skip
 refine G1 (S := Nat × (Nat → Int)) (fun s => s.1 ≤ 32 ∧ ∀ j, j < 32 → 32 - s.1 ≤ j → s.2 j = dig 256 x (31 - j))
  (fun s => ⟨[(5, .int .i64 (s.1 : Nat)), (3, .ptr 2 0), (2, .ptr 1 0), (1, .ptr 0 0)], 3,
   [(2, some (.cells (C8 .u8 s.2 32) 44 (0, 0))), (1, some (.cells (C8 .u8 (fun _ => 0) 32) 44 (0, 0))), (0, some (.cells (C8 .u64 (dig 18446744073709551616 x) 4) 208 (0, 0)))], base w, []⟩)
  (fun s => 32 - s.1) (0, fun _ => 0) ⟨by omega, fun j h1 h2 => by simp only at h2; omega⟩ (Weak.sub (A5 (by simp [wσ, go_sem, closed, A0, A2]) (by simp [whs, go_sem, EObj.closed, closed, A0, A2]) (by simp [*]) rfl rfl (by simp))) ?_
 rintro ⟨i, z⟩ ⟨hi, hz⟩
 simp only at hi hz
 refine A3 1000 ?_
 simp (maxSteps := 4000000) (disch := omega) only [go_sem, ↓reduceIte]
 repeat (with_reducible refine And.intro (by omega) ?_)
 refine A6 (fun h => ?_) (fun h => ?_)
 all_goals (try simp only [bne_iff_ne, ne_eq, beq_iff_eq, decide_eq_true_eq, decide_eq_false_iff_not, Bool.not_eq_true, Bool.not_eq_false, Bool.not_true, Bool.not_false, bne_eq_false_iff_eq, beq_eq_false_iff_ne, Bool.and_eq_true, Bool.or_eq_true, Bool.and_eq_false_imp, Bool.or_eq_false_iff, Bool.not_eq_true', Bool.not_eq_false', Int.not_lt, Int.not_le] at h)
 ·have e1 : ((31 : Int) - (i : Int)).toNat = 31 - i := by omega
  have hb := Da8 x i (by omega)
  repeat' (first | with_reducible refine And.intro (by omega) ?_ | simp (maxSteps := 4000000) (disch := omega) only [go_sem, ↓reduceIte, hb, e1])
  refine ⟨(i + 1, Bp2 z (31 - i) (dig 256 x i)), ⟨by show i + 1 ≤ 32; omega, ?_⟩, Weak.sub (A5 (by simp [wσ, go_sem, closed, A0, A2]) (by simp [whs, go_sem, EObj.closed, closed, A0, A2]) (by simp [*]) rfl rfl (by simp)), by show 32 - (i + 1) < 32 - i; omega⟩
  intro j h1 h2
  simp only [Bp2] at h2 ⊢
  split
  ·rename_i e; rw [show 31 - j = i by omega]
  ·exact hz j h1 (by omega)
 ·have hi : i = 32 := by omega
  subst hi
  simp (maxSteps := 4000000) (disch := omega) only [go_sem, ↓reduceIte]
  repeat (with_reducible refine And.intro (by omega) ?_)
  repeat' (first | simp (maxSteps := 4000000) (disch := omega) only [go_sem, ↓reduceIte] | with_reducible refine A3 1000 ?_)
  rw [X4 (fun j hj => hz j hj (by omega))]
theorem De5 (n : Nat) (h : n < 18446744073709551616) : Pure Try.prog 121 [.int .u64 (n : Int)] (wE n) := by
 refine V5 (args := [.int .u64 (n : Int)]) Cz2 (by simp [closed, A0, C4, A2]) Try.func121 rfl Cx0 (by simp [Try.f121]) (by simp [A0, closed, C4, A2]) (fun w => A3 1000 ?_)
 simp (maxSteps := 4000000) (disch := omega) only [go_sem, ↓reduceIte, Try.f121]
 repeat (with_reducible refine And.intro (by omega) ?_)
 skip
 exact Cu9 (by constructor <;> omega)
theorem Bt1 (k : IntKind) (z : Nat → Int) (n a L : Nat) (h : a + L ≤ n) : ((C8 k z n).drop a).take L = C8 k (fun j => z (a + j)) L := by
 apply List.ext_getElem
 ·simp [C8]; omega
 ·intro i h1 h2
  simp [C8]
/-- A number's bytes, the highest first. -/
def leB (x : Nat) : List UInt8 := (List.range (nby x)).map fun i => UInt8.ofNat (x / 256 ^ (nby x - 1 - i) % 256)
theorem Ar2 (x : Nat) : (leB x).length = nby x := by simp [leB]
theorem Cp7 (x : Nat) : (leB x).map bE = C8 .u8 (fun i => dig 256 x (nby x - 1 - i)) (nby x) := by
 simp only [leB, C8, List.map_map]
 apply List.map_congr_left
 intro i _
 simp only [Function.comp_def, bE, dig]
 have : x / 256 ^ (nby x - 1 - i) % 256 < 256 := Nat.mod_lt _ (by omega)
 rw [UInt8.toNat_ofNat_of_lt' (by simpa using this)]
theorem Ca3 (x : Nat) (hx : x < 115792089237316195423570985008687907853269984665640564039457584007913129639936) (B : Base) :
  Does Try.prog 120 [wE x] B (fun s : Option Addr × Nat => .raw (.slice s.1 (nby x) s.2)) (fun s B' => BytesAt B' s.1 (leB x) ∧ nby x ≤ s.2) := by
 refine J9 Cz3 (fun s B B' hB hR => ⟨hR.1.ext hB, hR.2⟩) Try.func120 rfl Cx1 (by simp [Try.f120]) (by simp [A0, C4]) (fun B0 hB0 => A3 1000 ?_)
 have hL := Cp2 hx
 have c1 := Cl3 x hx
 have c2 := Cr8 x hx
 have eL : ((blen x : Int) + 7) / 8 = (nby x : Int) := by unfold nby; omega
 have eF : (32 - (nby x : Int)).toNat = 32 - nby x := by omega
 have e3 : 32 - (32 - nby x) = nby x := by omega
 obtain ⟨o, ho, ho2, ho3⟩ : ∃ o, (if 32 = 32 - nby x then 0 else 32 - nby x) = o ∧ o + nby x ≤ 32 ∧ (nby x ≠ 0 → o = 32 - nby x) := by
  by_cases h0 : nby x = 0
  ·exact ⟨0, by rw [if_pos (by omega)], by omega, fun h => absurd h0 h⟩
  ·exact ⟨32 - nby x, by rw [if_neg (by omega)], by omega, fun _ => rfl⟩
 have he : ((C8 .u8 (fun j => dig 256 x (31 - j)) 32).drop o).take (nby x * 1) = ((leB x).map bV).map C9 := by
  rw [Cf0, Cp7, Nat.mul_one, Bt1 _ _ _ _ _ ho2]
  exact X4 fun i hi => by rw [ho3 (by omega)]; congr 1; omega
 repeat' (first | with_reducible refine And.intro (by first | omega | (simp; omega)) ?_ | simp (maxSteps := 4000000) (disch := omega) only [go_sem, ↓reduceIte, Try.f120, eL, eF, e3, ho] | refine R4 (c1) (A3 1000 ?_) | refine R4 (c2) (A3 1000 ?_))
 refine Dl8 (T := 5) (m := nby x) (cs := (leB x).map bV) 1 rfl Try.underlying22 (.inl ⟨_, Try.underlying22⟩) zr5 cz5 rfl (by omega) hz8 rfl ⟨_, J5 rfl he, by rw [X3]; omega⟩ (by simp [Ar2]) (by rw [Cf0]; exact Bx0 _) (by simp only [maxLen]; omega) (by rw [show Try.prog.bytesOf 5 = 1 from by5]; omega) (fun ad cap B2 hB2 hc hcap => A3 1000 ?_)
 repeat' (first | with_reducible refine And.intro (by omega) ?_ | simp (maxSteps := 4000000) (disch := omega) only [go_sem, ↓reduceIte])
 exact ⟨⟨ad, cap⟩, rfl, by simp [closed], hc, hcap⟩
theorem Bq2 (n : Nat) (h : n < 18446744073709551616) (B : Base) :
  Does Try.prog 113 [.int .u64 (n : Int)] B (fun s : Option Addr × Nat => .raw (.slice s.1 (nby n) s.2)) (fun s B' => BytesAt B' s.1 (leB n) ∧ nby n ≤ s.2) := by
 refine J9 Cz5 (fun s B B' hB hR => ⟨hR.1.ext hB, hR.2⟩) Try.func113 rfl Cx4 (by simp [Try.f113]) (by simp [A0, closed]) (fun B0 hB0 => A3 1000 ?_)
 repeat' (first | simp (maxSteps := 4000000) (disch := omega) only [go_sem, ↓reduceIte, Try.f113] | refine R4 (De5 n h) (A3 1000 ?_))
 refine F4 (Ca3 n (by omega) _) (fun _ => by simp [closed]) (fun s B2 hB2 hR => A3 1000 ?_)
 repeat' (first | with_reducible refine And.intro (by omega) ?_ | simp (maxSteps := 4000000) (disch := omega) only [go_sem, ↓reduceIte])
 exact ⟨s, rfl, by simp [closed], hR⟩
end Go.Proofs.Ytncjbfkkgdepoaa
namespace Go.Proofs.Ytncjbfkkgdepoaa
open Go RowKit Go.Ew
set_option maxHeartbeats 4000000
theorem Cx3 : C5 Try.f116.ntmps (Try.f116.body.getD .skip) = true := by kernel_rfl
theorem Cx6 : C5 Try.f106.ntmps (Try.f106.body.getD .skip) = true := by kernel_rfl
inductive Itm where
 | mk (list : Int) (bytes : List UInt8) (kids : List Itm)
def Itm.list : Itm → Int | .mk l _ _ => l
def Itm.bytes : Itm → List UInt8 | .mk _ b _ => b
def Itm.kids : Itm → List Itm | .mk _ _ k => k
/-- Where an item's parts lie. -/
structure Plc where
 bA : Option Addr
 bc : Nat
 kA : Option Addr
 kc : Nat
abbrev itE (t : Itm) (s : Plc) : List EV := [.int .i64 t.list, .raw (.slice s.bA t.bytes.length s.bc), .raw (.slice s.kA t.kids.length s.kc)]
def itC (q : Itm × Plc) : List Value := [.int .i64 q.1.list, .slice q.2.bA q.1.bytes.length q.2.bc, .slice q.2.kA q.1.kids.length q.2.kc]
def itQ (q : Itm × Plc) : List EV := itE q.1 q.2
inductive ItAt (B : Base) : Itm → Plc → Prop where
 | mk (l : Int) (b : List UInt8) (qs : List (Itm × Plc)) (s : Plc) (hb : BytesAt B s.bA b) (hbl : b.length ≤ 1099511627776) (hc : CellsAt B s.kA (qs.flatMap itC)) (hql : qs.length ≤ 1099511627776) (hk : ∀ q ∈ qs, ItAt B q.1 q.2) : ItAt B (.mk l b (qs.map Prod.fst)) s
theorem ItAt.ext {B B' : Base} {t : Itm} {s : Plc} (h : ItAt B t s) (e : BExt B B') : ItAt B' t s := by
 induction h with
 | mk l b qs s hb hbl hc hql _ ih => exact .mk l b qs s (hb.ext e) hbl (hc.ext e) hql ih
theorem Cq2 (q : Itm × Plc) : (itC q).map C9 = itQ q := rfl
theorem Av8 (bs : Nat → Nat) (qs : List (Itm × Plc)) : A8 bs (qs.flatMap itQ) = qs.flatMap itC := Bl0 _ _ _ (fun q => rfl) qs
theorem L6 (qs : List (Itm × Plc)) : (qs.flatMap itQ).length = qs.length * 3 := by rw [R0 (k := 3) (fun q _ => rfl)]; omega
theorem F1 (n : Nat) (qs : List (Itm × Plc)) : A0 n (qs.flatMap itQ) := by
 induction qs with
 | nil => trivial
 | cons q qs ih => exact closeds_append.2 ⟨by simp [itQ, A0, closed], ih⟩
/-- Some cells, read. -/
theorem Ak5 {B : Base} {ad : Option Addr} {cs : List Value} (h : CellsAt B ad cs) {o n : Nat} (hn : o + n ≤ cs.length) (h0 : 0 < n) :
  M9 B (I0 ad o) n = ((cs.drop o).take n).map C9 ∧ B.D (adr ad).block ∧ Ap5 B (I0 ad o) n ∧ ad.isSome = true := by
 have e : ∀ j, (I0 ad o).add j = I0 ad (o + j) := fun j => by unfold I0; rw [Al4]
 have hr := fun j (hj : j < n) => h.raw (j := o + j) (v := cs[o + j]'(by omega)) (List.getElem?_eq_getElem (by omega))
 refine ⟨?_, (hr 0 h0).2.1, fun j hj => by rw [e]; exact (hr j hj).2.2, h.so (by omega)⟩
 unfold M9
 apply List.ext_getElem
 ·simp; omega
 ·intro j h1 h2
  simp only [List.length_map, List.length_range] at h1
  simp only [List.getElem_map, List.getElem_range, e, List.getElem_take, List.getElem_drop]
  exact (hr j h1).1
theorem Cb5 {α β : Type} {f : α → List β} {k : Nat} {l : List α} {i : Nat} (h : ∀ a ∈ l, (f a).length = k) (hi : i < l.length) : ((l.flatMap f).drop (i * k)).take k = f l[i] := by
 have hl := h l[i] (List.getElem_mem hi)
 apply List.ext_getElem?
 intro j
 rcases Nat.lt_or_ge j k with hj | hj
 ·rw [List.getElem?_take_of_lt hj, List.getElem?_drop, As5 h hi hj]
 ·rw [List.getElem?_take_eq_none (by omega), List.getElem?_eq_none (by omega)]
/-- A kid, read. -/
theorem Bh0 {B : Base} {ad : Option Addr} {qs : List (Itm × Plc)} (h : CellsAt B ad (qs.flatMap itC)) {i : Nat} (hi : i < qs.length) :
  M9 B (I0 ad (i * 3)) 3 = itE qs[i].1 qs[i].2 ∧ B.D (adr ad).block ∧ Ap5 B (I0 ad (i * 3)) 3 ∧ ad.isSome = true := by
 have := Ak5 h (o := i * 3) (n := 3) (by rw [R0 (k := 3) (fun q _ => rfl)]; omega) (by omega)
 rwa [Cb5 (k := 3) (f := itC) (l := qs) (fun q _ => rfl) hi, Cq2] at this
theorem Bi3 (p : List UInt8) (n : Nat) (B : Base) (ad : Option Addr) (cap : Nat) (h : BytesAt B ad p) (hn : p.length = n) (hp : n ≤ 1099511627776) :
  Does Try.prog 116 [.raw (.slice ad n cap)] B (fun s : Option Addr × Nat => .raw (.slice s.1 n s.2)) (fun s B' => BytesAt B' s.1 p ∧ n ≤ s.2) := by
 subst hn
 refine J9 Cz4 (fun s B B' hB hR => ⟨hR.1.ext hB, hR.2⟩) Try.func116 rfl Cx3 (by simp [Try.f116]) (by simp [A0, closed]) (fun B0 hB0 => A3 1000 ?_)
 replace h := h.ext hB0
 cases ad with
 | none =>
  have h0 : p.length = 0 := by
   rcases Nat.eq_zero_or_pos p.length with h1 | h1
   ·exact h1
   ·have := h.ok h1; cases this
  obtain rfl := List.length_eq_zero_iff.1 h0
  repeat' (first | with_reducible refine And.intro (by first | omega | (simp; done)) ?_ | simp (maxSteps := 4000000) (disch := omega) only [go_sem, ↓reduceIte, Try.f116, Option.isNone_none])
  refine ⟨BExt.refl _, (none, 0), ?_⟩
  simp [closed, h]
 | some a =>
  repeat' (first | with_reducible refine And.intro (by first | omega | (simp; done)) ?_ | simp (maxSteps := 4000000) (disch := omega) only [go_sem, ↓reduceIte, Try.f116, Option.isNone_some])
  refine appB (T := 5) (l := some (0, [])) (xs := []) 0 0 p rfl Try.underlying22 (.inl ⟨_, Try.underlying22⟩) zr5 cz5 by5 rfl rfl rfl ⟨Nat.le_refl _, Nat.zero_le _, rfl, by simp⟩ (h.src _) (by omega) (fun l1 hl1 => ?_)
  simp only [Nat.zero_add, List.nil_append] at hl1 ⊢
  refine J8 (xs := p) (T := 5) 1 p.length rfl rfl hl1 (by simp) (fun b2 ad2 cap2 B2 hB2 hfz hbY hcap2 => A3 1000 ?_)
  change BExt B0 B2 at hB2
  repeat' (first | with_reducible refine And.intro (by omega) ?_ | simp (maxSteps := 4000000) (disch := omega) only [go_sem, ↓reduceIte, hfz])
  exact ⟨⟨ad2, cap2⟩, rfl, by simp [closed], hbY, hcap2⟩
/-- The item of a text. -/
def txt (p : List UInt8) : Itm := .mk 0 p []
theorem Ce1 {B : Base} {p : List UInt8} {ad : Option Addr} {c : Nat} (h : BytesAt B ad p) (hp : p.length ≤ 1099511627776) : ItAt B (txt p) ⟨ad, c, none, 0⟩ :=
 .mk 0 p [] _ h hp (CellsAt.nil _) (by simp) (by simp)
theorem Ac6 (p : List UInt8) (n : Nat) (B : Base) (ad : Option Addr) (cap : Nat) (h : BytesAt B ad p) (hn : p.length = n) (hp : n ≤ 1099511627776) :
  Does Try.prog 106 [.raw (.slice ad n cap)] B (fun s : Plc => .agg (itE (txt p) s)) (fun s B' => ItAt B' (txt p) s) := by
 refine J9 Cq9 (fun s B B' hB hR => hR.ext hB) Try.func106 rfl Cx6 (by simp [Try.f106]) (by simp [A0, closed]) (fun B0 hB0 => A3 1000 ?_)
 replace h := h.ext hB0
 repeat' (simp (maxSteps := 4000000) (disch := omega) only [go_sem, ↓reduceIte, Try.f106])
 refine F4 (Bi3 p n _ ad cap h hn hp) (fun _ => by simp [closed]) (fun s B2 hB2 hR => A3 1000 ?_)
 subst hn
 repeat' (first | with_reducible refine And.intro (by omega) ?_ | simp (maxSteps := 4000000) (disch := omega) only [go_sem, ↓reduceIte])
 exact ⟨⟨s.1, s.2, none, 0⟩, rfl, by simp [closed, A0], Ce1 hR.1 hp⟩
end Go.Proofs.Ytncjbfkkgdepoaa
namespace Go.Proofs.Ytncjbfkkgdepoaa
open Go RowKit Go.Ew
set_option maxHeartbeats 4000000
theorem Cw5 : C5 Try.f147.ntmps (Try.f147.body.getD .skip) = true := by kernel_rfl
theorem Cw6 : C5 Try.f146.ntmps (Try.f146.body.getD .skip) = true := by kernel_rfl
def z3 : List EV := [.int .i64 0, .raw (.slice none 0 0), .raw (.slice none 0 0)]
theorem H6 : A0 0 z3 := by simp [z3, A0, closed]
theorem N5 {S : Type} {P : Program} {f : FuncId} {args : List EV} {B B' : Base} {vf : S → EV} {R : S → Base → Prop} (h : Does P f args B vf R) (e : BExt B B') : Does P f args B' vf R := ⟨h.en, h.cl, fun B0 hB => h.run B0 (e.trans hB)⟩
theorem By4 {B : Base} {t : Itm} {s : Plc} (h : ItAt B t s) : Does Try.prog 147 [.agg (itE t s)] B (fun s : Plc => .agg (itE t s)) (fun s B' => ItAt B' t s) := by
 induction h with
 | mk l b qs s hb hbl hc hql hk ih =>
 have e1 : (Itm.mk l b (qs.map Prod.fst)).list = l := rfl
 have e2 : (Itm.mk l b (qs.map Prod.fst)).bytes = b := rfl
 have e3 : (Itm.mk l b (qs.map Prod.fst)).kids.length = qs.length := List.length_map _
 simp only [itE, e1, e2, e3]
 refine J9 Cy7 (fun s B B' hB hR => hR.ext hB) Try.func147 rfl Cw5 (by simp [Try.f147]) (by simp [A0, closed]) (fun B0 hB0 => A3 1000 ?_)
 replace hb := hb.ext hB0
 replace hc := hc.ext hB0
 replace ih := fun q hq => N5 (ih q hq) hB0
 repeat' (first | with_reducible refine And.intro (by omega) ?_ | simp (maxSteps := 4000000) (disch := omega) only [go_sem, ↓reduceIte, Try.f147] | with_reducible refine D6 (id := 1) [0, 1, 2, 3, 6, 4, 5, 7] mixed (by kernel_rfl) (by simp) (fun hin => D4 1000 hin ?_))
 refine G8 (Bi3 b b.length _ _ _ hb rfl hbl) (fun _ => by simp [closed]) (by kernel_rfl) (F9 (by kernel_rfl) (C3 (by kernel_rfl))) (fun hin2 s1 B1 hB1 hR1 => D4 1000 hin2 ?_)
 change BExt B0 B1 at hB1
 repeat' (first | with_reducible refine And.intro (by omega) ?_ | simp (maxSteps := 4000000) (disch := omega) only [go_sem, ↓reduceIte] | with_reducible refine E1 (by kernel_rfl) (C3 (by kernel_rfl)) (A3 1000 ?_))
 refine L0 [100003] 2 (by simp) (by simp) (by simp) (by simp) (A3 1000 ?_)
 repeat' (simp (maxSteps := 4000000) (disch := omega) only [go_sem, ↓reduceIte, okC, okE, U9, F2, E3])
 refine G1 (S := Nat × Lst × List (Itm × Plc) × Base) (fun s => s.1 ≤ qs.length ∧ lOk z3 s.1 s.2.1 ∧ BExt B1 s.2.2.2 ∧ (∀ q ∈ s.2.2.1, ItAt s.2.2.2 q.1 q.2) ∧ s.2.2.1.map Prod.fst = (qs.take s.1).map Prod.fst)
  (fun u => ⟨[(15, .int .i64 (u.1 : Nat)), (14, .int .i64 (qs.length : Nat)), (13, .raw (.slice s.kA qs.length s.kc)), (3, .ptr 2 0), (2, .ptr 1 0)], 4, [(3, lO 91 (u.2.2.1.flatMap itQ) u.2.1), (2, some (.cells [.int .i64 l, .raw (.slice s1.1 b.length s1.2), lE 3 u.1 u.2.1] 91 (0, 0))), (1, some (.cells [.int .i64 0, .raw (.slice none 0 0), .raw (.slice none 0 0)] 91 (0, 0)))], u.2.2.2, []⟩)
  (fun u => qs.length - u.1) (0, none, [], B1) ⟨Nat.zero_le _, rfl, BExt.refl _, by simp, rfl⟩ (Weak.sub (A5 (by simp [wσ, go_sem, closed, A0, A4, lE, lO, clO] <;> omega) (by simp [whs, Go.Ew.hget, go_sem, EObj.closed, closed, A0, A4, lE, lO, clO]) (by first | (simp [*]; done) | (simp only [cxG]; omega)) rfl rfl (by simp))) ?_
 rintro ⟨i, l', qs', B2⟩ ⟨hi, hl, hB2, hok, hbd⟩
 simp only at hi hl hB2 hok hbd ⊢
 replace hc := hc.ext (hB1.trans hB2)
 replace ih := fun q hq => N5 (ih q hq) (hB1.trans hB2)
 have hLl : qs'.length = i := by have := congrArg List.length hbd; simp at this; omega
 rcases Nat.lt_or_ge i qs.length with hi2 | hi2
 ·refine A3 1000 ?_
  simp (maxSteps := 4000000) (disch := omega) only [go_sem, ↓reduceIte]
  repeat (with_reducible refine And.intro (by omega) ?_)
  refine A6 (fun h2 => ?_) (fun h2 => by simp at h2; omega)
  obtain ⟨l1, l2, l3, l4⟩ := Bh0 hc hi2
  have hq := ih _ (List.getElem_mem hi2)
  have hqm := List.getElem_mem hi2
  obtain ⟨q, hq0⟩ : ∃ q, q = qs[i] := ⟨_, rfl⟩
  rw [← hq0] at l1 hq hqm
  rcases l' with _ | ⟨cp0, rest0⟩
  ·have hi0 : i = 0 := hl
   simp only [show ∀ r n, lE r n none = .raw (.slice none 0 0) from fun _ _ => rfl, show ∀ T xs, lO T xs none = none from fun _ _ => rfl]
   repeat' (first | with_reducible refine And.intro (by first | omega | (constructor <;> assumption) | ((repeat' refine And.intro ?_ ?_) <;> first | omega | assumption | (refine SlOk.so (n := ?_) ?_ ?_; rotate_left; assumption; omega) | (simp; done) | fail)) ?_ | simp (maxSteps := 4000000) (disch := omega) only [go_sem, ↓reduceIte, Int.toNat_natCast, l1] | with_reducible refine D6 (id := 5) [0, 1, 2, 3, 4, 5, 6, 7] mixed (by kernel_rfl) (by simp) (fun hin => D4 1000 hin ?_))
   refine G8 hq (fun _ => by simp [closed, A0]) (by kernel_rfl) (F9 (by kernel_rfl) (C3 (by kernel_rfl))) (fun hin2 s2 B3 hB3 hR3 => D4 1000 hin2 ?_)
   change BExt B2 B3 at hB3
   repeat' (first | with_reducible refine And.intro (by first | omega | (simp; done)) ?_ | simp (maxSteps := 4000000) (disch := omega) only [go_sem, ↓reduceIte])
   refine Cs4 (c := True) (zs := z3) (xs := qs'.flatMap itQ) (m := 1) (news := itE q.1 s2) (T := 91) (l := none) 24 3 i [100023] rfl rfl Try.underlying89 (.inl ⟨_, Try.underlying89⟩) Cm7 Cr4 (by simp [z3]) H6 rfl rfl rfl hl (by rw [L6, hLl]; rfl) (F1 0 _) (fun B hs hB hfb => ⟨_, J5 (by rw [hfb 100023 (by simp)]; rfl) rfl, by simp [z3]⟩) rfl (by simp [A0, closed]) (by simp only [maxLen]; omega) (by rw [show Try.prog.bytesOf 91 = 56 from Cr7]; omega) (by simp) (by kernel_rfl) (F9 (by kernel_rfl) (C3 (by kernel_rfl))) (fun l2 hl2 => D4 1000 (by assumption) ?_)
   have hl2' := hl2
   obtain ⟨cp, rest, rfl, -⟩ := E6 hl2 (by omega)
   simp only [C1]
   repeat' (first | with_reducible refine And.intro (by omega) ?_ | simp (maxSteps := 4000000) (disch := omega) only [go_sem, ↓reduceIte])
   refine E1 (by kernel_rfl) (C3 (by kernel_rfl)) ?_
   refine L0 [100024] 3 (by simp) (by simp) (by simp) (by simp) (A3 1000 ?_)
   have hev : qs'.flatMap itQ ++ [EV.int IntKind.i64 q.1.list, EV.raw (Value.slice s2.bA q.1.bytes.length s2.bc), EV.raw (Value.slice s2.kA q.1.kids.length s2.kc)] = (qs' ++ [(q.1, s2)]).flatMap itQ := by
    rw [List.flatMap_append, List.flatMap_singleton]; rfl
   repeat' (simp (maxSteps := 4000000) (disch := omega) only [go_sem, ↓reduceIte, hev, okC, okE, U9, F2, H2 (ks := [100024]) (k := 3) hl2' (F1 0 (qs' ++ [(q.1, s2)])) H6, E3])
   have hok' : ∀ a ∈ qs' ++ [(q.1, s2)], ItAt B3 a.1 a.2 := fun a ha => by
    rcases List.mem_append.1 ha with h3 | h3
    ·exact (hok a h3).ext hB3
    ·obtain rfl := List.mem_singleton.1 h3
     exact hR3
   have hbd' : (qs' ++ [(q.1, s2)]).map Prod.fst = (qs.take (i + 1)).map Prod.fst := by
    rw [List.take_succ_eq_append_getElem hi2, List.map_append, List.map_append, hbd, ← hq0]
    rfl
   have cl2 : ∀ n, clO n (lO 91 ((qs' ++ [(q.1, s2)]).flatMap itQ) (some (cp, rest))) = True := fun n => J4 hl2' (F1 0 _) H6
   have cl3 : ∀ n, clO n (lO 91 (qs'.flatMap itQ ++ itQ (q.1, s2)) (some (cp, rest))) = True := fun n => by have := cl2 n; rwa [List.flatMap_append, List.flatMap_singleton] at this
   exact ⟨(i + 1, some (cp, rest), qs' ++ [(q.1, s2)], B3), ⟨hi2, hl2', hB2.trans hB3, hok', hbd'⟩, Weak.sub (A5 (by simp [wσ, go_sem, closed, A0, A4, cl3, C1] <;> omega) (by simp [whs, Go.Ew.hget, go_sem, EObj.closed, closed, A0, A4, cl3, C1]) (by first | (simp [*]; done) | (simp only [cxG]; omega)) rfl rfl (by simp)), by simp only; omega⟩
  ·simp only [C1]
   repeat' (first | with_reducible refine And.intro (by first | omega | (constructor <;> assumption) | (simp [*]; done)) ?_ | simp (maxSteps := 4000000) (disch := omega) only [go_sem, ↓reduceIte, Int.toNat_natCast, l1] | with_reducible refine D6 (id := 5) [0, 1, 2, 3, 4, 5, 6, 7] mixed (by kernel_rfl) (by simp) (fun hin => D4 1000 hin ?_))
   refine G8 hq (fun _ => by simp [closed, A0]) (by kernel_rfl) (F9 (by kernel_rfl) (C3 (by kernel_rfl))) (fun hin2 s2 B3 hB3 hR3 => D4 1000 hin2 ?_)
   change BExt B2 B3 at hB3
   repeat' (first | with_reducible refine And.intro (by first | omega | (simp; done)) ?_ | simp (maxSteps := 4000000) (disch := omega) only [go_sem, ↓reduceIte])
   refine Cs4 (c := True) (zs := z3) (xs := qs'.flatMap itQ) (m := 1) (news := itE q.1 s2) (T := 91) (l := some (cp0, rest0)) 24 3 i [100023] rfl rfl Try.underlying89 (.inl ⟨_, Try.underlying89⟩) Cm7 Cr4 (by simp [z3]) H6 rfl rfl rfl hl (by rw [L6, hLl]; rfl) (F1 0 _) (fun B hs hB hfb => ⟨_, J5 (by rw [hfb 100023 (by simp)]; rfl) rfl, by simp [z3]⟩) rfl (by simp [A0, closed]) (by simp only [maxLen]; omega) (by rw [show Try.prog.bytesOf 91 = 56 from Cr7]; omega) (by simp) (by kernel_rfl) (F9 (by kernel_rfl) (C3 (by kernel_rfl))) (fun l2 hl2 => D4 1000 (by assumption) ?_)
   have hl2' := hl2
   obtain ⟨cp, rest, rfl, -⟩ := E6 hl2 (by omega)
   simp only [C1]
   repeat' (first | with_reducible refine And.intro (by omega) ?_ | simp (maxSteps := 4000000) (disch := omega) only [go_sem, ↓reduceIte])
   refine E1 (by kernel_rfl) (C3 (by kernel_rfl)) ?_
   refine L0 [100024] 3 (by simp) (by simp) (by simp) (by simp) (A3 1000 ?_)
   have hev : qs'.flatMap itQ ++ [EV.int IntKind.i64 q.1.list, EV.raw (Value.slice s2.bA q.1.bytes.length s2.bc), EV.raw (Value.slice s2.kA q.1.kids.length s2.kc)] = (qs' ++ [(q.1, s2)]).flatMap itQ := by
    rw [List.flatMap_append, List.flatMap_singleton]; rfl
   repeat' (simp (maxSteps := 4000000) (disch := omega) only [go_sem, ↓reduceIte, hev, okC, okE, U9, F2, H2 (ks := [100024]) (k := 3) hl2' (F1 0 (qs' ++ [(q.1, s2)])) H6, E3])
   have hok' : ∀ a ∈ qs' ++ [(q.1, s2)], ItAt B3 a.1 a.2 := fun a ha => by
    rcases List.mem_append.1 ha with h3 | h3
    ·exact (hok a h3).ext hB3
    ·obtain rfl := List.mem_singleton.1 h3
     exact hR3
   have hbd' : (qs' ++ [(q.1, s2)]).map Prod.fst = (qs.take (i + 1)).map Prod.fst := by
    rw [List.take_succ_eq_append_getElem hi2, List.map_append, List.map_append, hbd, ← hq0]
    rfl
   have cl2 : ∀ n, clO n (lO 91 ((qs' ++ [(q.1, s2)]).flatMap itQ) (some (cp, rest))) = True := fun n => J4 hl2' (F1 0 _) H6
   have cl3 : ∀ n, clO n (lO 91 (qs'.flatMap itQ ++ itQ (q.1, s2)) (some (cp, rest))) = True := fun n => by have := cl2 n; rwa [List.flatMap_append, List.flatMap_singleton] at this
   exact ⟨(i + 1, some (cp, rest), qs' ++ [(q.1, s2)], B3), ⟨hi2, hl2', hB2.trans hB3, hok', hbd'⟩, Weak.sub (A5 (by simp [wσ, go_sem, closed, A0, A4, cl3, C1] <;> omega) (by simp [whs, Go.Ew.hget, go_sem, EObj.closed, closed, A0, A4, cl3, C1]) (by first | (simp [*]; done) | (simp only [cxG]; omega)) rfl rfl (by simp)), by simp only; omega⟩
 ·obtain rfl : i = qs.length := by omega
  refine As4 (xs := qs'.flatMap itQ) (T := 91) 3 qs.length rfl hl (by rw [L6, hLl]; rfl) (F1 0 _) H6 (by simp) (fun b2 ad2 cap2 B3 hB3 hf hD hso hcell => A3 1000 ?_)
  change BExt B2 B3 at hB3
  have hC : CellsAt B3 ad2 (qs'.flatMap itC) := U3 hD hso (fun h0 => by
   rw [h0] at hLl; rw [List.length_eq_zero_iff.1 hLl]; rfl) hcell (Av8 _ _)
  have hbt : qs'.map Prod.fst = qs.map Prod.fst := by rw [hbd, List.take_length]
  simp (maxSteps := 4000000) (disch := omega) only [go_sem, ↓reduceIte, hf]
  repeat (with_reducible refine And.intro (by omega) ?_)
  refine A6 (fun h2 => by simp at h2) (fun h2 => ?_)
  repeat' (first | simp (maxSteps := 4000000) (disch := omega) only [go_sem, ↓reduceIte, hf, bne_self_eq_false, beq_self_eq_true] | with_reducible refine A3 1000 ?_)
  refine ⟨hB1.trans (hB2.trans hB3), ⟨s1.1, s1.2, ad2, cap2⟩, rfl, by simp [closed, A0], ?_⟩
  rw [← hbt]
  exact .mk l b qs' _ (hR1.1.ext (hB2.trans hB3)) hbl hC (by omega) (fun q hq => (hok q hq).ext hB3)
theorem Bc7 (qs : List (Itm × Plc)) (n : Nat) (B : Base) (ad : Option Addr) (cap : Nat) (hc : CellsAt B ad (qs.flatMap itC)) (hql : qs.length ≤ 1099511627776) (hk : ∀ q ∈ qs, ItAt B q.1 q.2) (hn : qs.length = n) :
  Does Try.prog 146 [.raw (.slice ad n cap)] B (fun s : Plc => .agg (itE (.mk 1 [] (qs.map Prod.fst)) s)) (fun s B' => ItAt B' (.mk 1 [] (qs.map Prod.fst)) s) := by
 subst hn
 have e1 : (Itm.mk 1 [] (qs.map Prod.fst)).list = 1 := rfl
 have e2 : (Itm.mk 1 [] (qs.map Prod.fst)).bytes = [] := rfl
 have e3 : (Itm.mk 1 [] (qs.map Prod.fst)).kids.length = qs.length := List.length_map _
 simp only [itE, e1, e2, e3, List.length_nil]
 refine J9 Cb6 (fun s B B' hB hR => hR.ext hB) Try.func146 rfl Cw6 (by simp [Try.f146]) (by simp [A0, closed]) (fun B0 hB0 => A3 1000 ?_)
 replace hc := hc.ext hB0
 have ih : ∀ q ∈ qs, Does Try.prog 147 [.agg (itE q.1 q.2)] B0 (fun s : Plc => .agg (itE q.1 s)) (fun s B' => ItAt B' q.1 s) := fun q hq => N5 (By4 (hk q hq)) hB0
 repeat' (simp (maxSteps := 4000000) (disch := omega) only [go_sem, ↓reduceIte, Try.f146])
 refine G1 (S := Nat × Lst × List (Itm × Plc) × Base) (fun s => s.1 ≤ qs.length ∧ lOk z3 s.1 s.2.1 ∧ BExt B0 s.2.2.2 ∧ (∀ q ∈ s.2.2.1, ItAt s.2.2.2 q.1 q.2) ∧ s.2.2.1.map Prod.fst = (qs.take s.1).map Prod.fst)
  (fun u => ⟨[(9, .int .i64 (u.1 : Nat)), (8, .int .i64 (qs.length : Nat)), (7, .raw (.slice ad qs.length cap)), (3, .ptr 1 0), (2, .ptr 0 0)], 3, [(2, lO 91 (u.2.2.1.flatMap itQ) u.2.1), (1, some (.cells [.int .i64 1, .raw (.slice none 0 0), lE 2 u.1 u.2.1] 91 (0, 0))), (0, some (.cells [.int .i64 0, .raw (.slice none 0 0), .raw (.slice none 0 0)] 91 (0, 0)))], u.2.2.2, []⟩)
  (fun u => qs.length - u.1) (0, none, [], B0) ⟨Nat.zero_le _, rfl, BExt.refl _, by simp, rfl⟩ (Weak.sub (A5 (by simp [wσ, go_sem, closed, A0, A4, lE, lO, clO] <;> omega) (by simp [whs, Go.Ew.hget, go_sem, EObj.closed, closed, A0, A4, lE, lO, clO]) (by first | (simp [*]; done) | (simp only [cxG]; omega)) rfl rfl (by simp))) ?_
 rintro ⟨i, l', qs', B2⟩ ⟨hi, hl, hB2, hok, hbd⟩
 simp only at hi hl hB2 hok hbd ⊢
 replace hc := hc.ext hB2
 replace ih := fun q hq => N5 (ih q hq) hB2
 have hLl : qs'.length = i := by have := congrArg List.length hbd; simp at this; omega
 rcases Nat.lt_or_ge i qs.length with hi2 | hi2
 ·refine A3 1000 ?_
  simp (maxSteps := 4000000) (disch := omega) only [go_sem, ↓reduceIte]
  repeat (with_reducible refine And.intro (by omega) ?_)
  refine A6 (fun h2 => ?_) (fun h2 => by simp at h2; omega)
  obtain ⟨l1, l2, l3, l4⟩ := Bh0 hc hi2
  have hq := ih _ (List.getElem_mem hi2)
  have hqm := List.getElem_mem hi2
  obtain ⟨q, hq0⟩ : ∃ q, q = qs[i] := ⟨_, rfl⟩
  rw [← hq0] at l1 hq hqm
  rcases l' with _ | ⟨cp0, rest0⟩
  ·have hi0 : i = 0 := hl
   simp only [show ∀ r n, lE r n none = .raw (.slice none 0 0) from fun _ _ => rfl, show ∀ T xs, lO T xs none = none from fun _ _ => rfl]
   repeat' (first | with_reducible refine And.intro (by first | omega | (constructor <;> assumption) | ((repeat' refine And.intro ?_ ?_) <;> first | omega | assumption | (refine SlOk.so (n := ?_) ?_ ?_; rotate_left; assumption; omega) | (simp; done) | fail)) ?_ | simp (maxSteps := 4000000) (disch := omega) only [go_sem, ↓reduceIte, Int.toNat_natCast, l1] | with_reducible refine D6 (id := 5) [0, 1, 2, 3, 4, 5, 6, 7] mixed (by kernel_rfl) (by simp) (fun hin => D4 1000 hin ?_))
   refine G8 hq (fun _ => by simp [closed, A0]) (by kernel_rfl) (F9 (by kernel_rfl) (C3 (by kernel_rfl))) (fun hin2 s2 B3 hB3 hR3 => D4 1000 hin2 ?_)
   change BExt B2 B3 at hB3
   repeat' (first | with_reducible refine And.intro (by first | omega | (simp; done)) ?_ | simp (maxSteps := 4000000) (disch := omega) only [go_sem, ↓reduceIte])
   refine Cs4 (c := True) (zs := z3) (xs := qs'.flatMap itQ) (m := 1) (news := itE q.1 s2) (T := 91) (l := none) 18 2 i [100017] rfl rfl Try.underlying89 (.inl ⟨_, Try.underlying89⟩) Cm7 Cr4 (by simp [z3]) H6 rfl rfl rfl hl (by rw [L6, hLl]; rfl) (F1 0 _) (fun B hs hB hfb => ⟨_, J5 (by rw [hfb 100017 (by simp)]; rfl) rfl, by simp [z3]⟩) rfl (by simp [A0, closed]) (by simp only [maxLen]; omega) (by rw [show Try.prog.bytesOf 91 = 56 from Cr7]; omega) (by simp) (by kernel_rfl) (F9 (by kernel_rfl) (C3 (by kernel_rfl))) (fun l2 hl2 => D4 1000 (by assumption) ?_)
   have hl2' := hl2
   obtain ⟨cp, rest, rfl, -⟩ := E6 hl2 (by omega)
   simp only [C1]
   repeat' (first | with_reducible refine And.intro (by omega) ?_ | simp (maxSteps := 4000000) (disch := omega) only [go_sem, ↓reduceIte])
   refine E1 (by kernel_rfl) (C3 (by kernel_rfl)) ?_
   refine L0 [100018] 2 (by simp) (by simp) (by simp) (by simp) (A3 1000 ?_)
   have hev : qs'.flatMap itQ ++ [EV.int IntKind.i64 q.1.list, EV.raw (Value.slice s2.bA q.1.bytes.length s2.bc), EV.raw (Value.slice s2.kA q.1.kids.length s2.kc)] = (qs' ++ [(q.1, s2)]).flatMap itQ := by
    rw [List.flatMap_append, List.flatMap_singleton]; rfl
   repeat' (simp (maxSteps := 4000000) (disch := omega) only [go_sem, ↓reduceIte, hev, okC, okE, U9, F2, H2 (ks := [100018]) (k := 2) hl2' (F1 0 (qs' ++ [(q.1, s2)])) H6, E3])
   have hok' : ∀ a ∈ qs' ++ [(q.1, s2)], ItAt B3 a.1 a.2 := fun a ha => by
    rcases List.mem_append.1 ha with h3 | h3
    ·exact (hok a h3).ext hB3
    ·obtain rfl := List.mem_singleton.1 h3
     exact hR3
   have hbd' : (qs' ++ [(q.1, s2)]).map Prod.fst = (qs.take (i + 1)).map Prod.fst := by
    rw [List.take_succ_eq_append_getElem hi2, List.map_append, List.map_append, hbd, ← hq0]
    rfl
   have cl2 : ∀ n, clO n (lO 91 ((qs' ++ [(q.1, s2)]).flatMap itQ) (some (cp, rest))) = True := fun n => J4 hl2' (F1 0 _) H6
   have cl3 : ∀ n, clO n (lO 91 (qs'.flatMap itQ ++ itQ (q.1, s2)) (some (cp, rest))) = True := fun n => by have := cl2 n; rwa [List.flatMap_append, List.flatMap_singleton] at this
   exact ⟨(i + 1, some (cp, rest), qs' ++ [(q.1, s2)], B3), ⟨hi2, hl2', hB2.trans hB3, hok', hbd'⟩, Weak.sub (A5 (by simp [wσ, go_sem, closed, A0, A4, cl3, C1] <;> omega) (by simp [whs, Go.Ew.hget, go_sem, EObj.closed, closed, A0, A4, cl3, C1]) (by first | (simp [*]; done) | (simp only [cxG]; omega)) rfl rfl (by simp)), by simp only; omega⟩
  ·simp only [C1]
   repeat' (first | with_reducible refine And.intro (by first | omega | (constructor <;> assumption) | (simp [*]; done)) ?_ | simp (maxSteps := 4000000) (disch := omega) only [go_sem, ↓reduceIte, Int.toNat_natCast, l1] | with_reducible refine D6 (id := 5) [0, 1, 2, 3, 4, 5, 6, 7] mixed (by kernel_rfl) (by simp) (fun hin => D4 1000 hin ?_))
   refine G8 hq (fun _ => by simp [closed, A0]) (by kernel_rfl) (F9 (by kernel_rfl) (C3 (by kernel_rfl))) (fun hin2 s2 B3 hB3 hR3 => D4 1000 hin2 ?_)
   change BExt B2 B3 at hB3
   repeat' (first | with_reducible refine And.intro (by first | omega | (simp; done)) ?_ | simp (maxSteps := 4000000) (disch := omega) only [go_sem, ↓reduceIte])
   refine Cs4 (c := True) (zs := z3) (xs := qs'.flatMap itQ) (m := 1) (news := itE q.1 s2) (T := 91) (l := some (cp0, rest0)) 18 2 i [100017] rfl rfl Try.underlying89 (.inl ⟨_, Try.underlying89⟩) Cm7 Cr4 (by simp [z3]) H6 rfl rfl rfl hl (by rw [L6, hLl]; rfl) (F1 0 _) (fun B hs hB hfb => ⟨_, J5 (by rw [hfb 100017 (by simp)]; rfl) rfl, by simp [z3]⟩) rfl (by simp [A0, closed]) (by simp only [maxLen]; omega) (by rw [show Try.prog.bytesOf 91 = 56 from Cr7]; omega) (by simp) (by kernel_rfl) (F9 (by kernel_rfl) (C3 (by kernel_rfl))) (fun l2 hl2 => D4 1000 (by assumption) ?_)
   have hl2' := hl2
   obtain ⟨cp, rest, rfl, -⟩ := E6 hl2 (by omega)
   simp only [C1]
   repeat' (first | with_reducible refine And.intro (by omega) ?_ | simp (maxSteps := 4000000) (disch := omega) only [go_sem, ↓reduceIte])
   refine E1 (by kernel_rfl) (C3 (by kernel_rfl)) ?_
   refine L0 [100018] 2 (by simp) (by simp) (by simp) (by simp) (A3 1000 ?_)
   have hev : qs'.flatMap itQ ++ [EV.int IntKind.i64 q.1.list, EV.raw (Value.slice s2.bA q.1.bytes.length s2.bc), EV.raw (Value.slice s2.kA q.1.kids.length s2.kc)] = (qs' ++ [(q.1, s2)]).flatMap itQ := by
    rw [List.flatMap_append, List.flatMap_singleton]; rfl
   repeat' (simp (maxSteps := 4000000) (disch := omega) only [go_sem, ↓reduceIte, hev, okC, okE, U9, F2, H2 (ks := [100018]) (k := 2) hl2' (F1 0 (qs' ++ [(q.1, s2)])) H6, E3])
   have hok' : ∀ a ∈ qs' ++ [(q.1, s2)], ItAt B3 a.1 a.2 := fun a ha => by
    rcases List.mem_append.1 ha with h3 | h3
    ·exact (hok a h3).ext hB3
    ·obtain rfl := List.mem_singleton.1 h3
     exact hR3
   have hbd' : (qs' ++ [(q.1, s2)]).map Prod.fst = (qs.take (i + 1)).map Prod.fst := by
    rw [List.take_succ_eq_append_getElem hi2, List.map_append, List.map_append, hbd, ← hq0]
    rfl
   have cl2 : ∀ n, clO n (lO 91 ((qs' ++ [(q.1, s2)]).flatMap itQ) (some (cp, rest))) = True := fun n => J4 hl2' (F1 0 _) H6
   have cl3 : ∀ n, clO n (lO 91 (qs'.flatMap itQ ++ itQ (q.1, s2)) (some (cp, rest))) = True := fun n => by have := cl2 n; rwa [List.flatMap_append, List.flatMap_singleton] at this
   exact ⟨(i + 1, some (cp, rest), qs' ++ [(q.1, s2)], B3), ⟨hi2, hl2', hB2.trans hB3, hok', hbd'⟩, Weak.sub (A5 (by simp [wσ, go_sem, closed, A0, A4, cl3, C1] <;> omega) (by simp [whs, Go.Ew.hget, go_sem, EObj.closed, closed, A0, A4, cl3, C1]) (by first | (simp [*]; done) | (simp only [cxG]; omega)) rfl rfl (by simp)), by simp only; omega⟩
 ·obtain rfl : i = qs.length := by omega
  refine As4 (xs := qs'.flatMap itQ) (T := 91) 2 qs.length rfl hl (by rw [L6, hLl]; rfl) (F1 0 _) H6 (by simp) (fun b2 ad2 cap2 B3 hB3 hf hD hso hcell => A3 1000 ?_)
  change BExt B2 B3 at hB3
  have hC : CellsAt B3 ad2 (qs'.flatMap itC) := U3 hD hso (fun h0 => by
   rw [h0] at hLl; rw [List.length_eq_zero_iff.1 hLl]; rfl) hcell (Av8 _ _)
  have hbt : qs'.map Prod.fst = qs.map Prod.fst := by rw [hbd, List.take_length]
  simp (maxSteps := 4000000) (disch := omega) only [go_sem, ↓reduceIte, hf]
  repeat (with_reducible refine And.intro (by omega) ?_)
  refine A6 (fun h2 => by simp at h2) (fun h2 => ?_)
  repeat' (first | simp (maxSteps := 4000000) (disch := omega) only [go_sem, ↓reduceIte, hf, bne_self_eq_false, beq_self_eq_true] | with_reducible refine A3 1000 ?_)
  refine ⟨hB2.trans hB3, ⟨none, 0, ad2, cap2⟩, rfl, by simp [closed, A0], ?_⟩
  rw [← hbt]
  exact .mk 1 [] qs' _ (CellsAt.nil _) (by simp) hC (by omega) (fun q hq => (hok q hq).ext hB3)
end Go.Proofs.Ytncjbfkkgdepoaa
