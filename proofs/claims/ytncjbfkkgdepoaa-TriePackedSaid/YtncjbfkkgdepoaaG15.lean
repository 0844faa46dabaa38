/- Part of a proof over the seat Ytncjbfkkgdepoaa. -/
import Derived.Test.YtncjbfkkgdepoaaG14
set_option linter.unusedSimpArgs false
set_option linter.unusedVariables false
set_option maxRecDepth 100000
namespace Go.Proofs.Ytncjbfkkgdepoaa
open Go RowKit Go.Ew
set_option maxHeartbeats 16000000
theorem Dh5 : C5 Try.f22.ntmps (Try.f22.body.getD .skip) = true := by kernel_rfl
theorem By5 (B : Base) (ps : List Pr) (n : Nat) (ad : Option Addr) (cap : Nat) (h : PrsAt B ad ps) (hn : ps.length = n) :
  Does Try.prog 22 [.raw (.slice ad n cap)] B (fun _ : Unit => .tup [.agg (rtH (ps.map Pr.kv)), .int .i64 (rtE (ps.map Pr.kv) : Nat)]) (fun _ _ => True) := by
 subst hn
 refine J9 Dd5 (fun s B B' hB hR => hR) Try.func22 rfl Dh5 (by simp [Try.f22]) (by simp [A0, closed]) (fun B0 hB0 => A3 1000 ?_)
 replace h := h.ext hB0
 have hlen := h.len
 have hcl : ∀ p n, A0 n (C8 .u8 (O5 p) 32) := fun p n => A2 _ _ _ _
 have hsp : ∀ p, H7 (C8 .u8 (fun _ => 0) 32) 0 (C8 .u8 (O5 p) 32) = C8 .u8 (O5 p) 32 := fun p => by rw [← Z3]; exact P9 (O8 _) (by omega) _
 have hz32 : ∀ n, A0 n (C8 .u8 (fun _ => 0) 32) := fun n => A2 _ _ _ _
 have hsP : ∀ q : Pr, H7 [EV.raw (.slice none 0 0), EV.raw (.slice none 0 0)] 0 (Pr.E q) = Pr.E q := fun q => rfl
 have hoP : ∀ q : Pr, H8 (Pr.E q) = true := fun q => rfl
 obtain ⟨L, hL⟩ : ∃ L, L = ps.map Pr.kv := ⟨_, rfl⟩
 have hLl : L.length = ps.length := by rw [hL, List.length_map]
 rw [← hL]
 repeat' (simp (maxSteps := 4000000) (disch := omega) only [go_sem, ↓reduceIte, Try.f22])
 refine G1 (S := Nat) (fun i => i ≤ ps.length ∧ ∀ j (hj : j < i) (h2 : j < L.length), Cd3 (L[j]) = false)
  (fun i => ⟨[(12, .int .i64 (i : Nat)), (11, .int .i64 (ps.length : Nat)), (10, .raw (.slice ad ps.length cap)), (3, .int .i64 0), (2, .ptr 0 0), (0, .raw (.slice ad ps.length cap))], 1, [(0, some (.cells (C8 .u8 (fun _ => 0) 32) 45 (0, 0)))], B0, []⟩)
  (fun i => ps.length - i) 0 ⟨Nat.zero_le _, fun j hj => absurd hj (Nat.not_lt_zero j)⟩ (Weak.sub (A5 (by simp [wσ, go_sem, closed, A0, A4, hz32] <;> omega) (by simp [whs, Go.Ew.hget, go_sem, EObj.closed, closed, A0, A4, hz32]) (by first | (simp [*]; done) | (simp only [cxG]; omega)) rfl rfl (by simp))) ?_
 intro i ⟨hi, hbd⟩
 refine A3 1000 ?_
 rcases Nat.lt_or_ge i ps.length with hi2 | hi2
 ·have cA : decide ((i : Int) < (ps.length : Int)) = true := decide_eq_true (by omega)
  obtain ⟨l1, l3, l4, l6⟩ := h.lda hi2
  have hok := h.ok _ (List.getElem_mem hi2)
  have hLi : L[i]'(by omega) = (ps[i]).kv := by simp [hL]
  have hmem : (ps[i]).kv ∈ L := by rw [← hLi]; exact List.getElem_mem _
  obtain ⟨q, hq⟩ : ∃ q, q = ps[i] := ⟨_, rfl⟩
  rw [← hq] at l1 hok hLi hmem
  by_cases h1 : 64 < q.k.l.length
  ·have c1 : decide ((64 : Int) < (q.k.l.length : Int)) = true := decide_eq_true (by omega)
   have hE : rtE L = 2 := by
    rw [rtE, if_pos]
    exact List.any_eq_true.2 ⟨_, hmem, by simp [Cd3, Pr.kv, h1]⟩
   rw [rtH, hE, if_neg (by decide)]
   repeat' (first | with_reducible refine And.intro (by first | omega | (constructor <;> assumption) | (simp [*]; done)) ?_ | simp (maxSteps := 4000000) (disch := omega) only [go_sem, ↓reduceIte, cA, Int.toNat_natCast, l1, hsP, hoP, Pr.E, Bs.v, c1])
   first | exact ⟨BExt.refl _, (), rfl, by simp [closed, A0, hz32], trivial⟩ | exact ⟨(), by simp [closed, A0, hz32]⟩ | exact ⟨BExt.refl _, (), by simp [closed, A0, hz32]⟩
  ·have c1 : decide ((64 : Int) < (q.k.l.length : Int)) = false := decide_eq_false (by omega)
   by_cases h2 : 1048576 < q.v.l.length
   ·have c2 : decide ((1048576 : Int) < (q.v.l.length : Int)) = true := decide_eq_true (by omega)
    have hE : rtE L = 2 := by
     rw [rtE, if_pos]
     exact List.any_eq_true.2 ⟨_, hmem, by simp [Cd3, Pr.kv, h2]⟩
    rw [rtH, hE, if_neg (by decide)]
    repeat' (first | with_reducible refine And.intro (by first | omega | (constructor <;> assumption) | (simp [*]; done)) ?_ | simp (maxSteps := 4000000) (disch := omega) only [go_sem, ↓reduceIte, cA, Int.toNat_natCast, l1, hsP, hoP, Pr.E, Bs.v, c1, c2])
    first | exact ⟨BExt.refl _, (), rfl, by simp [closed, A0, hz32], trivial⟩ | exact ⟨(), by simp [closed, A0, hz32]⟩ | exact ⟨BExt.refl _, (), by simp [closed, A0, hz32]⟩
   ·have c2 : decide ((1048576 : Int) < (q.v.l.length : Int)) = false := decide_eq_false (by omega)
    repeat' (first | with_reducible refine And.intro (by first | omega | (constructor <;> assumption) | (simp [*]; done)) ?_ | simp (maxSteps := 4000000) (disch := omega) only [go_sem, ↓reduceIte, cA, Int.toNat_natCast, l1, hsP, hoP, Pr.E, Bs.v, c1, c2])
    refine ⟨i + 1, ⟨hi2, fun j hj hj2 => ?_⟩, Weak.sub (A5 (by simp [wσ, go_sem, closed, A0, A4, hz32] <;> omega) (by simp [whs, Go.Ew.hget, go_sem, EObj.closed, closed, A0, A4, hz32]) (by first | (simp [*]; done) | (simp only [cxG]; omega)) rfl rfl (by simp)), by omega⟩
    rcases Nat.lt_or_ge j i with h3 | h3
    ·exact hbd j h3 hj2
    ·obtain rfl : j = i := by omega
     rw [hLi]; simp [Cd3, Pr.kv, h1, h2]
 ·obtain rfl : i = ps.length := by omega
  have cA : decide ((ps.length : Int) < (ps.length : Int)) = false := decide_eq_false (by omega)
  have hbad : L.any Cd3 = false := by
   rw [List.any_eq_false]
   intro p hp
   obtain ⟨j, hj, rfl⟩ := List.getElem_of_mem hp
   rw [hbd j (by omega) hj]; simp
  repeat' (first | simp (maxSteps := 4000000) (disch := omega) only [go_sem, ↓reduceIte, cA] | with_reducible refine A3 1000 ?_)
  refine Bg9 rfl (A3 1000 ?_)
  repeat' (first | simp (maxSteps := 4000000) (disch := omega) only [go_sem, ↓reduceIte] | refine G9 (X6 B0) (by simp [closed, A0, A2, C4]) (A3 1000 ?_))
  refine Az4 [] (Cf2 B0 .nilIface (.inl rfl)) (by simp [Z8, ren, Ac7]) rfl (by simp) (by simp) (by simp) (by simp) (fun _ B1 hB1 _ => A3 1000 ?_)
  change BExt B0 B1 at hB1
  have htc : ∀ n rv, A0 n [EV.int .i64 1, EV.raw .nilIface, EV.raw rv] := fun n rv => by simp [A0, closed]
  simp only [Bf0, rho, ren, trO, EObj.ren, Z8]
  repeat' (simp (maxSteps := 4000000) (disch := omega) only [go_sem, ↓reduceIte])
  refine G1 (S := Nat × Array MapEntry × Nat × Value × Base) (fun s => s.1 ≤ ps.length ∧ BExt B0 s.2.2.2.2 ∧ NdAt s.2.2.2.2 (rtN L s.1) s.2.2.2.1 ∧ SetS s.2.1 ((L.take s.1).map Prod.fst) ∧ ∀ j, j < s.1 → At0 L j = false)
   (fun s => ⟨[(33, .int .i64 (s.1 : Nat)), (32, .int .i64 (ps.length : Nat)), (31, .raw (.slice ad ps.length cap)), (7, .ptr 2 0), (6, .mp 1), (3, .int .i64 0), (2, .ptr 0 0)], 3, [(2, some (trO .nilIface s.2.2.2.1)), (1, some (.obj (.map s.2.1 s.2.2.1))), (0, some (.cells (C8 .u8 (fun _ => 0) 32) 45 (0, 0)))], s.2.2.2.2, []⟩)
   (fun s => ps.length - s.1) (0, #[], 0, .nilIface, B1) ⟨Nat.zero_le _, hB1, .nil, SetS.nil, fun j hj => absurd hj (Nat.not_lt_zero j)⟩ (Weak.sub (A5 (by simp [wσ, go_sem, closed, A0, A4, trO, hz32, clO, EObj.closed] <;> omega) (by simp [whs, Go.Ew.hget, go_sem, EObj.closed, closed, A0, A4, trO, hz32, clO, EObj.closed]) (by first | (simp [*]; done) | (simp only [cxG]; omega)) rfl rfl (by simp))) ?_
  rintro ⟨i, es, clock, rv, B2⟩ ⟨hi, hB2, hd, hes, hdu⟩
  simp only at hi hB2 hd hes hdu ⊢
  refine A3 1000 ?_
  rcases Nat.lt_or_ge i ps.length with hi2 | hi2
  ·have cA : decide ((i : Int) < (ps.length : Int)) = true := decide_eq_true (by omega)
   obtain ⟨l1, l3, l4, l6⟩ := (h.ext hB2).lda hi2
   have hok := (h.ext hB2).ok _ (List.getElem_mem hi2)
   have hLi : L[i]'(by omega) = (ps[i]).kv := by simp [hL]
   have hLg : L.getD i ([], []) = (ps[i]).kv := by simp [List.getD, hL, hi2]
   have hmem : (ps[i]).kv ∈ L := by rw [← hLi]; exact List.getElem_mem _
   have hag := Bf6 L hbad i (by omega) hdu
   have hdi : At0 L i = true ↔ ((ps[i]).k.l ∈ (L.take i).map Prod.fst ∨ (ps[i]).v.l = []) := by
    rw [At0, hLg, Bool.or_eq_true, decide_eq_true_eq, decide_eq_true_eq]; exact Iff.rfl
   have hnx : rtN L (i + 1) = Q5 200 (rtN L i) (G7 (L.getD i ([], [])).1) (L.getD i ([], [])).2 := rfl
   have htk : L.take (i + 1) = L.take i ++ [L[i]'(by omega)] := List.take_succ_eq_append_getElem (by omega)
   rw [hLg] at hnx
   rw [hLi] at htk
   have hall : ∀ k ∈ (L.take i).map Prod.fst, k.length ≤ 64 := fun k hk => by
    obtain ⟨p, hp, rfl⟩ := List.mem_map.1 hk
    exact (Bw7 hbad (List.mem_of_mem_take hp)).1
   obtain ⟨q, hq⟩ : ∃ q, q = ps[i] := ⟨_, rfl⟩
   rw [← hq] at l1 hok hLi hmem hdi hnx htk
   have hsm := Bw7 hbad hmem
   simp only [Pr.kv] at hnx hsm htk
   have hkl := Db8 q.k.l hsm.1
   repeat' (first | with_reducible refine And.intro (by first | omega | (constructor <;> assumption) | (simp [*]; done)) ?_ | simp (maxSteps := 4000000) (disch := omega) only [go_sem, ↓reduceIte, cA, Int.toNat_natCast, l1, hsP, hoP, Pr.E, Bs.v])
   refine Bk1 q.k.l rfl Try.underlying22 Try.underlying5 Try.underlying9 rfl rfl hok.1.b (A3 1000 ?_)
   repeat' (simp (maxSteps := 4000000) (disch := omega) only [go_sem, ↓reduceIte])
   by_cases hm : q.k.l ∈ (L.take i).map Prod.fst
   ·refine Bc5 (K := Bk0 q.k.l) (z := .int .i64 0) (v := .int .i64 1) rfl (WideMaps.string_law Try.underlying9) Try.underlying83 (fun w => by kernel_rfl) trivial trivial (.inr ⟨1, _, rfl, rfl⟩) rfl (fun bs => rfl) (hes.keys hall) hkl (fun hno => ?_) (fun e he hk => ?_) (A3 1000 ?_)
    ·obtain ⟨e, he, h3⟩ := hes.mem_of hm
     exact absurd h3 (hno e he)
    ·obtain ⟨k', hk', h4, h5⟩ := hes.of_mem he
     rw [h5]; rfl
    ·have hE : rtE L = 122 := by
      rw [rtE, hbad, Bh8 (by omega : i < L.length) (hdi.2 (.inl hm))]; rfl
     rw [rtH, hE, if_neg (by decide)]
     repeat' (first | with_reducible refine And.intro (by omega) ?_ | simp (maxSteps := 4000000) (disch := omega) only [go_sem, ↓reduceIte])
     first | exact ⟨hB2, (), rfl, by simp [closed, A0, hz32], trivial⟩ | exact ⟨(), by simp [closed, A0, hz32]⟩ | exact ⟨hB2, (), by simp [closed, A0, hz32]⟩
   ·refine Bc5 (K := Bk0 q.k.l) (z := .int .i64 0) (v := .int .i64 0) rfl (WideMaps.string_law Try.underlying9) Try.underlying83 (fun w => by kernel_rfl) trivial trivial (.inr ⟨1, _, rfl, rfl⟩) rfl (fun bs => rfl) (hes.keys hall) hkl (fun hno => rfl) (fun e he hk => ?_) (A3 1000 ?_)
    ·obtain ⟨k', hk', h4, h5⟩ := hes.of_mem he
     exact absurd (Aq0 (h4.symm.trans hk) ▸ hk') hm
    ·by_cases h0 : q.v.l = []
     ·have hvl : q.v.l.length = 0 := by rw [h0]; rfl
      have c0 : (((q.v.l.length : Nat) : Int) == 0) = true := by rw [beq_iff_eq]; omega
      have hE : rtE L = 122 := by
       rw [rtE, hbad, Bh8 (by omega : i < L.length) (hdi.2 (.inr h0))]; rfl
      rw [rtH, hE, if_neg (by decide)]
      repeat' (first | with_reducible refine And.intro (by omega) ?_ | simp (maxSteps := 4000000) (disch := omega) only [go_sem, ↓reduceIte, c0])
      first | exact ⟨hB2, (), rfl, by simp [closed, A0, hz32], trivial⟩ | exact ⟨(), by simp [closed, A0, hz32]⟩ | exact ⟨hB2, (), by simp [closed, A0, hz32]⟩
     ·have hvp : 0 < q.v.l.length := List.length_pos_iff.2 h0
      have c0 : (((q.v.l.length : Nat) : Int) == 0) = false := by rw [beq_eq_false_iff_ne]; omega
      have hdu' : At0 L i = false := by
       rw [Bool.eq_false_iff]; intro hh
       exact (hdi.1 hh).elim hm h0
      repeat' (first | with_reducible refine And.intro (by omega) ?_ | simp (maxSteps := 4000000) (disch := omega) only [go_sem, ↓reduceIte, c0])
      refine Bk1 q.k.l rfl Try.underlying22 Try.underlying5 Try.underlying9 rfl rfl hok.1.b (A3 1000 ?_)
      repeat' (simp (maxSteps := 4000000) (disch := omega) only [go_sem, ↓reduceIte])
      refine Bc5 (K := Bk0 q.k.l) (z := .int .i64 0) (v := .int .i64 0) rfl (WideMaps.string_law Try.underlying9) Try.underlying83 (fun w => by kernel_rfl) trivial trivial (.inr ⟨1, _, rfl, rfl⟩) rfl (fun bs => rfl) (hes.keys hall) hkl (fun hno => rfl) (fun e he hk => ?_) (A3 1000 ?_)
      ·obtain ⟨k', hk', h4, h5⟩ := hes.of_mem he
       exact absurd (Aq0 (h4.symm.trans hk) ▸ hk') hm
      ·repeat' (simp (maxSteps := 4000000) (disch := omega) only [go_sem, ↓reduceIte])
       refine Cj7 (K := Bk0 q.k.l) (V := .int .i64 1) 1 rfl (WideMaps.string_law Try.underlying9) Try.underlying83 rfl rfl rfl (fun bs => rfl) (fun bs => rfl) rfl (hes.keys hall) hkl (fun es' clock' hs => A3 1000 ?_)
       repeat' (first | with_reducible refine And.intro (by omega) ?_ | simp (maxSteps := 4000000) (disch := omega) only [go_sem, ↓reduceIte])
       refine O9 2 (Bo3 (f := 200) B2 .nilIface rv hd (Cd6 hag) hok.1.b hok.2.b rfl rfl hsm.1 hvp hsm.2 (by rw [O7]; omega)) rfl (fun _ => by simp [closed, A0]) (C7 _ _) (fun _ => C7 _ _) (fun u B5 hB5 hR5 => A3 1000 ?_)
       change BExt B2 B5 at hB5
       rw [← hnx] at hR5
       have hes' := hes.set hm hs
       repeat' (simp (maxSteps := 4000000) (disch := omega) only [go_sem, ↓reduceIte])
       refine ⟨(i + 1, es', clock', u, B5), ⟨hi2, hB2.trans hB5, hR5, ?_, fun j hj => ?_⟩, Weak.sub (A5 (by simp [wσ, go_sem, closed, A0, A4, trO, hz32, htc, clO, EObj.closed] <;> omega) (by simp [whs, Go.Ew.hget, go_sem, EObj.closed, closed, A0, A4, trO, hz32, htc, clO, EObj.closed]) (by first | (simp [*]; done) | (simp only [cxG]; omega)) rfl rfl (by simp)), by simp only; omega⟩
       ·rw [htk, List.map_append]; exact hes'
       ·rcases Nat.lt_or_ge j i with h3 | h3
        ·exact hdu j h3
        ·obtain rfl : j = i := by omega
         exact hdu'
  ·obtain rfl : i = ps.length := by omega
   have cA : decide ((ps.length : Int) < (ps.length : Int)) = false := decide_eq_false (by omega)
   have hE : rtE L = 0 := by
    rw [rtE, hbad, Cc0 (fun j hj => hdu j (by omega))]; rfl
   have hH : rtH L = C8 .u8 (O5 (rtB L)) 32 := by rw [rtH, if_pos hE]
   have hB : rtB L = J2 (E4 (rtN L ps.length)) := by rw [rtB, hLl]
   rw [hH, hE, hB]
   repeat' (first | simp (maxSteps := 4000000) (disch := omega) only [go_sem, ↓reduceIte, cA] | with_reducible refine A3 1000 ?_)
   refine O9 2 (Ch9 B2 .nilIface rv hd) rfl (fun _ => by simp [closed, A0, hcl]) (C7 _ _) (fun _ => C7 _ _) (fun u B5 hB5 hR5 => A3 1000 ?_)
   change BExt B2 B5 at hB5
   repeat' (simp (maxSteps := 4000000) (disch := omega) only [go_sem, ↓reduceIte, hsp])
   first | exact ⟨(), by simp [closed, A0, hcl]⟩ | exact ⟨hB2.trans hB5, (), rfl, by simp [closed, A0, hcl], trivial⟩ | exact ⟨hB2.trans hB5, (), by simp [closed, A0, hcl]⟩
end Go.Proofs.Ytncjbfkkgdepoaa
namespace Go.Proofs.Ytncjbfkkgdepoaa
open Go RowKit Go.Ew
set_option maxHeartbeats 16000000
theorem Dh4 : C5 Try.f29.ntmps (Try.f29.body.getD .skip) = true := by kernel_rfl
theorem Dh7 : C5 Try.f18.ntmps (Try.f18.body.getD .skip) = true := by kernel_rfl
theorem Dg9 : C5 Try.f34.ntmps (Try.f34.body.getD .skip) = true := by kernel_rfl
theorem Dh8 : C5 Try.f15.ntmps (Try.f15.body.getD .skip) = true := by kernel_rfl
theorem Ck6 {C : Cx} {Q : Exit → X → Prop} {st : List It} {x : X} (i : Nat) {es : Array MapEntry} {clock : Nat} (hg : hget x.hs i = some (.obj (.map es clock))) (hms : i ∉ x.ms)
  (hk : ∀ b B', BExt x.B B' → B'.D b → B'.w.heap[b]? = some (.map es clock) → Go.Ew.Next C Q st ⟨frzσ i b x.σ, x.n, Au5 i b x.hs, B', x.ms⟩) : Go.Ew.Next C Q st x := by
 intro hst bs a w hr
 refine hk (bs i) ⟨w, fun k => x.B.D k ∨ k = bs i⟩ (hr.frz_ext _ (fun k h => .inl h)) (.inr rfl) ?_ hst bs a w (hr.frz i hms _ (fun k => by simp [hg]))
 have := (hr.h.live i _ hg).2
 simp only [EObj.real] at this
 exact this
theorem Br0 {C : Cx} {Q : Exit → X → Prop} {o : Oper} {st : List It} {x : X} {I T R : TypeId} {ms : Array (String × TypeId)} {a : Operand} {v : Value} (hop : o.op = .binOp .neq I a (.const .nilIface) R) (ht : C.P.underlying I = some (.interface ms))
  (ha : ev x.σ a = .raw (.iface T v)) (hk : Go.Ew.Next C Q st { σ := put x.σ o.dst (.bool true), n := x.n, hs := x.hs, B := x.B, ms := x.ms }) : opS C Q o st x := by
 refine Y2 (.bool true) (by rw [hop]; simp) trivial ?_ hk
 intro bs ac w hr
 obtain ⟨dst, op, type, pos, after, guard⟩ := o
 simp only at hop; subst hop
 have ea := D0 hr.t a (by rw [ha]; simp)
 rw [ha] at ea
 have eb : ac.eval (.const .nilIface) = .nilIface := rfl
 have h1 : eqGuard .neq I a (.const .nilIface) (.iface T v) .nilIface = pure () := rfl
 have h2 : binOp .neq I (.iface T v) .nilIface = (do pure (.bool (!(← Op.equalIn (9999 + 1) I (.iface T v) .nilIface)))) := rfl
 simp only [execOp, ea, eb, real, h1, h2, Sem.run_bind, Sem.run_pure, Result.andThen_ok, Ao3 ht, Bool.not_false]
theorem Ao8 {B : Base} {b : Nat} {l : List UInt8} {rest : List EV} {T : TypeId} {fr : Nat × Nat} (hD : B.D b) (h : B.w.heap[b]? = some (.cells (A8 (fun _ => 0) (l.map bE ++ rest)).toArray T fr)) : BytesAt B (some ⟨b, 0, none⟩) l := by
 refine Ak7 (b := b) (fun a ha => by cases ha; exact ⟨rfl, hD⟩) (fun _ => rfl) (fun j hj => ?_)
 rw [E8, K8, K1 h]
 simp only [Nat.zero_add]
 rw [List.getElem?_toArray, A9, List.getElem?_map, List.getElem?_append_left hj, List.getElem?_eq_getElem hj, List.getD_eq_getElem?_getD, List.getElem?_eq_getElem hj]
 rfl
theorem Ar1 (B : Base) (k v : ByteArray) (hk : k.size ≤ 1048576) (hv : v.size ≤ 1048576) :
  Does Try.prog 29 [.str k, .str v] B (fun s : Pr => .agg (Pr.E s)) (fun s B' => s.k.Ok B' ∧ s.v.Ok B' ∧ s.kv = (k.data.toList, v.data.toList)) := by
 refine J9 Dk3 (fun s B B' hB hR => ⟨hR.1.ext hB, hR.2.1.ext hB, hR.2.2⟩) Try.func29 rfl Dh4 (by simp [Try.f29]) (by simp [A0, closed]) (fun B0 hB0 => A3 1000 ?_)
 have hm : (1048576 : Nat) ≤ maxLen := by decide +kernel
 repeat' (simp (maxSteps := 4000000) (disch := omega) only [go_sem, ↓reduceIte, Try.f29])
 refine Bi7 rfl Try.underlying9 Try.underlying5 Try.underlying22 rfl (by omega) (fun c1 hc1 _ => ?_)
 refine As3 1 rfl (closeds_append.2 ⟨N3 _ _, by rw [D8]; intro v hv; rw [List.eq_of_mem_replicate hv]; trivial⟩) (by simp) (fun b1 B1 hB1 hD1 hH1 => A3 1000 ?_)
 change BExt B0 B1 at hB1
 repeat' (simp (maxSteps := 4000000) (disch := omega) only [go_sem, ↓reduceIte])
 refine Bi7 rfl Try.underlying9 Try.underlying5 Try.underlying22 rfl (by omega) (fun c2 hc2 _ => ?_)
 refine As3 2 rfl (closeds_append.2 ⟨N3 _ _, by rw [D8]; intro v hv; rw [List.eq_of_mem_replicate hv]; trivial⟩) (by simp) (fun b2 B2 hB2 hD2 hH2 => A3 1000 ?_)
 change BExt B1 B2 at hB2
 repeat' (simp (maxSteps := 4000000) (disch := omega) only [go_sem, ↓reduceIte])
 obtain ⟨q, hq⟩ : ∃ q : Pr, q = ⟨⟨k.data.toList, some ⟨b1, 0, none⟩, c1⟩, ⟨v.data.toList, some ⟨b2, 0, none⟩, c2⟩⟩ := ⟨_, rfl⟩
 have hR : q.k.Ok B2 ∧ q.v.Ok B2 ∧ q.kv = (k.data.toList, v.data.toList) := by
  rw [hq]
  exact ⟨⟨(Ao8 hD1 hH1).ext hB2, hc1, Nat.le_trans hk (by decide)⟩, ⟨Ao8 hD2 hH2, hc2, Nat.le_trans hv (by decide)⟩, rfl⟩
 have hE : Pr.E q = [.raw (.slice (some ⟨b1, 0, none⟩) k.size c1), .raw (.slice (some ⟨b2, 0, none⟩) v.size c2)] := by rw [hq]; rfl
 first | exact ⟨q, hE ▸ rfl, by simp [closed, A0, hE], hR⟩ | exact ⟨hB1.trans hB2, q, by rw [hE], by simp [closed, A0, hE], hR⟩ | exact ⟨hB1.trans hB2, q, by rw [hE]; exact ⟨rfl, by simp [closed, A0], hR⟩⟩
theorem Bs4 {x : X} {v : EV} {G : EV → Base → Prop} (r : Nat) {cs : List EV} {T : TypeId} {fr : Nat × Nat} (hg : hget x.hs r = some (.cells cs T fr))
  (h : ∀ b B', BExt x.B B' → B'.D b → closed 0 (frz r b v) ∧ G (frz r b v) B') : Lays x v G := fun C bs w hh => by
 have hE : BExt x.B ⟨w, fun k => x.B.D k ∨ k = bs r⟩ := ⟨fun _ h => .inl h, hh.ext.same, hh.ext.size, hh.ext.os, hh.ext.tape, hh.ext.output⟩
 obtain ⟨h1, h2⟩ := h (bs r) ⟨w, fun k => x.B.D k ∨ k = bs r⟩ hE (.inr rfl)
 refine ⟨frz r (bs r) v, fun k => x.B.D k ∨ k = bs r, by rw [← real_frz bs r v]; exact I8 _ _ h1, h1, fun _ h => .inl h, ?_, h2⟩
 rintro b (hb | rfl)
 ·exact .inl hb
 ·exact .inr ⟨r, _, hg, rfl⟩
theorem Bq8 (B : Base) : Does Try.prog 18 [] B (fun a : Nat => .raw (.pointer (some ⟨a, 0, none⟩))) (fun _ _ => True) := by
 refine Bu2 Dk5 (fun s B B' hB hR => hR) Try.func18 rfl Dh7 (by simp [Try.f18]) (by simp [A0, closed]) (fun B0 hB0 => A3 1000 ?_)
 repeat' (simp (maxSteps := 4000000) (disch := omega) only [go_sem, ↓reduceIte, Try.f18])
 refine Bg9 rfl (Ck6 0 rfl (by simp) (fun b1 B1 hB1 hD1 hH1 => A3 1000 ?_))
 change BExt B0 B1 at hB1
 repeat' (first | with_reducible refine And.intro (by omega) ?_ | simp (maxSteps := 4000000) (disch := omega) only [go_sem, ↓reduceIte])
 first | exact ⟨hB1, Bs4 1 rfl (fun b B' hB hD => ⟨by simp [frz, closed], b, by simp [frz], trivial⟩)⟩ | exact Bs4 1 rfl (fun b B' hB hD => ⟨by simp [frz, closed], b, by simp [frz], trivial⟩) | exact Bs4 1 rfl (fun b B' hB hD => ⟨by simp [frz, closed], b, by simp [frz]⟩)
theorem Ba8 (B : Base) (sv rv : Value) {r v key : List UInt8} {kn kc : Nat} {kA : Option Addr} (hd : NdAt B (.leaf r v) rv) (hk : BytesAt B kA key) (hkn : key.length = kn) (hk64 : kn ≤ 64) (hr : G7 key = r) (hv : v.length ≤ 1048576) :
  Turn2 Try.prog 34 [.raw (.slice kA kn kc)] (trO sv rv) B (fun s : Option Addr × Nat => .tup [.raw (.slice s.1 v.length s.2), .int .i64 0]) (fun _ => trO sv rv) (fun s B' => BytesAt B' s.1 v ∧ v.length ≤ s.2) := by
 refine Q3 Dd4 (fun s B B' hB hR => ⟨hR.1.ext hB, hR.2⟩) Try.func34 rfl Dg9 (by simp [Try.f34]) (by simp [A0, closed]) (C7 _ _) (fun u => C7 _ _) (fun B0 hB0 b => A3 1000 ?_)
 replace hd := hd.ext' hB0
 replace hk := hk.ext hB0
 have c1 : decide ((64 : Int) < (kn : Int)) = false := decide_eq_false (by omega)
 repeat' (simp (maxSteps := 4000000) (disch := omega) only [go_sem, ↓reduceIte, Try.f34])
 refine O9 0 (Ck2 B0 sv rv) rfl (fun _ => trivial) (C7 _ _) (fun _ => C7 _ _) (fun _ B1 hB1 _ => A3 1000 ?_)
 change BExt B0 B1 at hB1
 repeat' (first | with_reducible refine And.intro (by omega) ?_ | simp (maxSteps := 4000000) (disch := omega) only [go_sem, ↓reduceIte, c1, trO] | with_reducible refine D6 (id := 5) [0, 1, 2, 3, 4, 5, 6, 7] mixed (by kernel_rfl) (by simp) (fun hin => D4 1000 hin ?_))
 refine G8 (Ad3 key kn _ kA kc (hk.ext hB1) hkn (by omega)) (fun _ => by simp [closed]) (by kernel_rfl) (F9 (by kernel_rfl) (C3 (by kernel_rfl))) (fun hin2 s2 B2 hB2 hR2 => D4 1000 hin2 ?_)
 change BExt B1 B2 at hB2
 repeat' (first | simp (maxSteps := 4000000) (disch := omega) only [go_sem, ↓reduceIte] | with_reducible refine E1 (by kernel_rfl) (C3 (by kernel_rfl)) (A3 1000 ?_))
 rcases hd.cases' with ⟨h0, _⟩ | ⟨_, T, a, rfl⟩
 ·cases h0
 have hTn := Bg6 hd
 have hd2 := hd.ext' (hB1.trans hB2)
 refine G1 (S := Unit) (fun _ => True)
  (fun _ => ⟨[(7, .raw (.slice s2.1 (G7 key).length s2.2)), (6, .raw (.iface T (.pointer (some ⟨a, 0, none⟩)))), (5, .int .i64 0), (4, .raw (.slice none 0 0)), (0, .ptr 0 0), (1, .raw (.slice kA kn kc))], 200000, [(0, some (trO sv (.iface T (.pointer (some ⟨a, 0, none⟩)))))], B2, []⟩)
  (fun _ => 0) () trivial (Weak.sub (A5 (by simp [wσ, go_sem, closed, A0, A4, trO] <;> omega) (by simp [whs, Go.Ew.hget, go_sem, EObj.closed, closed, A0, A4, trO]) (by first | (simp [*]; done) | (simp only [cxG]; omega)) rfl rfl (by simp))) ?_
 intro _ _
 refine A3 1000 ?_
 repeat' (simp (maxSteps := 4000000) (disch := omega) only [go_sem, ↓reduceIte])
 refine Br0 rfl Try.underlying71 rfl (A3 1000 ?_)
 repeat' (simp (maxSteps := 4000000) (disch := omega) only [go_sem, ↓reduceIte])
 refine O9 0 (Bf1 B2 sv _ T a hTn) rfl (fun _ => by simp [closed, A0]) (C7 _ _) (fun _ => C7 _ _) (fun _ B3 hB3 _ => A3 1000 ?_)
 change BExt B2 B3 at hB3
 replace hd2 := hd2.ext' hB3
 have hrs := hR2.1.ext hB3
 repeat' (simp (maxSteps := 4000000) (disch := omega) only [go_sem, ↓reduceIte])
 cases hd2 with
 | leaf r v _ sA wA sc wc hc hsr hwv e1 e2 e3 =>
  obtain ⟨q0, q0d, q0s⟩ := hc.raw (j := 0) (v := .slice sA r.length sc) rfl
  obtain ⟨q1, q1d, q1s⟩ := hc.raw (j := 1) (v := .slice wA v.length wc) rfl
  simp only [E8, Addr.add, ↓reduceIte, Nat.reduceAdd, Nat.reduceEqDiff, C9, if_false, Nat.zero_add, Nat.one_ne_zero] at q0 q0s q1 q1s
  have qD : B3.D a := q0d
  have heq := Bh7 r (G7 key) r.length (G7 key).length B3 sA s2.1 sc s2.2 hsr hrs rfl rfl
  rw [decide_eq_true hr.symm] at heq
  refine Ap8 rfl Try.underlying112 rfl (A3 1000 ?_)
  repeat' (first | with_reducible refine And.intro (by first | omega | (constructor <;> assumption)) ?_ | simp (maxSteps := 4000000) (disch := omega) only [go_sem, ↓reduceIte, q0, q1] | refine G9 (heq) (by simp [closed, A0, A2, C4]) (A3 1000 ?_))
  refine F4 (Ba0 v v.length _ wA wc hwv rfl (by omega)) (fun _ => by simp [closed]) (fun s4 B4 hB4 hR4 => A3 1000 ?_)
  change BExt B3 B4 at hB4
  repeat' (simp (maxSteps := 4000000) (disch := omega) only [go_sem, ↓reduceIte])
  first | exact ⟨hB1.trans (hB2.trans (hB3.trans hB4)), s4, rfl, by simp [closed, A0], rfl, hR4⟩ | exact ⟨s4, by simp [closed, A0], hR4⟩ | exact ⟨s4, hR4⟩ | trace_state
end Go.Proofs.Ytncjbfkkgdepoaa
namespace Go.Proofs.Ytncjbfkkgdepoaa
open Go RowKit Go.Ew
set_option maxHeartbeats 4000000
def pkL (f : Nat → L64) : Nat → Nat
 | 0 => 0
 | n + 1 => pkL f n + (f n).toNat * 18446744073709551616 ^ n
def upL (S i : Nat) : L64 := BitVec.ofNat 64 (S / 18446744073709551616 ^ i)
theorem Ce7 (f : Nat → L64) : ∀ n, pkL f n < 18446744073709551616 ^ n
 | 0 => by simp [pkL]
 | n + 1 => by
  have ih := Ce7 f n
  have h := (f n).isLt
  rw [pkL, Nat.pow_succ]
  have h2 : (f n).toNat + 1 ≤ 18446744073709551616 := h
  have h3 := Nat.mul_le_mul_right (18446744073709551616 ^ n) h2
  rw [Nat.add_mul, Nat.one_mul] at h3
  rw [Nat.mul_comm (18446744073709551616 ^ n)]
  omega
theorem Ch2 (f : Nat → L64) : ∀ n i, i < n → upL (pkL f n) i = f i
 | n + 1, i, h => by
  have hlt := Ce7 f n
  by_cases hi : i = n
  ·subst hi
   rw [upL, pkL, Nat.add_mul_div_right _ _ (Nat.pow_pos (by decide)), Nat.div_eq_of_lt hlt, Nat.zero_add]
   simp
  ·have ih := Ch2 f n i (by omega)
   obtain ⟨d, rfl⟩ : ∃ d, n = i + d + 1 := ⟨n - i - 1, by omega⟩
   rw [← ih, upL, upL, pkL]
   apply BitVec.eq_of_toNat_eq
   rw [BitVec.toNat_ofNat, BitVec.toNat_ofNat]
   have e : (f (i + d + 1)).toNat * 18446744073709551616 ^ (i + d + 1) = ((f (i + d + 1)).toNat * 18446744073709551616 ^ d * 18446744073709551616) * 18446744073709551616 ^ i := by
    rw [Nat.pow_succ, Nat.pow_add]; ac_rfl
   rw [e, Nat.add_mul_div_right _ _ (Nat.pow_pos (by decide)), show (2 : Nat) ^ 64 = 18446744073709551616 by decide, Nat.add_mul_mod_self_right]
theorem Ax3 (rc : L64) {a b : Nat → L64} (h : ∀ j, j < 25 → a j = b j) (i : Nat) (hi : i < 25) : Af3 rc a i = Af3 rc b i := by
 have hC : ∀ x, x < 5 → thC a x = thC b x := fun x hx => by
  unfold thC
  rw [h x (by omega), h (x + 5) (by omega), h (x + 10) (by omega), h (x + 15) (by omega), h (x + 20) (by omega)]
 have hA : ∀ j, j < 25 → thA a 5 0 j = thA b 5 0 j := fun j hj => by
  simp only [thA, thD]
  rw [h j hj, hC _ (by omega), hC _ (by omega)]
 have hP : ∀ j, j < 25 → rpV (thA a 5 0) j = rpV (thA b 5 0) j := fun j hj => by
  unfold rpV
  rw [hA _ (by omega)]
 have hV : ∀ j, j < 25 → chV (rpV (thA a 5 0)) j = chV (rpV (thA b 5 0)) j := fun j hj => by
  unfold chV
  rw [hP _ hj, hP _ (by omega), hP _ (by omega)]
 simp only [Af3, Y4]
 rw [hV _ hi, hV 0 (by omega)]
def rcsL : List Nat := [1, 32898, 9223372036854808714, 9223372039002292224, 32907, 2147483649, 9223372039002292353, 9223372036854808585, 138, 136, 2147516425, 2147483658, 2147516555, 9223372036854775947, 9223372036854808713, 9223372036854808579, 9223372036854808578, 9223372036854775936, 32778, 9223372039002259466, 9223372039002292353, 9223372036854808704, 2147483649, 9223372039002292232]
theorem Ci5 : (List.range 24).all (fun k => decide (rcF 168 k = BitVec.ofNat 64 (rcsL.getD k 0))) = true := by decide +kernel
def trsL : List Nat := [0, 1, 62, 28, 27, 36, 44, 6, 55, 20, 3, 10, 43, 25, 39, 41, 45, 15, 21, 8, 18, 2, 61, 56, 14]
theorem Ch4 : (List.range 25).all (fun i => decide (trn i = trsL.getD i 0)) = true := by decide +kernel
theorem Cn6 {i : Nat} (h : i < 25) : trn i = trsL.getD i 0 := by
 have := List.all_eq_true.1 Ch4 i (List.mem_range.2 h)
 simpa using this
def cvC (a : Nat → L64) (i : Nat) : L64 := rot (a ((3 * (i / 5) + i % 5) % 5 + 5 * (i % 5))) (trsL.getD ((3 * (i / 5) + i % 5) % 5 + 5 * (i % 5)) 0)
def krC (rc : L64) (a : Nat → L64) (i : Nat) : L64 := if i = 0 then chV (cvC (thA a 5 0)) 0 ^^^ rc else chV (cvC (thA a 5 0)) i
theorem Cq1 (rc : L64) (a : Nat → L64) (i : Nat) (hi : i < 25) : krC rc a i = Af3 rc a i := by
 have hP : ∀ j, j < 25 → cvC (thA a 5 0) j = rpV (thA a 5 0) j := fun j hj => by
  rw [cvC, rpV, Cn6 (by omega)]
 have hV : ∀ j, j < 25 → chV (cvC (thA a 5 0)) j = chV (rpV (thA a 5 0)) j := fun j hj => by
  rw [chV, chV, hP _ hj, hP _ (by omega), hP _ (by omega)]
 simp only [krC, Af3, Y4]
 rw [hV _ hi, hV 0 (by omega)]
def kpC (S : Nat) : Nat → Nat
 | 0 => S
 | k + 1 => pkL (krC (BitVec.ofNat 64 (rcsL.getD k 0)) (upL (kpC S k))) 25
theorem Cf4 (a : Nat → L64) : ∀ k, k ≤ 24 → ∀ i, i < 25 → upL (kpC (pkL a 25) k) i = U0 a k i
 | 0, _, i, hi => Ch2 a 25 i hi
 | k + 1, hk, i, hi => by
  have ih := Cf4 a k (by omega)
  have hrc : rcF 168 k = BitVec.ofNat 64 (rcsL.getD k 0) := by
   have := List.all_eq_true.1 Ci5 k (List.mem_range.2 (by omega))
   simpa using this
  rw [kpC, Ch2 _ _ _ hi, Cq1 _ _ _ hi, U0, hrc]
  exact Ax3 _ ih i hi
def Cw1 (p : List UInt8) : List UInt8 := (List.range 32).map fun j => UInt8.ofNat ((upL (kpC (pkL (Bo0 (fun _ => 0) (Cm1 p) 0 17) 25) 24) (j / 8) >>> (8 * (j % 8))).toNat % 256)
theorem Ax4 (p : List UInt8) (h : p.length < 136) : Bh1 p = Cw1 p := by
 have hN : (p.length + 1 + Y9 p.length) / 136 = 1 := by unfold Y9; omega
 unfold Bh1 Cw1 O5
 rw [hN]
 apply List.map_congr_left
 intro j hj
 have hj := List.mem_range.1 hj
 have ha : Ba2 (Cm1 p) 1 = U0 (Bo0 (fun _ => 0) (Cm1 p) 0 17) 24 := rfl
 rw [ha, hF, Cf4 _ 24 (Nat.le_refl _) _ (by omega), n64]
 rfl
theorem Bd0 {p : List UInt8} {H : List UInt8} (h : Bh1 p = H) {i : Nat} (hi : i < 32) : O5 p i = ((H.getD i 0).toNat : Int) := by
 have hr := Ao2 p i
 rw [← h, Bh1]
 have : ((List.range 32).map fun i => UInt8.ofNat (O5 p i).toNat).getD i 0 = UInt8.ofNat (O5 p i).toNat := by
  simp [List.getD, hi]
 rw [this, UInt8.toNat_ofNat_of_lt' (by show _ < 256; omega)]
 omega
def awL : List KV := [([100, 111], [118, 101, 114, 98]), ([100, 111, 103], [112, 117, 112, 112, 121]), ([100, 111, 103, 101], [99, 111, 105, 110]), ([104, 111, 114, 115, 101], [115, 116, 97, 108, 108, 105, 111, 110])]
theorem Cs2 : rtE awL = 0 := by decide +kernel
def awC : Nd := .br [.nil, .nil, .nil, .nil, .nil, .nil, .ext [7] (.br [.nil, .nil, .nil, .nil, .nil, .nil, .leaf [5] [99, 111, 105, 110], .nil, .nil, .nil, .nil, .nil, .nil, .nil, .nil, .nil] [112, 117, 112, 112, 121]), .nil, .nil, .nil, .nil, .nil, .nil, .nil, .nil, .nil] [118, 101, 114, 98]
def awA : Nd := .br [.nil, .nil, .nil, .nil, .ext [6, 15] awC, .nil, .nil, .nil, .leaf [6, 15, 7, 2, 7, 3, 6, 5] [115, 116, 97, 108, 108, 105, 111, 110], .nil, .nil, .nil, .nil, .nil, .nil, .nil] []
theorem awT : rtN awL 4 = .ext [6] awA := by kernel_rfl
theorem An4 {t : Itm} (h : (J2 t).length < 32) : Q2 t = t := by rw [Q2, if_pos h]
theorem Bb6 {t : Itm} {f H : List UInt8} (hf : J2 t = f) (hl : (decide (f.length < 32)) = false) (hl2 : f.length < 136) (hk : Cw1 f = H) : Q2 t = txt H := by
 rw [Q2, hf, if_neg (by simpa using hl), Ax4 _ hl2, hk]
theorem Db3 : Q2 (E4 awC) = txt [212, 59, 135, 253, 205, 66, 23, 1, 60, 204, 146, 208, 70, 98, 225, 45, 54, 228, 204, 37, 220, 105, 0, 119, 205, 130, 26, 25, 86, 252, 62, 54] := by
 refine Bb6 (f := [243, 128, 128, 128, 128, 128, 128, 222, 23, 220, 128, 128, 128, 128, 128, 128, 198, 53, 132, 99, 111, 105, 110, 128, 128, 128, 128, 128, 128, 128, 128, 128, 133, 112, 117, 112, 112, 121, 128, 128, 128, 128, 128, 128, 128, 128, 128, 132, 118, 101, 114, 98]) ?_ (by decide +kernel) (by decide +kernel) (by decide +kernel)
 have h0 : Q2 (E4 .nil) = txt [] := An4 (by decide +kernel)
 have h1 : Q2 (E4 (.leaf [5] [99, 111, 105, 110])) = E4 (.leaf [5] [99, 111, 105, 110]) := An4 (by decide +kernel)
 have h2 : Q2 (E4 (.br [.nil, .nil, .nil, .nil, .nil, .nil, .leaf [5] [99, 111, 105, 110], .nil, .nil, .nil, .nil, .nil, .nil, .nil, .nil, .nil] [112, 117, 112, 112, 121])) = lst (Ae7 [.nil, .nil, .nil, .nil, .nil, .nil, .leaf [5] [99, 111, 105, 110], .nil, .nil, .nil, .nil, .nil, .nil, .nil, .nil, .nil] ++ [txt [112, 117, 112, 112, 121]]) := by
  rw [E4]
  refine An4 ?_
  simp only [Ae7, h0, h1]
  decide +kernel
 have h3 : ∀ k, k = Nd.ext [7] (.br [.nil, .nil, .nil, .nil, .nil, .nil, .leaf [5] [99, 111, 105, 110], .nil, .nil, .nil, .nil, .nil, .nil, .nil, .nil, .nil] [112, 117, 112, 112, 121]) → Q2 (E4 k) = lst [txt (pfx [7] false), lst (Ae7 [.nil, .nil, .nil, .nil, .nil, .nil, .leaf [5] [99, 111, 105, 110], .nil, .nil, .nil, .nil, .nil, .nil, .nil, .nil, .nil] ++ [txt [112, 117, 112, 112, 121]])] := fun k hk => by
  rw [hk, E4, h2]
  refine An4 ?_
  simp only [Ae7, h0, h1]
  decide +kernel
 have h4 := h3 _ rfl
 rw [awC, E4]
 simp only [Ae7, h0, h1, h4]
 decide +kernel
theorem Db4 : Q2 (E4 (.ext [6, 15] awC)) = txt [148, 169, 249, 91, 216, 150, 152, 228, 218, 24, 18, 224, 81, 128, 83, 129, 59, 77, 91, 135, 202, 175, 107, 60, 111, 165, 126, 158, 80, 192, 255, 104] := by
 refine Bb6 (f := [228, 130, 0, 111, 160, 212, 59, 135, 253, 205, 66, 23, 1, 60, 204, 146, 208, 70, 98, 225, 45, 54, 228, 204, 37, 220, 105, 0, 119, 205, 130, 26, 25, 86, 252, 62, 54]) ?_ (by decide +kernel) (by decide +kernel) (by decide +kernel)
 rw [E4, Db3]
 decide +kernel
theorem Db5 : Q2 (E4 awA) = txt [189, 62, 229, 7, 230, 198, 124, 254, 252, 169, 143, 132, 190, 71, 193, 187, 192, 9, 49, 95, 171, 196, 64, 93, 180, 186, 50, 25, 3, 116, 87, 42] := by
 refine Bb6 (f := [248, 64, 128, 128, 128, 128, 160, 148, 169, 249, 91, 216, 150, 152, 228, 218, 24, 18, 224, 81, 128, 83, 129, 59, 77, 91, 135, 202, 175, 107, 60, 111, 165, 126, 158, 80, 192, 255, 104, 128, 128, 128, 207, 133, 32, 111, 114, 115, 101, 136, 115, 116, 97, 108, 108, 105, 111, 110, 128, 128, 128, 128, 128, 128, 128, 128]) ?_ (by decide +kernel) (by decide +kernel) (by decide +kernel)
 have h0 : Q2 (E4 .nil) = txt [] := An4 (by decide +kernel)
 have h1 : Q2 (E4 (.leaf [6, 15, 7, 2, 7, 3, 6, 5] [115, 116, 97, 108, 108, 105, 111, 110])) = E4 (.leaf [6, 15, 7, 2, 7, 3, 6, 5] [115, 116, 97, 108, 108, 105, 111, 110]) := An4 (by decide +kernel)
 rw [awA, E4]
 simp only [Ae7, h0, h1, Db4]
 decide +kernel
theorem Cl6 : Bh1 (rtB awL) = [89, 145, 187, 140, 101, 20, 20, 138, 41, 219, 103, 106, 20, 172, 80, 108, 210, 205, 87, 117, 172, 230, 60, 48, 164, 254, 69, 119, 21, 233, 172, 132] := by
 have hf : rtB awL = [226, 22, 160, 189, 62, 229, 7, 230, 198, 124, 254, 252, 169, 143, 132, 190, 71, 193, 187, 192, 9, 49, 95, 171, 196, 64, 93, 180, 186, 50, 25, 3, 116, 87, 42] := by
  have h4 : awL.length = 4 := rfl
  rw [rtB, h4, awT, E4, Db5]
  decide +kernel
 rw [hf, Ax4 _ (by decide +kernel)]
 decide +kernel
theorem Db2 : O5 (rtB awL) 0 = 89 := Bd0 Cl6 (by decide)
theorem Db1 : O5 (rtB awL) 1 = 145 := Bd0 Cl6 (by decide)
theorem Cs3 : O5 (rtB awL) 31 = 132 := Bd0 Cl6 (by decide)
end Go.Proofs.Ytncjbfkkgdepoaa
