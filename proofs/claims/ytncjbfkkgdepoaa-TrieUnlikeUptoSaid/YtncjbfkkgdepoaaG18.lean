/- Part of a proof over the seat Ytncjbfkkgdepoaa. -/
import Derived.Test.YtncjbfkkgdepoaaUC
set_option linter.unusedSimpArgs false
set_option linter.unusedVariables false
set_option maxRecDepth 100000
namespace Go.Proofs.Ytncjbfkkgdepoaa
open Go RowKit Go.Ew
set_option maxHeartbeats 8000000
theorem Ec2 : D0 Try.f19.ntmps (Try.f19.body.getD .skip) = true := by kernel_rfl
theorem Ec4 : D0 Try.f16.ntmps (Try.f16.body.getD .skip) = true := by kernel_rfl
structure Pr where
 k : Bs
 v : Bs
def Pr.cells (p : Pr) : List Value := [p.k.v, p.v.v]
def Pr.E (p : Pr) : List EV := [.raw p.k.v, .raw p.v.v]
def Pr.kv (p : Pr) : KV := (p.k.l, p.v.l)
structure PrsAt (B : Base) (ad : Option Addr) (ps : List Pr) : Prop where
 c : CellsAt B ad (ps.flatMap Pr.cells)
 ok : ∀ p ∈ ps, p.k.Ok B ∧ p.v.Ok B
 len : ps.length ≤ 1099511627776
theorem PrsAt.ext {B B' : Base} {ad : Option Addr} {ps : List Pr} (h : PrsAt B ad ps) (e : BExt B B') : PrsAt B' ad ps := ⟨h.c.ext e, fun q hq => ⟨(h.ok q hq).1.ext e, (h.ok q hq).2.ext e⟩, h.len⟩
theorem Cc6 (ps : List Pr) : (ps.flatMap Pr.cells).length = ps.length * 2 := by rw [N1 (k := 2) (fun q _ => rfl)]; omega
theorem Bq0 (ps : List Pr) : (ps.flatMap Pr.E).length = ps.length * 2 := by rw [N1 (k := 2) (fun q _ => rfl)]; omega
theorem Dh1 (ps : List Pr) : (ps.flatMap Pr.cells).map D9 = ps.flatMap Pr.E := by rw [List.map_flatMap]; rfl
theorem X2 (n : Nat) (ps : List Pr) : A0 n (ps.flatMap Pr.E) := by
 induction ps with
 | nil => trivial
 | cons q qs ih => exact closeds_append.2 ⟨by simp [Pr.E, A0, closed], ih⟩
theorem Cq2 (ps : List Pr) : G2 (ps.flatMap Pr.E) = true := by
 induction ps with
 | nil => rfl
 | cons q qs ih => rw [List.flatMap_cons, J2, ih]; rfl
theorem Cc3 (bs : Nat → Nat) (ps : List Pr) : C2 bs (ps.flatMap Pr.E) = ps.flatMap Pr.cells := Ah9 _ _ _ (fun q => rfl) ps
theorem PrsAt.ld {B : Base} {ad : Option Addr} {ps : List Pr} (h : PrsAt B ad ps) {i : Nat} (hi : i < ps.length) :
  G5 B (H7 ad (i * 2)) = .raw (.slice ps[i].k.ad ps[i].k.l.length ps[i].k.c) ∧ G5 B (H7 ad (i * 2 + 1)) = .raw (.slice ps[i].v.ad ps[i].v.l.length ps[i].v.c) ∧ B.D (adr ad).block ∧ (B.w.cell? (H7 ad (i * 2))).isSome = true ∧ (B.w.cell? (H7 ad (i * 2 + 1))).isSome = true ∧ ad.isSome = true := by
 have g := fun j (hj : j < 2) => Al9 (f := Pr.cells) (k := 2) (l := ps) (i := i) (j := j) (fun q _ => rfl) hi hj
 have h0 := h.c.raw (j := i * 2) (v := (ps[i]).k.v) (g 0 (by omega))
 have h1 := h.c.raw (j := i * 2 + 1) (v := (ps[i]).v.v) (g 1 (by omega))
 exact ⟨h0.1, h1.1, h0.2.1, h0.2.2, h1.2.2, h.c.so (by rw [Cc6]; omega)⟩
theorem P5 (l : List UInt8) : (Bj9 l).toList = l := by rw [Ax8, ByteArray.toList_eq]
theorem Bt8 {M : List KV} {k : List UInt8} {i : Nat} (hi : i ≤ atM M k) (hl : i < M.length) (h : Op.bytesLess (M[i]).1 k = true) : i + 1 ≤ atM M k := by
 rcases Nat.lt_or_ge i (atM M k) with h1 | h1
 ·exact h1
 ·obtain rfl : i = atM M k := by omega
  rw [Cx9 M k hl] at h; cases h
theorem Bt9 {M : List KV} {k : List UInt8} {i : Nat} (hi : i ≤ atM M k) (hl : i < M.length) (h : Op.bytesLess (M[i]).1 k = false) : i = atM M k := by
 rcases Nat.lt_or_ge i (atM M k) with h1 | h1
 ·rw [Cx8 M k i hl h1] at h; cases h
 ·omega
theorem Cn0 {B : Base} (ps : List Pr) (n : Nat) (ad : Option Addr) (cap : Nat) (key : List UInt8) (kn : Nat) (kA : Option Addr) (kc : Nat) (h : PrsAt B ad ps) (hk : BytesAt B kA key) (hn : ps.length = n) (hkn : key.length = kn) :
  Does Try.prog 19 [.raw (.slice ad n cap), .raw (.slice kA kn kc)] B (fun _ : Unit => .tup [.int .i64 (atM (ps.map Pr.kv) key : Nat), .bool (isM (ps.map Pr.kv) key)]) (fun _ _ => True) := by
 subst hn
 refine K2 Eg3 (fun s B B' hB hR => hR) Try.func19 rfl Ec2 (by simp [Try.f19]) (by simp [A0, closed]) (fun B0 hB0 => A2 1000 ?_)
 replace h := h.ext hB0
 replace hk := hk.ext hB0
 have hlen := h.len
 obtain ⟨M, hM⟩ : ∃ M, M = ps.map Pr.kv := ⟨_, rfl⟩
 have hMl : M.length = ps.length := by rw [hM, List.length_map]
 have hal := Bi8 M key
 rw [← hM]
 repeat' (simp (maxSteps := 4000000) (disch := omega) only [go_sem, ↓reduceIte, Try.f19])
 refine H2 (S := Nat) (fun i => i ≤ atM M key)
  (fun i => ⟨[(6, .int .i64 (i : Nat)), (1, .raw (.slice kA kn kc)), (0, .raw (.slice ad ps.length cap))], 0, [], B0, []⟩)
  (fun i => ps.length - i) 0 (Nat.zero_le _) (Weak.sub (A6 (by simp [wσ, go_sem, closed, A0, A4, ] <;> omega) (by simp [whs, Go.Ew.hget, go_sem, EObj.closed, closed, A0, A4, ]) (by first | (simp [*]; done) | (simp only [cxG]; omega)) rfl rfl (by simp))) ?_
 intro i hi
 refine A2 1000 ?_
 rcases Nat.lt_or_ge i ps.length with hi2 | hi2
 ·have cA : decide ((i : Int) < (ps.length : Int)) = true := decide_eq_true (by omega)
  obtain ⟨l1, _, l3, l4, _, l6⟩ := h.ld hi2
  have hok := (h.ok _ (List.getElem_mem hi2)).1
  have hMi : (M[i]'(by omega)).1 = (ps[i]).k.l := by simp [hM, Pr.kv]
  have hst := Bt8 hi (by omega : i < M.length)
  have hhe := Bt9 hi (by omega : i < M.length)
  have his : isM M key = match M[atM M key]? with | some p => p.1 == key | none => false := rfl
  have hgi : M[i]? = some (M[i]'(by omega)) := List.getElem?_eq_getElem (by omega)
  rw [hMi] at hst hhe
  obtain ⟨q, hq⟩ : ∃ q, q = ps[i] := ⟨_, rfl⟩
  rw [← hq] at l1 hok hst hhe hMi
  repeat' (first | with_reducible refine And.intro (by first | omega | (constructor <;> assumption) | (simp [*]; done)) ?_ | simp (maxSteps := 4000000) (disch := omega) only [go_sem, ↓reduceIte, cA, Int.toNat_natCast, l1] | with_reducible refine C8 (id := 4) [0, 1, 2, 3, 4, 5, 6, 7, 8] mixed (by kernel_rfl) (by simp) (fun hin => D7 1000 hin ?_))
  refine Bv2 q.k.l rfl Try.underlying22 Try.underlying5 Try.underlying9 rfl rfl hok.b (fun hin2 => D7 1000 hin2 ?_)
  repeat' (simp (maxSteps := 4000000) (disch := omega) only [go_sem, ↓reduceIte])
  refine Bv2 key rfl Try.underlying22 Try.underlying5 Try.underlying9 rfl hkn hk (fun hin2 => D7 1000 hin2 ?_)
  by_cases hb : Op.bytesLess q.k.l key = true
  ·repeat' (first | simp (maxSteps := 4000000) (disch := omega) only [go_sem, ↓reduceIte, P5, hb, Bool.not_true] | with_reducible refine E1 (by kernel_rfl) (C4 (by kernel_rfl)) (A2 1000 ?_))
   exact ⟨i + 1, hst hb, Weak.sub (A6 (by simp [wσ, go_sem, closed, A0, A4, ] <;> omega) (by simp [whs, Go.Ew.hget, go_sem, EObj.closed, closed, A0, A4, ]) (by first | (simp [*]; done) | (simp only [cxG]; omega)) rfl rfl (by simp)), by omega⟩
  ·have hb' : Op.bytesLess q.k.l key = false := by simpa using hb
   have hia := hhe hb'
   have hise : isM M key = decide (q.k.l = key) := by
    rw [his, ← hia, hgi]
    simp only
    rw [hMi, Bool.eq_iff_iff, beq_iff_eq, decide_eq_true_eq]
   repeat' (simp (maxSteps := 4000000) (disch := omega) only [go_sem, ↓reduceIte, P5, hb', Bool.not_false])
   refine E1 (by kernel_rfl) (C4 (by kernel_rfl)) (L2 [] 0 (by simp) (by simp) (by simp) (by simp) (A2 1000 ?_))
   repeat' (first | with_reducible refine And.intro (by first | omega | (constructor <;> assumption) | ((repeat' refine And.intro ?_ ?_) <;> first | omega | assumption | (refine SlOk.so (n := ?_) ?_ ?_; rotate_left; assumption; omega) | (simp; done) | fail)) ?_ | simp (maxSteps := 4000000) (disch := omega) only [go_sem, ↓reduceIte, okC, okE, P3, E4, Int.toNat_natCast, l1] | with_reducible refine C8 (id := 5) [0, 1, 2, 3, 4, 5, 6, 7, 8, 9, 10, 11] mixed (by kernel_rfl) (by simp) (fun hin => D7 1000 hin ?_))
   refine Bv2 q.k.l rfl Try.underlying22 Try.underlying5 Try.underlying9 rfl rfl hok.b (fun hin2 => D7 1000 hin2 ?_)
   repeat' (simp (maxSteps := 4000000) (disch := omega) only [go_sem, ↓reduceIte])
   refine Bv2 key rfl Try.underlying22 Try.underlying5 Try.underlying9 rfl hkn hk (fun hin2 => D7 1000 hin2 ?_)
   repeat' (first | simp (maxSteps := 4000000) (disch := omega) only [go_sem, ↓reduceIte, Bo8] | with_reducible refine E1 (by kernel_rfl) (C4 (by kernel_rfl)) (A2 1000 ?_))
   rw [← hia, hise]
   first | exact ⟨BExt.refl _, (), rfl, by simp [closed, A0]⟩ | exact ⟨BExt.refl _, (), rfl, by simp [closed, A0], trivial⟩ | exact ⟨(), by simp [closed, A0]⟩ | exact ⟨BExt.refl _, (), by simp [closed, A0]⟩
 ·have cA : decide ((i : Int) < (ps.length : Int)) = false := decide_eq_false (by omega)
  have hia : atM M key = ps.length := by omega
  have his : isM M key = match M[atM M key]? with | some p => p.1 == key | none => false := rfl
  have hise : isM M key = false := by rw [his, List.getElem?_eq_none (by omega)]
  rw [hise, hia]
  repeat' (first | simp (maxSteps := 4000000) (disch := omega) only [go_sem, ↓reduceIte, cA] | with_reducible refine A2 1000 ?_)
  first | exact ⟨BExt.refl _, (), rfl, by simp [closed, A0], trivial⟩ | exact ⟨(), by simp [closed, A0]⟩ | exact ⟨BExt.refl _, (), by simp [closed, A0]⟩
def zP : List EV := [.raw (.slice none 0 0), .raw (.slice none 0 0)]
theorem Ae8 : A0 0 zP := by simp [zP, A0, closed]
theorem Av9 {B : Base} {ad : Option Addr} {cs : List Value} (h : CellsAt B ad cs) (n : Nat) : CellsAt B ad (cs.take n) :=
 ⟨fun a ha h0 => h.D a ha (by rw [List.length_take] at h0; omega), fun h0 => h.so (by rw [List.length_take] at h0; omega), fun j hj => by
  have hj' := hj
  rw [List.length_take] at hj'
  rw [h.cell j (by omega), List.getElem?_take_of_lt (by omega)]⟩
theorem Aw0 {B : Base} {ad : Option Addr} {cs : List Value} (h : CellsAt B ad cs) (n : Nat) : CellsAt B (ad.map (·.add n)) (cs.drop n) := by
 cases ad with
 | none =>
  have h0 : cs.length = 0 := by
   rcases Nat.eq_zero_or_pos cs.length with h1 | h1
   ·exact h1
   ·have := h.so h1; cases this
  have e : cs.drop n = [] := List.drop_eq_nil_of_le (by omega)
  rw [e]; exact CellsAt.nil B
 | some a =>
  have := h.sub n (cs.length - n)
  rw [List.take_of_length_le (by simp)] at this
  exact this
theorem T3 (B : Base) (ad : Option Addr) : CellsAt B ad [] := ⟨fun a _ h0 => absurd h0 (by simp), fun h => absurd h (by simp), fun j hj => absurd hj (by simp)⟩
theorem Cq0 (ps : List Pr) (n : Nat) : (ps.take n).flatMap Pr.cells = (ps.flatMap Pr.cells).take (n * 2) := by
 induction ps generalizing n with
 | nil => simp
 | cons p ps ih =>
  cases n with
  | zero => simp
  | succ n =>
   rw [List.take_succ_cons, List.flatMap_cons, List.flatMap_cons, ih, show (n + 1) * 2 = (n * 2) + 1 + 1 by omega]
   rfl
theorem Cq1 (ps : List Pr) (n : Nat) : (ps.drop n).flatMap Pr.cells = (ps.flatMap Pr.cells).drop (n * 2) := by
 induction ps generalizing n with
 | nil => simp
 | cons p ps ih =>
  cases n with
  | zero => simp
  | succ n =>
   rw [List.drop_succ_cons, List.flatMap_cons, ih, show (n + 1) * 2 = (n * 2) + 1 + 1 by omega]
   rfl
theorem PrsAt.take {B : Base} {ad : Option Addr} {ps : List Pr} (h : PrsAt B ad ps) (n : Nat) : PrsAt B ad (ps.take n) :=
 ⟨by rw [Cq0]; exact Av9 h.c _, fun p hp => h.ok p (List.mem_of_mem_take hp), by have := h.len; rw [List.length_take]; omega⟩
theorem PrsAt.drop {B : Base} {ad : Option Addr} {ps : List Pr} (h : PrsAt B ad ps) (n : Nat) : PrsAt B (ad.map (·.add (n * 2))) (ps.drop n) :=
 ⟨by rw [Cq1]; exact Aw0 h.c _, fun p hp => h.ok p (List.mem_of_mem_drop hp), by have := h.len; rw [List.length_drop]; omega⟩
theorem PrsAt.src {B : Base} {ad : Option Addr} {ps : List Pr} (h : PrsAt B ad ps) (n cap : Nat) (hn : ps.length = n) (hs : List (Nat × Option EObj)) : ∃ c, O6 B hs 2 (.raw (.slice ad n cap)) = some (n, ps.flatMap Pr.E, c) ∧ c := by
 have := CellsAt.src (cap := cap) h.c (sz := 2) (n := n) (by omega) (by rw [Cc6, hn]) hs
 rwa [Dh1] at this
theorem De7 {C : Cx} {Q : Exit → X → Prop} {o : Oper} {st : List It} {x : X} {a b : Operand} (hC : C.P = Try.prog) (r n : Nat) {l : Lst} {xs : List Pr} (ys : List Pr) (m : Nat)
  (hop : o.op = .call { callee := .builtin .append, args := #[a, b], argTypes := #[32, 32] })
  (hn : xs.length = n) (hm : ys.length = m) (ha : ev x.σ a = lE r n l) (hg : hget x.hs r = lO 35 (xs.flatMap Pr.E) l) (hl : lOk zP n l)
  (hsrc : ∃ c, O6 x.B x.hs 2 (ev x.σ b) = some (m, ys.flatMap Pr.E, c) ∧ c) (hmax : n + m ≤ 2199023255552)
  (hk : ∀ l', lOk zP (n + m) l' → Go.Ew.Next C Q st { σ := put x.σ o.dst (lE x.n (n + m) l'), n := x.n + 1, hs := (x.n, lO 35 ((xs ++ ys).flatMap Pr.E) l') :: (r, none) :: x.hs, B := x.B, ms := x.ms }) : opS C Q o st x := by
 obtain ⟨c, h1, h2⟩ := hsrc
 subst hm
 refine Ae3 (zs := zP) (xs := xs.flatMap Pr.E) (news := ys.flatMap Pr.E) (m := ys.length) r n hop (by rw [hC]; exact Try.underlying32) (.inl ⟨_, by rw [hC]; exact Try.underlying32⟩) (by rw [hC]; exact Du9) (by rw [hC]; exact Dl5) (by simp [zP]) Ae8 ha rfl hg hl (by rw [Bq0, hn]; rfl) (X2 0 _) h1 h2 (Cq2 _) (by simp only [maxLen]; omega) (by rw [hC, show Try.prog.bytesOf 35 = 48 from Dw8]; omega) (fun l' hl' => ?_)
 have := hk l' hl'
 rwa [List.flatMap_append] at this
theorem Ba1 {C : Cx} {Q : Exit → X → Prop} {st : List It} {x : X} (r n : Nat) {l : Lst} {xs : List Pr} {T : TypeId} (hg : hget x.hs r = lO T (xs.flatMap Pr.E) l) (hn : xs.length = n) (hl : lOk zP n l) (hms : r ∉ x.ms)
  (hk : ∀ b ad cap B', BExt x.B B' → frz r b (lE r n l) = .raw (.slice ad n cap) → CellsAt B' ad (xs.flatMap Pr.cells) → n ≤ cap → Go.Ew.Next C Q st ⟨frzσ r b x.σ, x.n, As0 r b x.hs, B', x.ms⟩) : Go.Ew.Next C Q st x := by
 subst hn
 refine X8 r xs.length hg hl (by rw [Bq0]; rfl) (X2 0 _) Ae8 hms (fun b ad cap B' hE hf hD hso hc => ?_)
 refine hk b ad cap B' hE hf (L7 hD hso (fun h0 => by rw [List.length_eq_zero_iff.1 h0]; rfl) hc (Cc3 _ _)) ?_
 cases l with
 | none => simp only [lE, frz] at hf; have := hl; simp only [lOk] at this; injection hf with hf; injection hf with _ h1 h2; omega
 | some q => obtain ⟨c, z⟩ := q; simp only [lE, frz, ↓reduceIte] at hf; have := hl.1; injection hf with hf; injection hf with _ h1 h2; omega
theorem Cb5 {B : Base} (ps : List Pr) (n : Nat) (ad : Option Addr) (cap : Nat) (key v : List UInt8) (kn vn : Nat) (kA vA : Option Addr) (kc vc : Nat) (h : PrsAt B ad ps) (hk : BytesAt B kA key) (hv : BytesAt B vA v) (hn : ps.length = n) (hnc : n ≤ cap) (hkn : key.length = kn) (hvn : v.length = vn)
  (hn0 : n < 1099511627776) (hkm : kn ≤ 1099511627776) (hvm : vn ≤ 1099511627776) :
  Does Try.prog 16 [.raw (.slice ad n cap), .raw (.slice kA kn kc), .raw (.slice vA vn vc)] B (fun s : Option Addr × Nat × List Pr => .raw (.slice s.1 s.2.2.length s.2.1)) (fun s B' => PrsAt B' s.1 s.2.2 ∧ s.2.2.length ≤ s.2.1 ∧ s.2.2.map Pr.kv = An8 (ps.map Pr.kv) key v) := by
 subst hn hkn hvn
 refine K2 Eg5 (fun s B B' hB hR => ⟨hR.1.ext hB, hR.2⟩) Try.func16 rfl Ec4 (by simp [Try.f16]) (by simp [A0, closed]) (fun B0 hB0 => A2 1000 ?_)
 replace h := h.ext hB0
 replace hk := hk.ext hB0
 replace hv := hv.ext hB0
 have hfi := Cn0 ps ps.length ad cap key key.length kA kc h hk rfl rfl
 obtain ⟨M, hM⟩ : ∃ M, M = ps.map Pr.kv := ⟨_, rfl⟩
 have hMl : M.length = ps.length := by rw [hM, List.length_map]
 have hal := Bi8 M key
 rw [← hM] at hfi ⊢
 have hpu : An8 M key v = M.take (atM M key) ++ (if v = [] then [] else [(key, v)]) ++ M.drop (atM M key + if isM M key then 1 else 0) := rfl
 have his : isM M key = true → atM M key < M.length := fun h => by
  rcases Nat.lt_or_ge (atM M key) M.length with h1 | h1
  ·exact h1
  ·rw [isM, List.getElem?_eq_none h1] at h; cases h
 obtain ⟨at', hat⟩ : ∃ a, a = atM M key := ⟨_, rfl⟩
 obtain ⟨is', hise⟩ : ∃ a, a = isM M key := ⟨_, rfl⟩
 rw [← hat, ← hise] at hfi hpu
 rw [← hat] at his hal
 rw [← hise] at his
 have hleno := h.len
 have hao : at' ≤ ps.length := by omega
 have g1 : (if cap = 0 then ad else Option.map (fun x => x) ad) = ad := by split <;> simp
 repeat' (first | with_reducible refine And.intro (by first | omega | (simp; done) | (simp; omega)) ?_ | simp (maxSteps := 4000000) (disch := omega) only [go_sem, ↓reduceIte, Try.f16, Int.toNat_natCast, g1, Nat.sub_zero] | refine G8 (hfi) (by simp [closed, A0, A3, C6]) (A2 1000 ?_))
 obtain ⟨Z, hZ⟩ : ∃ Z, Z = ps.take at' := ⟨_, rfl⟩
 have hZl : Z.length = at' := by rw [hZ, List.length_take]; omega
 have hZp : PrsAt B0 ad Z := by rw [hZ]; exact h.take at'
 refine De7 rfl (l := some (0, [])) (xs := []) 0 0 Z at' rfl rfl hZl rfl rfl ⟨Nat.le_refl _, Nat.zero_le _, rfl, by simp⟩ (hZp.src at' cap hZl _) (by omega) (fun l1 hl1 => A2 1000 ?_)
 simp only [Nat.zero_add, List.nil_append] at hl1 ⊢
 obtain ⟨dr, hdr⟩ : ∃ dr, dr = at' + if is' then 1 else 0 := ⟨_, rfl⟩
 have hdl : dr ≤ ps.length := by
  rw [hdr]
  split
  ·rename_i h1; have := his h1; omega
  ·omega
 obtain ⟨Y, hY⟩ : ∃ Y, Y = ps.drop dr := ⟨_, rfl⟩
 have hYl : Y.length = ps.length - dr := by rw [hY, List.length_drop]
 have hYp : PrsAt B0 (if cap = dr then ad else ad.map (·.add (dr * 2))) Y := by
  have h1 := h.drop dr
  rw [← hY] at h1
  split
  ·have e : Y = [] := List.length_eq_zero_iff.1 (by omega)
   rw [e]
   exact ⟨T3 _ _, fun p hp => by simp at hp, by simp⟩
  ·exact h1
 rw [← hdr] at hpu
 by_cases hv0 : v = []
 ·have hvl : v.length = 0 := by rw [hv0]; rfl
  have cV : decide ((0 : Int) < (v.length : Int)) = false := decide_eq_false (by omega)
  obtain ⟨l2, hl2e⟩ : ∃ l2, l2 = l1 := ⟨_, rfl⟩
  have hl2 := hl1
  rw [← hl2e] at hl2 ⊢
  have gd : ∀ e : Nat, e = dr → (if cap = e then ad else Option.map (fun x => x.add (e * 2)) ad) = (if cap = dr then ad else ad.map (·.add (dr * 2))) := fun e he => by rw [he]
  cases is' with
  | true =>
   have hde : dr = at' + 1 := by simpa using hdr
   have e1 : ((at' : Int) + 1).toNat = dr := by omega
   repeat' (first | with_reducible refine And.intro (by first | omega | (simp; omega)) ?_ | simp (maxSteps := 4000000) (disch := omega) only [go_sem, ↓reduceIte, cV, e1])
   have hLl : at' + (ps.length - dr) = ((Z) ++ Y).length := by simp only [List.length_append, List.length_singleton, hZl, hYl]
   refine De7 rfl (l := l2) (xs := Z) 1 (at') Y (ps.length - dr) rfl (by simp only [List.length_append, List.length_singleton, hZl]) hYl rfl rfl hl2 (hYp.src _ _ hYl _) (by omega) (fun l3 hl3 => ?_)
   rw [hLl] at hl3 ⊢
   refine Ba1 (xs := (Z) ++ Y) (T := 35) 2 ((Z) ++ Y).length rfl rfl hl3 (by simp) (fun b2 ad2 cap2 B4 hB4 hfz hC hcap2 => A2 1000 ?_)
   change BExt B0 B4 at hB4
   repeat' (first | with_reducible refine And.intro (by omega) ?_ | simp (maxSteps := 4000000) (disch := omega) only [go_sem, ↓reduceIte, hfz])
   have hBX : BExt B0 B4 := hB4
   have hok : PrsAt B4 ad2 ((Z) ++ Y) := ⟨hC, fun p hp => by
    rcases List.mem_append.1 hp with hp | hp
    ·exact ⟨(hZp.ok p hp).1.ext hBX, (hZp.ok p hp).2.ext hBX⟩
    ·exact ⟨(hYp.ok p hp).1.ext hBX, (hYp.ok p hp).2.ext hBX⟩, by rw [← hLl]; omega⟩
   have hkv : ((Z) ++ Y).map Pr.kv = An8 M key v := by
    rw [hpu, if_pos hv0, List.append_nil, List.map_append, hZ, hY, List.map_take, List.map_drop, ← hM]
   first | exact ⟨hBX, (ad2, cap2, (Z) ++ Y), rfl, by simp [closed, A0], ⟨hok, hcap2, hkv⟩⟩ | exact ⟨(ad2, cap2, (Z) ++ Y), rfl, by simp [closed, A0], ⟨hok, hcap2, hkv⟩⟩ | exact ⟨hBX, (ad2, cap2, (Z) ++ Y), by simp [closed, A0], ⟨hok, hcap2, hkv⟩⟩ | exact ⟨(ad2, cap2, (Z) ++ Y), by simp [closed, A0], ⟨hok, hcap2, hkv⟩⟩ | exact ⟨hBX, (ad2, cap2, (Z) ++ Y), by simp [closed, A0, E5]⟩ | exact ⟨(ad2, cap2, (Z) ++ Y), by simp [closed, A0, E5]⟩
  | false =>
   have hde : dr = at' := by simpa using hdr
   have e1 : ((at' : Int)).toNat = dr := by omega
   repeat' (first | with_reducible refine And.intro (by first | omega | (simp; omega)) ?_ | simp (maxSteps := 4000000) (disch := omega) only [go_sem, ↓reduceIte, cV, e1])
   have hLl : at' + (ps.length - dr) = ((Z) ++ Y).length := by simp only [List.length_append, List.length_singleton, hZl, hYl]
   refine De7 rfl (l := l2) (xs := Z) 1 (at') Y (ps.length - dr) rfl (by simp only [List.length_append, List.length_singleton, hZl]) hYl rfl rfl hl2 (hYp.src _ _ hYl _) (by omega) (fun l3 hl3 => ?_)
   rw [hLl] at hl3 ⊢
   refine Ba1 (xs := (Z) ++ Y) (T := 35) 2 ((Z) ++ Y).length rfl rfl hl3 (by simp) (fun b2 ad2 cap2 B4 hB4 hfz hC hcap2 => A2 1000 ?_)
   change BExt B0 B4 at hB4
   repeat' (first | with_reducible refine And.intro (by omega) ?_ | simp (maxSteps := 4000000) (disch := omega) only [go_sem, ↓reduceIte, hfz])
   have hBX : BExt B0 B4 := hB4
   have hok : PrsAt B4 ad2 ((Z) ++ Y) := ⟨hC, fun p hp => by
    rcases List.mem_append.1 hp with hp | hp
    ·exact ⟨(hZp.ok p hp).1.ext hBX, (hZp.ok p hp).2.ext hBX⟩
    ·exact ⟨(hYp.ok p hp).1.ext hBX, (hYp.ok p hp).2.ext hBX⟩, by rw [← hLl]; omega⟩
   have hkv : ((Z) ++ Y).map Pr.kv = An8 M key v := by
    rw [hpu, if_pos hv0, List.append_nil, List.map_append, hZ, hY, List.map_take, List.map_drop, ← hM]
   first | exact ⟨hBX, (ad2, cap2, (Z) ++ Y), rfl, by simp [closed, A0], ⟨hok, hcap2, hkv⟩⟩ | exact ⟨(ad2, cap2, (Z) ++ Y), rfl, by simp [closed, A0], ⟨hok, hcap2, hkv⟩⟩ | exact ⟨hBX, (ad2, cap2, (Z) ++ Y), by simp [closed, A0], ⟨hok, hcap2, hkv⟩⟩ | exact ⟨(ad2, cap2, (Z) ++ Y), by simp [closed, A0], ⟨hok, hcap2, hkv⟩⟩ | exact ⟨hBX, (ad2, cap2, (Z) ++ Y), by simp [closed, A0, E5]⟩ | exact ⟨(ad2, cap2, (Z) ++ Y), by simp [closed, A0, E5]⟩
 ·have hvl : 0 < v.length := List.length_pos_iff.2 hv0
  have cV : decide ((0 : Int) < (v.length : Int)) = true := decide_eq_true (by omega)
  repeat' (first | with_reducible refine And.intro (by first | omega | (simp; done)) ?_ | simp (maxSteps := 4000000) (disch := omega) only [go_sem, ↓reduceIte, cV])
  refine appB (T := 5) (l := some (0, [])) (xs := []) 2 0 key rfl Try.underlying22 (.inl ⟨_, Try.underlying22⟩) zr5 cz5 by5 rfl rfl rfl ⟨Nat.le_refl _, Nat.zero_le _, rfl, by simp⟩ (hk.src _) (by omega) (fun l5 hl5 => ?_)
  simp only [Nat.zero_add, List.nil_append] at hl5 ⊢
  refine I3 (xs := key) (T := 5) 3 key.length rfl rfl hl5 (by simp) (fun b5 ad5 cap5 B2 hB2 hfz5 hbY5 hcap5 => A2 1000 ?_)
  change BExt B0 B2 at hB2
  repeat' (first | with_reducible refine And.intro (by first | omega | (simp; done)) ?_ | simp (maxSteps := 4000000) (disch := omega) only [go_sem, ↓reduceIte, hfz5, Ac9 (i := 3) (r := 1) (by omega), Ac7 hl1 (X2 0 Z) Ae8])
  refine appB (T := 5) (l := some (0, [])) (xs := []) 4 0 v rfl Try.underlying22 (.inl ⟨_, Try.underlying22⟩) zr5 cz5 by5 rfl rfl rfl ⟨Nat.le_refl _, Nat.zero_le _, rfl, by simp⟩ ((hv.ext hB2).src _) (by omega) (fun l6 hl6 => ?_)
  simp only [Nat.zero_add, List.nil_append] at hl6 ⊢
  refine I3 (xs := v) (T := 5) 5 v.length rfl rfl hl6 (by simp) (fun b6 ad6 cap6 B3 hB3 hfz6 hbY6 hcap6 => A2 1000 ?_)
  change BExt B2 B3 at hB3
  have hBn : BExt B0 B3 := hB2.trans hB3
  obtain ⟨N, hN⟩ : ∃ N : Pr, N = ⟨⟨key, ad5, cap5⟩, ⟨v, ad6, cap6⟩⟩ := ⟨_, rfl⟩
  have hNk : N.k.Ok B3 := by rw [hN]; exact ⟨hbY5.ext hB3, hcap5, hkm⟩
  have hNv : N.v.Ok B3 := by rw [hN]; exact ⟨hbY6, hcap6, hvm⟩
  have hNE : [N].flatMap Pr.E = [.raw (.slice ad5 key.length cap5), .raw (.slice ad6 v.length cap6)] := by rw [hN]; rfl
  have hNkv : [N].map Pr.kv = [(key, v)] := by rw [hN]; rfl
  repeat' (first | with_reducible refine And.intro (by first | omega | (simp; done)) ?_ | simp (maxSteps := 4000000) (disch := omega) only [go_sem, ↓reduceIte, hfz6, Ac9 (i := 5) (r := 1) (by omega), Ac7 hl1 (X2 0 Z) Ae8])
  refine De7 rfl (l := l1) (xs := Z) 1 at' [N] 1 rfl hZl rfl rfl rfl hl1 ⟨_, F3 (m := 1) rfl (by rw [hNE]; rfl), by simp⟩ (by omega) (fun l2 hl2 => A2 1000 ?_)
  have gd : ∀ e : Nat, e = dr → (if cap = e then ad else Option.map (fun x => x.add (e * 2)) ad) = (if cap = dr then ad else ad.map (·.add (dr * 2))) := fun e he => by rw [he]
  cases is' with
  | true =>
   have hde : dr = at' + 1 := by simpa using hdr
   have e1 : ((at' : Int) + 1).toNat = dr := by omega
   repeat' (first | with_reducible refine And.intro (by first | omega | (simp; omega)) ?_ | simp (maxSteps := 4000000) (disch := omega) only [go_sem, ↓reduceIte, e1])
   have hLl : at' + 1 + (ps.length - dr) = ((Z ++ [N]) ++ Y).length := by simp only [List.length_append, List.length_singleton, hZl, hYl]
   refine De7 rfl (l := l2) (xs := Z ++ [N]) 7 (at' + 1) Y (ps.length - dr) rfl (by simp only [List.length_append, List.length_singleton, hZl]) hYl rfl rfl hl2 ((hYp.ext hBn).src _ _ hYl _) (by omega) (fun l3 hl3 => ?_)
   rw [hLl] at hl3 ⊢
   refine Ba1 (xs := (Z ++ [N]) ++ Y) (T := 35) 8 ((Z ++ [N]) ++ Y).length rfl rfl hl3 (by simp) (fun b2 ad2 cap2 B4 hB4 hfz hC hcap2 => A2 1000 ?_)
   change BExt B3 B4 at hB4
   repeat' (simp (maxSteps := 4000000) (disch := omega) only [go_sem, ↓reduceIte, hfz])
   have hBX : BExt B0 B4 := hBn.trans hB4
   have hok : PrsAt B4 ad2 ((Z ++ [N]) ++ Y) := ⟨hC, fun p hp => by
    rcases List.mem_append.1 hp with hp | hp
    ·rcases List.mem_append.1 hp with hp | hp
     ·exact ⟨(hZp.ok p hp).1.ext hBX, (hZp.ok p hp).2.ext hBX⟩
     ·obtain rfl := List.mem_singleton.1 hp
      exact ⟨hNk.ext hB4, hNv.ext hB4⟩
    ·exact ⟨(hYp.ok p hp).1.ext hBX, (hYp.ok p hp).2.ext hBX⟩, by rw [← hLl]; omega⟩
   have hkv : ((Z ++ [N]) ++ Y).map Pr.kv = An8 M key v := by
    rw [hpu, if_neg hv0, List.map_append, List.map_append, hZ, hY, List.map_take, List.map_drop, ← hM, hNkv]
   first | exact ⟨hBX, (ad2, cap2, (Z ++ [N]) ++ Y), rfl, by simp [closed, A0], ⟨hok, hcap2, hkv⟩⟩ | exact ⟨(ad2, cap2, (Z ++ [N]) ++ Y), rfl, by simp [closed, A0], ⟨hok, hcap2, hkv⟩⟩ | exact ⟨hBX, (ad2, cap2, (Z ++ [N]) ++ Y), by simp [closed, A0], ⟨hok, hcap2, hkv⟩⟩ | exact ⟨(ad2, cap2, (Z ++ [N]) ++ Y), by simp [closed, A0], ⟨hok, hcap2, hkv⟩⟩ | exact ⟨hBX, (ad2, cap2, (Z ++ [N]) ++ Y), by simp [closed, A0, E5]⟩ | exact ⟨(ad2, cap2, (Z ++ [N]) ++ Y), by simp [closed, A0, E5]⟩
  | false =>
   have hde : dr = at' := by simpa using hdr
   have e1 : ((at' : Int)).toNat = dr := by omega
   repeat' (first | with_reducible refine And.intro (by first | omega | (simp; omega)) ?_ | simp (maxSteps := 4000000) (disch := omega) only [go_sem, ↓reduceIte, e1])
   have hLl : at' + 1 + (ps.length - dr) = ((Z ++ [N]) ++ Y).length := by simp only [List.length_append, List.length_singleton, hZl, hYl]
   refine De7 rfl (l := l2) (xs := Z ++ [N]) 7 (at' + 1) Y (ps.length - dr) rfl (by simp only [List.length_append, List.length_singleton, hZl]) hYl rfl rfl hl2 ((hYp.ext hBn).src _ _ hYl _) (by omega) (fun l3 hl3 => ?_)
   rw [hLl] at hl3 ⊢
   refine Ba1 (xs := (Z ++ [N]) ++ Y) (T := 35) 8 ((Z ++ [N]) ++ Y).length rfl rfl hl3 (by simp) (fun b2 ad2 cap2 B4 hB4 hfz hC hcap2 => A2 1000 ?_)
   change BExt B3 B4 at hB4
   repeat' (simp (maxSteps := 4000000) (disch := omega) only [go_sem, ↓reduceIte, hfz])
   have hBX : BExt B0 B4 := hBn.trans hB4
   have hok : PrsAt B4 ad2 ((Z ++ [N]) ++ Y) := ⟨hC, fun p hp => by
    rcases List.mem_append.1 hp with hp | hp
    ·rcases List.mem_append.1 hp with hp | hp
     ·exact ⟨(hZp.ok p hp).1.ext hBX, (hZp.ok p hp).2.ext hBX⟩
     ·obtain rfl := List.mem_singleton.1 hp
      exact ⟨hNk.ext hB4, hNv.ext hB4⟩
    ·exact ⟨(hYp.ok p hp).1.ext hBX, (hYp.ok p hp).2.ext hBX⟩, by rw [← hLl]; omega⟩
   have hkv : ((Z ++ [N]) ++ Y).map Pr.kv = An8 M key v := by
    rw [hpu, if_neg hv0, List.map_append, List.map_append, hZ, hY, List.map_take, List.map_drop, ← hM, hNkv]
   first | exact ⟨hBX, (ad2, cap2, (Z ++ [N]) ++ Y), rfl, by simp [closed, A0], ⟨hok, hcap2, hkv⟩⟩ | exact ⟨(ad2, cap2, (Z ++ [N]) ++ Y), rfl, by simp [closed, A0], ⟨hok, hcap2, hkv⟩⟩ | exact ⟨hBX, (ad2, cap2, (Z ++ [N]) ++ Y), by simp [closed, A0], ⟨hok, hcap2, hkv⟩⟩ | exact ⟨(ad2, cap2, (Z ++ [N]) ++ Y), by simp [closed, A0], ⟨hok, hcap2, hkv⟩⟩ | exact ⟨hBX, (ad2, cap2, (Z ++ [N]) ++ Y), by simp [closed, A0, E5]⟩ | exact ⟨(ad2, cap2, (Z ++ [N]) ++ Y), by simp [closed, A0, E5]⟩
end Go.Proofs.Ytncjbfkkgdepoaa
namespace Go.Proofs.Ytncjbfkkgdepoaa
open Go RowKit Go.Ew
set_option maxHeartbeats 8000000
theorem Dz0 : D0 Try.f66.ntmps (Try.f66.body.getD .skip) = true := by kernel_rfl
theorem Cs8 {ks : List (List UInt8)} {i n : Nat} (h0 : ks ≠ []) (hn : n ≤ cmn ks i) (ha : Ac2 ks (i + n) = true) : n + 1 ≤ cmn ks i := by
 rcases Nat.lt_or_ge n (cmn ks i) with h | h
 ·exact h
 ·obtain rfl : n = cmn ks i := by omega
  rw [Ba9 h0] at ha; cases ha
theorem Ci0 {ks : List (List UInt8)} {i n : Nat} (hn : n ≤ cmn ks i) (ha : Ac2 ks (i + n) = false) : n = cmn ks i := by
 rcases Nat.lt_or_ge n (cmn ks i) with h | h
 ·rw [Bb0 h] at ha; cases ha
 ·omega
def atK (h q : List UInt8) (j : Nat) : Prop := j < q.length ∧ q.getD j 0 = h.getD j 0
theorem allAt_iff {ks : List (List UInt8)} {j : Nat} : Ac2 ks j = true ↔ ∀ q ∈ ks, atK (hdK ks) q j := by
 rw [Ac2, List.all_eq_true]
 simp only [Bool.and_eq_true, decide_eq_true_eq, beq_iff_eq, atK]
theorem Bw4 {B : Base} (qs : List Bs) (n : Nat) (ad : Option Addr) (cap i : Nat) (h : BssAt B ad qs) (hn : qs.length = n) (h0 : qs ≠ []) (hi : i ≤ 1099511627776) :
  Does Try.prog 66 [.raw (.slice ad n cap), .int .i64 (i : Int)] B (fun _ : Unit => .int .i64 (cmn (qs.map Bs.l) i : Nat)) (fun _ _ => True) := by
 subst hn
 refine K2 Ed9 (fun s B B' hB hR => hR) Try.func66 rfl Dz0 (by simp [Try.f66]) (by simp [A0, closed]) (fun B0 hB0 => A2 1000 ?_)
 replace h := h.ext hB0
 have hlen := h.len
 obtain ⟨K, hK⟩ : ∃ K, K = qs.map Bs.l := ⟨_, rfl⟩
 have hKl : K.length = qs.length := by rw [hK, List.length_map]
 have hK0 : K ≠ [] := by rw [hK]; simpa using h0
 have hq0 : 0 < qs.length := List.length_pos_iff.2 h0
 obtain ⟨a1, a2, a3, a4⟩ := h.ld hq0
 have aok := h.ok _ (List.getElem_mem hq0)
 have hhd : hdK K = (qs[0]).l := by
  rw [hK, hdK]
  cases qs with
  | nil => exact absurd rfl h0
  | cons a qs => rfl
 have hKm : ∀ q ∈ K, ∃ j, ∃ hj : j < qs.length, q = (qs[j]).l := fun q hq => by
  rw [hK] at hq
  obtain ⟨b, hb, rfl⟩ := List.mem_map.1 hq
  obtain ⟨j, hj, rfl⟩ := List.mem_iff_getElem.1 hb
  exact ⟨j, hj, rfl⟩
 have hmK : ∀ j (hj : j < qs.length), (qs[j]).l ∈ K := fun j hj => by rw [hK]; exact List.mem_map_of_mem (List.getElem_mem hj)
 rw [← hK]
 obtain ⟨c, hc⟩ : ∃ c, c = qs[0] := ⟨_, rfl⟩
 rw [← hc] at a1 aok hhd
 repeat' (simp (maxSteps := 4000000) (disch := omega) only [go_sem, ↓reduceIte, Try.f66])
 refine H2 (S := Nat) (fun n => n ≤ cmn K i)
  (fun n => ⟨[(5, .int .i64 (n : Nat)), (1, .int .i64 (i : Int)), (0, .raw (.slice ad qs.length cap))], 0, [], B0, []⟩)
  (fun n => cmn K i - n) 0 (Nat.zero_le _) (Weak.sub (A6 (by simp [wσ, go_sem, closed, A0, A4, ] <;> omega) (by simp [whs, Go.Ew.hget, go_sem, EObj.closed, closed, A0, A4, ]) (by first | (simp [*]; done) | (simp only [cxG]; omega)) rfl rfl (by simp))) ?_
 intro n hn
 have hcl : n = 0 ∨ i + n ≤ c.l.length := by
  rcases Nat.eq_zero_or_pos n with h | h
  ·exact .inl h
  ·right
   have h1 : Ac2 K (i + (n - 1)) = true := Bb0 (by omega)
   have h2 := Bu3 hK0 h1
   rw [hhd] at h2
   omega
 have hcm := aok.m
 have hnb : n ≤ 1099511627776 := by omega
 refine A2 1000 ?_
 repeat' (simp (maxSteps := 4000000) (disch := omega) only [go_sem, ↓reduceIte])
 refine H2 (S := Nat) (fun j => j ≤ qs.length ∧ ∀ t (ht : t < qs.length), t < j → atK (hdK K) (qs[t]).l (i + n))
  (fun j => ⟨[(6, .int .i64 (j : Nat)), (5, .int .i64 (n : Nat)), (1, .int .i64 (i : Int)), (0, .raw (.slice ad qs.length cap))], 0, [], B0, []⟩)
  (fun j => qs.length - j) 0 ⟨Nat.zero_le _, fun t _ ht => by omega⟩ (Weak.sub (A6 (by simp [wσ, go_sem, closed, A0, A4, ] <;> omega) (by simp [whs, Go.Ew.hget, go_sem, EObj.closed, closed, A0, A4, ]) (by first | (simp [*]; done) | (simp only [cxG]; omega)) rfl rfl (by simp))) ?_
 rintro j ⟨hj, hall⟩
 refine A2 1000 ?_
 rcases Nat.lt_or_ge j qs.length with hj2 | hj2
 ·have cA : decide ((j : Int) < (qs.length : Int)) = true := decide_eq_true (by omega)
  obtain ⟨l1, l2, l3, l4⟩ := h.ld hj2
  have hok := h.ok _ (List.getElem_mem hj2)
  have hm := hmK j hj2
  have hnx : atK (hdK K) (qs[j]).l (i + n) → ∀ t (ht : t < qs.length), t < j + 1 → atK (hdK K) (qs[t]).l (i + n) := fun ha t ht htj => by
   rcases Nat.lt_or_ge t j with h1 | h1
   ·exact hall t ht h1
   ·have e : t = j := by omega
    subst e; exact ha
  have hc0 : (0 < j → i + n < c.l.length) ∧ (j = 0 → qs[j] = c) := ⟨fun h0 => by have := (hall 0 hq0 h0).1; rwa [← hc] at this, fun h0 => by subst h0; exact hc.symm⟩
  obtain ⟨q, hq⟩ : ∃ q, q = qs[j] := ⟨_, rfl⟩
  rw [← hq] at l1 hok hm hnx hc0
  rw [hhd] at hnx
  have hqm := hok.m
  by_cases h1 : i + n < q.l.length
  ·have c1 : decide ((q.l.length : Int) ≤ (i : Int) + (n : Int)) = false := decide_eq_false (by omega)
   have hcn : i + n < c.l.length := by
    rcases Nat.eq_zero_or_pos j with h2 | h2
    ·rw [← hc0.2 h2]; exact h1
    ·exact hc0.1 h2
   have m1 := hok.b.ld (i + n) h1
   have m2 := hok.b.lS (i + n) h1
   have m3 := hok.b.lD (by omega)
   have m4 := hok.b.ok.so (by omega)
   have k1 := aok.b.ld (i + n) hcn
   have k2 := aok.b.lS (i + n) hcn
   have k3 := aok.b.lD (by omega)
   have k4 := aok.b.ok.so (by omega)
   have g1 : ((i : Int) + (n : Int)).toNat = i + n := by omega
   by_cases h3 : q.l.getD (i + n) 0 = c.l.getD (i + n) 0
   ·have c3 : ((((q.l.getD (i + n) 0).toNat : Nat) : Int) != (((c.l.getD (i + n) 0).toNat : Nat) : Int)) = false := by rw [h3]; exact bne_self_eq_false _
    repeat' (first | with_reducible refine And.intro (by first | omega | assumption | (constructor <;> assumption) | (simp; done) | (simp; omega) | (simp [*]; done) | ((repeat' refine And.intro ?_ ?_) <;> first | omega | assumption | (refine SlOk.so (n := ?_) ?_ ?_; rotate_left; assumption; omega) | (simp; done) | fail) | fail) ?_ | simp (maxSteps := 4000000) (disch := omega) only [go_sem, ↓reduceIte, cA, c1, Int.toNat_natCast, g1, l1, a1, m1, k1, bE, c3] | with_reducible refine C8 (id := 5) [0, 1, 2, 3, 4, 5, 6, 7, 8, 9, 10, 11, 12, 13, 14, 15, 16, 17, 18, 19, 20, 21, 22, 23, 24, 25, 26, 27, 28] mixed (by kernel_rfl) (by simp) (fun hin => D7 1000 hin ?_) | with_reducible refine E1 (by kernel_rfl) (C4 (by kernel_rfl)) (A2 1000 ?_))
    exact ⟨j + 1, ⟨by omega, by rw [hhd]; exact hnx ⟨h1, h3⟩⟩, Weak.sub (A6 (by simp [wσ, go_sem, closed, A0, A4, ] <;> omega) (by simp [whs, Go.Ew.hget, go_sem, EObj.closed, closed, A0, A4, ]) (by first | (simp [*]; done) | (simp only [cxG]; omega)) rfl rfl (by simp)), by omega⟩
   ·have c3 : ((((q.l.getD (i + n) 0).toNat : Nat) : Int) != (((c.l.getD (i + n) 0).toNat : Nat) : Int)) = true := by
     rw [bne_iff_ne]
     exact fun h => h3 (UInt8.toNat_inj.1 (by omega))
    have he : n = cmn K i := Ci0 hn (by
     rw [Bool.eq_false_iff]
     intro ha
     have := allAt_iff.1 ha _ hm
     rw [hhd] at this
     exact h3 this.2)
    rw [← he]
    repeat' (first | with_reducible refine And.intro (by first | omega | assumption | (constructor <;> assumption) | (simp; done) | (simp; omega) | (simp [*]; done) | ((repeat' refine And.intro ?_ ?_) <;> first | omega | assumption | (refine SlOk.so (n := ?_) ?_ ?_; rotate_left; assumption; omega) | (simp; done) | fail) | fail) ?_ | simp (maxSteps := 4000000) (disch := omega) only [go_sem, ↓reduceIte, cA, c1, Int.toNat_natCast, g1, l1, a1, m1, k1, bE, c3] | with_reducible refine C8 (id := 5) [0, 1, 2, 3, 4, 5, 6, 7, 8, 9, 10, 11, 12, 13, 14, 15, 16, 17, 18, 19, 20, 21, 22, 23, 24, 25, 26, 27, 28] mixed (by kernel_rfl) (by simp) (fun hin => D7 1000 hin ?_) | with_reducible refine E1 (by kernel_rfl) (C4 (by kernel_rfl)) (A2 1000 ?_))
    exact ⟨BExt.refl _, (), trivial⟩
  ·have c1 : decide ((q.l.length : Int) ≤ (i : Int) + (n : Int)) = true := decide_eq_true (by omega)
   have he : n = cmn K i := Ci0 hn (by
    rw [Bool.eq_false_iff]
    intro ha
    exact h1 (allAt_iff.1 ha _ hm).1)
   rw [← he]
   repeat' (first | with_reducible refine And.intro (by first | omega | assumption | (constructor <;> assumption) | (simp; done) | (simp; omega) | (simp [*]; done) | ((repeat' refine And.intro ?_ ?_) <;> first | omega | assumption | (refine SlOk.so (n := ?_) ?_ ?_; rotate_left; assumption; omega) | (simp; done) | fail) | fail) ?_ | simp (maxSteps := 4000000) (disch := omega) only [go_sem, ↓reduceIte, cA, c1, Int.toNat_natCast, l1] | with_reducible refine C8 (id := 5) [0, 1, 2, 3, 4, 5, 6, 7, 8, 9, 10, 11, 12, 13, 14, 15, 16, 17, 18, 19, 20, 21, 22, 23, 24, 25, 26, 27, 28] mixed (by kernel_rfl) (by simp) (fun hin => D7 1000 hin ?_) | with_reducible refine E1 (by kernel_rfl) (C4 (by kernel_rfl)) (A2 1000 ?_))
   exact ⟨BExt.refl _, (), trivial⟩
 ·obtain rfl : j = qs.length := by omega
  have cA : decide ((qs.length : Int) < (qs.length : Int)) = false := decide_eq_false (by omega)
  have hup : n + 1 ≤ cmn K i := Cs8 hK0 hn (allAt_iff.2 fun q hq => by
   obtain ⟨t, ht, rfl⟩ := hKm q hq
   exact hall t ht ht)
  repeat' (first | simp (maxSteps := 4000000) (disch := omega) only [go_sem, ↓reduceIte, cA] | with_reducible refine A2 1000 ?_)
  exact ⟨n + 1, hup, Weak.sub (A6 (by simp [wσ, go_sem, closed, A0, A4, ] <;> omega) (by simp [whs, Go.Ew.hget, go_sem, EObj.closed, closed, A0, A4, ]) (by first | (simp [*]; done) | (simp only [cxG]; omega)) rfl rfl (by simp)), by omega⟩
end Go.Proofs.Ytncjbfkkgdepoaa
