/- Part of a proof over the seat Ytncjbfkkgdepoaa. -/
import Derived.Test.YtncjbfkkgdepoaaG19
set_option linter.unusedSimpArgs false
set_option linter.unusedVariables false
set_option maxRecDepth 100000
namespace Go.Proofs.Ytncjbfkkgdepoaa
open Go RowKit Go.Ew
set_option maxHeartbeats 32000000
abbrev NdR (t : Itm) (l : List KV) (u : Plc × List Nv × Lst) (B' : Base) : Prop := ItAt B' t u.1 ∧ u.2.1.map Nv.nd = l ∧ ∀ q ∈ u.2.1, q.h.length = 32 ∧ q.b.Ok B'
abbrev Du7 (t : Itm) (nl : List KV) (f : FuncId) (args : List EV) (B : Base) (ns : List Nv) (l : Lst) : Prop :=
  Bld Try.prog f 86 95 zN args B ns.length l (ns.flatMap Nv.E) (fun u : Plc × List Nv × Lst => .agg (itE t u.1)) (fun u => (ns ++ u.2.1).length) (fun u => u.2.2) (fun u => (ns ++ u.2.1).flatMap Nv.E) (NdR t nl)
structure NIn (f : Nat) (ks vs : List Bs) (i : Nat) (ns : List Nv) (l : Lst) : Prop where
  len : ks.length = vs.length
  ok : MOk f (Aj7 ks vs) i
  sm : ∀ p ∈ Aj7 ks vs, p.1.length ≤ 1073741824 ∧ p.2.length ≤ 1073741824
  cnt : ns.length + At0 (Ac1 f (Aj7 ks vs) i) ≤ 1099511627775
  h : ∀ q ∈ ns, q.h.length = 32
  l : lOk zN ns.length l
theorem Cp4 : ∀ (f : Nat) (ks vs : List Bs) (kA vA : Option Addr) (kc vc n i : Nat) (B : Base) (ns : List Nv) (l : Lst), BssAt B kA ks → BssAt B vA vs → ks.length = n → NIn f ks vs i ns l →
    Du7 (D6 (Ac1 f (Aj7 ks vs) i)) (Az1 (Ac1 f (Aj7 ks vs) i)) 40 [.raw (.slice kA n kc), .raw (.slice vA n vc), .int .i64 (i : Nat)] B ns l := by
  intro f
  induction f with
  | zero =>
    intro ks vs kA vA kc vc n i B ns l hk hv hn h
    obtain ⟨p, hp⟩ := List.exists_mem_of_ne_nil _ h.ok.ne
    have := h.ok.len p hp
    omega
  | succ f ih =>
    intro ks vs kA vA kc vc n i B ns l hk hv hn h
    subst hn
    refine Ck1 Ef3 (fun s B B' hB hR => ⟨hR.1.ext hB, hR.2.1, fun q hq => ⟨(hR.2.2 q hq).1, (hR.2.2 q hq).2.ext hB⟩⟩) Try.func40 rfl Ea8 (by simp [Try.f40]) (by simp [A0, closed]) h.l (E3 0 _) C9 (fun B0 hB0 olds hol => A2 1000 ?_)
    replace hk := hk.ext hB0
    replace hv := hv.ext hB0
    have hkl := hk.len
    have hmf := Cm2 h.len
    have hms := Cm1 h.len
    have hml := Bo5 h.len
    obtain ⟨M, hM⟩ : ∃ M, M = Aj7 ks vs := ⟨_, rfl⟩
    have hMok := h.ok
    have hMsm := h.sm
    have hcnt := h.cnt
    have hsmN := Bs6 (f + 1) M i (by rw [hM]; exact hMsm)
    have hnl := h.l
    have hnh := h.h
    rw [← hM] at hMok hMsm hcnt hmf hms hml ⊢
    have hM0 : 0 < M.length := List.length_pos_iff.2 hMok.ne
    have hk0 : 0 < ks.length := by omega
    have hv0 : 0 < vs.length := by rw [← h.len]; omega
    obtain ⟨a1, a2, a3, a4⟩ := hk.ld hk0
    obtain ⟨b1, b2, b3, b4⟩ := hv.ld hv0
    have aok := hk.ok _ (List.getElem_mem hk0)
    have bok := hv.ok _ (List.getElem_mem hv0)
    have hhd : hdK (M.map Prod.fst) = (ks[0]).l := by
      rw [hmf, hdK]
      cases ks with
      | nil => simp at hk0
      | cons a ks => rfl
    have hhs : (M.map Prod.snd).headD [] = (vs[0]).l := by
      rw [hms]
      cases vs with
      | nil => simp at hv0
      | cons a vs => rfl
    have hi0 : i ≤ (ks[0]).l.length ∧ (ks[0]).l.length ≤ 1073741824 ∧ (vs[0]).l.length ≤ 1073741824 := by
      have hz := Ax1 (ks := ks) (vs := vs) hk0 hv0
      rw [← hM] at hz
      have hmem := List.mem_of_getElem? hz
      exact ⟨(hMok.len _ hmem).1, (hMsm _ hmem).1, (hMsm _ hmem).2⟩
    obtain ⟨c, hc⟩ : ∃ c, c = ks[0] := ⟨_, rfl⟩
    obtain ⟨d, hd⟩ : ∃ d, d = vs[0] := ⟨_, rfl⟩
    rw [← hc] at a1 aok hhd hi0
    rw [← hd] at b1 bok hhs hi0
    have hcan : Ac1 (f + 1) M i = if M.length = 1 then .leaf (c.l.drop i) d.l else if 0 < cmn (M.map Prod.fst) i then .ext ((c.l.drop i).take (cmn (M.map Prod.fst) i)) (Ac1 f M (i + cmn (M.map Prod.fst) i))
      else .br ((List.range 16).map fun d => if R2 M i d = [] then .nil else Ac1 f (R2 M i d) (i + 1)) (Bu6 M i) := by rw [Ac1, hhd, hhs]
    have hac := aok.c
    by_cases h1 : M.length = 1
    · have c1 : (((ks.length : Nat) : Int) == 1) = true := by rw [beq_iff_eq]; omega
      rw [if_pos h1] at hcan
      rw [hcan] at hsmN ⊢
      have hpl := Au3 (c.l.drop i) true
      have hdl : (c.l.drop i).length = c.l.length - i := List.length_drop
      have hcd := L4 aok.b i aok.c
      have hit : D6 (.leaf (c.l.drop i) d.l) = .mk 1 [] [txt (pfx (c.l.drop i) true), txt d.l] := rfl
      have hnd : Az1 (.leaf (c.l.drop i) d.l) = [] := rfl
      rw [hit, hnd]
      repeat' (first | with_reducible refine And.intro (by first | omega | (constructor <;> assumption) | (simp; omega) | (simp [*]; done)) ?_ | simp (maxSteps := 4000000) (disch := omega) only [go_sem, ↓reduceIte, Try.f40, c1, a1, b1, bO, Int.toNat_natCast] | with_reducible refine C8 (id := 2) [0, 1, 2, 3, 4, 7, 8, 9, 5, 6, 10, 11, 12, 13] mixed (by kernel_rfl) (by simp) (fun hin => D7 1000 hin ?_))
      refine J6 (Au0 (c.l.drop i) true (c.l.length - i) _ _ _ hcd hdl (by omega)) (fun _ => by simp [closed, A0]) (by kernel_rfl) (F6 (by kernel_rfl) (C4 (by kernel_rfl))) (fun hin2 s5 B5 hB5 hR5 => D7 1000 hin2 ?_)
      change BExt B0 B5 at hB5
      repeat' (simp (maxSteps := 4000000) (disch := omega) only [go_sem, ↓reduceIte])
      refine J6 (Aa9 (pfx (c.l.drop i) true) _ _ s5.1 s5.2 hR5.1 rfl (by omega)) (fun _ => by simp [closed, A0]) (by kernel_rfl) (F6 (by kernel_rfl) (C4 (by kernel_rfl))) (fun hin2 s6 B6 hB6 hR6 => D7 1000 hin2 ?_)
      change BExt B5 B6 at hB6
      have hBX := hB5.trans hB6
      have b1' := ((hv.ext hBX).ld hv0).1
      rw [← hd] at b1'
      repeat' (simp (maxSteps := 4000000) (disch := omega) only [go_sem, ↓reduceIte, b1, b1'])
      refine J6 (Aa9 d.l _ _ d.ad d.c (bok.b.ext hBX) rfl bok.m) (fun _ => by simp [closed, A0]) (by kernel_rfl) (F6 (by kernel_rfl) (C4 (by kernel_rfl))) (fun hin2 s7 B7 hB7 hR7 => D7 1000 hin2 ?_)
      change BExt B6 B7 at hB7
      repeat' (first | with_reducible refine And.intro (by first | omega | (simp; omega)) ?_ | simp (maxSteps := 4000000) (disch := omega) only [go_sem, ↓reduceIte])
      refine Aa4 100030 0 2 2 [] ([(txt (pfx (c.l.drop i) true), s6), (txt d.l, s7)].flatMap itC) Dq9 rfl rfl rfl (fun s => by simp [closed, A0]) (fun B ad cap hB hc3 => Cb7 [(txt (pfx (c.l.drop i) true), s6), (txt d.l, s7)] 2 B ad cap hc3 (by simp) (fun q hq => by
        simp only [List.mem_cons, List.not_mem_nil, or_false] at hq
        rcases hq with rfl | rfl
        · exact hR6.ext (hB7.trans hB)
        · exact hR7.ext hB) rfl) (by kernel_rfl) (F6 (by kernel_rfl) (C4 (by kernel_rfl))) (fun hin2 s8 B8 hB8 hR8 => D7 1000 hin2 ?_)
      change BExt B7 B8 at hB8
      have hfin : Itm.mk 1 [] (List.map Prod.fst [(txt (pfx (c.l.drop i) true), s6), (txt d.l, s7)]) = Itm.mk 1 [] [txt (pfx (c.l.drop i) true), txt d.l] := rfl
      rw [hfin] at hR8
      repeat' (first | simp (maxSteps := 4000000) (disch := omega) only [go_sem, ↓reduceIte] | with_reducible refine E1 (by kernel_rfl) (C4 (by kernel_rfl)) (A2 1000 ?_))
      exact ⟨hBX.trans (hB7.trans hB8), (s8, [], l), 2, rfl, by simp [closed, A0], by simp only [List.append_nil]; rfl, by simp only [List.append_nil]; rfl, by decide, ⟨hR8, rfl, fun q hq => by simp at hq⟩, by simp only [List.append_nil]; exact hnl, E3 0 _⟩
    · have c1 : (((ks.length : Nat) : Int) == 1) = false := by rw [beq_eq_false_iff_ne]; omega
      rw [if_neg h1] at hcan
      have hcm := Bw4 ks ks.length kA kc i hk rfl (List.length_pos_iff.1 hk0) (by omega)
      rw [← hmf] at hcm
      by_cases h2 : 0 < cmn (M.map Prod.fst) i
      · have hmo := hMok.more h2
        rw [if_pos h2] at hcan
        obtain ⟨m, hm⟩ : ∃ m, m = cmn (M.map Prod.fst) i := ⟨_, rfl⟩
        rw [← hm] at hcm h2 hmo hcan
        rw [hcan] at hsmN hcnt ⊢
        have c2 : decide ((0 : Int) < (m : Int)) = true := decide_eq_true (by omega)
        have hcl : i + m ≤ c.l.length := by
          have hz := Ax1 (ks := ks) (vs := vs) hk0 hv0
          rw [← hM, ← hc] at hz
          exact (hmo.len _ (List.mem_of_getElem? hz)).1
        obtain ⟨r, hr⟩ : ∃ r, r = (c.l.drop i).take m := ⟨_, rfl⟩
        have hrl : r.length = m := by rw [hr, List.length_take, List.length_drop]; omega
        rw [← hr] at hsmN hcnt ⊢
        have hpl := Au3 r false
        have hcd : BytesAt B0 (if c.c = i then c.ad else c.ad.map (·.add i)) r := by rw [hr]; exact (L4 aok.b i aok.c).take m
        obtain ⟨k, hk'⟩ : ∃ k, k = Ac1 f M (i + m) := ⟨_, rfl⟩
        rw [← hk'] at hsmN hcnt ⊢
        have hit : D6 (.ext r k) = .mk 1 [] [txt (pfx r false), J8 (D6 k)] := rfl
        have hnd : Az1 (.ext r k) = Az1 k ++ Bz2 (D6 k) := rfl
        rw [hit, hnd]
        have hce : At0 (.ext r k) = 1 + At0 k := rfl
        rw [hce] at hcnt
        have hnc := Ao4 k
        rw [List.length_append] at hnc
        have e1 : ((i : Int) + (m : Int)).toNat = i + m := by omega
        have e2 : ((i : Int) + (m : Int)) = ((i + m : Nat) : Int) := by omega
        repeat' (first | with_reducible refine And.intro (by first | omega | (constructor <;> assumption) | (simp [*]; done)) ?_ | simp (maxSteps := 4000000) (disch := omega) only [go_sem, ↓reduceIte, Try.f40, c1, c2, bO] | refine G8 (hcm) (by simp [closed, A0, A3, C6]) (A2 1000 ?_))
        repeat' (first | with_reducible refine And.intro (by first | omega | (simp; omega)) ?_ | simp (maxSteps := 4000000) (disch := omega) only [go_sem, ↓reduceIte, a1, e2, Int.toNat_natCast])
        refine F8 (Au0 r false (i + m - i) _ _ _ hcd (by omega) (by omega)) (fun _ => by simp [closed, A0]) (fun s5 B5 hB5 hR5 => A2 1000 ?_)
        change BExt B0 B5 at hB5
        repeat' (simp (maxSteps := 4000000) (disch := omega) only [go_sem, ↓reduceIte])
        refine F8 (Aa9 (pfx r false) _ _ s5.1 s5.2 hR5.1 rfl (by omega)) (fun _ => by simp [closed, A0]) (fun s6 B6 hB6 hR6 => A2 1000 ?_)
        change BExt B5 B6 at hB6
        have hBX := hB5.trans hB6
        repeat' (simp (maxSteps := 4000000) (disch := omega) only [go_sem, ↓reduceIte, e2])
        have hin : NIn f ks vs (i + m) ns l := ⟨h.len, by rw [← hM]; exact hmo, by rw [← hM]; exact hMsm, by rw [← hM, ← hk']; omega, hnh, hnl⟩
        have hrec := ih ks vs kA vA kc vc ks.length (i + m) B6 ns l (hk.ext hBX) (hv.ext hBX) rfl hin
        rw [← hM, ← hk'] at hrec
        refine Aq6 0 2 hrec rfl rfl (by decide) hnl (E3 0 _) C9 (by simp [A0, closed]) (fun _ => by simp [closed, A0]) (fun u B7 hB7 hR7 hl7 hx7 => A2 1000 ?_)
        change BExt B6 B7 at hB7
        obtain ⟨hi7, hm7, hk7⟩ := hR7
        have hlen7 : (ns ++ u.2.1).length + 1 ≤ 1099511627775 := by
          have := congrArg List.length hm7
          rw [List.length_map] at this
          rw [List.length_append]; omega
        have hh7 : ∀ q ∈ ns ++ u.2.1, q.h.length = 32 := fun q hq => by
          rcases List.mem_append.1 hq with h | h
          · exact hnh q h
          · exact (hk7 q h).1
        have hsk : (H6 (D6 k)).length ≤ 4294967296 := by
          rw [hk']; exact Bm6 (Bs6 f M (i + m) hMsm)
        repeat' (simp (maxSteps := 4000000) (disch := omega) only [go_sem, ↓reduceIte])
        refine Aq6 0 4 (Z2 hi7 (Cs9 k) (by omega) (ns ++ u.2.1) (ns ++ u.2.1).length rfl hh7 u.2.2 hl7 (by omega)) rfl rfl (by decide) hl7 (E3 0 _) C9 (by simp [A0, closed]) (fun _ => by simp [closed, A0]) (fun w B8 hB8 hR8 hl8 hx8 => A2 1000 ?_)
        change BExt B7 B8 at hB8
        obtain ⟨hi8, hm8, hk8⟩ := hR8
        repeat' (first | with_reducible refine And.intro (by first | omega | (simp; done)) ?_ | simp (maxSteps := 4000000) (disch := omega) only [go_sem, ↓reduceIte])
        refine Aq5 6 0 2 2 [] ([(txt (pfx r false), s6), (J8 (D6 k), w.1)].flatMap itC) Dq9 rfl rfl rfl (fun s => by simp [closed, A0]) (fun B ad cap hB hc3 => Cb7 [(txt (pfx r false), s6), (J8 (D6 k), w.1)] 2 B ad cap hc3 (by simp) (fun q hq => by
          simp only [List.mem_cons, List.not_mem_nil, or_false] at hq
          rcases hq with rfl | rfl
          · exact hR6.ext ((hB7.trans hB8).trans hB)
          · exact hi8.ext hB) rfl) (fun s9 B9 hB9 hR9 => A2 1000 ?_)
        change BExt B8 B9 at hB9
        have hfin : Itm.mk 1 [] (List.map Prod.fst [(txt (pfx r false), s6), (J8 (D6 k), w.1)]) = Itm.mk 1 [] [txt (pfx r false), J8 (D6 k)] := rfl
        rw [hfin] at hR9
        repeat' (simp (maxSteps := 4000000) (disch := omega) only [go_sem, ↓reduceIte])
        have hass : ns ++ (u.2.1 ++ w.2.1) = (ns ++ u.2.1) ++ w.2.1 := by rw [List.append_assoc]
        exact ⟨hBX.trans (hB7.trans (hB8.trans hB9)), (s9, u.2.1 ++ w.2.1, w.2.2), 5, rfl, by simp [closed, A0], by simp only [hass]; rfl, by simp only [hass]; rfl, by decide, ⟨hR9, by rw [List.map_append, hm7, hm8], fun q hq => by
          rcases List.mem_append.1 hq with h | h
          · exact ⟨(hk7 q h).1, (hk7 q h).2.ext (hB8.trans hB9)⟩
          · exact ⟨(hk8 q h).1, (hk8 q h).2.ext hB9⟩⟩, by simp only [hass]; exact hl8, E3 0 _⟩
      · rw [if_neg h2] at hcan
        have h20 : cmn (M.map Prod.fst) i = 0 := by omega
        rw [h20] at hcm
        obtain ⟨G, hG⟩ : ∃ G : Nat → Nd, G = fun d => if R2 M i d = [] then .nil else Ac1 f (R2 M i d) (i + 1) := ⟨_, rfl⟩
        rw [← hG] at hcan
        rw [hcan] at hsmN hcnt ⊢
        have hval := An0 M i []
        obtain ⟨V, hV⟩ : ∃ V, V = Bu6 M i := ⟨_, rfl⟩
        rw [← hV] at hsmN hcnt ⊢
        obtain ⟨KD, hKD⟩ : ∃ KD, KD = (List.range 16).map G := ⟨_, rfl⟩
        rw [← hKD] at hsmN hcnt ⊢
        have hit : D6 (.br KD V) = .mk 1 [] (Y7 KD ++ [txt V]) := rfl
        have hnd : Az1 (.br KD V) = Bl4 KD := rfl
        have hce : At0 (.br KD V) = 1 + Av7 KD := rfl
        rw [hit, hnd]
        rw [hce] at hcnt
        have hVl : V.length ≤ 1073741824 := hsmN.2
        have eN : ∀ r n, lE r n none = .raw (.slice none 0 0) := fun _ _ => rfl
        have oN : ∀ T xs, lO T xs none = none := fun _ _ => rfl
        have cn : ∀ n, clO n (none : Option EObj) = True := fun n => by simp [clO]
        have hclN : ∀ n, clO n (lO 95 (ns.flatMap Nv.E) l) = True := fun n => G1 hnl (E3 0 _) C9
        repeat' (first | simp (maxSteps := 4000000) (disch := omega) only [go_sem, ↓reduceIte, Try.f40, c1, bO] | refine G8 (hcm) (by simp [closed, A0, A3, C6]) (A2 1000 ?_))
        refine H2 (S := Nat × List (Itm × Plc) × Lst × List UInt8 × Plc × List Nv × Lst × Base)
          (fun s => s.1 ≤ 16 ∧ s.2.1.map Prod.fst = Y7 ((List.range s.1).map G) ∧ (∀ q ∈ s.2.1, ItAt s.2.2.2.2.2.2.2 q.1 q.2) ∧ lOk z3 s.1 s.2.2.1 ∧ ItAt s.2.2.2.2.2.2.2 (txt s.2.2.2.1) s.2.2.2.2.1 ∧ (s.1 = 0 → s.2.2.2.1 = []) ∧ (0 < s.1 → s.2.2.2.1 = V) ∧
            s.2.2.2.2.2.1.map Nv.nd = Bl4 ((List.range s.1).map G) ∧ (∀ q ∈ s.2.2.2.2.2.1, q.h.length = 32 ∧ q.b.Ok s.2.2.2.2.2.2.2) ∧ lOk zN (ns ++ s.2.2.2.2.2.1).length s.2.2.2.2.2.2.1 ∧ BExt B0 s.2.2.2.2.2.2.2)
          (fun s => ⟨[(12, .int .i64 (s.1 : Nat)), (11, .ptr 5 0), (10, .ptr 4 0), (8, .ptr 3 0), (3, .int .i64 (i : Nat)), (2, .raw (.slice vA ks.length vc)), (1, .raw (.slice kA ks.length kc)), (0, .ptr 0 0)], 7,
            [(6, lO 91 (s.2.1.flatMap itQ) s.2.2.1), (5, some (.cells (itE (txt s.2.2.2.1) s.2.2.2.2.1) 91 (0, 0))), (4, some (.cells [.int .i64 1, .raw (.slice none 0 0), lE 6 s.1 s.2.2.1] 91 (0, 0))), (3, some (.cells [.int .i64 0, .raw (.slice none 0 0), .raw (.slice none 0 0)] 91 (0, 0))),
             (2, lO 95 ((ns ++ s.2.2.2.2.2.1).flatMap Nv.E) s.2.2.2.2.2.2.1), (0, some (.cells [lE 2 (ns ++ s.2.2.2.2.2.1).length s.2.2.2.2.2.2.1] 86 (0, 0)))], s.2.2.2.2.2.2.2, []⟩)
          (fun s => 16 - s.1) (0, [], none, [], ⟨none, 0, none, 0⟩, [], l, B0)
          ⟨Nat.zero_le _, rfl, fun q hq => by simp at hq, rfl, Aj9 (Q3 none) (by simp), fun _ => rfl, fun h => absurd h (by simp), rfl, fun q hq => by simp at hq, by simp only [List.append_nil]; exact hnl, BExt.refl _⟩
          (Weak.sub (A6 (by simp [wσ, go_sem, closed, A0, A4, eN, oN, cn, hclN, itE, txt, Itm.list, Itm.bytes, Itm.kids] <;> omega) (by simp [whs, Go.Ew.hget, go_sem, EObj.closed, closed, A0, A4, eN, oN, cn, hclN, itE, txt, Itm.list, Itm.bytes, Itm.kids]) (by first | (simp [*]; done) | (simp only [cxG]; omega)) rfl rfl (by simp))) ?_
        rintro ⟨dd, qs, kl, w, wp, new, l', B2⟩ ⟨hdd, hqs, hqo, hkl', hwp, hw0, hw1, hnew, hnok, hl', hB2⟩
        simp only at hdd hqs hqo hkl' hwp hw0 hw1 hnew hnok hl' hB2 ⊢
        obtain ⟨NS, hNS⟩ : ∃ NS, NS = ns ++ new := ⟨_, rfl⟩
        rw [← hNS] at hl' ⊢
        have hclN2 : ∀ n, clO n (lO 95 (NS.flatMap Nv.E) l') = True := fun n => G1 hl' (E3 0 _) C9
        have hclQ : ∀ n, clO n (lO 91 (qs.flatMap itQ) kl) = True := fun n => G1 hkl' (C1 0 _) C7
        have hql : qs.length = dd := by
          have := congrArg List.length hqs
          rwa [List.length_map, T8, List.length_map, List.length_map, List.length_range] at this
        refine A2 1000 ?_
        rcases Nat.lt_or_ge dd 16 with hd2 | hd2
        · have cA : decide ((dd : Int) < 16) = true := decide_eq_true (by omega)
          repeat' (simp (maxSteps := 4000000) (disch := omega) only [go_sem, ↓reduceIte, cA])
          refine H2 (S := Nat × Lst × Lst × List UInt8 × Plc × Base)
            (fun s => s.1 ≤ ks.length ∧ lOk zS (As4 ks vs i dd s.1).length s.2.1 ∧ lOk zS (As4 ks vs i dd s.1).length s.2.2.1 ∧ s.2.2.2.1 = Dd8 M i s.1 w ∧ ItAt s.2.2.2.2.2 (txt s.2.2.2.1) s.2.2.2.2.1 ∧ BExt B2 s.2.2.2.2.2)
            (fun s => ⟨[(15, .int .i64 (s.1 : Nat)), (14, lE 8 (As4 ks vs i dd s.1).length s.2.2.1), (13, lE 7 (As4 ks vs i dd s.1).length s.2.1), (12, .int .i64 (dd : Nat)), (11, .ptr 5 0), (10, .ptr 4 0), (8, .ptr 3 0), (3, .int .i64 (i : Nat)), (2, .raw (.slice vA ks.length vc)), (1, .raw (.slice kA ks.length kc)), (0, .ptr 0 0)], 9,
              [(8, lO 22 ((Bz1 ks vs i dd s.1).map bsE) s.2.2.1), (7, lO 22 ((As4 ks vs i dd s.1).map bsE) s.2.1),
               (6, lO 91 (qs.flatMap itQ) kl), (5, some (.cells (itE (txt s.2.2.2.1) s.2.2.2.2.1) 91 (0, 0))), (4, some (.cells [.int .i64 1, .raw (.slice none 0 0), lE 6 dd kl] 91 (0, 0))), (3, some (.cells [.int .i64 0, .raw (.slice none 0 0), .raw (.slice none 0 0)] 91 (0, 0))),
               (2, lO 95 (NS.flatMap Nv.E) l'), (0, some (.cells [lE 2 NS.length l'] 86 (0, 0)))], s.2.2.2.2.2, []⟩)
            (fun s => ks.length - s.1) (0, none, none, w, wp, B2) ⟨Nat.zero_le _, rfl, rfl, rfl, hwp, BExt.refl _⟩ (Weak.sub (A6 (by simp [wσ, go_sem, closed, A0, A4, eN, oN, cn, hclN2, hclQ, Bd5, Bd4] <;> omega) (by simp [whs, Go.Ew.hget, go_sem, EObj.closed, closed, A0, A4, eN, oN, cn, hclN2, hclQ, Bd5, Bd4]) (by first | (simp [*]; done) | (simp only [cxG]; omega)) rfl rfl (by simp))) ?_
          rintro ⟨j, lk, lv, w2, wp2, B3⟩ ⟨hj, hlk, hlv, hw2, hwp2, hB3⟩
          simp only at hj hlk hlv hw2 hwp2 hB3 ⊢
          obtain ⟨PK, hPK⟩ : ∃ P, P = As4 ks vs i dd j := ⟨_, rfl⟩
          obtain ⟨PV, hPV⟩ : ∃ P, P = Bz1 ks vs i dd j := ⟨_, rfl⟩
          have hPl := Co8 ks vs i dd j
          have hPvl := Co5 ks vs i dd j
          rw [← hPK] at hlk hlv hPl hPvl
          rw [← hPV] at hPvl
          rw [← hPK, ← hPV]
          have hclK : ∀ n, clO n (lO 22 (PK.map bsE) lk) = True := fun n => G1 hlk (G9 0 _) H9
          have hclV : ∀ n, clO n (lO 22 (PV.map bsE) lv) = True := fun n => G1 hlv (G9 0 _) H9
          rcases Nat.lt_or_ge j ks.length with hj2 | hj2
          · have hjv : j < vs.length := by rw [← h.len]; exact hj2
            have cB : decide ((j : Int) < (ks.length : Int)) = true := decide_eq_true (by omega)
            have hBX := hB2.trans hB3
            obtain ⟨l1, l2, l3, l4⟩ := (hk.ext hBX).ld hj2
            obtain ⟨v1, v2, v3, v4⟩ := (hv.ext hBX).ld hjv
            have kok := (hk.ext hBX).ok _ (List.getElem_mem hj2)
            have vok := (hv.ext hBX).ok _ (List.getElem_mem hjv)
            have hz := Ax1 (ks := ks) (vs := vs) hj2 hjv
            rw [← hM] at hz
            have hzm := List.mem_of_getElem? hz
            have hzl := (hMok.len _ hzm).1
            have hz16 := hMok.nib _ hzm
            have hvs := Ca0 (m := M) (i := i) (w := w) hz
            obtain ⟨kq, hkq⟩ : ∃ q, q = ks[j] := ⟨_, rfl⟩
            obtain ⟨vq, hvq⟩ : ∃ q, q = vs[j] := ⟨_, rfl⟩
            obtain ⟨hssK, hssV⟩ := Co3 (i := i) (d := dd) hj2 hjv hkq hvq
            rw [← hkq] at l1 kok hzl hz16 hvs
            rw [← hvq] at v1 vok hvs
            rw [← hPK] at hssK
            rw [← hPV] at hssV
            rw [← hw2] at hvs
            simp only at hzl hz16 hvs
            refine A2 1000 ?_
            by_cases e1 : kq.l.length = i
            · have cE : (((kq.l.length : Nat) : Int) == (i : Int)) = true := by rw [beq_iff_eq]; omega
              have hpr : prd i dd (kq, vq) = false := by simp [prd, e1]
              rw [hpr, if_neg (by simp), List.append_nil] at hssK hssV
              rw [if_pos e1] at hvs
              repeat' (first | with_reducible refine And.intro (by first | omega | (constructor <;> assumption) | (simp [*]; done)) ?_ | simp (maxSteps := 4000000) (disch := omega) only [go_sem, ↓reduceIte, cB, cE, l1, v1, Int.toNat_natCast])
              refine F8 (Aa9 vq.l _ _ vq.ad vq.c vok.b rfl vok.m) (fun _ => by simp [closed, A0]) (fun s4 B4 hB4 hR4 => A2 1000 ?_)
              change BExt B3 B4 at hB4
              have hcW : ∀ n, A0 n (itE (txt vq.l) s4) := fun n => by simp [A0, closed]
              repeat' (simp (maxSteps := 4000000) (disch := omega) only [go_sem, ↓reduceIte])
              refine ⟨(j + 1, lk, lv, vq.l, s4, B4), ⟨hj2, by rw [hssK]; exact hlk, by rw [hssK]; exact hlv, hvs.symm, hR4, hB3.trans hB4⟩, Weak.sub (A6 (by simp [wσ, go_sem, closed, A0, A4, hclN2, hclQ, hclK, hclV, hssK, hssV, eN] <;> omega) (by simp [whs, Go.Ew.hget, go_sem, EObj.closed, closed, A0, A4, hclN2, hclQ, hclK, hclV, hssK, hssV, eN]) (by first | (simp [*]; done) | (simp only [cxG]; omega)) rfl rfl (by simp)), by simp only; omega⟩
            · have cE : (((kq.l.length : Nat) : Int) == (i : Int)) = false := by rw [beq_eq_false_iff_ne]; omega
              have hil : i < kq.l.length := by omega
              rw [if_neg e1] at hvs
              have m1 := kok.b.ld i hil
              have m2 := kok.b.lS i hil
              have m3 := kok.b.lD (by omega)
              have m4 := kok.b.ok.so (by omega)
              obtain ⟨z, hz'⟩ : ∃ z, z = (kq.l.getD i 0).toNat := ⟨_, rfl⟩
              have m5 : G5 B3 (H7 kq.ad i) = .int .u8 (z : Int) := by rw [m1, bE, hz']
              have hz16' : z < 16 := by
                rw [hz', List.getD_eq_getElem?_getD, List.getElem?_eq_getElem hil]
                exact hz16 _ (List.getElem_mem hil)
              by_cases e2 : z = dd
              · have cF : (((z : Nat) : Int) == (dd : Int)) = true := by rw [beq_iff_eq]; omega
                have hpr : prd i dd (kq, vq) = true := by
                  show (decide (kq.l.length ≠ i) && ((kq.l.getD i 0).toNat == dd)) = true
                  rw [← hz', decide_eq_true e1, Bool.true_and, beq_iff_eq]; exact e2
                rw [hpr, if_pos rfl] at hssK hssV
                repeat' (first | with_reducible refine And.intro (by first | omega | (constructor <;> assumption) | (simp; done) | (simp [*]; done) | ((repeat' refine And.intro ?_ ?_) <;> first | omega | assumption | (refine SlOk.so (n := ?_) ?_ ?_; rotate_left; assumption; omega) | (simp; done) | fail)) ?_ | simp (maxSteps := 4000000) (disch := omega) only [go_sem, ↓reduceIte, cB, cE, cF, l1, m5, Int.toNat_natCast])
                refine Dl7 rfl (l := lk) (xs := PK) 7 PK.length [kq] 1 rfl rfl rfl rfl rfl hlk ⟨_, F3 (m := 1) rfl rfl, by simp⟩ (by omega) (fun l5 hl5 => A2 1000 ?_)
                repeat' (first | with_reducible refine And.intro (by first | omega | (constructor <;> assumption) | (simp; done) | (simp [*]; done)) ?_ | simp (maxSteps := 4000000) (disch := omega) only [go_sem, ↓reduceIte, cB, cE, cF, l1, v1, m5, Int.toNat_natCast])
                refine Dl7 rfl (l := lv) (xs := PV) 8 PK.length [vq] 1 rfl hPvl rfl rfl rfl hlv ⟨_, F3 (m := 1) rfl rfl, by simp⟩ (by omega) (fun l6 hl6 => A2 1000 ?_)
                obtain ⟨cp5, rest5, rfl, -⟩ := D8 hl5 (by omega)
                obtain ⟨cp6, rest6, rfl, -⟩ := D8 hl6 (by omega)
                simp only [A5]
                repeat' (simp (maxSteps := 4000000) (disch := omega) only [go_sem, ↓reduceIte])
                have hl5' : lOk zS (As4 ks vs i dd (j + 1)).length (some (cp5, rest5)) := by rw [hssK, List.length_append]; exact hl5
                have hl6' : lOk zS (As4 ks vs i dd (j + 1)).length (some (cp6, rest6)) := by rw [hssK, List.length_append]; exact hl6
                have hk1 : (As4 ks vs i dd (j + 1)).length = PK.length + 1 := by rw [hssK, List.length_append]; rfl
                have cl5 : ∀ n, clO n (lO 22 ((As4 ks vs i dd (j + 1)).map bsE) (some (cp5, rest5))) = True := fun n => G1 hl5' (G9 0 _) H9
                have cl6 : ∀ n, clO n (lO 22 ((Bz1 ks vs i dd (j + 1)).map bsE) (some (cp6, rest6))) = True := fun n => G1 hl6' (G9 0 _) H9
                rw [← hssK, ← hssV]
                refine ⟨(j + 1, some (cp5, rest5), some (cp6, rest6), w2, wp2, B3), ⟨hj2, hl5', hl6', hvs.symm, hwp2, hB3⟩, (M8 [2, 3, 4, 5, 6, 10, 12] 2 (by simp) (by simp) hol (by simp)).trans ?_, by simp only; omega⟩
                simp only [go_sem, okC, okE, P3, X4 (ks := [2, 3, 4, 5, 6, 10, 12]) (k := 2) (r := 6) rfl, X4 (ks := [2, 3, 4, 5, 6, 10, 12]) (k := 2) (r := 2) rfl, M4, E9, E4, F5 (ks := [2, 3, 4, 5, 6, 10, 12]) (k := 2) hl5' (G9 0 _) H9, F5 (ks := [2, 3, 4, 5, 6, 10, 12]) (k := 2) hl6' (G9 0 _) H9, F5 (ks := [2, 3, 4, 5, 6, 10, 12]) (k := 2) hl' (E3 0 NS) C9, F5 (ks := [2, 3, 4, 5, 6, 10, 12]) (k := 2) hkl' (C1 0 qs) C7, A5, hk1]
                exact Weak.sub (A6 (by simp [wσ, go_sem, closed, A0, A4, hclN2, hclQ, cl5, cl6, A5, hk1] <;> omega) (by simp [whs, Go.Ew.hget, go_sem, EObj.closed, closed, A0, A4, hclN2, hclQ, cl5, cl6, A5, hk1]) (by first | (simp [*]; done) | (simp only [cxG]; omega)) rfl rfl (by simp))
              · have cF : (((z : Nat) : Int) == (dd : Int)) = false := by rw [beq_eq_false_iff_ne]; omega
                have hpr : prd i dd (kq, vq) = false := by
                  show (decide (kq.l.length ≠ i) && ((kq.l.getD i 0).toNat == dd)) = false
                  rw [← hz', decide_eq_true e1, Bool.true_and, beq_eq_false_iff_ne]; exact e2
                rw [hpr, if_neg (by simp), List.append_nil] at hssK hssV
                repeat' (first | with_reducible refine And.intro (by first | omega | (constructor <;> assumption) | (simp [*]; done) | ((repeat' refine And.intro ?_ ?_) <;> first | omega | assumption | (refine SlOk.so (n := ?_) ?_ ?_; rotate_left; assumption; omega) | (simp; done) | fail)) ?_ | simp (maxSteps := 4000000) (disch := omega) only [go_sem, ↓reduceIte, cB, cE, cF, l1, m5, Int.toNat_natCast])
                exact ⟨(j + 1, lk, lv, w2, wp2, B3), ⟨hj2, by rw [hssK]; exact hlk, by rw [hssK]; exact hlv, by rw [hvs], hwp2, hB3⟩, Weak.sub (A6 (by simp [wσ, go_sem, closed, A0, A4, hclN2, hclQ, hclK, hclV, hssK, hssV, eN] <;> omega) (by simp [whs, Go.Ew.hget, go_sem, EObj.closed, closed, A0, A4, hclN2, hclQ, hclK, hclV, hssK, hssV, eN]) (by first | (simp [*]; done) | (simp only [cxG]; omega)) rfl rfl (by simp)), by simp only; omega⟩
          · obtain rfl : j = ks.length := by omega
            have cB : decide ((ks.length : Int) < (ks.length : Int)) = false := decide_eq_false (by omega)
            have hsel := Cz4 h.len i dd
            rw [← hPK, ← hPV, ← hM] at hsel
            have hwV : w2 = V := by
              rw [hw2, ← hml, Cm6, hV]
              rcases Nat.eq_zero_or_pos dd with h0 | h0
              · exact .inl (hw0 h0)
              · exact .inr (by rw [hw1 h0, hV])
            have hPe : PK = [] ↔ R2 M i dd = [] := by
              have hl := congrArg List.length hsel
              rw [Bo5 (by rw [hPvl])] at hl
              rw [← List.length_eq_zero_iff, ← List.length_eq_zero_iff, hl]
            have hGd : G dd = if R2 M i dd = [] then .nil else Ac1 f (R2 M i dd) (i + 1) := by rw [hG]
            have hrS : Y7 ((List.range (dd + 1)).map G) = Y7 ((List.range dd).map G) ++ [J8 (D6 (G dd))] := by
              rw [List.range_succ, List.map_append, T8, T8, List.map_append]; rfl
            have hnS : Bl4 ((List.range (dd + 1)).map G) = Bl4 ((List.range dd).map G) ++ (Az1 (G dd) ++ Bz2 (D6 (G dd))) := by
              rw [List.range_succ, List.map_append, Bq5]; simp [Bl4]
            have hcW : ∀ n, A0 n (itE (txt w2) wp2) := fun n => by simp [A0, closed]
            have hFn : ∀ i b, fzO i b (lO 95 (NS.flatMap Nv.E) l') = lO 95 (NS.flatMap Nv.E) l' := fun i b => Ac7 hl' (E3 0 _) C9
            have hFq : ∀ i b, fzO i b (lO 91 (qs.flatMap itQ) kl) = lO 91 (qs.flatMap itQ) kl := fun i b => Ac7 hkl' (C1 0 _) C7
            have hFv : ∀ i b, fzO i b (lO 22 (PV.map bsE) lv) = lO 22 (PV.map bsE) lv := fun i b => Ac7 hlv (G9 0 _) H9
            have hFk : ∀ i b, fzO i b (lO 22 (PK.map bsE) lk) = lO 22 (PK.map bsE) lk := fun i b => Ac7 hlk (G9 0 _) H9
            refine Ba0 (xs := PK) (T := 22) 7 PK.length rfl rfl hlk (by simp) (fun b7 ad7 cap7 B4 hB4 hfz7 hC7 hcap7 => ?_)
            change BExt B3 B4 at hB4
            simp only [frzσ, frz, hfz7, Ac9 (show (8 : Nat) ≠ 7 by omega), Ac9 (show (6 : Nat) ≠ 7 by omega), Ac9 (show (2 : Nat) ≠ 7 by omega), hFn, hFq, hFv, hFk, J5, O0, Ag7, EObj.frz, Ac8, I2 _ (hcW 0), Nat.reduceEqDiff, if_false, if_true, ↓reduceIte]
            refine Ba0 (xs := PV) (T := 22) 8 PK.length rfl hPvl hlv (by simp) (fun b8 ad8 cap8 B5 hB5 hfz8 hC8 hcap8 => ?_)
            change BExt B4 B5 at hB5
            simp only [frzσ, frz, hfz8, Ac9 (show (6 : Nat) ≠ 8 by omega), Ac9 (show (2 : Nat) ≠ 8 by omega), hFn, hFq, hFv, hFk, J5, O0, Ag7, EObj.frz, Ac8, I2 _ (hcW 0), Nat.reduceEqDiff, if_false, if_true, ↓reduceIte]
            have hBX := hB2.trans (hB3.trans (hB4.trans hB5))
            have hB35 := hB3.trans (hB4.trans hB5)
            have hB45 := hB4.trans hB5
            have hwp5 := hwp2.ext hB45
            by_cases hPn : PK = []
            · have hP0 : PK.length = 0 := by rw [hPn]; rfl
              have cP : (((PK.length : Nat) : Int) == 0) = true := by rw [beq_iff_eq]; omega
              have hGn : G dd = .nil := by rw [hGd, if_pos (hPe.1 hPn)]
              have hrI : J8 (D6 (G dd)) = txt [] := by rw [hGn]; rfl
              have hnI : Az1 (G dd) ++ Bz2 (D6 (G dd)) = [] := by rw [hGn, Bp5]; rfl
              rw [hrI] at hrS
              rw [hnI, List.append_nil] at hnS
              refine A2 1000 ?_
              repeat' (first | with_reducible refine And.intro (by first | omega | (simp; done)) ?_ | simp (maxSteps := 4000000) (disch := omega) only [go_sem, ↓reduceIte, cB, cP] | with_reducible refine A2 1000 ?_)
              refine Dx0 rfl (l := kl) (xs := qs) 6 dd [(txt [], ⟨none, 0, none, 0⟩)] 1 rfl hql rfl rfl rfl hkl' ⟨_, F3 (m := 1) rfl rfl, by decide⟩ (by omega) (fun l5 hl5 => A2 1000 ?_)
              have hl5' := hl5
              obtain ⟨cp5, rest5, rfl, -⟩ := D8 hl5 (by omega)
              obtain ⟨qs2, hqs2⟩ : ∃ q, q = qs ++ [((txt [], ⟨none, 0, none, 0⟩) : Itm × Plc)] := ⟨_, rfl⟩
              rw [← hqs2]
              simp only [A5]
              repeat' (first | with_reducible refine And.intro (by omega) ?_ | simp (maxSteps := 4000000) (disch := omega) only [go_sem, ↓reduceIte])
              have cl5 : ∀ n, clO n (lO 91 (qs2.flatMap itQ) (some (cp5, rest5))) = True := fun n => G1 hl5' (C1 0 _) C7
              refine ⟨(dd + 1, qs2, some (cp5, rest5), w2, wp2, new, l', B5), ⟨hd2, by rw [hqs2, List.map_append, hqs, hrS]; rfl, fun q hq => by
                rw [hqs2] at hq
                rcases List.mem_append.1 hq with h3 | h3
                · exact (hqo q h3).ext hB35
                · obtain rfl := List.mem_singleton.1 h3
                  exact Aj9 (Q3 none) (by simp), hl5', hwp5, fun h => by omega, fun _ => hwV, by rw [hnew, hnS], fun q hq => ⟨(hnok q hq).1, (hnok q hq).2.ext hB35⟩, by rw [← hNS]; exact hl', hBX⟩, (M8 [2, 3, 4, 5, 10] 2 (by simp) (by simp) hol (by simp)).trans ?_, by simp only; omega⟩
              rw [← hNS]
              simp only [go_sem, okC, okE, P3, X4 (ks := [2, 3, 4, 5, 10]) (k := 2) (r := 2) rfl, M4, E9, E4, F5 (ks := [2, 3, 4, 5, 10]) (k := 2) hl5' (C1 0 _) C7, F5 (ks := [2, 3, 4, 5, 10]) (k := 2) hl' (E3 0 NS) C9, A5]
              exact Weak.sub (A6 (by simp [wσ, go_sem, closed, A0, A4, hclN2, cl5, A5] <;> omega) (by simp [whs, Go.Ew.hget, go_sem, EObj.closed, closed, A0, A4, hclN2, cl5, A5]) (by first | (simp [*]; done) | (simp only [cxG]; omega)) rfl rfl (by simp))
            · have hP0 : 0 < PK.length := List.length_pos_iff.2 hPn
              have cP : (((PK.length : Nat) : Int) == 0) = false := by rw [beq_eq_false_iff_ne]; omega
              have hSn : R2 M i dd ≠ [] := fun e => hPn (hPe.2 e)
              obtain ⟨K, hK⟩ : ∃ K, K = Ac1 f (R2 M i dd) (i + 1) := ⟨_, rfl⟩
              have hGn : G dd = K := by rw [hGd, if_neg hSn, hK]
              rw [hGn] at hrS hnS
              have hSok := hMok.sub hSn
              have hSsm := Dg1 (i := i) (d := dd) hMsm
              have hcK : At0 K + Av7 ((List.range dd).map G) ≤ Av7 KD := by
                rw [hKD]
                have e : List.range 16 = List.range (dd + 1) ++ (List.range (16 - (dd + 1))).map (dd + 1 + ·) := by
                  rw [← List.range_add]; congr 1; omega
                rw [e, List.map_append, Am1, List.range_succ, List.map_append, Am1]
                have : Av7 [G dd] = At0 K := by rw [hGn]; simp [Av7]
                simp only [List.map_cons, List.map_nil]
                omega
              have hnl2 : new.length ≤ Av7 ((List.range dd).map G) := by
                have h1 := Az2 ((List.range dd).map G)
                rw [← hnew, List.length_map] at h1; exact h1
              have hNSl : NS.length = ns.length + new.length := by rw [hNS, List.length_append]
              have hNSh : ∀ q ∈ NS, q.h.length = 32 := fun q hq => by
                rw [hNS] at hq
                rcases List.mem_append.1 hq with h3 | h3
                · exact hnh q h3
                · exact (hnok q h3).1
              have hKc := Ao4 K
              rw [List.length_append] at hKc
              have hBX0 : BExt B0 B5 := hBX
              have hPKat : BssAt B5 ad7 PK := ⟨hC7.ext hB5, fun q hq => ((hk.ext hBX0).ok q (Co7 (hPK ▸ hq))), by omega⟩
              have hPVat : BssAt B5 ad8 PV := ⟨hC8, fun q hq => ((hv.ext hBX0).ok q (Co4 (hPV ▸ hq))), by omega⟩
              have hin : NIn f PK PV (i + 1) NS l' := ⟨hPvl.symm, by rw [hsel]; exact hSok, by rw [hsel]; exact hSsm, by rw [hsel, ← hK]; omega, hNSh, hl'⟩
              have hrec := ih PK PV ad7 ad8 cap7 cap8 PK.length (i + 1) B5 NS l' hPKat hPVat rfl hin
              rw [hsel, ← hK] at hrec
              have hsk : (H6 (D6 K)).length ≤ 4294967296 := by
                rw [hK]; exact Bm6 (Bs6 f _ (i + 1) hSsm)
              have e2 : ((i : Int) + 1) = ((i + 1 : Nat) : Int) := by omega
              refine A2 1000 ?_
              rcases kl with _ | ⟨cpk, restk⟩
              · simp only [eN, oN]
                repeat' (first | with_reducible refine And.intro (by omega) ?_ | simp (maxSteps := 4000000) (disch := omega) only [go_sem, ↓reduceIte, cB, cP, e2, eN] | with_reducible refine C8 (id := 22) [0, 1, 2, 3, 4, 5, 6, 7, 8, 9, 10, 11, 12, 13] mixed (by kernel_rfl) (by simp) (fun hin => D7 1000 hin ?_) | with_reducible refine A2 1000 ?_)
                refine W2 123 0 2 hrec rfl rfl (by decide) (by decide) hl' (E3 0 _) C9 (by simp [A0, closed]) (fun _ => by simp [closed, A0]) rfl (by show olds.length ≤ _; omega) (by kernel_rfl) (F6 (by kernel_rfl) (C4 (by kernel_rfl))) (fun hin2 u B6 hB6 hR6 hl6 hx6 => D7 1000 hin2 ?_)
                change BExt B5 B6 at hB6
                obtain ⟨hi6, hm6, hk6⟩ := hR6
                obtain ⟨u1, u2, u3⟩ := u
                simp only at hi6 hm6 hk6 hl6 hx6 ⊢
                have hlu : u2.length = (Az1 K).length := by rw [← hm6, List.length_map]
                have hlen6 : (NS ++ u2).length + 1 ≤ 1099511627775 := by rw [List.length_append]; omega
                have hh6 : ∀ q ∈ NS ++ u2, q.h.length = 32 := fun q hq => by
                  rcases List.mem_append.1 hq with h3 | h3
                  · exact hNSh q h3
                  · exact (hk6 q h3).1
                obtain ⟨N2, hN2⟩ : ∃ N2, N2 = NS ++ u2 := ⟨_, rfl⟩
                rw [← hN2] at hl6 hx6 hlen6 hh6 ⊢
                have hE6 := L6 (T := 95) hl6 hx6 C9
                rcases u3 with _ | ⟨cpu, ru⟩
                · simp only [bO, eN, oN]
                  repeat' (simp (maxSteps := 4000000) (disch := omega) only [go_sem, ↓reduceIte])
                  refine W2 124 0 100123 (Z2 hi6 (Cs9 K) (by omega) N2 N2.length rfl hh6 (none) hl6 (by omega)) rfl rfl (by decide) (by decide) hl6 hx6 C9 (by simp [A0, closed]) (fun _ => by simp [closed, A0]) rfl (by show olds.length ≤ _; omega) (by kernel_rfl) (F6 (by kernel_rfl) ((J4 [100123, 100124, 100126] (by kernel_rfl) (by with_unfolding_all (repeat' (first | exact True.intro | exact H1 | exact hE6 | refine And.intro ?_ ?_)))))) (fun hin3 v B7 hB7 hR7 hl7 hx7 => D7 1000 hin3 ?_)
                  change BExt B6 B7 at hB7
                  obtain ⟨hi7, hm7, hk7⟩ := hR7
                  obtain ⟨w1, w2', w3⟩ := v
                  simp only at hi7 hm7 hk7 hl7 hx7 ⊢
                  obtain ⟨N3, hN3⟩ : ∃ N3, N3 = N2 ++ w2' := ⟨_, rfl⟩
                  rw [← hN3] at hl7 hx7 ⊢
                  have hE7 := L6 (T := 95) hl7 hx7 C9
                  rcases w3 with _ | ⟨cpw, rw3⟩
                  · simp only [bO, eN, oN]
                    repeat' (first | with_reducible refine And.intro (by first | omega | (simp; omega)) ?_ | simp (maxSteps := 4000000) (disch := omega) only [go_sem, ↓reduceIte])
                    refine Bb8 (c := True) (zs := z3) (xs := qs.flatMap itQ) (m := 1) (news := itE (J8 (D6 K)) w1) (T := 91) (l := none) 126 6 dd [100125] rfl rfl Try.underlying89 (.inl ⟨_, Try.underlying89⟩) Bj5 Bn1 (by simp [z3]) C7 rfl rfl rfl hkl' (by rw [H8, hql]; rfl) (C1 0 _) (fun B hs hB hfb => ⟨_, F3 (m := 1) (by rw [hfb 100125 (by simp)]; rfl) rfl, by simp [z3]⟩) rfl (by simp [A0, closed]) (by simp only [maxLen]; omega) (by rw [show Try.prog.bytesOf 91 = 56 from Bn7]; omega) (by show olds.length ≤ _; omega) (by kernel_rfl) (F6 (by kernel_rfl) ((J4 [100123, 100124, 100126] (by kernel_rfl) (by with_unfolding_all (repeat' (first | exact True.intro | exact H1 | exact hE6 | exact hE7 | refine And.intro ?_ ?_)))))) (fun l5 hl5 => D7 1000 (by assumption) ?_)
                    have hl5' := hl5
                    have hev : qs.flatMap itQ ++ itE (J8 (D6 K)) w1 = (qs ++ [(J8 (D6 K), w1)]).flatMap itQ := by
                      rw [List.flatMap_append, List.flatMap_singleton]; rfl
                    obtain ⟨qs2, hqs2⟩ : ∃ q, q = qs ++ [(J8 (D6 K), w1)] := ⟨_, rfl⟩
                    rw [hev, ← hqs2]
                    have hE8 := L6 (T := 91) hl5 (C1 0 qs2) C7
                    obtain ⟨cp5, rest5, rfl, -⟩ := D8 hl5 (by omega)
                    simp only [A5]
                    repeat' (first | with_reducible refine And.intro (by omega) ?_ | simp (maxSteps := 4000000) (disch := omega) only [go_sem, ↓reduceIte])
                    refine E1 (by kernel_rfl) ((J4 [100123, 100124, 100126] (by kernel_rfl) (by with_unfolding_all (repeat' (first | exact True.intro | exact H1 | exact hE6 | exact hE7 | exact hE8 | refine And.intro ?_ ?_))))) (A2 1000 ?_)
                    repeat' (simp (maxSteps := 4000000) (disch := omega) only [go_sem, ↓reduceIte])
                    have cl5 : ∀ n, clO n (lO 91 (qs2.flatMap itQ) (some (cp5, rest5))) = True := fun n => G1 hl5' (C1 0 _) C7
                    have cl7 : ∀ n, clO n (lO 95 (N3.flatMap Nv.E) (none)) = True := fun n => G1 hl7 hx7 C9
                    have hBn : BExt B5 B7 := hB6.trans hB7
                    have hNe : ns ++ (new ++ u2 ++ w2') = N3 := by rw [hN3, hN2, hNS, List.append_assoc, List.append_assoc, List.append_assoc]
                    refine ⟨(dd + 1, qs2, some (cp5, rest5), w2, wp2, new ++ u2 ++ w2', none, B7), ⟨hd2, by rw [hqs2, List.map_append, hqs, hrS]; rfl, fun q hq => by
                      rw [hqs2] at hq
                      rcases List.mem_append.1 hq with h3 | h3
                      · exact (hqo q h3).ext (hB35.trans hBn)
                      · obtain rfl := List.mem_singleton.1 h3
                        exact hi7, hl5', hwp5.ext hBn, fun h => by omega, fun _ => hwV, by rw [List.map_append, List.map_append, hnew, hm6, hm7, hnS, List.append_assoc], fun q hq => by
                      rcases List.mem_append.1 hq with h3 | h3
                      · rcases List.mem_append.1 h3 with h3 | h3
                        · exact ⟨(hnok q h3).1, (hnok q h3).2.ext (hB35.trans hBn)⟩
                        · exact ⟨(hk6 q h3).1, (hk6 q h3).2.ext hB7⟩
                      · exact hk7 q h3, by rw [hNe]; exact hl7, hBX.trans hBn⟩, (M8 [100124, 3, 4, 5, 100126] 2 (by simp) (by simp) hol (by simp)).trans ?_, by simp only; omega⟩
                    rw [hNe]
                    simp only [go_sem, okC, okE, P3, M4, E9, E4, F5 (ks := [100124, 3, 4, 5, 100126]) (k := 2) hl5' (C1 0 _) C7, F5 (ks := [100124, 3, 4, 5, 100126]) (k := 2) hl7 hx7 C9, A5, eN, oN]
                    exact Weak.sub (A6 (by simp [wσ, go_sem, closed, A0, A4, cl5, cl7, A5, eN, oN, cn] <;> omega) (by simp [whs, Go.Ew.hget, go_sem, EObj.closed, closed, A0, A4, cl5, cl7, A5, eN, oN, cn]) (by first | (simp [*]; done) | (simp only [cxG]; omega)) rfl rfl (by simp))
                  · simp only [bO, A5]
                    repeat' (first | with_reducible refine And.intro (by first | omega | (simp; omega)) ?_ | simp (maxSteps := 4000000) (disch := omega) only [go_sem, ↓reduceIte])
                    refine Bb8 (c := True) (zs := z3) (xs := qs.flatMap itQ) (m := 1) (news := itE (J8 (D6 K)) w1) (T := 91) (l := none) 126 6 dd [100125] rfl rfl Try.underlying89 (.inl ⟨_, Try.underlying89⟩) Bj5 Bn1 (by simp [z3]) C7 rfl rfl rfl hkl' (by rw [H8, hql]; rfl) (C1 0 _) (fun B hs hB hfb => ⟨_, F3 (m := 1) (by rw [hfb 100125 (by simp)]; rfl) rfl, by simp [z3]⟩) rfl (by simp [A0, closed]) (by simp only [maxLen]; omega) (by rw [show Try.prog.bytesOf 91 = 56 from Bn7]; omega) (by show olds.length ≤ _; omega) (by kernel_rfl) (F6 (by kernel_rfl) ((J4 [100123, 100124, 100126] (by kernel_rfl) (by with_unfolding_all (repeat' (first | exact True.intro | exact H1 | exact hE6 | exact hE7 | refine And.intro ?_ ?_)))))) (fun l5 hl5 => D7 1000 (by assumption) ?_)
                    have hl5' := hl5
                    have hev : qs.flatMap itQ ++ itE (J8 (D6 K)) w1 = (qs ++ [(J8 (D6 K), w1)]).flatMap itQ := by
                      rw [List.flatMap_append, List.flatMap_singleton]; rfl
                    obtain ⟨qs2, hqs2⟩ : ∃ q, q = qs ++ [(J8 (D6 K), w1)] := ⟨_, rfl⟩
                    rw [hev, ← hqs2]
                    have hE8 := L6 (T := 91) hl5 (C1 0 qs2) C7
                    obtain ⟨cp5, rest5, rfl, -⟩ := D8 hl5 (by omega)
                    simp only [A5]
                    repeat' (first | with_reducible refine And.intro (by omega) ?_ | simp (maxSteps := 4000000) (disch := omega) only [go_sem, ↓reduceIte])
                    refine E1 (by kernel_rfl) ((J4 [100123, 100124, 100126] (by kernel_rfl) (by with_unfolding_all (repeat' (first | exact True.intro | exact H1 | exact hE6 | exact hE7 | exact hE8 | refine And.intro ?_ ?_))))) (A2 1000 ?_)
                    repeat' (simp (maxSteps := 4000000) (disch := omega) only [go_sem, ↓reduceIte])
                    have cl5 : ∀ n, clO n (lO 91 (qs2.flatMap itQ) (some (cp5, rest5))) = True := fun n => G1 hl5' (C1 0 _) C7
                    have cl7 : ∀ n, clO n (lO 95 (N3.flatMap Nv.E) (some (cpw, rw3))) = True := fun n => G1 hl7 hx7 C9
                    have hBn : BExt B5 B7 := hB6.trans hB7
                    have hNe : ns ++ (new ++ u2 ++ w2') = N3 := by rw [hN3, hN2, hNS, List.append_assoc, List.append_assoc, List.append_assoc]
                    refine ⟨(dd + 1, qs2, some (cp5, rest5), w2, wp2, new ++ u2 ++ w2', some (cpw, rw3), B7), ⟨hd2, by rw [hqs2, List.map_append, hqs, hrS]; rfl, fun q hq => by
                      rw [hqs2] at hq
                      rcases List.mem_append.1 hq with h3 | h3
                      · exact (hqo q h3).ext (hB35.trans hBn)
                      · obtain rfl := List.mem_singleton.1 h3
                        exact hi7, hl5', hwp5.ext hBn, fun h => by omega, fun _ => hwV, by rw [List.map_append, List.map_append, hnew, hm6, hm7, hnS, List.append_assoc], fun q hq => by
                      rcases List.mem_append.1 hq with h3 | h3
                      · rcases List.mem_append.1 h3 with h3 | h3
                        · exact ⟨(hnok q h3).1, (hnok q h3).2.ext (hB35.trans hBn)⟩
                        · exact ⟨(hk6 q h3).1, (hk6 q h3).2.ext hB7⟩
                      · exact hk7 q h3, by rw [hNe]; exact hl7, hBX.trans hBn⟩, (M8 [100124, 3, 4, 5, 100126] 2 (by simp) (by simp) hol (by simp)).trans ?_, by simp only; omega⟩
                    rw [hNe]
                    simp only [go_sem, okC, okE, P3, M4, E9, E4, F5 (ks := [100124, 3, 4, 5, 100126]) (k := 2) hl5' (C1 0 _) C7, F5 (ks := [100124, 3, 4, 5, 100126]) (k := 2) hl7 hx7 C9, A5, eN, oN]
                    exact Weak.sub (A6 (by simp [wσ, go_sem, closed, A0, A4, cl5, cl7, A5, eN, oN, cn] <;> omega) (by simp [whs, Go.Ew.hget, go_sem, EObj.closed, closed, A0, A4, cl5, cl7, A5, eN, oN, cn]) (by first | (simp [*]; done) | (simp only [cxG]; omega)) rfl rfl (by simp))
                · simp only [bO, A5]
                  repeat' (simp (maxSteps := 4000000) (disch := omega) only [go_sem, ↓reduceIte])
                  refine W2 124 0 100123 (Z2 hi6 (Cs9 K) (by omega) N2 N2.length rfl hh6 (some (cpu, ru)) hl6 (by omega)) rfl rfl (by decide) (by decide) hl6 hx6 C9 (by simp [A0, closed]) (fun _ => by simp [closed, A0]) rfl (by show olds.length ≤ _; omega) (by kernel_rfl) (F6 (by kernel_rfl) ((J4 [100123, 100124, 100126] (by kernel_rfl) (by with_unfolding_all (repeat' (first | exact True.intro | exact H1 | exact hE6 | refine And.intro ?_ ?_)))))) (fun hin3 v B7 hB7 hR7 hl7 hx7 => D7 1000 hin3 ?_)
                  change BExt B6 B7 at hB7
                  obtain ⟨hi7, hm7, hk7⟩ := hR7
                  obtain ⟨w1, w2', w3⟩ := v
                  simp only at hi7 hm7 hk7 hl7 hx7 ⊢
                  obtain ⟨N3, hN3⟩ : ∃ N3, N3 = N2 ++ w2' := ⟨_, rfl⟩
                  rw [← hN3] at hl7 hx7 ⊢
                  have hE7 := L6 (T := 95) hl7 hx7 C9
                  rcases w3 with _ | ⟨cpw, rw3⟩
                  · simp only [bO, eN, oN]
                    repeat' (first | with_reducible refine And.intro (by first | omega | (simp; omega)) ?_ | simp (maxSteps := 4000000) (disch := omega) only [go_sem, ↓reduceIte])
                    refine Bb8 (c := True) (zs := z3) (xs := qs.flatMap itQ) (m := 1) (news := itE (J8 (D6 K)) w1) (T := 91) (l := none) 126 6 dd [100125] rfl rfl Try.underlying89 (.inl ⟨_, Try.underlying89⟩) Bj5 Bn1 (by simp [z3]) C7 rfl rfl rfl hkl' (by rw [H8, hql]; rfl) (C1 0 _) (fun B hs hB hfb => ⟨_, F3 (m := 1) (by rw [hfb 100125 (by simp)]; rfl) rfl, by simp [z3]⟩) rfl (by simp [A0, closed]) (by simp only [maxLen]; omega) (by rw [show Try.prog.bytesOf 91 = 56 from Bn7]; omega) (by show olds.length ≤ _; omega) (by kernel_rfl) (F6 (by kernel_rfl) ((J4 [100123, 100124, 100126] (by kernel_rfl) (by with_unfolding_all (repeat' (first | exact True.intro | exact H1 | exact hE6 | exact hE7 | refine And.intro ?_ ?_)))))) (fun l5 hl5 => D7 1000 (by assumption) ?_)
                    have hl5' := hl5
                    have hev : qs.flatMap itQ ++ itE (J8 (D6 K)) w1 = (qs ++ [(J8 (D6 K), w1)]).flatMap itQ := by
                      rw [List.flatMap_append, List.flatMap_singleton]; rfl
                    obtain ⟨qs2, hqs2⟩ : ∃ q, q = qs ++ [(J8 (D6 K), w1)] := ⟨_, rfl⟩
                    rw [hev, ← hqs2]
                    have hE8 := L6 (T := 91) hl5 (C1 0 qs2) C7
                    obtain ⟨cp5, rest5, rfl, -⟩ := D8 hl5 (by omega)
                    simp only [A5]
                    repeat' (first | with_reducible refine And.intro (by omega) ?_ | simp (maxSteps := 4000000) (disch := omega) only [go_sem, ↓reduceIte])
                    refine E1 (by kernel_rfl) ((J4 [100123, 100124, 100126] (by kernel_rfl) (by with_unfolding_all (repeat' (first | exact True.intro | exact H1 | exact hE6 | exact hE7 | exact hE8 | refine And.intro ?_ ?_))))) (A2 1000 ?_)
                    repeat' (simp (maxSteps := 4000000) (disch := omega) only [go_sem, ↓reduceIte])
                    have cl5 : ∀ n, clO n (lO 91 (qs2.flatMap itQ) (some (cp5, rest5))) = True := fun n => G1 hl5' (C1 0 _) C7
                    have cl7 : ∀ n, clO n (lO 95 (N3.flatMap Nv.E) (none)) = True := fun n => G1 hl7 hx7 C9
                    have hBn : BExt B5 B7 := hB6.trans hB7
                    have hNe : ns ++ (new ++ u2 ++ w2') = N3 := by rw [hN3, hN2, hNS, List.append_assoc, List.append_assoc, List.append_assoc]
                    refine ⟨(dd + 1, qs2, some (cp5, rest5), w2, wp2, new ++ u2 ++ w2', none, B7), ⟨hd2, by rw [hqs2, List.map_append, hqs, hrS]; rfl, fun q hq => by
                      rw [hqs2] at hq
                      rcases List.mem_append.1 hq with h3 | h3
                      · exact (hqo q h3).ext (hB35.trans hBn)
                      · obtain rfl := List.mem_singleton.1 h3
                        exact hi7, hl5', hwp5.ext hBn, fun h => by omega, fun _ => hwV, by rw [List.map_append, List.map_append, hnew, hm6, hm7, hnS, List.append_assoc], fun q hq => by
                      rcases List.mem_append.1 hq with h3 | h3
                      · rcases List.mem_append.1 h3 with h3 | h3
                        · exact ⟨(hnok q h3).1, (hnok q h3).2.ext (hB35.trans hBn)⟩
                        · exact ⟨(hk6 q h3).1, (hk6 q h3).2.ext hB7⟩
                      · exact hk7 q h3, by rw [hNe]; exact hl7, hBX.trans hBn⟩, (M8 [100124, 3, 4, 5, 100126] 2 (by simp) (by simp) hol (by simp)).trans ?_, by simp only; omega⟩
                    rw [hNe]
                    simp only [go_sem, okC, okE, P3, M4, E9, E4, F5 (ks := [100124, 3, 4, 5, 100126]) (k := 2) hl5' (C1 0 _) C7, F5 (ks := [100124, 3, 4, 5, 100126]) (k := 2) hl7 hx7 C9, A5, eN, oN]
                    exact Weak.sub (A6 (by simp [wσ, go_sem, closed, A0, A4, cl5, cl7, A5, eN, oN, cn] <;> omega) (by simp [whs, Go.Ew.hget, go_sem, EObj.closed, closed, A0, A4, cl5, cl7, A5, eN, oN, cn]) (by first | (simp [*]; done) | (simp only [cxG]; omega)) rfl rfl (by simp))
                  · simp only [bO, A5]
                    repeat' (first | with_reducible refine And.intro (by first | omega | (simp; omega)) ?_ | simp (maxSteps := 4000000) (disch := omega) only [go_sem, ↓reduceIte])
                    refine Bb8 (c := True) (zs := z3) (xs := qs.flatMap itQ) (m := 1) (news := itE (J8 (D6 K)) w1) (T := 91) (l := none) 126 6 dd [100125] rfl rfl Try.underlying89 (.inl ⟨_, Try.underlying89⟩) Bj5 Bn1 (by simp [z3]) C7 rfl rfl rfl hkl' (by rw [H8, hql]; rfl) (C1 0 _) (fun B hs hB hfb => ⟨_, F3 (m := 1) (by rw [hfb 100125 (by simp)]; rfl) rfl, by simp [z3]⟩) rfl (by simp [A0, closed]) (by simp only [maxLen]; omega) (by rw [show Try.prog.bytesOf 91 = 56 from Bn7]; omega) (by show olds.length ≤ _; omega) (by kernel_rfl) (F6 (by kernel_rfl) ((J4 [100123, 100124, 100126] (by kernel_rfl) (by with_unfolding_all (repeat' (first | exact True.intro | exact H1 | exact hE6 | exact hE7 | refine And.intro ?_ ?_)))))) (fun l5 hl5 => D7 1000 (by assumption) ?_)
                    have hl5' := hl5
                    have hev : qs.flatMap itQ ++ itE (J8 (D6 K)) w1 = (qs ++ [(J8 (D6 K), w1)]).flatMap itQ := by
                      rw [List.flatMap_append, List.flatMap_singleton]; rfl
                    obtain ⟨qs2, hqs2⟩ : ∃ q, q = qs ++ [(J8 (D6 K), w1)] := ⟨_, rfl⟩
                    rw [hev, ← hqs2]
                    have hE8 := L6 (T := 91) hl5 (C1 0 qs2) C7
                    obtain ⟨cp5, rest5, rfl, -⟩ := D8 hl5 (by omega)
                    simp only [A5]
                    repeat' (first | with_reducible refine And.intro (by omega) ?_ | simp (maxSteps := 4000000) (disch := omega) only [go_sem, ↓reduceIte])
                    refine E1 (by kernel_rfl) ((J4 [100123, 100124, 100126] (by kernel_rfl) (by with_unfolding_all (repeat' (first | exact True.intro | exact H1 | exact hE6 | exact hE7 | exact hE8 | refine And.intro ?_ ?_))))) (A2 1000 ?_)
                    repeat' (simp (maxSteps := 4000000) (disch := omega) only [go_sem, ↓reduceIte])
                    have cl5 : ∀ n, clO n (lO 91 (qs2.flatMap itQ) (some (cp5, rest5))) = True := fun n => G1 hl5' (C1 0 _) C7
                    have cl7 : ∀ n, clO n (lO 95 (N3.flatMap Nv.E) (some (cpw, rw3))) = True := fun n => G1 hl7 hx7 C9
                    have hBn : BExt B5 B7 := hB6.trans hB7
                    have hNe : ns ++ (new ++ u2 ++ w2') = N3 := by rw [hN3, hN2, hNS, List.append_assoc, List.append_assoc, List.append_assoc]
                    refine ⟨(dd + 1, qs2, some (cp5, rest5), w2, wp2, new ++ u2 ++ w2', some (cpw, rw3), B7), ⟨hd2, by rw [hqs2, List.map_append, hqs, hrS]; rfl, fun q hq => by
                      rw [hqs2] at hq
                      rcases List.mem_append.1 hq with h3 | h3
                      · exact (hqo q h3).ext (hB35.trans hBn)
                      · obtain rfl := List.mem_singleton.1 h3
                        exact hi7, hl5', hwp5.ext hBn, fun h => by omega, fun _ => hwV, by rw [List.map_append, List.map_append, hnew, hm6, hm7, hnS, List.append_assoc], fun q hq => by
                      rcases List.mem_append.1 hq with h3 | h3
                      · rcases List.mem_append.1 h3 with h3 | h3
                        · exact ⟨(hnok q h3).1, (hnok q h3).2.ext (hB35.trans hBn)⟩
                        · exact ⟨(hk6 q h3).1, (hk6 q h3).2.ext hB7⟩
                      · exact hk7 q h3, by rw [hNe]; exact hl7, hBX.trans hBn⟩, (M8 [100124, 3, 4, 5, 100126] 2 (by simp) (by simp) hol (by simp)).trans ?_, by simp only; omega⟩
                    rw [hNe]
                    simp only [go_sem, okC, okE, P3, M4, E9, E4, F5 (ks := [100124, 3, 4, 5, 100126]) (k := 2) hl5' (C1 0 _) C7, F5 (ks := [100124, 3, 4, 5, 100126]) (k := 2) hl7 hx7 C9, A5, eN, oN]
                    exact Weak.sub (A6 (by simp [wσ, go_sem, closed, A0, A4, cl5, cl7, A5, eN, oN, cn] <;> omega) (by simp [whs, Go.Ew.hget, go_sem, EObj.closed, closed, A0, A4, cl5, cl7, A5, eN, oN, cn]) (by first | (simp [*]; done) | (simp only [cxG]; omega)) rfl rfl (by simp))
              · simp only [A5]
                repeat' (first | with_reducible refine And.intro (by omega) ?_ | simp (maxSteps := 4000000) (disch := omega) only [go_sem, ↓reduceIte, cB, cP, e2, eN] | with_reducible refine C8 (id := 22) [0, 1, 2, 3, 4, 5, 6, 7, 8, 9, 10, 11, 12, 13] mixed (by kernel_rfl) (by simp) (fun hin => D7 1000 hin ?_) | with_reducible refine A2 1000 ?_)
                refine W2 123 0 2 hrec rfl rfl (by decide) (by decide) hl' (E3 0 _) C9 (by simp [A0, closed]) (fun _ => by simp [closed, A0]) rfl (by show olds.length ≤ _; omega) (by kernel_rfl) (F6 (by kernel_rfl) (C4 (by kernel_rfl))) (fun hin2 u B6 hB6 hR6 hl6 hx6 => D7 1000 hin2 ?_)
                change BExt B5 B6 at hB6
                obtain ⟨hi6, hm6, hk6⟩ := hR6
                obtain ⟨u1, u2, u3⟩ := u
                simp only at hi6 hm6 hk6 hl6 hx6 ⊢
                have hlu : u2.length = (Az1 K).length := by rw [← hm6, List.length_map]
                have hlen6 : (NS ++ u2).length + 1 ≤ 1099511627775 := by rw [List.length_append]; omega
                have hh6 : ∀ q ∈ NS ++ u2, q.h.length = 32 := fun q hq => by
                  rcases List.mem_append.1 hq with h3 | h3
                  · exact hNSh q h3
                  · exact (hk6 q h3).1
                obtain ⟨N2, hN2⟩ : ∃ N2, N2 = NS ++ u2 := ⟨_, rfl⟩
                rw [← hN2] at hl6 hx6 hlen6 hh6 ⊢
                have hE6 := L6 (T := 95) hl6 hx6 C9
                rcases u3 with _ | ⟨cpu, ru⟩
                · simp only [bO, eN, oN]
                  repeat' (simp (maxSteps := 4000000) (disch := omega) only [go_sem, ↓reduceIte])
                  refine W2 124 0 100123 (Z2 hi6 (Cs9 K) (by omega) N2 N2.length rfl hh6 (none) hl6 (by omega)) rfl rfl (by decide) (by decide) hl6 hx6 C9 (by simp [A0, closed]) (fun _ => by simp [closed, A0]) rfl (by show olds.length ≤ _; omega) (by kernel_rfl) (F6 (by kernel_rfl) ((J4 [100123, 100124, 100126] (by kernel_rfl) (by with_unfolding_all (repeat' (first | exact True.intro | exact H1 | exact hE6 | refine And.intro ?_ ?_)))))) (fun hin3 v B7 hB7 hR7 hl7 hx7 => D7 1000 hin3 ?_)
                  change BExt B6 B7 at hB7
                  obtain ⟨hi7, hm7, hk7⟩ := hR7
                  obtain ⟨w1, w2', w3⟩ := v
                  simp only at hi7 hm7 hk7 hl7 hx7 ⊢
                  obtain ⟨N3, hN3⟩ : ∃ N3, N3 = N2 ++ w2' := ⟨_, rfl⟩
                  rw [← hN3] at hl7 hx7 ⊢
                  have hE7 := L6 (T := 95) hl7 hx7 C9
                  rcases w3 with _ | ⟨cpw, rw3⟩
                  · simp only [bO, eN, oN]
                    repeat' (first | with_reducible refine And.intro (by first | omega | (simp; omega)) ?_ | simp (maxSteps := 4000000) (disch := omega) only [go_sem, ↓reduceIte])
                    refine Bb8 (c := True) (zs := z3) (xs := qs.flatMap itQ) (m := 1) (news := itE (J8 (D6 K)) w1) (T := 91) (l := some (cpk, restk)) 126 6 dd [100125] rfl rfl Try.underlying89 (.inl ⟨_, Try.underlying89⟩) Bj5 Bn1 (by simp [z3]) C7 rfl rfl rfl hkl' (by rw [H8, hql]; rfl) (C1 0 _) (fun B hs hB hfb => ⟨_, F3 (m := 1) (by rw [hfb 100125 (by simp)]; rfl) rfl, by simp [z3]⟩) rfl (by simp [A0, closed]) (by simp only [maxLen]; omega) (by rw [show Try.prog.bytesOf 91 = 56 from Bn7]; omega) (by show olds.length ≤ _; omega) (by kernel_rfl) (F6 (by kernel_rfl) ((J4 [100123, 100124, 100126] (by kernel_rfl) (by with_unfolding_all (repeat' (first | exact True.intro | exact H1 | exact hE6 | exact hE7 | refine And.intro ?_ ?_)))))) (fun l5 hl5 => D7 1000 (by assumption) ?_)
                    have hl5' := hl5
                    have hev : qs.flatMap itQ ++ itE (J8 (D6 K)) w1 = (qs ++ [(J8 (D6 K), w1)]).flatMap itQ := by
                      rw [List.flatMap_append, List.flatMap_singleton]; rfl
                    obtain ⟨qs2, hqs2⟩ : ∃ q, q = qs ++ [(J8 (D6 K), w1)] := ⟨_, rfl⟩
                    rw [hev, ← hqs2]
                    have hE8 := L6 (T := 91) hl5 (C1 0 qs2) C7
                    obtain ⟨cp5, rest5, rfl, -⟩ := D8 hl5 (by omega)
                    simp only [A5]
                    repeat' (first | with_reducible refine And.intro (by omega) ?_ | simp (maxSteps := 4000000) (disch := omega) only [go_sem, ↓reduceIte])
                    refine E1 (by kernel_rfl) ((J4 [100123, 100124, 100126] (by kernel_rfl) (by with_unfolding_all (repeat' (first | exact True.intro | exact H1 | exact hE6 | exact hE7 | exact hE8 | refine And.intro ?_ ?_))))) (A2 1000 ?_)
                    repeat' (simp (maxSteps := 4000000) (disch := omega) only [go_sem, ↓reduceIte])
                    have cl5 : ∀ n, clO n (lO 91 (qs2.flatMap itQ) (some (cp5, rest5))) = True := fun n => G1 hl5' (C1 0 _) C7
                    have cl7 : ∀ n, clO n (lO 95 (N3.flatMap Nv.E) (none)) = True := fun n => G1 hl7 hx7 C9
                    have hBn : BExt B5 B7 := hB6.trans hB7
                    have hNe : ns ++ (new ++ u2 ++ w2') = N3 := by rw [hN3, hN2, hNS, List.append_assoc, List.append_assoc, List.append_assoc]
                    refine ⟨(dd + 1, qs2, some (cp5, rest5), w2, wp2, new ++ u2 ++ w2', none, B7), ⟨hd2, by rw [hqs2, List.map_append, hqs, hrS]; rfl, fun q hq => by
                      rw [hqs2] at hq
                      rcases List.mem_append.1 hq with h3 | h3
                      · exact (hqo q h3).ext (hB35.trans hBn)
                      · obtain rfl := List.mem_singleton.1 h3
                        exact hi7, hl5', hwp5.ext hBn, fun h => by omega, fun _ => hwV, by rw [List.map_append, List.map_append, hnew, hm6, hm7, hnS, List.append_assoc], fun q hq => by
                      rcases List.mem_append.1 hq with h3 | h3
                      · rcases List.mem_append.1 h3 with h3 | h3
                        · exact ⟨(hnok q h3).1, (hnok q h3).2.ext (hB35.trans hBn)⟩
                        · exact ⟨(hk6 q h3).1, (hk6 q h3).2.ext hB7⟩
                      · exact hk7 q h3, by rw [hNe]; exact hl7, hBX.trans hBn⟩, (M8 [100124, 3, 4, 5, 100126] 2 (by simp) (by simp) hol (by simp)).trans ?_, by simp only; omega⟩
                    rw [hNe]
                    simp only [go_sem, okC, okE, P3, M4, E9, E4, F5 (ks := [100124, 3, 4, 5, 100126]) (k := 2) hl5' (C1 0 _) C7, F5 (ks := [100124, 3, 4, 5, 100126]) (k := 2) hl7 hx7 C9, A5, eN, oN]
                    exact Weak.sub (A6 (by simp [wσ, go_sem, closed, A0, A4, cl5, cl7, A5, eN, oN, cn] <;> omega) (by simp [whs, Go.Ew.hget, go_sem, EObj.closed, closed, A0, A4, cl5, cl7, A5, eN, oN, cn]) (by first | (simp [*]; done) | (simp only [cxG]; omega)) rfl rfl (by simp))
                  · simp only [bO, A5]
                    repeat' (first | with_reducible refine And.intro (by first | omega | (simp; omega)) ?_ | simp (maxSteps := 4000000) (disch := omega) only [go_sem, ↓reduceIte])
                    refine Bb8 (c := True) (zs := z3) (xs := qs.flatMap itQ) (m := 1) (news := itE (J8 (D6 K)) w1) (T := 91) (l := some (cpk, restk)) 126 6 dd [100125] rfl rfl Try.underlying89 (.inl ⟨_, Try.underlying89⟩) Bj5 Bn1 (by simp [z3]) C7 rfl rfl rfl hkl' (by rw [H8, hql]; rfl) (C1 0 _) (fun B hs hB hfb => ⟨_, F3 (m := 1) (by rw [hfb 100125 (by simp)]; rfl) rfl, by simp [z3]⟩) rfl (by simp [A0, closed]) (by simp only [maxLen]; omega) (by rw [show Try.prog.bytesOf 91 = 56 from Bn7]; omega) (by show olds.length ≤ _; omega) (by kernel_rfl) (F6 (by kernel_rfl) ((J4 [100123, 100124, 100126] (by kernel_rfl) (by with_unfolding_all (repeat' (first | exact True.intro | exact H1 | exact hE6 | exact hE7 | refine And.intro ?_ ?_)))))) (fun l5 hl5 => D7 1000 (by assumption) ?_)
                    have hl5' := hl5
                    have hev : qs.flatMap itQ ++ itE (J8 (D6 K)) w1 = (qs ++ [(J8 (D6 K), w1)]).flatMap itQ := by
                      rw [List.flatMap_append, List.flatMap_singleton]; rfl
                    obtain ⟨qs2, hqs2⟩ : ∃ q, q = qs ++ [(J8 (D6 K), w1)] := ⟨_, rfl⟩
                    rw [hev, ← hqs2]
                    have hE8 := L6 (T := 91) hl5 (C1 0 qs2) C7
                    obtain ⟨cp5, rest5, rfl, -⟩ := D8 hl5 (by omega)
                    simp only [A5]
                    repeat' (first | with_reducible refine And.intro (by omega) ?_ | simp (maxSteps := 4000000) (disch := omega) only [go_sem, ↓reduceIte])
                    refine E1 (by kernel_rfl) ((J4 [100123, 100124, 100126] (by kernel_rfl) (by with_unfolding_all (repeat' (first | exact True.intro | exact H1 | exact hE6 | exact hE7 | exact hE8 | refine And.intro ?_ ?_))))) (A2 1000 ?_)
                    repeat' (simp (maxSteps := 4000000) (disch := omega) only [go_sem, ↓reduceIte])
                    have cl5 : ∀ n, clO n (lO 91 (qs2.flatMap itQ) (some (cp5, rest5))) = True := fun n => G1 hl5' (C1 0 _) C7
                    have cl7 : ∀ n, clO n (lO 95 (N3.flatMap Nv.E) (some (cpw, rw3))) = True := fun n => G1 hl7 hx7 C9
                    have hBn : BExt B5 B7 := hB6.trans hB7
                    have hNe : ns ++ (new ++ u2 ++ w2') = N3 := by rw [hN3, hN2, hNS, List.append_assoc, List.append_assoc, List.append_assoc]
                    refine ⟨(dd + 1, qs2, some (cp5, rest5), w2, wp2, new ++ u2 ++ w2', some (cpw, rw3), B7), ⟨hd2, by rw [hqs2, List.map_append, hqs, hrS]; rfl, fun q hq => by
                      rw [hqs2] at hq
                      rcases List.mem_append.1 hq with h3 | h3
                      · exact (hqo q h3).ext (hB35.trans hBn)
                      · obtain rfl := List.mem_singleton.1 h3
                        exact hi7, hl5', hwp5.ext hBn, fun h => by omega, fun _ => hwV, by rw [List.map_append, List.map_append, hnew, hm6, hm7, hnS, List.append_assoc], fun q hq => by
                      rcases List.mem_append.1 hq with h3 | h3
                      · rcases List.mem_append.1 h3 with h3 | h3
                        · exact ⟨(hnok q h3).1, (hnok q h3).2.ext (hB35.trans hBn)⟩
                        · exact ⟨(hk6 q h3).1, (hk6 q h3).2.ext hB7⟩
                      · exact hk7 q h3, by rw [hNe]; exact hl7, hBX.trans hBn⟩, (M8 [100124, 3, 4, 5, 100126] 2 (by simp) (by simp) hol (by simp)).trans ?_, by simp only; omega⟩
                    rw [hNe]
                    simp only [go_sem, okC, okE, P3, M4, E9, E4, F5 (ks := [100124, 3, 4, 5, 100126]) (k := 2) hl5' (C1 0 _) C7, F5 (ks := [100124, 3, 4, 5, 100126]) (k := 2) hl7 hx7 C9, A5, eN, oN]
                    exact Weak.sub (A6 (by simp [wσ, go_sem, closed, A0, A4, cl5, cl7, A5, eN, oN, cn] <;> omega) (by simp [whs, Go.Ew.hget, go_sem, EObj.closed, closed, A0, A4, cl5, cl7, A5, eN, oN, cn]) (by first | (simp [*]; done) | (simp only [cxG]; omega)) rfl rfl (by simp))
                · simp only [bO, A5]
                  repeat' (simp (maxSteps := 4000000) (disch := omega) only [go_sem, ↓reduceIte])
                  refine W2 124 0 100123 (Z2 hi6 (Cs9 K) (by omega) N2 N2.length rfl hh6 (some (cpu, ru)) hl6 (by omega)) rfl rfl (by decide) (by decide) hl6 hx6 C9 (by simp [A0, closed]) (fun _ => by simp [closed, A0]) rfl (by show olds.length ≤ _; omega) (by kernel_rfl) (F6 (by kernel_rfl) ((J4 [100123, 100124, 100126] (by kernel_rfl) (by with_unfolding_all (repeat' (first | exact True.intro | exact H1 | exact hE6 | refine And.intro ?_ ?_)))))) (fun hin3 v B7 hB7 hR7 hl7 hx7 => D7 1000 hin3 ?_)
                  change BExt B6 B7 at hB7
                  obtain ⟨hi7, hm7, hk7⟩ := hR7
                  obtain ⟨w1, w2', w3⟩ := v
                  simp only at hi7 hm7 hk7 hl7 hx7 ⊢
                  obtain ⟨N3, hN3⟩ : ∃ N3, N3 = N2 ++ w2' := ⟨_, rfl⟩
                  rw [← hN3] at hl7 hx7 ⊢
                  have hE7 := L6 (T := 95) hl7 hx7 C9
                  rcases w3 with _ | ⟨cpw, rw3⟩
                  · simp only [bO, eN, oN]
                    repeat' (first | with_reducible refine And.intro (by first | omega | (simp; omega)) ?_ | simp (maxSteps := 4000000) (disch := omega) only [go_sem, ↓reduceIte])
                    refine Bb8 (c := True) (zs := z3) (xs := qs.flatMap itQ) (m := 1) (news := itE (J8 (D6 K)) w1) (T := 91) (l := some (cpk, restk)) 126 6 dd [100125] rfl rfl Try.underlying89 (.inl ⟨_, Try.underlying89⟩) Bj5 Bn1 (by simp [z3]) C7 rfl rfl rfl hkl' (by rw [H8, hql]; rfl) (C1 0 _) (fun B hs hB hfb => ⟨_, F3 (m := 1) (by rw [hfb 100125 (by simp)]; rfl) rfl, by simp [z3]⟩) rfl (by simp [A0, closed]) (by simp only [maxLen]; omega) (by rw [show Try.prog.bytesOf 91 = 56 from Bn7]; omega) (by show olds.length ≤ _; omega) (by kernel_rfl) (F6 (by kernel_rfl) ((J4 [100123, 100124, 100126] (by kernel_rfl) (by with_unfolding_all (repeat' (first | exact True.intro | exact H1 | exact hE6 | exact hE7 | refine And.intro ?_ ?_)))))) (fun l5 hl5 => D7 1000 (by assumption) ?_)
                    have hl5' := hl5
                    have hev : qs.flatMap itQ ++ itE (J8 (D6 K)) w1 = (qs ++ [(J8 (D6 K), w1)]).flatMap itQ := by
                      rw [List.flatMap_append, List.flatMap_singleton]; rfl
                    obtain ⟨qs2, hqs2⟩ : ∃ q, q = qs ++ [(J8 (D6 K), w1)] := ⟨_, rfl⟩
                    rw [hev, ← hqs2]
                    have hE8 := L6 (T := 91) hl5 (C1 0 qs2) C7
                    obtain ⟨cp5, rest5, rfl, -⟩ := D8 hl5 (by omega)
                    simp only [A5]
                    repeat' (first | with_reducible refine And.intro (by omega) ?_ | simp (maxSteps := 4000000) (disch := omega) only [go_sem, ↓reduceIte])
                    refine E1 (by kernel_rfl) ((J4 [100123, 100124, 100126] (by kernel_rfl) (by with_unfolding_all (repeat' (first | exact True.intro | exact H1 | exact hE6 | exact hE7 | exact hE8 | refine And.intro ?_ ?_))))) (A2 1000 ?_)
                    repeat' (simp (maxSteps := 4000000) (disch := omega) only [go_sem, ↓reduceIte])
                    have cl5 : ∀ n, clO n (lO 91 (qs2.flatMap itQ) (some (cp5, rest5))) = True := fun n => G1 hl5' (C1 0 _) C7
                    have cl7 : ∀ n, clO n (lO 95 (N3.flatMap Nv.E) (none)) = True := fun n => G1 hl7 hx7 C9
                    have hBn : BExt B5 B7 := hB6.trans hB7
                    have hNe : ns ++ (new ++ u2 ++ w2') = N3 := by rw [hN3, hN2, hNS, List.append_assoc, List.append_assoc, List.append_assoc]
                    refine ⟨(dd + 1, qs2, some (cp5, rest5), w2, wp2, new ++ u2 ++ w2', none, B7), ⟨hd2, by rw [hqs2, List.map_append, hqs, hrS]; rfl, fun q hq => by
                      rw [hqs2] at hq
                      rcases List.mem_append.1 hq with h3 | h3
                      · exact (hqo q h3).ext (hB35.trans hBn)
                      · obtain rfl := List.mem_singleton.1 h3
                        exact hi7, hl5', hwp5.ext hBn, fun h => by omega, fun _ => hwV, by rw [List.map_append, List.map_append, hnew, hm6, hm7, hnS, List.append_assoc], fun q hq => by
                      rcases List.mem_append.1 hq with h3 | h3
                      · rcases List.mem_append.1 h3 with h3 | h3
                        · exact ⟨(hnok q h3).1, (hnok q h3).2.ext (hB35.trans hBn)⟩
                        · exact ⟨(hk6 q h3).1, (hk6 q h3).2.ext hB7⟩
                      · exact hk7 q h3, by rw [hNe]; exact hl7, hBX.trans hBn⟩, (M8 [100124, 3, 4, 5, 100126] 2 (by simp) (by simp) hol (by simp)).trans ?_, by simp only; omega⟩
                    rw [hNe]
                    simp only [go_sem, okC, okE, P3, M4, E9, E4, F5 (ks := [100124, 3, 4, 5, 100126]) (k := 2) hl5' (C1 0 _) C7, F5 (ks := [100124, 3, 4, 5, 100126]) (k := 2) hl7 hx7 C9, A5, eN, oN]
                    exact Weak.sub (A6 (by simp [wσ, go_sem, closed, A0, A4, cl5, cl7, A5, eN, oN, cn] <;> omega) (by simp [whs, Go.Ew.hget, go_sem, EObj.closed, closed, A0, A4, cl5, cl7, A5, eN, oN, cn]) (by first | (simp [*]; done) | (simp only [cxG]; omega)) rfl rfl (by simp))
                  · simp only [bO, A5]
                    repeat' (first | with_reducible refine And.intro (by first | omega | (simp; omega)) ?_ | simp (maxSteps := 4000000) (disch := omega) only [go_sem, ↓reduceIte])
                    refine Bb8 (c := True) (zs := z3) (xs := qs.flatMap itQ) (m := 1) (news := itE (J8 (D6 K)) w1) (T := 91) (l := some (cpk, restk)) 126 6 dd [100125] rfl rfl Try.underlying89 (.inl ⟨_, Try.underlying89⟩) Bj5 Bn1 (by simp [z3]) C7 rfl rfl rfl hkl' (by rw [H8, hql]; rfl) (C1 0 _) (fun B hs hB hfb => ⟨_, F3 (m := 1) (by rw [hfb 100125 (by simp)]; rfl) rfl, by simp [z3]⟩) rfl (by simp [A0, closed]) (by simp only [maxLen]; omega) (by rw [show Try.prog.bytesOf 91 = 56 from Bn7]; omega) (by show olds.length ≤ _; omega) (by kernel_rfl) (F6 (by kernel_rfl) ((J4 [100123, 100124, 100126] (by kernel_rfl) (by with_unfolding_all (repeat' (first | exact True.intro | exact H1 | exact hE6 | exact hE7 | refine And.intro ?_ ?_)))))) (fun l5 hl5 => D7 1000 (by assumption) ?_)
                    have hl5' := hl5
                    have hev : qs.flatMap itQ ++ itE (J8 (D6 K)) w1 = (qs ++ [(J8 (D6 K), w1)]).flatMap itQ := by
                      rw [List.flatMap_append, List.flatMap_singleton]; rfl
                    obtain ⟨qs2, hqs2⟩ : ∃ q, q = qs ++ [(J8 (D6 K), w1)] := ⟨_, rfl⟩
                    rw [hev, ← hqs2]
                    have hE8 := L6 (T := 91) hl5 (C1 0 qs2) C7
                    obtain ⟨cp5, rest5, rfl, -⟩ := D8 hl5 (by omega)
                    simp only [A5]
                    repeat' (first | with_reducible refine And.intro (by omega) ?_ | simp (maxSteps := 4000000) (disch := omega) only [go_sem, ↓reduceIte])
                    refine E1 (by kernel_rfl) ((J4 [100123, 100124, 100126] (by kernel_rfl) (by with_unfolding_all (repeat' (first | exact True.intro | exact H1 | exact hE6 | exact hE7 | exact hE8 | refine And.intro ?_ ?_))))) (A2 1000 ?_)
                    repeat' (simp (maxSteps := 4000000) (disch := omega) only [go_sem, ↓reduceIte])
                    have cl5 : ∀ n, clO n (lO 91 (qs2.flatMap itQ) (some (cp5, rest5))) = True := fun n => G1 hl5' (C1 0 _) C7
                    have cl7 : ∀ n, clO n (lO 95 (N3.flatMap Nv.E) (some (cpw, rw3))) = True := fun n => G1 hl7 hx7 C9
                    have hBn : BExt B5 B7 := hB6.trans hB7
                    have hNe : ns ++ (new ++ u2 ++ w2') = N3 := by rw [hN3, hN2, hNS, List.append_assoc, List.append_assoc, List.append_assoc]
                    refine ⟨(dd + 1, qs2, some (cp5, rest5), w2, wp2, new ++ u2 ++ w2', some (cpw, rw3), B7), ⟨hd2, by rw [hqs2, List.map_append, hqs, hrS]; rfl, fun q hq => by
                      rw [hqs2] at hq
                      rcases List.mem_append.1 hq with h3 | h3
                      · exact (hqo q h3).ext (hB35.trans hBn)
                      · obtain rfl := List.mem_singleton.1 h3
                        exact hi7, hl5', hwp5.ext hBn, fun h => by omega, fun _ => hwV, by rw [List.map_append, List.map_append, hnew, hm6, hm7, hnS, List.append_assoc], fun q hq => by
                      rcases List.mem_append.1 hq with h3 | h3
                      · rcases List.mem_append.1 h3 with h3 | h3
                        · exact ⟨(hnok q h3).1, (hnok q h3).2.ext (hB35.trans hBn)⟩
                        · exact ⟨(hk6 q h3).1, (hk6 q h3).2.ext hB7⟩
                      · exact hk7 q h3, by rw [hNe]; exact hl7, hBX.trans hBn⟩, (M8 [100124, 3, 4, 5, 100126] 2 (by simp) (by simp) hol (by simp)).trans ?_, by simp only; omega⟩
                    rw [hNe]
                    simp only [go_sem, okC, okE, P3, M4, E9, E4, F5 (ks := [100124, 3, 4, 5, 100126]) (k := 2) hl5' (C1 0 _) C7, F5 (ks := [100124, 3, 4, 5, 100126]) (k := 2) hl7 hx7 C9, A5, eN, oN]
                    exact Weak.sub (A6 (by simp [wσ, go_sem, closed, A0, A4, cl5, cl7, A5, eN, oN, cn] <;> omega) (by simp [whs, Go.Ew.hget, go_sem, EObj.closed, closed, A0, A4, cl5, cl7, A5, eN, oN, cn]) (by first | (simp [*]; done) | (simp only [cxG]; omega)) rfl rfl (by simp))
        · obtain rfl : dd = 16 := by omega
          have hwV : w = V := hw1 (by omega)
          subst hwV
          rw [← hKD] at hqs hnew
          have h17 : (Y7 KD ++ [txt w]).length = 17 := by rw [← hqs, List.length_append, List.length_map, hql]; rfl
          have hFn : ∀ i b, fzO i b (lO 95 (NS.flatMap Nv.E) l') = lO 95 (NS.flatMap Nv.E) l' := fun i b => Ac7 hl' (E3 0 _) C9
          repeat' (first | with_reducible refine And.intro (by first | omega | (simp; done)) ?_ | simp (maxSteps := 4000000) (disch := omega) only [go_sem, ↓reduceIte, Int.reduceLT] | with_reducible refine A2 1000 ?_)
          refine Dx0 rfl (l := kl) (xs := qs) 6 16 [(txt w, wp)] 1 rfl hql rfl rfl rfl hkl' ⟨_, F3 (m := 1) rfl rfl, by simp⟩ (by omega) (fun l5 hl5 => ?_)
          refine Dc0 (xs := qs ++ [(txt w, wp)]) (T := 91) 8 (16 + 1) rfl (by simp [hql]) hl5 (by simp) (fun b7 ad7 cap7 B4 hB4 hfz7 hC7 hcap7 => A2 1000 ?_)
          change BExt B2 B4 at hB4
          have hcW : ∀ n, A0 n (itE (txt w) wp) := fun n => by simp [A0, closed]
          repeat' (first | with_reducible refine And.intro (by omega) ?_ | simp (maxSteps := 4000000) (disch := omega) only [go_sem, ↓reduceIte, hfz7, Ac9 (show (2 : Nat) ≠ 8 by omega), hFn])
          have hfin : ItAt B4 (.mk 1 [] (Y7 KD ++ [txt w])) ⟨none, 0, ad7, cap7⟩ := by
            have e : Y7 KD ++ [txt w] = (qs ++ [(txt w, wp)]).map Prod.fst := by rw [List.map_append, hqs]; rfl
            rw [e]
            exact .mk 1 [] _ _ (E5 _) (by simp) hC7 (by simp [hql]) (fun q hq => by
              rcases List.mem_append.1 hq with h3 | h3
              · exact (hqo q h3).ext hB4
              · obtain rfl := List.mem_singleton.1 h3
                exact hwp.ext hB4)
          have hE : itE (.mk 1 [] (Y7 KD ++ [txt w])) ⟨none, 0, ad7, cap7⟩ = [.int .i64 1, .raw (.slice none 0 0), .raw (.slice ad7 17 cap7)] := by
            simp only [itE, Itm.list, Itm.bytes, Itm.kids, h17, List.length_nil]
          exact ⟨hB2.trans hB4, (⟨none, 0, ad7, cap7⟩, new, l'), 2, congrArg EV.agg hE.symm, by simp [closed, A0], by simp only [← hNS]; rfl, by simp only [← hNS]; rfl, by decide, ⟨hfin, hnew, fun q hq => ⟨(hnok q hq).1, (hnok q hq).2.ext hB4⟩⟩, by simp only [← hNS]; exact hl', E3 0 _⟩
end Go.Proofs.Ytncjbfkkgdepoaa
