/- Part of a proof over the seat Ytncjbfkkgdepoaa. -/
import Derived.Test.YtncjbfkkgdepoaaUI
import Derived.Test.YtncjbfkkgdepoaaEng2
import Derived.StringKeys
set_option linter.unusedSimpArgs false
set_option linter.unusedVariables false
set_option maxRecDepth 100000
namespace Go.Proofs.Ytncjbfkkgdepoaa
open Go RowKit Go.Ew
set_option maxHeartbeats 16000000
theorem Eb9 : D0 Try.f23.ntmps (Try.f23.body.getD .skip) = true := by kernel_rfl
def Z3 (f : Nat) (M : List KV) : Nd := if M = [] then .nil else Ac1 f (Ar9 M) 0
def Cp3 (f : Nat) (M : List KV) : List KV := if M = [] then [] else Co0 (Az1 (Z3 f M) ++ [(Ae7 (H6 (D6 (Z3 f M))), H6 (D6 (Z3 f M)))])
theorem Bw6 {ps : List Pr} {i : Nat} (hi : i < ps.length) : Ar9 ((ps.take (i + 1)).map Pr.kv) = Ar9 ((ps.take i).map Pr.kv) ++ [(M0 ps[i].k.l, ps[i].v.l)] := by
 rw [List.take_succ_eq_append_getElem hi, List.map_append, Ar9, List.map_append]; rfl
theorem Cp2 (f : Nat) (M : List KV) (h : ∀ p ∈ M, p.1.length ≤ 500000000 ∧ p.2.length ≤ 1073741824) : smN (Z3 f M) := by
 unfold Z3
 split
 ·trivial
 ·refine Bs6 f _ 0 fun p hp => ?_
  obtain ⟨q, hq, rfl⟩ := List.mem_map.1 hp
  have := h q hq
  have hl := R6 q.1
  exact ⟨by simp only; omega, this.2⟩
theorem Bt0 {B : Base} (f : Nat) (ps : List Pr) (n : Nat) (ad : Option Addr) (cap : Nat) (h : PrsAt B ad ps) (hn : ps.length = n) (hM : ps = [] ∨ MOk f (Ar9 (ps.map Pr.kv)) 0) (hsz : ∀ p ∈ ps.map Pr.kv, p.1.length ≤ 500000000 ∧ p.2.length ≤ 1073741824) (hcnt : ps.length * f ≤ 1099511627000) :
  Does Try.prog 23 [.raw (.slice ad n cap)] B (fun s : Option Addr × Nat × List Nv => .tup [.agg (D5 .u8 (J1 (H6 (D6 (Z3 f (ps.map Pr.kv))))) 32), .raw (.slice s.1 s.2.2.length s.2.1)])
   (fun s B' => NvsAt B' s.1 s.2.2 ∧ s.2.2.length ≤ s.2.1 ∧ s.2.2.map Nv.nd = Cp3 f (ps.map Pr.kv)) := by
 subst hn
 refine K2 Eg1 (fun s B B' hB hR => ⟨hR.1.ext hB, hR.2⟩) Try.func23 rfl Eb9 (by simp [Try.f23]) (by simp [A0, closed]) (fun B0 hB0 => A2 1000 ?_)
 replace h := h.ext hB0
 have hlen := h.len
 have hcl : ∀ p n, A0 n (D5 .u8 (J1 p) 32) := fun p n => A3 _ _ _ _
 have hsp : ∀ p, H5 (D5 .u8 (fun _ => 0) 32) 0 (D5 .u8 (J1 p) 32) = D5 .u8 (J1 p) 32 := fun p => by rw [← O9]; exact N8 (K5 _) (by omega) _
 have hsmT := Cp2 f _ hsz
 by_cases h0 : ps = []
 ·subst h0
  have hfe : H6 (D6 (Z3 f [])) = [128] := rfl
  simp only [List.map_nil, hfe]
  have hrn : Cp3 f [] = [] := rfl
  rw [hrn]
  repeat' (first | simp (maxSteps := 4000000) (disch := omega) only [go_sem, ↓reduceIte, Try.f23, List.length_nil, hsp] | refine G8 (Bd8 B0) (by simp [closed, A0, A3, C6]) (A2 1000 ?_))
  exact ⟨BExt.refl _, (none, 0, []), rfl, by simp [closed, A0, hcl], ⟨T3 _ _, fun q hq => by simp at hq, by simp⟩, by simp, rfl⟩
 ·have hMo : MOk f (Ar9 (ps.map Pr.kv)) 0 := hM.resolve_left h0
  have hpl : 0 < ps.length := List.length_pos_iff.2 h0
  obtain ⟨M, hMe⟩ : ∃ M, M = ps.map Pr.kv := ⟨_, rfl⟩
  have hMn : M ≠ [] := by rw [hMe]; simpa using h0
  have hMl : M.length = ps.length := by rw [hMe, List.length_map]
  rw [← hMe] at hMo hsz hsmT ⊢
  have hrt : Z3 f M = Ac1 f (Ar9 M) 0 := by rw [Z3, if_neg hMn]
  have hrn : Cp3 f M = Co0 (Az1 (Z3 f M) ++ [(Ae7 (H6 (D6 (Z3 f M))), H6 (D6 (Z3 f M)))]) := by rw [Cp3, if_neg hMn]
  rw [hrn]
  have c0 : (((ps.length : Nat) : Int) == 0) = false := by rw [beq_eq_false_iff_ne]; omega
  have eN : ∀ r n, lE r n none = .raw (.slice none 0 0) := fun _ _ => rfl
  have oN : ∀ T xs, lO T xs none = none := fun _ _ => rfl
  have cn : ∀ n, clO n (none : Option EObj) = True := fun n => by simp [clO]
  have hz32 : ∀ n, A0 n (D5 .u8 (fun _ => 0) 32) := fun n => A3 _ _ _ _
  repeat' (simp (maxSteps := 4000000) (disch := omega) only [go_sem, ↓reduceIte, Try.f23, c0])
  refine H2 (S := Nat × List Bs × List Bs × Lst × Lst × Base) (fun s => s.1 ≤ ps.length ∧ s.2.1.length = s.1 ∧ s.2.2.1.length = s.1 ∧ lOk zS s.1 s.2.2.2.1 ∧ lOk zS s.1 s.2.2.2.2.1 ∧ BExt B0 s.2.2.2.2.2 ∧ (∀ q ∈ s.2.1, q.Ok s.2.2.2.2.2) ∧ (∀ q ∈ s.2.2.1, q.Ok s.2.2.2.2.2) ∧ Aj7 s.2.1 s.2.2.1 = Ar9 ((ps.take s.1).map Pr.kv))
   (fun s => ⟨[(6, .int .i64 (s.1 : Nat)), (5, lE 2 s.1 s.2.2.2.2.1), (4, lE 1 s.1 s.2.2.2.1), (2, .ptr 0 0), (0, .raw (.slice ad ps.length cap))], 3, [(2, lO 22 (s.2.2.1.map bsE) s.2.2.2.2.1), (1, lO 22 (s.2.1.map bsE) s.2.2.2.1), (0, some (.cells (D5 .u8 (fun _ => 0) 32) 45 (0, 0)))], s.2.2.2.2.2, []⟩)
   (fun s => ps.length - s.1) (0, [], [], none, none, B0) ⟨Nat.zero_le _, rfl, rfl, rfl, rfl, BExt.refl _, by simp, by simp, rfl⟩ (Weak.sub (A6 (by simp [wσ, go_sem, closed, A0, A4, eN, oN, cn, hz32] <;> omega) (by simp [whs, Go.Ew.hget, go_sem, EObj.closed, closed, A0, A4, eN, oN, cn, hz32]) (by first | (simp [*]; done) | (simp only [cxG]; omega)) rfl rfl (by simp))) ?_
  rintro ⟨i, ks, vs, lk, lv, B2⟩ ⟨hi, hkl, hvl, hlk, hlv, hB2, hko, hvo, hz⟩
  simp only at hi hkl hvl hlk hlv hB2 hko hvo hz ⊢
  have hclK : ∀ n, clO n (lO 22 (ks.map bsE) lk) = True := fun n => G1 hlk (G9 0 _) H9
  have hclV : ∀ n, clO n (lO 22 (vs.map bsE) lv) = True := fun n => G1 hlv (G9 0 _) H9
  have hFv : ∀ i b, fzO i b (lO 22 (vs.map bsE) lv) = lO 22 (vs.map bsE) lv := fun i b => Ac7 hlv (G9 0 _) H9
  have hFk : ∀ i b, fzO i b (lO 22 (ks.map bsE) lk) = lO 22 (ks.map bsE) lk := fun i b => Ac7 hlk (G9 0 _) H9
  rcases Nat.lt_or_ge i ps.length with hi2 | hi2
  ·have cA : decide ((i : Int) < (ps.length : Int)) = true := decide_eq_true (by omega)
   obtain ⟨l1, l2, l3, l4, l5, l6⟩ := (h.ext hB2).ld hi2
   have hok := (h.ext hB2).ok _ (List.getElem_mem hi2)
   have hnt := Bw6 hi2
   have hps : (ps[i]).k.l.length ≤ 500000000 := (hsz (ps[i]).kv (by rw [hMe]; exact List.mem_map_of_mem (List.getElem_mem hi2))).1
   obtain ⟨q, hq⟩ : ∃ q, q = ps[i] := ⟨_, rfl⟩
   rw [← hq] at l1 l2 hok hnt hps
   have hnl := R6 q.k.l
   refine A2 1000 ?_
   repeat' (first | with_reducible refine And.intro (by first | omega | (constructor <;> assumption) | (simp [*]; done)) ?_ | simp (maxSteps := 4000000) (disch := omega) only [go_sem, ↓reduceIte, cA, Int.toNat_natCast, l1])
   refine F8 (Bk5 q.k.l q.k.l.length _ q.k.ad q.k.c hok.1.b rfl hok.1.m) (fun _ => by simp [closed]) (fun s3 B3 hB3 hR3 => A2 1000 ?_)
   change BExt B2 B3 at hB3
   obtain ⟨N, hN⟩ : ∃ N : Bs, N = ⟨M0 q.k.l, s3.1, s3.2⟩ := ⟨_, rfl⟩
   have hNok : N.Ok B3 := by rw [hN]; exact ⟨hR3.1, hR3.2, by simp only; omega⟩
   have hNv : [N].map bsE = [.raw (.slice s3.1 (M0 q.k.l).length s3.2)] := by rw [hN]; rfl
   obtain ⟨k1, k2, k3, k4, k5, k6⟩ := ((h.ext hB2).ext hB3).ld hi2
   rw [← hq] at k1 k2
   repeat' (first | with_reducible refine And.intro (by first | omega | (simp; done)) ?_ | simp (maxSteps := 4000000) (disch := omega) only [go_sem, ↓reduceIte])
   refine Dl7 rfl (l := lk) (xs := ks) 1 i [N] 1 rfl hkl rfl rfl rfl hlk ⟨_, F3 (m := 1) rfl (by rw [hNv]; rfl), by simp⟩ (by omega) (fun l5 hl5 => A2 1000 ?_)
   repeat' (first | with_reducible refine And.intro (by first | omega | (constructor <;> assumption) | (simp; done) | (simp [*]; done)) ?_ | simp (maxSteps := 4000000) (disch := omega) only [go_sem, ↓reduceIte, Int.toNat_natCast, k2])
   refine Dl7 rfl (l := lv) (xs := vs) 2 i [q.v] 1 rfl hvl rfl rfl rfl hlv ⟨_, F3 (m := 1) rfl rfl, by simp⟩ (by omega) (fun l6 hl6 => A2 1000 ?_)
   have hl5' := hl5
   have hl6' := hl6
   obtain ⟨cp5, rest5, rfl, -⟩ := D8 hl5 (by omega)
   obtain ⟨cp6, rest6, rfl, -⟩ := D8 hl6 (by omega)
   simp only [A5]
   repeat' (simp (maxSteps := 4000000) (disch := omega) only [go_sem, ↓reduceIte])
   have cl5 : ∀ n, clO n (lO 22 ((ks ++ [N]).map bsE) (some (cp5, rest5))) = True := fun n => G1 hl5' (G9 0 _) H9
   have cl6 : ∀ n, clO n (lO 22 ((vs ++ [q.v]).map bsE) (some (cp6, rest6))) = True := fun n => G1 hl6' (G9 0 _) H9
   obtain ⟨ks2, hks2⟩ : ∃ a, a = ks ++ [N] := ⟨_, rfl⟩
   obtain ⟨vs2, hvs2⟩ : ∃ a, a = vs ++ [q.v] := ⟨_, rfl⟩
   rw [← hks2] at cl5
   rw [← hvs2] at cl6
   rw [← hks2, ← hvs2]
   refine ⟨(i + 1, ks2, vs2, some (cp5, rest5), some (cp6, rest6), B3), ⟨hi2, by rw [hks2]; simp [hkl], by rw [hvs2]; simp [hvl], hl5', hl6', hB2.trans hB3, fun a ha => ?_, fun a ha => ?_, ?_⟩, (M8 [4, 6] 1 (by simp) (by simp) (by simp [cxG]) (by simp)).trans ?_, by simp only; omega⟩
   ·rw [hks2] at ha
    rcases List.mem_append.1 ha with h3 | h3
    ·exact (hko a h3).ext hB3
    ·obtain rfl := List.mem_singleton.1 h3; exact hNok
   ·rw [hvs2] at ha
    rcases List.mem_append.1 ha with h3 | h3
    ·exact (hvo a h3).ext hB3
    ·obtain rfl := List.mem_singleton.1 h3; exact hok.2.ext hB3
   ·simp only
    rw [hnt, ← hz, hks2, hvs2, hN]
    have key : ∀ (a b : List Bs) (x y : Bs), a.length = b.length → Aj7 (a ++ [x]) (b ++ [y]) = Aj7 a b ++ [(x.l, y.l)] := fun a b x y hab => by
     rw [Aj7, List.zipWith_append hab]; rfl
    exact key _ _ _ _ (by rw [hkl, hvl])
   ·simp only [go_sem, okC, okE, P3, M4, E9, E4, F5 (ks := [4, 6]) (k := 1) hl5' (G9 0 ks2) H9, F5 (ks := [4, 6]) (k := 1) hl6' (G9 0 vs2) H9, A5]
    exact Weak.sub (A6 (by simp [wσ, go_sem, closed, A0, A4, cl5, cl6, A5, hz32] <;> omega) (by simp [whs, Go.Ew.hget, go_sem, EObj.closed, closed, A0, A4, cl5, cl6, A5, hz32]) (by first | (simp [*]; done) | (simp only [cxG]; omega)) rfl rfl (by simp))
  ·obtain rfl : i = ps.length := by omega
   have cA : decide ((ps.length : Int) < (ps.length : Int)) = false := decide_eq_false (by omega)
   rw [List.take_of_length_le (Nat.le_refl _), ← hMe] at hz
   refine Ba0 (xs := ks) (T := 22) 1 ps.length rfl hkl hlk (by simp) (fun b7 ad7 cap7 B4 hB4 hfz7 hC7 hcap7 => ?_)
   change BExt B2 B4 at hB4
   simp only [frzσ, frz, hfz7, Ac9 (show (2 : Nat) ≠ 1 by omega), hFv, hFk, J5, O0, Ag7, EObj.frz, Ap0, Nat.reduceEqDiff, if_false, if_true, ↓reduceIte]
   refine Ba0 (xs := vs) (T := 22) 2 ps.length rfl hvl hlv (by simp) (fun b8 ad8 cap8 B5 hB5 hfz8 hC8 hcap8 => A2 1000 ?_)
   change BExt B4 B5 at hB5
   simp only [frzσ, frz, hfz8, hFv, hFk, J5, O0, Ag7, EObj.frz, Ap0, Nat.reduceEqDiff, if_false, if_true, ↓reduceIte]
   have hB45 := hB4.trans hB5
   have hKat : BssAt B5 ad7 ks := ⟨hC7.ext hB5, fun q hq => (hko q hq).ext hB45, by omega⟩
   have hVat : BssAt B5 ad8 vs := ⟨hC8, fun q hq => (hvo q hq).ext hB45, by omega⟩
   have hin : NIn f ks vs 0 [] none := ⟨by omega, by rw [hz]; exact hMo, by
    rw [hz]
    intro p hp
    obtain ⟨q, hq, rfl⟩ := List.mem_map.1 hp
    have := hsz q hq
    have hl := R6 q.1
    exact ⟨by simp only; omega, this.2⟩, by
    have h1 := Bn5 f (Ar9 M) 0 (by simpa [Ar9] using hMn)
    rw [hz]
    rw [Ar9, List.length_map, hMl, ← Ar9] at h1
    simp only [List.length_nil]; omega, by simp, rfl⟩
   have hrec := fun B hB => Cp4 f ks vs ad7 ad8 cap7 cap8 ps.length 0 B [] none (hKat.ext hB) (hVat.ext hB) hkl hin
   rw [hz, ← hrt] at hrec
   obtain ⟨T, hT⟩ : ∃ T, T = Z3 f M := ⟨_, rfl⟩
   rw [← hT] at hrec hsmT ⊢
   have hsk := Bm6 hsmT
   repeat' (first | simp (maxSteps := 4000000) (disch := omega) only [go_sem, ↓reduceIte, cA] | with_reducible refine A2 1000 ?_)
   refine Aq6 3 99 (hrec _ (BExt.refl _)) rfl rfl (by decide) rfl trivial C9 (by simp [A0, closed]) (fun _ => by simp [closed, A0]) (fun u B6 hB6 hR6 hl6 hx6 => A2 1000 ?_)
   change BExt B5 B6 at hB6
   obtain ⟨hi6, hm6, hk6⟩ := hR6
   repeat' (simp (maxSteps := 4000000) (disch := omega) only [go_sem, ↓reduceIte])
   refine F8 (Cc2 hi6 (Cs9 T) (by omega)) (fun _ => by simp [closed, A0]) (fun s7 B7 hB7 hR7 => A2 1000 ?_)
   change BExt B6 B7 at hB7
   obtain ⟨p, hp⟩ : ∃ p, p = H6 (D6 T) := ⟨_, rfl⟩
   rw [← hp] at hsk hR7 ⊢
   repeat' (simp (maxSteps := 4000000) (disch := omega) only [go_sem, ↓reduceIte])
   refine F8 (Bm5 p p.length _ s7.1 s7.2 hR7.1 rfl (by omega)) (fun _ => hcl _ _) (fun s8 B8 hB8 hR8 => A2 1000 ?_)
   change BExt B7 B8 at hB8
   obtain ⟨u1, u2, u3⟩ := u
   simp only [List.nil_append] at hi6 hm6 hk6 hl6 hx6 ⊢
   obtain ⟨N, hN⟩ : ∃ N : Nv, N = ⟨Ae7 p, ⟨p, s7.1, s7.2⟩⟩ := ⟨_, rfl⟩
   have hNh : N.h.length = 32 := by rw [hN]; exact K5 p
   have hNb : N.b.Ok B8 := by rw [hN]; exact ⟨hR7.1.ext hB8, hR7.2, by simp only; omega⟩
   have hNd : N.nd = (Ae7 p, p) := by rw [hN]; rfl
   have hNE : N.E = (D5 .u8 (J1 p) 32 ++ [EV.raw (.slice s7.1 p.length s7.2)]) := by rw [hN, ← O9]; rfl
   have hs33 : H5 [EV.int IntKind.u8 0, EV.int IntKind.u8 0, EV.int IntKind.u8 0, EV.int IntKind.u8 0, EV.int IntKind.u8 0, EV.int IntKind.u8 0, EV.int IntKind.u8 0, EV.int IntKind.u8 0, EV.int IntKind.u8 0, EV.int IntKind.u8 0, EV.int IntKind.u8 0, EV.int IntKind.u8 0, EV.int IntKind.u8 0, EV.int IntKind.u8 0, EV.int IntKind.u8 0, EV.int IntKind.u8 0, EV.int IntKind.u8 0, EV.int IntKind.u8 0, EV.int IntKind.u8 0, EV.int IntKind.u8 0, EV.int IntKind.u8 0, EV.int IntKind.u8 0, EV.int IntKind.u8 0, EV.int IntKind.u8 0, EV.int IntKind.u8 0, EV.int IntKind.u8 0, EV.int IntKind.u8 0, EV.int IntKind.u8 0, EV.int IntKind.u8 0, EV.int IntKind.u8 0, EV.int IntKind.u8 0, EV.int IntKind.u8 0, EV.raw (Value.slice none 0 0)] 0 (D5 .u8 (J1 p) 32) = D5 .u8 (J1 p) 32 ++ [.raw (.slice none 0 0)] := by rfl
   have hl33 : ∀ v, (D5 .u8 (J1 p) 32 ++ [v]).length = 33 := fun v => by simp [D5]
   have ht33 : (D5 .u8 (J1 p) 32 ++ [EV.raw (.slice none 0 0)]).set 32 (.raw (.slice s7.1 p.length s7.2)) = (D5 .u8 (J1 p) 32 ++ [EV.raw (.slice s7.1 p.length s7.2)]) := by rfl
   have hNl : (D5 .u8 (J1 p) 32 ++ [EV.raw (.slice s7.1 p.length s7.2)]).length = 33 := hl33 _
   have hNc : ∀ n, A0 n (D5 .u8 (J1 p) 32 ++ [EV.raw (.slice s7.1 p.length s7.2)]) := fun n => by rw [← hNE]; exact V7 n N
   have hNo : G2 (D5 .u8 (J1 p) 32 ++ [EV.raw (.slice s7.1 p.length s7.2)]) = true := by rw [← hNE]; exact Z5 N
   have hsN : H5 [EV.int IntKind.u8 0, EV.int IntKind.u8 0, EV.int IntKind.u8 0, EV.int IntKind.u8 0, EV.int IntKind.u8 0, EV.int IntKind.u8 0, EV.int IntKind.u8 0, EV.int IntKind.u8 0, EV.int IntKind.u8 0, EV.int IntKind.u8 0, EV.int IntKind.u8 0, EV.int IntKind.u8 0, EV.int IntKind.u8 0, EV.int IntKind.u8 0, EV.int IntKind.u8 0, EV.int IntKind.u8 0, EV.int IntKind.u8 0, EV.int IntKind.u8 0, EV.int IntKind.u8 0, EV.int IntKind.u8 0, EV.int IntKind.u8 0, EV.int IntKind.u8 0, EV.int IntKind.u8 0, EV.int IntKind.u8 0, EV.int IntKind.u8 0, EV.int IntKind.u8 0, EV.int IntKind.u8 0, EV.int IntKind.u8 0, EV.int IntKind.u8 0, EV.int IntKind.u8 0, EV.int IntKind.u8 0, EV.int IntKind.u8 0, EV.raw (Value.slice none 0 0)] 0 (D5 .u8 (J1 p) 32 ++ [EV.raw (.slice s7.1 p.length s7.2)]) = (D5 .u8 (J1 p) 32 ++ [EV.raw (.slice s7.1 p.length s7.2)]) := by rfl
   have havN : avs 100058 (D5 .u8 (J1 p) 32 ++ [EV.raw (.slice s7.1 p.length s7.2)]) := K3 _ (hNc 0)
   have hfl : u2.flatMap Nv.E ++ (D5 .u8 (J1 p) 32 ++ [EV.raw (.slice s7.1 p.length s7.2)]) = (u2 ++ [N]).flatMap Nv.E := by rw [← hNE]; simp
   have hu32 : ∀ q ∈ u2 ++ [N], q.h.length = 32 ∧ q.b.Ok B8 := fun q hq => by
    rcases List.mem_append.1 hq with h3 | h3
    ·exact ⟨(hk6 q h3).1, ((hk6 q h3).2.ext hB7).ext hB8⟩
    ·obtain rfl := List.mem_singleton.1 h3; exact ⟨hNh, hNb⟩
   have hxl : (u2.flatMap Nv.E).length = u2.length * zN.length := by rw [X5 fun q hq => (hk6 q hq).1]; rfl
   have hul : u2.length < 1099511627776 := by
    have h1 := Ao4 T
    rw [List.length_append, ← hm6, List.length_map] at h1
    have h2 := hin.cnt
    rw [hz, ← hrt, ← hT] at h2
    simp only [List.length_nil] at h2
    omega
   have hnd2 : (u2 ++ [N]).map Nv.nd = Az1 T ++ [(Ae7 p, p)] := by rw [List.map_append, hm6, List.map_singleton, hNd]
   rcases u3 with _ | ⟨cpu, ru⟩
   ·simp only [bO, eN, oN]
    repeat' (first | with_reducible refine And.intro (by first | omega | (simp; omega)) ?_ | simp (maxSteps := 4000000) (disch := omega) only [go_sem, ↓reduceIte, hsp, hs33, hl33, ht33, hNl, hsN] | with_reducible refine C8 (id := 12) [0, 1, 2, 3, 4, 5, 6, 7, 8, 9, 10, 11, 12] mixed (by kernel_rfl) (by simp) (fun hin => D7 1000 hin ?_))
    refine Bb8 (l := none) (xs := u2.flatMap Nv.E) (m := 1) (b' := .sl 100058 0 1 1) (news := (D5 .u8 (J1 p) 32 ++ [EV.raw (.slice s7.1 p.length s7.2)])) (zs := zN) (c := True) (T := 95) 59 4 u2.length [100058] rfl rfl Try.underlying50 (.inl ⟨_, Try.underlying50⟩) Cl9 Cs4 (by simp [zN]) C9 rfl rfl rfl hl6 hxl (E3 0 _) (fun B hs hB hfb => ⟨_, F3 (m := 1) (by rw [hfb 100058 (by simp)]; rfl) (by rw [List.drop_zero, List.take_of_length_le (by rw [hNl]; decide)]), by rw [hNl]; decide⟩) hNo (hNc 0) (by simp only [maxLen]; omega) (by rw [show Try.prog.bytesOf 95 = 56 from Ct8]; omega) (by simp [cxG]) (by kernel_rfl) (F6 (by kernel_rfl) (C4 (by kernel_rfl))) (fun l3 hl3 => D7 1000 (by assumption) ?_)
    have hl3' := hl3
    have hE3 := L6 (T := 95) hl3 (closeds_append.2 ⟨E3 0 u2, hNc 0⟩) C9
    obtain ⟨cp, rest, rfl, -⟩ := D8 hl3 (by omega)
    simp only [A5]
    repeat' (simp (maxSteps := 4000000) (disch := omega) only [go_sem, ↓reduceIte])
    have hln : u2.length + 1 = (u2 ++ [N]).length := by simp
    refine Aa4 (vf := fun s : Option Addr × Nat × List Nv => .raw (.slice s.1 s.2.2.length s.2.1)) 100059 0 (u2.length + 1) cp [] ((u2 ++ [N]).flatMap Nv.C) Dr0 rfl rfl (by
     rw [Be9, ← hfl, List.drop_zero, show ((u2 ++ [N]).flatMap Nv.C).length = (u2.flatMap Nv.E ++ (D5 .u8 (J1 p) 32 ++ [EV.raw (.slice s7.1 p.length s7.2)])).length by rw [hfl, Ai2 fun q hq => (hu32 q hq).1, X5 fun q hq => (hu32 q hq).1], List.take_left]) (fun s => by simp [closed]) (fun B ad cap hB hC => Bd1 (u2 ++ [N]) (u2.length + 1) ad cap ⟨hC, fun q hq => ⟨(hu32 q hq).1, (hu32 q hq).2.ext hB⟩, by rw [← hln]; omega⟩ hln.symm) (by kernel_rfl) (F6 (by kernel_rfl) ((J4 [100059] (by kernel_rfl) (by with_unfolding_all (repeat' (first | exact True.intro | exact H1 | exact hE3 | refine And.intro ?_ ?_)))))) (fun hin3 s9 B9 hB9 hR9 => D7 1000 hin3 ?_)
    change BExt B8 B9 at hB9
    rw [hnd2] at hR9
    repeat' (first | simp (maxSteps := 4000000) (disch := omega) only [go_sem, ↓reduceIte, hsp] | with_reducible refine E1 (by kernel_rfl) ((J4 [100059] (by kernel_rfl) (by with_unfolding_all (repeat' (first | exact True.intro | exact H1 | exact hE3 | refine And.intro ?_ ?_))))) (A2 1000 ?_))
    have hBX := hB2.trans (hB45.trans (hB6.trans (hB7.trans (hB8.trans hB9))))
    first | exact ⟨hBX, s9, rfl, by simp [closed, A0, hcl], hR9⟩ | exact ⟨s9, rfl, by simp [closed, A0, hcl], hR9⟩
   ·simp only [bO, A5]
    repeat' (first | with_reducible refine And.intro (by first | omega | (simp; omega)) ?_ | simp (maxSteps := 4000000) (disch := omega) only [go_sem, ↓reduceIte, hsp, hs33, hl33, ht33, hNl, hsN] | with_reducible refine C8 (id := 12) [0, 1, 2, 3, 4, 5, 6, 7, 8, 9, 10, 11, 12] mixed (by kernel_rfl) (by simp) (fun hin => D7 1000 hin ?_))
    refine Bb8 (l := some (cpu, ru)) (xs := u2.flatMap Nv.E) (m := 1) (b' := .sl 100058 0 1 1) (news := (D5 .u8 (J1 p) 32 ++ [EV.raw (.slice s7.1 p.length s7.2)])) (zs := zN) (c := True) (T := 95) 59 4 u2.length [100058] rfl rfl Try.underlying50 (.inl ⟨_, Try.underlying50⟩) Cl9 Cs4 (by simp [zN]) C9 rfl rfl rfl hl6 hxl (E3 0 _) (fun B hs hB hfb => ⟨_, F3 (m := 1) (by rw [hfb 100058 (by simp)]; rfl) (by rw [List.drop_zero, List.take_of_length_le (by rw [hNl]; decide)]), by rw [hNl]; decide⟩) hNo (hNc 0) (by simp only [maxLen]; omega) (by rw [show Try.prog.bytesOf 95 = 56 from Ct8]; omega) (by simp [cxG]) (by kernel_rfl) (F6 (by kernel_rfl) (C4 (by kernel_rfl))) (fun l3 hl3 => D7 1000 (by assumption) ?_)
    have hl3' := hl3
    have hE3 := L6 (T := 95) hl3 (closeds_append.2 ⟨E3 0 u2, hNc 0⟩) C9
    obtain ⟨cp, rest, rfl, -⟩ := D8 hl3 (by omega)
    simp only [A5]
    repeat' (simp (maxSteps := 4000000) (disch := omega) only [go_sem, ↓reduceIte])
    have hln : u2.length + 1 = (u2 ++ [N]).length := by simp
    refine Aa4 (vf := fun s : Option Addr × Nat × List Nv => .raw (.slice s.1 s.2.2.length s.2.1)) 100059 0 (u2.length + 1) cp [] ((u2 ++ [N]).flatMap Nv.C) Dr0 rfl rfl (by
     rw [Be9, ← hfl, List.drop_zero, show ((u2 ++ [N]).flatMap Nv.C).length = (u2.flatMap Nv.E ++ (D5 .u8 (J1 p) 32 ++ [EV.raw (.slice s7.1 p.length s7.2)])).length by rw [hfl, Ai2 fun q hq => (hu32 q hq).1, X5 fun q hq => (hu32 q hq).1], List.take_left]) (fun s => by simp [closed]) (fun B ad cap hB hC => Bd1 (u2 ++ [N]) (u2.length + 1) ad cap ⟨hC, fun q hq => ⟨(hu32 q hq).1, (hu32 q hq).2.ext hB⟩, by rw [← hln]; omega⟩ hln.symm) (by kernel_rfl) (F6 (by kernel_rfl) ((J4 [100059] (by kernel_rfl) (by with_unfolding_all (repeat' (first | exact True.intro | exact H1 | exact hE3 | refine And.intro ?_ ?_)))))) (fun hin3 s9 B9 hB9 hR9 => D7 1000 hin3 ?_)
    change BExt B8 B9 at hB9
    rw [hnd2] at hR9
    repeat' (first | simp (maxSteps := 4000000) (disch := omega) only [go_sem, ↓reduceIte, hsp] | with_reducible refine E1 (by kernel_rfl) ((J4 [100059] (by kernel_rfl) (by with_unfolding_all (repeat' (first | exact True.intro | exact H1 | exact hE3 | refine And.intro ?_ ?_))))) (A2 1000 ?_))
    have hBX := hB2.trans (hB45.trans (hB6.trans (hB7.trans (hB8.trans hB9))))
    first | exact ⟨hBX, s9, rfl, by simp [closed, A0, hcl], hR9⟩ | exact ⟨s9, rfl, by simp [closed, A0, hcl], hR9⟩
end Go.Proofs.Ytncjbfkkgdepoaa
namespace Go.Proofs.Ytncjbfkkgdepoaa
open Go RowKit Go.Ew
set_option maxHeartbeats 16000000
def Bt3 (p : KV) : Bool := decide (64 < p.1.length) || decide (1048576 < p.2.length)
def As7 (l : List KV) (i : Nat) : Bool := decide ((l.getD i ([], [])).1 ∈ (l.take i).map Prod.fst) || decide ((l.getD i ([], [])).2 = [])
def Dc4 (l : List KV) : Bool := (List.range l.length).any (As7 l)
def rtE (l : List KV) : Nat := if l.any Bt3 then 2 else if Dc4 l then 122 else 0
def rtN (l : List KV) : Nat → Nd
 | 0 => .nil
 | n + 1 => T9 200 (rtN l n) (M0 (l.getD n ([], [])).1) (l.getD n ([], [])).2
def rtM (l : List KV) : Nat → List KV
 | 0 => []
 | n + 1 => An8 (rtM l n) (l.getD n ([], [])).1 (l.getD n ([], [])).2
def rtB (l : List KV) : List UInt8 := H6 (D6 (rtN l l.length))
def rtH (l : List KV) : List EV := if rtE l = 0 then D5 .u8 (J1 (rtB l)) 32 else D5 .u8 (fun _ => 0) 32
theorem Br6 {l : List KV} {i : Nat} (hi : i < l.length) (h : As7 l i = true) : Dc4 l = true := by
 rw [Dc4, List.any_eq_true]; exact ⟨i, List.mem_range.2 hi, h⟩
theorem Cs2 {l : List KV} (h : ∀ i, i < l.length → As7 l i = false) : Dc4 l = false := by
 rw [Dc4, List.any_eq_false]; intro i hi; rw [h i (List.mem_range.1 hi)]; simp
theorem Aw4 {l : List KV} (h : l.any Bt3 = false) {p : KV} (hp : p ∈ l) : p.1.length ≤ 64 ∧ p.2.length ≤ 1048576 := by
 have := List.any_eq_false.1 h p hp
 simp only [Bt3, Bool.or_eq_true, decide_eq_true_eq, not_or] at this
 omega
theorem Ay3 (l : List KV) (hb : l.any Bt3 = false) : ∀ n, n ≤ l.length → (∀ j, j < n → As7 l j = false) → Agree (rtN l n) (rtM l n)
 | 0, _, _ => Agree.nil
 | n + 1, hn, hd => by
  have ih := Ay3 l hb n (by omega) (fun j hj => hd j (by omega))
  have h1 := hd n (by omega)
  have hg : l.getD n ([], []) = l[n]'(by omega) := by simp [List.getD, (by omega : n < l.length)]
  have h2 := Aw4 hb (List.getElem_mem (by omega : n < l.length))
  rw [As7, Bool.or_eq_false_iff] at h1
  rw [rtN, rtM]
  refine ih.put _ _ (by simpa using h1.2) ?_
  rw [hg, R6]; omega
theorem Cb4 (l : List KV) (hb : l.any Bt3 = false) : ∀ n, n ≤ l.length → ∀ p ∈ rtM l n, p.1.length ≤ 64 ∧ p.2.length ≤ 1048576
 | 0, _, p, h => by simp [rtM] at h
 | n + 1, hn, p, h => by
  have hg : l.getD n ([], []) = l[n]'(by omega) := by simp [List.getD, (by omega : n < l.length)]
  have h2 := Aw4 hb (List.getElem_mem (by omega : n < l.length))
  rw [rtM, An8] at h
  rcases List.mem_append.1 h with h | h
  ·rcases List.mem_append.1 h with h | h
   ·exact Cb4 l hb n (by omega) p (List.mem_of_mem_take h)
   ·split at h
    ·simp at h
    ·obtain rfl := List.mem_singleton.1 h
     rw [hg]; exact h2
  ·exact Cb4 l hb n (by omega) p (List.mem_of_mem_drop h)
theorem Bk4 (l : List KV) : ∀ n, (rtM l n).length ≤ n
 | 0 => by simp [rtM]
 | n + 1 => by
  have := Bk4 l n
  rw [rtM]
  exact Nat.le_trans (Cp9 _ _ _) (by omega)
/-- The trie of any map that has no long key is the document's. -/
theorem By9 {t : Nd} {m : List KV} (h : Agree t m) (hk : ∀ p ∈ m, p.1.length ≤ 64) : t = Z3 200 m ∧ (m = [] ∨ MOk 200 (Ar9 m) 0) := by
 have hf : ∀ p ∈ m, (M0 p.1).length < 200 := fun p hp => by
  have := hk p hp
  rw [R6]; omega
 by_cases h0 : m = []
 ·refine ⟨?_, .inl h0⟩
  rw [Z3, if_pos h0]
  rw [h0] at h; exact h.nil_of
 ·exact ⟨by rw [Z3, if_neg h0]; exact h.eq h0 hf, .inr (h.ok h0 hf)⟩
abbrev Bv1 (k : List UInt8) : Value := .string (Bj9 k)
theorem Ax7 {a b : List UInt8} (h : Bv1 a = Bv1 b) : a = b := by
 injection h with h
 rw [← P5 a, ← P5 b, h]
def SetS (es : Array MapEntry) (ks : List (List UInt8)) : Prop := es.toList.map (fun e => (e.key, e.val)) = ks.map (fun k => (Bv1 k, Value.int .i64 1))
theorem SetS.nil : SetS #[] [] := rfl
theorem SetS.of_mem {es : Array MapEntry} {ks : List (List UInt8)} (h : SetS es ks) {e : MapEntry} (he : e ∈ es.toList) : ∃ k ∈ ks, e.key = Bv1 k ∧ e.val = .int .i64 1 := by
 have : (e.key, e.val) ∈ es.toList.map (fun e => (e.key, e.val)) := List.mem_map.2 ⟨e, he, rfl⟩
 rw [h] at this
 obtain ⟨k, hk, h2⟩ := List.mem_map.1 this
 injection h2 with h3 h4
 exact ⟨k, hk, h3.symm, h4.symm⟩
theorem SetS.mem_of {es : Array MapEntry} {ks : List (List UInt8)} (h : SetS es ks) {k : List UInt8} (hk : k ∈ ks) : ∃ e ∈ es.toList, e.key = Bv1 k := by
 have : (Bv1 k, Value.int .i64 1) ∈ ks.map (fun k => (Bv1 k, Value.int .i64 1)) := List.mem_map.2 ⟨k, hk, rfl⟩
 rw [← h] at this
 obtain ⟨e, he, h2⟩ := List.mem_map.1 this
 injection h2 with h3 h4
 exact ⟨e, he, h3⟩
theorem SetS.set {es es' : Array MapEntry} {clock : Nat} {ks : List (List UInt8)} {k : List UInt8} (h : SetS es ks) (hk : k ∉ ks) (hs : Cl3 es clock (Bv1 k) (.int .i64 1) es') : SetS es' (ks ++ [k]) := by
 rcases hs with ⟨h1, h2⟩ | ⟨j, e, h1, h2, h3⟩
 ·rw [SetS, h2, List.map_append, List.map_append, h]
  rfl
 ·obtain ⟨k', hk', h4, h5⟩ := h.of_mem (List.mem_of_getElem? h1)
  exact absurd (Ax7 (h4.symm.trans h2) ▸ hk') hk
theorem Dv2 (k : List UInt8) (h : k.length ≤ 64) : keyOf Try.prog 9 (Bv1 k) = some (.string (Bj9 k).data.toList) :=
 WideMaps.keyOf_string_mk Try.underlying9 (by rw [Ca6]; exact Nat.le_trans h (by decide +kernel))
theorem SetS.keys {es : Array MapEntry} {ks : List (List UInt8)} (h : SetS es ks) (hk : ∀ k ∈ ks, k.length ≤ 64) : Ar7 Try.prog 9 es := fun e he => by
 obtain ⟨k, hk', h1, _⟩ := h.of_mem he
 rw [h1]; exact ⟨_, Dv2 k (hk k hk')⟩
theorem PrsAt.lda {B : Base} {ad : Option Addr} {ps : List Pr} (h : PrsAt B ad ps) {i : Nat} (hi : i < ps.length) :
  N9 B (H7 ad (i * 2)) 2 = Pr.E ps[i] ∧ B.D (adr ad).block ∧ Al5 B (H7 ad (i * 2)) 2 ∧ ad.isSome = true := by
 have e : ∀ j, (H7 ad (i * 2)).add j = H7 ad (i * 2 + j) := fun j => by unfold H7; rw [Ae5]
 obtain ⟨l1, l2, l3, l4, l5, l6⟩ := h.ld hi
 refine ⟨?_, l3, fun j hj => ?_, l6⟩
 ·unfold N9
  have : List.range 2 = [0, 1] := rfl
  rw [this]
  simp only [List.map_cons, List.map_nil, e, Nat.add_zero, l1, l2]
  rfl
 ·rw [e]
  match j, hj with
  | 0, _ => exact l4
  | 1, _ => exact l5
end Go.Proofs.Ytncjbfkkgdepoaa
namespace Go.Proofs.Ytncjbfkkgdepoaa
open Go RowKit Go.Ew
set_option maxHeartbeats 16000000
theorem Ec0 : D0 Try.f22.ntmps (Try.f22.body.getD .skip) = true := by kernel_rfl
theorem Ax5 (B : Base) (ps : List Pr) (n : Nat) (ad : Option Addr) (cap : Nat) (h : PrsAt B ad ps) (hn : ps.length = n) :
  Does Try.prog 22 [.raw (.slice ad n cap)] B (fun _ : Unit => .tup [.agg (rtH (ps.map Pr.kv)), .int .i64 (rtE (ps.map Pr.kv) : Nat)]) (fun _ _ => True) := by
 subst hn
 refine K2 Dw6 (fun s B B' hB hR => hR) Try.func22 rfl Ec0 (by simp [Try.f22]) (by simp [A0, closed]) (fun B0 hB0 => A2 1000 ?_)
 replace h := h.ext hB0
 have hlen := h.len
 have hcl : ∀ p n, A0 n (D5 .u8 (J1 p) 32) := fun p n => A3 _ _ _ _
 have hsp : ∀ p, H5 (D5 .u8 (fun _ => 0) 32) 0 (D5 .u8 (J1 p) 32) = D5 .u8 (J1 p) 32 := fun p => by rw [← O9]; exact N8 (K5 _) (by omega) _
 have hz32 : ∀ n, A0 n (D5 .u8 (fun _ => 0) 32) := fun n => A3 _ _ _ _
 have hsP : ∀ q : Pr, H5 [EV.raw (.slice none 0 0), EV.raw (.slice none 0 0)] 0 (Pr.E q) = Pr.E q := fun q => rfl
 have hoP : ∀ q : Pr, G2 (Pr.E q) = true := fun q => rfl
 obtain ⟨L, hL⟩ : ∃ L, L = ps.map Pr.kv := ⟨_, rfl⟩
 have hLl : L.length = ps.length := by rw [hL, List.length_map]
 rw [← hL]
 repeat' (simp (maxSteps := 4000000) (disch := omega) only [go_sem, ↓reduceIte, Try.f22])
 refine H2 (S := Nat) (fun i => i ≤ ps.length ∧ ∀ j (hj : j < i) (h2 : j < L.length), Bt3 (L[j]) = false)
  (fun i => ⟨[(12, .int .i64 (i : Nat)), (11, .int .i64 (ps.length : Nat)), (10, .raw (.slice ad ps.length cap)), (3, .int .i64 0), (2, .ptr 0 0), (0, .raw (.slice ad ps.length cap))], 1, [(0, some (.cells (D5 .u8 (fun _ => 0) 32) 45 (0, 0)))], B0, []⟩)
  (fun i => ps.length - i) 0 ⟨Nat.zero_le _, fun j hj => absurd hj (Nat.not_lt_zero j)⟩ (Weak.sub (A6 (by simp [wσ, go_sem, closed, A0, A4, hz32] <;> omega) (by simp [whs, Go.Ew.hget, go_sem, EObj.closed, closed, A0, A4, hz32]) (by first | (simp [*]; done) | (simp only [cxG]; omega)) rfl rfl (by simp))) ?_
 intro i ⟨hi, hbd⟩
 refine A2 1000 ?_
 rcases Nat.lt_or_ge i ps.length with hi2 | hi2
 ·have cA : decide ((i : Int) < (ps.length : Int)) = true := decide_eq_true (by omega)
  obtain ⟨l1, l3, l4, l6⟩ := h.lda hi2
  have hok := h.ok _ (List.getElem_mem hi2)
  have hLi : L[i]'(by omega) = (ps[i]).kv := by simp [hL]
  have hmem : (ps[i]).kv ∈ L := by rw [← hLi]; exact List.getElem_mem _
  obtain ⟨q, hq⟩ : ∃ q, q = ps[i] := ⟨_, rfl⟩
  rw [← hq] at l1 hok hLi hmem
  by_cases h1 : 64 < q.k.l.length
  ·have c1 : decide ((64 : Int) < (q.k.l.length : Int)) = true := decide_eq_true (by omega)
   have hE : rtE L = 2 := by
    rw [rtE, if_pos]
    exact List.any_eq_true.2 ⟨_, hmem, by simp [Bt3, Pr.kv, h1]⟩
   rw [rtH, hE, if_neg (by decide)]
   repeat' (first | with_reducible refine And.intro (by first | omega | (constructor <;> assumption) | (simp [*]; done)) ?_ | simp (maxSteps := 4000000) (disch := omega) only [go_sem, ↓reduceIte, cA, Int.toNat_natCast, l1, hsP, hoP, Pr.E, Bs.v, c1])
   first | exact ⟨BExt.refl _, (), rfl, by simp [closed, A0, hz32], trivial⟩ | exact ⟨(), by simp [closed, A0, hz32]⟩ | exact ⟨BExt.refl _, (), by simp [closed, A0, hz32]⟩
  ·have c1 : decide ((64 : Int) < (q.k.l.length : Int)) = false := decide_eq_false (by omega)
   by_cases h2 : 1048576 < q.v.l.length
   ·have c2 : decide ((1048576 : Int) < (q.v.l.length : Int)) = true := decide_eq_true (by omega)
    have hE : rtE L = 2 := by
     rw [rtE, if_pos]
     exact List.any_eq_true.2 ⟨_, hmem, by simp [Bt3, Pr.kv, h2]⟩
    rw [rtH, hE, if_neg (by decide)]
    repeat' (first | with_reducible refine And.intro (by first | omega | (constructor <;> assumption) | (simp [*]; done)) ?_ | simp (maxSteps := 4000000) (disch := omega) only [go_sem, ↓reduceIte, cA, Int.toNat_natCast, l1, hsP, hoP, Pr.E, Bs.v, c1, c2])
    first | exact ⟨BExt.refl _, (), rfl, by simp [closed, A0, hz32], trivial⟩ | exact ⟨(), by simp [closed, A0, hz32]⟩ | exact ⟨BExt.refl _, (), by simp [closed, A0, hz32]⟩
   ·have c2 : decide ((1048576 : Int) < (q.v.l.length : Int)) = false := decide_eq_false (by omega)
    repeat' (first | with_reducible refine And.intro (by first | omega | (constructor <;> assumption) | (simp [*]; done)) ?_ | simp (maxSteps := 4000000) (disch := omega) only [go_sem, ↓reduceIte, cA, Int.toNat_natCast, l1, hsP, hoP, Pr.E, Bs.v, c1, c2])
    refine ⟨i + 1, ⟨hi2, fun j hj hj2 => ?_⟩, Weak.sub (A6 (by simp [wσ, go_sem, closed, A0, A4, hz32] <;> omega) (by simp [whs, Go.Ew.hget, go_sem, EObj.closed, closed, A0, A4, hz32]) (by first | (simp [*]; done) | (simp only [cxG]; omega)) rfl rfl (by simp)), by omega⟩
    rcases Nat.lt_or_ge j i with h3 | h3
    ·exact hbd j h3 hj2
    ·obtain rfl : j = i := by omega
     rw [hLi]; simp [Bt3, Pr.kv, h1, h2]
 ·obtain rfl : i = ps.length := by omega
  have cA : decide ((ps.length : Int) < (ps.length : Int)) = false := decide_eq_false (by omega)
  have hbad : L.any Bt3 = false := by
   rw [List.any_eq_false]
   intro p hp
   obtain ⟨j, hj, rfl⟩ := List.getElem_of_mem hp
   rw [hbd j (by omega) hj]; simp
  repeat' (first | simp (maxSteps := 4000000) (disch := omega) only [go_sem, ↓reduceIte, cA] | with_reducible refine A2 1000 ?_)
  refine Bq6 rfl (A2 1000 ?_)
  repeat' (first | simp (maxSteps := 4000000) (disch := omega) only [go_sem, ↓reduceIte] | refine G8 (Ab7 B0) (by simp [closed, A0, A3, C6]) (A2 1000 ?_))
  refine Bh7 [] (Cw2 B0 .nilIface (.inl rfl)) (by simp [W6, ren, Ah7]) rfl (by simp) (by simp) (by simp) (by simp) (fun _ B1 hB1 _ => A2 1000 ?_)
  change BExt B0 B1 at hB1
  have htc : ∀ n rv, A0 n [EV.int .i64 1, EV.raw .nilIface, EV.raw rv] := fun n rv => by simp [A0, closed]
  simp only [Ar6, rho, ren, trO, EObj.ren, W6]
  repeat' (simp (maxSteps := 4000000) (disch := omega) only [go_sem, ↓reduceIte])
  refine H2 (S := Nat × Array MapEntry × Nat × Value × Base) (fun s => s.1 ≤ ps.length ∧ BExt B0 s.2.2.2.2 ∧ NdAt s.2.2.2.2 (rtN L s.1) s.2.2.2.1 ∧ SetS s.2.1 ((L.take s.1).map Prod.fst) ∧ ∀ j, j < s.1 → As7 L j = false)
   (fun s => ⟨[(33, .int .i64 (s.1 : Nat)), (32, .int .i64 (ps.length : Nat)), (31, .raw (.slice ad ps.length cap)), (7, .ptr 2 0), (6, .mp 1), (3, .int .i64 0), (2, .ptr 0 0)], 3, [(2, some (trO .nilIface s.2.2.2.1)), (1, some (.obj (.map s.2.1 s.2.2.1))), (0, some (.cells (D5 .u8 (fun _ => 0) 32) 45 (0, 0)))], s.2.2.2.2, []⟩)
   (fun s => ps.length - s.1) (0, #[], 0, .nilIface, B1) ⟨Nat.zero_le _, hB1, .nil, SetS.nil, fun j hj => absurd hj (Nat.not_lt_zero j)⟩ (Weak.sub (A6 (by simp [wσ, go_sem, closed, A0, A4, trO, hz32, clO, EObj.closed] <;> omega) (by simp [whs, Go.Ew.hget, go_sem, EObj.closed, closed, A0, A4, trO, hz32, clO, EObj.closed]) (by first | (simp [*]; done) | (simp only [cxG]; omega)) rfl rfl (by simp))) ?_
  rintro ⟨i, es, clock, rv, B2⟩ ⟨hi, hB2, hd, hes, hdu⟩
  simp only at hi hB2 hd hes hdu ⊢
  refine A2 1000 ?_
  rcases Nat.lt_or_ge i ps.length with hi2 | hi2
  ·have cA : decide ((i : Int) < (ps.length : Int)) = true := decide_eq_true (by omega)
   obtain ⟨l1, l3, l4, l6⟩ := (h.ext hB2).lda hi2
   have hok := (h.ext hB2).ok _ (List.getElem_mem hi2)
   have hLi : L[i]'(by omega) = (ps[i]).kv := by simp [hL]
   have hLg : L.getD i ([], []) = (ps[i]).kv := by simp [List.getD, hL, hi2]
   have hmem : (ps[i]).kv ∈ L := by rw [← hLi]; exact List.getElem_mem _
   have hag := Ay3 L hbad i (by omega) hdu
   have hdi : As7 L i = true ↔ ((ps[i]).k.l ∈ (L.take i).map Prod.fst ∨ (ps[i]).v.l = []) := by
    rw [As7, hLg, Bool.or_eq_true, decide_eq_true_eq, decide_eq_true_eq]; exact Iff.rfl
   have hnx : rtN L (i + 1) = T9 200 (rtN L i) (M0 (L.getD i ([], [])).1) (L.getD i ([], [])).2 := rfl
   have htk : L.take (i + 1) = L.take i ++ [L[i]'(by omega)] := List.take_succ_eq_append_getElem (by omega)
   rw [hLg] at hnx
   rw [hLi] at htk
   have hall : ∀ k ∈ (L.take i).map Prod.fst, k.length ≤ 64 := fun k hk => by
    obtain ⟨p, hp, rfl⟩ := List.mem_map.1 hk
    exact (Aw4 hbad (List.mem_of_mem_take hp)).1
   obtain ⟨q, hq⟩ : ∃ q, q = ps[i] := ⟨_, rfl⟩
   rw [← hq] at l1 hok hLi hmem hdi hnx htk
   have hsm := Aw4 hbad hmem
   simp only [Pr.kv] at hnx hsm htk
   have hkl := Dv2 q.k.l hsm.1
   repeat' (first | with_reducible refine And.intro (by first | omega | (constructor <;> assumption) | (simp [*]; done)) ?_ | simp (maxSteps := 4000000) (disch := omega) only [go_sem, ↓reduceIte, cA, Int.toNat_natCast, l1, hsP, hoP, Pr.E, Bs.v])
   refine Bv3 q.k.l rfl Try.underlying22 Try.underlying5 Try.underlying9 rfl rfl hok.1.b (A2 1000 ?_)
   repeat' (simp (maxSteps := 4000000) (disch := omega) only [go_sem, ↓reduceIte])
   by_cases hm : q.k.l ∈ (L.take i).map Prod.fst
   ·refine Bl8 (K := Bv1 q.k.l) (z := .int .i64 0) (v := .int .i64 1) rfl (WideMaps.string_law Try.underlying9) Try.underlying83 (fun w => by kernel_rfl) trivial trivial (.inr ⟨1, _, rfl, rfl⟩) rfl (fun bs => rfl) (hes.keys hall) hkl (fun hno => ?_) (fun e he hk => ?_) (A2 1000 ?_)
    ·obtain ⟨e, he, h3⟩ := hes.mem_of hm
     exact absurd h3 (hno e he)
    ·obtain ⟨k', hk', h4, h5⟩ := hes.of_mem he
     rw [h5]; rfl
    ·have hE : rtE L = 122 := by
      rw [rtE, hbad, Br6 (by omega : i < L.length) (hdi.2 (.inl hm))]; rfl
     rw [rtH, hE, if_neg (by decide)]
     repeat' (first | with_reducible refine And.intro (by omega) ?_ | simp (maxSteps := 4000000) (disch := omega) only [go_sem, ↓reduceIte])
     first | exact ⟨hB2, (), rfl, by simp [closed, A0, hz32], trivial⟩ | exact ⟨(), by simp [closed, A0, hz32]⟩ | exact ⟨hB2, (), by simp [closed, A0, hz32]⟩
   ·refine Bl8 (K := Bv1 q.k.l) (z := .int .i64 0) (v := .int .i64 0) rfl (WideMaps.string_law Try.underlying9) Try.underlying83 (fun w => by kernel_rfl) trivial trivial (.inr ⟨1, _, rfl, rfl⟩) rfl (fun bs => rfl) (hes.keys hall) hkl (fun hno => rfl) (fun e he hk => ?_) (A2 1000 ?_)
    ·obtain ⟨k', hk', h4, h5⟩ := hes.of_mem he
     exact absurd (Ax7 (h4.symm.trans hk) ▸ hk') hm
    ·by_cases h0 : q.v.l = []
     ·have hvl : q.v.l.length = 0 := by rw [h0]; rfl
      have c0 : (((q.v.l.length : Nat) : Int) == 0) = true := by rw [beq_iff_eq]; omega
      have hE : rtE L = 122 := by
       rw [rtE, hbad, Br6 (by omega : i < L.length) (hdi.2 (.inr h0))]; rfl
      rw [rtH, hE, if_neg (by decide)]
      repeat' (first | with_reducible refine And.intro (by omega) ?_ | simp (maxSteps := 4000000) (disch := omega) only [go_sem, ↓reduceIte, c0])
      first | exact ⟨hB2, (), rfl, by simp [closed, A0, hz32], trivial⟩ | exact ⟨(), by simp [closed, A0, hz32]⟩ | exact ⟨hB2, (), by simp [closed, A0, hz32]⟩
     ·have hvp : 0 < q.v.l.length := List.length_pos_iff.2 h0
      have c0 : (((q.v.l.length : Nat) : Int) == 0) = false := by rw [beq_eq_false_iff_ne]; omega
      have hdu' : As7 L i = false := by
       rw [Bool.eq_false_iff]; intro hh
       exact (hdi.1 hh).elim hm h0
      repeat' (first | with_reducible refine And.intro (by omega) ?_ | simp (maxSteps := 4000000) (disch := omega) only [go_sem, ↓reduceIte, c0])
      refine Bv3 q.k.l rfl Try.underlying22 Try.underlying5 Try.underlying9 rfl rfl hok.1.b (A2 1000 ?_)
      repeat' (simp (maxSteps := 4000000) (disch := omega) only [go_sem, ↓reduceIte])
      refine Bl8 (K := Bv1 q.k.l) (z := .int .i64 0) (v := .int .i64 0) rfl (WideMaps.string_law Try.underlying9) Try.underlying83 (fun w => by kernel_rfl) trivial trivial (.inr ⟨1, _, rfl, rfl⟩) rfl (fun bs => rfl) (hes.keys hall) hkl (fun hno => rfl) (fun e he hk => ?_) (A2 1000 ?_)
      ·obtain ⟨k', hk', h4, h5⟩ := hes.of_mem he
       exact absurd (Ax7 (h4.symm.trans hk) ▸ hk') hm
      ·repeat' (simp (maxSteps := 4000000) (disch := omega) only [go_sem, ↓reduceIte])
       refine Db2 (K := Bv1 q.k.l) (V := .int .i64 1) 1 rfl (WideMaps.string_law Try.underlying9) Try.underlying83 rfl rfl rfl (fun bs => rfl) (fun bs => rfl) rfl (hes.keys hall) hkl (fun es' clock' hs => A2 1000 ?_)
       repeat' (first | with_reducible refine And.intro (by omega) ?_ | simp (maxSteps := 4000000) (disch := omega) only [go_sem, ↓reduceIte])
       refine R7 2 (Ca2 (f := 200) B2 .nilIface rv hd (Cu7 hag) hok.1.b hok.2.b rfl rfl hsm.1 hvp hsm.2 (by rw [R6]; omega)) rfl (fun _ => by simp [closed, A0]) (E2 _ _) (fun _ => E2 _ _) (fun u B5 hB5 hR5 => A2 1000 ?_)
       change BExt B2 B5 at hB5
       rw [← hnx] at hR5
       have hes' := hes.set hm hs
       repeat' (simp (maxSteps := 4000000) (disch := omega) only [go_sem, ↓reduceIte])
       refine ⟨(i + 1, es', clock', u, B5), ⟨hi2, hB2.trans hB5, hR5, ?_, fun j hj => ?_⟩, Weak.sub (A6 (by simp [wσ, go_sem, closed, A0, A4, trO, hz32, htc, clO, EObj.closed] <;> omega) (by simp [whs, Go.Ew.hget, go_sem, EObj.closed, closed, A0, A4, trO, hz32, htc, clO, EObj.closed]) (by first | (simp [*]; done) | (simp only [cxG]; omega)) rfl rfl (by simp)), by simp only; omega⟩
       ·rw [htk, List.map_append]; exact hes'
       ·rcases Nat.lt_or_ge j i with h3 | h3
        ·exact hdu j h3
        ·obtain rfl : j = i := by omega
         exact hdu'
  ·obtain rfl : i = ps.length := by omega
   have cA : decide ((ps.length : Int) < (ps.length : Int)) = false := decide_eq_false (by omega)
   have hE : rtE L = 0 := by
    rw [rtE, hbad, Cs2 (fun j hj => hdu j (by omega))]; rfl
   have hH : rtH L = D5 .u8 (J1 (rtB L)) 32 := by rw [rtH, if_pos hE]
   have hB : rtB L = H6 (D6 (rtN L ps.length)) := by rw [rtB, hLl]
   rw [hH, hE, hB]
   repeat' (first | simp (maxSteps := 4000000) (disch := omega) only [go_sem, ↓reduceIte, cA] | with_reducible refine A2 1000 ?_)
   refine R7 2 (Cz5 B2 .nilIface rv hd) rfl (fun _ => by simp [closed, A0, hcl]) (E2 _ _) (fun _ => E2 _ _) (fun u B5 hB5 hR5 => A2 1000 ?_)
   change BExt B2 B5 at hB5
   repeat' (simp (maxSteps := 4000000) (disch := omega) only [go_sem, ↓reduceIte, hsp])
   first | exact ⟨(), by simp [closed, A0, hcl]⟩ | exact ⟨hB2.trans hB5, (), rfl, by simp [closed, A0, hcl], trivial⟩ | exact ⟨hB2.trans hB5, (), by simp [closed, A0, hcl]⟩
end Go.Proofs.Ytncjbfkkgdepoaa
