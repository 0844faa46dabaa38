/- Part of a proof over the seat YtepabkjfnpaijaaGreat. -/
import Derived.Test.YtepabkjfnpaijaaGreatUI
import Derived.Test.YtepabkjfnpaijaaGreatG11
import Derived.Test.YtepabkjfnpaijaaGreatSJ
set_option linter.unusedSimpArgs false
set_option linter.unusedVariables false
set_option maxRecDepth 100000
namespace Go.Proofs.YtepabkjfnpaijaaGreat
open Go RowKit Go.Ew
set_option maxHeartbeats 16000000
theorem Ek4 : D5 Tryz.f32.ntmps (Tryz.f32.body.getD .skip) = true := by kernel_rfl
theorem Em3 : D5 Tryz.f12.ntmps (Tryz.f12.body.getD .skip) = true := by kernel_rfl
def Ae4 (f : Nat) (M : List KV) : Nd := if M = [] then .nil else Ae7 f (Aw4 M) 0
def Cw5 (f : Nat) (M : List KV) : List KV := if M = [] then [] else Cv2 (Bc4 (Ae4 f M) ++ [(Ao9 (H5 (E3 (Ae4 f M))), H5 (E3 (Ae4 f M)))])
theorem Cb4 {ps : List Pr} {i : Nat} (hi : i < ps.length) : Aw4 ((ps.take (i + 1)).map Pr.kv) = Aw4 ((ps.take i).map Pr.kv) ++ [(N5 ps[i].k.l, ps[i].v.l)] := by
 rw [List.take_succ_eq_append_getElem hi, List.map_append, Aw4, List.map_append]; rfl
theorem Cw4 (f : Nat) (M : List KV) (h : ∀ p ∈ M, p.1.length ≤ 500000000 ∧ p.2.length ≤ 1073741824) : smN (Ae4 f M) := by
 unfold Ae4
 split
 ·trivial
 ·refine Bx8 f _ 0 fun p hp => ?_
  obtain ⟨q, hq, rfl⟩ := List.mem_map.1 hp
  have := h q hq
  have hl := Z9 q.1
  exact ⟨by simp only; omega, this.2⟩
theorem Db7 {B : Base} (f : Nat) (ps : List Pr) (n : Nat) (ad : Option Addr) (cap : Nat) (h : PrsAt B ad ps) (hn : ps.length = n) (hM : ps = [] ∨ MOk f (Aw4 (ps.map Pr.kv)) 0) (hsz : ∀ p ∈ ps.map Pr.kv, p.1.length ≤ 500000000 ∧ p.2.length ≤ 1073741824) (hcnt : ps.length * f ≤ 1099511627000) :
  Does Tryz.prog 32 [.raw (.slice ad n cap)] B (fun s : Option Addr × Nat × List Nv => .tup [.agg (D4 .u8 (K0 (H5 (E3 (Ae4 f (ps.map Pr.kv))))) 32), .raw (.slice s.1 s.2.2.length s.2.1)])
   (fun s B' => NvsAt B' s.1 s.2.2 ∧ s.2.2.length ≤ s.2.1 ∧ s.2.2.map Nv.nd = Cw5 f (ps.map Pr.kv)) := by
 subst hn
 refine I7 Er2 (fun s B B' hB hR => ⟨hR.1.ext hB, hR.2⟩) Tryz.func32 rfl Ek4 (by simp [Tryz.f32]) (by simp [A0, closed]) (fun B0 hB0 => A3 1000 ?_)
 replace h := h.ext hB0
 have hlen := h.len
 have hcl : ∀ p n, A0 n (D4 .u8 (K0 p) 32) := fun p n => A2 _ _ _ _
 have hsp : ∀ p, I3 (D4 .u8 (fun _ => 0) 32) 0 (D4 .u8 (K0 p) 32) = D4 .u8 (K0 p) 32 := fun p => by rw [← O6]; exact J6 (K6 _) (by omega) _
 have hsmT := Cw4 f _ hsz
 by_cases h0 : ps = []
 ·subst h0
  have hfe : H5 (E3 (Ae4 f [])) = [128] := rfl
  simp only [List.map_nil, hfe]
  have hrn : Cw5 f [] = [] := rfl
  rw [hrn]
  repeat' (first | simp (maxSteps := 4000000) (disch := omega) only [go_sem, ↓reduceIte, Tryz.f32, List.length_nil, hsp] | refine F5 (Ch0 B0) (by simp [closed, A0, A2, C6]) (A3 1000 ?_))
  exact ⟨BExt.refl _, (none, 0, []), rfl, by simp [closed, A0, hcl], ⟨Y3 _ _, fun q hq => by simp at hq, by simp⟩, by simp, rfl⟩
 ·have hMo : MOk f (Aw4 (ps.map Pr.kv)) 0 := hM.resolve_left h0
  have hpl : 0 < ps.length := List.length_pos_iff.2 h0
  obtain ⟨M, hMe⟩ : ∃ M, M = ps.map Pr.kv := ⟨_, rfl⟩
  have hMn : M ≠ [] := by rw [hMe]; simpa using h0
  have hMl : M.length = ps.length := by rw [hMe, List.length_map]
  rw [← hMe] at hMo hsz hsmT ⊢
  have hrt : Ae4 f M = Ae7 f (Aw4 M) 0 := by rw [Ae4, if_neg hMn]
  have hrn : Cw5 f M = Cv2 (Bc4 (Ae4 f M) ++ [(Ao9 (H5 (E3 (Ae4 f M))), H5 (E3 (Ae4 f M)))]) := by rw [Cw5, if_neg hMn]
  rw [hrn]
  have c0 : (((ps.length : Nat) : Int) == 0) = false := by rw [beq_eq_false_iff_ne]; omega
  have eN : ∀ r n, lE r n none = .raw (.slice none 0 0) := fun _ _ => rfl
  have oN : ∀ T xs, lO T xs none = none := fun _ _ => rfl
  have cn : ∀ n, clO n (none : Option EObj) = True := fun n => by simp [clO]
  have hz32 : ∀ n, A0 n (D4 .u8 (fun _ => 0) 32) := fun n => A2 _ _ _ _
  repeat' (simp (maxSteps := 4000000) (disch := omega) only [go_sem, ↓reduceIte, Tryz.f32, c0])
  refine G8 (S := Nat × List Bs × List Bs × Lst × Lst × Base) (fun s => s.1 ≤ ps.length ∧ s.2.1.length = s.1 ∧ s.2.2.1.length = s.1 ∧ lOk zS s.1 s.2.2.2.1 ∧ lOk zS s.1 s.2.2.2.2.1 ∧ BExt B0 s.2.2.2.2.2 ∧ (∀ q ∈ s.2.1, q.Ok s.2.2.2.2.2) ∧ (∀ q ∈ s.2.2.1, q.Ok s.2.2.2.2.2) ∧ Am9 s.2.1 s.2.2.1 = Aw4 ((ps.take s.1).map Pr.kv))
   (fun s => ⟨[(6, .int .i64 (s.1 : Nat)), (5, lE 2 s.1 s.2.2.2.2.1), (4, lE 1 s.1 s.2.2.2.1), (2, .ptr 0 0), (0, .raw (.slice ad ps.length cap))], 3, [(2, lO 39 (s.2.2.1.map bsE) s.2.2.2.2.1), (1, lO 39 (s.2.1.map bsE) s.2.2.2.1), (0, some (.cells (D4 .u8 (fun _ => 0) 32) 32 (0, 0)))], s.2.2.2.2.2, []⟩)
   (fun s => ps.length - s.1) (0, [], [], none, none, B0) ⟨Nat.zero_le _, rfl, rfl, rfl, rfl, BExt.refl _, by simp, by simp, rfl⟩ (Weak.sub (A5 (by simp [wσ, go_sem, closed, A0, A4, eN, oN, cn, hz32] <;> omega) (by simp [whs, Go.Ew.hget, go_sem, EObj.closed, closed, A0, A4, eN, oN, cn, hz32]) (by first | (simp [*]; done) | (simp only [cxG]; omega)) rfl rfl (by simp))) ?_
  rintro ⟨i, ks, vs, lk, lv, B2⟩ ⟨hi, hkl, hvl, hlk, hlv, hB2, hko, hvo, hz⟩
  simp only at hi hkl hvl hlk hlv hB2 hko hvo hz ⊢
  have hclK : ∀ n, clO n (lO 39 (ks.map bsE) lk) = True := fun n => G0 hlk (G3 0 _) H3
  have hclV : ∀ n, clO n (lO 39 (vs.map bsE) lv) = True := fun n => G0 hlv (G3 0 _) H3
  have hFv : ∀ i b, fzO i b (lO 39 (vs.map bsE) lv) = lO 39 (vs.map bsE) lv := fun i b => Ab3 hlv (G3 0 _) H3
  have hFk : ∀ i b, fzO i b (lO 39 (ks.map bsE) lk) = lO 39 (ks.map bsE) lk := fun i b => Ab3 hlk (G3 0 _) H3
  rcases Nat.lt_or_ge i ps.length with hi2 | hi2
  ·have cA : decide ((i : Int) < (ps.length : Int)) = true := decide_eq_true (by omega)
   obtain ⟨l1, l2, l3, l4, l5, l6⟩ := (h.ext hB2).ld hi2
   have hok := (h.ext hB2).ok _ (List.getElem_mem hi2)
   have hnt := Cb4 hi2
   have hps : (ps[i]).k.l.length ≤ 500000000 := (hsz (ps[i]).kv (by rw [hMe]; exact List.mem_map_of_mem (List.getElem_mem hi2))).1
   obtain ⟨q, hq⟩ : ∃ q, q = ps[i] := ⟨_, rfl⟩
   rw [← hq] at l1 l2 hok hnt hps
   have hnl := Z9 q.k.l
   refine A3 1000 ?_
   repeat' (first | with_reducible refine And.intro (by first | omega | (constructor <;> assumption) | (simp [*]; done)) ?_ | simp (maxSteps := 4000000) (disch := omega) only [go_sem, ↓reduceIte, cA, Int.toNat_natCast, l1])
   refine F9 (Bo4 q.k.l q.k.l.length _ q.k.ad q.k.c hok.1.b rfl hok.1.m) (fun _ => by simp [closed]) (fun s3 B3 hB3 hR3 => A3 1000 ?_)
   change BExt B2 B3 at hB3
   obtain ⟨N, hN⟩ : ∃ N : Bs, N = ⟨N5 q.k.l, s3.1, s3.2⟩ := ⟨_, rfl⟩
   have hNok : N.Ok B3 := by rw [hN]; exact ⟨hR3.1, hR3.2, by simp only; omega⟩
   have hNv : [N].map bsE = [.raw (.slice s3.1 (N5 q.k.l).length s3.2)] := by rw [hN]; rfl
   obtain ⟨k1, k2, k3, k4, k5, k6⟩ := ((h.ext hB2).ext hB3).ld hi2
   rw [← hq] at k1 k2
   repeat' (first | with_reducible refine And.intro (by first | omega | (simp; done)) ?_ | simp (maxSteps := 4000000) (disch := omega) only [go_sem, ↓reduceIte])
   refine Dn6 rfl (l := lk) (xs := ks) 1 i [N] 1 rfl hkl rfl rfl rfl hlk ⟨_, F3 (m := 1) rfl (by rw [hNv]; rfl), by simp⟩ (by omega) (fun l5 hl5 => A3 1000 ?_)
   repeat' (first | with_reducible refine And.intro (by first | omega | (constructor <;> assumption) | (simp; done) | (simp [*]; done)) ?_ | simp (maxSteps := 4000000) (disch := omega) only [go_sem, ↓reduceIte, Int.toNat_natCast, k2])
   refine Dn6 rfl (l := lv) (xs := vs) 2 i [q.v] 1 rfl hvl rfl rfl rfl hlv ⟨_, F3 (m := 1) rfl rfl, by simp⟩ (by omega) (fun l6 hl6 => A3 1000 ?_)
   have hl5' := hl5
   have hl6' := hl6
   obtain ⟨cp5, rest5, rfl, -⟩ := D8 hl5 (by omega)
   obtain ⟨cp6, rest6, rfl, -⟩ := D8 hl6 (by omega)
   simp only [A6]
   repeat' (simp (maxSteps := 4000000) (disch := omega) only [go_sem, ↓reduceIte])
   have cl5 : ∀ n, clO n (lO 39 ((ks ++ [N]).map bsE) (some (cp5, rest5))) = True := fun n => G0 hl5' (G3 0 _) H3
   have cl6 : ∀ n, clO n (lO 39 ((vs ++ [q.v]).map bsE) (some (cp6, rest6))) = True := fun n => G0 hl6' (G3 0 _) H3
   obtain ⟨ks2, hks2⟩ : ∃ a, a = ks ++ [N] := ⟨_, rfl⟩
   obtain ⟨vs2, hvs2⟩ : ∃ a, a = vs ++ [q.v] := ⟨_, rfl⟩
   rw [← hks2] at cl5
   rw [← hvs2] at cl6
   rw [← hks2, ← hvs2]
   refine ⟨(i + 1, ks2, vs2, some (cp5, rest5), some (cp6, rest6), B3), ⟨hi2, by rw [hks2]; simp [hkl], by rw [hvs2]; simp [hvl], hl5', hl6', hB2.trans hB3, fun a ha => ?_, fun a ha => ?_, ?_⟩, (M7 [4, 6] 1 (by simp) (by simp) (by simp [cxG]) (by simp)).trans ?_, by simp only; omega⟩
   ·rw [hks2] at ha
    rcases List.mem_append.1 ha with h3 | h3
    ·exact (hko a h3).ext hB3
    ·obtain rfl := List.mem_singleton.1 h3; exact hNok
   ·rw [hvs2] at ha
    rcases List.mem_append.1 ha with h3 | h3
    ·exact (hvo a h3).ext hB3
    ·obtain rfl := List.mem_singleton.1 h3; exact hok.2.ext hB3
   ·simp only
    rw [hnt, ← hz, hks2, hvs2, hN]
    have key : ∀ (a b : List Bs) (x y : Bs), a.length = b.length → Am9 (a ++ [x]) (b ++ [y]) = Am9 a b ++ [(x.l, y.l)] := fun a b x y hab => by
     rw [Am9, List.zipWith_append hab]; rfl
    exact key _ _ _ _ (by rw [hkl, hvl])
   ·simp only [go_sem, okC, okE, O8, M1, E6, E1, F4 (ks := [4, 6]) (k := 1) hl5' (G3 0 ks2) H3, F4 (ks := [4, 6]) (k := 1) hl6' (G3 0 vs2) H3, A6]
    exact Weak.sub (A5 (by simp [wσ, go_sem, closed, A0, A4, cl5, cl6, A6, hz32] <;> omega) (by simp [whs, Go.Ew.hget, go_sem, EObj.closed, closed, A0, A4, cl5, cl6, A6, hz32]) (by first | (simp [*]; done) | (simp only [cxG]; omega)) rfl rfl (by simp))
  ·obtain rfl : i = ps.length := by omega
   have cA : decide ((ps.length : Int) < (ps.length : Int)) = false := decide_eq_false (by omega)
   rw [List.take_of_length_le (Nat.le_refl _), ← hMe] at hz
   refine Am2 (xs := ks) (T := 39) 1 ps.length rfl hkl hlk (by simp) (fun b7 ad7 cap7 B4 hB4 hfz7 hC7 hcap7 => ?_)
   change BExt B2 B4 at hB4
   simp only [frzσ, frz, hfz7, Ab5 (show (2 : Nat) ≠ 1 by omega), hFv, hFk, I6, L3, S1, EObj.frz, At0, Nat.reduceEqDiff, if_false, if_true, ↓reduceIte]
   refine Am2 (xs := vs) (T := 39) 2 ps.length rfl hvl hlv (by simp) (fun b8 ad8 cap8 B5 hB5 hfz8 hC8 hcap8 => A3 1000 ?_)
   change BExt B4 B5 at hB5
   simp only [frzσ, frz, hfz8, hFv, hFk, I6, L3, S1, EObj.frz, At0, Nat.reduceEqDiff, if_false, if_true, ↓reduceIte]
   have hB45 := hB4.trans hB5
   have hKat : BssAt B5 ad7 ks := ⟨hC7.ext hB5, fun q hq => (hko q hq).ext hB45, by omega⟩
   have hVat : BssAt B5 ad8 vs := ⟨hC8, fun q hq => (hvo q hq).ext hB45, by omega⟩
   have hin : NIn f ks vs 0 [] none := ⟨by omega, by rw [hz]; exact hMo, by
    rw [hz]
    intro p hp
    obtain ⟨q, hq, rfl⟩ := List.mem_map.1 hp
    have := hsz q hq
    have hl := Z9 q.1
    exact ⟨by simp only; omega, this.2⟩, by
    have h1 := Bs4 f (Aw4 M) 0 (by simpa [Aw4] using hMn)
    rw [hz]
    rw [Aw4, List.length_map, hMl, ← Aw4] at h1
    simp only [List.length_nil]; omega, by simp, rfl⟩
   have hrec := fun B hB => Cw6 f ks vs ad7 ad8 cap7 cap8 ps.length 0 B [] none (hKat.ext hB) (hVat.ext hB) hkl hin
   rw [hz, ← hrt] at hrec
   obtain ⟨T, hT⟩ : ∃ T, T = Ae4 f M := ⟨_, rfl⟩
   rw [← hT] at hrec hsmT ⊢
   have hsk := Br0 hsmT
   repeat' (first | simp (maxSteps := 4000000) (disch := omega) only [go_sem, ↓reduceIte, cA] | with_reducible refine A3 1000 ?_)
   refine Au3 3 99 (hrec _ (BExt.refl _)) rfl rfl (by decide) rfl trivial D9 (by simp [A0, closed]) (fun _ => by simp [closed, A0]) (fun u B6 hB6 hR6 hl6 hx6 => A3 1000 ?_)
   change BExt B5 B6 at hB6
   obtain ⟨hi6, hm6, hk6⟩ := hR6
   repeat' (simp (maxSteps := 4000000) (disch := omega) only [go_sem, ↓reduceIte])
   refine F9 (Bb9 hi6 (Da7 T) (by omega)) (fun _ => by simp [closed, A0]) (fun s7 B7 hB7 hR7 => A3 1000 ?_)
   change BExt B6 B7 at hB7
   obtain ⟨p, hp⟩ : ∃ p, p = H5 (E3 T) := ⟨_, rfl⟩
   rw [← hp] at hsk hR7 ⊢
   repeat' (simp (maxSteps := 4000000) (disch := omega) only [go_sem, ↓reduceIte])
   refine F9 (Bq9 p p.length _ s7.1 s7.2 hR7.1 rfl (by omega)) (fun _ => hcl _ _) (fun s8 B8 hB8 hR8 => A3 1000 ?_)
   change BExt B7 B8 at hB8
   obtain ⟨u1, u2, u3⟩ := u
   simp only [List.nil_append] at hi6 hm6 hk6 hl6 hx6 ⊢
   obtain ⟨N, hN⟩ : ∃ N : Nv, N = ⟨Ao9 p, ⟨p, s7.1, s7.2⟩⟩ := ⟨_, rfl⟩
   have hNh : N.h.length = 32 := by rw [hN]; exact K6 p
   have hNb : N.b.Ok B8 := by rw [hN]; exact ⟨hR7.1.ext hB8, hR7.2, by simp only; omega⟩
   have hNd : N.nd = (Ao9 p, p) := by rw [hN]; rfl
   have hNE : N.E = (D4 .u8 (K0 p) 32 ++ [EV.raw (.slice s7.1 p.length s7.2)]) := by rw [hN, ← O6]; rfl
   have hs33 : I3 [EV.int IntKind.u8 0, EV.int IntKind.u8 0, EV.int IntKind.u8 0, EV.int IntKind.u8 0, EV.int IntKind.u8 0, EV.int IntKind.u8 0, EV.int IntKind.u8 0, EV.int IntKind.u8 0, EV.int IntKind.u8 0, EV.int IntKind.u8 0, EV.int IntKind.u8 0, EV.int IntKind.u8 0, EV.int IntKind.u8 0, EV.int IntKind.u8 0, EV.int IntKind.u8 0, EV.int IntKind.u8 0, EV.int IntKind.u8 0, EV.int IntKind.u8 0, EV.int IntKind.u8 0, EV.int IntKind.u8 0, EV.int IntKind.u8 0, EV.int IntKind.u8 0, EV.int IntKind.u8 0, EV.int IntKind.u8 0, EV.int IntKind.u8 0, EV.int IntKind.u8 0, EV.int IntKind.u8 0, EV.int IntKind.u8 0, EV.int IntKind.u8 0, EV.int IntKind.u8 0, EV.int IntKind.u8 0, EV.int IntKind.u8 0, EV.raw (Value.slice none 0 0)] 0 (D4 .u8 (K0 p) 32) = D4 .u8 (K0 p) 32 ++ [.raw (.slice none 0 0)] := by rfl
   have hl33 : ∀ v, (D4 .u8 (K0 p) 32 ++ [v]).length = 33 := fun v => by simp [D4]
   have ht33 : (D4 .u8 (K0 p) 32 ++ [EV.raw (.slice none 0 0)]).set 32 (.raw (.slice s7.1 p.length s7.2)) = (D4 .u8 (K0 p) 32 ++ [EV.raw (.slice s7.1 p.length s7.2)]) := by rfl
   have hNl : (D4 .u8 (K0 p) 32 ++ [EV.raw (.slice s7.1 p.length s7.2)]).length = 33 := hl33 _
   have hNc : ∀ n, A0 n (D4 .u8 (K0 p) 32 ++ [EV.raw (.slice s7.1 p.length s7.2)]) := fun n => by rw [← hNE]; exact X6 n N
   have hNo : F7 (D4 .u8 (K0 p) 32 ++ [EV.raw (.slice s7.1 p.length s7.2)]) = true := by rw [← hNE]; exact Ac3 N
   have hsN : I3 [EV.int IntKind.u8 0, EV.int IntKind.u8 0, EV.int IntKind.u8 0, EV.int IntKind.u8 0, EV.int IntKind.u8 0, EV.int IntKind.u8 0, EV.int IntKind.u8 0, EV.int IntKind.u8 0, EV.int IntKind.u8 0, EV.int IntKind.u8 0, EV.int IntKind.u8 0, EV.int IntKind.u8 0, EV.int IntKind.u8 0, EV.int IntKind.u8 0, EV.int IntKind.u8 0, EV.int IntKind.u8 0, EV.int IntKind.u8 0, EV.int IntKind.u8 0, EV.int IntKind.u8 0, EV.int IntKind.u8 0, EV.int IntKind.u8 0, EV.int IntKind.u8 0, EV.int IntKind.u8 0, EV.int IntKind.u8 0, EV.int IntKind.u8 0, EV.int IntKind.u8 0, EV.int IntKind.u8 0, EV.int IntKind.u8 0, EV.int IntKind.u8 0, EV.int IntKind.u8 0, EV.int IntKind.u8 0, EV.int IntKind.u8 0, EV.raw (Value.slice none 0 0)] 0 (D4 .u8 (K0 p) 32 ++ [EV.raw (.slice s7.1 p.length s7.2)]) = (D4 .u8 (K0 p) 32 ++ [EV.raw (.slice s7.1 p.length s7.2)]) := by rfl
   have havN : avs 100058 (D4 .u8 (K0 p) 32 ++ [EV.raw (.slice s7.1 p.length s7.2)]) := L4 _ (hNc 0)
   have hfl : u2.flatMap Nv.E ++ (D4 .u8 (K0 p) 32 ++ [EV.raw (.slice s7.1 p.length s7.2)]) = (u2 ++ [N]).flatMap Nv.E := by rw [← hNE]; simp
   have hu32 : ∀ q ∈ u2 ++ [N], q.h.length = 32 ∧ q.b.Ok B8 := fun q hq => by
    rcases List.mem_append.1 hq with h3 | h3
    ·exact ⟨(hk6 q h3).1, ((hk6 q h3).2.ext hB7).ext hB8⟩
    ·obtain rfl := List.mem_singleton.1 h3; exact ⟨hNh, hNb⟩
   have hxl : (u2.flatMap Nv.E).length = u2.length * zN.length := by rw [Z8 fun q hq => (hk6 q hq).1]; rfl
   have hul : u2.length < 1099511627776 := by
    have h1 := As4 T
    rw [List.length_append, ← hm6, List.length_map] at h1
    have h2 := hin.cnt
    rw [hz, ← hrt, ← hT] at h2
    simp only [List.length_nil] at h2
    omega
   have hnd2 : (u2 ++ [N]).map Nv.nd = Bc4 T ++ [(Ao9 p, p)] := by rw [List.map_append, hm6, List.map_singleton, hNd]
   rcases u3 with _ | ⟨cpu, ru⟩
   ·simp only [bO, eN, oN]
    repeat' (first | with_reducible refine And.intro (by first | omega | (simp; omega)) ?_ | simp (maxSteps := 4000000) (disch := omega) only [go_sem, ↓reduceIte, hsp, hs33, hl33, ht33, hNl, hsN] | with_reducible refine C9 (id := 12) [0, 1, 2, 3, 4, 5, 6, 7, 8, 9, 10, 11, 12] mixed (by kernel_rfl) (by simp) (fun hin => C8 1000 hin ?_))
    refine Av1 (l := none) (xs := u2.flatMap Nv.E) (m := 1) (b' := .sl 100058 0 1 1) (news := (D4 .u8 (K0 p) 32 ++ [EV.raw (.slice s7.1 p.length s7.2)])) (zs := zN) (c := True) (T := 114) 59 4 u2.length [100058] rfl rfl Tryz.underlying75 (.inl ⟨_, Tryz.underlying75⟩) Ba8 Be1 (by simp [zN]) D9 rfl rfl rfl hl6 hxl (E4 0 _) (fun B hs hB hfb => ⟨_, F3 (m := 1) (by rw [hfb 100058 (by simp)]; rfl) (by rw [List.drop_zero, List.take_of_length_le (by rw [hNl]; decide)]), by rw [hNl]; decide⟩) hNo (hNc 0) (by simp only [maxLen]; omega) (by rw [show Tryz.prog.bytesOf 114 = 56 from Be9]; omega) (by simp [cxG]) (by kernel_rfl) (F1 (by kernel_rfl) (C1 (by kernel_rfl))) (fun l3 hl3 => C8 1000 (by assumption) ?_)
    have hl3' := hl3
    have hE3 := M0 (T := 114) hl3 (closeds_append.2 ⟨E4 0 u2, hNc 0⟩) D9
    obtain ⟨cp, rest, rfl, -⟩ := D8 hl3 (by omega)
    simp only [A6]
    repeat' (simp (maxSteps := 4000000) (disch := omega) only [go_sem, ↓reduceIte])
    have hln : u2.length + 1 = (u2 ++ [N]).length := by simp
    refine M9 (vf := fun s : Option Addr × Nat × List Nv => .raw (.slice s.1 s.2.2.length s.2.1)) 100059 0 (u2.length + 1) cp [] ((u2 ++ [N]).flatMap Nv.C) Dy6 rfl rfl (by
     rw [Bj0, ← hfl, List.drop_zero, show ((u2 ++ [N]).flatMap Nv.C).length = (u2.flatMap Nv.E ++ (D4 .u8 (K0 p) 32 ++ [EV.raw (.slice s7.1 p.length s7.2)])).length by rw [hfl, Al2 fun q hq => (hu32 q hq).1, Z8 fun q hq => (hu32 q hq).1], List.take_left]) (fun s => by simp [closed]) (fun B ad cap hB hC => Bg6 (u2 ++ [N]) (u2.length + 1) ad cap ⟨hC, fun q hq => ⟨(hu32 q hq).1, (hu32 q hq).2.ext hB⟩, by rw [← hln]; omega⟩ hln.symm) (by kernel_rfl) (F1 (by kernel_rfl) ((J9 [100059] (by kernel_rfl) (by with_unfolding_all (repeat' (first | exact True.intro | exact I0 | exact hE3 | refine And.intro ?_ ?_)))))) (fun hin3 s9 B9 hB9 hR9 => C8 1000 hin3 ?_)
    change BExt B8 B9 at hB9
    rw [hnd2] at hR9
    repeat' (first | simp (maxSteps := 4000000) (disch := omega) only [go_sem, ↓reduceIte, hsp] | with_reducible refine D7 (by kernel_rfl) ((J9 [100059] (by kernel_rfl) (by with_unfolding_all (repeat' (first | exact True.intro | exact I0 | exact hE3 | refine And.intro ?_ ?_))))) (A3 1000 ?_))
    have hBX := hB2.trans (hB45.trans (hB6.trans (hB7.trans (hB8.trans hB9))))
    first | exact ⟨hBX, s9, rfl, by simp [closed, A0, hcl], hR9⟩ | exact ⟨s9, rfl, by simp [closed, A0, hcl], hR9⟩
   ·simp only [bO, A6]
    repeat' (first | with_reducible refine And.intro (by first | omega | (simp; omega)) ?_ | simp (maxSteps := 4000000) (disch := omega) only [go_sem, ↓reduceIte, hsp, hs33, hl33, ht33, hNl, hsN] | with_reducible refine C9 (id := 12) [0, 1, 2, 3, 4, 5, 6, 7, 8, 9, 10, 11, 12] mixed (by kernel_rfl) (by simp) (fun hin => C8 1000 hin ?_))
    refine Av1 (l := some (cpu, ru)) (xs := u2.flatMap Nv.E) (m := 1) (b' := .sl 100058 0 1 1) (news := (D4 .u8 (K0 p) 32 ++ [EV.raw (.slice s7.1 p.length s7.2)])) (zs := zN) (c := True) (T := 114) 59 4 u2.length [100058] rfl rfl Tryz.underlying75 (.inl ⟨_, Tryz.underlying75⟩) Ba8 Be1 (by simp [zN]) D9 rfl rfl rfl hl6 hxl (E4 0 _) (fun B hs hB hfb => ⟨_, F3 (m := 1) (by rw [hfb 100058 (by simp)]; rfl) (by rw [List.drop_zero, List.take_of_length_le (by rw [hNl]; decide)]), by rw [hNl]; decide⟩) hNo (hNc 0) (by simp only [maxLen]; omega) (by rw [show Tryz.prog.bytesOf 114 = 56 from Be9]; omega) (by simp [cxG]) (by kernel_rfl) (F1 (by kernel_rfl) (C1 (by kernel_rfl))) (fun l3 hl3 => C8 1000 (by assumption) ?_)
    have hl3' := hl3
    have hE3 := M0 (T := 114) hl3 (closeds_append.2 ⟨E4 0 u2, hNc 0⟩) D9
    obtain ⟨cp, rest, rfl, -⟩ := D8 hl3 (by omega)
    simp only [A6]
    repeat' (simp (maxSteps := 4000000) (disch := omega) only [go_sem, ↓reduceIte])
    have hln : u2.length + 1 = (u2 ++ [N]).length := by simp
    refine M9 (vf := fun s : Option Addr × Nat × List Nv => .raw (.slice s.1 s.2.2.length s.2.1)) 100059 0 (u2.length + 1) cp [] ((u2 ++ [N]).flatMap Nv.C) Dy6 rfl rfl (by
     rw [Bj0, ← hfl, List.drop_zero, show ((u2 ++ [N]).flatMap Nv.C).length = (u2.flatMap Nv.E ++ (D4 .u8 (K0 p) 32 ++ [EV.raw (.slice s7.1 p.length s7.2)])).length by rw [hfl, Al2 fun q hq => (hu32 q hq).1, Z8 fun q hq => (hu32 q hq).1], List.take_left]) (fun s => by simp [closed]) (fun B ad cap hB hC => Bg6 (u2 ++ [N]) (u2.length + 1) ad cap ⟨hC, fun q hq => ⟨(hu32 q hq).1, (hu32 q hq).2.ext hB⟩, by rw [← hln]; omega⟩ hln.symm) (by kernel_rfl) (F1 (by kernel_rfl) ((J9 [100059] (by kernel_rfl) (by with_unfolding_all (repeat' (first | exact True.intro | exact I0 | exact hE3 | refine And.intro ?_ ?_)))))) (fun hin3 s9 B9 hB9 hR9 => C8 1000 hin3 ?_)
    change BExt B8 B9 at hB9
    rw [hnd2] at hR9
    repeat' (first | simp (maxSteps := 4000000) (disch := omega) only [go_sem, ↓reduceIte, hsp] | with_reducible refine D7 (by kernel_rfl) ((J9 [100059] (by kernel_rfl) (by with_unfolding_all (repeat' (first | exact True.intro | exact I0 | exact hE3 | refine And.intro ?_ ?_))))) (A3 1000 ?_))
    have hBX := hB2.trans (hB45.trans (hB6.trans (hB7.trans (hB8.trans hB9))))
    first | exact ⟨hBX, s9, rfl, by simp [closed, A0, hcl], hR9⟩ | exact ⟨s9, rfl, by simp [closed, A0, hcl], hR9⟩
end Go.Proofs.YtepabkjfnpaijaaGreat
namespace Go.Proofs.YtepabkjfnpaijaaGreat
open Go RowKit Go.Ew
set_option maxHeartbeats 16000000
theorem As5 (l : List (List UInt8)) : ∀ n, ∀ p ∈ lrM l n, ∃ i, i < n ∧ p.1 = Ce3 i ∧ p.2.length ≤ 1048576
 | 0, p, h => by simp [lrM] at h
 | n + 1, p, h => by
  rw [lrM] at h
  split at h
  ·rename_i hv
   rw [Av5] at h
   rcases List.mem_append.1 h with h | h
   ·rcases List.mem_append.1 h with h | h
    ·obtain ⟨i, h1, h2⟩ := As5 l n p (List.mem_of_mem_take h)
     exact ⟨i, by omega, h2⟩
    ·split at h
     ·simp at h
     ·obtain rfl := List.mem_singleton.1 h
      exact ⟨n, by omega, rfl, (Ci0 hv).2⟩
   ·obtain ⟨i, h1, h2⟩ := As5 l n p (List.mem_of_mem_drop h)
    exact ⟨i, by omega, h2⟩
  ·obtain ⟨i, h1, h2⟩ := As5 l n p h
   exact ⟨i, by omega, h2⟩
theorem Ck2 (l : List (List UInt8)) : ∀ n, (lrM l n).length ≤ n
 | 0 => by simp [lrM]
 | n + 1 => by
  have := Ck2 l n
  rw [lrM]
  split
  ·exact Nat.le_trans (Cx4 _ _ _) (by omega)
  ·omega
theorem Dj5 (l : List (List UInt8)) (n : Nat) (hn : n ≤ 18446744073709551616) : lrN l n = Ae4 200 (lrM l n) ∧ (lrM l n = [] ∨ MOk 200 (Aw4 (lrM l n)) 0) := by
 have ha := Bc6 l n hn
 have hf : ∀ p ∈ lrM l n, (N5 p.1).length < 200 := fun p hp => by
  obtain ⟨i, h1, h2, _⟩ := As5 l n p hp
  rw [h2]; exact Bq6 (by omega)
 by_cases h0 : lrM l n = []
 ·refine ⟨?_, .inl h0⟩
  rw [Ae4, if_pos h0]
  rw [h0] at ha; exact ha.nil_of
 ·exact ⟨by rw [Ae4, if_neg h0]; exact ha.eq h0 hf, .inr (ha.ok h0 hf)⟩
theorem Bh2 (B : Base) (qs : List Bs) (n : Nat) (ad : Option Addr) (cap : Nat) (h : BssAt B ad qs) (hn : qs.length = n) (hmax : n ≤ 4294967296) :
  Does Tryz.prog 12 [.raw (.slice ad n cap)] B (fun _ : Unit => .agg (D4 .u8 (K0 (H5 (E3 (lrN (qs.map Bs.l) qs.length)))) 32)) (fun _ _ => True) := by
 subst hn
 refine I7 Es6 (fun s B B' hB hR => hR) Tryz.func12 rfl Em3 (by simp [Tryz.f12]) (by simp [A0, closed]) (fun B0 hB0 => A3 1000 ?_)
 replace h := h.ext hB0
 have hcl : ∀ p n, A0 n (D4 .u8 (K0 p) 32) := fun p n => A2 _ _ _ _
 have hsp : ∀ p, I3 (D4 .u8 (fun _ => 0) 32) 0 (D4 .u8 (K0 p) 32) = D4 .u8 (K0 p) 32 := fun p => by rw [← O6]; exact J6 (K6 _) (by omega) _
 have hz32 : ∀ n, A0 n (D4 .u8 (fun _ => 0) 32) := fun n => A2 _ _ _ _
 obtain ⟨L, hL⟩ : ∃ L, L = qs.map Bs.l := ⟨_, rfl⟩
 rw [← hL]
 repeat' (simp (maxSteps := 4000000) (disch := omega) only [go_sem, ↓reduceIte, Tryz.f12])
 refine G8 (S := Nat × Option Addr × Nat × List Pr × Base) (fun s => s.1 ≤ qs.length ∧ PrsAt s.2.2.2.2 s.2.1 s.2.2.2.1 ∧ s.2.2.2.1.length ≤ s.2.2.1 ∧ s.2.2.2.1.map Pr.kv = lrM L s.1 ∧ BExt B0 s.2.2.2.2)
  (fun s => ⟨[(4, .int .i64 (s.1 : Nat)), (3, .raw (.slice s.2.1 s.2.2.2.1.length s.2.2.1)), (2, .ptr 0 0), (0, .raw (.slice ad qs.length cap))], 1, [(0, some (.cells (D4 .u8 (fun _ => 0) 32) 32 (0, 0)))], s.2.2.2.2, []⟩)
  (fun s => qs.length - s.1) (0, none, 0, [], B0) ⟨Nat.zero_le _, ⟨Y3 _ _, fun q hq => by simp at hq, by simp⟩, by simp, rfl, BExt.refl _⟩ (Weak.sub (A5 (by simp [wσ, go_sem, closed, A0, A4, hz32] <;> omega) (by simp [whs, Go.Ew.hget, go_sem, EObj.closed, closed, A0, A4, hz32]) (by first | (simp [*]; done) | (simp only [cxG]; omega)) rfl rfl (by simp))) ?_
 rintro ⟨i, mA, mc, ps, B2⟩ ⟨hi, hps, hpc, hpm, hB2⟩
 simp only at hi hps hpc hpm hB2 ⊢
 have hpl : ps.length ≤ i := by
  have := Ck2 L i
  rw [← hpm, List.length_map] at this; exact this
 refine A3 1000 ?_
 rcases Nat.lt_or_ge i qs.length with hi2 | hi2
 ·have cA : decide ((i : Int) < (qs.length : Int)) = true := decide_eq_true (by omega)
  obtain ⟨l1, l2, l3, l4⟩ := (h.ext hB2).ld hi2
  have hok := (h.ext hB2).ok _ (List.getElem_mem hi2)
  have hLi : L.getD i [] = (qs[i]).l := by rw [hL]; simp [List.getD, hi2]
  have hls : lrM L (i + 1) = if okV (L.getD i []) then Av5 (lrM L i) (Ce3 i) (L.getD i []) else lrM L i := rfl
  rw [hLi] at hls
  obtain ⟨q, hq⟩ : ∃ q, q = qs[i] := ⟨_, rfl⟩
  rw [← hq] at l1 hok hls
  by_cases hv : okV q.l = true
  ·obtain ⟨hv1, hv2⟩ := Ci0 hv
   have hv0 : 0 < q.l.length := List.length_pos_iff.2 hv1
   have c1 : decide ((0 : Int) < (q.l.length : Int)) = true := decide_eq_true (by omega)
   have c2 : decide ((q.l.length : Int) ≤ 1048576) = true := decide_eq_true (by omega)
   rw [hv, if_pos rfl] at hls
   have hi64 : i < 18446744073709551616 := by omega
   repeat' (first | with_reducible refine And.intro (by first | omega | (constructor <;> assumption) | (simp [*]; done)) ?_ | simp (maxSteps := 4000000) (disch := omega) only [go_sem, ↓reduceIte, cA, Int.toNat_natCast, l1, c1, c2])
   refine F9 (Bo3 i hi64 _) (fun _ => by simp [closed, A0]) (fun s3 B3 hB3 hR3 => A3 1000 ?_)
   change BExt B2 B3 at hB3
   have hkl := Ap6 hi64
   have hke : H5 (txt (leB i)) = Ce3 i := rfl
   have hck : chk (txt (leB i)) 0 = 0 := Be7 _ 0 rfl (by simp [txt, Be0])
   have hen := Bb9 hR3 hck (by rw [hke]; omega)
   rw [hke] at hen
   repeat' (simp (maxSteps := 4000000) (disch := omega) only [go_sem, ↓reduceIte])
   refine F9 hen (fun _ => by simp [closed, A0]) (fun s4 B4 hB4 hR4 => A3 1000 ?_)
   change BExt B3 B4 at hB4
   have hBX := hB3.trans hB4
   obtain ⟨k1, k2, k3, k4⟩ := ((h.ext hB2).ext hBX).ld hi2
   rw [← hq] at k1
   repeat' (first | with_reducible refine And.intro (by first | omega | (constructor <;> assumption) | (simp [*]; done)) ?_ | simp (maxSteps := 4000000) (disch := omega) only [go_sem, ↓reduceIte, Int.toNat_natCast, k1])
   refine F9 (Di0 ps ps.length mA mc (Ce3 i) q.l (Ce3 i).length q.l.length s4.1 q.ad s4.2 q.c (hps.ext hBX) hR4.1 (hok.b.ext hBX) rfl hpc rfl rfl (by omega) (by omega) (by omega)) (fun _ => by simp [closed]) (fun s5 B5 hB5 hR5 => A3 1000 ?_)
   change BExt B4 B5 at hB5
   obtain ⟨h51, h52, h53⟩ := hR5
   repeat' (simp (maxSteps := 4000000) (disch := omega) only [go_sem, ↓reduceIte])
   exact ⟨(i + 1, s5.1, s5.2.1, s5.2.2, B5), ⟨hi2, h51, h52, by rw [h53, hpm, hls], hB2.trans (hBX.trans hB5)⟩, Weak.sub (A5 (by simp [wσ, go_sem, closed, A0, A4, hz32] <;> omega) (by simp [whs, Go.Ew.hget, go_sem, EObj.closed, closed, A0, A4, hz32]) (by first | (simp [*]; done) | (simp only [cxG]; omega)) rfl rfl (by simp)), by simp only; omega⟩
  ·have hv' : okV q.l = false := by simpa using hv
   rw [hv', if_neg (by simp)] at hls
   have hcases : q.l = [] ∨ 1048576 < q.l.length := by
    by_cases h1 : q.l = []
    ·exact .inl h1
    ·right
     rw [okV, decide_eq_true h1, Bool.true_and, decide_eq_false_iff_not] at hv'
     omega
   rcases hcases with h1 | h1
   ·have hl0 : q.l.length = 0 := by rw [h1]; rfl
    have c1 : decide ((0 : Int) < (q.l.length : Int)) = false := decide_eq_false (by omega)
    repeat' (first | with_reducible refine And.intro (by first | omega | (constructor <;> assumption) | (simp [*]; done)) ?_ | simp (maxSteps := 4000000) (disch := omega) only [go_sem, ↓reduceIte, cA, Int.toNat_natCast, l1, c1])
    exact ⟨(i + 1, mA, mc, ps, B2), ⟨hi2, hps, hpc, by rw [hpm, hls], hB2⟩, Weak.sub (A5 (by simp [wσ, go_sem, closed, A0, A4, hz32] <;> omega) (by simp [whs, Go.Ew.hget, go_sem, EObj.closed, closed, A0, A4, hz32]) (by first | (simp [*]; done) | (simp only [cxG]; omega)) rfl rfl (by simp)), by simp only; omega⟩
   ·have c1 : decide ((0 : Int) < (q.l.length : Int)) = true := decide_eq_true (by omega)
    have c2 : decide ((q.l.length : Int) ≤ 1048576) = false := decide_eq_false (by omega)
    repeat' (first | with_reducible refine And.intro (by first | omega | (constructor <;> assumption) | (simp [*]; done)) ?_ | simp (maxSteps := 4000000) (disch := omega) only [go_sem, ↓reduceIte, cA, Int.toNat_natCast, l1, c1, c2])
    exact ⟨(i + 1, mA, mc, ps, B2), ⟨hi2, hps, hpc, by rw [hpm, hls], hB2⟩, Weak.sub (A5 (by simp [wσ, go_sem, closed, A0, A4, hz32] <;> omega) (by simp [whs, Go.Ew.hget, go_sem, EObj.closed, closed, A0, A4, hz32]) (by first | (simp [*]; done) | (simp only [cxG]; omega)) rfl rfl (by simp)), by simp only; omega⟩
 ·obtain rfl : i = qs.length := by omega
  have cA : decide ((qs.length : Int) < (qs.length : Int)) = false := decide_eq_false (by omega)
  obtain ⟨hr1, hr2⟩ := Dj5 L qs.length (by omega)
  rw [hr1]
  have hbf := Db7 200 ps ps.length mA mc hps rfl (by
   rcases hr2 with h0 | h0
   ·left
    rw [h0] at hpm
    exact List.map_eq_nil_iff.1 hpm
   ·right; rw [hpm]; exact h0) (fun p hp => by
   rw [hpm] at hp
   obtain ⟨i, h1, h2, h3⟩ := As5 L qs.length p hp
   have := Ap6 (i := i) (by omega)
   rw [h2]; omega) (by omega)
  rw [hpm] at hbf
  repeat' (first | simp (maxSteps := 4000000) (disch := omega) only [go_sem, ↓reduceIte, cA] | with_reducible refine A3 1000 ?_)
  refine F9 hbf (fun _ => by simp [closed, A0, hcl]) (fun s5 B5 hB5 hR5 => A3 1000 ?_)
  change BExt B2 B5 at hB5
  repeat' (simp (maxSteps := 4000000) (disch := omega) only [go_sem, ↓reduceIte, hsp])
  first | exact ⟨hB2.trans hB5, (), rfl, hcl _ _, trivial⟩ | exact ⟨(), hcl _ _⟩ | exact ⟨hB2.trans hB5, (), hcl _ _⟩
end Go.Proofs.YtepabkjfnpaijaaGreat
namespace Go.Proofs.YtepabkjfnpaijaaGreat
open Go RowKit Go.Ew
set_option maxHeartbeats 4000000
theorem Ar7 (r : RcV) : (rcC r).length = 260 := by simp [rcC, Aa7]
theorem Dx0 (r : RcV) : (rcC r).map D6 = rcE r := by
 simp only [rcE, rcC, ← Df5, List.map_cons, List.map_append, Bi9, List.map_nil, D6]
structure RcsAt (B : Base) (ad : Option Addr) (Rs : List RcV) : Prop where
 c : CellsAt B ad (Rs.flatMap rcC)
 ok : ∀ r ∈ Rs, LogsAt B r.lA r.L
 len : Rs.length ≤ 1048576
theorem RcsAt.ext {B B' : Base} {ad : Option Addr} {Rs : List RcV} (h : RcsAt B ad Rs) (e : BExt B B') : RcsAt B' ad Rs := ⟨h.c.ext e, fun g hg => (h.ok g hg).ext e, h.len⟩
theorem RcsAt.ld {B : Base} {ad : Option Addr} {Rs : List RcV} (h : RcsAt B ad Rs) {i : Nat} (hi : i < Rs.length) :
  L2 B (G9 ad (i * 260)) 260 = rcE Rs[i] ∧ B.D (adr ad).block ∧ Ad3 B (G9 ad (i * 260)) 260 ∧ ad.isSome = true := by
 have e : ∀ j, (G9 ad (i * 260)).add j = G9 ad (i * 260 + j) := fun j => by unfold G9; rw [X0]
 have hl := Ar7 Rs[i]
 have hg : ∀ j (hj : j < 260), H2 B (G9 ad (i * 260 + j)) = D6 ((rcC Rs[i])[j]'(by omega)) ∧ B.D (adr ad).block ∧ (B.w.cell? (G9 ad (i * 260 + j))).isSome = true := fun j hj =>
  h.c.raw (by rw [Aa3 (k := 260) (fun a ha => Ar7 a) hi hj, List.getElem?_eq_getElem (by omega)])
 refine ⟨?_, (hg 0 (by omega)).2.1, fun j hj => by rw [e]; exact (hg j hj).2.2, h.c.so (by rw [L5 (k := 260) (fun a ha => Ar7 a)]; omega)⟩
 rw [← Dx0]
 unfold L2
 apply List.ext_getElem (by simp [hl])
 intro j h1 h2
 simp only [List.length_map, List.length_range] at h1
 simp only [List.getElem_map, List.getElem_range, e]
 exact (hg j h1).1
theorem U4 (r : RcV) : I3 [EV.int .u8 0, EV.int .i64 0, EV.int .u64 0, EV.int .u8 0, EV.int .u8 0, EV.int .u8 0, EV.int .u8 0, EV.int .u8 0, EV.int .u8 0, EV.int .u8 0, EV.int .u8 0, EV.int .u8 0, EV.int .u8 0, EV.int .u8 0, EV.int .u8 0, EV.int .u8 0, EV.int .u8 0, EV.int .u8 0, EV.int .u8 0, EV.int .u8 0, EV.int .u8 0, EV.int .u8 0, EV.int .u8 0, EV.int .u8 0, EV.int .u8 0, EV.int .u8 0, EV.int .u8 0, EV.int .u8 0, EV.int .u8 0, EV.int .u8 0, EV.int .u8 0, EV.int .u8 0, EV.int .u8 0, EV.int .u8 0, EV.int .u8 0, EV.int .u8 0, EV.int .u8 0, EV.int .u8 0, EV.int .u8 0, EV.int .u8 0, EV.int .u8 0, EV.int .u8 0, EV.int .u8 0, EV.int .u8 0, EV.int .u8 0, EV.int .u8 0, EV.int .u8 0, EV.int .u8 0, EV.int .u8 0, EV.int .u8 0, EV.int .u8 0, EV.int .u8 0, EV.int .u8 0, EV.int .u8 0, EV.int .u8 0, EV.int .u8 0, EV.int .u8 0, EV.int .u8 0, EV.int .u8 0, EV.int .u8 0, EV.int .u8 0, EV.int .u8 0, EV.int .u8 0, EV.int .u8 0, EV.int .u8 0, EV.int .u8 0, EV.int .u8 0, EV.int .u8 0, EV.int .u8 0, EV.int .u8 0, EV.int .u8 0, EV.int .u8 0, EV.int .u8 0, EV.int .u8 0, EV.int .u8 0, EV.int .u8 0, EV.int .u8 0, EV.int .u8 0, EV.int .u8 0, EV.int .u8 0, EV.int .u8 0, EV.int .u8 0, EV.int .u8 0, EV.int .u8 0, EV.int .u8 0, EV.int .u8 0, EV.int .u8 0, EV.int .u8 0, EV.int .u8 0, EV.int .u8 0, EV.int .u8 0, EV.int .u8 0, EV.int .u8 0, EV.int .u8 0, EV.int .u8 0, EV.int .u8 0, EV.int .u8 0, EV.int .u8 0, EV.int .u8 0, EV.int .u8 0, EV.int .u8 0, EV.int .u8 0, EV.int .u8 0, EV.int .u8 0, EV.int .u8 0, EV.int .u8 0, EV.int .u8 0, EV.int .u8 0, EV.int .u8 0, EV.int .u8 0, EV.int .u8 0, EV.int .u8 0, EV.int .u8 0, EV.int .u8 0, EV.int .u8 0, EV.int .u8 0, EV.int .u8 0, EV.int .u8 0, EV.int .u8 0, EV.int .u8 0, EV.int .u8 0, EV.int .u8 0, EV.int .u8 0, EV.int .u8 0, EV.int .u8 0, EV.int .u8 0, EV.int .u8 0, EV.int .u8 0, EV.int .u8 0, EV.int .u8 0, EV.int .u8 0, EV.int .u8 0, EV.int .u8 0, EV.int .u8 0, EV.int .u8 0, EV.int .u8 0, EV.int .u8 0, EV.int .u8 0, EV.int .u8 0, EV.int .u8 0, EV.int .u8 0, EV.int .u8 0, EV.int .u8 0, EV.int .u8 0, EV.int .u8 0, EV.int .u8 0, EV.int .u8 0, EV.int .u8 0, EV.int .u8 0, EV.int .u8 0, EV.int .u8 0, EV.int .u8 0, EV.int .u8 0, EV.int .u8 0, EV.int .u8 0, EV.int .u8 0, EV.int .u8 0, EV.int .u8 0, EV.int .u8 0, EV.int .u8 0, EV.int .u8 0, EV.int .u8 0, EV.int .u8 0, EV.int .u8 0, EV.int .u8 0, EV.int .u8 0, EV.int .u8 0, EV.int .u8 0, EV.int .u8 0, EV.int .u8 0, EV.int .u8 0, EV.int .u8 0, EV.int .u8 0, EV.int .u8 0, EV.int .u8 0, EV.int .u8 0, EV.int .u8 0, EV.int .u8 0, EV.int .u8 0, EV.int .u8 0, EV.int .u8 0, EV.int .u8 0, EV.int .u8 0, EV.int .u8 0, EV.int .u8 0, EV.int .u8 0, EV.int .u8 0, EV.int .u8 0, EV.int .u8 0, EV.int .u8 0, EV.int .u8 0, EV.int .u8 0, EV.int .u8 0, EV.int .u8 0, EV.int .u8 0, EV.int .u8 0, EV.int .u8 0, EV.int .u8 0, EV.int .u8 0, EV.int .u8 0, EV.int .u8 0, EV.int .u8 0, EV.int .u8 0, EV.int .u8 0, EV.int .u8 0, EV.int .u8 0, EV.int .u8 0, EV.int .u8 0, EV.int .u8 0, EV.int .u8 0, EV.int .u8 0, EV.int .u8 0, EV.int .u8 0, EV.int .u8 0, EV.int .u8 0, EV.int .u8 0, EV.int .u8 0, EV.int .u8 0, EV.int .u8 0, EV.int .u8 0, EV.int .u8 0, EV.int .u8 0, EV.int .u8 0, EV.int .u8 0, EV.int .u8 0, EV.int .u8 0, EV.int .u8 0, EV.int .u8 0, EV.int .u8 0, EV.int .u8 0, EV.int .u8 0, EV.int .u8 0, EV.int .u8 0, EV.int .u8 0, EV.int .u8 0, EV.int .u8 0, EV.int .u8 0, EV.int .u8 0, EV.int .u8 0, EV.int .u8 0, EV.int .u8 0, EV.int .u8 0, EV.int .u8 0, EV.int .u8 0, EV.int .u8 0, EV.int .u8 0, EV.int .u8 0, EV.int .u8 0, EV.int .u8 0, EV.int .u8 0, EV.int .u8 0, EV.int .u8 0, EV.int .u8 0, EV.int .u8 0, EV.int .u8 0, EV.int .u8 0, EV.int .u8 0, EV.int .u8 0, EV.int .u8 0, EV.raw (.slice none 0 0)] 0 (rcE r) = rcE r := Ak5 (by rw [R0]; rfl) (by rw [R0]; omega)
theorem Dh2 {B : Base} {g : LogV} (h : g.Ok B) {q : List UInt8} (hq : q ∈ g.tops) : q.length = 32 := by
 obtain ⟨k, hk, rfl⟩ := List.mem_map.1 hq
 exact Ar0 h (List.mem_range.1 hk)
theorem De9 {base n : Nat} (h : n < 4611686018427387904) : (hd base n).length ≤ 9 := (Ap0 h).2
theorem P8 {p : List UInt8} (h : p.length < 4611686018427387904) : (H5 (txt p)).length ≤ 9 + p.length := by
 have n10 : ((0 : Int) = 1) = False := by simp
 have h9 := De9 (base := 128) h
 simp only [txt, H5, n10, if_false]
 split
 ·omega
 ·rw [List.length_append]; omega
theorem W2 {ks : List Itm} (h : (E7 ks).length < 4611686018427387904) : (H5 (lst ks)).length ≤ 9 + (E7 ks).length := by
 have h9 := De9 (base := 192) h
 simp only [lst, H5, ↓reduceIte]
 rw [List.length_append]; omega
theorem Az1 : ∀ {ps : List (List UInt8)}, (∀ p ∈ ps, p.length = 32) → (E7 (ps.map txt)).length ≤ 41 * ps.length
 | [], _ => by simp [E7]
 | p :: ps, h => by
  have h1 := Az1 (ps := ps) (fun q hq => h q (by simp [hq]))
  have h2 := h p (by simp)
  have h3 := P8 (p := p) (by omega)
  rw [List.map_cons, E7, List.length_append, List.length_cons]; omega
theorem Br2 {B : Base} {g : LogV} (h : g.Ok B) : (H5 (T4 g)).length ≤ 155 * (1 + (g.tn + g.dn / 100)) := by
 have htb := h.tb
 have hdb := h.db
 have hdd := h.hd
 have ha := h.ha
 have h1 := Az1 (ps := g.tops) (fun q hq => Dh2 h hq)
 rw [L1] at h1
 have h2 := W2 (ks := g.tops.map txt) (by omega)
 have h3 := P8 (p := g.ad) (by omega)
 have h4 := P8 (p := g.dt) (by omega)
 have e : (E7 [txt g.ad, lst (g.tops.map txt), txt g.dt]).length = (H5 (txt g.ad)).length + ((H5 (lst (g.tops.map txt))).length + (H5 (txt g.dt)).length) := by
  simp only [E7, List.length_append, List.length_nil, Nat.add_zero]
 have h5 := W2 (ks := [txt g.ad, lst (g.tops.map txt), txt g.dt]) (by omega)
 rw [T4]
 omega
theorem Az3 {B : Base} : ∀ {L : List LogV}, (∀ g ∈ L, g.Ok B) → (E7 (L.map T4)).length ≤ 155 * (L.length + Ap1 L)
 | [], _ => by simp [E7]
 | g :: L, h => by
  have h1 := Az3 (L := L) (fun q hq => h q (by simp [hq]))
  have h2 := Br2 (h g (by simp))
  rw [List.map_cons, E7, List.length_append, List.length_cons, Ap1]; omega
theorem Br1 {B : Base} {r : RcV} (h : LogsAt B r.lA r.L) (hok : r.ok.toNat < 18446744073709551616) (hgas : r.gas < 18446744073709551616) (hf : r.L.length + Ap1 r.L ≤ 500) : (H5 (Aw3 r)).length ≤ 100000 := by
 have h1 := Az3 h.ok
 have h2 := W2 (ks := r.L.map T4) (by omega)
 have h3 := P8 (p := leB r.ok.toNat) (by have := Bp6 hok; have := N8 r.ok.toNat; omega)
 have h4 := P8 (p := leB r.gas) (by have := Bp6 hgas; have := N8 r.gas; omega)
 have h5 := P8 (p := blB r.F) (by have := Aa7 r.F; omega)
 have g1 := Bp6 hok
 have g2 := N8 r.ok.toNat
 have g3 := Bp6 hgas
 have g4 := N8 r.gas
 have g5 := Aa7 r.F
 have e : (E7 [txt (leB r.ok.toNat), txt (leB r.gas), txt (blB r.F), lst (r.L.map T4)]).length = (H5 (txt (leB r.ok.toNat))).length + ((H5 (txt (leB r.gas))).length + ((H5 (txt (blB r.F))).length + (H5 (lst (r.L.map T4))).length)) := by
  simp only [E7, List.length_append, List.length_nil, Nat.add_zero]
 have h6 := W2 (ks := [txt (leB r.ok.toNat), txt (leB r.gas), txt (blB r.F), lst (r.L.map T4)]) (by omega)
 rw [Aw3]
 omega
theorem Da1 (r : RcV) : (Ab6 r).length ≤ (H5 (Aw3 r)).length + 1 := by
 rw [Ab6, List.length_append]; split <;> simp <;> omega
end Go.Proofs.YtepabkjfnpaijaaGreat
