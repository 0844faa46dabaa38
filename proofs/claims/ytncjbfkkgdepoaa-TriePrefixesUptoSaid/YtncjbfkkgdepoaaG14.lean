/- Part of a proof over the seat Ytncjbfkkgdepoaa. -/
import Derived.Test.YtncjbfkkgdepoaaG13
import Derived.Test.YtncjbfkkgdepoaaEng2
import Derived.Test.YtncjbfkkgdepoaaG12
set_option linter.unusedSimpArgs false
set_option linter.unusedVariables false
set_option maxRecDepth 100000
namespace Go.Proofs.Ytncjbfkkgdepoaa
open Go RowKit Go.Ew
theorem Cf5 : ∀ a : List UInt8, Op.bytesLess a a = false
 | [] => rfl
 | x :: a => by
  rw [Op.bytesLess, Cf5 a]
  simp
theorem Bi4 : ∀ a b c : List UInt8, Op.bytesLess a b = true → Op.bytesLess b c = true → Op.bytesLess a c = true
 | _, [], _, h, _ => by simp [Op.bytesLess] at h
 | _, _ :: _, [], _, h => by simp [Op.bytesLess] at h
 | [], _ :: _, _ :: _, _, _ => rfl
 | x :: a, y :: b, z :: c, h1, h2 => by
  simp only [Op.bytesLess, Bool.or_eq_true, decide_eq_true_eq, Bool.and_eq_true, beq_iff_eq] at *
  rcases h1 with h1 | ⟨rfl, h1⟩
  ·rcases h2 with h2 | ⟨rfl, h2⟩
   ·exact .inl (UInt8.lt_trans h1 h2)
   ·exact .inl h1
  ·rcases h2 with h2 | ⟨rfl, h2⟩
   ·exact .inl h2
   ·exact .inr ⟨rfl, Bi4 a b c h1 h2⟩
theorem Bi5 : ∀ a b : List UInt8, Op.bytesLess a b = true ∨ a = b ∨ Op.bytesLess b a = true
 | [], [] => .inr (.inl rfl)
 | [], _ :: _ => .inl rfl
 | _ :: _, [] => .inr (.inr rfl)
 | x :: a, y :: b => by
  simp only [Op.bytesLess, Bool.or_eq_true, decide_eq_true_eq, Bool.and_eq_true, beq_iff_eq, List.cons.injEq]
  rcases Nat.lt_trichotomy x.toNat y.toNat with h | h | h
  ·exact .inl (.inl (UInt8.lt_iff_toNat_lt.2 h))
  ·obtain rfl := UInt8.toNat_inj.1 h
   rcases Bi5 a b with h | rfl | h
   ·exact .inl (.inr ⟨rfl, h⟩)
   ·exact .inr (.inl ⟨rfl, rfl⟩)
   ·exact .inr (.inr (.inr ⟨rfl, h⟩))
  ·exact .inr (.inr (.inl (UInt8.lt_iff_toNat_lt.2 h)))
/-- The place of a key. -/
def atM : List KV → List UInt8 → Nat
 | [], _ => 0
 | p :: m, k => if Op.bytesLess p.1 k then atM m k + 1 else 0
def isM (m : List KV) (k : List UInt8) : Bool := match m[atM m k]? with | some p => p.1 == k | none => false
def Bn2 (m : List KV) (k v : List UInt8) : List KV :=
 m.take (atM m k) ++ (if v = [] then [] else [(k, v)]) ++ m.drop (atM m k + if isM m k then 1 else 0)
def Srt (m : List KV) : Prop := m.Pairwise fun p q => Op.bytesLess p.1 q.1 = true
theorem Ae4 {p : KV} {m : List KV} {k v : List UInt8} (h : Op.bytesLess p.1 k = true) : Bn2 (p :: m) k v = p :: Bn2 m k v := by
 have e : atM (p :: m) k = atM m k + 1 := by rw [atM, if_pos h]
 have e2 : isM (p :: m) k = isM m k := by rw [isM, e, List.getElem?_cons_succ, ← isM]
 rw [Bn2, Bn2, e, e2, show atM m k + 1 + (if isM m k then 1 else 0) = (atM m k + if isM m k then 1 else 0) + 1 by omega, List.drop_succ_cons, List.take_succ_cons, List.cons_append, List.cons_append]
theorem Ae5 {p : KV} {m : List KV} {k v : List UInt8} (h : Op.bytesLess p.1 k = false) : Bn2 (p :: m) k v = (if v = [] then [] else [(k, v)]) ++ (if p.1 = k then m else p :: m) := by
 have e : atM (p :: m) k = 0 := by rw [atM, if_neg (by rw [h]; simp)]
 have e2 : isM (p :: m) k = (p.1 == k) := by rw [isM, e]; rfl
 rw [Bn2, e, e2, List.take_zero, List.nil_append]
 by_cases hk : p.1 = k
 ·simp [hk]
 ·simp [hk]
theorem T6 : ∀ (m : List KV) (k v : List UInt8), Srt m → ∀ q, q ∈ Bn2 m k v ↔ (q = (k, v) ∧ v ≠ []) ∨ (q.1 ≠ k ∧ q ∈ m)
 | [], k, v, _, q => by
  simp only [Bn2, List.take_nil, List.drop_nil, List.nil_append, List.append_nil, List.not_mem_nil, and_false, or_false]
  split <;> simp_all
 | p :: m, k, v, hs, q => by
  have hs' := hs
  rw [Srt, List.pairwise_cons] at hs'
  obtain ⟨h1, h2⟩ := hs'
  by_cases hp : Op.bytesLess p.1 k = true
  ·rw [Ae4 hp, List.mem_cons, T6 m k v h2 q, List.mem_cons]
   have hpk : p.1 ≠ k := fun h => by rw [h, Cf5] at hp; cases hp
   constructor
   ·rintro (rfl | h | h)
    ·exact .inr ⟨hpk, .inl rfl⟩
    ·exact .inl h
    ·exact .inr ⟨h.1, .inr h.2⟩
   ·rintro (h | ⟨h, rfl | h'⟩)
    ·exact .inr (.inl h)
    ·exact .inl rfl
    ·exact .inr (.inr ⟨h, h'⟩)
  ·have hp' : Op.bytesLess p.1 k = false := by simpa using hp
   rw [Ae5 hp', List.mem_append]
   have e1 : (q ∈ (if v = [] then [] else [(k, v)])) ↔ (q = (k, v) ∧ v ≠ []) := by split <;> simp_all
   have hgt : ∀ r ∈ m, r.1 ≠ k := fun r hr h => by
    have := h1 r hr
    rw [h] at this
    rw [this] at hp'; cases hp'
   rw [e1]
   by_cases hk : p.1 = k
   ·rw [if_pos hk, List.mem_cons]
    constructor
    ·rintro (h | h)
     ·exact .inl h
     ·exact .inr ⟨hgt q h, .inr h⟩
    ·rintro (h | ⟨h, rfl | h'⟩)
     ·exact .inl h
     ·exact absurd hk h
     ·exact .inr h'
   ·rw [if_neg hk, List.mem_cons]
    constructor
    ·rintro (h | rfl | h)
     ·exact .inl h
     ·exact .inr ⟨hk, .inl rfl⟩
     ·exact .inr ⟨hgt q h, .inr h⟩
    ·rintro (h | ⟨h, h'⟩)
     ·exact .inl h
     ·exact .inr h'
theorem Bf6 : ∀ (m : List KV) (k v : List UInt8), Srt m → Srt (Bn2 m k v)
 | [], k, v, _ => by
  simp only [Bn2, List.take_nil, List.drop_nil, List.nil_append, List.append_nil]
  split <;> simp [Srt]
 | p :: m, k, v, hs => by
  have hs' := hs
  rw [Srt, List.pairwise_cons] at hs'
  obtain ⟨h1, h2⟩ := hs'
  by_cases hp : Op.bytesLess p.1 k = true
  ·rw [Ae4 hp, Srt, List.pairwise_cons]
   refine ⟨fun q hq => ?_, Bf6 m k v h2⟩
   rcases (T6 m k v h2 q).1 hq with ⟨rfl, _⟩ | ⟨_, h⟩
   ·exact hp
   ·exact h1 q h
  ·have hp' : Op.bytesLess p.1 k = false := by simpa using hp
   have hkm : ∀ r ∈ (if p.1 = k then m else p :: m), Op.bytesLess k r.1 = true := fun r hr => by
    by_cases hk : p.1 = k
    ·rw [if_pos hk] at hr; rw [← hk]; exact h1 r hr
    ·rw [if_neg hk] at hr
     have hkp : Op.bytesLess k p.1 = true := by
      rcases Bi5 p.1 k with h | h | h
      ·rw [hp'] at h; cases h
      ·exact absurd h hk
      ·exact h
     rcases List.mem_cons.1 hr with rfl | hr
     ·exact hkp
     ·exact Bi4 _ _ _ hkp (h1 r hr)
   have hsm : Srt (if p.1 = k then m else p :: m) := by split <;> assumption
   rw [Ae5 hp']
   split
   ·exact hsm
   ·rw [Srt, List.singleton_append, List.pairwise_cons]
    exact ⟨hkm, hsm⟩
theorem Bg1 : ∀ a b : List UInt8, F8 a = F8 b → a = b
 | [], [], _ => rfl
 | [], _ :: _, h => by simp [F8] at h
 | _ :: _, [], h => by simp [F8] at h
 | x :: a, y :: b, h => by
  have e : ∀ (x : UInt8) l, F8 (x :: l) = hiN x :: loN x :: F8 l := fun _ _ => rfl
  rw [e, e] at h
  simp only [List.cons.injEq] at h
  have h1 := congrArg UInt8.toNat h.1
  have h2 := congrArg UInt8.toNat h.2.1
  rw [Ai9, Ai9] at h1
  rw [R2, R2] at h2
  rw [Bg1 a b h.2.2, UInt8.toNat_inj.1 (show x.toNat = y.toNat by omega)]
theorem Bq4 (a : List UInt8) : ∀ x ∈ F8 a, x.toNat < 16 := by
 intro x hx
 rw [F8, List.mem_flatMap] at hx
 obtain ⟨c, _, hx⟩ := hx
 have := c.toNat_lt
 simp only [List.mem_cons, List.not_mem_nil, or_false] at hx
 rcases hx with rfl | rfl
 ·rw [Ai9]; omega
 ·rw [R2]; omega
structure Agree (t : Nd) (m : List KV) : Prop where
 c : t = .nil ∨ Canon t
 s : Srt m
 v : ∀ p ∈ m, p.2 ≠ []
 g : ∀ q v, v ≠ [] → (S2 t q = v ↔ ∃ p ∈ m, F8 p.1 = q ∧ p.2 = v)
theorem Agree.nil : Agree .nil [] := ⟨.inl rfl, List.Pairwise.nil, fun p hp => by simp at hp, fun q v hv => by simp [Ca4, Ne.symm hv]⟩
theorem Agree.put {t : Nd} {m : List KV} (h : Agree t m) (k v : List UInt8) (hv : v ≠ []) {f : Nat} (hf : (F8 k).length < f) : Agree (P8 f t (F8 k) v) (Bn2 m k v) := by
 obtain ⟨h1, h2⟩ := Ch7 f t (F8 k) v h.c hf (Bq4 k) hv
 refine ⟨.inr h1, Bf6 m k v h.s, fun p hp => ?_, fun q w hw => ?_⟩
 ·rcases (T6 m k v h.s p).1 hp with ⟨rfl, _⟩ | ⟨_, hp⟩
  ·exact hv
  ·exact h.v p hp
 ·rw [h2 q]
  by_cases e : q = F8 k
  ·rw [if_pos e]
   constructor
   ·rintro rfl
    exact ⟨(k, v), (T6 m k v h.s _).2 (.inl ⟨rfl, hv⟩), e.symm, rfl⟩
   ·rintro ⟨p, hp, h3, h4⟩
    rcases (T6 m k v h.s p).1 hp with ⟨rfl, _⟩ | ⟨hn, _⟩
    ·exact h4
    ·exact absurd (Bg1 _ _ (h3.trans e)) hn
  ·rw [if_neg e, h.g q w hw]
   constructor
   ·rintro ⟨p, hp, h3, h4⟩
    exact ⟨p, (T6 m k v h.s p).2 (.inr ⟨fun h5 => e (by rw [← h3, h5]), hp⟩), h3, h4⟩
   ·rintro ⟨p, hp, h3, h4⟩
    rcases (T6 m k v h.s p).1 hp with ⟨rfl, _⟩ | ⟨_, hp⟩
    ·exact absurd h3.symm e
    ·exact ⟨p, hp, h3, h4⟩
end Go.Proofs.Ytncjbfkkgdepoaa
namespace Go.Proofs.Ytncjbfkkgdepoaa
open Go RowKit Go.Ew
set_option maxHeartbeats 8000000
theorem X2 (B : Base) : Does Try.prog 31 [] B (fun _ : Unit => .agg (C9 .u8 (N9 [128]) 32)) (fun _ _ => True) := by
 refine K0 Dj1 (fun s B B' hB hR => hR) Try.func31 rfl Df8 (by simp [Try.f31]) (by simp [A0, closed]) (fun B0 hB0 => A3 1000 ?_)
 have hcl : ∀ n, A0 n (C9 .u8 (N9 [128]) 32) := fun n => A2 _ _ _ _
 repeat' (first | with_reducible refine And.intro (by first | omega | (simp; done)) ?_ | simp (maxSteps := 4000000) (disch := omega) only [go_sem, ↓reduceIte, Try.f31])
 refine Ab9 (vf := fun _ : Unit => .agg (C9 .u8 (N9 [128]) 32)) 1 0 1 1 [] [128] Dc0 (by simp [A0]) rfl rfl rfl (fun s => hcl _) (fun B ad cap hB hb => Ai6 [128] 1 B ad cap hb rfl (by omega)) (fun s1 B1 hB1 hR1 => A3 1000 ?_)
 change BExt B0 B1 at hB1
 have hsp : H8 (C9 .u8 (fun _ => 0) 32) 0 (C9 .u8 (N9 [128]) 32) = C9 .u8 (N9 [128]) 32 := by rw [← Z0]; exact P3 (O0 _) (by omega) _
 repeat' (first | with_reducible refine And.intro (by omega) ?_ | simp (maxSteps := 4000000) (disch := omega) only [go_sem, ↓reduceIte, hsp])
 first | exact ⟨hB1, (), rfl, hcl _, trivial⟩ | exact ⟨(), hcl _⟩
theorem Bt1 {S : Type} {B0 : Base} {o : S → EObj} {R : S → Base → Prop} {x : X} (s : S) (j : Nat) (hB : BExt B0 x.B) (hc : (o s).closed 0) (hg : hget x.hs j = some (o s)) (hR : R s x.B) :
  Bt2 0 B0 (fun _ => .ptr 0 0) (fun _ => 1) (fun s => [some (o s)]) R (.ptr j 0) x := by
 refine ⟨hB, s, fun _ => j, rfl, by simp [closed], fun i hi => absurd hi (Nat.not_lt_zero i), fun i o' hi => ?_, fun i j' oi oj hi hj _ => ?_, hR⟩
 ·cases i with
  | zero =>
   simp at hi; subst hi
   exact ⟨EObj.closed_mono (Nat.zero_le _) _ hc, by rw [hg]; congr 1; exact (EObj.ren_id (n := 0) (fun i hi => absurd hi (Nat.not_lt_zero i)) _ hc).symm⟩
  | succ i => simp at hi
 ·cases i with
  | zero => cases j' with
   | zero => rfl
   | succ j' => simp at hj
  | succ i => simp at hi
theorem Ce6 (B : Base) (sv : Value) (hsv : sv = .nilIface ∨ ∃ T v, sv = .iface T v) :
  Gen Try.prog 30 [.raw sv, .agg (C9 .u8 (N9 [128]) 32)] [] B (fun _ : Unit => .ptr 0 0) (fun _ => 1) (fun _ => [some (trO sv .nilIface)]) (fun _ _ => True) := by
 refine Cp2 0 [] Dj2 (fun s B B' hB hR => hR) Try.func30 rfl Df9 (by simp [Try.f30]) (by simp [A0, closed, A2]) (by simp) (by simp) (by simp [Go.Ew.hget]) (fun B0 hB0 olds hol => A3 1000 ?_)
 have hcl : ∀ n, A0 n (C9 .u8 (N9 [128]) 32) := fun n => A2 _ _ _ _
 have hisI : (C9 .u8 (N9 [128]) 32).all (EV.isInt .u8) = true := by simp [C9, EV.isInt]
 have hn0 : ∀ q, F8 q = F8 q := fun _ => rfl
 rcases hsv with rfl | ⟨T, v, rfl⟩
 ·repeat' (first | simp (maxSteps := 4000000) (disch := omega) only [go_sem, ↓reduceIte, Try.f30, hisI] | with_reducible refine C8 (id := 2) [0, 1, 2] mixed (by kernel_rfl) (by simp) (fun hin => D4 1000 hin ?_) | with_reducible refine D9 (by kernel_rfl) (C3 (by kernel_rfl)) (A3 1000 ?_) | refine As9 (X2 B0) (by simp [closed, A0, A2, C6]) (by kernel_rfl) (F7 (by kernel_rfl) (C3 (by kernel_rfl))) (fun hin => D4 1000 hin ?_))
  exact Bt1 () 1 (BExt.refl _) (C7 _ _) rfl trivial
 ·repeat' (first | simp (maxSteps := 4000000) (disch := omega) only [go_sem, ↓reduceIte, Try.f30, hisI] | with_reducible refine C8 (id := 2) [0, 1, 2] mixed (by kernel_rfl) (by simp) (fun hin => D4 1000 hin ?_) | with_reducible refine D9 (by kernel_rfl) (C3 (by kernel_rfl)) (A3 1000 ?_) | refine As9 (X2 B0) (by simp [closed, A0, A2, C6]) (by kernel_rfl) (F7 (by kernel_rfl) (C3 (by kernel_rfl))) (fun hin => D4 1000 hin ?_))
  exact Bt1 () 1 (BExt.refl _) (C7 _ _) rfl trivial
theorem Ci9 (B : Base) (sv rv : Value) : Turn2 Try.prog 35 [] (trO sv rv) B (fun _ : Unit => .bool true) (fun _ => trO sv rv) (fun _ _ => True) := by
 refine P6 Di9 (fun s B B' hB hR => hR) Try.func35 rfl Df4 (by simp [Try.f35]) (by simp [A0, closed]) (C7 _ _) (fun u => C7 _ _) (fun B0 hB0 b => A3 1000 ?_)
 repeat' (first | with_reducible refine And.intro (by first | omega | (simp; done)) ?_ | simp (maxSteps := 4000000) (disch := omega) only [go_sem, ↓reduceIte, Try.f35, trO])
 exact ⟨BExt.refl _, (), trivial⟩
theorem Bo0 (B : Base) (sv rv : Value) {nd : Nd} {key v : List UInt8} {kn kc vn vc f : Nat} {kA vA : Option Addr} (hd : NdAt B nd rv) (hw : Wf nd) (hk : BytesAt B kA key) (hv : BytesAt B vA v) (hkn : key.length = kn) (hvn : v.length = vn) (hk64 : kn ≤ 64) (hv0 : 0 < vn) (hvm : vn ≤ 1048576) (hf : (F8 key).length < f) :
  Turn2 Try.prog 33 [.raw (.slice kA kn kc), .raw (.slice vA vn vc)] (trO sv rv) B (fun _ : Value => .int .i64 0) (fun u => trO sv u) (fun u B' => NdAt B' (P8 f nd (F8 key) v) u) := by
 refine P6 Cx2 (fun s B B' hB hR => hR.ext' hB) Try.func33 rfl Df6 (by simp [Try.f33]) (by simp [A0, closed]) (C7 _ _) (fun u => C7 _ _) (fun B0 hB0 b => A3 1000 ?_)
 replace hd := hd.ext' hB0
 replace hk := hk.ext hB0
 replace hv := hv.ext hB0
 have c1 : decide ((64 : Int) < (kn : Int)) = false := decide_eq_false (by omega)
 have c2 : decide ((1048576 : Int) < (vn : Int)) = false := decide_eq_false (by omega)
 have c3 : (((vn : Nat) : Int) == 0) = false := by rw [beq_eq_false_iff_ne]; omega
 repeat' (simp (maxSteps := 4000000) (disch := omega) only [go_sem, ↓reduceIte, Try.f33])
 refine O2 0 (Ci9 B0 sv rv) rfl (fun _ => trivial) (C7 _ _) (fun _ => C7 _ _) (fun _ B1 hB1 _ => A3 1000 ?_)
 change BExt B0 B1 at hB1
 repeat' (first | with_reducible refine And.intro (by omega) ?_ | simp (maxSteps := 4000000) (disch := omega) only [go_sem, ↓reduceIte, c1, c2, c3, trO] | with_reducible refine C8 (id := 7) [0, 1, 2, 3, 4, 5, 7, 6, 8, 9, 10, 11, 12, 13, 14] mixed (by kernel_rfl) (by simp) (fun hin => D4 1000 hin ?_))
 refine G7 (O4 key kn _ kA kc (hk.ext hB1) hkn (by omega)) (fun _ => by simp [closed]) (by kernel_rfl) (F7 (by kernel_rfl) (C3 (by kernel_rfl))) (fun hin2 s2 B2 hB2 hR2 => D4 1000 hin2 ?_)
 change BExt B1 B2 at hB2
 repeat' (simp (maxSteps := 4000000) (disch := omega) only [go_sem, ↓reduceIte])
 refine G7 (Az3 v vn _ vA vc ((hv.ext hB1).ext hB2) hvn (by omega)) (fun _ => by simp [closed]) (by kernel_rfl) (F7 (by kernel_rfl) (C3 (by kernel_rfl))) (fun hin2 s3 B3 hB3 hR3 => D4 1000 hin2 ?_)
 change BExt B2 B3 at hB3
 repeat' (simp (maxSteps := 4000000) (disch := omega) only [go_sem, ↓reduceIte])
 have hnl := Q2 key
 refine Ab8 0 (Cn2 sv rv f nd B3 rv (F8 key) v s2.1 s3.1 (F8 key).length s2.2 vn s3.2 (hd.ext' (hB1.trans (hB2.trans hB3))) hw hf (Bq4 key) rfl hvn (hR2.1.ext hB3) hR3.1 hR2.2 (by omega) (by omega)) rfl (fun _ => by simp [closed, A0]) (C7 _ _) (fun _ => C7 _ _) (by kernel_rfl) (F7 (by kernel_rfl) (C3 (by kernel_rfl))) (fun hin2 u B4 hB4 hR4 => D4 1000 hin2 ?_)
 change BExt B3 B4 at hB4
 obtain ⟨T2, a2, rfl⟩ : ∃ T a, u = .iface T (.pointer (some ⟨a, 0, none⟩)) := by
  rcases hR4.cases' with ⟨hu, _⟩ | ⟨_, h⟩
  ·exact absurd hu (Bb2 _ _ _ _)
  ·exact h
 repeat' (first | with_reducible refine And.intro (by omega) ?_ | simp (maxSteps := 4000000) (disch := omega) only [go_sem, ↓reduceIte, trO] | with_reducible refine D9 (by kernel_rfl) (C3 (by kernel_rfl)) (A3 1000 ?_))
 exact ⟨hB1.trans (hB2.trans (hB3.trans hB4)), _, trivial, rfl, hR4⟩
theorem Ch1 (B : Base) (sv rv : Value) {nd : Nd} (hd : NdAt B nd rv) :
  Turn2 Try.prog 21 [] (trO sv rv) B (fun _ : Unit => .tup [.agg (C9 .u8 (N9 (J1 (E6 nd))) 32), .int .i64 0]) (fun _ => trO sv rv) (fun _ _ => True) := by
 refine P6 Dj4 (fun s B B' hB hR => hR) Try.func21 rfl Dg2 (by simp [Try.f21]) (by simp [A0, closed]) (C7 _ _) (fun u => C7 _ _) (fun B0 hB0 b => A3 1000 ?_)
 replace hd := hd.ext' hB0
 have hcl : ∀ p n, A0 n (C9 .u8 (N9 p) 32) := fun p n => A2 _ _ _ _
 have hsp : ∀ p, H8 (C9 .u8 (fun _ => 0) 32) 0 (C9 .u8 (N9 p) 32) = C9 .u8 (N9 p) 32 := fun p => by rw [← Z0]; exact P3 (O0 _) (by omega) _
 repeat' (simp (maxSteps := 4000000) (disch := omega) only [go_sem, ↓reduceIte, Try.f21])
 refine O2 0 (Ci9 B0 sv rv) rfl (fun _ => trivial) (C7 _ _) (fun _ => C7 _ _) (fun _ B1 hB1 _ => A3 1000 ?_)
 change BExt B0 B1 at hB1
 replace hd := hd.ext' hB1
 rcases hd.cases' with ⟨rfl, rfl⟩ | ⟨hkn, T, a, rfl⟩
 ·have hfe : J1 (E6 .nil) = [128] := rfl
  rw [hfe]
  repeat' (first | with_reducible refine And.intro (by omega) ?_ | simp (maxSteps := 4000000) (disch := omega) only [go_sem, ↓reduceIte, trO])
  refine As3 rfl Try.underlying71 rfl (A3 1000 ?_)
  repeat' (first | with_reducible refine And.intro (by omega) ?_ | simp (maxSteps := 4000000) (disch := omega) only [go_sem, ↓reduceIte, hsp] | refine H4 (X2 B1) (by simp [closed, A0, A2, C6]) (A3 1000 ?_))
  exact ⟨(), by simp [closed, A0, hcl]⟩
 ·have hTn := Bg0 hd
  have hfm := Bt4 hd (Bc4 nd hd T a rfl) (Cz5 nd) (Ca7 hd)
  have hfl := Ca7 hd
  obtain ⟨p, hp⟩ : ∃ p, p = J1 (E6 nd) := ⟨_, rfl⟩
  rw [← hp] at hfm hfl ⊢
  repeat' (first | with_reducible refine And.intro (by omega) ?_ | simp (maxSteps := 4000000) (disch := omega) only [go_sem, ↓reduceIte, trO])
  refine Ab5 rfl Try.underlying71 rfl (A3 1000 ?_)
  repeat' (simp (maxSteps := 4000000) (disch := omega) only [go_sem, ↓reduceIte])
  refine Am3 rfl Try.underlying78 Ag5 rfl hTn (A3 1000 ?_)
  repeat' (simp (maxSteps := 4000000) (disch := omega) only [go_sem, ↓reduceIte])
  refine F4 hfm (fun _ => by simp [closed, A0]) (fun s2 B2 hB2 hR2 => A3 1000 ?_)
  change BExt B1 B2 at hB2
  repeat' (simp (maxSteps := 4000000) (disch := omega) only [go_sem, ↓reduceIte])
  refine F4 (Ai6 p _ _ s2.1 s2.2 hR2.1 rfl (by omega)) (fun _ => A2 _ _ _ _) (fun s3 B3 hB3 hR3 => A3 1000 ?_)
  change BExt B2 B3 at hB3
  repeat' (simp (maxSteps := 4000000) (disch := omega) only [go_sem, ↓reduceIte, hsp])
  exact ⟨hB1.trans (hB2.trans hB3), (), by simp [closed, A0, hcl]⟩
end Go.Proofs.Ytncjbfkkgdepoaa
namespace Go.Proofs.Ytncjbfkkgdepoaa
open Go RowKit Go.Ew
set_option maxHeartbeats 8000000
structure Bs where
 l : List UInt8
 ad : Option Addr
 c : Nat
def Bs.v (q : Bs) : Value := .slice q.ad q.l.length q.c
structure Bs.Ok (B : Base) (q : Bs) : Prop where
 b : BytesAt B q.ad q.l
 c : q.l.length ≤ q.c
 m : q.l.length ≤ 1099511627776
theorem Bs.Ok.ext {B B' : Base} {q : Bs} (h : q.Ok B) (e : BExt B B') : q.Ok B' := ⟨h.b.ext e, h.c, h.m⟩
theorem Cd1 {t : Nd} {m : List KV} (h : Agree t m) : Wf t := by
 rcases h.c with rfl | h
 ·exact .nil
 ·exact Cc0 h
end Go.Proofs.Ytncjbfkkgdepoaa
namespace Go.Proofs.Ytncjbfkkgdepoaa
open Go RowKit Go.Ew
set_option maxHeartbeats 4000000
/-- A receipt, and where its logs lie. -/
structure RcV where
 ty : UInt8
 ok : Int
 gas : Nat
 F : Blm
 lA : Option Addr
 lc : Nat
 L : List LogV
theorem Ai2 (k : IntKind) (z : Nat → Int) (n : Nat) : I0 (C9 k z n) = true := by
 unfold C9
 generalize List.range n = l
 induction l with
 | nil => rfl
 | cons i l ih => rw [List.map_cons, I0, ih]; rfl
end Go.Proofs.Ytncjbfkkgdepoaa
namespace Go.Proofs.Ytncjbfkkgdepoaa
open Go RowKit Go.Ew
set_option maxHeartbeats 4000000
def r0 : RcV := ⟨0, 1, 21000, zB, none, 0, []⟩
end Go.Proofs.Ytncjbfkkgdepoaa
namespace Go.Proofs.Ytncjbfkkgdepoaa
open Go RowKit Go.Ew
set_option maxHeartbeats 4000000
theorem D6 {B : Base} (ad : Option Addr) : BytesAt B ad [] := ⟨fun a _ h0 => absurd h0 (by simp), fun h => absurd h (by simp), fun j hj => absurd hj (by simp)⟩
end Go.Proofs.Ytncjbfkkgdepoaa
