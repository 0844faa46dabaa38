/- Part of a proof over the seat Ytncjbfkkgdepoaa. -/
import Derived.Test.YtncjbfkkgdepoaaG13
import Derived.Test.YtncjbfkkgdepoaaEng2
import Derived.Test.YtncjbfkkgdepoaaG12
import Derived.Test.YtncjbfkkgdepoaaG08
import Derived.Test.YtncjbfkkgdepoaaG09
import Derived.Test.YtncjbfkkgdepoaaG05
import Derived.StringKeys
set_option linter.unusedSimpArgs false
set_option linter.unusedVariables false
set_option maxRecDepth 100000
namespace Go.Proofs.Ytncjbfkkgdepoaa
open Go RowKit Go.Ew
theorem Cg3 : ∀ a : List UInt8, Op.bytesLess a a = false
 | [] => rfl
 | x :: a => by
  rw [Op.bytesLess, Cg3 a]
  simp
theorem Bi8 : ∀ a b c : List UInt8, Op.bytesLess a b = true → Op.bytesLess b c = true → Op.bytesLess a c = true
 | _, [], _, h, _ => by simp [Op.bytesLess] at h
 | _, _ :: _, [], _, h => by simp [Op.bytesLess] at h
 | [], _ :: _, _ :: _, _, _ => rfl
 | x :: a, y :: b, z :: c, h1, h2 => by
  simp only [Op.bytesLess, Bool.or_eq_true, decide_eq_true_eq, Bool.and_eq_true, beq_iff_eq] at *
  rcases h1 with h1 | ⟨rfl, h1⟩
  ·rcases h2 with h2 | ⟨rfl, h2⟩
   ·exact .inl (UInt8.lt_trans h1 h2)
   ·exact .inl h1
  ·rcases h2 with h2 | ⟨rfl, h2⟩
   ·exact .inl h2
   ·exact .inr ⟨rfl, Bi8 a b c h1 h2⟩
theorem Bi9 : ∀ a b : List UInt8, Op.bytesLess a b = true ∨ a = b ∨ Op.bytesLess b a = true
 | [], [] => .inr (.inl rfl)
 | [], _ :: _ => .inl rfl
 | _ :: _, [] => .inr (.inr rfl)
 | x :: a, y :: b => by
  simp only [Op.bytesLess, Bool.or_eq_true, decide_eq_true_eq, Bool.and_eq_true, beq_iff_eq, List.cons.injEq]
  rcases Nat.lt_trichotomy x.toNat y.toNat with h | h | h
  ·exact .inl (.inl (UInt8.lt_iff_toNat_lt.2 h))
  ·obtain rfl := UInt8.toNat_inj.1 h
   rcases Bi9 a b with h | rfl | h
   ·exact .inl (.inr ⟨rfl, h⟩)
   ·exact .inr (.inl ⟨rfl, rfl⟩)
   ·exact .inr (.inr (.inr ⟨rfl, h⟩))
  ·exact .inr (.inr (.inl (UInt8.lt_iff_toNat_lt.2 h)))
/-- The place of a key. -/
def atM : List KV → List UInt8 → Nat
 | [], _ => 0
 | p :: m, k => if Op.bytesLess p.1 k then atM m k + 1 else 0
def isM (m : List KV) (k : List UInt8) : Bool := match m[atM m k]? with | some p => p.1 == k | none => false
def Bn5 (m : List KV) (k v : List UInt8) : List KV :=
 m.take (atM m k) ++ (if v = [] then [] else [(k, v)]) ++ m.drop (atM m k + if isM m k then 1 else 0)
def Srt (m : List KV) : Prop := m.Pairwise fun p q => Op.bytesLess p.1 q.1 = true
theorem Ae8 {p : KV} {m : List KV} {k v : List UInt8} (h : Op.bytesLess p.1 k = true) : Bn5 (p :: m) k v = p :: Bn5 m k v := by
 have e : atM (p :: m) k = atM m k + 1 := by rw [atM, if_pos h]
 have e2 : isM (p :: m) k = isM m k := by rw [isM, e, List.getElem?_cons_succ, ← isM]
 rw [Bn5, Bn5, e, e2, show atM m k + 1 + (if isM m k then 1 else 0) = (atM m k + if isM m k then 1 else 0) + 1 by omega, List.drop_succ_cons, List.take_succ_cons, List.cons_append, List.cons_append]
theorem Ae9 {p : KV} {m : List KV} {k v : List UInt8} (h : Op.bytesLess p.1 k = false) : Bn5 (p :: m) k v = (if v = [] then [] else [(k, v)]) ++ (if p.1 = k then m else p :: m) := by
 have e : atM (p :: m) k = 0 := by rw [atM, if_neg (by rw [h]; simp)]
 have e2 : isM (p :: m) k = (p.1 == k) := by rw [isM, e]; rfl
 rw [Bn5, e, e2, List.take_zero, List.nil_append]
 by_cases hk : p.1 = k
 ·simp [hk]
 ·simp [hk]
theorem T6 : ∀ (m : List KV) (k v : List UInt8), Srt m → ∀ q, q ∈ Bn5 m k v ↔ (q = (k, v) ∧ v ≠ []) ∨ (q.1 ≠ k ∧ q ∈ m)
 | [], k, v, _, q => by
  simp only [Bn5, List.take_nil, List.drop_nil, List.nil_append, List.append_nil, List.not_mem_nil, and_false, or_false]
  split <;> simp_all
 | p :: m, k, v, hs, q => by
  have hs' := hs
  rw [Srt, List.pairwise_cons] at hs'
  obtain ⟨h1, h2⟩ := hs'
  by_cases hp : Op.bytesLess p.1 k = true
  ·rw [Ae8 hp, List.mem_cons, T6 m k v h2 q, List.mem_cons]
   have hpk : p.1 ≠ k := fun h => by rw [h, Cg3] at hp; cases hp
   constructor
   ·rintro (rfl | h | h)
    ·exact .inr ⟨hpk, .inl rfl⟩
    ·exact .inl h
    ·exact .inr ⟨h.1, .inr h.2⟩
   ·rintro (h | ⟨h, rfl | h'⟩)
    ·exact .inr (.inl h)
    ·exact .inl rfl
    ·exact .inr (.inr ⟨h, h'⟩)
  ·have hp' : Op.bytesLess p.1 k = false := by simpa using hp
   rw [Ae9 hp', List.mem_append]
   have e1 : (q ∈ (if v = [] then [] else [(k, v)])) ↔ (q = (k, v) ∧ v ≠ []) := by split <;> simp_all
   have hgt : ∀ r ∈ m, r.1 ≠ k := fun r hr h => by
    have := h1 r hr
    rw [h] at this
    rw [this] at hp'; cases hp'
   rw [e1]
   by_cases hk : p.1 = k
   ·rw [if_pos hk, List.mem_cons]
    constructor
    ·rintro (h | h)
     ·exact .inl h
     ·exact .inr ⟨hgt q h, .inr h⟩
    ·rintro (h | ⟨h, rfl | h'⟩)
     ·exact .inl h
     ·exact absurd hk h
     ·exact .inr h'
   ·rw [if_neg hk, List.mem_cons]
    constructor
    ·rintro (h | rfl | h)
     ·exact .inl h
     ·exact .inr ⟨hk, .inl rfl⟩
     ·exact .inr ⟨hgt q h, .inr h⟩
    ·rintro (h | ⟨h, h'⟩)
     ·exact .inl h
     ·exact .inr h'
theorem Bg1 : ∀ (m : List KV) (k v : List UInt8), Srt m → Srt (Bn5 m k v)
 | [], k, v, _ => by
  simp only [Bn5, List.take_nil, List.drop_nil, List.nil_append, List.append_nil]
  split <;> simp [Srt]
 | p :: m, k, v, hs => by
  have hs' := hs
  rw [Srt, List.pairwise_cons] at hs'
  obtain ⟨h1, h2⟩ := hs'
  by_cases hp : Op.bytesLess p.1 k = true
  ·rw [Ae8 hp, Srt, List.pairwise_cons]
   refine ⟨fun q hq => ?_, Bg1 m k v h2⟩
   rcases (T6 m k v h2 q).1 hq with ⟨rfl, _⟩ | ⟨_, h⟩
   ·exact hp
   ·exact h1 q h
  ·have hp' : Op.bytesLess p.1 k = false := by simpa using hp
   have hkm : ∀ r ∈ (if p.1 = k then m else p :: m), Op.bytesLess k r.1 = true := fun r hr => by
    by_cases hk : p.1 = k
    ·rw [if_pos hk] at hr; rw [← hk]; exact h1 r hr
    ·rw [if_neg hk] at hr
     have hkp : Op.bytesLess k p.1 = true := by
      rcases Bi9 p.1 k with h | h | h
      ·rw [hp'] at h; cases h
      ·exact absurd h hk
      ·exact h
     rcases List.mem_cons.1 hr with rfl | hr
     ·exact hkp
     ·exact Bi8 _ _ _ hkp (h1 r hr)
   have hsm : Srt (if p.1 = k then m else p :: m) := by split <;> assumption
   rw [Ae9 hp']
   split
   ·exact hsm
   ·rw [Srt, List.singleton_append, List.pairwise_cons]
    exact ⟨hkm, hsm⟩
theorem Bg7 : ∀ a b : List UInt8, G7 a = G7 b → a = b
 | [], [], _ => rfl
 | [], _ :: _, h => by simp [G7] at h
 | _ :: _, [], h => by simp [G7] at h
 | x :: a, y :: b, h => by
  have e : ∀ (x : UInt8) l, G7 (x :: l) = hiN x :: loN x :: G7 l := fun _ _ => rfl
  rw [e, e] at h
  simp only [List.cons.injEq] at h
  have h1 := congrArg UInt8.toNat h.1
  have h2 := congrArg UInt8.toNat h.2.1
  rw [Ad8, Ad8] at h1
  rw [O4, O4] at h2
  rw [Bg7 a b h.2.2, UInt8.toNat_inj.1 (show x.toNat = y.toNat by omega)]
theorem Bq7 (a : List UInt8) : ∀ x ∈ G7 a, x.toNat < 16 := by
 intro x hx
 rw [G7, List.mem_flatMap] at hx
 obtain ⟨c, _, hx⟩ := hx
 have := c.toNat_lt
 simp only [List.mem_cons, List.not_mem_nil, or_false] at hx
 rcases hx with rfl | rfl
 ·rw [Ad8]; omega
 ·rw [O4]; omega
structure Agree (t : Nd) (m : List KV) : Prop where
 c : t = .nil ∨ Canon t
 s : Srt m
 v : ∀ p ∈ m, p.2 ≠ []
 g : ∀ q v, v ≠ [] → (S3 t q = v ↔ ∃ p ∈ m, G7 p.1 = q ∧ p.2 = v)
theorem Agree.nil : Agree .nil [] := ⟨.inl rfl, List.Pairwise.nil, fun p hp => by simp at hp, fun q v hv => by simp [Cb2, Ne.symm hv]⟩
theorem Agree.put {t : Nd} {m : List KV} (h : Agree t m) (k v : List UInt8) (hv : v ≠ []) {f : Nat} (hf : (G7 k).length < f) : Agree (Q5 f t (G7 k) v) (Bn5 m k v) := by
 obtain ⟨h1, h2⟩ := Ci6 f t (G7 k) v h.c hf (Bq7 k) hv
 refine ⟨.inr h1, Bg1 m k v h.s, fun p hp => ?_, fun q w hw => ?_⟩
 ·rcases (T6 m k v h.s p).1 hp with ⟨rfl, _⟩ | ⟨_, hp⟩
  ·exact hv
  ·exact h.v p hp
 ·rw [h2 q]
  by_cases e : q = G7 k
  ·rw [if_pos e]
   constructor
   ·rintro rfl
    exact ⟨(k, v), (T6 m k v h.s _).2 (.inl ⟨rfl, hv⟩), e.symm, rfl⟩
   ·rintro ⟨p, hp, h3, h4⟩
    rcases (T6 m k v h.s p).1 hp with ⟨rfl, _⟩ | ⟨hn, _⟩
    ·exact h4
    ·exact absurd (Bg7 _ _ (h3.trans e)) hn
  ·rw [if_neg e, h.g q w hw]
   constructor
   ·rintro ⟨p, hp, h3, h4⟩
    exact ⟨p, (T6 m k v h.s p).2 (.inr ⟨fun h5 => e (by rw [← h3, h5]), hp⟩), h3, h4⟩
   ·rintro ⟨p, hp, h3, h4⟩
    rcases (T6 m k v h.s p).1 hp with ⟨rfl, _⟩ | ⟨_, hp⟩
    ·exact absurd h3.symm e
    ·exact ⟨p, hp, h3, h4⟩
end Go.Proofs.Ytncjbfkkgdepoaa
namespace Go.Proofs.Ytncjbfkkgdepoaa
open Go RowKit Go.Ew
set_option maxHeartbeats 8000000
theorem X6 (B : Base) : Does Try.prog 31 [] B (fun _ : Unit => .agg (C8 .u8 (O5 [128]) 32)) (fun _ _ => True) := by
 refine J9 Dk1 (fun s B B' hB hR => hR) Try.func31 rfl Dh2 (by simp [Try.f31]) (by simp [A0, closed]) (fun B0 hB0 => A3 1000 ?_)
 have hcl : ∀ n, A0 n (C8 .u8 (O5 [128]) 32) := fun n => A2 _ _ _ _
 repeat' (first | with_reducible refine And.intro (by first | omega | (simp; done)) ?_ | simp (maxSteps := 4000000) (disch := omega) only [go_sem, ↓reduceIte, Try.f31])
 refine Ac2 (vf := fun _ : Unit => .agg (C8 .u8 (O5 [128]) 32)) 1 0 1 1 [] [128] Dd3 (by simp [A0]) rfl rfl rfl (fun s => hcl _) (fun B ad cap hB hb => Ai9 [128] 1 B ad cap hb rfl (by omega)) (fun s1 B1 hB1 hR1 => A3 1000 ?_)
 change BExt B0 B1 at hB1
 have hsp : H7 (C8 .u8 (fun _ => 0) 32) 0 (C8 .u8 (O5 [128]) 32) = C8 .u8 (O5 [128]) 32 := by rw [← Z3]; exact P9 (O8 _) (by omega) _
 repeat' (first | with_reducible refine And.intro (by omega) ?_ | simp (maxSteps := 4000000) (disch := omega) only [go_sem, ↓reduceIte, hsp])
 first | exact ⟨hB1, (), rfl, hcl _, trivial⟩ | exact ⟨(), hcl _⟩
theorem Bt7 {S : Type} {B0 : Base} {o : S → EObj} {R : S → Base → Prop} {x : X} (s : S) (j : Nat) (hB : BExt B0 x.B) (hc : (o s).closed 0) (hg : hget x.hs j = some (o s)) (hR : R s x.B) :
  Bt8 0 B0 (fun _ => .ptr 0 0) (fun _ => 1) (fun s => [some (o s)]) R (.ptr j 0) x := by
 refine ⟨hB, s, fun _ => j, rfl, by simp [closed], fun i hi => absurd hi (Nat.not_lt_zero i), fun i o' hi => ?_, fun i j' oi oj hi hj _ => ?_, hR⟩
 ·cases i with
  | zero =>
   simp at hi; subst hi
   exact ⟨EObj.closed_mono (Nat.zero_le _) _ hc, by rw [hg]; congr 1; exact (EObj.ren_id (n := 0) (fun i hi => absurd hi (Nat.not_lt_zero i)) _ hc).symm⟩
  | succ i => simp at hi
 ·cases i with
  | zero => cases j' with
   | zero => rfl
   | succ j' => simp at hj
  | succ i => simp at hi
theorem Cf2 (B : Base) (sv : Value) (hsv : sv = .nilIface ∨ ∃ T v, sv = .iface T v) :
  Gen Try.prog 30 [.raw sv, .agg (C8 .u8 (O5 [128]) 32)] [] B (fun _ : Unit => .ptr 0 0) (fun _ => 1) (fun _ => [some (trO sv .nilIface)]) (fun _ _ => True) := by
 refine Cq7 0 [] Dk2 (fun s B B' hB hR => hR) Try.func30 rfl Dh3 (by simp [Try.f30]) (by simp [A0, closed, A2]) (by simp) (by simp) (by simp [Go.Ew.hget]) (fun B0 hB0 olds hol => A3 1000 ?_)
 have hcl : ∀ n, A0 n (C8 .u8 (O5 [128]) 32) := fun n => A2 _ _ _ _
 have hisI : (C8 .u8 (O5 [128]) 32).all (EV.isInt .u8) = true := by simp [C8, EV.isInt]
 have hn0 : ∀ q, G7 q = G7 q := fun _ => rfl
 rcases hsv with rfl | ⟨T, v, rfl⟩
 ·repeat' (first | simp (maxSteps := 4000000) (disch := omega) only [go_sem, ↓reduceIte, Try.f30, hisI] | with_reducible refine D6 (id := 2) [0, 1, 2] mixed (by kernel_rfl) (by simp) (fun hin => D4 1000 hin ?_) | with_reducible refine E1 (by kernel_rfl) (C3 (by kernel_rfl)) (A3 1000 ?_) | refine At4 (X6 B0) (by simp [closed, A0, A2, C4]) (by kernel_rfl) (F9 (by kernel_rfl) (C3 (by kernel_rfl))) (fun hin => D4 1000 hin ?_))
  exact Bt7 () 1 (BExt.refl _) (C7 _ _) rfl trivial
 ·repeat' (first | simp (maxSteps := 4000000) (disch := omega) only [go_sem, ↓reduceIte, Try.f30, hisI] | with_reducible refine D6 (id := 2) [0, 1, 2] mixed (by kernel_rfl) (by simp) (fun hin => D4 1000 hin ?_) | with_reducible refine E1 (by kernel_rfl) (C3 (by kernel_rfl)) (A3 1000 ?_) | refine At4 (X6 B0) (by simp [closed, A0, A2, C4]) (by kernel_rfl) (F9 (by kernel_rfl) (C3 (by kernel_rfl))) (fun hin => D4 1000 hin ?_))
  exact Bt7 () 1 (BExt.refl _) (C7 _ _) rfl trivial
theorem Ck2 (B : Base) (sv rv : Value) : Turn2 Try.prog 35 [] (trO sv rv) B (fun _ : Unit => .bool true) (fun _ => trO sv rv) (fun _ _ => True) := by
 refine Q3 Dj9 (fun s B B' hB hR => hR) Try.func35 rfl Dg8 (by simp [Try.f35]) (by simp [A0, closed]) (C7 _ _) (fun u => C7 _ _) (fun B0 hB0 b => A3 1000 ?_)
 repeat' (first | with_reducible refine And.intro (by first | omega | (simp; done)) ?_ | simp (maxSteps := 4000000) (disch := omega) only [go_sem, ↓reduceIte, Try.f35, trO])
 exact ⟨BExt.refl _, (), trivial⟩
theorem Bo3 (B : Base) (sv rv : Value) {nd : Nd} {key v : List UInt8} {kn kc vn vc f : Nat} {kA vA : Option Addr} (hd : NdAt B nd rv) (hw : Wf nd) (hk : BytesAt B kA key) (hv : BytesAt B vA v) (hkn : key.length = kn) (hvn : v.length = vn) (hk64 : kn ≤ 64) (hv0 : 0 < vn) (hvm : vn ≤ 1048576) (hf : (G7 key).length < f) :
  Turn2 Try.prog 33 [.raw (.slice kA kn kc), .raw (.slice vA vn vc)] (trO sv rv) B (fun _ : Value => .int .i64 0) (fun u => trO sv u) (fun u B' => NdAt B' (Q5 f nd (G7 key) v) u) := by
 refine Q3 Cy3 (fun s B B' hB hR => hR.ext' hB) Try.func33 rfl Dh0 (by simp [Try.f33]) (by simp [A0, closed]) (C7 _ _) (fun u => C7 _ _) (fun B0 hB0 b => A3 1000 ?_)
 replace hd := hd.ext' hB0
 replace hk := hk.ext hB0
 replace hv := hv.ext hB0
 have c1 : decide ((64 : Int) < (kn : Int)) = false := decide_eq_false (by omega)
 have c2 : decide ((1048576 : Int) < (vn : Int)) = false := decide_eq_false (by omega)
 have c3 : (((vn : Nat) : Int) == 0) = false := by rw [beq_eq_false_iff_ne]; omega
 repeat' (simp (maxSteps := 4000000) (disch := omega) only [go_sem, ↓reduceIte, Try.f33])
 refine O9 0 (Ck2 B0 sv rv) rfl (fun _ => trivial) (C7 _ _) (fun _ => C7 _ _) (fun _ B1 hB1 _ => A3 1000 ?_)
 change BExt B0 B1 at hB1
 repeat' (first | with_reducible refine And.intro (by omega) ?_ | simp (maxSteps := 4000000) (disch := omega) only [go_sem, ↓reduceIte, c1, c2, c3, trO] | with_reducible refine D6 (id := 7) [0, 1, 2, 3, 4, 5, 7, 6, 8, 9, 10, 11, 12, 13, 14] mixed (by kernel_rfl) (by simp) (fun hin => D4 1000 hin ?_))
 refine G8 (Ad3 key kn _ kA kc (hk.ext hB1) hkn (by omega)) (fun _ => by simp [closed]) (by kernel_rfl) (F9 (by kernel_rfl) (C3 (by kernel_rfl))) (fun hin2 s2 B2 hB2 hR2 => D4 1000 hin2 ?_)
 change BExt B1 B2 at hB2
 repeat' (simp (maxSteps := 4000000) (disch := omega) only [go_sem, ↓reduceIte])
 refine G8 (Ba0 v vn _ vA vc ((hv.ext hB1).ext hB2) hvn (by omega)) (fun _ => by simp [closed]) (by kernel_rfl) (F9 (by kernel_rfl) (C3 (by kernel_rfl))) (fun hin2 s3 B3 hB3 hR3 => D4 1000 hin2 ?_)
 change BExt B2 B3 at hB3
 repeat' (simp (maxSteps := 4000000) (disch := omega) only [go_sem, ↓reduceIte])
 have hnl := O7 key
 refine Ac1 0 (Co5 sv rv f nd B3 rv (G7 key) v s2.1 s3.1 (G7 key).length s2.2 vn s3.2 (hd.ext' (hB1.trans (hB2.trans hB3))) hw hf (Bq7 key) rfl hvn (hR2.1.ext hB3) hR3.1 hR2.2 (by omega) (by omega)) rfl (fun _ => by simp [closed, A0]) (C7 _ _) (fun _ => C7 _ _) (by kernel_rfl) (F9 (by kernel_rfl) (C3 (by kernel_rfl))) (fun hin2 u B4 hB4 hR4 => D4 1000 hin2 ?_)
 change BExt B3 B4 at hB4
 obtain ⟨T2, a2, rfl⟩ : ∃ T a, u = .iface T (.pointer (some ⟨a, 0, none⟩)) := by
  rcases hR4.cases' with ⟨hu, _⟩ | ⟨_, h⟩
  ·exact absurd hu (Bb8 _ _ _ _)
  ·exact h
 repeat' (first | with_reducible refine And.intro (by omega) ?_ | simp (maxSteps := 4000000) (disch := omega) only [go_sem, ↓reduceIte, trO] | with_reducible refine E1 (by kernel_rfl) (C3 (by kernel_rfl)) (A3 1000 ?_))
 exact ⟨hB1.trans (hB2.trans (hB3.trans hB4)), _, trivial, rfl, hR4⟩
theorem Ch9 (B : Base) (sv rv : Value) {nd : Nd} (hd : NdAt B nd rv) :
  Turn2 Try.prog 21 [] (trO sv rv) B (fun _ : Unit => .tup [.agg (C8 .u8 (O5 (J2 (E4 nd))) 32), .int .i64 0]) (fun _ => trO sv rv) (fun _ _ => True) := by
 refine Q3 Dk4 (fun s B B' hB hR => hR) Try.func21 rfl Dh6 (by simp [Try.f21]) (by simp [A0, closed]) (C7 _ _) (fun u => C7 _ _) (fun B0 hB0 b => A3 1000 ?_)
 replace hd := hd.ext' hB0
 have hcl : ∀ p n, A0 n (C8 .u8 (O5 p) 32) := fun p n => A2 _ _ _ _
 have hsp : ∀ p, H7 (C8 .u8 (fun _ => 0) 32) 0 (C8 .u8 (O5 p) 32) = C8 .u8 (O5 p) 32 := fun p => by rw [← Z3]; exact P9 (O8 _) (by omega) _
 repeat' (simp (maxSteps := 4000000) (disch := omega) only [go_sem, ↓reduceIte, Try.f21])
 refine O9 0 (Ck2 B0 sv rv) rfl (fun _ => trivial) (C7 _ _) (fun _ => C7 _ _) (fun _ B1 hB1 _ => A3 1000 ?_)
 change BExt B0 B1 at hB1
 replace hd := hd.ext' hB1
 rcases hd.cases' with ⟨rfl, rfl⟩ | ⟨hkn, T, a, rfl⟩
 ·have hfe : J2 (E4 .nil) = [128] := rfl
  rw [hfe]
  repeat' (first | with_reducible refine And.intro (by omega) ?_ | simp (maxSteps := 4000000) (disch := omega) only [go_sem, ↓reduceIte, trO])
  refine As8 rfl Try.underlying71 rfl (A3 1000 ?_)
  repeat' (first | with_reducible refine And.intro (by omega) ?_ | simp (maxSteps := 4000000) (disch := omega) only [go_sem, ↓reduceIte, hsp] | refine G9 (X6 B1) (by simp [closed, A0, A2, C4]) (A3 1000 ?_))
  exact ⟨(), by simp [closed, A0, hcl]⟩
 ·have hTn := Bg6 hd
  have hfm := Bu1 hd (Bd1 nd hd T a rfl) (Da7 nd) (Cb4 hd)
  have hfl := Cb4 hd
  obtain ⟨p, hp⟩ : ∃ p, p = J2 (E4 nd) := ⟨_, rfl⟩
  rw [← hp] at hfm hfl ⊢
  repeat' (first | with_reducible refine And.intro (by omega) ?_ | simp (maxSteps := 4000000) (disch := omega) only [go_sem, ↓reduceIte, trO])
  refine Ab8 rfl Try.underlying71 rfl (A3 1000 ?_)
  repeat' (simp (maxSteps := 4000000) (disch := omega) only [go_sem, ↓reduceIte])
  refine Am6 rfl Try.underlying78 Ag9 rfl hTn (A3 1000 ?_)
  repeat' (simp (maxSteps := 4000000) (disch := omega) only [go_sem, ↓reduceIte])
  refine F4 hfm (fun _ => by simp [closed, A0]) (fun s2 B2 hB2 hR2 => A3 1000 ?_)
  change BExt B1 B2 at hB2
  repeat' (simp (maxSteps := 4000000) (disch := omega) only [go_sem, ↓reduceIte])
  refine F4 (Ai9 p _ _ s2.1 s2.2 hR2.1 rfl (by omega)) (fun _ => A2 _ _ _ _) (fun s3 B3 hB3 hR3 => A3 1000 ?_)
  change BExt B2 B3 at hB3
  repeat' (simp (maxSteps := 4000000) (disch := omega) only [go_sem, ↓reduceIte, hsp])
  exact ⟨hB1.trans (hB2.trans hB3), (), by simp [closed, A0, hcl]⟩
end Go.Proofs.Ytncjbfkkgdepoaa
namespace Go.Proofs.Ytncjbfkkgdepoaa
open Go RowKit Go.Ew
set_option maxHeartbeats 8000000
structure Bs where
 l : List UInt8
 ad : Option Addr
 c : Nat
def Bs.v (q : Bs) : Value := .slice q.ad q.l.length q.c
structure Bs.Ok (B : Base) (q : Bs) : Prop where
 b : BytesAt B q.ad q.l
 c : q.l.length ≤ q.c
 m : q.l.length ≤ 1099511627776
theorem Bs.Ok.ext {B B' : Base} {q : Bs} (h : q.Ok B) (e : BExt B B') : q.Ok B' := ⟨h.b.ext e, h.c, h.m⟩
theorem Cd6 {t : Nd} {m : List KV} (h : Agree t m) : Wf t := by
 rcases h.c with rfl | h
 ·exact .nil
 ·exact Cc7 h
end Go.Proofs.Ytncjbfkkgdepoaa
namespace Go.Proofs.Ytncjbfkkgdepoaa
open Go RowKit Go.Ew
set_option maxHeartbeats 4000000
/-- A receipt, and where its logs lie. -/
structure RcV where
 ty : UInt8
 ok : Int
 gas : Nat
 F : Blm
 lA : Option Addr
 lc : Nat
 L : List LogV
theorem Ai4 (k : IntKind) (z : Nat → Int) (n : Nat) : H8 (C8 k z n) = true := by
 unfold C8
 generalize List.range n = l
 induction l with
 | nil => rfl
 | cons i l ih => rw [List.map_cons, H8, ih]; rfl
end Go.Proofs.Ytncjbfkkgdepoaa
namespace Go.Proofs.Ytncjbfkkgdepoaa
open Go RowKit Go.Ew
set_option maxHeartbeats 4000000
def r0 : RcV := ⟨0, 1, 21000, zB, none, 0, []⟩
end Go.Proofs.Ytncjbfkkgdepoaa
namespace Go.Proofs.Ytncjbfkkgdepoaa
open Go RowKit Go.Ew
set_option maxHeartbeats 4000000
theorem F6 {B : Base} (ad : Option Addr) : BytesAt B ad [] := ⟨fun a _ h0 => absurd h0 (by simp), fun h => absurd h (by simp), fun j hj => absurd hj (by simp)⟩
end Go.Proofs.Ytncjbfkkgdepoaa
namespace Go.Proofs.Ytncjbfkkgdepoaa
open Go RowKit Go.Ew
set_option maxHeartbeats 8000000
theorem Dh9 : C5 Try.f12.ntmps (Try.f12.body.getD .skip) = true := by kernel_rfl
theorem Dg5 : C5 Try.f41.ntmps (Try.f41.body.getD .skip) = true := by kernel_rfl
theorem Dh1 : C5 Try.f32.ntmps (Try.f32.body.getD .skip) = true := by kernel_rfl
theorem Cv8 (c : UInt8) : ((c.toNat : Int)).tdiv 16 = ((hiN c).toNat : Int) := by
 rw [Ad8, Int.tdiv_eq_ediv_of_nonneg (by omega)]; omega
theorem Cv7 (c : UInt8) : ((c.toNat : Int)).tmod 16 = ((loN c).toNat : Int) := by
 rw [O4, Int.tmod_eq_emod_of_nonneg (by omega)]; omega
theorem Db7 (c : UInt8) : IntKind.u8.wrap (c.toNat : Int) = (c.toNat : Int) := by
 have h : ∀ n : Fin 256, IntKind.u8.wrap ((n.val : Nat) : Int) = ((n.val : Nat) : Int) := by decide +kernel
 exact h ⟨c.toNat, c.toNat_lt⟩
theorem Ci0 (b : List UInt8) (n : Nat) (B : Base) (ad : Option Addr) (cap : Nat) (hb : BytesAt B ad b) (hn : b.length = n) (hc : n ≤ 1099511627776) :
  Does Try.prog 12 [.raw (.slice ad n cap)] B (fun s : Option Addr × Nat => .raw (.slice s.1 (G7 b).length s.2)) (fun s B' => BytesAt B' s.1 (G7 b) ∧ (G7 b).length ≤ s.2) := by
 subst hn
 refine J9 Dk7 (fun s B B' hB hR => ⟨hR.1.ext hB, hR.2⟩) Try.func12 rfl Dh9 (by simp [Try.f12]) (by simp [A0, closed]) (fun B0 hB0 => A3 1000 ?_)
 replace hb := hb.ext hB0
 have eN : ∀ r n, lE r n none = .raw (.slice none 0 0) := fun _ _ => rfl
 have oN : ∀ T xs, lO T xs none = none := fun _ _ => rfl
 have cn : ∀ n, clO n (none : Option EObj) = True := fun n => by simp [clO]
 repeat' (simp (maxSteps := 4000000) (disch := omega) only [go_sem, ↓reduceIte, Try.f12])
 refine G1 (S := Nat × Lst) (fun s => s.1 ≤ b.length ∧ lOk [.int .u8 0] (G7 (b.take s.1)).length s.2)
  (fun s => ⟨[(4, .int .i64 (s.1 : Nat)), (3, lE 0 (G7 (b.take s.1)).length s.2), (0, .raw (.slice ad b.length cap))], 1, [(0, lO 5 ((G7 (b.take s.1)).map bE) s.2)], B0, []⟩)
  (fun s => b.length - s.1) (0, none) ⟨Nat.zero_le _, rfl⟩ (Weak.sub (A5 (by simp [wσ, go_sem, closed, A0, A4, eN, oN, cn, List.take_zero, G7] <;> omega) (by simp [whs, Go.Ew.hget, go_sem, EObj.closed, closed, A0, A4, eN, oN, cn, List.take_zero, G7]) (by first | (simp [*]; done) | (simp only [cxG]; omega)) rfl rfl (by simp))) ?_
 rintro ⟨i, l⟩ ⟨hi, hl⟩
 simp only at hi hl ⊢
 rcases Nat.lt_or_ge i b.length with hi2 | hi2
 ·have cA : decide ((i : Int) < (b.length : Int)) = true := decide_eq_true (by omega)
  have m1 := hb.ld i hi2
  have m2 := hb.lS i hi2
  have m3 := hb.lD (by omega)
  have m4 := hb.ok.so (by omega)
  have htk := Ai7 hi2
  have hgi : b.getD i 0 = b[i] := by rw [List.getD_eq_getElem?_getD, List.getElem?_eq_getElem hi2]; rfl
  rw [hgi] at m1
  obtain ⟨c, hc0⟩ : ∃ c, c = b[i] := ⟨_, rfl⟩
  rw [← hc0] at m1 htk
  have e4 := Cv8 c
  have e15 := Cv7 c
  have hlen := O7 (b.take i)
  have hlt : (b.take i).length = i := by rw [List.length_take]; omega
  have hlen2 : (G7 (b.take (i + 1))).length = (G7 (b.take i)).length + 2 := by rw [htk, List.length_append]; rfl
  obtain ⟨N, hN⟩ : ∃ N, N = G7 (b.take i) := ⟨_, rfl⟩
  rw [← hN] at hl htk hlen hlen2 ⊢
  have hav := Ck0 (T := 5) hl (A7 0 N) hz8
  refine A3 1000 ?_
  have w1 : IntKind.u8.wrap ((hiN c).toNat : Int) = ((hiN c).toNat : Int) := Db7 _
  have w2 : IntKind.u8.wrap ((loN c).toNat : Int) = ((loN c).toNat : Int) := Db7 _
  rcases l with _ | ⟨cp0, rest0⟩
  ·repeat' (first | with_reducible refine And.intro (by first | omega | (constructor <;> assumption) | (simp; done) | (simp [*]; done)) ?_ | simp (maxSteps := 4000000) (disch := omega) only [go_sem, ↓reduceIte, cA, Int.toNat_natCast, m1, bE, e4, e15, w1, w2] | with_reducible refine D6 (id := 5) [0, 1, 2, 3, 4, 5, 6, 7, 8, 9, 10, 11, 12, 13] mixed (by kernel_rfl) (by simp) (fun hin => D4 1000 hin ?_))
   refine Ac3 (T := 5) (l := none) (xs := N) 23 0 N.length [hiN c, loN c] [100022] rfl rfl Try.underlying22 (.inl ⟨_, Try.underlying22⟩) zr5 cz5 by5 rfl rfl rfl hl (fun B hs hB hfb => ⟨_, J5 (m := 2) (by rw [hfb 100022 (by simp)]; rfl) rfl, by simp⟩) (by simp only [List.length_cons, List.length_nil]; omega) (by simp) (by kernel_rfl) (F9 (by kernel_rfl) (C3 (by kernel_rfl))) (fun l5 hl5 => D4 1000 (by assumption) ?_)
   have hl5' := hl5
   have hav5 := Ck0 (T := 5) hl5 (A7 0 (N ++ [hiN c, loN c])) hz8
   obtain ⟨cp2, rest2, rfl, -⟩ := E6 hl5 (by simp)
   simp only [C1]
   repeat' (simp (maxSteps := 4000000) (disch := omega) only [go_sem, ↓reduceIte])
   refine E1 (by kernel_rfl) (C3 (by kernel_rfl)) ?_
   refine L0 [100023] 0 (by simp) (by simp) (by simp) (by simp) (A3 1000 ?_)
   rw [← htk]
   have hl6 : lOk [.int .u8 0] (G7 (b.take (i + 1))).length (some (cp2, rest2)) := by rw [hlen2]; exact hl5'
   have hl7 : N.length + 2 = (G7 (b.take (i + 1))).length := by rw [hlen2]
   rw [hl7]
   repeat' (simp (maxSteps := 4000000) (disch := omega) only [go_sem, ↓reduceIte, okC, okE, U9, F2, H2 (ks := [100023]) (k := 0) hl6 (A7 0 (G7 (b.take (i + 1)))) hz8, E3])
   have cl2 : ∀ n, clO n (lO 5 ((G7 (b.take (i + 1))).map bE) (some (cp2, rest2))) = True := fun n => J4 hl6 (A7 0 _) hz8
   exact ⟨(i + 1, some (cp2, rest2)), ⟨hi2, hl6⟩, Weak.sub (A5 (by simp [wσ, go_sem, closed, A0, A4, cl2, C1] <;> omega) (by simp [whs, Go.Ew.hget, go_sem, EObj.closed, closed, A0, A4, cl2, C1]) (by first | (simp [*]; done) | (simp only [cxG]; omega)) rfl rfl (by simp)), by simp only; omega⟩
  ·repeat' (first | with_reducible refine And.intro (by first | omega | (constructor <;> assumption) | (simp; done) | (simp [*]; done)) ?_ | simp (maxSteps := 4000000) (disch := omega) only [go_sem, ↓reduceIte, cA, Int.toNat_natCast, m1, bE, e4, e15, w1, w2] | with_reducible refine D6 (id := 5) [0, 1, 2, 3, 4, 5, 6, 7, 8, 9, 10, 11, 12, 13] mixed (by kernel_rfl) (by simp) (fun hin => D4 1000 hin ?_))
   refine Ac3 (T := 5) (l := some (cp0, rest0)) (xs := N) 23 0 N.length [hiN c, loN c] [100022] rfl rfl Try.underlying22 (.inl ⟨_, Try.underlying22⟩) zr5 cz5 by5 rfl rfl rfl hl (fun B hs hB hfb => ⟨_, J5 (m := 2) (by rw [hfb 100022 (by simp)]; rfl) rfl, by simp⟩) (by simp only [List.length_cons, List.length_nil]; omega) (by simp) (by kernel_rfl) (F9 (by kernel_rfl) (C3 (by kernel_rfl))) (fun l5 hl5 => D4 1000 (by assumption) ?_)
   have hl5' := hl5
   have hav5 := Ck0 (T := 5) hl5 (A7 0 (N ++ [hiN c, loN c])) hz8
   obtain ⟨cp2, rest2, rfl, -⟩ := E6 hl5 (by simp)
   simp only [C1]
   repeat' (simp (maxSteps := 4000000) (disch := omega) only [go_sem, ↓reduceIte])
   refine E1 (by kernel_rfl) (C3 (by kernel_rfl)) ?_
   refine L0 [100023] 0 (by simp) (by simp) (by simp) (by simp) (A3 1000 ?_)
   rw [← htk]
   have hl6 : lOk [.int .u8 0] (G7 (b.take (i + 1))).length (some (cp2, rest2)) := by rw [hlen2]; exact hl5'
   have hl7 : N.length + 2 = (G7 (b.take (i + 1))).length := by rw [hlen2]
   rw [hl7]
   repeat' (simp (maxSteps := 4000000) (disch := omega) only [go_sem, ↓reduceIte, okC, okE, U9, F2, H2 (ks := [100023]) (k := 0) hl6 (A7 0 (G7 (b.take (i + 1)))) hz8, E3])
   have cl2 : ∀ n, clO n (lO 5 ((G7 (b.take (i + 1))).map bE) (some (cp2, rest2))) = True := fun n => J4 hl6 (A7 0 _) hz8
   exact ⟨(i + 1, some (cp2, rest2)), ⟨hi2, hl6⟩, Weak.sub (A5 (by simp [wσ, go_sem, closed, A0, A4, cl2, C1] <;> omega) (by simp [whs, Go.Ew.hget, go_sem, EObj.closed, closed, A0, A4, cl2, C1]) (by first | (simp [*]; done) | (simp only [cxG]; omega)) rfl rfl (by simp)), by simp only; omega⟩
 ·obtain rfl : i = b.length := by omega
  have cA : decide ((b.length : Int) < (b.length : Int)) = false := decide_eq_false (by omega)
  rw [List.take_length] at hl ⊢
  refine J8 (xs := G7 b) (T := 5) 0 (G7 b).length rfl rfl hl (by simp) (fun b2 ad2 cap2 B4 hB4 hfz hbY hcap2 => A3 1000 ?_)
  change BExt B0 B4 at hB4
  repeat' (first | with_reducible refine And.intro (by omega) ?_ | simp (maxSteps := 4000000) (disch := omega) only [go_sem, ↓reduceIte, cA, hfz] | with_reducible refine A3 1000 ?_)
  first | exact ⟨hB4, (ad2, cap2), rfl, by simp [closed, A0], ⟨hbY, hcap2⟩⟩ | exact ⟨(ad2, cap2), rfl, by simp [closed, A0], ⟨hbY, hcap2⟩⟩ | exact ⟨hB4, (ad2, cap2), by simp [closed, A0], ⟨hbY, hcap2⟩⟩ | exact ⟨(ad2, cap2), by simp [closed, A0], ⟨hbY, hcap2⟩⟩ | exact ⟨hB4, (ad2, cap2), by simp [closed, A0, F6]⟩ | exact ⟨(ad2, cap2), by simp [closed, A0, F6]⟩
theorem Ck3 (p : List UInt8) (n : Nat) (B : Base) (ad : Option Addr) (cap : Nat) (h : BytesAt B ad p) (hn : p.length = n) (hp : n < 2 ^ 46) :
  Does Try.prog 41 [.raw (.slice ad n cap)] B (fun _ : Unit => .agg (C8 .u8 (O5 p) 32)) (fun _ _ => True) := by
 refine J9 Dd2 (fun s B B' hB hR => hR) Try.func41 rfl Dg5 (by simp [Try.f41]) (by simp [A0, closed]) (fun B0 hB0 => A3 1000 ?_)
 have hcl : ∀ n, A0 n (C8 .u8 (O5 p) 32) := fun n => A2 _ _ _ _
 have hsp : H7 (C8 .u8 (fun _ => 0) 32) 0 (C8 .u8 (O5 p) 32) = C8 .u8 (O5 p) 32 := by rw [← Z3]; exact P9 (O8 _) (by omega) _
 repeat' (simp (maxSteps := 4000000) (disch := omega) only [go_sem, ↓reduceIte, Try.f41])
 refine F4 (Av7 p n _ ad cap (h.ext hB0) hn hp) (fun _ => hcl _) (fun s3 B3 hB3 hR3 => A3 1000 ?_)
 change BExt B0 B3 at hB3
 repeat' (first | with_reducible refine And.intro (by omega) ?_ | simp (maxSteps := 4000000) (disch := omega) only [go_sem, ↓reduceIte, hsp])
 exact ⟨(), hcl _⟩
theorem Bp4 (B : Base) : Does Try.prog 32 [] B (fun _ : Unit => .agg (C8 .u8 (O5 [128]) 32)) (fun _ _ => True) := by
 refine J9 Dk0 (fun s B B' hB hR => hR) Try.func32 rfl Dh1 (by simp [Try.f32]) (by simp [A0, closed]) (fun B0 hB0 => A3 1000 ?_)
 have hcl : ∀ n, A0 n (C8 .u8 (O5 [128]) 32) := fun n => A2 _ _ _ _
 repeat' (first | with_reducible refine And.intro (by first | omega | (simp; done)) ?_ | simp (maxSteps := 4000000) (disch := omega) only [go_sem, ↓reduceIte, Try.f32])
 refine Ac2 (vf := fun _ : Unit => .agg (C8 .u8 (O5 [128]) 32)) 1 0 1 1 [] [128] Dd2 (by simp [A0]) rfl rfl rfl (fun s => hcl _) (fun B ad cap hB hb => Ck3 [128] 1 B ad cap hb rfl (by omega)) (fun s1 B1 hB1 hR1 => A3 1000 ?_)
 change BExt B0 B1 at hB1
 have hsp : H7 (C8 .u8 (fun _ => 0) 32) 0 (C8 .u8 (O5 [128]) 32) = C8 .u8 (O5 [128]) 32 := by rw [← Z3]; exact P9 (O8 _) (by omega) _
 repeat' (first | with_reducible refine And.intro (by omega) ?_ | simp (maxSteps := 4000000) (disch := omega) only [go_sem, ↓reduceIte, hsp])
 exact ⟨(), hcl _⟩
end Go.Proofs.Ytncjbfkkgdepoaa
namespace Go.Proofs.Ytncjbfkkgdepoaa
open Go RowKit Go.Ew
set_option maxHeartbeats 8000000
structure Pr where
 k : Bs
 v : Bs
def Pr.cells (p : Pr) : List Value := [p.k.v, p.v.v]
def Pr.E (p : Pr) : List EV := [.raw p.k.v, .raw p.v.v]
def Pr.kv (p : Pr) : KV := (p.k.l, p.v.l)
structure PrsAt (B : Base) (ad : Option Addr) (ps : List Pr) : Prop where
 c : CellsAt B ad (ps.flatMap Pr.cells)
 ok : ∀ p ∈ ps, p.k.Ok B ∧ p.v.Ok B
 len : ps.length ≤ 1099511627776
theorem PrsAt.ext {B B' : Base} {ad : Option Addr} {ps : List Pr} (h : PrsAt B ad ps) (e : BExt B B') : PrsAt B' ad ps := ⟨h.c.ext e, fun q hq => ⟨(h.ok q hq).1.ext e, (h.ok q hq).2.ext e⟩, h.len⟩
theorem Ci8 (ps : List Pr) : (ps.flatMap Pr.cells).length = ps.length * 2 := by rw [R0 (k := 2) (fun q _ => rfl)]; omega
theorem PrsAt.ld {B : Base} {ad : Option Addr} {ps : List Pr} (h : PrsAt B ad ps) {i : Nat} (hi : i < ps.length) :
  F5 B (I0 ad (i * 2)) = .raw (.slice ps[i].k.ad ps[i].k.l.length ps[i].k.c) ∧ F5 B (I0 ad (i * 2 + 1)) = .raw (.slice ps[i].v.ad ps[i].v.l.length ps[i].v.c) ∧ B.D (adr ad).block ∧ (B.w.cell? (I0 ad (i * 2))).isSome = true ∧ (B.w.cell? (I0 ad (i * 2 + 1))).isSome = true ∧ ad.isSome = true := by
 have g := fun j (hj : j < 2) => As5 (f := Pr.cells) (k := 2) (l := ps) (i := i) (j := j) (fun q _ => rfl) hi hj
 have h0 := h.c.raw (j := i * 2) (v := (ps[i]).k.v) (g 0 (by omega))
 have h1 := h.c.raw (j := i * 2 + 1) (v := (ps[i]).v.v) (g 1 (by omega))
 exact ⟨h0.1, h1.1, h0.2.1, h0.2.2, h1.2.2, h.c.so (by rw [Ci8]; omega)⟩
theorem Ah5 (l : List UInt8) : (Aa3 l).toList = l := by rw [Aq2, ByteArray.toList_eq]
end Go.Proofs.Ytncjbfkkgdepoaa
namespace Go.Proofs.Ytncjbfkkgdepoaa
open Go RowKit Go.Ew
set_option maxHeartbeats 16000000
def Cd3 (p : KV) : Bool := decide (64 < p.1.length) || decide (1048576 < p.2.length)
def At0 (l : List KV) (i : Nat) : Bool := decide ((l.getD i ([], [])).1 ∈ (l.take i).map Prod.fst) || decide ((l.getD i ([], [])).2 = [])
def Cr0 (l : List KV) : Bool := (List.range l.length).any (At0 l)
def rtE (l : List KV) : Nat := if l.any Cd3 then 2 else if Cr0 l then 122 else 0
def rtN (l : List KV) : Nat → Nd
 | 0 => .nil
 | n + 1 => Q5 200 (rtN l n) (G7 (l.getD n ([], [])).1) (l.getD n ([], [])).2
def rtM (l : List KV) : Nat → List KV
 | 0 => []
 | n + 1 => Bn5 (rtM l n) (l.getD n ([], [])).1 (l.getD n ([], [])).2
def rtB (l : List KV) : List UInt8 := J2 (E4 (rtN l l.length))
def rtH (l : List KV) : List EV := if rtE l = 0 then C8 .u8 (O5 (rtB l)) 32 else C8 .u8 (fun _ => 0) 32
theorem Bh8 {l : List KV} {i : Nat} (hi : i < l.length) (h : At0 l i = true) : Cr0 l = true := by
 rw [Cr0, List.any_eq_true]; exact ⟨i, List.mem_range.2 hi, h⟩
theorem Cc0 {l : List KV} (h : ∀ i, i < l.length → At0 l i = false) : Cr0 l = false := by
 rw [Cr0, List.any_eq_false]; intro i hi; rw [h i (List.mem_range.1 hi)]; simp
theorem Bw7 {l : List KV} (h : l.any Cd3 = false) {p : KV} (hp : p ∈ l) : p.1.length ≤ 64 ∧ p.2.length ≤ 1048576 := by
 have := List.any_eq_false.1 h p hp
 simp only [Cd3, Bool.or_eq_true, decide_eq_true_eq, not_or] at this
 omega
theorem Bf6 (l : List KV) (hb : l.any Cd3 = false) : ∀ n, n ≤ l.length → (∀ j, j < n → At0 l j = false) → Agree (rtN l n) (rtM l n)
 | 0, _, _ => Agree.nil
 | n + 1, hn, hd => by
  have ih := Bf6 l hb n (by omega) (fun j hj => hd j (by omega))
  have h1 := hd n (by omega)
  have hg : l.getD n ([], []) = l[n]'(by omega) := by simp [List.getD, (by omega : n < l.length)]
  have h2 := Bw7 hb (List.getElem_mem (by omega : n < l.length))
  rw [At0, Bool.or_eq_false_iff] at h1
  rw [rtN, rtM]
  refine ih.put _ _ (by simpa using h1.2) ?_
  rw [hg, O7]; omega
abbrev Bk0 (k : List UInt8) : Value := .string (Aa3 k)
theorem Aq0 {a b : List UInt8} (h : Bk0 a = Bk0 b) : a = b := by
 injection h with h
 rw [← Ah5 a, ← Ah5 b, h]
def SetS (es : Array MapEntry) (ks : List (List UInt8)) : Prop := es.toList.map (fun e => (e.key, e.val)) = ks.map (fun k => (Bk0 k, Value.int .i64 1))
theorem SetS.nil : SetS #[] [] := rfl
theorem SetS.of_mem {es : Array MapEntry} {ks : List (List UInt8)} (h : SetS es ks) {e : MapEntry} (he : e ∈ es.toList) : ∃ k ∈ ks, e.key = Bk0 k ∧ e.val = .int .i64 1 := by
 have : (e.key, e.val) ∈ es.toList.map (fun e => (e.key, e.val)) := List.mem_map.2 ⟨e, he, rfl⟩
 rw [h] at this
 obtain ⟨k, hk, h2⟩ := List.mem_map.1 this
 injection h2 with h3 h4
 exact ⟨k, hk, h3.symm, h4.symm⟩
theorem SetS.mem_of {es : Array MapEntry} {ks : List (List UInt8)} (h : SetS es ks) {k : List UInt8} (hk : k ∈ ks) : ∃ e ∈ es.toList, e.key = Bk0 k := by
 have : (Bk0 k, Value.int .i64 1) ∈ ks.map (fun k => (Bk0 k, Value.int .i64 1)) := List.mem_map.2 ⟨k, hk, rfl⟩
 rw [← h] at this
 obtain ⟨e, he, h2⟩ := List.mem_map.1 this
 injection h2 with h3 h4
 exact ⟨e, he, h3⟩
theorem SetS.set {es es' : Array MapEntry} {clock : Nat} {ks : List (List UInt8)} {k : List UInt8} (h : SetS es ks) (hk : k ∉ ks) (hs : Bx6 es clock (Bk0 k) (.int .i64 1) es') : SetS es' (ks ++ [k]) := by
 rcases hs with ⟨h1, h2⟩ | ⟨j, e, h1, h2, h3⟩
 ·rw [SetS, h2, List.map_append, List.map_append, h]
  rfl
 ·obtain ⟨k', hk', h4, h5⟩ := h.of_mem (List.mem_of_getElem? h1)
  exact absurd (Aq0 (h4.symm.trans h2) ▸ hk') hk
theorem Db8 (k : List UInt8) (h : k.length ≤ 64) : keyOf Try.prog 9 (Bk0 k) = some (.string (Aa3 k).data.toList) :=
 WideMaps.keyOf_string_mk Try.underlying9 (by rw [Bo7]; exact Nat.le_trans h (by decide +kernel))
theorem SetS.keys {es : Array MapEntry} {ks : List (List UInt8)} (h : SetS es ks) (hk : ∀ k ∈ ks, k.length ≤ 64) : Al5 Try.prog 9 es := fun e he => by
 obtain ⟨k, hk', h1, _⟩ := h.of_mem he
 rw [h1]; exact ⟨_, Db8 k (hk k hk')⟩
theorem PrsAt.lda {B : Base} {ad : Option Addr} {ps : List Pr} (h : PrsAt B ad ps) {i : Nat} (hi : i < ps.length) :
  M9 B (I0 ad (i * 2)) 2 = Pr.E ps[i] ∧ B.D (adr ad).block ∧ Ap5 B (I0 ad (i * 2)) 2 ∧ ad.isSome = true := by
 have e : ∀ j, (I0 ad (i * 2)).add j = I0 ad (i * 2 + j) := fun j => by unfold I0; rw [Al4]
 obtain ⟨l1, l2, l3, l4, l5, l6⟩ := h.ld hi
 refine ⟨?_, l3, fun j hj => ?_, l6⟩
 ·unfold M9
  have : List.range 2 = [0, 1] := rfl
  rw [this]
  simp only [List.map_cons, List.map_nil, e, Nat.add_zero, l1, l2]
  rfl
 ·rw [e]
  match j, hj with
  | 0, _ => exact l4
  | 1, _ => exact l5
end Go.Proofs.Ytncjbfkkgdepoaa
