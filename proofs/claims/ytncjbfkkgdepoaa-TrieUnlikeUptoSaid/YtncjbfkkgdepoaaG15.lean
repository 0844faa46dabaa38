/- Part of a proof over the seat Ytncjbfkkgdepoaa. -/
import Derived.Test.YtncjbfkkgdepoaaG14
import Derived.Test.YtncjbfkkgdepoaaG13
import Derived.Test.YtncjbfkkgdepoaaEng3
import Derived.Test.YtncjbfkkgdepoaaG12
import Derived.Test.YtncjbfkkgdepoaaEng2
set_option linter.unusedSimpArgs false
set_option linter.unusedVariables false
set_option maxRecDepth 100000
namespace Go.Proofs.Ytncjbfkkgdepoaa
open Go RowKit Go.Ew
theorem Ck2 : ∀ a : List UInt8, Op.bytesLess a a = false
 | [] => rfl
 | x :: a => by
  rw [Op.bytesLess, Ck2 a]
  simp
theorem Bt1 : ∀ a b c : List UInt8, Op.bytesLess a b = true → Op.bytesLess b c = true → Op.bytesLess a c = true
 | _, [], _, h, _ => by simp [Op.bytesLess] at h
 | _, _ :: _, [], _, h => by simp [Op.bytesLess] at h
 | [], _ :: _, _ :: _, _, _ => rfl
 | x :: a, y :: b, z :: c, h1, h2 => by
  simp only [Op.bytesLess, Bool.or_eq_true, decide_eq_true_eq, Bool.and_eq_true, beq_iff_eq] at *
  rcases h1 with h1 | ⟨rfl, h1⟩
  ·rcases h2 with h2 | ⟨rfl, h2⟩
   ·exact .inl (UInt8.lt_trans h1 h2)
   ·exact .inl h1
  ·rcases h2 with h2 | ⟨rfl, h2⟩
   ·exact .inl h2
   ·exact .inr ⟨rfl, Bt1 a b c h1 h2⟩
theorem Bt2 : ∀ a b : List UInt8, Op.bytesLess a b = true ∨ a = b ∨ Op.bytesLess b a = true
 | [], [] => .inr (.inl rfl)
 | [], _ :: _ => .inl rfl
 | _ :: _, [] => .inr (.inr rfl)
 | x :: a, y :: b => by
  simp only [Op.bytesLess, Bool.or_eq_true, decide_eq_true_eq, Bool.and_eq_true, beq_iff_eq, List.cons.injEq]
  rcases Nat.lt_trichotomy x.toNat y.toNat with h | h | h
  ·exact .inl (.inl (UInt8.lt_iff_toNat_lt.2 h))
  ·obtain rfl := UInt8.toNat_inj.1 h
   rcases Bt2 a b with h | rfl | h
   ·exact .inl (.inr ⟨rfl, h⟩)
   ·exact .inr (.inl ⟨rfl, rfl⟩)
   ·exact .inr (.inr (.inr ⟨rfl, h⟩))
  ·exact .inr (.inr (.inl (UInt8.lt_iff_toNat_lt.2 h)))
/-- The place of a key. -/
def atM : List KV → List UInt8 → Nat
 | [], _ => 0
 | p :: m, k => if Op.bytesLess p.1 k then atM m k + 1 else 0
def isM (m : List KV) (k : List UInt8) : Bool := match m[atM m k]? with | some p => p.1 == k | none => false
def An8 (m : List KV) (k v : List UInt8) : List KV :=
 m.take (atM m k) ++ (if v = [] then [] else [(k, v)]) ++ m.drop (atM m k + if isM m k then 1 else 0)
def Srt (m : List KV) : Prop := m.Pairwise fun p q => Op.bytesLess p.1 q.1 = true
theorem Bi8 : ∀ (m : List KV) (k : List UInt8), atM m k ≤ m.length
 | [], _ => Nat.le_refl _
 | p :: m, k => by
  have := Bi8 m k
  rw [atM]; split <;> simp <;> omega
theorem Cx8 : ∀ (m : List KV) (k : List UInt8) (i : Nat) (h : i < m.length), i < atM m k → Op.bytesLess (m[i]).1 k = true
 | p :: m, k, i, h, hi => by
  rw [atM] at hi
  split at hi
  ·rename_i hp
   cases i with
   | zero => exact hp
   | succ i => exact Cx8 m k i (by simpa using h) (by omega)
  ·omega
theorem Cx9 : ∀ (m : List KV) (k : List UInt8) (h : atM m k < m.length), Op.bytesLess (m[atM m k]).1 k = false
 | p :: m, k, h => by
  by_cases hp : Op.bytesLess p.1 k = true
  ·have e : atM (p :: m) k = atM m k + 1 := by rw [atM, if_pos hp]
   simp only [e] at h ⊢
   exact Cx9 m k (by simpa using h)
  ·have e : atM (p :: m) k = 0 := by rw [atM, if_neg hp]
   simp only [e]
   simpa using hp
theorem Ak0 {p : KV} {m : List KV} {k v : List UInt8} (h : Op.bytesLess p.1 k = true) : An8 (p :: m) k v = p :: An8 m k v := by
 have e : atM (p :: m) k = atM m k + 1 := by rw [atM, if_pos h]
 have e2 : isM (p :: m) k = isM m k := by rw [isM, e, List.getElem?_cons_succ, ← isM]
 rw [An8, An8, e, e2, show atM m k + 1 + (if isM m k then 1 else 0) = (atM m k + if isM m k then 1 else 0) + 1 by omega, List.drop_succ_cons, List.take_succ_cons, List.cons_append, List.cons_append]
theorem Ak1 {p : KV} {m : List KV} {k v : List UInt8} (h : Op.bytesLess p.1 k = false) : An8 (p :: m) k v = (if v = [] then [] else [(k, v)]) ++ (if p.1 = k then m else p :: m) := by
 have e : atM (p :: m) k = 0 := by rw [atM, if_neg (by rw [h]; simp)]
 have e2 : isM (p :: m) k = (p.1 == k) := by rw [isM, e]; rfl
 rw [An8, e, e2, List.take_zero, List.nil_append]
 by_cases hk : p.1 = k
 ·simp [hk]
 ·simp [hk]
theorem X0 : ∀ (m : List KV) (k v : List UInt8), Srt m → ∀ q, q ∈ An8 m k v ↔ (q = (k, v) ∧ v ≠ []) ∨ (q.1 ≠ k ∧ q ∈ m)
 | [], k, v, _, q => by
  simp only [An8, List.take_nil, List.drop_nil, List.nil_append, List.append_nil, List.not_mem_nil, and_false, or_false]
  split <;> simp_all
 | p :: m, k, v, hs, q => by
  have hs' := hs
  rw [Srt, List.pairwise_cons] at hs'
  obtain ⟨h1, h2⟩ := hs'
  by_cases hp : Op.bytesLess p.1 k = true
  ·rw [Ak0 hp, List.mem_cons, X0 m k v h2 q, List.mem_cons]
   have hpk : p.1 ≠ k := fun h => by rw [h, Ck2] at hp; cases hp
   constructor
   ·rintro (rfl | h | h)
    ·exact .inr ⟨hpk, .inl rfl⟩
    ·exact .inl h
    ·exact .inr ⟨h.1, .inr h.2⟩
   ·rintro (h | ⟨h, rfl | h'⟩)
    ·exact .inr (.inl h)
    ·exact .inl rfl
    ·exact .inr (.inr ⟨h, h'⟩)
  ·have hp' : Op.bytesLess p.1 k = false := by simpa using hp
   rw [Ak1 hp', List.mem_append]
   have e1 : (q ∈ (if v = [] then [] else [(k, v)])) ↔ (q = (k, v) ∧ v ≠ []) := by split <;> simp_all
   have hgt : ∀ r ∈ m, r.1 ≠ k := fun r hr h => by
    have := h1 r hr
    rw [h] at this
    rw [this] at hp'; cases hp'
   rw [e1]
   by_cases hk : p.1 = k
   ·rw [if_pos hk, List.mem_cons]
    constructor
    ·rintro (h | h)
     ·exact .inl h
     ·exact .inr ⟨hgt q h, .inr h⟩
    ·rintro (h | ⟨h, rfl | h'⟩)
     ·exact .inl h
     ·exact absurd hk h
     ·exact .inr h'
   ·rw [if_neg hk, List.mem_cons]
    constructor
    ·rintro (h | rfl | h)
     ·exact .inl h
     ·exact .inr ⟨hk, .inl rfl⟩
     ·exact .inr ⟨hgt q h, .inr h⟩
    ·rintro (h | ⟨h, h'⟩)
     ·exact .inl h
     ·exact .inr h'
theorem Bp9 : ∀ (m : List KV) (k v : List UInt8), Srt m → Srt (An8 m k v)
 | [], k, v, _ => by
  simp only [An8, List.take_nil, List.drop_nil, List.nil_append, List.append_nil]
  split <;> simp [Srt]
 | p :: m, k, v, hs => by
  have hs' := hs
  rw [Srt, List.pairwise_cons] at hs'
  obtain ⟨h1, h2⟩ := hs'
  by_cases hp : Op.bytesLess p.1 k = true
  ·rw [Ak0 hp, Srt, List.pairwise_cons]
   refine ⟨fun q hq => ?_, Bp9 m k v h2⟩
   rcases (X0 m k v h2 q).1 hq with ⟨rfl, _⟩ | ⟨_, h⟩
   ·exact hp
   ·exact h1 q h
  ·have hp' : Op.bytesLess p.1 k = false := by simpa using hp
   have hkm : ∀ r ∈ (if p.1 = k then m else p :: m), Op.bytesLess k r.1 = true := fun r hr => by
    by_cases hk : p.1 = k
    ·rw [if_pos hk] at hr; rw [← hk]; exact h1 r hr
    ·rw [if_neg hk] at hr
     have hkp : Op.bytesLess k p.1 = true := by
      rcases Bt2 p.1 k with h | h | h
      ·rw [hp'] at h; cases h
      ·exact absurd h hk
      ·exact h
     rcases List.mem_cons.1 hr with rfl | hr
     ·exact hkp
     ·exact Bt1 _ _ _ hkp (h1 r hr)
   have hsm : Srt (if p.1 = k then m else p :: m) := by split <;> assumption
   rw [Ak1 hp']
   split
   ·exact hsm
   ·rw [Srt, List.singleton_append, List.pairwise_cons]
    exact ⟨hkm, hsm⟩
theorem Cp9 (m : List KV) (k v : List UInt8) : (An8 m k v).length ≤ m.length + 1 := by
 have := Bi8 m k
 rw [An8, List.length_append, List.length_append, List.length_take, List.length_drop]
 split <;> simp <;> omega
theorem Ay9 : ∀ a b : List UInt8, M0 a = M0 b → a = b
 | [], [], _ => rfl
 | [], _ :: _, h => by simp [M0] at h
 | _ :: _, [], h => by simp [M0] at h
 | x :: a, y :: b, h => by
  have e : ∀ (x : UInt8) l, M0 (x :: l) = hiN x :: loN x :: M0 l := fun _ _ => rfl
  rw [e, e] at h
  simp only [List.cons.injEq] at h
  have h1 := congrArg UInt8.toNat h.1
  have h2 := congrArg UInt8.toNat h.2.1
  rw [Ao8, Ao8] at h1
  rw [V0, V0] at h2
  rw [Ay9 a b h.2.2, UInt8.toNat_inj.1 (show x.toNat = y.toNat by omega)]
theorem Bl2 (a : List UInt8) : ∀ x ∈ M0 a, x.toNat < 16 := by
 intro x hx
 rw [M0, List.mem_flatMap] at hx
 obtain ⟨c, _, hx⟩ := hx
 have := c.toNat_lt
 simp only [List.mem_cons, List.not_mem_nil, or_false] at hx
 rcases hx with rfl | rfl
 ·rw [Ao8]; omega
 ·rw [V0]; omega
structure Agree (t : Nd) (m : List KV) : Prop where
 c : t = .nil ∨ Canon t
 s : Srt m
 v : ∀ p ∈ m, p.2 ≠ []
 g : ∀ q v, v ≠ [] → (O7 t q = v ↔ ∃ p ∈ m, M0 p.1 = q ∧ p.2 = v)
theorem Agree.nil : Agree .nil [] := ⟨.inl rfl, List.Pairwise.nil, fun p hp => by simp at hp, fun q v hv => by simp [Br3, Ne.symm hv]⟩
theorem Agree.put {t : Nd} {m : List KV} (h : Agree t m) (k v : List UInt8) (hv : v ≠ []) {f : Nat} (hf : (M0 k).length < f) : Agree (T9 f t (M0 k) v) (An8 m k v) := by
 obtain ⟨h1, h2⟩ := Da2 f t (M0 k) v h.c hf (Bl2 k) hv
 refine ⟨.inr h1, Bp9 m k v h.s, fun p hp => ?_, fun q w hw => ?_⟩
 ·rcases (X0 m k v h.s p).1 hp with ⟨rfl, _⟩ | ⟨_, hp⟩
  ·exact hv
  ·exact h.v p hp
 ·rw [h2 q]
  by_cases e : q = M0 k
  ·rw [if_pos e]
   constructor
   ·rintro rfl
    exact ⟨(k, v), (X0 m k v h.s _).2 (.inl ⟨rfl, hv⟩), e.symm, rfl⟩
   ·rintro ⟨p, hp, h3, h4⟩
    rcases (X0 m k v h.s p).1 hp with ⟨rfl, _⟩ | ⟨hn, _⟩
    ·exact h4
    ·exact absurd (Ay9 _ _ (h3.trans e)) hn
  ·rw [if_neg e, h.g q w hw]
   constructor
   ·rintro ⟨p, hp, h3, h4⟩
    exact ⟨p, (X0 m k v h.s p).2 (.inr ⟨fun h5 => e (by rw [← h3, h5]), hp⟩), h3, h4⟩
   ·rintro ⟨p, hp, h3, h4⟩
    rcases (X0 m k v h.s p).1 hp with ⟨rfl, _⟩ | ⟨_, hp⟩
    ·exact absurd h3.symm e
    ·exact ⟨p, hp, h3, h4⟩
def Ar9 (m : List KV) : List KV := m.map fun p => (M0 p.1, p.2)
theorem Agree.ok {t : Nd} {m : List KV} (h : Agree t m) (hm : m ≠ []) {f : Nat} (hf : ∀ p ∈ m, (M0 p.1).length < f) : MOk f (Ar9 m) 0 := by
 refine ⟨by simpa [Ar9] using hm, fun p hp => ?_, fun p hp => ?_, fun p hp => ?_, ?_, fun p hp q hq => by simp⟩
 ·obtain ⟨q, hq, rfl⟩ := List.mem_map.1 hp
  exact ⟨Nat.zero_le _, by have := hf q hq; simp only; omega⟩
 ·obtain ⟨q, hq, rfl⟩ := List.mem_map.1 hp
  exact Bl2 _
 ·obtain ⟨q, hq, rfl⟩ := List.mem_map.1 hp
  exact h.v q hq
 ·rw [Ar9, List.map_map, List.nodup_iff_pairwise_ne, List.pairwise_map]
  refine h.s.imp fun {p q} hpq he => ?_
  have := Ay9 _ _ he
  rw [this, Ck2] at hpq; cases hpq
theorem Agree.nil_of {t : Nd} (h : Agree t []) : t = .nil := by
 rcases h.c with h1 | h1
 ·exact h1
 ·obtain ⟨q, hq⟩ := Dg0 h1
  have := (h.g q _ hq).1 rfl
  simp at this
/-- The trie of a map is the one that the document describes. -/
theorem Agree.eq {t : Nd} {m : List KV} (h : Agree t m) (hm : m ≠ []) {f : Nat} (hf : ∀ p ∈ m, (M0 p.1).length < f) : t = Ac1 f (Ar9 m) 0 := by
 obtain ⟨c1, _, c2⟩ := Dc9 f (Ar9 m) 0 (h.ok hm hf)
 have hg : ∀ q v, v ≠ [] → (O7 t q = v ↔ O7 (Ac1 f (Ar9 m) 0) q = v) := fun q v hv => by
  rw [c2 q v hv, h.g q v hv]
  simp only [Ar9, List.mem_map, List.drop_zero]
  constructor
  ·rintro ⟨p, hp, h1, h2⟩; exact ⟨_, ⟨p, hp, rfl⟩, h1, h2⟩
  ·rintro ⟨_, ⟨p, hp, rfl⟩, h1, h2⟩; exact ⟨p, hp, h1, h2⟩
 have hc : Canon t := by
  rcases h.c with rfl | h1
  ·obtain ⟨q, hq⟩ := Dg0 c1
   have := (hg q _ hq).2 rfl
   rw [Br3] at this
   exact absurd this.symm hq
  ·exact h1
 refine Ci9 hc _ c1 fun q => ?_
 by_cases e : O7 t q = []
 ·by_cases e2 : O7 (Ac1 f (Ar9 m) 0) q = []
  ·rw [e, e2]
  ·exact (hg q _ e2).2 rfl
 ·exact ((hg q _ e).1 rfl).symm
end Go.Proofs.Ytncjbfkkgdepoaa
namespace Go.Proofs.Ytncjbfkkgdepoaa
open Go RowKit Go.Ew
set_option maxHeartbeats 8000000
theorem Ab7 (B : Base) : Does Try.prog 31 [] B (fun _ : Unit => .agg (D5 .u8 (J1 [128]) 32)) (fun _ _ => True) := by
 refine K2 Ef8 (fun s B B' hB hR => hR) Try.func31 rfl Eb6 (by simp [Try.f31]) (by simp [A0, closed]) (fun B0 hB0 => A2 1000 ?_)
 have hcl : ∀ n, A0 n (D5 .u8 (J1 [128]) 32) := fun n => A3 _ _ _ _
 repeat' (first | with_reducible refine And.intro (by first | omega | (simp; done)) ?_ | simp (maxSteps := 4000000) (disch := omega) only [go_sem, ↓reduceIte, Try.f31])
 refine W3 (vf := fun _ : Unit => .agg (D5 .u8 (J1 [128]) 32)) 1 0 1 1 [] [128] Dw4 (by simp [A0]) rfl rfl rfl (fun s => hcl _) (fun B ad cap hB hb => Ao5 [128] 1 B ad cap hb rfl (by omega)) (fun s1 B1 hB1 hR1 => A2 1000 ?_)
 change BExt B0 B1 at hB1
 have hsp : H5 (D5 .u8 (fun _ => 0) 32) 0 (D5 .u8 (J1 [128]) 32) = D5 .u8 (J1 [128]) 32 := by rw [← O9]; exact N8 (K5 _) (by omega) _
 repeat' (first | with_reducible refine And.intro (by omega) ?_ | simp (maxSteps := 4000000) (disch := omega) only [go_sem, ↓reduceIte, hsp])
 first | exact ⟨hB1, (), rfl, hcl _, trivial⟩ | exact ⟨(), hcl _⟩
theorem Cg8 {S : Type} {B0 : Base} {o : S → EObj} {R : S → Base → Prop} {x : X} (s : S) (j : Nat) (hB : BExt B0 x.B) (hc : (o s).closed 0) (hg : hget x.hs j = some (o s)) (hR : R s x.B) :
  Cg9 0 B0 (fun _ => .ptr 0 0) (fun _ => 1) (fun s => [some (o s)]) R (.ptr j 0) x := by
 refine ⟨hB, s, fun _ => j, rfl, by simp [closed], fun i hi => absurd hi (Nat.not_lt_zero i), fun i o' hi => ?_, fun i j' oi oj hi hj _ => ?_, hR⟩
 ·cases i with
  | zero =>
   simp at hi; subst hi
   exact ⟨EObj.closed_mono (Nat.zero_le _) _ hc, by rw [hg]; congr 1; exact (EObj.ren_id (n := 0) (fun i hi => absurd hi (Nat.not_lt_zero i)) _ hc).symm⟩
  | succ i => simp at hi
 ·cases i with
  | zero => cases j' with
   | zero => rfl
   | succ j' => simp at hj
  | succ i => simp at hi
theorem Cw2 (B : Base) (sv : Value) (hsv : sv = .nilIface ∨ ∃ T v, sv = .iface T v) :
  Gen Try.prog 30 [.raw sv, .agg (D5 .u8 (J1 [128]) 32)] [] B (fun _ : Unit => .ptr 0 0) (fun _ => 1) (fun _ => [some (trO sv .nilIface)]) (fun _ _ => True) := by
 refine Cx2 0 [] Ef9 (fun s B B' hB hR => hR) Try.func30 rfl Eb7 (by simp [Try.f30]) (by simp [A0, closed, A3]) (by simp) (by simp) (by simp [Go.Ew.hget]) (fun B0 hB0 olds hol => A2 1000 ?_)
 have hcl : ∀ n, A0 n (D5 .u8 (J1 [128]) 32) := fun n => A3 _ _ _ _
 have hisI : (D5 .u8 (J1 [128]) 32).all (EV.isInt .u8) = true := by simp [D5, EV.isInt]
 have hn0 : ∀ q, M0 q = M0 q := fun _ => rfl
 rcases hsv with rfl | ⟨T, v, rfl⟩
 ·repeat' (first | simp (maxSteps := 4000000) (disch := omega) only [go_sem, ↓reduceIte, Try.f30, hisI] | with_reducible refine C8 (id := 2) [0, 1, 2] mixed (by kernel_rfl) (by simp) (fun hin => D7 1000 hin ?_) | with_reducible refine E1 (by kernel_rfl) (C4 (by kernel_rfl)) (A2 1000 ?_) | refine Bb1 (Ab7 B0) (by simp [closed, A0, A3, C6]) (by kernel_rfl) (F6 (by kernel_rfl) (C4 (by kernel_rfl))) (fun hin => D7 1000 hin ?_))
  exact Cg8 () 1 (BExt.refl _) (E2 _ _) rfl trivial
 ·repeat' (first | simp (maxSteps := 4000000) (disch := omega) only [go_sem, ↓reduceIte, Try.f30, hisI] | with_reducible refine C8 (id := 2) [0, 1, 2] mixed (by kernel_rfl) (by simp) (fun hin => D7 1000 hin ?_) | with_reducible refine E1 (by kernel_rfl) (C4 (by kernel_rfl)) (A2 1000 ?_) | refine Bb1 (Ab7 B0) (by simp [closed, A0, A3, C6]) (by kernel_rfl) (F6 (by kernel_rfl) (C4 (by kernel_rfl))) (fun hin => D7 1000 hin ?_))
  exact Cg8 () 1 (BExt.refl _) (E2 _ _) rfl trivial
theorem Db5 (B : Base) (sv rv : Value) : Turn2 Try.prog 35 [] (trO sv rv) B (fun _ : Unit => .bool true) (fun _ => trO sv rv) (fun _ _ => True) := by
 refine T6 Ef6 (fun s B B' hB hR => hR) Try.func35 rfl Eb2 (by simp [Try.f35]) (by simp [A0, closed]) (E2 _ _) (fun u => E2 _ _) (fun B0 hB0 b => A2 1000 ?_)
 repeat' (first | with_reducible refine And.intro (by first | omega | (simp; done)) ?_ | simp (maxSteps := 4000000) (disch := omega) only [go_sem, ↓reduceIte, Try.f35, trO])
 exact ⟨BExt.refl _, (), trivial⟩
theorem Ca2 (B : Base) (sv rv : Value) {nd : Nd} {key v : List UInt8} {kn kc vn vc f : Nat} {kA vA : Option Addr} (hd : NdAt B nd rv) (hw : Wf nd) (hk : BytesAt B kA key) (hv : BytesAt B vA v) (hkn : key.length = kn) (hvn : v.length = vn) (hk64 : kn ≤ 64) (hv0 : 0 < vn) (hvm : vn ≤ 1048576) (hf : (M0 key).length < f) :
  Turn2 Try.prog 33 [.raw (.slice kA kn kc), .raw (.slice vA vn vc)] (trO sv rv) B (fun _ : Value => .int .i64 0) (fun u => trO sv u) (fun u B' => NdAt B' (T9 f nd (M0 key) v) u) := by
 refine T6 Dr1 (fun s B B' hB hR => hR.ext' hB) Try.func33 rfl Eb4 (by simp [Try.f33]) (by simp [A0, closed]) (E2 _ _) (fun u => E2 _ _) (fun B0 hB0 b => A2 1000 ?_)
 replace hd := hd.ext' hB0
 replace hk := hk.ext hB0
 replace hv := hv.ext hB0
 have c1 : decide ((64 : Int) < (kn : Int)) = false := decide_eq_false (by omega)
 have c2 : decide ((1048576 : Int) < (vn : Int)) = false := decide_eq_false (by omega)
 have c3 : (((vn : Nat) : Int) == 0) = false := by rw [beq_eq_false_iff_ne]; omega
 repeat' (simp (maxSteps := 4000000) (disch := omega) only [go_sem, ↓reduceIte, Try.f33])
 refine R7 0 (Db5 B0 sv rv) rfl (fun _ => trivial) (E2 _ _) (fun _ => E2 _ _) (fun _ B1 hB1 _ => A2 1000 ?_)
 change BExt B0 B1 at hB1
 repeat' (first | with_reducible refine And.intro (by omega) ?_ | simp (maxSteps := 4000000) (disch := omega) only [go_sem, ↓reduceIte, c1, c2, c3, trO] | with_reducible refine C8 (id := 7) [0, 1, 2, 3, 4, 5, 7, 6, 8, 9, 10, 11, 12, 13, 14] mixed (by kernel_rfl) (by simp) (fun hin => D7 1000 hin ?_))
 refine J6 (Ai5 key kn _ kA kc (hk.ext hB1) hkn (by omega)) (fun _ => by simp [closed]) (by kernel_rfl) (F6 (by kernel_rfl) (C4 (by kernel_rfl))) (fun hin2 s2 B2 hB2 hR2 => D7 1000 hin2 ?_)
 change BExt B1 B2 at hB2
 repeat' (simp (maxSteps := 4000000) (disch := omega) only [go_sem, ↓reduceIte])
 refine J6 (Bi5 v vn _ vA vc ((hv.ext hB1).ext hB2) hvn (by omega)) (fun _ => by simp [closed]) (by kernel_rfl) (F6 (by kernel_rfl) (C4 (by kernel_rfl))) (fun hin2 s3 B3 hB3 hR3 => D7 1000 hin2 ?_)
 change BExt B2 B3 at hB3
 repeat' (simp (maxSteps := 4000000) (disch := omega) only [go_sem, ↓reduceIte])
 have hnl := R6 key
 refine Ah2 0 (Dh0 sv rv f nd B3 rv (M0 key) v s2.1 s3.1 (M0 key).length s2.2 vn s3.2 (hd.ext' (hB1.trans (hB2.trans hB3))) hw hf (Bl2 key) rfl hvn (hR2.1.ext hB3) hR3.1 hR2.2 (by omega) (by omega)) rfl (fun _ => by simp [closed, A0]) (E2 _ _) (fun _ => E2 _ _) (by kernel_rfl) (F6 (by kernel_rfl) (C4 (by kernel_rfl))) (fun hin2 u B4 hB4 hR4 => D7 1000 hin2 ?_)
 change BExt B3 B4 at hB4
 obtain ⟨T2, a2, rfl⟩ : ∃ T a, u = .iface T (.pointer (some ⟨a, 0, none⟩)) := by
  rcases hR4.cases' with ⟨hu, _⟩ | ⟨_, h⟩
  ·exact absurd hu (Bl0 _ _ _ _)
  ·exact h
 repeat' (first | with_reducible refine And.intro (by omega) ?_ | simp (maxSteps := 4000000) (disch := omega) only [go_sem, ↓reduceIte, trO] | with_reducible refine E1 (by kernel_rfl) (C4 (by kernel_rfl)) (A2 1000 ?_))
 exact ⟨hB1.trans (hB2.trans (hB3.trans hB4)), _, trivial, rfl, hR4⟩
theorem Cz5 (B : Base) (sv rv : Value) {nd : Nd} (hd : NdAt B nd rv) :
  Turn2 Try.prog 21 [] (trO sv rv) B (fun _ : Unit => .tup [.agg (D5 .u8 (J1 (H6 (D6 nd))) 32), .int .i64 0]) (fun _ => trO sv rv) (fun _ _ => True) := by
 refine T6 Eg2 (fun s B B' hB hR => hR) Try.func21 rfl Ec1 (by simp [Try.f21]) (by simp [A0, closed]) (E2 _ _) (fun u => E2 _ _) (fun B0 hB0 b => A2 1000 ?_)
 replace hd := hd.ext' hB0
 have hcl : ∀ p n, A0 n (D5 .u8 (J1 p) 32) := fun p n => A3 _ _ _ _
 have hsp : ∀ p, H5 (D5 .u8 (fun _ => 0) 32) 0 (D5 .u8 (J1 p) 32) = D5 .u8 (J1 p) 32 := fun p => by rw [← O9]; exact N8 (K5 _) (by omega) _
 repeat' (simp (maxSteps := 4000000) (disch := omega) only [go_sem, ↓reduceIte, Try.f21])
 refine R7 0 (Db5 B0 sv rv) rfl (fun _ => trivial) (E2 _ _) (fun _ => E2 _ _) (fun _ B1 hB1 _ => A2 1000 ?_)
 change BExt B0 B1 at hB1
 replace hd := hd.ext' hB1
 rcases hd.cases' with ⟨rfl, rfl⟩ | ⟨hkn, T, a, rfl⟩
 ·have hfe : H6 (D6 .nil) = [128] := rfl
  rw [hfe]
  repeat' (first | with_reducible refine And.intro (by omega) ?_ | simp (maxSteps := 4000000) (disch := omega) only [go_sem, ↓reduceIte, trO])
  refine Ba4 rfl Try.underlying71 rfl (A2 1000 ?_)
  repeat' (first | with_reducible refine And.intro (by omega) ?_ | simp (maxSteps := 4000000) (disch := omega) only [go_sem, ↓reduceIte, hsp] | refine G8 (Ab7 B1) (by simp [closed, A0, A3, C6]) (A2 1000 ?_))
  exact ⟨(), by simp [closed, A0, hcl]⟩
 ·have hTn := Bq4 hd
  have hfm := Ch2 hd (Bm4 nd hd T a rfl) (Cs9 nd) (Cr7 hd)
  have hfl := Cr7 hd
  obtain ⟨p, hp⟩ : ∃ p, p = H6 (D6 nd) := ⟨_, rfl⟩
  rw [← hp] at hfm hfl ⊢
  repeat' (first | with_reducible refine And.intro (by omega) ?_ | simp (maxSteps := 4000000) (disch := omega) only [go_sem, ↓reduceIte, trO])
  refine Ag9 rfl Try.underlying71 rfl (A2 1000 ?_)
  repeat' (simp (maxSteps := 4000000) (disch := omega) only [go_sem, ↓reduceIte])
  refine At4 rfl Try.underlying78 Am6 rfl hTn (A2 1000 ?_)
  repeat' (simp (maxSteps := 4000000) (disch := omega) only [go_sem, ↓reduceIte])
  refine F8 hfm (fun _ => by simp [closed, A0]) (fun s2 B2 hB2 hR2 => A2 1000 ?_)
  change BExt B1 B2 at hB2
  repeat' (simp (maxSteps := 4000000) (disch := omega) only [go_sem, ↓reduceIte])
  refine F8 (Ao5 p _ _ s2.1 s2.2 hR2.1 rfl (by omega)) (fun _ => A3 _ _ _ _) (fun s3 B3 hB3 hR3 => A2 1000 ?_)
  change BExt B2 B3 at hB3
  repeat' (simp (maxSteps := 4000000) (disch := omega) only [go_sem, ↓reduceIte, hsp])
  exact ⟨hB1.trans (hB2.trans hB3), (), by simp [closed, A0, hcl]⟩
end Go.Proofs.Ytncjbfkkgdepoaa
namespace Go.Proofs.Ytncjbfkkgdepoaa
open Go RowKit Go.Ew
set_option maxHeartbeats 8000000
structure Bs where
 l : List UInt8
 ad : Option Addr
 c : Nat
def Bs.v (q : Bs) : Value := .slice q.ad q.l.length q.c
structure Bs.Ok (B : Base) (q : Bs) : Prop where
 b : BytesAt B q.ad q.l
 c : q.l.length ≤ q.c
 m : q.l.length ≤ 1099511627776
structure BssAt (B : Base) (ad : Option Addr) (qs : List Bs) : Prop where
 c : CellsAt B ad (qs.map Bs.v)
 ok : ∀ q ∈ qs, q.Ok B
 len : qs.length ≤ 1099511627776
theorem Bs.Ok.ext {B B' : Base} {q : Bs} (h : q.Ok B) (e : BExt B B') : q.Ok B' := ⟨h.b.ext e, h.c, h.m⟩
theorem BssAt.ext {B B' : Base} {ad : Option Addr} {qs : List Bs} (h : BssAt B ad qs) (e : BExt B B') : BssAt B' ad qs := ⟨h.c.ext e, fun q hq => (h.ok q hq).ext e, h.len⟩
theorem BssAt.ld {B : Base} {ad : Option Addr} {qs : List Bs} (h : BssAt B ad qs) {i : Nat} (hi : i < qs.length) :
  G5 B (H7 ad i) = .raw (.slice qs[i].ad qs[i].l.length qs[i].c) ∧ B.D (adr ad).block ∧ (B.w.cell? (H7 ad i)).isSome = true ∧ ad.isSome = true := by
 have := h.c.raw (j := i) (v := (qs[i]).v) (by rw [List.getElem?_map, List.getElem?_eq_getElem hi]; rfl)
 exact ⟨this.1, this.2.1, this.2.2, h.c.so (by simp; omega)⟩
theorem Cu7 {t : Nd} {m : List KV} (h : Agree t m) : Wf t := by
 rcases h.c with rfl | h
 ·exact .nil
 ·exact Ct4 h
end Go.Proofs.Ytncjbfkkgdepoaa
namespace Go.Proofs.Ytncjbfkkgdepoaa
open Go RowKit Go.Ew
set_option maxHeartbeats 4000000
/-- A receipt, and where its logs lie. -/
structure RcV where
 ty : UInt8
 ok : Int
 gas : Nat
 F : Blm
 lA : Option Addr
 lc : Nat
 L : List LogV
theorem J2 (a b : List EV) : G2 (a ++ b) = (G2 a && G2 b) := by
 induction a with
 | nil => rfl
 | cons v a ih => simp only [List.cons_append, G2, ih, Bool.and_assoc]
theorem Ad4 (k : IntKind) (z : Nat → Int) (n : Nat) : G2 (D5 k z n) = true := by
 unfold D5
 generalize List.range n = l
 induction l with
 | nil => rfl
 | cons i l ih => rw [List.map_cons, G2, ih]; rfl
end Go.Proofs.Ytncjbfkkgdepoaa
namespace Go.Proofs.Ytncjbfkkgdepoaa
open Go RowKit Go.Ew
set_option maxHeartbeats 4000000
def r0 : RcV := ⟨0, 1, 21000, zB, none, 0, []⟩
end Go.Proofs.Ytncjbfkkgdepoaa
namespace Go.Proofs.Ytncjbfkkgdepoaa
open Go RowKit Go.Ew
set_option maxHeartbeats 4000000
theorem Dq0 : D0 Try.f104.ntmps (Try.f104.body.getD .skip) = true := by kernel_rfl
theorem Dp6 : D0 Try.f114.ntmps (Try.f114.body.getD .skip) = true := by kernel_rfl
theorem Dq1 : D0 Try.f103.ntmps (Try.f103.body.getD .skip) = true := by kernel_rfl
theorem Da0 (n : Nat) (h : n < 18446744073709551616) : Pure Try.prog 104 [.int .u64 (n : Int)] (wE n) := by
 refine V4 (args := [.int .u64 (n : Int)]) Ds6 (by simp [closed, A0, C6, A3]) Try.func104 rfl Dq0 (by simp [Try.f104]) (by simp [A0, closed, C6, A3]) (fun w => A2 1000 ?_)
 simp (maxSteps := 4000000) (disch := omega) only [go_sem, ↓reduceIte, Try.f104]
 repeat (with_reducible refine And.intro (by omega) ?_)
 skip
 exact Df4 (by constructor <;> omega)
theorem Dg8 (x i : Nat) (hi : i < 32) : IntKind.u8.wrap ((dig 18446744073709551616 x (i / 8) / 2 ^ (8 * (i % 8))).tmod 256) = dig 256 x i := by
 have h0 := Br8 18446744073709551616 x (i / 8)
 have hp : (0 : Int) ≤ 2 ^ (8 * (i % 8)) := Int.le_of_lt (Int.pow_pos (by omega))
 rw [Int.tmod_eq_emod_of_nonneg (Int.ediv_nonneg h0 hp), Cj6 x i hi]
 have := Cx3 (b := 256) (by omega) x i
 have h2 := Br8 256 x i
 show dig 256 x i % 256 = _
 exact Int.emod_eq_of_lt h2 this
theorem Cp8 (x : Nat) (hx : x < 115792089237316195423570985008687907853269984665640564039457584007913129639936) : Pure Try.prog 114 [wE x] (.agg (D5 .u8 (fun j => dig 256 x (31 - j)) 32)) := by
 rw [Bz9 x]
 refine V4 (args := [.agg (D5 .u64 (dig 18446744073709551616 x) 4)]) Ds3 (by simp [closed, A0, C6, A3]) Try.func114 rfl Dp6 (by simp [Try.f114]) (by simp [A0, closed, C6, A3]) (fun w => A2 1000 ?_)
 simp (maxSteps := 4000000) (disch := omega) only [go_sem, ↓reduceIte, Try.f114]
 repeat (with_reducible refine And.intro (by omega) ?_)
 skip
 refine H2 (S := Nat × (Nat → Int)) (fun s => s.1 ≤ 32 ∧ ∀ j, j < 32 → 32 - s.1 ≤ j → s.2 j = dig 256 x (31 - j))
  (fun s => ⟨[(4, .int .i64 (s.1 : Nat)), (3, .ptr 2 0), (2, .ptr 1 0), (1, .ptr 0 0)], 3,
   [(2, some (.cells (D5 .u8 s.2 32) 44 (0, 0))), (1, some (.cells (D5 .u8 (fun _ => 0) 32) 44 (0, 0))), (0, some (.cells (D5 .u64 (dig 18446744073709551616 x) 4) 192 (0, 0)))], base w, []⟩)
  (fun s => 32 - s.1) (0, fun _ => 0) ⟨by omega, fun j h1 h2 => by simp only at h2; omega⟩ (Weak.sub (A6 (by simp [wσ, go_sem, closed, A0, A3]) (by simp [whs, go_sem, EObj.closed, closed, A0, A3]) (by simp [*]) rfl rfl (by simp))) ?_
 rintro ⟨i, z⟩ ⟨hi, hz⟩
 simp only at hi hz
 refine A2 1000 ?_
 simp (maxSteps := 4000000) (disch := omega) only [go_sem, ↓reduceIte]
 repeat (with_reducible refine And.intro (by omega) ?_)
 refine A9 (fun h => ?_) (fun h => ?_)
 all_goals (try simp only [bne_iff_ne, ne_eq, beq_iff_eq, decide_eq_true_eq, decide_eq_false_iff_not, Bool.not_eq_true, Bool.not_eq_false, Bool.not_true, Bool.not_false, bne_eq_false_iff_eq, beq_eq_false_iff_ne, Bool.and_eq_true, Bool.or_eq_true, Bool.and_eq_false_imp, Bool.or_eq_false_iff, Bool.not_eq_true', Bool.not_eq_false', Int.not_lt, Int.not_le] at h)
 ·have e1 : ((31 : Int) - (i : Int)).toNat = 31 - i := by omega
  have e2 : ((i : Int) / 8).toNat = i / 8 := by omega
  have e3 : (8 * ((i : Int) % 8)).toNat = 8 * (i % 8) := by omega
  have hb := Dg8 x i (by omega)
  have hb64 := Eh9 x (i / 8)
  repeat' (first | with_reducible refine And.intro (by omega) ?_ | simp (maxSteps := 4000000) (disch := omega) only [go_sem, ↓reduceIte, e1, e2, e3, hb])
  refine ⟨(i + 1, Bw0 z (31 - i) (dig 256 x i)), ⟨by show i + 1 ≤ 32; omega, ?_⟩, Weak.sub (A6 (by simp [wσ, go_sem, closed, A0, A3]) (by simp [whs, go_sem, EObj.closed, closed, A0, A3]) (by simp [*]) rfl rfl (by simp)), by show 32 - (i + 1) < 32 - i; omega⟩
  intro j h1 h2
  simp only [Bw0] at h2 ⊢
  split
  ·rename_i e; rw [show 31 - j = i by omega]
  ·exact hz j h1 (by omega)
 ·have hi : i = 32 := by omega
  subst hi
  simp (maxSteps := 4000000) (disch := omega) only [go_sem, ↓reduceIte]
  repeat (with_reducible refine And.intro (by omega) ?_)
  repeat' (first | simp (maxSteps := 4000000) (disch := omega) only [go_sem, ↓reduceIte] | with_reducible refine A2 1000 ?_)
  rw [S0 (fun j hj => hz j hj (by omega))]
theorem Cw3 {x i : Nat} (hi : i ≤ 32) (h1 : x < 256 ^ (32 - i)) (h2 : i = 32 ∨ 256 ^ (31 - i) ≤ x) : nby x = 32 - i := by
 have e : ∀ k, (256 : Nat) ^ k = 2 ^ (8 * k) := fun k => by rw [Nat.pow_mul]
 rw [e] at h1
 have b1 := blen_le.2 h1
 rcases h2 with h2 | h2
 ·unfold nby; omega
 ·rw [e] at h2
  have b2 := lt_blen.2 h2
  rcases Nat.lt_or_ge i 32 with h | h
  ·unfold nby; omega
  ·unfold nby; omega
theorem Cb8 (x : Nat) (hx : x < 115792089237316195423570985008687907853269984665640564039457584007913129639936) (B : Base) : Does Try.prog 103 [wE x] B (fun s : Option Addr × Nat => .raw (.slice s.1 (nby x) s.2)) (fun s B' => BytesAt B' s.1 (leB x) ∧ nby x ≤ s.2) := by
 refine K2 Ds7 (fun s B B' hB hR => ⟨hR.1.ext hB, hR.2⟩) Try.func103 rfl Dq1 (by simp [Try.f103]) (by simp [A0, C6]) (fun B0 hB0 => A2 1000 ?_)
 have c1 := Cp8 x hx
 repeat' (first | simp (maxSteps := 4000000) (disch := omega) only [go_sem, ↓reduceIte, Try.f103] | refine R5 (c1) (A2 1000 ?_))
 refine Do0 (S := Nat) (S' := Nat) 0 rfl (fun i => i ≤ 32 ∧ x < 256 ^ (32 - i))
  (fun i => ⟨[(4, .int .i64 (i : Nat)), (3, .ptr 1 0), (2, .raw (.slice none 0 0)), (1, .ptr 0 0)], 2,
   [(1, some (.cells (D5 .u8 (fun j => dig 256 x (31 - j)) 32) 44 (0, 0))), (0, some (.cells (wC x) 192 (0, 0)))], B0, []⟩)
  (fun i => 32 - i) (fun i => i ≤ 32 ∧ nby x = 32 - i)
  (fun i => ⟨[(4, .int .i64 (i : Nat)), (3, .ptr 1 0), (2, .raw (.slice none 0 0)), (1, .ptr 0 0)], 2,
   [(1, some (.cells (D5 .u8 (fun j => dig 256 x (31 - j)) 32) 44 (0, 0))), (0, some (.cells (wC x) 192 (0, 0)))], B0, []⟩)
  0 ⟨by omega, Nat.lt_of_lt_of_le hx (by decide)⟩ (Weak.sub (A6 (by simp [wσ, go_sem, closed, A0, A3]) (by simp [whs, go_sem, EObj.closed, closed, A0, A3]) (by simp [*]) rfl rfl (by simp))) ?_ ?_
 ·intro i ⟨hi, hlt⟩
  refine A2 1000 ?_
  repeat' (first | with_reducible refine And.intro (by omega) ?_ | simp (maxSteps := 4000000) (disch := omega) only [go_sem, ↓reduceIte, Int.toNat_natCast] | ((first | refine A9 (fun h => ?_) (fun h => ?_) | refine F2 (fun h => ?_) (fun h => ?_) | refine S4 (fun h => ?_) (fun h => ?_)) <;> (try simp only [bne_iff_ne, ne_eq, beq_iff_eq, decide_eq_true_eq, decide_eq_false_iff_not, Bool.not_eq_true, Bool.not_eq_false, Bool.not_true, Bool.not_false, bne_eq_false_iff_eq, beq_eq_false_iff_ne, Bool.and_eq_true, Bool.or_eq_true, Bool.and_eq_false_imp, Bool.or_eq_false_iff, Bool.not_eq_true', Bool.not_eq_false', Int.not_lt, Int.not_le] at h) <;> (try (exfalso; omega))))
  ·rename_i h1
   have hi32 : i < 32 := by omega
   have hlt' : x < 256 ^ (32 - (i + 1)) := by
    have e : (256 : Nat) ^ (32 - i) = 256 ^ (32 - (i + 1)) * 256 := by rw [← Nat.pow_succ]; congr 1; omega
    rw [e] at hlt
    have h5 : x / 256 ^ (32 - (i + 1)) < 256 := Nat.div_lt_of_lt_mul hlt
    have h6 : x / 256 ^ (31 - i) % 256 = 0 := by unfold dig at h; omega
    rw [show 31 - i = 32 - (i + 1) by omega, Nat.mod_eq_of_lt h5] at h6
    exact Nat.lt_of_div_eq_zero (Nat.pow_pos (by omega)) h6
   exact ⟨i + 1, ⟨by omega, hlt'⟩, Weak.sub (A6 (by simp [wσ, go_sem, closed, A0, A3]) (by simp [whs, go_sem, EObj.closed, closed, A0, A3]) (by simp [*]) rfl rfl (by simp)), by omega⟩
  ·rename_i h1
   have h2 : 256 ^ (31 - i) ≤ x := by
    rcases Nat.lt_or_ge x (256 ^ (31 - i)) with h3 | h3
    ·exfalso; apply h; unfold dig; rw [Nat.div_eq_of_lt h3]; rfl
    ·exact h3
   exact ⟨i, ⟨hi, Cw3 hi hlt (.inr h2)⟩, Weak.sub (A6 (by simp [wσ, go_sem, closed, A0, A3]) (by simp [whs, go_sem, EObj.closed, closed, A0, A3]) (by simp [*]) rfl rfl (by simp))⟩
  ·have hi32 : i = 32 := by omega
   exact ⟨i, ⟨hi, Cw3 hi hlt (.inl hi32)⟩, Weak.sub (A6 (by simp [wσ, go_sem, closed, A0, A3]) (by simp [whs, go_sem, EObj.closed, closed, A0, A3]) (by simp [*]) rfl rfl (by simp))⟩
 ·intro i ⟨hi, hn⟩
  obtain ⟨o, ho, ho2, ho3⟩ : ∃ o, (if 32 = i then 0 else i) = o ∧ o + nby x ≤ 32 ∧ (nby x ≠ 0 → o = 32 - nby x) := by
   by_cases h0 : 32 = i
   ·exact ⟨0, by rw [if_pos h0], by omega, fun h => by omega⟩
   ·exact ⟨i, by rw [if_neg h0], by omega, fun h => by omega⟩
  have hL : nby x ≤ 32 := by omega
  have he : ((D5 .u8 (fun j => dig 256 x (31 - j)) 32).drop o).take (nby x) = (leB x).map bE := by
   rw [Cw5, Bf8 _ _ _ _ _ ho2]
   exact S0 fun i hi => by rw [ho3 (by omega)]; congr 1; omega
  have hll := Z8 x
  refine A2 1000 ?_
  repeat' (first | with_reducible refine And.intro (by first | omega | (simp; done) | (simp; omega)) ?_ | simp (maxSteps := 4000000) (disch := omega) only [go_sem, ↓reduceIte, Int.toNat_natCast, ho, ← hn])
  refine appB (T := 5) (l := some (0, [])) (xs := []) 2 0 (leB x) rfl Try.underlying22 (.inl ⟨_, Try.underlying22⟩) zr5 cz5 by5 rfl rfl rfl (by simp [lOk, maxLen]) ?_ (by omega) (fun l' hl' => ?_)
  ·rw [← he, hll]
   exact ⟨_, by simp only [O6, ev, I1, hget, Nat.reduceBEq, Nat.mul_one]; rfl, by simp [U2]; omega⟩
  ·simp only [Nat.zero_add, List.nil_append, hll] at hl' ⊢
   refine I3 3 (nby x) (T := 5) rfl hll hl' (by simp) (fun b ad2 cap2 B2 hE hfz hby hc => A2 1000 ?_)
   repeat' (first | with_reducible refine And.intro (by omega) ?_ | simp (maxSteps := 4000000) (disch := omega) only [go_sem, ↓reduceIte, hfz])
   exact ⟨(ad2, cap2), rfl, trivial, hby, hc⟩
end Go.Proofs.Ytncjbfkkgdepoaa
namespace Go.Proofs.Ytncjbfkkgdepoaa
open Go RowKit Go.Ew
set_option maxHeartbeats 4000000
theorem E5 {B : Base} (ad : Option Addr) : BytesAt B ad [] := ⟨fun a _ h0 => absurd h0 (by simp), fun h => absurd h (by simp), fun j hj => absurd hj (by simp)⟩
end Go.Proofs.Ytncjbfkkgdepoaa
namespace Go.Proofs.Ytncjbfkkgdepoaa
open Go RowKit Go.Ew
set_option maxHeartbeats 4000000
theorem Dz1 : D0 Try.f65.ntmps (Try.f65.body.getD .skip) = true := by kernel_rfl
theorem Dz2 : D0 Try.f64.ntmps (Try.f64.body.getD .skip) = true := by kernel_rfl
theorem Dy2 : D0 Try.f88.ntmps (Try.f88.body.getD .skip) = true := by kernel_rfl
theorem Aa9 (p : List UInt8) (n : Nat) (B : Base) (ad : Option Addr) (cap : Nat) (h : BytesAt B ad p) (hn : p.length = n) (hp : n ≤ 1099511627776) :
  Does Try.prog 65 [.raw (.slice ad n cap)] B (fun s : Plc => .agg (itE (txt p) s)) (fun s B' => ItAt B' (txt p) s) := by
 subst hn
 refine K2 Dq8 (fun s B B' hB hR => hR.ext hB) Try.func65 rfl Dz1 (by simp [Try.f65]) (by simp [A0, closed]) (fun B0 hB0 => A2 1000 ?_)
 replace h := h.ext hB0
 repeat' (first | with_reducible refine And.intro (by first | omega | (simp; done)) ?_ | simp (maxSteps := 4000000) (disch := omega) only [go_sem, ↓reduceIte, Try.f65])
 refine appB (T := 5) (l := some (0, [])) (xs := []) 1 0 p rfl Try.underlying22 (.inl ⟨_, Try.underlying22⟩) zr5 cz5 by5 rfl rfl rfl ⟨Nat.le_refl _, Nat.zero_le _, rfl, by simp⟩ (h.src _) (by omega) (fun l1 hl1 => ?_)
 simp only [Nat.zero_add, List.nil_append] at hl1 ⊢
 refine I3 (xs := p) (T := 5) 2 p.length rfl rfl hl1 (by simp) (fun b2 ad2 cap2 B2 hB2 hfz hbY hcap2 => A2 1000 ?_)
 change BExt B0 B2 at hB2
 repeat' (first | with_reducible refine And.intro (by omega) ?_ | simp (maxSteps := 4000000) (disch := omega) only [go_sem, ↓reduceIte, hfz])
 first | exact ⟨hB2, ⟨ad2, cap2, none, 0⟩, rfl, by simp [closed, A0], Aj9 hbY hp⟩ | exact ⟨⟨ad2, cap2, none, 0⟩, rfl, by simp [closed, A0], Aj9 hbY hp⟩ | exact ⟨hB2, ⟨ad2, cap2, none, 0⟩, by simp [closed, A0], Aj9 hbY hp⟩ | exact ⟨⟨ad2, cap2, none, 0⟩, by simp [closed, A0], Aj9 hbY hp⟩ | exact ⟨hB2, ⟨ad2, cap2, none, 0⟩, by simp [closed, A0, E5]⟩ | exact ⟨⟨ad2, cap2, none, 0⟩, by simp [closed, A0, E5]⟩
theorem Bq8 (qs : List (Itm × Plc)) : G2 (qs.flatMap itQ) = true := by
 induction qs with
 | nil => rfl
 | cons q qs ih => rw [List.flatMap_cons, J2, ih]; rfl
theorem Cb7 (qs : List (Itm × Plc)) (n : Nat) (B : Base) (ad : Option Addr) (cap : Nat) (hc : CellsAt B ad (qs.flatMap itC)) (hql : qs.length ≤ 1099511627776) (hk : ∀ q ∈ qs, ItAt B q.1 q.2) (hn : qs.length = n) :
  Does Try.prog 64 [.raw (.slice ad n cap)] B (fun s : Plc => .agg (itE (.mk 1 [] (qs.map Prod.fst)) s)) (fun s B' => ItAt B' (.mk 1 [] (qs.map Prod.fst)) s) := by
 subst hn
 have e1 : (Itm.mk 1 [] (qs.map Prod.fst)).list = 1 := rfl
 have e2 : (Itm.mk 1 [] (qs.map Prod.fst)).bytes = [] := rfl
 have e3 : (Itm.mk 1 [] (qs.map Prod.fst)).kids.length = qs.length := List.length_map _
 simp only [itE, e1, e2, e3, List.length_nil]
 refine K2 Dq9 (fun s B B' hB hR => hR.ext hB) Try.func64 rfl Dz2 (by simp [Try.f64]) (by simp [A0, closed]) (fun B0 hB0 => A2 1000 ?_)
 replace hc := hc.ext hB0
 have hcl : (qs.flatMap itC).length = qs.length * 3 := by rw [N1 (k := 3) (fun q _ => rfl)]; omega
 have hmo : (qs.flatMap itC).map D9 = qs.flatMap itQ := by
  rw [List.map_flatMap]; rfl
 obtain ⟨c, hs1, hs2⟩ := CellsAt.src (cap := cap) hc (sz := 3) (by omega) hcl []
 repeat' (first | with_reducible refine And.intro (by first | omega | (simp; done)) ?_ | simp (maxSteps := 4000000) (disch := omega) only [go_sem, ↓reduceIte, Try.f64])
 refine Ae3 (l := some (0, [])) (xs := []) (zs := z3) (news := qs.flatMap itQ) (T := 91) 1 0 rfl Try.underlying89 (.inl ⟨_, Try.underlying89⟩) Bj5 Bn1 (by simp [z3]) C7 rfl rfl rfl ⟨Nat.le_refl _, Nat.zero_le _, rfl, by simp⟩ rfl trivial (by rw [← hmo]; exact (CellsAt.src (cap := cap) hc (sz := 3) (by omega) hcl _).choose_spec.1) (CellsAt.src (cap := cap) hc (sz := 3) (by omega) hcl _).choose_spec.2 (Bq8 qs) (by simp only [maxLen]; omega) (by rw [show Try.prog.bytesOf 91 = 56 from Bn7]; omega) (fun l1 hl1 => ?_)
 simp only [Nat.zero_add, List.nil_append] at hl1 ⊢
 refine X8 (xs := qs.flatMap itQ) (T := 91) 2 qs.length rfl hl1 (by rw [H8]; rfl) (C1 0 qs) C7 (by simp) (fun b2 kA kc B3 hB3 hf2' hD hso hcell => A2 1000 ?_)
 change BExt B0 B3 at hB3
 have hC : CellsAt B3 kA (qs.flatMap itC) := L7 hD hso (fun h0 => by
  rw [List.length_eq_zero_iff.1 h0]; rfl) hcell (Af6 _ _)
 repeat' (first | with_reducible refine And.intro (by omega) ?_ | simp (maxSteps := 4000000) (disch := omega) only [go_sem, ↓reduceIte, hf2'])
 have hfin : ItAt B3 (.mk 1 [] (qs.map Prod.fst)) ⟨none, 0, kA, kc⟩ := .mk 1 [] qs _ (E5 _) (by simp) hC hql (fun q hq => (hk q hq).ext (hB0.trans hB3))
 first | exact ⟨hB3, ⟨none, 0, kA, kc⟩, rfl, by simp [closed, A0], hfin⟩ | exact ⟨⟨none, 0, kA, kc⟩, rfl, by simp [closed, A0], hfin⟩ | exact ⟨hB3, ⟨none, 0, kA, kc⟩, by simp [closed, A0], hfin⟩ | exact ⟨⟨none, 0, kA, kc⟩, by simp [closed, A0], hfin⟩ | exact ⟨hB3, ⟨none, 0, kA, kc⟩, by simp [closed, A0, E5]⟩ | exact ⟨⟨none, 0, kA, kc⟩, by simp [closed, A0, E5]⟩
theorem Bd7 (base n : Nat) (hb : base ≤ 192) (hn : n < 4611686018427387904) (B : Base) :
  Owns Try.prog 88 5 [.int .u8 0] [.int .u8 (base : Nat), .int .i64 (n : Nat)] B (fun _ : Lst => (hd base n).length) (fun _ => (hd base n).map bE) (fun l => l) (fun _ _ => True) := by
 refine Da4 Ed2 (fun s B B' hB hR => hR) Try.func88 rfl Dy2 (by simp [Try.f88]) (by simp [A0, closed]) (fun B0 hB0 => A2 1000 ?_) hz8
 by_cases h55 : n ≤ 55
 ·have eh : hd base n = [UInt8.ofNat (base + n)] := if_pos h55
  have ev : ((UInt8.ofNat (base + n)).toNat : Int) = (base : Int) + n := by rw [Bo6 (by omega)]; push_cast; rfl
  repeat' (first | with_reducible refine And.intro (by first | omega | (simp; done)) ?_ | simp (maxSteps := 4000000) (disch := omega) only [go_sem, ↓reduceIte, Try.f88] | ((first | refine A9 (fun h => ?_) (fun h => ?_) | refine F2 (fun h => ?_) (fun h => ?_) | refine G0 (fun h => ?_) (fun h => ?_)) <;> (try simp only [bne_iff_ne, ne_eq, beq_iff_eq, decide_eq_true_eq, decide_eq_false_iff_not, Bool.not_eq_true, Bool.not_eq_false, Bool.not_true, Bool.not_false, bne_eq_false_iff_eq, beq_eq_false_iff_ne, Bool.and_eq_true, Bool.or_eq_true, Bool.and_eq_false_imp, Bool.or_eq_false_iff, Bool.not_eq_true', Bool.not_eq_false', Int.not_lt, Int.not_le] at h) <;> (try (exfalso; omega))))
  refine ⟨BExt.refl _, some (1, []), by rw [eh]; rfl, ?_, by rw [eh]; exact ⟨Nat.le_refl _, by simp [maxLen], rfl, by simp⟩, A7 0 _⟩
  rw [eh]; simp only [List.map_cons, List.map_nil, bE, ev]; rfl
 ·have eh : hd base n = UInt8.ofNat (base + 55 + nby n) :: leB n := if_neg h55
  have h8 := Db0 (n := n) (by omega)
  have ev : ((UInt8.ofNat (base + 55 + nby n)).toNat : Int) = (base : Int) + 55 + nby n := by rw [Bo6 (by omega)]; push_cast; rfl
  have hll := Z8 n
  have hlh : (hd base n).length = 1 + nby n := by rw [eh, List.length_cons]; omega
  repeat' (first | simp (maxSteps := 4000000) (disch := omega) only [go_sem, ↓reduceIte, Try.f88] | refine R5 (Da0 n (by omega)) (A2 1000 ?_) | ((first | refine A9 (fun h => ?_) (fun h => ?_) | refine F2 (fun h => ?_) (fun h => ?_) | refine G0 (fun h => ?_) (fun h => ?_)) <;> (try simp only [bne_iff_ne, ne_eq, beq_iff_eq, decide_eq_true_eq, decide_eq_false_iff_not, Bool.not_eq_true, Bool.not_eq_false, Bool.not_true, Bool.not_false, bne_eq_false_iff_eq, beq_eq_false_iff_ne, Bool.and_eq_true, Bool.or_eq_true, Bool.and_eq_false_imp, Bool.or_eq_false_iff, Bool.not_eq_true', Bool.not_eq_false', Int.not_lt, Int.not_le] at h) <;> (try (exfalso; omega))))
  refine F8 (Cb8 n (by omega) _) (fun _ => by simp [closed]) (fun s B2 hB2 hR => A2 1000 ?_)
  change BExt B0 B2 at hB2
  repeat' (first | with_reducible refine And.intro (by first | omega | (simp; done)) ?_ | simp (maxSteps := 4000000) (disch := omega) only [go_sem, ↓reduceIte])
  refine appB (T := 5) (l := some (1, [])) (xs := [UInt8.ofNat (base + 55 + nby n)]) 0 1 (leB n) rfl Try.underlying22 (.inl ⟨_, Try.underlying22⟩) zr5 cz5 by5 rfl rfl (by simp only [List.map_cons, List.map_nil, bE, ev]; rfl) (by simp [lOk, maxLen]) ((Z8 n) ▸ hR.1.src _) (by rw [Z8]; omega) (fun l1 hl1 => ?_)
  have hx : [UInt8.ofNat (base + 55 + nby n)] ++ leB n = hd base n := eh.symm
  have e5 : 1 + (leB n).length = (hd base n).length := by omega
  simp only [e5, hx] at hl1 ⊢
  have hl1' := hl1
  obtain ⟨cp, rest, rfl, -⟩ := D8 hl1 (by omega)
  simp only [A5]
  refine L2 [1] 0 (by simp) (by simp) (by simp [cxG]) (by simp) (A2 1000 ?_)
  have hpk := F5 (T := 5) (ks := [1]) (k := 0) hl1' (A7 0 (hd base n)) hz8
  repeat' (first | with_reducible refine And.intro (by omega) ?_ | simp (maxSteps := 4000000) (disch := omega) only [go_sem, ↓reduceIte, okC, okE, P3, E9, hpk, E4])
  first | exact ⟨hB2, some (cp, rest), rfl, rfl, hl1', A7 0 _⟩ | exact ⟨some (cp, rest), rfl, rfl, hl1', A7 0 _⟩
end Go.Proofs.Ytncjbfkkgdepoaa
