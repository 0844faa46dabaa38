/- Part of a proof over the seat YtepabkjfnpaijaaGreat. -/
import Derived.Test.YtepabkjfnpaijaaGreatG19
import Derived.Test.YtepabkjfnpaijaaGreatG18
import Derived.Test.YtepabkjfnpaijaaGreatEng3
set_option linter.unusedSimpArgs false
set_option linter.unusedVariables false
set_option maxRecDepth 100000
namespace Go.Proofs.YtepabkjfnpaijaaGreat
open Go RowKit Go.Ew
theorem Cq5 : ∀ a : List UInt8, Op.bytesLess a a = false
 | [] => rfl
 | x :: a => by
  rw [Op.bytesLess, Cq5 a]
  simp
theorem By4 : ∀ a b c : List UInt8, Op.bytesLess a b = true → Op.bytesLess b c = true → Op.bytesLess a c = true
 | _, [], _, h, _ => by simp [Op.bytesLess] at h
 | _, _ :: _, [], _, h => by simp [Op.bytesLess] at h
 | [], _ :: _, _ :: _, _, _ => rfl
 | x :: a, y :: b, z :: c, h1, h2 => by
  simp only [Op.bytesLess, Bool.or_eq_true, decide_eq_true_eq, Bool.and_eq_true, beq_iff_eq] at *
  rcases h1 with h1 | ⟨rfl, h1⟩
  ·rcases h2 with h2 | ⟨rfl, h2⟩
   ·exact .inl (UInt8.lt_trans h1 h2)
   ·exact .inl h1
  ·rcases h2 with h2 | ⟨rfl, h2⟩
   ·exact .inl h2
   ·exact .inr ⟨rfl, By4 a b c h1 h2⟩
theorem By5 : ∀ a b : List UInt8, Op.bytesLess a b = true ∨ a = b ∨ Op.bytesLess b a = true
 | [], [] => .inr (.inl rfl)
 | [], _ :: _ => .inl rfl
 | _ :: _, [] => .inr (.inr rfl)
 | x :: a, y :: b => by
  simp only [Op.bytesLess, Bool.or_eq_true, decide_eq_true_eq, Bool.and_eq_true, beq_iff_eq, List.cons.injEq]
  rcases Nat.lt_trichotomy x.toNat y.toNat with h | h | h
  ·exact .inl (.inl (UInt8.lt_iff_toNat_lt.2 h))
  ·obtain rfl := UInt8.toNat_inj.1 h
   rcases By5 a b with h | rfl | h
   ·exact .inl (.inr ⟨rfl, h⟩)
   ·exact .inr (.inl ⟨rfl, rfl⟩)
   ·exact .inr (.inr (.inr ⟨rfl, h⟩))
  ·exact .inr (.inr (.inl (UInt8.lt_iff_toNat_lt.2 h)))
/-- The place of a key. -/
def atM : List KV → List UInt8 → Nat
 | [], _ => 0
 | p :: m, k => if Op.bytesLess p.1 k then atM m k + 1 else 0
def isM (m : List KV) (k : List UInt8) : Bool := match m[atM m k]? with | some p => p.1 == k | none => false
def Av5 (m : List KV) (k v : List UInt8) : List KV :=
 m.take (atM m k) ++ (if v = [] then [] else [(k, v)]) ++ m.drop (atM m k + if isM m k then 1 else 0)
def Srt (m : List KV) : Prop := m.Pairwise fun p q => Op.bytesLess p.1 q.1 = true
theorem Bm7 : ∀ (m : List KV) (k : List UInt8), atM m k ≤ m.length
 | [], _ => Nat.le_refl _
 | p :: m, k => by
  have := Bm7 m k
  rw [atM]; split <;> simp <;> omega
theorem Df9 : ∀ (m : List KV) (k : List UInt8) (i : Nat) (h : i < m.length), i < atM m k → Op.bytesLess (m[i]).1 k = true
 | p :: m, k, i, h, hi => by
  rw [atM] at hi
  split at hi
  ·rename_i hp
   cases i with
   | zero => exact hp
   | succ i => exact Df9 m k i (by simpa using h) (by omega)
  ·omega
theorem Dg0 : ∀ (m : List KV) (k : List UInt8) (h : atM m k < m.length), Op.bytesLess (m[atM m k]).1 k = false
 | p :: m, k, h => by
  by_cases hp : Op.bytesLess p.1 k = true
  ·have e : atM (p :: m) k = atM m k + 1 := by rw [atM, if_pos hp]
   simp only [e] at h ⊢
   exact Dg0 m k (by simpa using h)
  ·have e : atM (p :: m) k = 0 := by rw [atM, if_neg hp]
   simp only [e]
   simpa using hp
theorem An3 {p : KV} {m : List KV} {k v : List UInt8} (h : Op.bytesLess p.1 k = true) : Av5 (p :: m) k v = p :: Av5 m k v := by
 have e : atM (p :: m) k = atM m k + 1 := by rw [atM, if_pos h]
 have e2 : isM (p :: m) k = isM m k := by rw [isM, e, List.getElem?_cons_succ, ← isM]
 rw [Av5, Av5, e, e2, show atM m k + 1 + (if isM m k then 1 else 0) = (atM m k + if isM m k then 1 else 0) + 1 by omega, List.drop_succ_cons, List.take_succ_cons, List.cons_append, List.cons_append]
theorem An4 {p : KV} {m : List KV} {k v : List UInt8} (h : Op.bytesLess p.1 k = false) : Av5 (p :: m) k v = (if v = [] then [] else [(k, v)]) ++ (if p.1 = k then m else p :: m) := by
 have e : atM (p :: m) k = 0 := by rw [atM, if_neg (by rw [h]; simp)]
 have e2 : isM (p :: m) k = (p.1 == k) := by rw [isM, e]; rfl
 rw [Av5, e, e2, List.take_zero, List.nil_append]
 by_cases hk : p.1 = k
 ·simp [hk]
 ·simp [hk]
theorem Z4 : ∀ (m : List KV) (k v : List UInt8), Srt m → ∀ q, q ∈ Av5 m k v ↔ (q = (k, v) ∧ v ≠ []) ∨ (q.1 ≠ k ∧ q ∈ m)
 | [], k, v, _, q => by
  simp only [Av5, List.take_nil, List.drop_nil, List.nil_append, List.append_nil, List.not_mem_nil, and_false, or_false]
  split <;> simp_all
 | p :: m, k, v, hs, q => by
  have hs' := hs
  rw [Srt, List.pairwise_cons] at hs'
  obtain ⟨h1, h2⟩ := hs'
  by_cases hp : Op.bytesLess p.1 k = true
  ·rw [An3 hp, List.mem_cons, Z4 m k v h2 q, List.mem_cons]
   have hpk : p.1 ≠ k := fun h => by rw [h, Cq5] at hp; cases hp
   constructor
   ·rintro (rfl | h | h)
    ·exact .inr ⟨hpk, .inl rfl⟩
    ·exact .inl h
    ·exact .inr ⟨h.1, .inr h.2⟩
   ·rintro (h | ⟨h, rfl | h'⟩)
    ·exact .inr (.inl h)
    ·exact .inl rfl
    ·exact .inr (.inr ⟨h, h'⟩)
  ·have hp' : Op.bytesLess p.1 k = false := by simpa using hp
   rw [An4 hp', List.mem_append]
   have e1 : (q ∈ (if v = [] then [] else [(k, v)])) ↔ (q = (k, v) ∧ v ≠ []) := by split <;> simp_all
   have hgt : ∀ r ∈ m, r.1 ≠ k := fun r hr h => by
    have := h1 r hr
    rw [h] at this
    rw [this] at hp'; cases hp'
   rw [e1]
   by_cases hk : p.1 = k
   ·rw [if_pos hk, List.mem_cons]
    constructor
    ·rintro (h | h)
     ·exact .inl h
     ·exact .inr ⟨hgt q h, .inr h⟩
    ·rintro (h | ⟨h, rfl | h'⟩)
     ·exact .inl h
     ·exact absurd hk h
     ·exact .inr h'
   ·rw [if_neg hk, List.mem_cons]
    constructor
    ·rintro (h | rfl | h)
     ·exact .inl h
     ·exact .inr ⟨hk, .inl rfl⟩
     ·exact .inr ⟨hgt q h, .inr h⟩
    ·rintro (h | ⟨h, h'⟩)
     ·exact .inl h
     ·exact .inr h'
theorem Bv2 : ∀ (m : List KV) (k v : List UInt8), Srt m → Srt (Av5 m k v)
 | [], k, v, _ => by
  simp only [Av5, List.take_nil, List.drop_nil, List.nil_append, List.append_nil]
  split <;> simp [Srt]
 | p :: m, k, v, hs => by
  have hs' := hs
  rw [Srt, List.pairwise_cons] at hs'
  obtain ⟨h1, h2⟩ := hs'
  by_cases hp : Op.bytesLess p.1 k = true
  ·rw [An3 hp, Srt, List.pairwise_cons]
   refine ⟨fun q hq => ?_, Bv2 m k v h2⟩
   rcases (Z4 m k v h2 q).1 hq with ⟨rfl, _⟩ | ⟨_, h⟩
   ·exact hp
   ·exact h1 q h
  ·have hp' : Op.bytesLess p.1 k = false := by simpa using hp
   have hkm : ∀ r ∈ (if p.1 = k then m else p :: m), Op.bytesLess k r.1 = true := fun r hr => by
    by_cases hk : p.1 = k
    ·rw [if_pos hk] at hr; rw [← hk]; exact h1 r hr
    ·rw [if_neg hk] at hr
     have hkp : Op.bytesLess k p.1 = true := by
      rcases By5 p.1 k with h | h | h
      ·rw [hp'] at h; cases h
      ·exact absurd h hk
      ·exact h
     rcases List.mem_cons.1 hr with rfl | hr
     ·exact hkp
     ·exact By4 _ _ _ hkp (h1 r hr)
   have hsm : Srt (if p.1 = k then m else p :: m) := by split <;> assumption
   rw [An4 hp']
   split
   ·exact hsm
   ·rw [Srt, List.singleton_append, List.pairwise_cons]
    exact ⟨hkm, hsm⟩
theorem Cx4 (m : List KV) (k v : List UInt8) : (Av5 m k v).length ≤ m.length + 1 := by
 have := Bm7 m k
 rw [Av5, List.length_append, List.length_append, List.length_take, List.length_drop]
 split <;> simp <;> omega
theorem Bc2 : ∀ a b : List UInt8, N5 a = N5 b → a = b
 | [], [], _ => rfl
 | [], _ :: _, h => by simp [N5] at h
 | _ :: _, [], h => by simp [N5] at h
 | x :: a, y :: b, h => by
  have e : ∀ (x : UInt8) l, N5 (x :: l) = hiN x :: loN x :: N5 l := fun _ _ => rfl
  rw [e, e] at h
  simp only [List.cons.injEq] at h
  have h1 := congrArg UInt8.toNat h.1
  have h2 := congrArg UInt8.toNat h.2.1
  rw [As9, As9] at h1
  rw [W8, W8] at h2
  rw [Bc2 a b h.2.2, UInt8.toNat_inj.1 (show x.toNat = y.toNat by omega)]
theorem Bp3 (a : List UInt8) : ∀ x ∈ N5 a, x.toNat < 16 := by
 intro x hx
 rw [N5, List.mem_flatMap] at hx
 obtain ⟨c, _, hx⟩ := hx
 have := c.toNat_lt
 simp only [List.mem_cons, List.not_mem_nil, or_false] at hx
 rcases hx with rfl | rfl
 ·rw [As9]; omega
 ·rw [W8]; omega
structure Agree (t : Nd) (m : List KV) : Prop where
 c : t = .nil ∨ Canon t
 s : Srt m
 v : ∀ p ∈ m, p.2 ≠ []
 g : ∀ q v, v ≠ [] → (Q2 t q = v ↔ ∃ p ∈ m, N5 p.1 = q ∧ p.2 = v)
theorem Agree.nil : Agree .nil [] := ⟨.inl rfl, List.Pairwise.nil, fun p hp => by simp at hp, fun q v hv => by simp [Bw7, Ne.symm hv]⟩
theorem Agree.put {t : Nd} {m : List KV} (h : Agree t m) (k v : List UInt8) (hv : v ≠ []) {f : Nat} (hf : (N5 k).length < f) : Agree (V7 f t (N5 k) v) (Av5 m k v) := by
 obtain ⟨h1, h2⟩ := Di6 f t (N5 k) v h.c hf (Bp3 k) hv
 refine ⟨.inr h1, Bv2 m k v h.s, fun p hp => ?_, fun q w hw => ?_⟩
 ·rcases (Z4 m k v h.s p).1 hp with ⟨rfl, _⟩ | ⟨_, hp⟩
  ·exact hv
  ·exact h.v p hp
 ·rw [h2 q]
  by_cases e : q = N5 k
  ·rw [if_pos e]
   constructor
   ·rintro rfl
    exact ⟨(k, v), (Z4 m k v h.s _).2 (.inl ⟨rfl, hv⟩), e.symm, rfl⟩
   ·rintro ⟨p, hp, h3, h4⟩
    rcases (Z4 m k v h.s p).1 hp with ⟨rfl, _⟩ | ⟨hn, _⟩
    ·exact h4
    ·exact absurd (Bc2 _ _ (h3.trans e)) hn
  ·rw [if_neg e, h.g q w hw]
   constructor
   ·rintro ⟨p, hp, h3, h4⟩
    exact ⟨p, (Z4 m k v h.s p).2 (.inr ⟨fun h5 => e (by rw [← h3, h5]), hp⟩), h3, h4⟩
   ·rintro ⟨p, hp, h3, h4⟩
    rcases (Z4 m k v h.s p).1 hp with ⟨rfl, _⟩ | ⟨_, hp⟩
    ·exact absurd h3.symm e
    ·exact ⟨p, hp, h3, h4⟩
def Aw4 (m : List KV) : List KV := m.map fun p => (N5 p.1, p.2)
theorem Agree.ok {t : Nd} {m : List KV} (h : Agree t m) (hm : m ≠ []) {f : Nat} (hf : ∀ p ∈ m, (N5 p.1).length < f) : MOk f (Aw4 m) 0 := by
 refine ⟨by simpa [Aw4] using hm, fun p hp => ?_, fun p hp => ?_, fun p hp => ?_, ?_, fun p hp q hq => by simp⟩
 ·obtain ⟨q, hq, rfl⟩ := List.mem_map.1 hp
  exact ⟨Nat.zero_le _, by have := hf q hq; simp only; omega⟩
 ·obtain ⟨q, hq, rfl⟩ := List.mem_map.1 hp
  exact Bp3 _
 ·obtain ⟨q, hq, rfl⟩ := List.mem_map.1 hp
  exact h.v q hq
 ·rw [Aw4, List.map_map, List.nodup_iff_pairwise_ne, List.pairwise_map]
  refine h.s.imp fun {p q} hpq he => ?_
  have := Bc2 _ _ he
  rw [this, Cq5] at hpq; cases hpq
theorem Agree.nil_of {t : Nd} (h : Agree t []) : t = .nil := by
 rcases h.c with h1 | h1
 ·exact h1
 ·obtain ⟨q, hq⟩ := Dp0 h1
  have := (h.g q _ hq).1 rfl
  simp at this
/-- The trie of a map is the one that the document describes. -/
theorem Agree.eq {t : Nd} {m : List KV} (h : Agree t m) (hm : m ≠ []) {f : Nat} (hf : ∀ p ∈ m, (N5 p.1).length < f) : t = Ae7 f (Aw4 m) 0 := by
 obtain ⟨c1, _, c2⟩ := Dl3 f (Aw4 m) 0 (h.ok hm hf)
 have hg : ∀ q v, v ≠ [] → (Q2 t q = v ↔ Q2 (Ae7 f (Aw4 m) 0) q = v) := fun q v hv => by
  rw [c2 q v hv, h.g q v hv]
  simp only [Aw4, List.mem_map, List.drop_zero]
  constructor
  ·rintro ⟨p, hp, h1, h2⟩; exact ⟨_, ⟨p, hp, rfl⟩, h1, h2⟩
  ·rintro ⟨_, ⟨p, hp, rfl⟩, h1, h2⟩; exact ⟨p, hp, h1, h2⟩
 have hc : Canon t := by
  rcases h.c with rfl | h1
  ·obtain ⟨q, hq⟩ := Dp0 c1
   have := (hg q _ hq).2 rfl
   rw [Bw7] at this
   exact absurd this.symm hq
  ·exact h1
 refine Co9 hc _ c1 fun q => ?_
 by_cases e : Q2 t q = []
 ·by_cases e2 : Q2 (Ae7 f (Aw4 m) 0) q = []
  ·rw [e, e2]
  ·exact (hg q _ e2).2 rfl
 ·exact ((hg q _ e).1 rfl).symm
end Go.Proofs.YtepabkjfnpaijaaGreat
namespace Go.Proofs.YtepabkjfnpaijaaGreat
open Go RowKit Go.Ew
set_option maxHeartbeats 8000000
theorem Ap8 (B : Base) : Does Tryz.prog 23 [] B (fun _ : Unit => .agg (D4 .u8 (K0 [128]) 32)) (fun _ _ => True) := by
 refine I7 Er8 (fun s B B' hB hR => hR) Tryz.func23 rfl El2 (by simp [Tryz.f23]) (by simp [A0, closed]) (fun B0 hB0 => A3 1000 ?_)
 have hcl : ∀ n, A0 n (D4 .u8 (K0 [128]) 32) := fun n => A2 _ _ _ _
 repeat' (first | with_reducible refine And.intro (by first | omega | (simp; done)) ?_ | simp (maxSteps := 4000000) (disch := omega) only [go_sem, ↓reduceIte, Tryz.f23])
 refine Y5 (vf := fun _ : Unit => .agg (D4 .u8 (K0 [128]) 32)) 1 0 1 1 [] [128] Ec8 (by simp [A0]) rfl rfl rfl (fun s => hcl _) (fun B ad cap hB hb => Ai6 [128] 1 B ad cap hb rfl (by omega)) (fun s1 B1 hB1 hR1 => A3 1000 ?_)
 change BExt B0 B1 at hB1
 have hsp : I3 (D4 .u8 (fun _ => 0) 32) 0 (D4 .u8 (K0 [128]) 32) = D4 .u8 (K0 [128]) 32 := by rw [← O6]; exact J6 (K6 _) (by omega) _
 repeat' (first | with_reducible refine And.intro (by omega) ?_ | simp (maxSteps := 4000000) (disch := omega) only [go_sem, ↓reduceIte, hsp])
 first | exact ⟨hB1, (), rfl, hcl _, trivial⟩ | exact ⟨(), hcl _⟩
theorem Cm4 {S : Type} {B0 : Base} {o : S → EObj} {R : S → Base → Prop} {x : X} (s : S) (j : Nat) (hB : BExt B0 x.B) (hc : (o s).closed 0) (hg : hget x.hs j = some (o s)) (hR : R s x.B) :
  Cm5 0 B0 (fun _ => .ptr 0 0) (fun _ => 1) (fun s => [some (o s)]) R (.ptr j 0) x := by
 refine ⟨hB, s, fun _ => j, rfl, by simp [closed], fun i hi => absurd hi (Nat.not_lt_zero i), fun i o' hi => ?_, fun i j' oi oj hi hj _ => ?_, hR⟩
 ·cases i with
  | zero =>
   simp at hi; subst hi
   exact ⟨EObj.closed_mono (Nat.zero_le _) _ hc, by rw [hg]; congr 1; exact (EObj.ren_id (n := 0) (fun i hi => absurd hi (Nat.not_lt_zero i)) _ hc).symm⟩
  | succ i => simp at hi
 ·cases i with
  | zero => cases j' with
   | zero => rfl
   | succ j' => simp at hj
  | succ i => simp at hi
theorem Dr2 (B : Base) (sv : Value) (hsv : sv = .nilIface ∨ ∃ T v, sv = .iface T v) :
  Gen Tryz.prog 22 [.raw sv, .agg (D4 .u8 (K0 [128]) 32)] [] B (fun _ : Unit => .ptr 0 0) (fun _ => 1) (fun _ => [some (trO sv .nilIface)]) (fun _ _ => True) := by
 refine Df0 0 [] Er9 (fun s B B' hB hR => hR) Tryz.func22 rfl El3 (by simp [Tryz.f22]) (by simp [A0, closed, A2]) (by simp) (by simp) (by simp [Go.Ew.hget]) (fun B0 hB0 olds hol => A3 1000 ?_)
 have hcl : ∀ n, A0 n (D4 .u8 (K0 [128]) 32) := fun n => A2 _ _ _ _
 have hisI : (D4 .u8 (K0 [128]) 32).all (EV.isInt .u8) = true := by simp [D4, EV.isInt]
 have hn0 : ∀ q, N5 q = N5 q := fun _ => rfl
 rcases hsv with rfl | ⟨T, v, rfl⟩
 ·repeat' (first | simp (maxSteps := 4000000) (disch := omega) only [go_sem, ↓reduceIte, Tryz.f22, hisI] | with_reducible refine C9 (id := 2) [0, 1, 2] mixed (by kernel_rfl) (by simp) (fun hin => C8 1000 hin ?_) | with_reducible refine D7 (by kernel_rfl) (C1 (by kernel_rfl)) (A3 1000 ?_) | refine Aj9 (Ap8 B0) (by simp [closed, A0, A2, C6]) (by kernel_rfl) (F1 (by kernel_rfl) (C1 (by kernel_rfl))) (fun hin => C8 1000 hin ?_))
  exact Cm4 () 1 (BExt.refl _) (E5 _ _) rfl trivial
 ·repeat' (first | simp (maxSteps := 4000000) (disch := omega) only [go_sem, ↓reduceIte, Tryz.f22, hisI] | with_reducible refine C9 (id := 2) [0, 1, 2] mixed (by kernel_rfl) (by simp) (fun hin => C8 1000 hin ?_) | with_reducible refine D7 (by kernel_rfl) (C1 (by kernel_rfl)) (A3 1000 ?_) | refine Aj9 (Ap8 B0) (by simp [closed, A0, A2, C6]) (by kernel_rfl) (F1 (by kernel_rfl) (C1 (by kernel_rfl))) (fun hin => C8 1000 hin ?_))
  exact Cm4 () 1 (BExt.refl _) (E5 _ _) rfl trivial
theorem Cy9 (B : Base) (sv rv : Value) : Turn2 Tryz.prog 40 [] (trO sv rv) B (fun _ : Unit => .bool true) (fun _ => trO sv rv) (fun _ _ => True) := by
 refine V4 Eq5 (fun s B B' hB hR => hR) Tryz.func40 rfl Ej6 (by simp [Tryz.f40]) (by simp [A0, closed]) (E5 _ _) (fun u => E5 _ _) (fun B0 hB0 b => A3 1000 ?_)
 repeat' (first | with_reducible refine And.intro (by first | omega | (simp; done)) ?_ | simp (maxSteps := 4000000) (disch := omega) only [go_sem, ↓reduceIte, Tryz.f40, trO])
 exact ⟨BExt.refl _, (), trivial⟩
theorem Dh1 (B : Base) (sv rv : Value) {nd : Nd} {key v : List UInt8} {kn kc vn vc f : Nat} {kA vA : Option Addr} (hd : NdAt B nd rv) (hw : Wf nd) (hk : BytesAt B kA key) (hv : BytesAt B vA v) (hkn : key.length = kn) (hvn : v.length = vn) (hk64 : kn ≤ 64) (hv0 : 0 < vn) (hvm : vn ≤ 1048576) (hf : (N5 key).length < f) :
  Turn2 Tryz.prog 24 [.raw (.slice kA kn kc), .raw (.slice vA vn vc)] (trO sv rv) B (fun _ : Value => .int .i64 0) (fun u => trO sv u) (fun u B' => NdAt B' (V7 f nd (N5 key) v) u) := by
 refine V4 Ec9 (fun s B B' hB hR => hR.ext' hB) Tryz.func24 rfl Ec1 (by simp [Tryz.f24]) (by simp [A0, closed]) (E5 _ _) (fun u => E5 _ _) (fun B0 hB0 b => A3 1000 ?_)
 replace hd := hd.ext' hB0
 replace hk := hk.ext hB0
 replace hv := hv.ext hB0
 have c1 : decide ((64 : Int) < (kn : Int)) = false := decide_eq_false (by omega)
 have c2 : decide ((1048576 : Int) < (vn : Int)) = false := decide_eq_false (by omega)
 have c3 : (((vn : Nat) : Int) == 0) = false := by rw [beq_eq_false_iff_ne]; omega
 repeat' (simp (maxSteps := 4000000) (disch := omega) only [go_sem, ↓reduceIte, Tryz.f24])
 refine S3 0 (Cy9 B0 sv rv) rfl (fun _ => trivial) (E5 _ _) (fun _ => E5 _ _) (fun _ B1 hB1 _ => A3 1000 ?_)
 change BExt B0 B1 at hB1
 repeat' (first | with_reducible refine And.intro (by omega) ?_ | simp (maxSteps := 4000000) (disch := omega) only [go_sem, ↓reduceIte, c1, c2, c3, trO] | with_reducible refine C9 (id := 7) [0, 1, 2, 3, 4, 5, 7, 6, 8, 9, 10, 11, 12, 13, 14] mixed (by kernel_rfl) (by simp) (fun hin => C8 1000 hin ?_))
 refine H7 (Cb5 key kn _ kA kc (hk.ext hB1) hkn (by omega)) (fun _ => by simp [closed]) (by kernel_rfl) (F1 (by kernel_rfl) (C1 (by kernel_rfl))) (fun hin2 s2 B2 hB2 hR2 => C8 1000 hin2 ?_)
 change BExt B1 B2 at hB2
 repeat' (simp (maxSteps := 4000000) (disch := omega) only [go_sem, ↓reduceIte])
 refine H7 (Cr0 v vn _ vA vc ((hv.ext hB1).ext hB2) hvn (by omega)) (fun _ => by simp [closed]) (by kernel_rfl) (F1 (by kernel_rfl) (C1 (by kernel_rfl))) (fun hin2 s3 B3 hB3 hR3 => C8 1000 hin2 ?_)
 change BExt B2 B3 at hB3
 repeat' (simp (maxSteps := 4000000) (disch := omega) only [go_sem, ↓reduceIte])
 have hnl := Z9 key
 refine Aj8 0 (Dq1 sv rv f nd B3 rv (N5 key) v s2.1 s3.1 (N5 key).length s2.2 vn s3.2 (hd.ext' (hB1.trans (hB2.trans hB3))) hw hf (Bp3 key) rfl hvn (hR2.1.ext hB3) hR3.1 hR2.2 (by omega) (by omega)) rfl (fun _ => by simp [closed, A0]) (E5 _ _) (fun _ => E5 _ _) (by kernel_rfl) (F1 (by kernel_rfl) (C1 (by kernel_rfl))) (fun hin2 u B4 hB4 hR4 => C8 1000 hin2 ?_)
 change BExt B3 B4 at hB4
 obtain ⟨T2, a2, rfl⟩ : ∃ T a, u = .iface T (.pointer (some ⟨a, 0, none⟩)) := by
  rcases hR4.cases' with ⟨hu, _⟩ | ⟨_, h⟩
  ·exact absurd hu (Bo8 _ _ _ _)
  ·exact h
 repeat' (first | with_reducible refine And.intro (by omega) ?_ | simp (maxSteps := 4000000) (disch := omega) only [go_sem, ↓reduceIte, trO] | with_reducible refine D7 (by kernel_rfl) (C1 (by kernel_rfl)) (A3 1000 ?_))
 exact ⟨hB1.trans (hB2.trans (hB3.trans hB4)), _, trivial, rfl, hR4⟩
theorem Bn7 (B : Base) (sv rv : Value) {kn kc vn vc : Nat} {kA vA : Option Addr} (h : 64 < kn ∨ 1048576 < vn) :
  Turn2 Tryz.prog 24 [.raw (.slice kA kn kc), .raw (.slice vA vn vc)] (trO sv rv) B (fun _ : Unit => .int .i64 2) (fun u => trO sv rv) (fun u B' => True) := by
 refine V4 Ec9 (fun s B B' hB hR => hR) Tryz.func24 rfl Ec1 (by simp [Tryz.f24]) (by simp [A0, closed]) (E5 _ _) (fun u => E5 _ _) (fun B0 hB0 b => A3 1000 ?_)
 by_cases h1 : 64 < kn
 ·have c1 : decide ((64 : Int) < (kn : Int)) = true := decide_eq_true (by omega)
  repeat' (simp (maxSteps := 4000000) (disch := omega) only [go_sem, ↓reduceIte, Tryz.f24])
  refine S3 0 (Cy9 B0 sv rv) rfl (fun _ => trivial) (E5 _ _) (fun _ => E5 _ _) (fun _ B1 hB1 _ => A3 1000 ?_)
  change BExt B0 B1 at hB1
  repeat' (first | with_reducible refine And.intro (by omega) ?_ | simp (maxSteps := 4000000) (disch := omega) only [go_sem, ↓reduceIte, c1])
  exact ⟨(), trivial⟩
 ·have c1 : decide ((64 : Int) < (kn : Int)) = false := decide_eq_false (by omega)
  have c2 : decide ((1048576 : Int) < (vn : Int)) = true := decide_eq_true (by omega)
  repeat' (simp (maxSteps := 4000000) (disch := omega) only [go_sem, ↓reduceIte, Tryz.f24])
  refine S3 0 (Cy9 B0 sv rv) rfl (fun _ => trivial) (E5 _ _) (fun _ => E5 _ _) (fun _ B1 hB1 _ => A3 1000 ?_)
  change BExt B0 B1 at hB1
  repeat' (first | with_reducible refine And.intro (by omega) ?_ | simp (maxSteps := 4000000) (disch := omega) only [go_sem, ↓reduceIte, c1, c2])
  exact ⟨(), trivial⟩
theorem Di1 (B : Base) (sv rv : Value) {nd : Nd} (hd : NdAt B nd rv) :
  Turn2 Tryz.prog 25 [] (trO sv rv) B (fun _ : Unit => .tup [.agg (D4 .u8 (K0 (H5 (E3 nd))) 32), .int .i64 0]) (fun _ => trO sv rv) (fun _ _ => True) := by
 refine V4 Er7 (fun s B B' hB hR => hR) Tryz.func25 rfl El1 (by simp [Tryz.f25]) (by simp [A0, closed]) (E5 _ _) (fun u => E5 _ _) (fun B0 hB0 b => A3 1000 ?_)
 replace hd := hd.ext' hB0
 have hcl : ∀ p n, A0 n (D4 .u8 (K0 p) 32) := fun p n => A2 _ _ _ _
 have hsp : ∀ p, I3 (D4 .u8 (fun _ => 0) 32) 0 (D4 .u8 (K0 p) 32) = D4 .u8 (K0 p) 32 := fun p => by rw [← O6]; exact J6 (K6 _) (by omega) _
 repeat' (simp (maxSteps := 4000000) (disch := omega) only [go_sem, ↓reduceIte, Tryz.f25])
 refine S3 0 (Cy9 B0 sv rv) rfl (fun _ => trivial) (E5 _ _) (fun _ => E5 _ _) (fun _ B1 hB1 _ => A3 1000 ?_)
 change BExt B0 B1 at hB1
 replace hd := hd.ext' hB1
 rcases hd.cases' with ⟨rfl, rfl⟩ | ⟨hkn, T, a, rfl⟩
 ·have hfe : H5 (E3 .nil) = [128] := rfl
  rw [hfe]
  repeat' (first | with_reducible refine And.intro (by omega) ?_ | simp (maxSteps := 4000000) (disch := omega) only [go_sem, ↓reduceIte, trO])
  refine Bd7 rfl Tryz.underlying89 rfl (A3 1000 ?_)
  repeat' (first | with_reducible refine And.intro (by omega) ?_ | simp (maxSteps := 4000000) (disch := omega) only [go_sem, ↓reduceIte, hsp] | refine F5 (Ap8 B1) (by simp [closed, A0, A2, C6]) (A3 1000 ?_))
  exact ⟨(), by simp [closed, A0, hcl]⟩
 ·have hTn := Ci7 hd
  have hfm := Cm8 hd (Bq7 nd hd T a rfl) (Da7 nd) (Cz7 hd)
  have hfl := Cz7 hd
  obtain ⟨p, hp⟩ : ∃ p, p = H5 (E3 nd) := ⟨_, rfl⟩
  rw [← hp] at hfm hfl ⊢
  repeat' (first | with_reducible refine And.intro (by omega) ?_ | simp (maxSteps := 4000000) (disch := omega) only [go_sem, ↓reduceIte, trO])
  refine Aj4 rfl Tryz.underlying89 rfl (A3 1000 ?_)
  repeat' (simp (maxSteps := 4000000) (disch := omega) only [go_sem, ↓reduceIte])
  refine Ax4 rfl Tryz.underlying92 Aq3 rfl hTn (A3 1000 ?_)
  repeat' (simp (maxSteps := 4000000) (disch := omega) only [go_sem, ↓reduceIte])
  refine F9 hfm (fun _ => by simp [closed, A0]) (fun s2 B2 hB2 hR2 => A3 1000 ?_)
  change BExt B1 B2 at hB2
  repeat' (simp (maxSteps := 4000000) (disch := omega) only [go_sem, ↓reduceIte])
  refine F9 (Ai6 p _ _ s2.1 s2.2 hR2.1 rfl (by omega)) (fun _ => A2 _ _ _ _) (fun s3 B3 hB3 hR3 => A3 1000 ?_)
  change BExt B2 B3 at hB3
  repeat' (simp (maxSteps := 4000000) (disch := omega) only [go_sem, ↓reduceIte, hsp])
  exact ⟨hB1.trans (hB2.trans hB3), (), by simp [closed, A0, hcl]⟩
end Go.Proofs.YtepabkjfnpaijaaGreat
namespace Go.Proofs.YtepabkjfnpaijaaGreat
open Go RowKit Go.Ew
set_option maxHeartbeats 8000000
structure Bs where
 l : List UInt8
 ad : Option Addr
 c : Nat
def Bs.v (q : Bs) : Value := .slice q.ad q.l.length q.c
structure Bs.Ok (B : Base) (q : Bs) : Prop where
 b : BytesAt B q.ad q.l
 c : q.l.length ≤ q.c
 m : q.l.length ≤ 1099511627776
structure BssAt (B : Base) (ad : Option Addr) (qs : List Bs) : Prop where
 c : CellsAt B ad (qs.map Bs.v)
 ok : ∀ q ∈ qs, q.Ok B
 len : qs.length ≤ 1099511627776
theorem Bs.Ok.ext {B B' : Base} {q : Bs} (h : q.Ok B) (e : BExt B B') : q.Ok B' := ⟨h.b.ext e, h.c, h.m⟩
theorem BssAt.ext {B B' : Base} {ad : Option Addr} {qs : List Bs} (h : BssAt B ad qs) (e : BExt B B') : BssAt B' ad qs := ⟨h.c.ext e, fun q hq => (h.ok q hq).ext e, h.len⟩
theorem BssAt.ld {B : Base} {ad : Option Addr} {qs : List Bs} (h : BssAt B ad qs) {i : Nat} (hi : i < qs.length) :
  H2 B (G9 ad i) = .raw (.slice qs[i].ad qs[i].l.length qs[i].c) ∧ B.D (adr ad).block ∧ (B.w.cell? (G9 ad i)).isSome = true ∧ ad.isSome = true := by
 have := h.c.raw (j := i) (v := (qs[i]).v) (by rw [List.getElem?_map, List.getElem?_eq_getElem hi]; rfl)
 exact ⟨this.1, this.2.1, this.2.2, h.c.so (by simp; omega)⟩
/-- The key of a place. -/
def Ce3 (i : Nat) : List UInt8 := H5 (txt (leB i))
theorem Ap6 {i : Nat} (h : i < 18446744073709551616) : (Ce3 i).length ≤ 41 := by
 have h1 := Bv9 (x := i) (by omega)
 have := K4 (p := leB i) (by rw [N8]; omega)
 rw [N8] at this
 rw [Ce3]; omega
def okV (v : List UInt8) : Bool := decide (v ≠ []) && decide (v.length ≤ 1048576)
def lrN (l : List (List UInt8)) : Nat → Nd
 | 0 => .nil
 | n + 1 => if okV (l.getD n []) then V7 200 (lrN l n) (N5 (Ce3 n)) (l.getD n []) else lrN l n
def lrM (l : List (List UInt8)) : Nat → List KV
 | 0 => []
 | n + 1 => if okV (l.getD n []) then Av5 (lrM l n) (Ce3 n) (l.getD n []) else lrM l n
theorem Ci0 {v : List UInt8} (h : okV v = true) : v ≠ [] ∧ v.length ≤ 1048576 := by
 simpa [okV] using h
theorem Bq6 {i : Nat} (h : i < 18446744073709551616) : (N5 (Ce3 i)).length < 200 := by
 have := Ap6 h
 rw [Z9]; omega
theorem Bc6 (l : List (List UInt8)) : ∀ n, n ≤ 18446744073709551616 → Agree (lrN l n) (lrM l n)
 | 0, _ => Agree.nil
 | n + 1, h => by
  have ih := Bc6 l n (by omega)
  rw [lrN, lrM]
  split
  ·rename_i hv
   exact ih.put _ _ (Ci0 hv).1 (Bq6 (by omega))
  ·exact ih
theorem Dc6 {t : Nd} {m : List KV} (h : Agree t m) : Wf t := by
 rcases h.c with rfl | h
 ·exact .nil
 ·exact Db2 h
theorem Bq2 (B : Base) (qs : List Bs) (n : Nat) (ad : Option Addr) (cap : Nat) (h : BssAt B ad qs) (hn : qs.length = n) :
  Does Tryz.prog 10 [.raw (.slice ad n cap)] B (fun _ : Unit => .agg (D4 .u8 (K0 (H5 (E3 (lrN (qs.map Bs.l) qs.length)))) 32)) (fun _ _ => True) := by
 subst hn
 refine I7 Es7 (fun s B B' hB hR => hR) Tryz.func10 rfl Em4 (by simp [Tryz.f10]) (by simp [A0, closed]) (fun B0 hB0 => A3 1000 ?_)
 replace h := h.ext hB0
 have hlen := h.len
 have hcl : ∀ p n, A0 n (D4 .u8 (K0 p) 32) := fun p n => A2 _ _ _ _
 have hsp : ∀ p, I3 (D4 .u8 (fun _ => 0) 32) 0 (D4 .u8 (K0 p) 32) = D4 .u8 (K0 p) 32 := fun p => by rw [← O6]; exact J6 (K6 _) (by omega) _
 obtain ⟨L, hL⟩ : ∃ L, L = qs.map Bs.l := ⟨_, rfl⟩
 rw [← hL]
 repeat' (first | simp (maxSteps := 4000000) (disch := omega) only [go_sem, ↓reduceIte, Tryz.f10] | refine F5 (Ap8 B0) (by simp [closed, A0, A2, C6]) (A3 1000 ?_))
 refine Cp1 [] (Dr2 B0 .nilIface (.inl rfl)) (by simp [Ab2, ren, Ay2]) rfl (by simp) (by simp) (by simp) (by simp) (fun _ B1 hB1 _ => A3 1000 ?_)
 change BExt B0 B1 at hB1
 have htc : ∀ n rv, A0 n [EV.int .i64 1, EV.raw .nilIface, EV.raw rv] := fun n rv => by simp [A0, closed]
 have hz32 : ∀ n, A0 n (D4 .u8 (fun _ => 0) 32) := fun n => A2 _ _ _ _
 simp only [Av6, rho, ren, trO, EObj.ren, Ab2]
 repeat' (simp (maxSteps := 4000000) (disch := omega) only [go_sem, ↓reduceIte])
 refine G8 (S := Nat × Value × Base) (fun s => s.1 ≤ qs.length ∧ BExt B0 s.2.2 ∧ NdAt s.2.2 (lrN L s.1) s.2.1)
  (fun s => ⟨[(14, .int .i64 (s.1 : Nat)), (13, .int .i64 (qs.length : Nat)), (12, .raw (.slice ad qs.length cap)), (3, .ptr 1 0), (2, .ptr 0 0)], 2, [(1, some (trO .nilIface s.2.1)), (0, some (.cells (D4 .u8 (fun _ => 0) 32) 32 (0, 0)))], s.2.2, []⟩)
  (fun s => qs.length - s.1) (0, .nilIface, B1) ⟨Nat.zero_le _, hB1, .nil⟩ (Weak.sub (A5 (by simp [wσ, go_sem, closed, A0, A4, trO, hz32] <;> omega) (by simp [whs, Go.Ew.hget, go_sem, EObj.closed, closed, A0, A4, trO, hz32]) (by simp [*]) rfl rfl (by simp))) ?_
 rintro ⟨i, rv, B2⟩ ⟨hi, hB2, hd⟩
 simp only at hi hB2 hd ⊢
 refine A3 1000 ?_
 rcases Nat.lt_or_ge i qs.length with hi2 | hi2
 ·have cA : decide ((i : Int) < (qs.length : Int)) = true := decide_eq_true (by omega)
  obtain ⟨l1, l2, l3, l4⟩ := (h.ext hB2).ld hi2
  have hok := (h.ext hB2).ok _ (List.getElem_mem hi2)
  have hLi : L.getD i [] = (qs[i]).l := by rw [hL]; simp [List.getD, hi2]
  have hls : lrN L (i + 1) = if okV (L.getD i []) then V7 200 (lrN L i) (N5 (Ce3 i)) (L.getD i []) else lrN L i := rfl
  rw [hLi] at hls
  obtain ⟨q, hq⟩ : ∃ q, q = qs[i] := ⟨_, rfl⟩
  rw [← hq] at l1 hok hls
  by_cases h0 : q.l.length = 0
  ·have c0 : (((q.l.length : Nat) : Int) == 0) = true := by rw [beq_iff_eq]; omega
   have hq0 : q.l = [] := List.length_eq_zero_iff.1 h0
   have hls' : lrN L (i + 1) = lrN L i := by rw [hls, hq0]; rfl
   repeat' (first | with_reducible refine And.intro (by first | omega | (constructor <;> assumption) | (simp [*]; done)) ?_ | simp (maxSteps := 4000000) (disch := omega) only [go_sem, ↓reduceIte, cA, Int.toNat_natCast, l1, c0])
   refine ⟨(i + 1, rv, B2), ⟨hi2, hB2, by rw [hls']; exact hd⟩, Weak.sub (A5 (by simp [wσ, go_sem, closed, A0, A4, trO, hz32, htc] <;> omega) (by simp [whs, Go.Ew.hget, go_sem, EObj.closed, closed, A0, A4, trO, hz32, htc]) (by simp [*]) rfl rfl (by simp)), by simp only; omega⟩
  ·have c0 : (((q.l.length : Nat) : Int) == 0) = false := by rw [beq_eq_false_iff_ne]; omega
   have hq0 : q.l ≠ [] := fun h => h0 (by rw [h]; rfl)
   have hi64 : i < 18446744073709551616 := by omega
   repeat' (first | with_reducible refine And.intro (by first | omega | (constructor <;> assumption) | (simp [*]; done)) ?_ | simp (maxSteps := 4000000) (disch := omega) only [go_sem, ↓reduceIte, cA, Int.toNat_natCast, l1, c0])
   refine F9 (Al3 i hi64 _) (fun _ => by simp [closed, A0]) (fun s3 B3 hB3 hR3 => A3 1000 ?_)
   change BExt B2 B3 at hB3
   have hkl := Ap6 hi64
   have hke : H5 (txt (leB i)) = Ce3 i := rfl
   have hck : chk (txt (leB i)) 0 = 0 := Be7 _ 0 rfl (by simp [txt, Be0])
   have hen := Cn3 hR3 hck (by rw [hke]; omega)
   rw [hke] at hen
   repeat' (simp (maxSteps := 4000000) (disch := omega) only [go_sem, ↓reduceIte])
   refine F9 hen (fun _ => by simp [closed, A0]) (fun s4 B4 hB4 hR4 => A3 1000 ?_)
   change BExt B3 B4 at hB4
   repeat' (simp (maxSteps := 4000000) (disch := omega) only [go_sem, ↓reduceIte])
   have hBX := hB3.trans hB4
   by_cases hbig : q.l.length ≤ 1048576
   ·have hov : okV q.l = true := by simp [okV, hq0, hbig]
    rw [hov, if_pos rfl] at hls
    refine S3 1 (Dh1 B4 .nilIface rv (hd.ext' hBX) (Dc6 (Bc6 L i (by omega))) hR4.1 (hok.b.ext hBX) rfl rfl (by omega) (by omega) hbig (Bq6 hi64)) rfl (fun _ => by simp [closed, A0]) (E5 _ _) (fun _ => E5 _ _) (fun u B5 hB5 hR5 => A3 1000 ?_)
    change BExt B4 B5 at hB5
    rw [← hls] at hR5
    repeat' (simp (maxSteps := 4000000) (disch := omega) only [go_sem, ↓reduceIte])
    exact ⟨(i + 1, u, B5), ⟨hi2, hB2.trans (hBX.trans hB5), hR5⟩, Weak.sub (A5 (by simp [wσ, go_sem, closed, A0, A4, trO, hz32, htc] <;> omega) (by simp [whs, Go.Ew.hget, go_sem, EObj.closed, closed, A0, A4, trO, hz32, htc]) (by simp [*]) rfl rfl (by simp)), by simp only; omega⟩
   ·have hov : okV q.l = false := by simp [okV, hq0, hbig]
    rw [hov, if_neg (by simp)] at hls
    refine S3 1 (Bn7 B4 .nilIface rv (.inr (by omega))) rfl (fun _ => by simp [closed, A0]) (E5 _ _) (fun _ => E5 _ _) (fun u B5 hB5 hR5 => A3 1000 ?_)
    change BExt B4 B5 at hB5
    repeat' (simp (maxSteps := 4000000) (disch := omega) only [go_sem, ↓reduceIte])
    exact ⟨(i + 1, rv, B5), ⟨hi2, hB2.trans (hBX.trans hB5), by rw [hls]; exact hd.ext' (hBX.trans hB5)⟩, Weak.sub (A5 (by simp [wσ, go_sem, closed, A0, A4, trO, hz32, htc] <;> omega) (by simp [whs, Go.Ew.hget, go_sem, EObj.closed, closed, A0, A4, trO, hz32, htc]) (by simp [*]) rfl rfl (by simp)), by simp only; omega⟩
 ·obtain rfl : i = qs.length := by omega
  have cA : decide ((qs.length : Int) < (qs.length : Int)) = false := decide_eq_false (by omega)
  repeat' (first | simp (maxSteps := 4000000) (disch := omega) only [go_sem, ↓reduceIte, cA] | with_reducible refine A3 1000 ?_)
  refine S3 1 (Di1 B2 .nilIface rv hd) rfl (fun _ => by simp [closed, A0, hcl]) (E5 _ _) (fun _ => E5 _ _) (fun u B5 hB5 hR5 => A3 1000 ?_)
  change BExt B2 B5 at hB5
  repeat' (simp (maxSteps := 4000000) (disch := omega) only [go_sem, ↓reduceIte, hsp])
  first | exact ⟨(), hcl _ _⟩ | exact ⟨hB2.trans hB5, (), rfl, hcl _ _, trivial⟩ | exact ⟨hB2.trans hB5, (), hcl _ _⟩
end Go.Proofs.YtepabkjfnpaijaaGreat
