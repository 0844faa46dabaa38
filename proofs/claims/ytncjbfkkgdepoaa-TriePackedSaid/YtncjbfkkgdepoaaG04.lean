/- Part of a proof over the seat Ytncjbfkkgdepoaa. -/
import Derived.Test.YtncjbfkkgdepoaaG03
import Derived.Test.YtncjbfkkgdepoaaEng2
set_option linter.unusedSimpArgs false
set_option linter.unusedVariables false
set_option maxRecDepth 100000
namespace Go.Proofs.Ytncjbfkkgdepoaa
open Go RowKit Go.Ew
set_option maxHeartbeats 2000000
/-- A byte as a lane. -/
def b64 (x : UInt8) : L64 := BitVec.ofNat 64 x.toNat
theorem Cs1 (x : UInt8) : (b64 x).toNat < 2 ^ 8 := by
 unfold b64; rw [BitVec.toNat_ofNat]; have := x.toNat_lt; omega
theorem Br3 (x : UInt8) : (x.toNat : Int) = n64 (b64 x) := by
 unfold n64 b64; rw [BitVec.toNat_ofNat]; have := x.toNat_lt; omega
/-- So many bytes from a place on, the least first. -/
def lx (p : Nat → UInt8) : Nat → L64
 | 0 => 0
 | j + 1 => lx p j ^^^ (b64 (p j) <<< (8 * j))
theorem Bl8 {x : L64} {k i : Nat} (h : x.toNat < 2 ^ k) (hi : k ≤ i) : x.getLsbD i = false := by
 rw [BitVec.getLsbD]; exact Nat.testBit_lt_two_pow (Nat.lt_of_lt_of_le h (Nat.pow_le_pow_right (by omega) hi))
theorem Co8 {x y : L64} {k : Nat} (h : x.toNat < 2 ^ k) : x ||| (y <<< k) = x ^^^ (y <<< k) := by
 apply BitVec.eq_of_getLsbD_eq
 intro i hi
 simp only [BitVec.getLsbD_or, BitVec.getLsbD_xor, BitVec.getLsbD_shiftLeft]
 by_cases hk : i < k
 ·simp [hk]
 ·rw [Bl8 h (by omega)]; simp
theorem Cp5 (p : Nat → UInt8) : ∀ j, j ≤ 8 → (lx p j).toNat < 2 ^ (8 * j)
 | 0, _ => by simp [lx]
 | j + 1, hj => by
  have ih := Cp5 p j (by omega)
  simp only [lx]
  rw [BitVec.toNat_xor]
  refine Nat.xor_lt_two_pow (Nat.lt_of_lt_of_le ih (Nat.pow_le_pow_right (by omega) (by omega))) ?_
  rw [BitVec.toNat_shiftLeft]
  have h1 := Cs1 (p j)
  have h2 : (b64 (p j)).toNat <<< (8 * j) < 2 ^ (8 * (j + 1)) := by
   rw [Nat.shiftLeft_eq, show 8 * (j + 1) = 8 + 8 * j by omega, Nat.pow_add]
   exact Nat.mul_lt_mul_of_pos_right h1 (Nat.two_pow_pos _)
  exact Nat.lt_of_le_of_lt (Nat.mod_le _ _) h2
/-- Read from the highest on. -/
def wd (p : Nat → UInt8) : Nat → L64
 | 0 => 0
 | i + 1 => wd p i <<< 8 ||| b64 (p (7 - i))
theorem Cn9 (x y : L64) (k : Nat) : (x ||| y) <<< k = x <<< k ||| y <<< k := by
 apply BitVec.eq_of_getLsbD_eq
 intro i hi
 simp only [BitVec.getLsbD_or, BitVec.getLsbD_shiftLeft]
 cases decide (i < 64) <;> cases decide (i < k) <;> simp
theorem Cn2 (p : Nat → UInt8) : ∀ i, i ≤ 8 → lx p (8 - i) ||| wd p i <<< (8 * (8 - i)) = lx p 8
 | 0, _ => by simp [wd]
 | i + 1, hi => by
  have ih := Cn2 p i (by omega)
  rw [← ih]
  obtain ⟨m, hm⟩ : ∃ m, 8 - i = m + 1 := ⟨7 - i, by omega⟩
  rw [show 8 - (i + 1) = m by omega, hm]
  simp only [lx, wd]
  rw [show 7 - i = m by omega, Cn9, ← BitVec.shiftLeft_add, ← Co8 (Cp5 p m (by omega)), show 8 + 8 * m = 8 * (m + 1) by omega]
  ac_rfl
theorem Cu8 (p : Nat → UInt8) : wd p 8 = lx p 8 := by
 have := Cn2 p 8 (by omega)
 simpa [lx] using this
theorem Cn1 (x : L64) : IntKind.u64.wrap (n64 x) = n64 x := T0 (Br1 x) (Br2 x)
theorem Df7 : C5 Try.f58.ntmps (Try.f58.body.getD .skip) = true := by kernel_rfl
theorem Df5 : C5 Try.f60.ntmps (Try.f60.body.getD .skip) = true := by kernel_rfl
theorem Cg8 (p : List UInt8) (n : Nat) (B : Base) (ad : Option Addr) (cap : Nat) (h : BytesAt B ad p) (hn : p.length = n) (hp : 8 ≤ n) :
  Does Try.prog 58 [.raw (.slice ad n cap), .int .i64 8, .int .i64 0] B (fun _ : Unit => .int .u64 (n64 (lx (fun j => p.getD j 0) 8))) (fun _ _ => True) := by
 refine J9 Dj0 (fun s B B' hB hR => hR) Try.func58 rfl Df7 (by simp [Try.f58]) (by simp [A0, closed]) (fun B0 hB0 => A3 1000 ?_)
 subst hn
 replace h := h.ext hB0
 have so := h.ok (by omega)
 have hD := h.lD (by omega)
 simp (maxSteps := 4000000) (disch := omega) only [go_sem, ↓reduceIte, Try.f58]
 repeat (with_reducible refine And.intro (by omega) ?_)
 refine G1 (S := Nat) (fun i => i ≤ 8)
  (fun i => ⟨[(11, .int .i64 (i : Nat)), (10, .int .i64 8), (7, .int .u64 (n64 (wd (fun j => p.getD j 0) i))), (2, .int .i64 0), (1, .int .i64 8), (0, .raw (.slice ad p.length cap))], 0, [], B0, []⟩)
  (fun i => 8 - i) 0 (by omega) (Weak.sub (A5 (by simp [wσ, go_sem, closed, A0, wd, n64]) (by simp [whs, go_sem, EObj.closed, closed, A0, wd, n64]) (by simp [*]) rfl rfl (by simp))) ?_
 intro i hi
 refine A3 1000 ?_
 simp (maxSteps := 4000000) (disch := omega) only [go_sem, ↓reduceIte]
 repeat (with_reducible refine And.intro (by omega) ?_)
 refine A6 (fun h1 => ?_) (fun h1 => ?_)
 all_goals (try simp only [bne_iff_ne, ne_eq, beq_iff_eq, decide_eq_true_eq, decide_eq_false_iff_not, Bool.not_eq_true, Bool.not_eq_false, Bool.not_true, Bool.not_false, bne_eq_false_iff_eq, beq_eq_false_iff_ne, Bool.and_eq_true, Bool.or_eq_true, Bool.and_eq_false_imp, Bool.or_eq_false_iff, Bool.not_eq_true', Bool.not_eq_false', Int.not_lt, Int.not_le] at h1)
 ·have t7 : (7 - (i : Int)).toNat = 7 - i := by omega
  have c1 := h.ld (7 - i) (by omega)
  have c2 := h.lS (7 - i) (by omega)
  have s8 : Bw9 .u64 (n64 (wd (fun j => p.getD j 0) i)) 8 = n64 (wd (fun j => p.getD j 0) i <<< 8) := Bp0 _ 8
  repeat' (first | with_reducible refine And.intro (by omega) ?_ | simp (maxSteps := 4000000) (disch := omega) only [go_sem, ↓reduceIte, t7, c1, c2, hD, so, bE, Br3, s8, Cn1, Co9])
  exact ⟨i + 1, by omega, Weak.sub (A5 (by simp [wσ, go_sem, closed, A0, A4, wd] <;> omega) (by simp [whs, Go.Ew.hget, go_sem, EObj.closed, closed, A0, A4, wd]) (by first | (simp [*]; done) | (simp only [cxG]; omega)) rfl rfl (by simp)), by omega⟩
 ·obtain rfl : i = 8 := by omega
  simp (maxSteps := 4000000) (disch := omega) only [go_sem, ↓reduceIte]
  repeat (with_reducible refine And.intro (by omega) ?_)
  refine A3 1000 ?_
  simp (maxSteps := 4000000) (disch := omega) only [go_sem, ↓reduceIte]
  repeat (with_reducible refine And.intro (by fail) ?_)
  rw [Cu8]
  exact ⟨BExt.refl _, (), rfl, trivial⟩
/-- k bytes laid from place o on. -/
def Ca4 (f : Nat → Int) (o : Nat) (x : L64) (k : Nat) : Nat → Int := fun i => if o ≤ i ∧ i < o + k then n64 (x >>> (8 * (i - o))) % 256 else f i
theorem Bs7 (f : Nat → Int) (o : Nat) (x : L64) (k : Nat) : Bp2 (Ca4 f o x k) (o + k) (n64 (x >>> (8 * k)) % 256) = Ca4 f o x (k + 1) := by
 funext i
 simp only [Bp2, Ca4]
 by_cases h : i = o + k
 ·subst h; rw [if_pos rfl, if_pos (by omega), show o + k - o = k by omega]
 ·rw [if_neg h]
  by_cases h2 : o ≤ i ∧ i < o + k
  ·rw [if_pos h2, if_pos (by omega)]
  ·rw [if_neg h2, if_neg (by omega)]
theorem Ax2 (f : Nat → Int) (o : Nat) (x : L64) : Ca4 f o x 0 = f := funext fun i => if_neg (by omega)
theorem Bs6 (f : Nat → Int) (o cap : Nat) (x : L64) (ho : o + 8 ≤ 32) (T : TypeId) (blk : Nat) (w : World) (hb : w.heap[blk]? = some (.cells (Ar6 .u8 f 32).toArray T (0, 0))) :
  Calls Try.prog 60 (A8 (Ba5 [blk]) [.sl 0 o 8 cap, .int .u64 (n64 x), .int .i64 0]).toArray w (fun e w' => ∃ s : Unit, True ∧ Cs8 [blk] (.tup []) 1 [some (.cells (C8 .u8 (Ca4 f o x 8) 32) T (0, 0))] w e w') := by
 refine By3 (fun _ => True) (fun _ : Unit => .tup []) (fun _ => 1) (fun _ => [some (.cells (C8 .u8 (Ca4 f o x 8) 32) T (0, 0))]) [blk] [.cells (C8 .u8 f 32) T (0, 0)] [.sl 0 o 8 cap, .int .u64 (n64 x), .int .i64 0] Try.func60 rfl Df5 (by simp [Try.f60]) (by simp [A0, closed]) rfl (by simp) ?_ (A3 1000 ?_)
 ·rintro (_ | i) b o h1 h2
  ·simp at h1 h2; subst h1; subst h2
   exact ⟨by simp only [EObj.real, W7]; exact hb, by simp only [EObj.closed]; exact A2 _ _ _ _⟩
  ·simp at h1
 simp (maxSteps := 4000000) (disch := omega) only [go_sem, ↓reduceIte, Try.f60]
 repeat (with_reducible refine And.intro (by omega) ?_)
 refine G1 (S := Nat) (fun i => i ≤ 8)
  (fun i => ⟨[(10, .int .i64 (i : Nat)), (9, .int .i64 8), (2, .int .i64 0), (1, .int .u64 (n64 x)), (0, .sl 0 o 8 cap)], 1, [(0, some (.cells (C8 .u8 (Ca4 f o x i) 32) T (0, 0)))], Bw6 w [blk], []⟩)
  (fun i => 8 - i) 0 (by omega) (Weak.sub (A5 (by simp [wσ, go_sem, closed, A0, Ax2, A2]) (by simp [whs, go_sem, EObj.closed, closed, A0, Ax2, A2]) (by simp [*]) rfl rfl (by simp))) ?_
 intro i hi
 refine A3 1000 ?_
 simp (maxSteps := 4000000) (disch := omega) only [go_sem, ↓reduceIte]
 repeat (with_reducible refine And.intro (by omega) ?_)
 refine A6 (fun h1 => ?_) (fun h1 => ?_)
 all_goals (try simp only [bne_iff_ne, ne_eq, beq_iff_eq, decide_eq_true_eq, decide_eq_false_iff_not, Bool.not_eq_true, Bool.not_eq_false, Bool.not_true, Bool.not_false, bne_eq_false_iff_eq, beq_eq_false_iff_ne, Bool.and_eq_true, Bool.or_eq_true, Bool.and_eq_false_imp, Bool.or_eq_false_iff, Bool.not_eq_true', Bool.not_eq_false', Int.not_lt, Int.not_le] at h1)
 ·have t8 : (8 : Int) * (i : Int) = ((8 * i : Nat) : Int) := by omega
  repeat' (first | with_reducible refine And.intro (by omega) ?_ | simp (maxSteps := 4000000) (disch := omega) only [go_sem, ↓reduceIte, Int.toNat_natCast, t8, Bz5, Ah2, Bs7])
  exact ⟨i + 1, by omega, Weak.sub (A5 (by simp [wσ, go_sem, closed, A0, A4, A2] <;> omega) (by simp [whs, Go.Ew.hget, go_sem, EObj.closed, closed, A0, A4, A2]) (by first | (simp [*]; done) | (simp only [cxG]; omega)) rfl rfl (by simp)), by omega⟩
 ·obtain rfl : i = 8 := by omega
  simp (maxSteps := 4000000) (disch := omega) only [go_sem, ↓reduceIte]
  repeat (with_reducible refine And.intro (by omega) ?_)
  refine A3 1000 ?_
  simp (maxSteps := 4000000) (disch := omega) only [go_sem, ↓reduceIte]
  repeat (with_reducible refine And.intro (by omega) ?_)
  refine ⟨(), fun j hj => ?_, ?_⟩
  ·obtain rfl : j = 0 := by omega
   exact ⟨_, rfl⟩
  ·rintro (_ | i) o h
   ·simp at h ⊢
    subst h
    rfl
   ·simp at h ⊢
end Go.Proofs.Ytncjbfkkgdepoaa
namespace Go.Proofs.Ytncjbfkkgdepoaa
open Go RowKit Go.Ew
set_option maxHeartbeats 4000000
theorem Dg7 : C5 Try.f37.ntmps (Try.f37.body.getD .skip) = true := by kernel_rfl
theorem Y6 (cs : List EV) (off : Nat) (k : IntKind) (f : Nat → Int) (n : Nat) (h : n ≠ 1) : H7 cs off (C8 k f n) = cs.take off ++ C8 k f n ++ cs.drop (off + n) := by
 have hl := X3 k f n
 match hx : C8 k f n with
 | [] => rw [hx] at hl; simp at hl; subst hl; simp [H7]
 | [v] => rw [hx] at hl; simp at hl; omega
 | u :: v :: r => rw [hx] at hl; rw [Am9, hl]
theorem Ap9 (k : IntKind) (f : Nat → Int) (n : Nat) (l : List EV) : (C8 k f n ++ l).take n = C8 k f n := List.take_left' (X3 k f n)
theorem Ab9 (k : IntKind) (f : Nat → Int) (n m : Nat) (l : List EV) : (C8 k f n ++ l).drop (n + m) = l.drop m := by rw [← List.drop_drop, List.drop_left' (X3 k f n)]
theorem Bv3 {w : World} {b i : Nat} {cs : Array Value} {T : TypeId} {fr : Nat × Nat} (h : w.heap[b]? = some (.cells cs T fr)) : w.cell? ⟨b, i, none⟩ = cs[i]? := by
 simp [World.cell?, h]
/-- So many zeros end the last block. -/
def Y9 (n : Nat) : Nat := (136 - (n + 1) % 136) % 136
theorem clB {n m : Nat} {T : TypeId} {xs : List UInt8} {l : Lst} (h : lOk [.int .u8 0] n l) : clO m (lO T (xs.map bE) l) = True := J4 h (A7 0 _) hz8
/-- A block's bytes laid over the first lanes. -/
def Bo0 (a : Nat → L64) (l : List UInt8) (o k : Nat) : Nat → L64 := fun i => if i < k then a i ^^^ lx (fun j => l.getD (o + 8 * i + j) 0) 8 else a i
theorem Au8 (a : Nat → L64) (l : List UInt8) (o : Nat) : Bo0 a l o 0 = a := funext fun i => if_neg (by omega)
theorem Bn9 (a : Nat → L64) (l : List UInt8) (o k : Nat) : Y4 (Bo0 a l o k) k (Bo0 a l o k k ^^^ lx (fun j => l.getD (o + 8 * k + j) 0) 8) = Bo0 a l o (k + 1) := by
 funext i
 simp only [Y4, Bo0]
 by_cases h : i = k
 ·subst h; simp
 ·rw [if_neg h]
  by_cases h2 : i < k
  ·rw [if_pos h2, if_pos (by omega)]
  ·rw [if_neg h2, if_neg (by omega)]
/-- The lanes behind so many blocks. -/
def Ba2 (l : List UInt8) : Nat → (Nat → L64)
 | 0 => fun _ => 0
 | m + 1 => U0 (Bo0 (Ba2 l m) l (136 * m) 17) 24
theorem Ag5 (l : List UInt8) : fL (Ba2 l 0) = fun _ => 0 := by funext i; simp [fL, Ba2, n64]
/-- The digest's byte j. -/
def hF (a : Nat → L64) : Nat → Int := fun j => n64 (a (j / 8) >>> (8 * (j % 8))) % 256
def hP (a : Nat → L64) (i : Nat) : Nat → Int := fun j => if j < 8 * i then hF a j else 0
theorem Bt4 (a : Nat → L64) : hP a 0 = fun _ => 0 := funext fun j => if_neg (by omega)
theorem Cp9 (a : Nat → L64) (i : Nat) : Ca4 (hP a i) (8 * i) (a i) 8 = hP a (i + 1) := by
 funext j
 simp only [Ca4, hP, hF]
 by_cases h : 8 * i ≤ j ∧ j < 8 * i + 8
 ·rw [if_pos h, if_pos (by omega), show j / 8 = i by omega, show j % 8 = j - 8 * i by omega]
 ·rw [if_neg h]
  by_cases h2 : j < 8 * i
  ·rw [if_pos h2, if_pos (by omega)]
  ·rw [if_neg h2, if_neg (by omega)]
theorem Cq6 (a : Nat → L64) : C8 .u8 (hP a 4) 32 = C8 .u8 (hF a) 32 := by
 unfold C8
 exact List.map_congr_left fun j hj => by rw [hP, if_pos (by have := List.mem_range.1 hj; omega)]
/-- The last block is filled up. -/
def Cm1 (p : List UInt8) : List UInt8 := (p ++ 1 :: List.replicate (Y9 p.length) 0).set (p.length + Y9 p.length) ((p ++ 1 :: List.replicate (Y9 p.length) 0).getD (p.length + Y9 p.length) 0 ||| 128)
/-- The digest. -/
def O5 (p : List UInt8) : Nat → Int := hF (Ba2 (Cm1 p) ((p.length + 1 + Y9 p.length) / 136))
theorem Dc1 (x : UInt8) : bOr .u8 (x.toNat : Int) 128 = ((x ||| 128).toNat : Int) := by
 show IntKind.u8.wrap ((BitVec.ofInt 8 (x.toNat : Int) ||| BitVec.ofInt 8 128).toNat : Int) = _
 have h := x.toNat_lt
 rw [UInt8.toNat_or, BitVec.ofInt_natCast, show BitVec.ofInt 8 128 = BitVec.ofNat 8 128 from rfl, BitVec.toNat_or, BitVec.toNat_ofNat, BitVec.toNat_ofNat, Nat.mod_eq_of_lt (by omega)]
 exact Bo1 (by omega) (by have := Nat.or_lt_two_pow (x := x.toNat) (y := 128) (n := 8) (by omega) (by omega); simp only [Nat.reducePow, Nat.reduceMod] at *; omega)
theorem X8 {xs : List UInt8} {rest : List EV} {i : Nat} {v : UInt8} (h : i < xs.length) : (xs.map bE ++ rest).set i (.int .u8 (v.toNat : Int)) = (xs.set i v).map bE ++ rest := Bw0 h
theorem Ae4 {xs : List UInt8} {rest : List EV} {i : Nat} (h : i < xs.length) : (xs.map bE ++ rest)[i]? = some (.int .u8 ((xs.getD i 0).toNat : Int)) := Az6 h
theorem P8 {xs : List UInt8} {rest : List EV} {i : Nat} {d : EV} (h : i < xs.length) : (xs.map bE ++ rest).getD i d = .int .u8 ((xs.getD i 0).toNat : Int) := Bm9 h
theorem Ai9 (p : List UInt8) (n : Nat) (B : Base) (ad : Option Addr) (cap : Nat) (h : BytesAt B ad p) (hn : p.length = n) (hp : n < 2 ^ 46) :
  Does Try.prog 37 [.raw (.slice ad n cap)] B (fun _ : Unit => .agg (C8 .u8 (O5 p) 32)) (fun _ _ => True) := by
 refine J9 Dd3 (fun s B B' hB hR => hR) Try.func37 rfl Dg7 (by simp [Try.f37]) (by simp [A0, closed]) (fun B0 hB0 => A3 1000 ?_)
 subst hn
 replace h := h.ext hB0
 have dd := Ab9 .i64 (O2 24) 25 24
 repeat' (first | with_reducible refine And.intro (by first | omega | (simp; omega)) ?_ | simp (maxSteps := 4000000) (disch := omega) only [go_sem, ↓reduceIte, Try.f37, Y6, Ap9, dd, List.drop_zero, List.drop_succ_cons, List.take_zero, List.nil_append, List.append_nil, List.length_append, Ab9, List.append_assoc] | refine R4 (Bq1) (A3 1000 ?_) | refine R4 (Bd8) (A3 1000 ?_))
 refine appB (T := 5) (l := some (((p.length : Int) + 136).toNat, List.replicate ((p.length : Int) + 136).toNat (.int .u8 0))) (xs := []) 2 0 p rfl Try.underlying22 (.inl ⟨_, Try.underlying22⟩) zr5 cz5 by5 rfl rfl rfl ⟨by omega, by simp only [maxLen]; omega, by simp, by simp⟩ (h.src _) (by omega) (fun l1 hl1 => ?_)
 refine As3 (T := 132) (fr := (0, 0)) 1 rfl (by rw [closeds_append]; exact ⟨A2 _ _ _ _, A2 _ _ _ _⟩) (by simp) (fun rb B1 hB1 hD1 hc1 => ?_)
 change BExt B0 B1 at hB1
 have hR : RoundsAt B1 rb := ⟨hD1, fun j hj => by
  rw [Bv3 hc1, List.getElem?_toArray, A9, List.map_append, ← A9, ← A9, W7, W7]; rfl⟩
 clear hc1 hD1 dd
 simp only [Nat.zero_add, List.nil_append] at hl1 ⊢
 refine L0 [3] 1 (by simp) (by simp) (by simp) (by simp) (A3 1000 ?_)
 repeat' (first | with_reducible refine And.intro (by first | omega | (simp; done)) ?_ | simp (maxSteps := 4000000) (disch := omega) only [go_sem, ↓reduceIte, Z0 (ks := [3]) (k := 1) (r := 3) rfl, H2 (ks := [3]) (k := 1) hl1 (A7 0 _) hz8, E3, I6, Cf9 (r := 3) (i := 1) (by omega), Cf8 hl1 (A7 0 _) hz8])
 refine appB (T := 5) (xs := p) 1 p.length [1] rfl Try.underlying22 (.inl ⟨_, Try.underlying22⟩) zr5 cz5 by5 rfl rfl rfl hl1 ⟨_, rfl, by simp⟩ (by simp only [List.length_cons, List.length_nil]; omega) (fun l2 hl2 => ?_)
 simp only [List.length_cons, List.length_nil, Nat.zero_add] at hl2 ⊢
 refine L0 [3] 1 (by simp) (by simp) (by simp) (by simp) (A3 1000 ?_)
 repeat' (simp (maxSteps := 4000000) (disch := omega) only [go_sem, ↓reduceIte, Z0 (ks := [3]) (k := 1) (r := 3) rfl, H2 (ks := [3]) (k := 1) hl2 (A7 0 _) hz8, E3])
 have hl2b : ∀ n, clO n (lO 5 (p.map bE ++ [bE 1]) l2) = True := fun n => by have := J4 (T := 5) (n := n) hl2 (A7 0 (p ++ [1])) hz8; rwa [List.map_append] at this
 have hw := fun k => show p.length + 1 + k + 1 = p.length + 1 + (k + 1) by omega
 refine G1 (S := Nat × Lst) (fun s => s.1 ≤ Y9 p.length ∧ lOk [.int .u8 0] (p.length + 1 + s.1) s.2)
  (fun s => ⟨[(4, lE 1 (p.length + 1 + s.1) s.2), (3, .raw (.pointer (some ⟨rb, 0, none⟩))), (2, .ptr 0 0)], 2, [(1, lO 5 ((p ++ 1 :: List.replicate s.1 0).map bE) s.2), (0, some (.cells (C8 .u8 (fun _ => 0) 32) 45 (0, 0)))], B1, []⟩)
  (fun s => Y9 p.length - s.1) (0, l2) ⟨Nat.zero_le _, hl2⟩ (Weak.sub (A5 (by simp [wσ, go_sem, closed, A0, A4, A2, hl2b] <;> omega) (by simp [whs, Go.Ew.hget, go_sem, EObj.closed, closed, A0, A4, A2, hl2b]) (by first | (simp [*]; done) | (simp only [cxG]; omega)) rfl rfl (by simp)) ) ?_
 ·rintro ⟨k, l3⟩ ⟨hk, hl3⟩
  simp only at hk hl3 ⊢
  have hl3' := hl3
  obtain ⟨cp, rest, rfl, -⟩ := E6 hl3 (by omega)
  simp only [C1, H3]
  refine A3 1000 ?_
  simp (maxSteps := 4000000) (disch := omega) only [go_sem, ↓reduceIte]
  repeat (with_reducible refine And.intro (by omega) ?_)
  refine A6 (fun h1 => ?_) (fun h1 => ?_)
  all_goals (try simp only [bne_iff_ne, ne_eq, beq_iff_eq, decide_eq_true_eq, decide_eq_false_iff_not, Bool.not_eq_true, Bool.not_eq_false, Bool.not_true, Bool.not_false, bne_eq_false_iff_eq, beq_eq_false_iff_ne, Bool.and_eq_true, Bool.or_eq_true, Bool.and_eq_false_imp, Bool.or_eq_false_iff, Bool.not_eq_true', Bool.not_eq_false', Int.not_lt, Int.not_le] at h1)
  ·have hlt : k < Y9 p.length := by unfold Y9 at hk ⊢; omega
   simp (maxSteps := 4000000) (disch := omega) only [go_sem, ↓reduceIte]
   repeat (with_reducible refine And.intro (by first | omega | (simp; done)) ?_)
   refine appB (T := 5) (xs := p ++ 1 :: List.replicate k 0) (l := some (cp, rest)) 1 (p.length + 1 + k) [0] rfl Try.underlying22 (.inl ⟨_, Try.underlying22⟩) zr5 cz5 by5 (by simp; omega) rfl rfl hl3 ⟨_, rfl, by simp⟩ (by simp only [List.length_cons, List.length_nil]; unfold Y9 at hk; omega) (fun l4 hl4 => ?_)
   simp only [List.length_cons, List.length_nil, Nat.zero_add] at hl4 ⊢
   refine L0 [3] 1 (by simp) (by simp) (by simp) (by simp) (A3 1000 ?_)
   repeat' (simp (maxSteps := 4000000) (disch := omega) only [go_sem, ↓reduceIte, Z0 (ks := [3]) (k := 1) (r := 3) rfl, H2 (ks := [3]) (k := 1) hl4 (A7 0 _) hz8, E3])
   have e0 : p ++ 1 :: List.replicate k 0 ++ [0] = p ++ 1 :: List.replicate (k + 1) 0 := by rw [List.replicate_succ', List.append_assoc]; rfl
   rw [e0]
   have c4 : ∀ n, clO n (lO 5 (p.map bE ++ bE 1 :: bE 0 :: List.replicate k (bE 0)) l4) = True := fun n => by have := clB (T := 5) (m := n) (xs := p ++ 1 :: 0 :: List.replicate k 0) hl4; simpa using this
   exact ⟨(k + 1, l4), ⟨hlt, by rw [← hw]; exact hl4⟩, Weak.sub (A5 (by simp [wσ, go_sem, closed, A0, A4, ← hw, A2, List.replicate_succ, c4] <;> omega) (by simp [whs, Go.Ew.hget, go_sem, EObj.closed, closed, A0, A4, ← hw, A2, List.replicate_succ, c4]) (by first | (simp [*]; done) | (simp only [cxG]; omega)) rfl rfl (by simp)), by simp only; omega⟩
  ·have hkk : k = Y9 p.length := by unfold Y9 at hk ⊢; omega
   subst hkk
   obtain ⟨N, hN⟩ : ∃ N, N = p.length + 1 + Y9 p.length := ⟨_, rfl⟩
   obtain ⟨X, hX⟩ : ∃ X, X = p ++ 1 :: List.replicate (Y9 p.length) 0 := ⟨_, rfl⟩
   have hXl : X.length = N := by rw [hX, hN]; simp; omega
   have hN0 : 0 < N ∧ N < 2 ^ 47 ∧ N % 136 = 0 := by rw [hN]; unfold Y9 at hk ⊢; omega
   rw [← hN] at hl3'
   simp only [← hN, ← hX]
   clear hl3 hk h1 hl2b hw hl2 hl1
   refine A3 1000 ?_
   have ei : ((N : Int) - 1).toNat = N - 1 := by omega
   repeat' (first | with_reducible refine And.intro (by first | omega | (simp; omega)) ?_ | simp (maxSteps := 4000000) (disch := omega) only [go_sem, ↓reduceIte, ei, Dc1, X8 (xs := X) (rest := rest) (i := N - 1) (by omega), Ae4 (xs := X) (rest := rest) (i := N - 1) (by omega), P8 (xs := X) (rest := rest) (i := N - 1) (by omega)])
   obtain ⟨Y, hY⟩ : ∃ Y, Y = X.set (N - 1) (X.getD (N - 1) 0 ||| 128) := ⟨_, rfl⟩
   have hYl : Y.length = N := by rw [hY, List.length_set, hXl]
   simp only [← hY]
   refine J8 (xs := Y) (l := some (cp, rest)) (T := 5) 1 N rfl hYl hl3' (by simp) (fun b2 ad2 cap2 B2 hB2 hfz hbY hcap2 => A3 1000 ?_)
   change BExt B1 B2 at hB2
   obtain ⟨rfl, rfl⟩ : some ⟨b2, 0, none⟩ = ad2 ∧ cp = cap2 := by simpa [C1, frz] using hfz
   clear hfz
   replace hR := hR.ext hB2
   have hBB := hB1.trans hB2
   have hK : hF (Ba2 Y (N / 136)) = O5 p := by
    unfold O5 Cm1
    rw [← hX, hY, hN, show p.length + 1 + Y9 p.length - 1 = p.length + Y9 p.length by omega]
   clear hl3' hX hXl ei
   clear hN
   repeat' (simp (maxSteps := 4000000) (disch := omega) only [go_sem, ↓reduceIte, I6])
   refine G1 (S := Nat × Option Addr × Nat) (fun s => 136 * s.1 ≤ N ∧ BytesAt B2 s.2.1 (Y.drop (136 * s.1)) ∧ N - 136 * s.1 ≤ s.2.2)
    (fun s => ⟨[(5, .ptr 2 0), (4, .raw (.slice s.2.1 (N - 136 * s.1) s.2.2)), (3, .raw (.pointer (some ⟨rb, 0, none⟩))), (2, .ptr 0 0)], 3, [(2, some (.cells (C8 .u64 (fL (Ba2 Y s.1)) 25) 133 (0, 0))), (0, some (.cells (C8 .u8 (fun _ => 0) 32) 45 (0, 0)))], B2, []⟩)
    (fun s => N - 136 * s.1) (0, some ⟨b2, 0, none⟩, cp) ⟨Nat.zero_le _, hbY, by simp only; omega⟩ (Weak.sub (A5 (by simp [wσ, go_sem, closed, A0, A4, A2, Ag5] <;> omega) (by simp [whs, Go.Ew.hget, go_sem, EObj.closed, closed, A0, A4, A2, Ag5]) (by first | (simp [*]; done) | (simp only [cxG]; omega)) rfl rfl (by simp))) ?_
   rintro ⟨m, am, cm⟩ ⟨hm, hbm, hcm⟩
   simp only at hm hbm hcm ⊢
   refine A3 1000 ?_
   simp (maxSteps := 4000000) (disch := omega) only [go_sem, ↓reduceIte]
   repeat (with_reducible refine And.intro (by omega) ?_)
   refine A6 (fun h1 => ?_) (fun h1 => ?_)
   all_goals (try simp only [bne_iff_ne, ne_eq, beq_iff_eq, decide_eq_true_eq, decide_eq_false_iff_not, Bool.not_eq_true, Bool.not_eq_false, Bool.not_true, Bool.not_false, bne_eq_false_iff_eq, beq_eq_false_iff_ne, Bool.and_eq_true, Bool.or_eq_true, Bool.and_eq_false_imp, Bool.or_eq_false_iff, Bool.not_eq_true', Bool.not_eq_false', Int.not_lt, Int.not_le] at h1)
   ·have hm2 : 136 * (m + 1) ≤ N := by omega
    simp (maxSteps := 4000000) (disch := omega) only [go_sem, ↓reduceIte]
    repeat (with_reducible refine And.intro (by omega) ?_)
    refine G1 (S := Nat) (fun i => i ≤ 17)
     (fun i => ⟨[(39, .int .i64 (i : Nat)), (5, .ptr 2 0), (4, .raw (.slice am (N - 136 * m) cm)), (3, .raw (.pointer (some ⟨rb, 0, none⟩))), (2, .ptr 0 0)], 3, [(2, some (.cells (C8 .u64 (fL (Bo0 (Ba2 Y m) Y (136 * m) i)) 25) 133 (0, 0))), (0, some (.cells (C8 .u8 (fun _ => 0) 32) 45 (0, 0)))], B2, []⟩)
     (fun i => 17 - i) 0 (by simp) (Weak.sub (A5 (by simp [wσ, go_sem, closed, A0, A4, A2, Au8] <;> omega) (by simp [whs, Go.Ew.hget, go_sem, EObj.closed, closed, A0, A4, A2, Au8]) (by first | (simp [*]; done) | (simp only [cxG]; omega)) rfl rfl (by simp))) ?_
    intro i hi
    refine A3 1000 ?_
    simp (maxSteps := 4000000) (disch := omega) only [go_sem, ↓reduceIte]
    repeat (with_reducible refine And.intro (by omega) ?_)
    refine A6 (fun h2 => ?_) (fun h2 => ?_)
    all_goals (try simp only [bne_iff_ne, ne_eq, beq_iff_eq, decide_eq_true_eq, decide_eq_false_iff_not, Bool.not_eq_true, Bool.not_eq_false, Bool.not_true, Bool.not_false, bne_eq_false_iff_eq, beq_eq_false_iff_ne, Bool.and_eq_true, Bool.or_eq_true, Bool.and_eq_false_imp, Bool.or_eq_false_iff, Bool.not_eq_true', Bool.not_eq_false', Int.not_lt, Int.not_le] at h2)
    ·have e8 : ((8 : Int) * (i : Int)).toNat = 8 * i := by omega
     have e9 : (cm = 8 * i) = False := eq_false (by omega)
     have eg : ∀ j, ((Y.drop (136 * m)).drop (8 * i)).getD j 0 = Y.getD (136 * m + 8 * i + j) 0 := fun j => by simp only [List.getD_eq_getElem?_getD, List.getElem?_drop, Nat.add_assoc]
     have ew : Does Try.prog 58 [.raw (.slice (am.map (·.add (8 * i))) (N - 136 * m - 8 * i) (cm - 8 * i)), .int .i64 8, .int .i64 0] B2 (fun _ : Unit => .int .u64 (n64 (lx (fun j => Y.getD (136 * m + 8 * i + j) 0) 8))) (fun _ _ => True) := by
      have := Cg8 ((Y.drop (136 * m)).drop (8 * i)) (N - 136 * m - 8 * i) B2 (am.map (·.add (8 * i))) (cm - 8 * i) (hbm.drop _) (by simp only [List.length_drop, hYl]) (by omega)
      simpa only [eg] using this
     repeat' (first | with_reducible refine And.intro (by first | omega | (simp; omega)) ?_ | simp (maxSteps := 4000000) (disch := omega) only [go_sem, ↓reduceIte, Int.toNat_natCast, e8, e9, Y1, Ah1, S4, Bn9] | with_reducible refine D6 (id := 11) [0, 1, 2, 3, 4, 5, 6, 7, 8, 9, 10] mixed (by kernel_rfl) (by simp) (fun hin => D4 1000 hin ?_) | with_reducible refine E1 (by kernel_rfl) (C3 (by kernel_rfl)) (A3 1000 ?_) | refine At4 (ew) (by simp [closed, A0, A2, C4]) (by kernel_rfl) (F9 (by kernel_rfl) (C3 (by kernel_rfl))) (fun hin => D4 1000 hin ?_))
     exact ⟨i + 1, by omega, Weak.sub (A5 (by simp [wσ, go_sem, closed, A0, A4, A2] <;> omega) (by simp [whs, Go.Ew.hget, go_sem, EObj.closed, closed, A0, A4, A2]) (by first | (simp [*]; done) | (simp only [cxG]; omega)) rfl rfl (by simp)), by omega⟩
    ·obtain rfl : i = 17 := by omega
     repeat' (first | with_reducible refine And.intro (by first | omega | (simp; omega)) ?_ | simp (maxSteps := 4000000) (disch := omega) only [go_sem, ↓reduceIte, Int.toNat_natCast] | refine G9 (Bl1 _ _ _ hR) (by simp [closed, A0, A2, C4]) (A3 1000 ?_) | with_reducible refine A3 1000 ?_)
     have hbn : BytesAt B2 (if cm = 136 then am else am.map (·.add 136)) (Y.drop (136 * (m + 1))) := by
      rw [show Y.drop (136 * (m + 1)) = (Y.drop (136 * m)).drop 136 by rw [List.drop_drop]; congr 1]
      split
      ·have := hbm.take 0
       rw [List.take_zero] at this
       rw [List.drop_eq_nil_of_le (by simp only [List.length_drop, hYl]; omega)]
       exact this
      ·exact hbm.drop 136
     exact ⟨(m + 1, (if cm = 136 then am else am.map (·.add 136)), cm - 136), ⟨hm2, hbn, by simp only; omega⟩, Weak.sub (A5 (by simp [wσ, go_sem, closed, A0, A4, A2, Ba2, Nat.mul_succ, Nat.sub_sub, Addr.add] <;> omega) (by simp [whs, Go.Ew.hget, go_sem, EObj.closed, closed, A0, A4, A2, Ba2, Nat.mul_succ, Nat.sub_sub, Addr.add]) (by first | (simp [*]; done) | (simp only [cxG]; omega)) rfl rfl (by simp)), by simp only; omega⟩
   ·obtain rfl : m = N / 136 := by omega
    repeat' (first | simp (maxSteps := 4000000) (disch := omega) only [go_sem, ↓reduceIte, Int.toNat_natCast] | with_reducible refine A3 1000 ?_)
    obtain ⟨A, hA⟩ : ∃ A, A = Ba2 Y (N / 136) := ⟨_, rfl⟩
    simp only [← hA]
    refine G1 (S := Nat) (fun i => i ≤ 4)
     (fun i => ⟨[(58, .int .i64 (i : Nat)), (7, .ptr 3 0), (5, .ptr 2 0), (2, .ptr 0 0)], 4, [(3, some (.cells (C8 .u8 (hP A i) 32) 45 (0, 0))), (2, some (.cells (C8 .u64 (fL A) 25) 133 (0, 0))), (0, some (.cells (C8 .u8 (fun _ => 0) 32) 45 (0, 0)))], B2, []⟩)
     (fun i => 4 - i) 0 (by simp) (Weak.sub (A5 (by simp [wσ, go_sem, closed, A0, A4, A2, Bt4] <;> omega) (by simp [whs, Go.Ew.hget, go_sem, EObj.closed, closed, A0, A4, A2, Bt4]) (by first | (simp [*]; done) | (simp only [cxG]; omega)) rfl rfl (by simp))) ?_
    intro i hi
    refine A3 1000 ?_
    simp (maxSteps := 4000000) (disch := omega) only [go_sem, ↓reduceIte]
    repeat (with_reducible refine And.intro (by omega) ?_)
    refine A6 (fun h2 => ?_) (fun h2 => ?_)
    all_goals (try simp only [bne_iff_ne, ne_eq, beq_iff_eq, decide_eq_true_eq, decide_eq_false_iff_not, Bool.not_eq_true, Bool.not_eq_false, Bool.not_true, Bool.not_false, bne_eq_false_iff_eq, beq_eq_false_iff_ne, Bool.and_eq_true, Bool.or_eq_true, Bool.and_eq_false_imp, Bool.or_eq_false_iff, Bool.not_eq_true', Bool.not_eq_false', Int.not_lt, Int.not_le] at h2)
    ·have e8 : ((8 : Int) * (i : Int)).toNat = 8 * i := by omega
     have e9 : ((8 : Int) * (i : Int) + 8).toNat = 8 * i + 8 := by omega
     have hl : ∀ cap' bs w, w.heap[bs 3]? = some ((EObj.cells (C8 .u8 (hP A i) 32) 45 (0, 0)).real bs) → Calls Try.prog 60 (A8 bs [.sl 3 (8 * i) 8 cap', .int .u64 (n64 (A i)), .int .i64 0]).toArray w (fun e w' => ∃ s : Unit, True ∧ Cs8 [bs 3] (.tup []) 1 [some (.cells (C8 .u8 (hP A (i + 1)) 32) 45 (0, 0))] w e w') := fun cap' bs w h => by
      have := Bs6 (hP A i) (8 * i) cap' (A i) (by omega) 45 (bs 3) w (by simpa only [EObj.real, W7] using h)
      rw [Cp9] at this
      exact this
     have e10 : (32 = 8 * i) = False := eq_false (by omega)
     have e11 : 8 * i + 8 - 8 * i = 8 := by omega
     repeat' (first | with_reducible refine And.intro (by first | omega | (simp; omega)) ?_ | simp (maxSteps := 4000000) (disch := omega) only [go_sem, ↓reduceIte, Int.toNat_natCast, e8, e9, e10, e11, Y1] | with_reducible refine D6 (id := 19) [0, 1, 2, 3, 4, 5, 6, 7, 8, 9] mixed (by kernel_rfl) (by simp) (fun hin => D4 1000 hin ?_) | with_reducible refine E1 (by kernel_rfl) (C3 (by kernel_rfl)) (A3 1000 ?_) | refine Cc9 3 Di8 rfl (by simp [closed, A0]) (by simp [EObj.closed, A2]) (hl _) (by kernel_rfl) (F9 (by kernel_rfl) (C3 (by kernel_rfl))) (fun hin => D4 1000 hin ?_))
     exact ⟨i + 1, by omega, Weak.sub (A5 (by simp [wσ, go_sem, closed, A0, A4, A2] <;> omega) (by simp [whs, Go.Ew.hget, go_sem, EObj.closed, closed, A0, A4, A2]) (by first | (simp [*]; done) | (simp only [cxG]; omega)) rfl rfl (by simp)), by omega⟩
    ·obtain rfl : i = 4 := by omega
     repeat' (first | with_reducible refine And.intro (by omega) ?_ | simp (maxSteps := 4000000) (disch := omega) only [go_sem, ↓reduceIte, Int.toNat_natCast] | with_reducible refine A3 1000 ?_)
     rw [← hA] at hK
     rw [Cq6 A, hK]
     exact ⟨(), rfl, by simp [closed, A2]⟩
end Go.Proofs.Ytncjbfkkgdepoaa
