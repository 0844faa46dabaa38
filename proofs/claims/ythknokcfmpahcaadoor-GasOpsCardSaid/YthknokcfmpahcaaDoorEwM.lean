/- The walk's words: what 'simp only [go_sem]' lays open. -/
import Derived.Test.YthknokcfmpahcaaDoorEwL
import Derived.Laws.Externs
set_option linter.unusedSimpArgs false
namespace Go.Ew
open Go
attribute [go_sem ↓] goS opG condS_true condS_false testS_tt testS_tf testS_ft testS_ff drawG opD testD_tt testD_ff testD_tf testD_ft
attribute [go_sem] guardOf stepO stepF pureOf allocOf storeOf put argσ tget ev evo okO evs EV.cells EV.isAny EV.one indexAddrOf fieldAddrOf indexOf fieldOf partOf loadOf hget aggT
    ofValue ofScalar unw binOf arith shiftOf strOf unOf convOf extractOf builtinOf lenOf minOf maxOf sliceOf bnd buildOf placesOf efill onesP oneAll retE retK shutMs cx0 resList shutE noAny cond_true cond_false guardC
    rep_one aggEq EV.isInt EV.num opLooks oLook oLooks pLooks mLook gLook footOf sfoot exitS
    List.getD_cons_zero List.getD_cons_succ List.length_cons List.length_nil List.map_cons List.map_nil List.drop_succ_cons List.drop_zero List.take_succ_cons List.take_zero List.take_nil List.set_cons_zero List.set_cons_succ
    List.cons_append List.nil_append true_and and_true
    List.getElem?_cons_zero List.getElem?_cons_succ List.all_cons List.all_nil
    Option.some.injEq exists_eq' beq_self_eq_true Bool.not_false Bool.not_true Bool.and_true Bool.true_and Bool.and_self Bool.and_false Bool.false_and Int.cast_ofNat_Int List.append_nil decide_true decide_false
    Bool.false_eq_true eq_self Nat.zero_le Nat.le_refl true_or or_true Nat.add_zero Nat.zero_add Nat.mul_one Nat.one_mul Nat.zero_mul
end Go.Ew
namespace Go.Ew
theorem endD_of {C : Cx} {Q : Exit → X → Prop} {st : List It} {acc : List (Nat × Oper × Ef)} {x : X} (h : pwB acc.reverse = true) (hk : Next C Q st x) : endD C Q st acc x := ⟨h, hk⟩
end Go.Ew
namespace Go.Ew
theorem wrap_i64 {n : Int} (h0 : -9223372036854775808 ≤ n) (h1 : n < 9223372036854775808) : IntKind.i64.wrap n = n := by
  simp [IntKind.wrap, IntKind.bits, IntKind.signed]; omega
theorem wrap_u64 {n : Int} (h0 : 0 ≤ n) (h1 : n < 18446744073709551616) : IntKind.u64.wrap n = n := by
  simp [IntKind.wrap, IntKind.bits, IntKind.signed]; omega
theorem wrap_u64_mod (n : Int) : IntKind.u64.wrap n = n % 18446744073709551616 := by
  simp [IntKind.wrap, IntKind.bits, IntKind.signed]
theorem wrap_u8 {n : Int} (h0 : 0 ≤ n) (h1 : n < 256) : IntKind.u8.wrap n = n := by
  simp [IntKind.wrap, IntKind.bits, IntKind.signed]; omega
theorem wrap_u8_mod (n : Int) : IntKind.u8.wrap n = n % 256 := by
  simp [IntKind.wrap, IntKind.bits, IntKind.signed]
attribute [go_sem] wrap_i64 wrap_u64 wrap_u8
end Go.Ew
namespace Go.Ew
theorem tdiv_nn {a b : Int} (h : 0 ≤ a) : a.tdiv b = a / b := Int.tdiv_eq_ediv_of_nonneg h
theorem tmod_nn {a b : Int} (h : 0 ≤ a) : a.tmod b = a % b := Int.tmod_eq_emod_of_nonneg h
attribute [go_sem] tdiv_nn tmod_nn
end Go.Ew
attribute [go_sem] Bool.or_false Bool.false_or Bool.or_true Bool.true_or Bool.or_self
namespace Go.Ew
theorem nat_beq_eq (a b : Nat) : Nat.beq a b = (a == b) := by rw [Bool.eq_iff_iff]; simp [Nat.beq_eq]
attribute [go_sem] nat_beq_eq
end Go.Ew
attribute [go_sem] List.getElem?_toArray

namespace Go.Ew
theorem splice_nil (cs : List EV) (off : Nat) : splice cs off [] = cs := by simp [splice]
theorem splice_one (cs : List EV) (off : Nat) (v : EV) : splice cs off [v] = cs.set off v := rfl
theorem splice_two (cs : List EV) (off : Nat) (u v : EV) (r : List EV) : splice cs off (u :: v :: r) = cs.take off ++ (u :: v :: r) ++ cs.drop (off + (u :: v :: r).length) := rfl
attribute [go_sem] splice_nil splice_one splice_two
end Go.Ew
