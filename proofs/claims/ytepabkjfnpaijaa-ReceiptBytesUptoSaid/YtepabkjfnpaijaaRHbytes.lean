/- The statement of ReceiptBytes (Upto). -/
import Derived.Test.YtepabkjfnpaijaaG15
import Derived.Test.YtepabkjfnpaijaaSM
set_option linter.unusedSimpArgs false
set_option linter.unusedVariables false
set_option maxRecDepth 100000
namespace Go.Proofs.Ytepabkjfnpaijaa.receiptBytes
open Go Go.Ew Go.ChangeShapes Go.WideShapes Go.ChangeAt Go.RowKit
def zRcv : List Value := .int .u8 0 :: .int .i64 0 :: .int .u64 0 :: (List.replicate 256 (.int .u8 0) ++ [.slice none 0 0])
def zRcd {H : Type} : List (DataW H) := [.lit (.int .u8 0), .lit (.int .i64 0), .lit (.int .u64 0), .agg (List.replicate 256 (.lit (.int .u8 0))), .nil]
/-- What the walk gives, at every world that lets the arguments in. -/
theorem contract (H : Type) (enc : TypeId × Value → H) (W : World) (base' : Nat) (args : Array Value) (ds gs : List (DataW H)) (before : List MemPlace)
  (hval : ∀ (j : Nat) t v, Try.f5.params[j]? = some t → args[j]? = some v → Value.okWide Try.prog W .any base' t v)
  (hW : DataW.Whole enc Try.prog Try.f5.params.toList Rows.receiptBytesSpec.vars false W args.toList ds gs before) (hk : Rows.uptoSmall H (ds ++ gs) = true) :
  Calls Try.prog 5 args W fun e W' => ∃ v, e = .returned v ∧ Rows.receiptBytesSpec.post enc Try.prog Try.f5 false true false false W args v W' := by
 have hW' := hW
 obtain ⟨p, q, hA0, hV, rfl, hfz, hnd⟩ := hW
 have hA : DataW.TrodAll enc Try.prog W 0 (fun _ => true) true Try.f5.params.toList args.toList ds p := hA0
 rw [Try.params5] at hA hval
 obtain ⟨v0, vs0, d0, ds0, p0, q0, hargs, rfl, rfl, h0, r0⟩ := trodAll_cons hA
 obtain ⟨v1, vs1, d1, ds1, p1, q1, rfl, rfl, rfl, h1, r1⟩ := trodAll_cons r0
 obtain ⟨rfl, rfl, rfl⟩ := trodAll_nil r1
 obtain rfl : args = #[v0, v1] := by cases args; simp_all
 obtain ⟨rfl, rfl⟩ := trodVars_none hV
 have hb := bulk_bound hk
 have hbb : ∀ d ∈ [d0, d1], Rows.uptoBulk d ≤ 1048576 := fun d hd => by
  have := bulk_mem (d := d) (l := [d0, d1] ++ []) (by simpa using hd)
  omega
 have k0 := h0
 have k1 := h1
 have lt0 : ∀ x ∈ p0, x.block < W.heap.size := by obtain ⟨m, hm⟩ := k0; exact DataW.trod_lt m _ _ _ hm
 have lt1 : ∀ x ∈ p1, x.block < W.heap.size := by obtain ⟨m, hm⟩ := k1; exact DataW.trod_lt m _ _ _ hm
 obtain ⟨rv, rfl, w0, w1⟩ := arg_rc (hval 0 45 v0 rfl rfl) h0 (hbb d0 (by simp))
 have ho1 := hval 1 23 v1 rfl rfl
 obtain ⟨a1, n1, c1, f1, rfl, g1⟩ := arg_sl Try.underlying23 ho1 h1
 obtain ⟨x1, y1, L1, e1, w2, w3, w4⟩ := in_bytesL g1 (hbb d1 (by simp))
 simp only [List.cons.injEq, Value.slice.injEq, and_true] at e1
 obtain ⟨rfl, rfl, rfl⟩ := e1
 clear hA0
 have hlaw := law_bytes W rv L1 L1.length a1 c1 w0 w1 w2 rfl w3 w4
 have hreal : (reals (fun _ => 0) [.agg (rcE rv), .raw (.slice a1 L1.length c1)]).toArray = #[Value.agg (rcC rv).toArray, .slice a1 L1.length c1] := by
  simp only [reals, real, reals_rc]
 rw [hreal] at hlaw
 refine hlaw.mono fun e W' ⟨he, bel⟩ => ?_
 subst he
 exact ⟨_, rfl, _, _, _, [], _, [], hW', trodAll_mk1 (shut_bool Try.underlying4 _), (trodAll_cons_mk (Below.trod laidOut (by kernel_rfl) (of_decide_eq_true (by kernel_rfl)) k0 bel lt0) (trodAll_cons_mk (Below.trod laidOut (by kernel_rfl) (of_decide_eq_true (by kernel_rfl)) k1 bel lt1) trodAll_mk0)), rfl, bel.frame _, fun h => by cases h⟩
set_option maxRecDepth 100000 in
theorem lifted (os : Os) (started : os.Started) (H : Type) (enc : TypeId × Value → H) (F : Stop.Interp) :
  ReturnsInHanded {} Try.checked os 5 .any ((Rows.OpenSpec.upto Rows.receiptBytesSpec).pre6 enc Try.prog Try.f5 Rows.receiptBytesUptoRow.domain false) (((Rows.OpenSpec.upto Rows.receiptBytesSpec).at F).post enc Try.prog Try.f5 false true false false) := by
 refine returnsInHanded_of_cond (C := Try.checked) (s := Rows.OpenSpec.upto Rows.receiptBytesSpec) (k := Rows.uptoSmall) rfl own started (by kernel_rfl) Try.func5
  (OpenSpec.witness (enc := enc) (C := Try.checked) (s := Rows.OpenSpec.upto Rows.receiptBytesSpec) (k := Rows.uptoSmall) rfl false ⟨#[], #[.agg zRcv.toArray, .slice none 0 0], []⟩ 8 (by kernel_rfl) (by kernel_rfl) (by kernel_rfl)
   (x := ([.agg zRcd, .nil], [], [])) (by kernel_rfl) rfl (by kernel_rfl)) ?_
 intro W base' args ds gs before hval hW _ hk _
 exact contract H enc W base' args ds gs before hval hW hk
/-- The statement of ReceiptBytes, where what it reads is of bulk at most 1048576. -/
theorem upto : Rows.ReceiptBytesUptoSaid :=
 OpenClaim.holds_of_cond 5 Try.f5 rfl rfl rfl rfl rfl rfl rfl ⟨rfl, rfl, rfl, rfl, rfl⟩ rfl rfl rfl rfl rfl (by kernel_rfl) Try.func5 (by kernel_rfl)
  (of_decide_eq_true (by kernel_rfl)) (by unfold Func.isWrapper; first | (rw [if_pos (by decide +kernel)]; kernel_rfl) | (rw [if_neg (by decide +kernel)]; exact ⟨rfl, rfl⟩))
  (fun os started H enc _ F => lifted os started H enc F)
end Go.Proofs.Ytepabkjfnpaijaa.receiptBytes
