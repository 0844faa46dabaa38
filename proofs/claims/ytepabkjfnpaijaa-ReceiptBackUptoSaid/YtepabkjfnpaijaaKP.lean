/- Part of a proof over the seat Ytepabkjfnpaijaa. -/
import Derived.Test.YtepabkjfnpaijaaKO
import Derived.Test.YtepabkjfnpaijaaEng2
namespace Go.Proofs.Ytepabkjfnpaijaa
open Go RowKit Go.Ew
set_option maxRecDepth 100000
set_option linter.unusedSimpArgs false
set_option linter.unusedVariables false
set_option maxHeartbeats 4000000
/-- What a log says, wherever it lies. -/
def LogV.body (g : LogV) : List UInt8 × Nat × List UInt8 × List UInt8 := (g.ad, g.tn, g.tp, g.dt)
theorem ofS_bV (l : List UInt8) : (l.map bV).map ofScalar = l.map bE := by
  simp [bV, bE, ofScalar, Function.comp_def]
def z22 : List EV := List.replicate 20 (.int .u8 0) ++ [.raw (.slice none 0 0), .raw (.slice none 0 0)]
/-- A list of logs of one's own. -/
abbrev logsE (L : List LogV) : List EV := L.flatMap LogV.ev
theorem z22_closed : closeds 0 z22 := by simp [z22, closeds, closed, List.replicate]
theorem reals_logs (bs : Nat → Nat) (L : List LogV) : reals bs (logsE L) = L.flatMap LogV.cells :=
  reals_flat _ _ _ (fun g => by simp [logE, LogV.cells, reals_eq, bE, bV, real, Function.comp_def]) L
theorem oneAll_logE (ad : List UInt8) (u v : EV) : oneAll (logE ad u v) = (u.one && v.one) := by
  induction ad with
  | nil => simp [logE, oneAll]
  | cons a l ih => simp only [logE, List.map_cons, List.cons_append, oneAll] at ih ⊢; rw [ih]; rfl
theorem logsE_len {B : Base} {L : List LogV} (h : ∀ g ∈ L, g.Ok B) : (logsE L).length = L.length * 22 := by
  have := flat_len (f := LogV.ev) (k := 22) (l := L) (fun g hg => logE_len (h g hg).ha)
  rw [this]; omega
theorem logsE_closed (n : Nat) (L : List LogV) : closeds n (logsE L) := by
  induction L with
  | nil => trivial
  | cons g L ih => exact closeds_append.2 ⟨logE_closed (by simp [closed]) (by simp [closed]), ih⟩
end Go.Proofs.Ytepabkjfnpaijaa

