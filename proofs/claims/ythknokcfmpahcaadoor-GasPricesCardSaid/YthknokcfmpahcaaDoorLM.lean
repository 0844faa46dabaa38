/- Part of a proof over the seat YthknokcfmpahcaaDoor. -/
import Derived.Test.YthknokcfmpahcaaDoorLK
set_option linter.unusedSimpArgs false
set_option linter.unusedVariables false
namespace Go.Ew
open Go RowKit
/-! ### names that a drawn region keeps, seen by the kernel -/
mutual
def avB (r : Nat) : EV → Bool
  | .ptr i _ => !(Nat.beq i r)
  | .sl i _ _ _ => !(Nat.beq i r)
  | .mp i => !(Nat.beq i r)
  | .fn _ a b => avsB r a && avsB r b
  | .agg cs => avsB r cs
  | .tup vs => avsB r vs
  | .ifc _ v => avB r v
  | _ => true
def avsB (r : Nat) : List EV → Bool
  | [] => true
  | v :: vs => avB r v && avsB r vs
end
theorem nbeq {i r : Nat} (h : (!(Nat.beq i r)) = true) : i ≠ r := by
  rintro rfl
  simp at h
mutual
theorem avB_spec {r : Nat} : ∀ v, avB r v = true → av r v
  | .any, _ => by simp [av]
  | .int _ _, _ => by simp [av]
  | .bool _, _ => by simp [av]
  | .str _, _ => by simp [av]
  | .raw _, _ => by simp [av]
  | .ptr i _, h => by simp only [avB] at h; simp only [av]; exact nbeq h
  | .sl i _ _ _, h => by simp only [avB] at h; simp only [av]; exact nbeq h
  | .mp i, h => by simp only [avB] at h; simp only [av]; exact nbeq h
  | .fn _ a b, h => by simp only [avB, Bool.and_eq_true] at h; simp only [av]; exact ⟨avsB_spec a h.1, avsB_spec b h.2⟩
  | .agg cs, h => by simp only [avB] at h; simp only [av]; exact avsB_spec cs h
  | .tup vs, h => by simp only [avB] at h; simp only [av]; exact avsB_spec vs h
  | .ifc _ v, h => by simp only [avB] at h; simp only [av]; exact avB_spec v h
theorem avsB_spec {r : Nat} : ∀ l, avsB r l = true → avs r l
  | [], _ => by simp [avs]
  | v :: vs, h => by simp only [avsB, Bool.and_eq_true] at h; simp only [avs]; exact ⟨avB_spec v h.1, avsB_spec vs h.2⟩
end
def offO (r : Nat) : Option EObj → Bool
  | none => true
  | some (.cells cs _ _) => avsB r cs
  | some (.obj _) => true
def offU (r : Nat) : List (Nat × Option EObj) → Bool
  | [] => true
  | (k, o) :: l => !(Nat.beq k r) && offO r o && offU r l
def offB (r : Nat) (E : Ef) : Bool := avB r E.v && offU r E.ups
theorem offU_spec {r : Nat} : ∀ {l : List (Nat × Option EObj)}, offU r l = true → ∀ k o, (k, o) ∈ l → k ≠ r ∧ ∀ o', o = some o' → o'.av r
  | [], _, _, _, h => by cases h
  | (k, o) :: l, h, k', o', hm => by
    simp only [offU, Bool.and_eq_true] at h
    rcases List.mem_cons.1 hm with e | hm
    · cases e
      refine ⟨nbeq h.1.1, fun o' ho => ?_⟩
      subst ho
      cases o' with
      | cells cs T fr => exact avsB_spec cs h.1.2
      | obj o => trivial
    · exact offU_spec h.2 k' o' hm
theorem offB_spec {r : Nat} {E : Ef} (h : offB r E = true) : E.off r := by
  simp only [offB, Bool.and_eq_true] at h
  exact ⟨avB_spec _ h.1, offU_spec h.2⟩
def nmPB (p q : Nd) : Bool := (p.2.2.2 || p.2.2.1.nm.all (fun r => hasEdge q.2.1 p.1 || offB r q.2.2.1)) && q.2.2.1.nm.all (fun r => offB r p.2.2.1)
def nmWB (p : Nd) : List Nd → Bool
  | [] => true
  | q :: r => nmPB p q && nmWB p r
def nmB : List Nd → Bool
  | [] => true
  | p :: r => p.2.2.1.nm.all (fun r' => Nat.ble 100000 r' && Nat.blt r' 200000) && nmWB p r && nmB r
theorem nmWB_spec {p : Nd} : ∀ {l : List Nd}, nmWB p l = true → nmW p l
  | [], _ => trivial
  | q :: r, h => by
    simp only [nmWB, nmPB, Bool.and_eq_true, Bool.or_eq_true, List.all_eq_true] at h
    obtain ⟨⟨h1, h2⟩, h3⟩ := h
    refine ⟨⟨?_, fun r' hr' => offB_spec (h2 r' hr')⟩, nmWB_spec h3⟩
    rcases h1 with h1 | h1
    · exact .inl h1
    · refine .inr fun r' hr' => ?_
      rcases h1 r' hr' with h | h
      · exact .inl h
      · exact .inr (offB_spec h)
theorem nmT_of : ∀ {l : List Nd}, nmB l = true → nmT l
  | [], _ => trivial
  | p :: r, h => by
    simp only [nmB, Bool.and_eq_true, List.all_eq_true] at h
    obtain ⟨⟨h1, h2⟩, h3⟩ := h
    refine ⟨fun r' hr' => ?_, nmWB_spec h2, nmT_of h3⟩
    obtain ⟨a, b⟩ := h1 r' hr'
    exact ⟨Nat.le_of_ble_eq_true a, Nat.le_of_ble_eq_true b⟩
end Go.Ew
