/- Part of a proof over the seat YthknokcfmpahcaaDoor. -/
import Derived.Test.YthknokcfmpahcaaDoorTO5
namespace Go.Proofs.YthknokcfmpahcaaDoor
open Go Go.Ew
set_option maxRecDepth 100000
set_option linter.unusedSimpArgs false
set_option linter.unusedVariables false
set_option maxHeartbeats 1000000
def dataI (n : Int) : Int := if 96 ≤ n ∧ n ≤ 127 then n - 95 else 0
theorem opE_data (n : Int) : ∃ s g p q b, opE n = infE s g p q (dataI n) b := by
  unfold opE dataI
  split
  · rename_i r h
    rw [if_neg (fun h2 => by rw [none_of ⟨h2.1, by omega⟩] at h; cases h)]
    exact ⟨_, _, _, _, _, rfl⟩
  · split
    · exact ⟨_, _, _, _, _, rfl⟩
    · repeat' split
      all_goals exact ⟨_, _, _, _, _, rfl⟩
def nx (c : List Int) (a : Nat) : Nat := a + 1 + (dataI (c.getD a 0)).toNat
theorem codesF_cons (c : List Int) (f a : Nat) (h : a < c.length) : codesF c (f + 1) a = (a, c.getD a 0) :: codesF c f (nx c a) := by
  simp only [codesF, if_pos h]
  congr 2
  unfold nx dataI
  split <;> split <;> omega
theorem codesF_nil (c : List Int) (f a : Nat) (h : ¬ a < c.length) : codesF c f a = [] := by
  cases f with
  | zero => rfl
  | succ f => simp only [codesF]; rw [if_neg h]
theorem codesF_mem {c : List Int} : ∀ {f a : Nat} {p : Nat × Int}, p ∈ codesF c f a → a ≤ p.1 ∧ p.1 < c.length ∧ p.2 = c.getD p.1 0
  | 0, a, p, h => by simp [codesF] at h
  | f + 1, a, p, h => by
    by_cases ha : a < c.length
    · rw [codesF_cons c f a ha] at h
      rcases List.mem_cons.1 h with rfl | h
      · exact ⟨Nat.le_refl _, ha, rfl⟩
      · obtain ⟨h1, h2⟩ := codesF_mem h
        exact ⟨by unfold nx at h1; omega, h2⟩
    · rw [codesF_nil c _ a ha] at h; simp at h
theorem codesF_gap {c : List Int} : ∀ {f a : Nat} {p q : Nat × Int}, p ∈ codesF c f a → q ∈ codesF c f a → q.1 ≤ p.1 ∨ nx c p.1 ≤ q.1
  | 0, a, p, q, h, _ => by simp [codesF] at h
  | f + 1, a, p, q, h, h' => by
    by_cases ha : a < c.length
    · rw [codesF_cons c f a ha] at h h'
      rcases List.mem_cons.1 h with rfl | h <;> rcases List.mem_cons.1 h' with rfl | h'
      · exact .inl (Nat.le_refl _)
      · exact .inr (codesF_mem h').1
      · refine .inl ?_
        have := (codesF_mem h).1
        unfold nx at this; simp only; omega
      · exact codesF_gap h h'
    · rw [codesF_nil c _ a ha] at h; simp at h
theorem codesF_sorted {c : List Int} : ∀ {f a : Nat}, (codesF c f a).Pairwise (fun p q => p.1 < q.1)
  | 0, a => by simp [codesF]
  | f + 1, a => by
    by_cases ha : a < c.length
    · rw [codesF_cons c f a ha]
      refine List.Pairwise.cons (fun q hq => ?_) codesF_sorted
      have := (codesF_mem hq).1
      unfold nx at this; simp only; omega
    · rw [codesF_nil c _ a ha]; exact List.Pairwise.nil
/-- Where the instruction k begins, the first at a. -/
def posF (c : List Int) (l : List (Nat × Int)) (a : Nat) : Nat → Nat
  | 0 => a
  | k + 1 => match l[k]? with
    | some p => nx c p.1
    | none => 0
theorem posF_cons (c : List Int) (l : List (Nat × Int)) (a : Nat) (p : Nat × Int) : ∀ k, posF c (p :: l) a (k + 1) = posF c l (nx c p.1) k
  | 0 => rfl
  | k + 1 => rfl
theorem codesF_pos {c : List Int} : ∀ {f a : Nat}, c.length ≤ a + f → ∀ k, (∀ p, (codesF c f a)[k]? = some p → p.1 = posF c (codesF c f a) a k) ∧ (k = (codesF c f a).length → c.length ≤ posF c (codesF c f a) a k)
  | 0, a, h, k => by
    refine ⟨fun p hp => by simp [codesF] at hp, fun hk => ?_⟩
    have hk : k = 0 := by simpa [codesF] using hk
    subst hk
    exact h
  | f + 1, a, h, k => by
    by_cases ha : a < c.length
    · rw [codesF_cons c f a ha]
      cases k with
      | zero =>
        refine ⟨fun p hp => ?_, fun hk => by simp at hk⟩
        simp only [List.getElem?_cons_zero, Option.some.injEq] at hp
        subst hp; rfl
      | succ k =>
        have ih := codesF_pos (c := c) (f := f) (a := nx c a) (by unfold nx; omega) k
        rw [posF_cons]
        refine ⟨fun p hp => ih.1 p (by simpa using hp), fun hk => ih.2 (by simpa using hk)⟩
    · rw [codesF_nil c _ a ha]
      refine ⟨fun p hp => by simp at hp, fun hk => ?_⟩
      have hk : k = 0 := by simpa using hk
      subst hk
      show c.length ≤ a
      omega
theorem mem_dests {c : List Int} {n : Nat} : n ∈ dests c ↔ (n, 91) ∈ codes c 0 := by
  unfold dests
  simp only [List.mem_map, List.mem_filter]
  constructor
  · rintro ⟨⟨a, b⟩, ⟨h1, h2⟩, rfl⟩
    have : b = 91 := by simpa using h2
    subst this; exact h1
  · intro h
    exact ⟨(n, 91), ⟨h, by simp⟩, rfl⟩
theorem dests_sorted (c : List Int) : (dests c).Pairwise (· < ·) := by
  unfold dests
  rw [List.pairwise_map]
  exact List.Pairwise.filter _ codesF_sorted
theorem find_sorted {n : Nat} : ∀ {l : List Nat}, l.Pairwise (· < ·) → n ∈ l → l.find? (fun (d : Nat) => decide ((n : Int) ≤ (d : Int))) = some n
  | x :: t, hp, h => by
    rw [List.find?_cons]
    rcases List.mem_cons.1 h with rfl | h
    · simp
    · have := (List.pairwise_cons.1 hp).1 n h
      have e : decide ((n : Int) ≤ (x : Int)) = false := by simp; omega
      rw [e]
      exact find_sorted (List.pairwise_cons.1 hp).2 h
theorem destV_iff {c : List Int} {n : Nat} : destV c n = true ↔ n ∈ dests c := by
  unfold destV
  constructor
  · intro h
    split at h
    · rename_i d hd
      have : d = n := by simp at h; omega
      subst this
      exact List.mem_of_find?_eq_some hd
    · cases h
  · intro h
    rw [find_sorted (dests_sorted c) h]
    simp
/-- What Dest says. -/
def destB (c : List Int) (a : Int) : Bool := decide (0 ≤ a ∧ a < c.length ∧ c.getD a.toNat 0 = 91) && destV c a
theorem destB_iff {c : List Int} {n : Nat} : destB c n = true ↔ n ∈ dests c := by
  unfold destB
  rw [Bool.and_eq_true, destV_iff]
  constructor
  · exact fun h => h.2
  · intro h
    refine ⟨?_, h⟩
    obtain ⟨_, h2, h3⟩ := codesF_mem (mem_dests.1 h)
    simp only at h2 h3
    simp only [decide_eq_true_eq, Int.toNat_natCast]
    refine ⟨by omega, by omega, h3.symm⟩
theorem destB_at {c : List Int} {p : Nat × Int} (h : p ∈ codes c 0) : destB c p.1 = (p.2 == 91) := by
  rw [Bool.eq_iff_iff, destB_iff, mem_dests]
  constructor
  · intro h2
    have a := (codesF_mem h).2.2
    have b := (codesF_mem h2).2.2
    simp only at b
    rw [← b] at a; simp [a]
  · intro h2
    have : p.2 = 91 := by simpa using h2
    obtain ⟨a, b⟩ := p
    simp only at this; subst this; exact h
theorem destB_in {c : List Int} {p : Nat × Int} (h : p ∈ codes c 0) {k : Nat} (h1 : p.1 < k) (h2 : k < nx c p.1) : destB c k = false := by
  rw [Bool.eq_false_iff]
  intro h3
  have := codesF_gap h (mem_dests.1 (destB_iff.1 h3))
  simp only at this
  omega
theorem destB_out {c : List Int} {a : Int} (h : a < 0 ∨ (c.length : Int) ≤ a) : destB c a = false := by
  unfold destB
  rw [show decide (0 ≤ a ∧ a < c.length ∧ c.getD a.toNat 0 = 91) = false by simp only [decide_eq_false_iff_not]; omega]
  rfl
end Go.Proofs.YthknokcfmpahcaaDoor
