/-
  The reference's Check is trunk's.
-/
import Derived.Test.YthemnajgdoambaaTe
import Derived.Test.YthemnajgdoambaaTh14
namespace Go.Proofs.Ythemnajgdoambaa.Th
open Go.RowKit Go.Proofs.YthemnajgdoambaaW.PrintWords Go.Proofs.YthemnajgdoambaaW.PrintLast Go.Proofs.YthemnajgdoambaaW.PrintMore Go.Proofs.Ythemnajgdoambaa.Tr
set_option linter.unusedVariables false
set_option linter.unusedSimpArgs false

theorem number_eq (x : Int) : crossbarref14_number.f x = some (decide (1 ≤ x) && decide (x ≤ 1099511627776)) := by
  unfold crossbarref14_number.f
  by_cases h : x ≥ 1
  · rw [if_pos h]; simp [h]
  · rw [if_neg h]
    have : ¬ 1 ≤ x := h
    simp [this]

theorem refCheck_loop (l : List S36) (hl : l.length ≤ 60) : ∀ (n i k : Nat), i + n = l.length → n + 1 ≤ k → crossbarref14_Check.l0 k l (l.length : Int) (i : Int) = some (if (l.drop i).all (fun c => !inv c) then 0 else 1)
  | 0, i, k, hi, hk => by
    obtain ⟨k, rfl⟩ : ∃ k', k = k' + 1 := ⟨k - 1, by omega⟩
    unfold crossbarref14_Check.l0
    rw [if_neg (by omega), List.drop_of_length_le (by omega)]
    rfl
  | n + 1, i, k, hi, hk => by
    obtain ⟨k, rfl⟩ : ∃ k', k = k' + 1 := ⟨k - 1, by omega⟩
    unfold crossbarref14_Check.l0
    have ew : wrap64 ((i : Int) + 1) = ((i + 1 : Nat) : Int) := by unfold wrap64; omega
    have ih := refCheck_loop l hl n (i + 1) k (by omega) (by omega)
    have hlt : i < l.length := by omega
    rw [if_pos (by omega), if_pos (by omega), if_pos (by omega), ew, ih, List.drop_eq_getElem_cons hlt, ← rd_in hlt]
    simp only [number_eq, Option.bind_some, List.all_cons]
    generalize rd_T36 l (i : Int) = c
    have ht : ∃ t, (List.drop (i + 1) l).all (fun c => !inv c) = t := ⟨_, rfl⟩
    obtain ⟨t, ht⟩ := ht
    simp only [ht]
    clear ht ih
    unfold inv
    by_cases h0 : c.f0 < 0
    · have : ¬ c.f0 = 0 := by omega
      have h1 : ¬ 1 ≤ c.f0 := by omega
      simp [h0, this, h1]
    · by_cases h3 : c.f0 > 3
      · have : ¬ c.f0 = 0 := by omega
        have h1 : ¬ c.f0 ≤ 3 := by omega
        simp [h0, h3, this, h1]
      · by_cases hz : c.f0 = 0
        · by_cases hr : c.f1 = 0 <;> simp [hz, hr]
        · have h1 : 1 ≤ c.f0 := by omega
          have h2 : c.f0 ≤ 3 := by omega
          by_cases ha : 1 ≤ c.f1 <;> by_cases hb : c.f1 ≤ 1099511627776 <;> simp [h0, h3, hz, h1, h2, ha, hb]

theorem sides_eq (a b : Int) : crossbarref14_sides.f a b = some (decide (0 ≤ a) && decide (a ≤ 5) && (decide (0 ≤ b) && decide (b ≤ 5)) && (a != b)) := by
  unfold crossbarref14_sides.f
  by_cases h1 : a ≥ 0 <;> by_cases h2 : a < 6 <;> by_cases h3 : b ≥ 0 <;> by_cases h4 : b < 6
  all_goals
    have e1 : (0 ≤ a) = (a ≥ 0) := rfl
    have e2 : (a ≤ 5) = (a < 6) := propext (by omega)
    have e3 : (0 ≤ b) = (b ≥ 0) := rfl
    have e4 : (b ≤ 5) = (b < 6) := propext (by omega)
    simp only [e1, e2, e3, e4, h1, h2, h3, h4, if_true, if_false, decide_true, decide_false, Bool.true_and, Bool.and_true, Bool.false_and, Bool.and_false]

theorem refCheck_eq (a b : Int) (l : List S36) (hl : l.length ≤ 60) (k : Nat) (hk : 63 ≤ k) : crossbarref14_Check.f k a b l = some (checkS a b l) := by
  obtain ⟨k, rfl⟩ : ∃ k', k = k' + 1 := ⟨k - 1, by omega⟩
  unfold crossbarref14_Check.f crossbarref14_Check.j0 checkS shp
  rw [sides_eq]
  simp only [Option.bind_some]
  generalize (decide (0 ≤ a) && decide (a ≤ 5) && (decide (0 ≤ b) && decide (b ≤ 5)) && (a != b)) = s
  have hloop := refCheck_loop l hl l.length 0 k (by omega) (by omega)
  rw [List.drop_zero] at hloop
  cases s
  · simp
  · by_cases h1 : (l.length : Int) < 1
    · have : ¬ 1 ≤ (l.length : Int) := by omega
      simp [h1, this]
    · by_cases h2 : (l.length : Int) > 48
      · have h3 : ¬ (l.length : Int) ≤ 48 := by omega
        have h4 : 1 ≤ (l.length : Int) := by omega
        simp [h1, h2, h3, h4]
      · have h3 : (l.length : Int) ≤ 48 := by omega
        have h4 : 1 ≤ (l.length : Int) := by omega
        simp only [h1, h2, h3, h4, if_true, if_false, decide_true, decide_false, Bool.and_true, Bool.true_and, Bool.false_eq_true]
        exact hloop
end Go.Proofs.Ythemnajgdoambaa.Th
