/-
  The reference's Arrive is trunk's.
-/
import Derived.Test.YthemnajgdoambaaTg
import Derived.Test.YthemnajgdoambaaTh16
namespace Go.Proofs.Ythemnajgdoambaa.Th
open Go.RowKit Go.Proofs.YthemnajgdoambaaW.PrintWords Go.Proofs.YthemnajgdoambaaW.PrintLast Go.Proofs.YthemnajgdoambaaW.PrintMore Go.Proofs.Ythemnajgdoambaa.Tr
set_option linter.unusedVariables false
set_option linter.unusedSimpArgs false

theorem refControls_eq {a b i : Int} {l : List S36} (h0 : 0 ≤ i) (h1 : i < (l.length : Int)) (hab : a ≠ b) (k : Nat) (hk : 1 ≤ k) : crossbarref14_Controls.f k a b l i = some (ctlS a b i) := by
  obtain ⟨k, rfl⟩ : ∃ k', k = k' + 1 := ⟨k - 1, by omega⟩
  unfold crossbarref14_Controls.f crossbarref14_Controls.j0 ctlS
  rw [if_neg (by omega)]
  dsimp only
  rw [if_neg (by simp; omega)]
  by_cases h : Int.tmod i 2 = 0
  · rw [if_pos h]
    by_cases hg : a > b <;> simp [h, hg]
  · rw [if_neg h]
    by_cases hg : a > b
    · have : ¬ a < b := by omega
      simp [h, hg, this]
    · have : a < b := by omega
      simp [h, hg, this]

theorem arrive_eq (a b : Int) (l : List S36) (i ref : Int) : trunk_Arrive.f a b l i ref = some (chgS a b l i ref (fun ctl c => arriveS ctl c ref)) := rfl
theorem refArrive_eq (a b : Int) (l : List S36) (i ref : Int) (hl : l.length ≤ 60) (k : Nat) (hk : 70 ≤ k) : crossbarref14_Arrive.f k a b l i ref = trunk_Arrive.f a b l i ref := by
  obtain ⟨k, rfl⟩ : ∃ k', k = k' + 2 := ⟨k - 2, by omega⟩
  rw [arrive_eq]
  unfold crossbarref14_Arrive.f crossbarref14_Arrive.j0 crossbarref14_Arrive.j1
  rw [checked_eq a b l i hl (k + 2) (by omega)]
  simp only [Option.bind_some, number_eq]
  by_cases hc : checkS a b l = 0 ∧ 0 ≤ i ∧ i < (l.length : Int)
  · obtain ⟨h, h0, h1⟩ := hc
    obtain ⟨hab, _, _, _⟩ := check_zero h
    have hi : ((i.toNat : Nat) : Int) = i := by omega
    rw [if_pos (show (if checkS a b l = 0 ∧ 0 ≤ i ∧ i < (l.length : Int) then (0 : Int) else 1) = 0 from if_pos ⟨h, h0, h1⟩)]
    by_cases hr : 1 ≤ ref ∧ ref ≤ 1099511627776
    · rw [chg_in h h0 h1 hr.1 hr.2, hi, if_pos (by simp [hr]), if_pos h0, if_pos h1]
      simp only [with_eq h0 h1 hl, refControls_eq h0 h1 hab (k + 1) (by omega), Option.bind_some]
      generalize rd_T36 l i = c
      obtain ⟨f0, f1, f2, f3⟩ := c
      dsimp only
      cases f2 <;> by_cases e2 : f0 = 2 <;> by_cases e3 : f0 = 3 <;> by_cases e1 : f0 = 1 <;> cases hct : ctlS a b i <;> simp [arriveS, e2, e3, e1, hct] <;> omega
    · rw [chg_out (fun q => hr q.2.2.2), if_neg (by simp; omega)]
  · rw [chg_out (fun q => hc ⟨q.1, q.2.1, q.2.2.1⟩), if_neg hc]
    simp
end Go.Proofs.Ythemnajgdoambaa.Th
