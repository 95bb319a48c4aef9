/-
  The reference's changes are trunk's.
-/
import Derived.Test.YthemnajgdoambaaTf
import Derived.Test.YthemnajgdoambaaTh15
namespace Go.Proofs.Ythemnajgdoambaa.Th
open Go.RowKit Go.Proofs.YthemnajgdoambaaW.PrintWords Go.Proofs.YthemnajgdoambaaW.PrintLast Go.Proofs.YthemnajgdoambaaW.PrintMore Go.Proofs.Ythemnajgdoambaa.Tr
set_option linter.unusedVariables false
set_option linter.unusedSimpArgs false

theorem checked_eq (a b : Int) (l : List S36) (i : Int) (hl : l.length ≤ 60) (k : Nat) (hk : 63 ≤ k) : crossbarref14_checked.f k a b l i = some (if checkS a b l = 0 ∧ 0 ≤ i ∧ i < (l.length : Int) then 0 else 1) := by
  unfold crossbarref14_checked.f
  rw [refCheck_eq a b l hl k hk]
  simp only [Option.bind_some]
  rcases check_or a b l with h | h
  · rw [h]
    by_cases h0 : i < 0
    · rw [if_pos rfl, if_pos h0, if_neg (by omega)]
    · by_cases h1 : i ≥ (l.length : Int)
      · rw [if_pos rfl, if_neg h0, if_pos h1, if_neg (by omega)]
      · rw [if_pos rfl, if_neg h0, if_neg h1, if_pos ⟨rfl, by omega, by omega⟩]
  · rw [h]
    simp
theorem with_eq {a b : Int} {l : List S36} {i x y : Int} {u v : Bool} (h0 : 0 ≤ i) (h1 : i < (l.length : Int)) (hl : l.length ≤ 60) : crossbarref14_with.f a b l i x y u v = some (a, b, l.set i.toNat ⟨x, y, u, v⟩) := by
  unfold crossbarref14_with.f
  rw [if_pos ⟨h0, h1, by omega⟩]
theorem avail_eq (c : S36) : crossbarref14_Available.f c.f0 c.f1 c.f2 c.f3 = some (av c) := by
  unfold crossbarref14_Available.f av
  by_cases h : c.f0 = 0 <;> cases h2 : c.f2 <;> simp [h]

theorem refSeize_eq (a b : Int) (l : List S36) (i ref : Int) (hl : l.length ≤ 60) (k : Nat) (hk : 63 ≤ k) : crossbarref14_Seize.f k a b l i ref = trunk_Seize.f a b l i ref := by
  rw [seize_eq]
  unfold crossbarref14_Seize.f
  rw [checked_eq a b l i hl k hk]
  simp only [Option.bind_some, number_eq, avail_eq]
  by_cases hc : checkS a b l = 0 ∧ 0 ≤ i ∧ i < (l.length : Int)
  · obtain ⟨h, h0, h1⟩ := hc
    have hi : ((i.toNat : Nat) : Int) = i := by omega
    rw [if_pos (show (if checkS a b l = 0 ∧ 0 ≤ i ∧ i < (l.length : Int) then (0 : Int) else 1) = 0 from if_pos ⟨h, h0, h1⟩)]
    by_cases hr : 1 ≤ ref ∧ ref ≤ 1099511627776
    · rw [chg_in h h0 h1 hr.1 hr.2, hi, if_pos (by simp [hr]), if_pos h0, if_pos h1, with_eq h0 h1 hl]
      cases hav : av (rd_T36 l i) <;> simp [seizeS, hav]
    · rw [chg_out (fun q => hr q.2.2.2), if_neg (by simp; omega)]
  · rw [chg_out (fun q => hc ⟨q.1, q.2.1, q.2.2.1⟩), if_neg hc]
    simp
theorem refRelease_eq (a b : Int) (l : List S36) (i : Int) (hl : l.length ≤ 60) (k : Nat) (hk : 63 ≤ k) : crossbarref14_Release.f k a b l i = trunk_Release.f a b l i := by
  rw [release_eq]
  unfold crossbarref14_Release.f
  rw [checked_eq a b l i hl k hk]
  simp only [Option.bind_some]
  by_cases hc : checkS a b l = 0 ∧ 0 ≤ i ∧ i < (l.length : Int)
  · obtain ⟨h, h0, h1⟩ := hc
    have hi : ((i.toNat : Nat) : Int) = i := by omega
    rw [if_pos (show (if checkS a b l = 0 ∧ 0 ≤ i ∧ i < (l.length : Int) then (0 : Int) else 1) = 0 from if_pos ⟨h, h0, h1⟩), chg_in h h0 h1 (by decide) (by decide), hi, if_pos h0, if_pos h1, with_eq h0 h1 hl]
    by_cases e1 : (rd_T36 l i).f0 = 1 <;> by_cases e2 : (rd_T36 l i).f0 = 2 <;> simp [releaseS, e1, e2]
  · rw [chg_out (fun q => hc ⟨q.1, q.2.1, q.2.2.1⟩), if_neg hc]
    simp
theorem refClear_eq (a b : Int) (l : List S36) (i : Int) (hl : l.length ≤ 60) (k : Nat) (hk : 63 ≤ k) : crossbarref14_Clear.f k a b l i = trunk_Clear.f a b l i := by
  rw [clear_eq]
  unfold crossbarref14_Clear.f
  rw [checked_eq a b l i hl k hk]
  simp only [Option.bind_some]
  by_cases hc : checkS a b l = 0 ∧ 0 ≤ i ∧ i < (l.length : Int)
  · obtain ⟨h, h0, h1⟩ := hc
    have hi : ((i.toNat : Nat) : Int) = i := by omega
    rw [if_pos (show (if checkS a b l = 0 ∧ 0 ≤ i ∧ i < (l.length : Int) then (0 : Int) else 1) = 0 from if_pos ⟨h, h0, h1⟩), chg_in h h0 h1 (by decide) (by decide), hi, if_pos h0, if_pos h1, with_eq h0 h1 hl]
    by_cases e1 : (rd_T36 l i).f0 = 0 <;> simp [clearS, e1]
  · rw [chg_out (fun q => hc ⟨q.1, q.2.1, q.2.2.1⟩), if_neg hc]
    simp
theorem block_eq (a b : Int) (l : List S36) (i : Int) (r o : Bool) : trunk_Block.f a b l i r o = some ((chgS a b l i 1 (fun _ c => blockS r o c)).1, (chgS a b l i 1 (fun _ c => blockS r o c)).2.1, (chgS a b l i 1 (fun _ c => blockS r o c)).2.2.1, (chgS a b l i 1 (fun _ c => blockS r o c)).2.2.2.2) := rfl
theorem refBlock_eq (a b : Int) (l : List S36) (i : Int) (r o : Bool) (hl : l.length ≤ 60) (k : Nat) (hk : 63 ≤ k) : crossbarref14_Block.f k a b l i r o = trunk_Block.f a b l i r o := by
  rw [block_eq]
  unfold crossbarref14_Block.f
  rw [checked_eq a b l i hl k hk]
  simp only [Option.bind_some]
  by_cases hc : checkS a b l = 0 ∧ 0 ≤ i ∧ i < (l.length : Int)
  · obtain ⟨h, h0, h1⟩ := hc
    have hi : ((i.toNat : Nat) : Int) = i := by omega
    rw [if_pos (show (if checkS a b l = 0 ∧ 0 ≤ i ∧ i < (l.length : Int) then (0 : Int) else 1) = 0 from if_pos ⟨h, h0, h1⟩), chg_in h h0 h1 (by decide) (by decide), hi, if_pos h0, if_pos h1, with_eq h0 h1 hl, with_eq h0 h1 hl]
    cases r <;> simp [blockS]
  · rw [chg_out (fun q => hc ⟨q.1, q.2.1, q.2.2.1⟩), if_neg hc]
    simp
theorem chg_len (a b : Int) (l : List S36) (i ref : Int) (m : Bool → S36 → Option (S36 × Int)) : (chgS a b l i ref m).2.2.1.length ≤ l.length := by
  unfold chgS
  split
  · split <;> simp
  · simp
end Go.Proofs.Ythemnajgdoambaa.Th
