/-
  What all trunk laws' pure parts share.
-/
import Derived.Test.YthemnajgdoambaaTc
import Derived.Test.YthemnajgdoambaaTh11
namespace Go.Proofs.Ythemnajgdoambaa.Th
open Go.RowKit Go.Proofs.YthemnajgdoambaaW.PrintWords Go.Proofs.YthemnajgdoambaaW.PrintLast Go.Proofs.YthemnajgdoambaaW.PrintMore Go.Proofs.Ythemnajgdoambaa.Tr
set_option linter.unusedVariables false
set_option linter.unusedSimpArgs false

set_option maxRecDepth 100000 in
theorem sane_eq : crossbarlaw14_sane.f = some true := by decide +kernel

theorem few_eq (a b : Int) (l : List S36) : crossbarlaw14_few.f a b l = some (decide ((l.length : Int) ≤ 60)) := rfl
theorem check_eq (a b : Int) (l : List S36) : trunk_Check.f a b l = some (checkS a b l) := rfl
theorem controls_out {a b i : Int} {l : List S36} (hl : l.length ≤ 48) (h : i < 0 ∨ (l.length : Int) ≤ i) : trunk_Controls.f a b l i = some false := by
  unfold trunk_Controls.f
  rw [within_eq, w64_len hl]
  have e : (decide (0 ≤ i) && decide (i ≤ (l.length : Int) - 1)) = false := by simp; omega
  rw [e]
  simp
theorem ctlS_swap {a b i : Int} (h : a ≠ b) : ctlS b a i = !ctlS a b i := by
  unfold ctlS
  by_cases h1 : a > b
  · have h2 : ¬ b > a := by omega
    simp [h1, h2]
  · have h2 : b > a := by omega
    simp [h1, h2]

theorem rd_in {l : List S36} {i : Nat} (h : i < l.length) : rd_T36 l (i : Int) = l[i] := by
  unfold rd_T36
  rw [Int.toNat_natCast, List.getD_eq_getElem?_getD, List.getElem?_eq_getElem h]
  rfl
theorem checkS_set {a b : Int} {l : List S36} {i : Nat} {c : S36} (h : checkS a b l = 0) (hc : inv c = false) : checkS a b (l.set i c) = 0 := by
  unfold checkS at h ⊢
  split at h
  · rename_i hs
    rw [if_pos]
    simp only [Bool.and_eq_true, List.all_eq_true, Bool.not_eq_true', List.length_set] at hs ⊢
    refine ⟨hs.1, fun x hx => ?_⟩
    rcases List.mem_or_eq_of_mem_set hx with h | h
    · exact hs.2 x h
    · rw [h]; exact hc
  · simp at h
theorem chg_in {a b i ref : Int} {l : List S36} {m : Bool → S36 → Option (S36 × Int)} (hk : checkS a b l = 0) (h0 : 0 ≤ i) (h1 : i < (l.length : Int)) (h2 : 1 ≤ ref) (h3 : ref ≤ 1099511627776) :
    chgS a b l i ref m = match m (ctlS a b i) (rd_T36 l i.toNat) with
      | some (c, vd) => (a, b, l.set i.toNat c, vd, 0)
      | none => (0, 0, [], 0, 140) := by
  unfold chgS
  rw [if_pos ⟨hk, h0, h1, h2, h3⟩]
  cases m (ctlS a b i) (rd_T36 l i.toNat) <;> rfl
theorem chg_out {a b i ref : Int} {l : List S36} {m : Bool → S36 → Option (S36 × Int)} (h : ¬ (checkS a b l = 0 ∧ 0 ≤ i ∧ i < (l.length : Int) ∧ 1 ≤ ref ∧ ref ≤ 1099511627776)) :
    chgS a b l i ref m = (0, 0, [], 0, 1) := by
  unfold chgS
  rw [if_neg h]

theorem dn_mem {l : List S36} {x : Int × S36} : ∀ {k : Nat}, x ∈ dn l k → ∃ j : Nat, j < k ∧ x = ((j : Int), rd_T36 l (j : Int))
  | 0, h => by simp [dn] at h
  | k + 1, h => by
    simp only [dn, List.mem_cons] at h
    rcases h with rfl | h
    · exact ⟨k, by omega, rfl⟩
    · obtain ⟨j, hj, e⟩ := dn_mem h
      exact ⟨j, by omega, e⟩
theorem dn_has (l : List S36) : ∀ {k j : Nat}, j < k → ((j : Int), rd_T36 l (j : Int)) ∈ dn l k
  | k + 1, j, h => by
    simp only [dn, List.mem_cons]
    by_cases e : j = k
    · subst e; exact .inl rfl
    · exact .inr (dn_has l (by omega))
theorem pick_some {a b c : Int} {l : List S36} (h : pickS a b l = some c) : 0 ≤ c ∧ c < l.length ∧ av (rd_T36 l c) = true := by
  unfold pickS at h
  split at h
  · rename_i j hj
    have hp := List.find?_some hj
    have hm := List.mem_of_find?_eq_some hj
    simp only [Option.some.injEq] at h
    subst h
    simp [fwP] at hp
    rw [List.mem_range] at hm
    exact ⟨by omega, by omega, hp.1⟩
  · simp only [Option.map_eq_some_iff] at h
    obtain ⟨x, hx, rfl⟩ := h
    have hp := List.find?_some hx
    obtain ⟨j, hj, rfl⟩ := dn_mem (List.mem_of_find?_eq_some hx)
    simp [bwP] at hp
    exact ⟨by omega, by omega, hp.1⟩
theorem pick_none {a b : Int} {l : List S36} (h : pickS a b l = none) {j : Nat} (hj : j < l.length) : av (rd_T36 l (j : Int)) = false := by
  unfold pickS at h
  split at h
  · simp at h
  · rename_i hf
    simp only [Option.map_eq_none_iff] at h
    have h1 := List.find?_eq_none.1 hf j (List.mem_range.2 hj)
    have h2 := List.find?_eq_none.1 h _ (dn_has l hj)
    simp [fwP] at h1
    simp [bwP] at h2
    cases hv : av (rd_T36 l (j : Int))
    · rfl
    · simp [h1 hv] at h2
      exact absurd hv (by simp [h2])
theorem seize_eq (a b : Int) (l : List S36) (i ref : Int) : trunk_Seize.f a b l i ref = some ((chgS a b l i ref (fun _ c => seizeS c ref)).1, (chgS a b l i ref (fun _ c => seizeS c ref)).2.1, (chgS a b l i ref (fun _ c => seizeS c ref)).2.2.1, (chgS a b l i ref (fun _ c => seizeS c ref)).2.2.2.2) := rfl
theorem pick_eq {a b : Int} {l : List S36} (hl : l.length ≤ 60) : trunk_Pick.f a b l = some ((pickS a b l).getD 0, (pickS a b l).isSome) := by
  unfold trunk_Pick.f
  rw [if_pos hl]
end Go.Proofs.Ythemnajgdoambaa.Th
