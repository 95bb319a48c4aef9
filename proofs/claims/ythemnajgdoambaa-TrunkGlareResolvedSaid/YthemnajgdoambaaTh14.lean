/-
  The reference's comparisons of groups, and release and clear as equations.
-/
import Derived.Test.YthemnajgdoambaaTd
import Derived.Test.YthemnajgdoambaaTh13
namespace Go.Proofs.Ythemnajgdoambaa.Th
open Go.RowKit Go.Proofs.YthemnajgdoambaaW.PrintWords Go.Proofs.YthemnajgdoambaaW.PrintLast Go.Proofs.YthemnajgdoambaaW.PrintMore Go.Proofs.Ythemnajgdoambaa.Tr
set_option linter.unusedVariables false
set_option linter.unusedSimpArgs false

theorem same_loop (a b : Int) (l : List S36) (hl : l.length ≤ 60) : ∀ (n i k : Nat), i + n = l.length → n + 1 ≤ k → crossbarref14_Same.l0 k (l.length : Int) (i : Int) a b l a b l = some true
  | 0, i, k, hi, hk => by
    obtain ⟨k, rfl⟩ : ∃ k', k = k' + 1 := ⟨k - 1, by omega⟩
    unfold crossbarref14_Same.l0
    rw [if_neg (by omega)]
  | n + 1, i, k, hi, hk => by
    obtain ⟨k, rfl⟩ : ∃ k', k = k' + 1 := ⟨k - 1, by omega⟩
    unfold crossbarref14_Same.l0
    have ew : wrap64 ((i : Int) + 1) = ((i + 1 : Nat) : Int) := by unfold wrap64; omega
    rw [if_pos (by omega), if_pos (by omega), if_pos (by omega), if_pos (by omega), if_neg (by simp), ew]
    exact same_loop a b l hl n (i + 1) k (by omega) (by omega)
theorem same_refl (a b : Int) (l : List S36) (hl : l.length ≤ 60) (k : Nat) (hk : 63 ≤ k) : crossbarref14_Same.f k a b l a b l = some true := by
  obtain ⟨k, rfl⟩ : ∃ k', k = k' + 1 := ⟨k - 1, by omega⟩
  unfold crossbarref14_Same.f crossbarref14_Same.j0
  rw [if_pos rfl, if_pos rfl]
  dsimp only
  rw [if_neg (by simp)]
  exact same_loop a b l hl l.length 0 k (by omega) (by omega)

theorem rd_set_ne {l : List S36} {i j : Nat} {c : S36} (h : i ≠ j) : rd_T36 (l.set i c) (j : Int) = rd_T36 l (j : Int) := by
  unfold rd_T36
  rw [Int.toNat_natCast, List.getD_eq_getElem?_getD, List.getD_eq_getElem?_getD, List.getElem?_set_ne h]

theorem but_loop (a b : Int) (l : List S36) (x : Int) (h0 : 0 ≤ x) (c : S36) (hl : l.length ≤ 60) : ∀ (n i k : Nat), i + n = l.length → n + 1 ≤ k → crossbarref14_SameBut.l0 k x (l.length : Int) (i : Int) a b (l.set x.toNat c) a b l = some true
  | 0, i, k, hi, hk => by
    obtain ⟨k, rfl⟩ : ∃ k', k = k' + 1 := ⟨k - 1, by omega⟩
    unfold crossbarref14_SameBut.l0
    rw [if_neg (by omega)]
  | n + 1, i, k, hi, hk => by
    obtain ⟨k, rfl⟩ : ∃ k', k = k' + 1 := ⟨k - 1, by omega⟩
    unfold crossbarref14_SameBut.l0
    have ew : wrap64 ((i : Int) + 1) = ((i + 1 : Nat) : Int) := by unfold wrap64; omega
    have ih := but_loop a b l x h0 c hl n (i + 1) k (by omega) (by omega)
    rw [if_pos (by omega), ew, List.length_set]
    by_cases hx : (i : Int) = x
    · rw [if_pos hx]; exact ih
    · rw [if_neg hx, if_pos (by omega), if_pos (by omega), if_pos (by omega), rd_set_ne (by omega), if_neg (by simp)]
      exact ih
theorem but_set (a b : Int) (l : List S36) (x : Int) (h0 : 0 ≤ x) (c : S36) (hl : l.length ≤ 60) (k : Nat) (hk : 63 ≤ k) : crossbarref14_SameBut.f k a b (l.set x.toNat c) a b l x = some true := by
  obtain ⟨k, rfl⟩ : ∃ k', k = k' + 1 := ⟨k - 1, by omega⟩
  unfold crossbarref14_SameBut.f crossbarref14_SameBut.j0
  rw [if_pos rfl, if_pos rfl, List.length_set]
  dsimp only
  rw [if_neg (by simp), List.length_set]
  exact but_loop a b l x h0 c hl l.length 0 k (by omega) (by omega)

theorem release_eq (a b : Int) (l : List S36) (i : Int) : trunk_Release.f a b l i = some ((chgS a b l i 1 (fun _ c => releaseS c)).1, (chgS a b l i 1 (fun _ c => releaseS c)).2.1, (chgS a b l i 1 (fun _ c => releaseS c)).2.2.1, (chgS a b l i 1 (fun _ c => releaseS c)).2.2.2.2) := rfl
theorem clear_eq (a b : Int) (l : List S36) (i : Int) : trunk_Clear.f a b l i = some ((chgS a b l i 1 (fun _ c => clearS c)).1, (chgS a b l i 1 (fun _ c => clearS c)).2.1, (chgS a b l i 1 (fun _ c => clearS c)).2.2.1, (chgS a b l i 1 (fun _ c => clearS c)).2.2.2.2) := rfl
theorem set_same {l : List S36} {i : Nat} (h : i < l.length) {c : S36} (hc : rd_T36 l (i : Int) = c) : l.set i c = l := by
  rw [← hc, rd_in h]
  exact List.set_getElem_self h
end Go.Proofs.Ythemnajgdoambaa.Th
