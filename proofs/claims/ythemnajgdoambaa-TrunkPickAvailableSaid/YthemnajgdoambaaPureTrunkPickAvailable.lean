/- TrunkPickAvailable: Pick finds a circuit of a valid group if and only if one can be seized; the one that it finds can be seized. -/
import Derived.Test.YthemnajgdoambaaTrzTrunkPickAvailable
import Derived.Test.YthemnajgdoambaaTh13
set_option linter.unusedVariables false
namespace Go.Proofs.Ythemnajgdoambaa.Pure
open Go.RowKit Go.Proofs.Ythemnajgdoambaa.Tr Go.Proofs.Ythemnajgdoambaa.Th Go.Proofs.YthemnajgdoambaaW.PrintWords Go.Proofs.YthemnajgdoambaaW.PrintLast

theorem pa_loop (a b : Int) (l : List S36) (hk : checkS a b l = 0) (hl : l.length ≤ 48) : ∀ (n i k : Nat) (x : Bool), i + n = l.length → n + 1 ≤ k → (x = true → ∃ j, j < l.length ∧ av (rd_T36 l (j : Int)) = true) →
    crossbarlaw14_TrunkPickAvailable.l0 k x (l.length : Int) (i : Int) a b l = some true
  | 0, i, k, x, hi, hn, hx => by
    obtain ⟨k, rfl⟩ : ∃ k', k = k' + 1 := ⟨k - 1, by omega⟩
    obtain rfl : i = l.length := by omega
    unfold crossbarlaw14_TrunkPickAvailable.l0
    rw [if_neg (by omega), pick_eq (by omega)]
    simp only [Option.bind_some]
    cases hp : pickS a b l with
    | none =>
      have hx' : x = false := by
        cases x
        · rfl
        · obtain ⟨j, hj, ha⟩ := hx rfl
          rw [pick_none hp hj] at ha
          simp at ha
      subst hx'
      simp
    | some c =>
      obtain ⟨h0, h1, ha⟩ := pick_some hp
      have hc : ((c.toNat : Nat) : Int) = c := by omega
      have e : chgS a b l c 1 (fun _ c => seizeS c 1) = (a, b, l.set c.toNat ⟨1, 1, (rd_T36 l c).f2, (rd_T36 l c).f3⟩, 0, 0) := by
        rw [chg_in hk h0 h1 (by decide) (by decide), hc]
        simp [seizeS, ha]
      simp only [Option.isSome_some, if_true, Option.getD_some]
      rw [seize_eq, e]
      simp only [Option.bind_some, if_true]
      rw [check_eq, checkS_set hk (by rfl)]
      have hr : (rd_T36 (l.set c.toNat ⟨1, 1, (rd_T36 l c).f2, (rd_T36 l c).f3⟩) c).f0 = 1 := by
        have := rd_set (xs := l) (i := c.toNat) (by omega) ⟨1, 1, (rd_T36 l c).f2, (rd_T36 l c).f3⟩
        rw [hc] at this
        rw [this]
      simp only [Option.bind_some, if_true, List.length_set, if_pos h1, if_pos h0, hr]
      rfl
  | n + 1, i, k, x, hi, hn, hx => by
    obtain ⟨k, rfl⟩ : ∃ k', k = k' + 1 := ⟨k - 1, by omega⟩
    unfold crossbarlaw14_TrunkPickAvailable.l0
    rw [if_pos (by omega), seize_eq]
    simp only [Option.bind_some]
    have ew : wrap64 ((i : Int) + 1) = ((i + 1 : Nat) : Int) := by unfold wrap64; omega
    rw [ew]
    have ih := fun y hy => pa_loop a b l hk hl n (i + 1) k y (by omega) (by omega) hy
    cases x with
    | true => rw [if_pos rfl]; exact ih true hx
    | false =>
      rw [if_neg (by simp)]
      refine ih _ (fun h => ⟨i, by omega, ?_⟩)
      rw [chg_in hk (by omega) (by omega) (by decide) (by decide), Int.toNat_natCast] at h
      cases ha : av (rd_T36 l (i : Int))
      · simp [seizeS, ha] at h
      · rfl

theorem TrunkPickAvailable (a b : Int) (l : List S36) (_ : (Lit.int .i64 a).wf = true) (_ : (Lit.int .i64 b).wf = true) (_ : ∀ x ∈ l, (Lit.int .i64 x.f0).wf = true ∧ (Lit.int .i64 x.f1).wf = true) : ∃ k, crossbarlaw14_TrunkPickAvailable.f k a b l = some true := by
  refine ⟨100, ?_⟩
  unfold crossbarlaw14_TrunkPickAvailable.f
  rw [sane_eq, few_eq, check_eq]
  simp only [Option.bind_some, if_true]
  by_cases hf : (l.length : Int) ≤ 60
  · rw [if_pos (decide_eq_true hf)]
    rcases check_or a b l with hk | hk
    · obtain ⟨hab, h1, h2, _⟩ := check_zero hk
      rw [hk]
      unfold crossbarlaw14_TrunkPickAvailable.j0
      simp only [bne_self_eq_false, Bool.false_eq_true, if_false]
      exact pa_loop a b l hk h2 l.length 0 99 false (by omega) (by omega) (by simp)
    · rw [hk]
      unfold crossbarlaw14_TrunkPickAvailable.j0
      simp
  · rw [if_neg (by simp; omega)]
    unfold crossbarlaw14_TrunkPickAvailable.j0
    simp
end Go.Proofs.Ythemnajgdoambaa.Pure
