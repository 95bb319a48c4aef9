/- TrunkLifecycle: seizing, releasing and clearing a circuit restores the group. -/
import Derived.Test.YthemnajgdoambaaTrzTrunkLifecycle
import Derived.Test.YthemnajgdoambaaTh14
set_option linter.unusedVariables false
namespace Go.Proofs.Ythemnajgdoambaa.Pure
open Go.RowKit Go.Proofs.Ythemnajgdoambaa.Tr Go.Proofs.Ythemnajgdoambaa.Th Go.Proofs.YthemnajgdoambaaW.PrintWords Go.Proofs.YthemnajgdoambaaW.PrintLast

theorem TrunkLifecycle (a b : Int) (l : List S36) (i ref other : Int) (_ : (Lit.int .i64 a).wf = true) (_ : (Lit.int .i64 b).wf = true) (_ : ∀ x ∈ l, (Lit.int .i64 x.f0).wf = true ∧ (Lit.int .i64 x.f1).wf = true) (_ : (Lit.int .i64 i).wf = true) (_ : (Lit.int .i64 ref).wf = true) (_ : (Lit.int .i64 other).wf = true) :
    ∃ k, crossbarlaw14_TrunkLifecycle.f k a b l i ref other = some true := by
  refine ⟨100, ?_⟩
  unfold crossbarlaw14_TrunkLifecycle.f
  rw [sane_eq, few_eq]
  simp only [Option.bind_some, if_true]
  by_cases hf : (l.length : Int) ≤ 60
  · rw [if_pos (decide_eq_true hf), seize_eq]
    simp only [Option.bind_some]
    by_cases hin : checkS a b l = 0 ∧ 0 ≤ i ∧ i < (l.length : Int) ∧ 1 ≤ ref ∧ ref ≤ 1099511627776
    · obtain ⟨hk, h0, h1, h2, h3⟩ := hin
      obtain ⟨hab, _, _, hinv⟩ := check_zero hk
      have hi : ((i.toNat : Nat) : Int) = i := by omega
      have hin' : i.toNat < l.length := by omega
      have hvr := hinv _ (rd_mem h0 h1)
      generalize hr : rd_T36 l ((i.toNat : Nat) : Int) = r at hvr
      cases hav : av r
      · have e : chgS a b l i ref (fun _ c => seizeS c ref) = (0, 0, [], 0, 140) := by
          rw [chg_in hk h0 h1 h2 h3, hr]
          simp [seizeS, hav]
        rw [e]
        simp only
        rw [if_neg (by decide), same_refl 0 0 [] (by simp) 100 (by decide)]
        rfl
      · obtain ⟨r0, r1, r2, r3⟩ := r
        simp [av] at hav
        obtain ⟨⟨rfl, rfl⟩, rfl⟩ := hav
        obtain rfl : r1 = 0 := by simpa [inv] using hvr
        have v1 : inv ⟨1, ref, false, false⟩ = false := by simp [inv]; omega
        have v2 : inv ⟨3, ref, false, false⟩ = false := by simp [inv]; omega
        have k1 : checkS a b (l.set i.toNat ⟨1, ref, false, false⟩) = 0 := checkS_set hk v1
        have k2 : checkS a b (l.set i.toNat ⟨3, ref, false, false⟩) = 0 := checkS_set hk v2
        have q1 := rd_set (xs := l) hin' ⟨1, ref, false, false⟩
        have q2 := rd_set (xs := l) hin' ⟨3, ref, false, false⟩
        have g1 : i < ((l.set i.toNat ⟨1, ref, false, false⟩).length : Int) := by rw [List.length_set]; exact h1
        have g2 : i < ((l.set i.toNat ⟨3, ref, false, false⟩).length : Int) := by rw [List.length_set]; exact h1
        have e1 : chgS a b l i ref (fun _ c => seizeS c ref) = (a, b, l.set i.toNat ⟨1, ref, false, false⟩, 0, 0) := by
          rw [chg_in hk h0 h1 h2 h3, hr]; simp [seizeS, av]
        have e2 : chgS a b (l.set i.toNat ⟨1, ref, false, false⟩) i 1 (fun _ c => seizeS c 1) = (0, 0, [], 0, 140) := by
          rw [chg_in k1 h0 g1 (by decide) (by decide), q1]; simp [seizeS, av]
        have e3 : chgS a b (l.set i.toNat ⟨1, ref, false, false⟩) i 1 (fun _ c => releaseS c) = (a, b, l.set i.toNat ⟨3, ref, false, false⟩, 0, 0) := by
          rw [chg_in k1 h0 g1 (by decide) (by decide), q1]; simp [releaseS]
        have e4 : chgS a b (l.set i.toNat ⟨3, ref, false, false⟩) i 1 (fun _ c => seizeS c 1) = (0, 0, [], 0, 140) := by
          rw [chg_in k2 h0 g2 (by decide) (by decide), q2]; simp [seizeS, av]
        have e5 : chgS a b (l.set i.toNat ⟨3, ref, false, false⟩) i 1 (fun _ c => releaseS c) = (0, 0, [], 0, 140) := by
          rw [chg_in k2 h0 g2 (by decide) (by decide), q2]; simp [releaseS]
        have e6 : chgS a b (l.set i.toNat ⟨3, ref, false, false⟩) i 1 (fun _ c => clearS c) = (a, b, l, 0, 0) := by
          rw [chg_in k2 h0 g2 (by decide) (by decide), q2]
          have hc : clearS ⟨3, ref, false, false⟩ = some (⟨0, 0, false, false⟩, 0) := by simp [clearS]
          simp only [hc, List.set_set, set_same hin' hr]
        have e7 : chgS a b l i 1 (fun _ c => clearS c) = (0, 0, [], 0, 140) := by
          rw [chg_in hk h0 h1 (by decide) (by decide), hr]; simp [clearS]
        rw [e1]
        simp only [if_true]
        rw [seize_eq, release_eq, e2, e3]
        simp only [Option.bind_some]
        rw [seize_eq, release_eq, clear_eq, e4, e5, e6]
        simp only [Option.bind_some]
        rw [clear_eq, e7]
        simp only [Option.bind_some, if_true]
        rw [same_refl a b l (by omega) 100 (by decide), check_eq, k2]
        simp only [Option.bind_some, if_true]
        rw [but_set a b l i h0 _ (by omega) 100 (by decide)]
        simp
    · rw [chg_out hin]
      simp only
      rw [if_neg (by decide), same_refl 0 0 [] (by simp) 100 (by decide)]
      rfl
  · rw [if_neg (by simp; omega)]
end Go.Proofs.Ythemnajgdoambaa.Pure
