/- TrunkControlExclusive: each circuit of a valid group is controlled by exactly one of its two ends. -/
import Derived.Test.YthemnajgdoambaaTrzTrunkControlExclusive
import Derived.Test.YthemnajgdoambaaTh13
set_option linter.unusedVariables false
namespace Go.Proofs.Ythemnajgdoambaa.Pure
open Go.RowKit Go.Proofs.Ythemnajgdoambaa.Tr Go.Proofs.Ythemnajgdoambaa.Th Go.Proofs.YthemnajgdoambaaW.PrintWords Go.Proofs.YthemnajgdoambaaW.PrintLast

theorem TrunkControlExclusive (a b : Int) (l : List S36) (i : Int) (_ : (Lit.int .i64 a).wf = true) (_ : (Lit.int .i64 b).wf = true) (_ : ∀ x ∈ l, (Lit.int .i64 x.f0).wf = true ∧ (Lit.int .i64 x.f1).wf = true) (_ : (Lit.int .i64 i).wf = true) : ∃ k, crossbarlaw14_TrunkControlExclusive.f k a b l i = some true := by
  refine ⟨5, ?_⟩
  unfold crossbarlaw14_TrunkControlExclusive.f
  rw [sane_eq, few_eq, check_eq]
  simp only [Option.bind_some, if_true]
  by_cases hf : (l.length : Int) ≤ 60
  · rw [if_pos (decide_eq_true hf)]
    rcases check_or a b l with hk | hk
    · obtain ⟨hab, h1, h2, _⟩ := check_zero hk
      rw [hk]
      unfold crossbarlaw14_TrunkControlExclusive.j0 crossbarlaw14_TrunkControlExclusive.j1
      simp only [bne_self_eq_false, Bool.false_eq_true, if_false]
      by_cases h0 : i < 0
      · rw [if_pos h0, controls_out h2 (.inl h0), controls_out h2 (.inl h0)]
        simp
      · rw [if_neg h0]
        by_cases h3 : i ≥ (l.length : Int)
        · rw [controls_out h2 (.inr h3), controls_out h2 (.inr h3)]
          simp [h3]
        · rw [controls_eq hab h2 (by omega) (by omega), controls_eq (Ne.symm hab) h2 (by omega) (by omega), ctlS_swap hab]
          simp [h3]
    · rw [hk]
      unfold crossbarlaw14_TrunkControlExclusive.j0
      simp
  · rw [if_neg (by simp; omega)]
    unfold crossbarlaw14_TrunkControlExclusive.j0
    simp
end Go.Proofs.Ythemnajgdoambaa.Pure
