/- TrunkChangeSpec: the five changes are the reference's. -/
import Derived.Test.YthemnajgdoambaaTrzTrunkChangeSpec
import Derived.Test.YthemnajgdoambaaTh17
set_option linter.unusedVariables false
namespace Go.Proofs.Ythemnajgdoambaa.Pure
open Go.RowKit Go.Proofs.Ythemnajgdoambaa.Tr Go.Proofs.Ythemnajgdoambaa.Th Go.Proofs.YthemnajgdoambaaW.PrintWords Go.Proofs.YthemnajgdoambaaW.PrintLast

theorem TrunkChangeSpec (a b : Int) (l : List S36) (i ref : Int) (r o : Bool) (_ : (Lit.int .i64 a).wf = true) (_ : (Lit.int .i64 b).wf = true) (_ : ∀ x ∈ l, (Lit.int .i64 x.f0).wf = true ∧ (Lit.int .i64 x.f1).wf = true) (_ : (Lit.int .i64 i).wf = true) (_ : (Lit.int .i64 ref).wf = true) :
    ∃ k, crossbarlaw14_TrunkChangeSpec.f k a b l i ref r o = some true := by
  refine ⟨101, ?_⟩
  unfold crossbarlaw14_TrunkChangeSpec.f
  rw [sane_eq, few_eq]
  simp only [Option.bind_some, if_true]
  by_cases hf : (l.length : Int) ≤ 60
  · have hl : l.length ≤ 60 := by omega
    have sm : ∀ (x : Int × Int × List S36 × Int × Int) (k : Nat), x.2.2.1.length ≤ l.length → 63 ≤ k → crossbarref14_Same.f k x.1 x.2.1 x.2.2.1 x.1 x.2.1 x.2.2.1 = some true := fun x k hx hk => same_refl _ _ _ (by omega) k hk
    rw [if_pos (decide_eq_true hf), refSeize_eq a b l i ref hl 101 (by decide), refArrive_eq a b l i ref hl 101 (by decide), seize_eq, arrive_eq]
    simp only [Option.bind_some]
    rw [sm _ 101 (chg_len _ _ _ _ _ _) (by decide), sm _ 101 (chg_len _ _ _ _ _ _) (by decide)]
    simp only [Option.bind_some, if_true]
    unfold crossbarlaw14_TrunkChangeSpec.j0
    simp only [bne_self_eq_false, Bool.false_eq_true, if_false]
    rw [refRelease_eq a b l i hl 100 (by decide), refClear_eq a b l i hl 100 (by decide), refBlock_eq a b l i r o hl 100 (by decide), release_eq, clear_eq, block_eq]
    simp only [Option.bind_some]
    rw [sm _ 100 (chg_len _ _ _ _ _ _) (by decide), sm _ 100 (chg_len _ _ _ _ _ _) (by decide), sm _ 100 (chg_len _ _ _ _ _ _) (by decide)]
    simp
  · rw [if_neg (by simp; omega)]
end Go.Proofs.Ythemnajgdoambaa.Pure
