/- TrunkPickAvoidsGlare: exchanges with agreeing views pick different circuits where each has one under its control. -/
import Derived.Test.YthemnajgdoambaaTrzTrunkPickAvoidsGlare
import Derived.Test.YthemnajgdoambaaTh13
set_option linter.unusedVariables false
namespace Go.Proofs.Ythemnajgdoambaa.Pure
open Go.RowKit Go.Proofs.Ythemnajgdoambaa.Tr Go.Proofs.Ythemnajgdoambaa.Th Go.Proofs.YthemnajgdoambaaW.PrintWords Go.Proofs.YthemnajgdoambaaW.PrintLast

theorem pick_mine {a b : Int} {l : List S36} (h : ∃ j, j < l.length ∧ fwP a b l j = true) : ∃ c : Nat, pickS a b l = some (c : Int) ∧ c < l.length ∧ fwP a b l c = true := by
  obtain ⟨j, hj, hp⟩ := h
  unfold pickS
  cases hf : (List.range l.length).find? (fwP a b l) with
  | none => exact absurd hp (List.find?_eq_none.1 hf j (List.mem_range.2 hj))
  | some c => exact ⟨c, rfl, List.mem_range.1 (List.mem_of_find?_eq_some hf), List.find?_some hf⟩

theorem mine {a b : Int} {l : List S36} {i : Nat} (hA : (rd_T36 l (i : Int)).f0 = 0 → ¬ (rd_T36 l (i : Int)).f2 = true → ¬ (rd_T36 l (i : Int)).f3 = true → av (rd_T36 l (i : Int)) = true) (hi : i < l.length) (h0 : (rd_T36 l (i : Int)).f0 = 0) (h2 : ¬ (rd_T36 l (i : Int)).f2 = true) (h3 : ¬ (rd_T36 l (i : Int)).f3 = true) (h : ctlB a b l.length (i : Int) = true) : ∃ j, j < l.length ∧ fwP a b l j = true :=
  ⟨i, hi, by unfold fwP; rw [hA h0 h2 h3, h]; rfl⟩

theorem pg_loop (a b : Int) (l : List S36) (hab : a ≠ b) (hl : l.length ≤ 48) : ∀ (n i k : Nat) (x y : Bool), i + n = l.length → n + 1 ≤ k → (x = true → ∃ j, j < l.length ∧ fwP a b l j = true) → (y = true → ∃ j, j < l.length ∧ fwP b a l j = true) →
    crossbarlaw14_TrunkPickAvoidsGlare.l0 k x y l (l.length : Int) (i : Int) a b l b a l = some true
  | 0, i, k, x, y, hi, hk, hx, hy => by
    obtain ⟨k, rfl⟩ : ∃ k', k = k' + 1 := ⟨k - 1, by omega⟩
    unfold crossbarlaw14_TrunkPickAvoidsGlare.l0
    rw [if_neg (by omega), pick_eq (by omega), pick_eq (by omega)]
    simp only [Option.bind_some]
    cases x
    · simp
    · cases y
      · simp
      · obtain ⟨c, e1, _, p1⟩ := pick_mine (hx rfl)
        obtain ⟨d, e2, _, p2⟩ := pick_mine (hy rfl)
        rw [e1, e2]
        simp only [Option.getD_some, Option.isSome_some, if_true, ctlB_eq, Option.bind_some]
        simp only [fwP, Bool.and_eq_true] at p1 p2
        have hne : ¬ ((c : Int) = (d : Int)) := by
          intro e
          have q1 := p1.2
          have q2 := p2.2
          rw [← e] at q2
          simp only [ctlB, Bool.and_eq_true] at q1 q2
          rw [ctlS_swap hab, q1.2] at q2
          simp at q2
        rw [if_neg hne, p1.2, p2.2]
        simp
  | n + 1, i, k, x, y, hi, hk, hx, hy => by
    obtain ⟨k, rfl⟩ : ∃ k', k = k' + 1 := ⟨k - 1, by omega⟩
    unfold crossbarlaw14_TrunkPickAvoidsGlare.l0
    have ew : wrap64 ((i : Int) + 1) = ((i + 1 : Nat) : Int) := by unfold wrap64; omega
    have ih := fun x y hx hy => pg_loop a b l hab hl n (i + 1) k x y (by omega) (by omega) hx hy
    rw [if_pos (by omega), if_pos (by omega), if_pos (by omega)]
    simp only [ctlB_eq, Option.bind_some, ew]
    have hA : (rd_T36 l (i : Int)).f0 = 0 → ¬ (rd_T36 l (i : Int)).f2 = true → ¬ (rd_T36 l (i : Int)).f3 = true → av (rd_T36 l (i : Int)) = true := by
      intro h0 h2 h3
      simp [av, h0, h2, h3]
    repeat' split
    all_goals
      refine ih _ _ (fun h => ?_) (fun h => ?_)
      · first
        | exact hx h
        | exact hx (by assumption)
        | (exfalso; revert h; decide)
        | exact mine hA (by omega) (by assumption) (by assumption) (by assumption) h
      · first
        | exact hy h
        | exact hy (by assumption)
        | (exfalso; revert h; decide)
        | exact mine hA (by omega) (by assumption) (by assumption) (by assumption) h

theorem TrunkPickAvoidsGlare (a b : Int) (l : List S36) (_ : (Lit.int .i64 a).wf = true) (_ : (Lit.int .i64 b).wf = true) (_ : ∀ x ∈ l, (Lit.int .i64 x.f0).wf = true ∧ (Lit.int .i64 x.f1).wf = true) : ∃ k, crossbarlaw14_TrunkPickAvoidsGlare.f k a b l = some true := by
  refine ⟨100, ?_⟩
  unfold crossbarlaw14_TrunkPickAvoidsGlare.f
  rw [sane_eq, few_eq, check_eq]
  simp only [Option.bind_some, if_true]
  by_cases hf : (l.length : Int) ≤ 60
  · rw [if_pos (decide_eq_true hf)]
    rcases check_or a b l with hk | hk
    · obtain ⟨hab, h1, h2, _⟩ := check_zero hk
      rw [hk]
      unfold crossbarlaw14_TrunkPickAvoidsGlare.j0
      simp only [bne_self_eq_false, Bool.false_eq_true, if_false]
      exact pg_loop a b l hab h2 l.length 0 99 false false (by omega) (by omega) (by simp) (by simp)
    · rw [hk]
      unfold crossbarlaw14_TrunkPickAvoidsGlare.j0
      simp
  · rw [if_neg (by simp; omega)]
    unfold crossbarlaw14_TrunkPickAvoidsGlare.j0
    simp
end Go.Proofs.Ythemnajgdoambaa.Pure
