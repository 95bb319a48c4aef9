-- Written by a program of this session (wip/tools/surro2.py) that calls the kit's printer.
import Derived.Test.YthemnajgdoambaaTr0
import Derived.Test.YthemnajgdoambaaTrh0
import Derived.Test.YthemnajgdoambaaTh11
namespace Go.Proofs.Ythemnajgdoambaa.Tr
open Go.RowKit Go.Proofs.YthemnajgdoambaaW.PrintWords Go.Proofs.YthemnajgdoambaaW.PrintLast Go.Proofs.YthemnajgdoambaaW.PrintMore
attribute [local go_sem] max2_int min2_int max_two min_two max_three min_three max_four min_four   -- for this text's walks alone
set_option linter.unusedVariables false
set_option linter.unusedSimpArgs false
attribute [local go_sem high] eqA36


/-! ### trunk_Seize: function 13 -/
def trunk_Seize.f (a0_0 : Int) (a0_1 : Int) (l0_2 : List (S36)) (a1 : Int) (a2 : Int) : Option (Int × Int × (List (S36)) × Int) := some ((Th.chgS a0_0 a0_1 l0_2 a1 a2 (fun _ c => Th.seizeS c a2)).1, (Th.chgS a0_0 a0_1 l0_2 a1 a2 (fun _ c => Th.seizeS c a2)).2.1, (Th.chgS a0_0 a0_1 l0_2 a1 a2 (fun _ c => Th.seizeS c a2)).2.2.1, (Th.chgS a0_0 a0_1 l0_2 a1 a2 (fun _ c => Th.seizeS c a2)).2.2.2.2)
set_option maxHeartbeats 8000000 in
set_option maxRecDepth 100000 in
theorem trunk_Seize.calls (a0_0 : Int) (a0_1 : Int) (A0_2 : Option Addr) (c0_2 : Nat) (l0_2 : List (S36)) (a1 : Int) (a2 : Int) (r1 : Int) (r2 : Int) (r3 : List (S36)) (r4 : Int) (w : World) (hr0_2 : Kd.C k36 w A0_2 l0_2.length l0_2) (hc0_2 : l0_2.length ≤ c0_2) (h : trunk_Seize.f a0_0 a0_1 l0_2 a1 a2 = some (r1, r2, r3, r4)) :
    Calls Try.prog 13 #[.agg #[.int .i64 a0_0, .int .i64 a0_1, .slice A0_2 l0_2.length c0_2], .int .i64 a1, .int .i64 a2] w fun e w' => ∃ v2_ : Value, e = .returned (.tuple #[.agg #[.int .i64 r1, .int .i64 r2, v2_], .int .i64 r4]) ∧ Kd.R k36 36 w' w.heap.size (fun _ => True) v2_ r3 ∧ Below w.heap.size w w' := by
  simp only [trunk_Seize.f, Option.some.injEq, Prod.mk.injEq] at h
  obtain ⟨rfl, rfl, rfl, rfl⟩ := h
  exact Th.seize_calls a0_0 a0_1 A0_2 c0_2 l0_2 a1 a2 _ _ _ _ _ w hr0_2 hc0_2 rfl

/-! ### trunk_Arrive: function 15 -/
def trunk_Arrive.f (a0_0 : Int) (a0_1 : Int) (l0_2 : List (S36)) (a1 : Int) (a2 : Int) : Option (Int × Int × (List (S36)) × Int × Int) := some (Th.chgS a0_0 a0_1 l0_2 a1 a2 (fun ctl c => Th.arriveS ctl c a2))
set_option maxHeartbeats 8000000 in
set_option maxRecDepth 100000 in
theorem trunk_Arrive.calls (a0_0 : Int) (a0_1 : Int) (A0_2 : Option Addr) (c0_2 : Nat) (l0_2 : List (S36)) (a1 : Int) (a2 : Int) (r1 : Int) (r2 : Int) (r3 : List (S36)) (r4 : Int) (r5 : Int) (w : World) (hr0_2 : Kd.C k36 w A0_2 l0_2.length l0_2) (hc0_2 : l0_2.length ≤ c0_2) (h : trunk_Arrive.f a0_0 a0_1 l0_2 a1 a2 = some (r1, r2, r3, r4, r5)) :
    Calls Try.prog 15 #[.agg #[.int .i64 a0_0, .int .i64 a0_1, .slice A0_2 l0_2.length c0_2], .int .i64 a1, .int .i64 a2] w fun e w' => ∃ v2_ : Value, e = .returned (.tuple #[.agg #[.int .i64 r1, .int .i64 r2, v2_], .int .i64 r4, .int .i64 r5]) ∧ Kd.R k36 36 w' w.heap.size (fun _ => True) v2_ r3 ∧ Below w.heap.size w w' := by
  exact Th.arrive_calls a0_0 a0_1 A0_2 c0_2 l0_2 a1 a2 _ _ _ _ _ w hr0_2 hc0_2 (Option.some.inj h)

/-! ### trunk_Pick: function 24 -/
def trunk_Pick.f (a0_0 : Int) (a0_1 : Int) (l0_2 : List (S36)) : Option (Int × Bool) := if l0_2.length ≤ 60 then some ((Th.pickS a0_0 a0_1 l0_2).getD 0, (Th.pickS a0_0 a0_1 l0_2).isSome) else none
set_option maxHeartbeats 8000000 in
set_option maxRecDepth 100000 in
theorem trunk_Pick.calls (a0_0 : Int) (a0_1 : Int) (A0_2 : Option Addr) (c0_2 : Nat) (l0_2 : List (S36)) (r1 : Int) (r2 : Bool) (w : World) (hr0_2 : Kd.C k36 w A0_2 l0_2.length l0_2) (hc0_2 : l0_2.length ≤ c0_2) (h : trunk_Pick.f a0_0 a0_1 l0_2 = some (r1, r2)) :
    Calls Try.prog 24 #[.agg #[.int .i64 a0_0, .int .i64 a0_1, .slice A0_2 l0_2.length c0_2]] w fun e w' => e = .returned (.tuple #[.int .i64 r1, .bool r2]) ∧ Below w.heap.size w w' := by
  by_cases hl : l0_2.length ≤ 60
  · simp only [trunk_Pick.f, if_pos hl, Option.some.injEq, Prod.mk.injEq] at h
    obtain ⟨rfl, rfl⟩ := h
    exact Th.pick_calls a0_0 a0_1 A0_2 c0_2 l0_2 hl hc0_2 w hr0_2
  · simp [trunk_Pick.f, hl] at h

/-! ### trunk_Check: function 19 -/
def trunk_Check.f (a0_0 : Int) (a0_1 : Int) (l0_2 : List (S36)) : Option (Int) := some (Th.checkS a0_0 a0_1 l0_2)
set_option maxHeartbeats 8000000 in
set_option maxRecDepth 100000 in
theorem trunk_Check.calls (a0_0 : Int) (a0_1 : Int) (A0_2 : Option Addr) (c0_2 : Nat) (l0_2 : List (S36)) (r : Int) (w : World) (hr0_2 : Kd.C k36 w A0_2 l0_2.length l0_2) (hc0_2 : l0_2.length ≤ c0_2) (h : trunk_Check.f a0_0 a0_1 l0_2 = some r) :
    Calls Try.prog 19 #[.agg #[.int .i64 a0_0, .int .i64 a0_1, .slice A0_2 l0_2.length c0_2]] w fun e w' => e = .returned (.int .i64 r) ∧ Below w.heap.size w w' := by
  obtain rfl := Option.some.inj h
  exact Th.check_calls a0_0 a0_1 A0_2 c0_2 l0_2 w hr0_2

/-! ### trunk_Block: function 22 -/
def trunk_Block.f (a0_0 : Int) (a0_1 : Int) (l0_2 : List (S36)) (a1 : Int) (a2 : Bool) (a3 : Bool) : Option (Int × Int × (List (S36)) × Int) := some ((Th.chgS a0_0 a0_1 l0_2 a1 1 (fun _ c => Th.blockS a2 a3 c)).1, (Th.chgS a0_0 a0_1 l0_2 a1 1 (fun _ c => Th.blockS a2 a3 c)).2.1, (Th.chgS a0_0 a0_1 l0_2 a1 1 (fun _ c => Th.blockS a2 a3 c)).2.2.1, (Th.chgS a0_0 a0_1 l0_2 a1 1 (fun _ c => Th.blockS a2 a3 c)).2.2.2.2)
set_option maxHeartbeats 8000000 in
set_option maxRecDepth 100000 in
theorem trunk_Block.calls (a0_0 : Int) (a0_1 : Int) (A0_2 : Option Addr) (c0_2 : Nat) (l0_2 : List (S36)) (a1 : Int) (a2 : Bool) (a3 : Bool) (r1 : Int) (r2 : Int) (r3 : List (S36)) (r4 : Int) (w : World) (hr0_2 : Kd.C k36 w A0_2 l0_2.length l0_2) (hc0_2 : l0_2.length ≤ c0_2) (h : trunk_Block.f a0_0 a0_1 l0_2 a1 a2 a3 = some (r1, r2, r3, r4)) :
    Calls Try.prog 22 #[.agg #[.int .i64 a0_0, .int .i64 a0_1, .slice A0_2 l0_2.length c0_2], .int .i64 a1, .bool a2, .bool a3] w fun e w' => ∃ v2_ : Value, e = .returned (.tuple #[.agg #[.int .i64 r1, .int .i64 r2, v2_], .int .i64 r4]) ∧ Kd.R k36 36 w' w.heap.size (fun _ => True) v2_ r3 ∧ Below w.heap.size w w' := by
  simp only [trunk_Block.f, Option.some.injEq, Prod.mk.injEq] at h
  obtain ⟨rfl, rfl, rfl, rfl⟩ := h
  exact Th.block_calls a0_0 a0_1 A0_2 c0_2 l0_2 a1 a2 a3 _ _ _ _ _ w hr0_2 hc0_2 rfl

/-! ### trunk_Release: function 26 -/
def trunk_Release.f (a0_0 : Int) (a0_1 : Int) (l0_2 : List (S36)) (a1 : Int) : Option (Int × Int × (List (S36)) × Int) := some ((Th.chgS a0_0 a0_1 l0_2 a1 1 (fun _ c => Th.releaseS c)).1, (Th.chgS a0_0 a0_1 l0_2 a1 1 (fun _ c => Th.releaseS c)).2.1, (Th.chgS a0_0 a0_1 l0_2 a1 1 (fun _ c => Th.releaseS c)).2.2.1, (Th.chgS a0_0 a0_1 l0_2 a1 1 (fun _ c => Th.releaseS c)).2.2.2.2)
set_option maxHeartbeats 8000000 in
set_option maxRecDepth 100000 in
theorem trunk_Release.calls (a0_0 : Int) (a0_1 : Int) (A0_2 : Option Addr) (c0_2 : Nat) (l0_2 : List (S36)) (a1 : Int) (r1 : Int) (r2 : Int) (r3 : List (S36)) (r4 : Int) (w : World) (hr0_2 : Kd.C k36 w A0_2 l0_2.length l0_2) (hc0_2 : l0_2.length ≤ c0_2) (h : trunk_Release.f a0_0 a0_1 l0_2 a1 = some (r1, r2, r3, r4)) :
    Calls Try.prog 26 #[.agg #[.int .i64 a0_0, .int .i64 a0_1, .slice A0_2 l0_2.length c0_2], .int .i64 a1] w fun e w' => ∃ v2_ : Value, e = .returned (.tuple #[.agg #[.int .i64 r1, .int .i64 r2, v2_], .int .i64 r4]) ∧ Kd.R k36 36 w' w.heap.size (fun _ => True) v2_ r3 ∧ Below w.heap.size w w' := by
  simp only [trunk_Release.f, Option.some.injEq, Prod.mk.injEq] at h
  obtain ⟨rfl, rfl, rfl, rfl⟩ := h
  exact Th.release_calls a0_0 a0_1 A0_2 c0_2 l0_2 a1 _ _ _ _ _ w hr0_2 hc0_2 rfl

/-! ### trunk_Clear: function 27 -/
def trunk_Clear.f (a0_0 : Int) (a0_1 : Int) (l0_2 : List (S36)) (a1 : Int) : Option (Int × Int × (List (S36)) × Int) := some ((Th.chgS a0_0 a0_1 l0_2 a1 1 (fun _ c => Th.clearS c)).1, (Th.chgS a0_0 a0_1 l0_2 a1 1 (fun _ c => Th.clearS c)).2.1, (Th.chgS a0_0 a0_1 l0_2 a1 1 (fun _ c => Th.clearS c)).2.2.1, (Th.chgS a0_0 a0_1 l0_2 a1 1 (fun _ c => Th.clearS c)).2.2.2.2)
set_option maxHeartbeats 8000000 in
set_option maxRecDepth 100000 in
theorem trunk_Clear.calls (a0_0 : Int) (a0_1 : Int) (A0_2 : Option Addr) (c0_2 : Nat) (l0_2 : List (S36)) (a1 : Int) (r1 : Int) (r2 : Int) (r3 : List (S36)) (r4 : Int) (w : World) (hr0_2 : Kd.C k36 w A0_2 l0_2.length l0_2) (hc0_2 : l0_2.length ≤ c0_2) (h : trunk_Clear.f a0_0 a0_1 l0_2 a1 = some (r1, r2, r3, r4)) :
    Calls Try.prog 27 #[.agg #[.int .i64 a0_0, .int .i64 a0_1, .slice A0_2 l0_2.length c0_2], .int .i64 a1] w fun e w' => ∃ v2_ : Value, e = .returned (.tuple #[.agg #[.int .i64 r1, .int .i64 r2, v2_], .int .i64 r4]) ∧ Kd.R k36 36 w' w.heap.size (fun _ => True) v2_ r3 ∧ Below w.heap.size w w' := by
  simp only [trunk_Clear.f, Option.some.injEq, Prod.mk.injEq] at h
  obtain ⟨rfl, rfl, rfl, rfl⟩ := h
  exact Th.clear_calls a0_0 a0_1 A0_2 c0_2 l0_2 a1 _ _ _ _ _ w hr0_2 hc0_2 rfl

end Go.Proofs.Ythemnajgdoambaa.Tr
