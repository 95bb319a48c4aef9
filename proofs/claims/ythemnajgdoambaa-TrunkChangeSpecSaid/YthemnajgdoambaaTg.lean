-- Written by a program of this session (wip/tools/surro2.py) that calls the kit's printer.
import Derived.Test.YthemnajgdoambaaTr0
import Derived.Test.YthemnajgdoambaaTrh0
import Derived.Test.YthemnajgdoambaaTe
import Derived.Test.YthemnajgdoambaaTf
namespace Go.Proofs.Ythemnajgdoambaa.Tr
open Go.RowKit Go.Proofs.YthemnajgdoambaaW.PrintWords Go.Proofs.YthemnajgdoambaaW.PrintLast Go.Proofs.YthemnajgdoambaaW.PrintMore
attribute [local go_sem] max2_int min2_int max_two min_two max_three min_three max_four min_four   -- for this text's walks alone
set_option linter.unusedVariables false
set_option linter.unusedSimpArgs false
attribute [local go_sem high] eqA36


/-! ### crossbarref14_Arrive: function 29 -/
mutual
def crossbarref14_Arrive.j0 : Nat → Int → Int → Bool → Int → Int → List (S36) → Int → Int → Bool → Bool → Option (Int × Int × (List (S36)) × Int × Int)
  | 0, _, _, _, _, _, _, _, _, _, _ => none
  | k + 1, x1, x2, x39, x499000, x499001, x499002, x504000, x504001, x504002, x504003 => if x39 = true then ((crossbarref14_with.f x499000 x499001 x499002 x1 x504000 x504001 x504002 x504003).bind fun bt504 => (some (bt504.1, bt504.2.1, bt504.2.2, 4, 0))) else (if x504000 = 1 then ((crossbarref14_Controls.f k x499000 x499001 x499002 x1).bind fun t509 => (crossbarref14_Arrive.j1 k x1 x2 t509 x499000 x499001 x499002 x504000 x504001 x504002 x504003)) else (crossbarref14_Arrive.j1 k x1 x2 false x499000 x499001 x499002 x504000 x504001 x504002 x504003))
def crossbarref14_Arrive.j1 : Nat → Int → Int → Bool → Int → Int → List (S36) → Int → Int → Bool → Bool → Option (Int × Int × (List (S36)) × Int × Int)
  | 0, _, _, _, _, _, _, _, _, _, _ => none
  | k + 1, x1, x2, x51, x499000, x499001, x499002, x504000, x504001, x504002, x504003 => if x51 = true then ((crossbarref14_with.f x499000 x499001 x499002 x1 x504000 x504001 x504002 x504003).bind fun bt510 => (some (bt510.1, bt510.2.1, bt510.2.2, 2, 0))) else (if x504000 = 1 then ((crossbarref14_with.f x499000 x499001 x499002 x1 2 x2 x504002 false).bind fun bt515 => (some (bt515.1, bt515.2.1, bt515.2.2, 3, 0))) else ((crossbarref14_with.f x499000 x499001 x499002 x1 2 x2 x504002 false).bind fun bt520 => (some (bt520.1, bt520.2.1, bt520.2.2, 1, 0))))
end
def crossbarref14_Arrive.f (k : Nat) (a0_0 : Int) (a0_1 : Int) (l0_2 : List (S36)) (a1 : Int) (a2 : Int) : Option (Int × Int × (List (S36)) × Int × Int) := (crossbarref14_checked.f k a0_0 a0_1 l0_2 a1).bind fun t500 => (if t500 = 0 then ((crossbarref14_number.f a2).bind fun t501 => (if t501 = true then (if 0 ≤ a1 then (if a1 < (l0_2.length : Int) then (if (rd_T36 l0_2 a1).f2 = true then (crossbarref14_Arrive.j0 k a1 a2 true a0_0 a0_1 l0_2 ((rd_T36 l0_2 a1).f0) ((rd_T36 l0_2 a1).f1) ((rd_T36 l0_2 a1).f2) ((rd_T36 l0_2 a1).f3)) else (if ((rd_T36 l0_2 a1).f0) = 2 then (crossbarref14_Arrive.j0 k a1 a2 true a0_0 a0_1 l0_2 ((rd_T36 l0_2 a1).f0) ((rd_T36 l0_2 a1).f1) ((rd_T36 l0_2 a1).f2) ((rd_T36 l0_2 a1).f3)) else (crossbarref14_Arrive.j0 k a1 a2 (((rd_T36 l0_2 a1).f0) == 3) a0_0 a0_1 l0_2 ((rd_T36 l0_2 a1).f0) ((rd_T36 l0_2 a1).f1) ((rd_T36 l0_2 a1).f2) ((rd_T36 l0_2 a1).f3)))) else (none)) else (none)) else (some (0, 0, ([] : List (S36)), 0, 1)))) else (some (0, 0, ([] : List (S36)), 0, t500)))
theorem crossbarref14_Arrive.mono_l : ∀ k, (∀ y0 y1 y2 y3 y4 y5 y6 y7 y8 y9, LeO (crossbarref14_Arrive.j0 k y0 y1 y2 y3 y4 y5 y6 y7 y8 y9) (crossbarref14_Arrive.j0 (k + 1) y0 y1 y2 y3 y4 y5 y6 y7 y8 y9)) ∧ (∀ y0 y1 y2 y3 y4 y5 y6 y7 y8 y9, LeO (crossbarref14_Arrive.j1 k y0 y1 y2 y3 y4 y5 y6 y7 y8 y9) (crossbarref14_Arrive.j1 (k + 1) y0 y1 y2 y3 y4 y5 y6 y7 y8 y9))
  | 0 => ⟨fun _ _ _ _ _ _ _ _ _ _ r h => by simp [crossbarref14_Arrive.j0] at h, fun _ _ _ _ _ _ _ _ _ _ r h => by simp [crossbarref14_Arrive.j1] at h⟩
  | k + 1 => by
    obtain ⟨ih0, ih1⟩ := crossbarref14_Arrive.mono_l k
    refine ⟨?_, ?_⟩
    · intro y0 y1 y2 y3 y4 y5 y6 y7 y8 y9
      unfold crossbarref14_Arrive.j0
      repeat' first
      | (with_reducible exact ih0 _ _ _ _ _ _ _ _ _ _)
      | (with_reducible exact ih1 _ _ _ _ _ _ _ _ _ _)
      | (with_reducible exact crossbarref14_Controls.mono _ _ _ _ _)
      | (with_reducible exact crossbarref14_checked.mono _ _ _ _ _)
      | (with_reducible exact LeO.refl _)
      | (with_reducible exact LeO.none _)
      | (with_reducible refine LeO.ite ?_ ?_)
      | (with_reducible refine LeO.bind ?_ (fun _ => ?_))
      | exact ih0 _ _ _ _ _ _ _ _ _ _
      | exact ih1 _ _ _ _ _ _ _ _ _ _
      | exact crossbarref14_Controls.mono _ _ _ _ _
      | exact crossbarref14_checked.mono _ _ _ _ _
      | exact LeO.none _
      | refine LeO.ite ?_ ?_
      | refine LeO.bind ?_ (fun _ => ?_)
    · intro y0 y1 y2 y3 y4 y5 y6 y7 y8 y9
      unfold crossbarref14_Arrive.j1
      repeat' first
      | (with_reducible exact ih0 _ _ _ _ _ _ _ _ _ _)
      | (with_reducible exact ih1 _ _ _ _ _ _ _ _ _ _)
      | (with_reducible exact crossbarref14_Controls.mono _ _ _ _ _)
      | (with_reducible exact crossbarref14_checked.mono _ _ _ _ _)
      | (with_reducible exact LeO.refl _)
      | (with_reducible exact LeO.none _)
      | (with_reducible refine LeO.ite ?_ ?_)
      | (with_reducible refine LeO.bind ?_ (fun _ => ?_))
      | exact ih0 _ _ _ _ _ _ _ _ _ _
      | exact ih1 _ _ _ _ _ _ _ _ _ _
      | exact crossbarref14_Controls.mono _ _ _ _ _
      | exact crossbarref14_checked.mono _ _ _ _ _
      | exact LeO.none _
      | refine LeO.ite ?_ ?_
      | refine LeO.bind ?_ (fun _ => ?_)
theorem crossbarref14_Arrive.mono : ∀ a0 a1 a2 a3 a4 k, LeO (crossbarref14_Arrive.f k a0 a1 a2 a3 a4) (crossbarref14_Arrive.f (k + 1) a0 a1 a2 a3 a4) := by
  intro a0 a1 a2 a3 a4 k
  obtain ⟨ih0, ih1⟩ := crossbarref14_Arrive.mono_l k
  unfold crossbarref14_Arrive.f
  repeat' first
      | (with_reducible exact ih0 _ _ _ _ _ _ _ _ _ _)
      | (with_reducible exact ih1 _ _ _ _ _ _ _ _ _ _)
      | (with_reducible exact crossbarref14_Controls.mono _ _ _ _ _)
      | (with_reducible exact crossbarref14_checked.mono _ _ _ _ _)
      | (with_reducible exact LeO.refl _)
      | (with_reducible exact LeO.none _)
      | (with_reducible refine LeO.ite ?_ ?_)
      | (with_reducible refine LeO.bind ?_ (fun _ => ?_))
      | exact ih0 _ _ _ _ _ _ _ _ _ _
      | exact ih1 _ _ _ _ _ _ _ _ _ _
      | exact crossbarref14_Controls.mono _ _ _ _ _
      | exact crossbarref14_checked.mono _ _ _ _ _
      | exact LeO.none _
      | refine LeO.ite ?_ ?_
      | refine LeO.bind ?_ (fun _ => ?_)
set_option maxHeartbeats 8000000 in
set_option maxRecDepth 100000 in
theorem crossbarref14_Arrive.calls (k : Nat) (a0_0 : Int) (a0_1 : Int) (A0_2 : Option Addr) (c0_2 : Nat) (l0_2 : List (S36)) (a1 : Int) (a2 : Int) (r1 : Int) (r2 : Int) (r3 : List (S36)) (r4 : Int) (r5 : Int) (w : World) (hr0_2 : Kd.C k36 w A0_2 l0_2.length l0_2) (hc0_2 : l0_2.length ≤ c0_2) (h : crossbarref14_Arrive.f k a0_0 a0_1 l0_2 a1 a2 = some (r1, r2, r3, r4, r5)) :
    Calls Try.prog 29 #[.agg #[.int .i64 a0_0, .int .i64 a0_1, .slice A0_2 l0_2.length c0_2], .int .i64 a1, .int .i64 a2] w fun e w' => ∃ v2_ : Value, e = .returned (.tuple #[.agg #[.int .i64 r1, .int .i64 r2, v2_], .int .i64 r4, .int .i64 r5]) ∧ Kd.R k36 36 w' w.heap.size (fun _ => True) v2_ r3 ∧ Below w.heap.size w w' := by
  have hu26 := Try.underlying26
  have hu36 := Try.underlying36
  have HR0_2 := Aside0.mk hr0_2
  have HC0_2 := Aside0.mk hc0_2
  clear hr0_2 hc0_2
  have HB := Aside0.mk (Below.refl w.heap.size w)
  have H : ((crossbarref14_checked.f k a0_0 a0_1 l0_2 a1).bind fun t500 => (if t500 = 0 then ((crossbarref14_number.f a2).bind fun t501 => (if t501 = true then (if 0 ≤ a1 then (if a1 < (l0_2.length : Int) then (if (rd_T36 l0_2 a1).f2 = true then (crossbarref14_Arrive.j0 k a1 a2 true a0_0 a0_1 l0_2 ((rd_T36 l0_2 a1).f0) ((rd_T36 l0_2 a1).f1) ((rd_T36 l0_2 a1).f2) ((rd_T36 l0_2 a1).f3)) else (if ((rd_T36 l0_2 a1).f0) = 2 then (crossbarref14_Arrive.j0 k a1 a2 true a0_0 a0_1 l0_2 ((rd_T36 l0_2 a1).f0) ((rd_T36 l0_2 a1).f1) ((rd_T36 l0_2 a1).f2) ((rd_T36 l0_2 a1).f3)) else (crossbarref14_Arrive.j0 k a1 a2 (((rd_T36 l0_2 a1).f0) == 3) a0_0 a0_1 l0_2 ((rd_T36 l0_2 a1).f0) ((rd_T36 l0_2 a1).f1) ((rd_T36 l0_2 a1).f2) ((rd_T36 l0_2 a1).f3)))) else (none)) else (none)) else (some (0, 0, ([] : List (S36)), 0, 1)))) else (some (0, 0, ([] : List (S36)), 0, t500)))) = some (r1, r2, r3, r4, r5) := h
  clear h
  replace H := Option.bind_eq_some_iff.mp H
  obtain ⟨t500, A40, H⟩ := H
  replace H : (if t500 = 0 then ((crossbarref14_number.f a2).bind fun t501 => (if t501 = true then (if 0 ≤ a1 then (if a1 < (l0_2.length : Int) then (if (rd_T36 l0_2 a1).f2 = true then (crossbarref14_Arrive.j0 k a1 a2 true a0_0 a0_1 l0_2 ((rd_T36 l0_2 a1).f0) ((rd_T36 l0_2 a1).f1) ((rd_T36 l0_2 a1).f2) ((rd_T36 l0_2 a1).f3)) else (if ((rd_T36 l0_2 a1).f0) = 2 then (crossbarref14_Arrive.j0 k a1 a2 true a0_0 a0_1 l0_2 ((rd_T36 l0_2 a1).f0) ((rd_T36 l0_2 a1).f1) ((rd_T36 l0_2 a1).f2) ((rd_T36 l0_2 a1).f3)) else (crossbarref14_Arrive.j0 k a1 a2 (((rd_T36 l0_2 a1).f0) == 3) a0_0 a0_1 l0_2 ((rd_T36 l0_2 a1).f0) ((rd_T36 l0_2 a1).f1) ((rd_T36 l0_2 a1).f2) ((rd_T36 l0_2 a1).f3)))) else (none)) else (none)) else (some (0, 0, ([] : List (S36)), 0, 1)))) else (some (0, 0, ([] : List (S36)), 0, t500))) = some (r1, r2, r3, r4, r5) := H
  have A4 := Aside0.mk A40
  clear A40
  by_cases c5 : t500 = 0
  · rw [if_pos c5] at H
    have c5b0 : (t500 == 0) = true := beq_iff_eq.mpr c5
    have c5b1 : (t500 != 0) = false := bne_eq_false_iff_eq.mpr c5
    clear c5
    replace H := Option.bind_eq_some_iff.mp H
    obtain ⟨t501, A60, H⟩ := H
    replace H : (if t501 = true then (if 0 ≤ a1 then (if a1 < (l0_2.length : Int) then (if (rd_T36 l0_2 a1).f2 = true then (crossbarref14_Arrive.j0 k a1 a2 true a0_0 a0_1 l0_2 ((rd_T36 l0_2 a1).f0) ((rd_T36 l0_2 a1).f1) ((rd_T36 l0_2 a1).f2) ((rd_T36 l0_2 a1).f3)) else (if ((rd_T36 l0_2 a1).f0) = 2 then (crossbarref14_Arrive.j0 k a1 a2 true a0_0 a0_1 l0_2 ((rd_T36 l0_2 a1).f0) ((rd_T36 l0_2 a1).f1) ((rd_T36 l0_2 a1).f2) ((rd_T36 l0_2 a1).f3)) else (crossbarref14_Arrive.j0 k a1 a2 (((rd_T36 l0_2 a1).f0) == 3) a0_0 a0_1 l0_2 ((rd_T36 l0_2 a1).f0) ((rd_T36 l0_2 a1).f1) ((rd_T36 l0_2 a1).f2) ((rd_T36 l0_2 a1).f3)))) else (none)) else (none)) else (some (0, 0, ([] : List (S36)), 0, 1))) = some (r1, r2, r3, r4, r5) := H
    have A6 := Aside0.mk A60
    clear A60
    by_cases c7 : t501 = true
    · subst c7
      have H1 : (if 0 ≤ a1 then (if a1 < (l0_2.length : Int) then (if (rd_T36 l0_2 a1).f2 = true then (crossbarref14_Arrive.j0 k a1 a2 true a0_0 a0_1 l0_2 ((rd_T36 l0_2 a1).f0) ((rd_T36 l0_2 a1).f1) ((rd_T36 l0_2 a1).f2) ((rd_T36 l0_2 a1).f3)) else (if ((rd_T36 l0_2 a1).f0) = 2 then (crossbarref14_Arrive.j0 k a1 a2 true a0_0 a0_1 l0_2 ((rd_T36 l0_2 a1).f0) ((rd_T36 l0_2 a1).f1) ((rd_T36 l0_2 a1).f2) ((rd_T36 l0_2 a1).f3)) else (crossbarref14_Arrive.j0 k a1 a2 (((rd_T36 l0_2 a1).f0) == 3) a0_0 a0_1 l0_2 ((rd_T36 l0_2 a1).f0) ((rd_T36 l0_2 a1).f1) ((rd_T36 l0_2 a1).f2) ((rd_T36 l0_2 a1).f3)))) else (none)) else (none)) = some (r1, r2, r3, r4, r5) := by rw [if_pos rfl] at H; exact H
      clear H
      have H := H1
      clear H1
      by_cases c8 : 0 ≤ a1
      · rw [if_pos c8] at H
        have c8b0 : decide (0 ≤ a1) = true := decide_eq_true c8
        clear c8
        by_cases c9 : a1 < (l0_2.length : Int)
        · rw [if_pos c9] at H
          have c9b0 : decide (a1 < (l0_2.length : Int)) = true := decide_eq_true c9
          clear c9
          have HC10 := Aside0.mk H
          clear H
          go_enter Try.func29, Try.ntmps29
          go_upto_region 7 with (first | ((with_reducible refine gate_dst (N := 3) rfl ?_); refine box_event ?hg (N := 3) ?hd (cs := #[.int .i64 a0_0, .int .i64 a0_1, .slice A0_2 l0_2.length c0_2]) (t := 26) ?hr ?_; (case hd => rfl); (case hg => rfl); (case hr => first | (go_simp; done) | (go_simp; rfl)); intro gb498 hg w11 hbox hb; have n0_ := Aside0.mk (below_step (by repeat (first | (with_reducible first | exact HB.out | apply below_alloc | apply pw_below_drewN | apply below_drew1) | exact HB.out)) hb); have n1_ := Aside0.mk (hbox); have n2_ := Aside0.mk ((by rw [hg]; exact (below_size (by repeat (first | (with_reducible first | exact HB.out | apply below_alloc | apply pw_below_drewN | apply below_drew1) | exact HB.out))) : w.heap.size ≤ gb498)); have n3_ := Aside0.mk ((by rw [hg]; exact (below_size (by repeat (first | (with_reducible first | exact HB.out | apply below_alloc | apply pw_below_drewN | apply below_drew1) | exact HB.out))) : w.heap.size ≤ gb498)); clear HB; have HB := n0_; have BK498 := n1_; have GW498 := n2_; have GE498 := n3_; clear n0_ n1_ n2_ n3_; clear hb hbox hg) | ((with_reducible refine gate_dst (N := 6) rfl ?_); refine box_event ?hg (N := 6) ?hd (cs := #[.int .i64 0, .int .i64 0, .slice none 0 0]) (t := 26) ?hr ?_; (case hd => rfl); (case hg => rfl); (case hr => first | (go_simp; done) | (go_simp; rfl)); intro gb499 hg w12 hbox hb; have n0_ := Aside0.mk (blk_below (g := gb498) (o := .cells #[.int .i64 a0_0, .int .i64 a0_1, .slice A0_2 l0_2.length c0_2] 26 (0, 0)) (by (with_reducible repeat (first | refine blk_drewN ?_ _ | refine blk_drew ?_ | refine blk_alloc ?_ _)); exact BK498.out) hb); have n1_ := Aside0.mk (below_step (by repeat (first | (with_reducible first | exact HB.out | apply below_alloc | apply pw_below_drewN | apply below_drew1 | refine below_set ?_ GE498.out) | exact HB.out)) hb); have n2_ := Aside0.mk (hbox); have n3_ := Aside0.mk ((by rw [hg]; exact (below_size (by repeat (first | (with_reducible first | exact HB.out | apply below_alloc | apply pw_below_drewN | apply below_drew1 | refine below_set ?_ GE498.out) | exact HB.out))) : w.heap.size ≤ gb499)); have n4_ := Aside0.mk ((by rw [hg]; exact (below_size (by repeat (first | (with_reducible first | exact HB.out | apply below_alloc | apply pw_below_drewN | apply below_drew1 | refine below_set ?_ GE498.out) | exact HB.out))) : w.heap.size ≤ gb499)); have n5_ := Aside0.mk ((by rw [hg]; exact Nat.ne_of_lt (blk_lt (g := gb498) (o := .cells #[.int .i64 a0_0, .int .i64 a0_1, .slice A0_2 l0_2.length c0_2] 26 (0, 0)) (by (with_reducible repeat (first | refine blk_drewN ?_ _ | refine blk_drew ?_ | refine blk_alloc ?_ _)); exact BK498.out)) : gb498 ≠ gb499)); have n6_ := Aside0.mk ((by rw [hg]; exact Nat.ne_of_gt (blk_lt (g := gb498) (o := .cells #[.int .i64 a0_0, .int .i64 a0_1, .slice A0_2 l0_2.length c0_2] 26 (0, 0)) (by (with_reducible repeat (first | refine blk_drewN ?_ _ | refine blk_drew ?_ | refine blk_alloc ?_ _)); exact BK498.out)) : gb499 ≠ gb498)); clear BK498; clear HB; have BK498 := n0_; have HB := n1_; have BK499 := n2_; have GW499 := n3_; have GE499 := n4_; have NB498_499 := n5_; have NB499_498 := n6_; clear n0_ n1_ n2_ n3_ n4_ n5_ n6_; clear hb hbox hg; have hnb13 := NB498_499.out; have hnc13 := NB499_498.out; have hcz14_0 : w12.cell? ⟨gb498, 0, none⟩ = some (.int .i64 a0_0) := (blk_cell BK498.out 0).trans rfl; have hcz14_1 : w12.cell? ⟨gb498, 1, none⟩ = some (.int .i64 a0_1) := (blk_cell BK498.out 1).trans rfl; have hcz14_2 : w12.cell? ⟨gb498, 2, none⟩ = some (.slice A0_2 l0_2.length c0_2) := (blk_cell BK498.out 2).trans rfl; have hfz14_0 := blk_frozen BK498.out 0; have hfz14_1 := blk_frozen BK498.out 1; have hfz14_2 := blk_frozen BK498.out 2) | ((with_reducible refine gate_callee (f := 48) rfl ?_); refine goesL_ (some 14) rfl rfl Try.func48 (by kernel_rfl) rfl #[.agg #[.int .i64 a0_0, .int .i64 a0_1, .slice A0_2 l0_2.length c0_2], .int .i64 a1] rfl (by (try simp only [List.map_toArray, List.map_cons, List.map_nil]); first | done | rfl | (simp only [List.length_drop, List.length_take]; rfl)) ?_; (with_reducible refine (crossbarref14_checked.calls k a0_0 a0_1 _ _ l0_2 a1 t500 _ ?side1 ?side2 A4.out).mono ?_); (case side1 => repeat (first | exact (Kd.C_below HR0_2.out HB.out) | (with_reducible refine Kd.C_alloc ?_ _) | (with_reducible refine Kd.C_drewN ?_ _) | (with_reducible refine Kd.C_drew ?_))); (case side2 => exact HC0_2.out); rintro e w15 ⟨rfl, hb⟩; refine ⟨_, rfl, ?_⟩; have n0_ := Aside0.mk (blk_below (g := gb498) (o := .cells #[.int .i64 a0_0, .int .i64 a0_1, .slice A0_2 l0_2.length c0_2] 26 (0, 0)) (by (with_reducible repeat (first | refine blk_drewN ?_ _ | refine blk_drew ?_ | refine blk_alloc ?_ _)); exact BK498.out) hb); have n1_ := Aside0.mk (blk_below (g := gb499) (o := .cells #[.int .i64 0, .int .i64 0, .slice none 0 0] 26 (0, 0)) (by (with_reducible repeat (first | refine blk_drewN ?_ _ | refine blk_drew ?_ | refine blk_alloc ?_ _)); exact BK499.out) hb); have n2_ := Aside0.mk (below_step (by repeat (first | (with_reducible first | exact HB.out | apply below_alloc | apply pw_below_drewN | apply below_drew1 | refine below_set ?_ GE498.out | refine below_set ?_ GE499.out) | exact HB.out)) hb); clear BK498; clear BK499; clear HB; have BK498 := n0_; have BK499 := n1_; have HB := n2_; clear n0_ n1_ n2_; (try clear hb); (try clear hb2); (try clear hk); (try clear hi)) | ((with_reducible refine gate_callee (f := 49) rfl ?_); refine goesL_ (some 20) rfl rfl Try.func49 (by kernel_rfl) rfl #[.int .i64 a2] rfl (by (try simp only [List.map_toArray, List.map_cons, List.map_nil]); first | done | rfl | (simp only [List.length_drop, List.length_take]; rfl)) ?_; (with_reducible refine (crossbarref14_number.calls a2 true _ A6.out).mono ?_); rintro e w' ⟨rfl, ⟨nd, rfl⟩⟩; refine ⟨_, rfl, ?_⟩; (try (rw [drewN_self w15]; generalize hq_ : World.drewN w15 _ = w15; have n0_ : Aside0 (w15.heap[gb498]? = some (.cells #[.int .i64 a0_0, .int .i64 a0_1, .slice A0_2 l0_2.length c0_2] 26 (0, 0))) := ⟨by rw [← hq_]; exact (by (with_reducible repeat (first | refine blk_drewN ?_ _ | refine blk_drew ?_ | refine blk_alloc ?_ _)); exact BK498.out)⟩; have n1_ : Aside0 (w15.heap[gb499]? = some (.cells #[.int .i64 0, .int .i64 0, .slice none 0 0] 26 (0, 0))) := ⟨by rw [← hq_]; exact (by (with_reducible repeat (first | refine blk_drewN ?_ _ | refine blk_drew ?_ | refine blk_alloc ?_ _)); exact BK499.out)⟩; have n2_ : Aside0 (Below w.heap.size w w15) := ⟨by rw [← hq_]; exact (by repeat (first | (with_reducible first | exact HB.out | apply below_alloc | apply pw_below_drewN | apply below_drew1 | refine below_set ?_ GE498.out | refine below_set ?_ GE499.out) | exact HB.out))⟩; clear BK498 BK499 HB hq_; have BK498 := n0_; have BK499 := n1_; have HB := n2_; clear n0_ n1_ n2_)); have hcz16_0 : w15.cell? ⟨gb498, 0, none⟩ = some (.int .i64 a0_0) := (blk_cell BK498.out 0).trans rfl; have hcz16_1 : w15.cell? ⟨gb498, 1, none⟩ = some (.int .i64 a0_1) := (blk_cell BK498.out 1).trans rfl; have hcz16_2 : w15.cell? ⟨gb498, 2, none⟩ = some (.slice A0_2 l0_2.length c0_2) := (blk_cell BK498.out 2).trans rfl; have hfz16_0 := blk_frozen BK498.out 0; have hfz16_1 := blk_frozen BK498.out 1; have hfz16_2 := blk_frozen BK498.out 2; have p502 : 0 ≤ (a1 : Int) := of_decide_eq_true (by first | (with_reducible assumption) | assumption); have q502 : a1 < (l0_2.length : Int) := of_decide_eq_true (by first | (with_reducible assumption) | assumption); obtain ⟨ad502, e502, hx502_0, hx502_1, hx502_2, hx502_3⟩ := at_T36 HR0_2.out a1 p502 q502; cases e502; replace hx502_0 := (HB.out.cell (World.block_lt_of_cell? w _ hx502_0)).trans hx502_0; replace hx502_1 := (HB.out.cell (World.block_lt_of_cell? w _ hx502_1)).trans hx502_1; replace hx502_2 := (HB.out.cell (World.block_lt_of_cell? w _ hx502_2)).trans hx502_2; replace hx502_3 := (HB.out.cell (World.block_lt_of_cell? w _ hx502_3)).trans hx502_3; replace p502 := eq_true p502; replace q502 := eq_true q502) | ((with_reducible refine gate_dst (N := 10) rfl ?_); refine box_event ?hg (N := 10) ?hd (cs := #[.int .i64 0, .int .i64 0, .bool false, .bool false]) (t := 36) ?hr ?_; (case hd => rfl); (case hg => rfl); (case hr => first | (go_simp; done) | (go_simp; rfl)); intro gb503 hg w17 hbox hb; have n0_ := Aside0.mk (blk_below (g := gb498) (o := .cells #[.int .i64 a0_0, .int .i64 a0_1, .slice (some ad502) l0_2.length c0_2] 26 (0, 0)) (by (with_reducible repeat (first | refine blk_drewN ?_ _ | refine blk_drew ?_ | refine blk_alloc ?_ _)); exact BK498.out) hb); have n1_ := Aside0.mk (blk_below (g := gb499) (o := .cells #[.int .i64 0, .int .i64 0, .slice none 0 0] 26 (0, 0)) (by (with_reducible repeat (first | refine blk_drewN ?_ _ | refine blk_drew ?_ | refine blk_alloc ?_ _)); exact BK499.out) hb); have n2_ := Aside0.mk (below_step (by repeat (first | (with_reducible first | exact HB.out | apply below_alloc | apply pw_below_drewN | apply below_drew1 | refine below_set ?_ GE498.out | refine below_set ?_ GE499.out) | exact HB.out)) hb); have n3_ := Aside0.mk (hbox); have n4_ := Aside0.mk ((by rw [hg]; exact (below_size (by repeat (first | (with_reducible first | exact HB.out | apply below_alloc | apply pw_below_drewN | apply below_drew1 | refine below_set ?_ GE498.out | refine below_set ?_ GE499.out) | exact HB.out))) : w.heap.size ≤ gb503)); have n5_ := Aside0.mk ((by rw [hg]; exact (below_size (by repeat (first | (with_reducible first | exact HB.out | apply below_alloc | apply pw_below_drewN | apply below_drew1 | refine below_set ?_ GE498.out | refine below_set ?_ GE499.out) | exact HB.out))) : w.heap.size ≤ gb503)); have n6_ := Aside0.mk ((by rw [hg]; exact Nat.ne_of_lt (blk_lt (g := gb498) (o := .cells #[.int .i64 a0_0, .int .i64 a0_1, .slice (some ad502) l0_2.length c0_2] 26 (0, 0)) (by (with_reducible repeat (first | refine blk_drewN ?_ _ | refine blk_drew ?_ | refine blk_alloc ?_ _)); exact BK498.out)) : gb498 ≠ gb503)); have n7_ := Aside0.mk ((by rw [hg]; exact Nat.ne_of_gt (blk_lt (g := gb498) (o := .cells #[.int .i64 a0_0, .int .i64 a0_1, .slice (some ad502) l0_2.length c0_2] 26 (0, 0)) (by (with_reducible repeat (first | refine blk_drewN ?_ _ | refine blk_drew ?_ | refine blk_alloc ?_ _)); exact BK498.out)) : gb503 ≠ gb498)); have n8_ := Aside0.mk ((by rw [hg]; exact Nat.ne_of_lt (blk_lt (g := gb499) (o := .cells #[.int .i64 0, .int .i64 0, .slice none 0 0] 26 (0, 0)) (by (with_reducible repeat (first | refine blk_drewN ?_ _ | refine blk_drew ?_ | refine blk_alloc ?_ _)); exact BK499.out)) : gb499 ≠ gb503)); have n9_ := Aside0.mk ((by rw [hg]; exact Nat.ne_of_gt (blk_lt (g := gb499) (o := .cells #[.int .i64 0, .int .i64 0, .slice none 0 0] 26 (0, 0)) (by (with_reducible repeat (first | refine blk_drewN ?_ _ | refine blk_drew ?_ | refine blk_alloc ?_ _)); exact BK499.out)) : gb503 ≠ gb499)); clear BK498; clear BK499; clear HB; have BK498 := n0_; have BK499 := n1_; have HB := n2_; have BK503 := n3_; have GW503 := n4_; have GE503 := n5_; have NB498_503 := n6_; have NB503_498 := n7_; have NB499_503 := n8_; have NB503_499 := n9_; clear n0_ n1_ n2_ n3_ n4_ n5_ n6_ n7_ n8_ n9_; clear hb hbox hg; have hnb18 := NB503_498.out; have hnc18 := NB498_503.out; have hnb19 := NB503_499.out; have hnc19 := NB499_503.out; have hcz20_0 : w17.cell? ⟨gb503, 0, none⟩ = some (.int .i64 0) := (blk_cell BK503.out 0).trans rfl; have hcz20_1 : w17.cell? ⟨gb503, 1, none⟩ = some (.int .i64 0) := (blk_cell BK503.out 1).trans rfl; have hcz20_2 : w17.cell? ⟨gb503, 2, none⟩ = some (.bool false) := (blk_cell BK503.out 2).trans rfl; have hcz20_3 : w17.cell? ⟨gb503, 3, none⟩ = some (.bool false) := (blk_cell BK503.out 3).trans rfl; have hfz20_0 := blk_frozen BK503.out 0; have hfz20_1 := blk_frozen BK503.out 1; have hfz20_2 := blk_frozen BK503.out 2; have hfz20_3 := blk_frozen BK503.out 3))
          (try simp only [Act.put, List.setIfInBounds_toArray, List.set_cons_zero, List.set_cons_succ])
          go_cut [39] (fun v39 wc => ∃ (kq : Nat) (x39_9 : Bool), v39 = .bool x39_9 ∧ Aside0 (crossbarref14_Arrive.j0 kq a1 a2 x39_9 a0_0 a0_1 l0_2 ((rd_T36 l0_2 a1).f0) ((rd_T36 l0_2 a1).f1) ((rd_T36 l0_2 a1).f2) ((rd_T36 l0_2 a1).f3) = some (r1, r2, r3, r4, r5)) ∧ Aside0 (kq ≤ k) ∧ Aside0 (wc.heap[gb498]? = some (.cells #[.int .i64 a0_0, .int .i64 a0_1, (.slice (some ad502) l0_2.length c0_2)] 26 (0, 0))) ∧ Aside0 (wc.heap[gb499]? = some (.cells #[.int .i64 0, .int .i64 0, (.slice none 0 0)] 26 (0, 0))) ∧ Aside0 (wc.heap[gb503]? = some (.cells #[.int .i64 ((rd_T36 l0_2 a1).f0), .int .i64 ((rd_T36 l0_2 a1).f1), .bool ((rd_T36 l0_2 a1).f2), .bool ((rd_T36 l0_2 a1).f3)] 36 (0, 0))) ∧ Aside0 (Below w.heap.size w wc))
          case first =>
            have H := HC10.out
            clear HC10
            obtain ⟨bq21, hbq21⟩ : ∃ b_ : Bool, b_ = ((rd_T36 l0_2 a1).f2) := ⟨_, rfl⟩
            replace H : (if bq21 = true then (crossbarref14_Arrive.j0 k a1 a2 true a0_0 a0_1 l0_2 ((rd_T36 l0_2 a1).f0) ((rd_T36 l0_2 a1).f1) bq21 ((rd_T36 l0_2 a1).f3)) else (if ((rd_T36 l0_2 a1).f0) = 2 then (crossbarref14_Arrive.j0 k a1 a2 true a0_0 a0_1 l0_2 ((rd_T36 l0_2 a1).f0) ((rd_T36 l0_2 a1).f1) bq21 ((rd_T36 l0_2 a1).f3)) else (crossbarref14_Arrive.j0 k a1 a2 (((rd_T36 l0_2 a1).f0) == 3) a0_0 a0_1 l0_2 ((rd_T36 l0_2 a1).f0) ((rd_T36 l0_2 a1).f1) bq21 ((rd_T36 l0_2 a1).f3)))) = some (r1, r2, r3, r4, r5) := by rw [← hbq21] at H; exact H
            have Nbq21 := Aside0.mk hbq21
            clear hbq21
            (try rw [← Nbq21.out])
            by_cases c22 : bq21 = true
            · subst c22
              have H1 : (crossbarref14_Arrive.j0 k a1 a2 true a0_0 a0_1 l0_2 ((rd_T36 l0_2 a1).f0) ((rd_T36 l0_2 a1).f1) true ((rd_T36 l0_2 a1).f3)) = some (r1, r2, r3, r4, r5) := by rw [if_pos rfl] at H; exact H
              clear H
              have H := H1
              clear H1
              have H' := Aside0.mk H
              clear H
              have hnb23 := NB503_498.out
              have hnc23 := NB498_503.out
              have hnb24 := NB503_499.out
              have hnc24 := NB499_503.out
              have hcz25_0 : w17.cell? ⟨gb503, 0, none⟩ = some (.int .i64 0) := (blk_cell BK503.out 0).trans rfl
              have hcz25_1 : w17.cell? ⟨gb503, 1, none⟩ = some (.int .i64 0) := (blk_cell BK503.out 1).trans rfl
              have hcz25_2 : w17.cell? ⟨gb503, 2, none⟩ = some (.bool false) := (blk_cell BK503.out 2).trans rfl
              have hcz25_3 : w17.cell? ⟨gb503, 3, none⟩ = some (.bool false) := (blk_cell BK503.out 3).trans rfl
              have hfz25_0 := blk_frozen BK503.out 0
              have hfz25_1 := blk_frozen BK503.out 1
              have hfz25_2 := blk_frozen BK503.out 2
              have hfz25_3 := blk_frozen BK503.out 3
              go_wp2
              go_meet
              case rel => (try rw [← Nbq21.out]); exact ⟨_, (true), (by first | rfl | (simp; done) | (simp [*]; done)), H', ⟨by first | omega | exact Nat.le_refl _⟩, ⟨by (with_reducible repeat (first | refine blk_drewN ?_ _ | refine blk_drew ?_ | refine blk_alloc ?_ _)); refine blk_far ?_ NB498_503.out _; (with_reducible repeat (first | refine blk_drewN ?_ _ | refine blk_drew ?_ | refine blk_alloc ?_ _)); refine blk_far ?_ NB498_503.out _; (with_reducible repeat (first | refine blk_drewN ?_ _ | refine blk_drew ?_ | refine blk_alloc ?_ _)); refine blk_far ?_ NB498_503.out _; (with_reducible repeat (first | refine blk_drewN ?_ _ | refine blk_drew ?_ | refine blk_alloc ?_ _)); refine blk_far ?_ NB498_503.out _; (with_reducible repeat (first | refine blk_drewN ?_ _ | refine blk_drew ?_ | refine blk_alloc ?_ _)); exact BK498.out⟩, ⟨by (with_reducible repeat (first | refine blk_drewN ?_ _ | refine blk_drew ?_ | refine blk_alloc ?_ _)); refine blk_far ?_ NB499_503.out _; (with_reducible repeat (first | refine blk_drewN ?_ _ | refine blk_drew ?_ | refine blk_alloc ?_ _)); refine blk_far ?_ NB499_503.out _; (with_reducible repeat (first | refine blk_drewN ?_ _ | refine blk_drew ?_ | refine blk_alloc ?_ _)); refine blk_far ?_ NB499_503.out _; (with_reducible repeat (first | refine blk_drewN ?_ _ | refine blk_drew ?_ | refine blk_alloc ?_ _)); refine blk_far ?_ NB499_503.out _; (with_reducible repeat (first | refine blk_drewN ?_ _ | refine blk_drew ?_ | refine blk_alloc ?_ _)); exact BK499.out⟩, ⟨by (with_reducible repeat (first | refine blk_drewN ?_ _ | refine blk_drew ?_ | refine blk_alloc ?_ _)); refine blk_put (cs := #[.int .i64 ((rd_T36 l0_2 a1).f0), .int .i64 ((rd_T36 l0_2 a1).f1), .bool (true), .bool false]) ?_ 3 _ rfl; (with_reducible repeat (first | refine blk_drewN ?_ _ | refine blk_drew ?_ | refine blk_alloc ?_ _)); refine blk_put (cs := #[.int .i64 ((rd_T36 l0_2 a1).f0), .int .i64 ((rd_T36 l0_2 a1).f1), .bool false, .bool false]) ?_ 2 _ rfl; (with_reducible repeat (first | refine blk_drewN ?_ _ | refine blk_drew ?_ | refine blk_alloc ?_ _)); refine blk_put (cs := #[.int .i64 ((rd_T36 l0_2 a1).f0), .int .i64 0, .bool false, .bool false]) ?_ 1 _ rfl; (with_reducible repeat (first | refine blk_drewN ?_ _ | refine blk_drew ?_ | refine blk_alloc ?_ _)); refine blk_put (cs := #[.int .i64 0, .int .i64 0, .bool false, .bool false]) ?_ 0 _ rfl; (with_reducible repeat (first | refine blk_drewN ?_ _ | refine blk_drew ?_ | refine blk_alloc ?_ _)); exact BK503.out⟩, ⟨by repeat (first | (with_reducible first | exact HB.out | apply below_alloc | apply pw_below_drewN | apply below_drew1 | refine below_set ?_ GE498.out | refine below_set ?_ GE499.out | refine below_set ?_ GE503.out) | exact HB.out)⟩⟩
            · replace c22 := Bool.eq_false_iff.mpr c22
              subst c22
              have H1 : (if ((rd_T36 l0_2 a1).f0) = 2 then (crossbarref14_Arrive.j0 k a1 a2 true a0_0 a0_1 l0_2 ((rd_T36 l0_2 a1).f0) ((rd_T36 l0_2 a1).f1) false ((rd_T36 l0_2 a1).f3)) else (crossbarref14_Arrive.j0 k a1 a2 (((rd_T36 l0_2 a1).f0) == 3) a0_0 a0_1 l0_2 ((rd_T36 l0_2 a1).f0) ((rd_T36 l0_2 a1).f1) false ((rd_T36 l0_2 a1).f3))) = some (r1, r2, r3, r4, r5) := by rw [if_neg (show ¬ (false = true) by decide)] at H; exact H
              clear H
              have H := H1
              clear H1
              by_cases c26 : ((rd_T36 l0_2 a1).f0) = 2
              · rw [if_pos c26] at H
                have c26b0 : (((rd_T36 l0_2 a1).f0) == 2) = true := beq_iff_eq.mpr c26
                have c26b1 : (((rd_T36 l0_2 a1).f0) != 2) = false := bne_eq_false_iff_eq.mpr c26
                clear c26
                have H' := Aside0.mk H
                clear H
                have hnb27 := NB503_498.out
                have hnc27 := NB498_503.out
                have hnb28 := NB503_499.out
                have hnc28 := NB499_503.out
                have hcz29_0 : w17.cell? ⟨gb503, 0, none⟩ = some (.int .i64 0) := (blk_cell BK503.out 0).trans rfl
                have hcz29_1 : w17.cell? ⟨gb503, 1, none⟩ = some (.int .i64 0) := (blk_cell BK503.out 1).trans rfl
                have hcz29_2 : w17.cell? ⟨gb503, 2, none⟩ = some (.bool false) := (blk_cell BK503.out 2).trans rfl
                have hcz29_3 : w17.cell? ⟨gb503, 3, none⟩ = some (.bool false) := (blk_cell BK503.out 3).trans rfl
                have hfz29_0 := blk_frozen BK503.out 0
                have hfz29_1 := blk_frozen BK503.out 1
                have hfz29_2 := blk_frozen BK503.out 2
                have hfz29_3 := blk_frozen BK503.out 3
                go_wp2
                go_meet
                case rel => (try rw [← Nbq21.out]); exact ⟨_, (true), (by first | rfl | (simp; done) | (simp [*]; done)), H', ⟨by first | omega | exact Nat.le_refl _⟩, ⟨by (with_reducible repeat (first | refine blk_drewN ?_ _ | refine blk_drew ?_ | refine blk_alloc ?_ _)); refine blk_far ?_ NB498_503.out _; (with_reducible repeat (first | refine blk_drewN ?_ _ | refine blk_drew ?_ | refine blk_alloc ?_ _)); refine blk_far ?_ NB498_503.out _; (with_reducible repeat (first | refine blk_drewN ?_ _ | refine blk_drew ?_ | refine blk_alloc ?_ _)); refine blk_far ?_ NB498_503.out _; (with_reducible repeat (first | refine blk_drewN ?_ _ | refine blk_drew ?_ | refine blk_alloc ?_ _)); refine blk_far ?_ NB498_503.out _; (with_reducible repeat (first | refine blk_drewN ?_ _ | refine blk_drew ?_ | refine blk_alloc ?_ _)); exact BK498.out⟩, ⟨by (with_reducible repeat (first | refine blk_drewN ?_ _ | refine blk_drew ?_ | refine blk_alloc ?_ _)); refine blk_far ?_ NB499_503.out _; (with_reducible repeat (first | refine blk_drewN ?_ _ | refine blk_drew ?_ | refine blk_alloc ?_ _)); refine blk_far ?_ NB499_503.out _; (with_reducible repeat (first | refine blk_drewN ?_ _ | refine blk_drew ?_ | refine blk_alloc ?_ _)); refine blk_far ?_ NB499_503.out _; (with_reducible repeat (first | refine blk_drewN ?_ _ | refine blk_drew ?_ | refine blk_alloc ?_ _)); refine blk_far ?_ NB499_503.out _; (with_reducible repeat (first | refine blk_drewN ?_ _ | refine blk_drew ?_ | refine blk_alloc ?_ _)); exact BK499.out⟩, ⟨by (with_reducible repeat (first | refine blk_drewN ?_ _ | refine blk_drew ?_ | refine blk_alloc ?_ _)); refine blk_put (cs := #[.int .i64 ((rd_T36 l0_2 a1).f0), .int .i64 ((rd_T36 l0_2 a1).f1), .bool (false), .bool false]) ?_ 3 _ rfl; (with_reducible repeat (first | refine blk_drewN ?_ _ | refine blk_drew ?_ | refine blk_alloc ?_ _)); refine blk_put (cs := #[.int .i64 ((rd_T36 l0_2 a1).f0), .int .i64 ((rd_T36 l0_2 a1).f1), .bool false, .bool false]) ?_ 2 _ rfl; (with_reducible repeat (first | refine blk_drewN ?_ _ | refine blk_drew ?_ | refine blk_alloc ?_ _)); refine blk_put (cs := #[.int .i64 ((rd_T36 l0_2 a1).f0), .int .i64 0, .bool false, .bool false]) ?_ 1 _ rfl; (with_reducible repeat (first | refine blk_drewN ?_ _ | refine blk_drew ?_ | refine blk_alloc ?_ _)); refine blk_put (cs := #[.int .i64 0, .int .i64 0, .bool false, .bool false]) ?_ 0 _ rfl; (with_reducible repeat (first | refine blk_drewN ?_ _ | refine blk_drew ?_ | refine blk_alloc ?_ _)); exact BK503.out⟩, ⟨by repeat (first | (with_reducible first | exact HB.out | apply below_alloc | apply pw_below_drewN | apply below_drew1 | refine below_set ?_ GE498.out | refine below_set ?_ GE499.out | refine below_set ?_ GE503.out) | exact HB.out)⟩⟩
              · rw [if_neg c26] at H
                have c26b0 : (((rd_T36 l0_2 a1).f0) == 2) = false := beq_eq_false_iff_ne.mpr c26
                have c26b1 : (((rd_T36 l0_2 a1).f0) != 2) = true := bne_iff_ne.mpr c26
                have H' := Aside0.mk H
                clear H
                have hnb30 := NB503_498.out
                have hnc30 := NB498_503.out
                have hnb31 := NB503_499.out
                have hnc31 := NB499_503.out
                have hcz32_0 : w17.cell? ⟨gb503, 0, none⟩ = some (.int .i64 0) := (blk_cell BK503.out 0).trans rfl
                have hcz32_1 : w17.cell? ⟨gb503, 1, none⟩ = some (.int .i64 0) := (blk_cell BK503.out 1).trans rfl
                have hcz32_2 : w17.cell? ⟨gb503, 2, none⟩ = some (.bool false) := (blk_cell BK503.out 2).trans rfl
                have hcz32_3 : w17.cell? ⟨gb503, 3, none⟩ = some (.bool false) := (blk_cell BK503.out 3).trans rfl
                have hfz32_0 := blk_frozen BK503.out 0
                have hfz32_1 := blk_frozen BK503.out 1
                have hfz32_2 := blk_frozen BK503.out 2
                have hfz32_3 := blk_frozen BK503.out 3
                go_wp2
                go_meet
                case rel => (try rw [← Nbq21.out]); exact ⟨_, ((((rd_T36 l0_2 a1).f0) == 3)), (by first | rfl | (simp; done) | (simp [*]; done)), H', ⟨by first | omega | exact Nat.le_refl _⟩, ⟨by (with_reducible repeat (first | refine blk_drewN ?_ _ | refine blk_drew ?_ | refine blk_alloc ?_ _)); refine blk_far ?_ NB498_503.out _; (with_reducible repeat (first | refine blk_drewN ?_ _ | refine blk_drew ?_ | refine blk_alloc ?_ _)); refine blk_far ?_ NB498_503.out _; (with_reducible repeat (first | refine blk_drewN ?_ _ | refine blk_drew ?_ | refine blk_alloc ?_ _)); refine blk_far ?_ NB498_503.out _; (with_reducible repeat (first | refine blk_drewN ?_ _ | refine blk_drew ?_ | refine blk_alloc ?_ _)); refine blk_far ?_ NB498_503.out _; (with_reducible repeat (first | refine blk_drewN ?_ _ | refine blk_drew ?_ | refine blk_alloc ?_ _)); exact BK498.out⟩, ⟨by (with_reducible repeat (first | refine blk_drewN ?_ _ | refine blk_drew ?_ | refine blk_alloc ?_ _)); refine blk_far ?_ NB499_503.out _; (with_reducible repeat (first | refine blk_drewN ?_ _ | refine blk_drew ?_ | refine blk_alloc ?_ _)); refine blk_far ?_ NB499_503.out _; (with_reducible repeat (first | refine blk_drewN ?_ _ | refine blk_drew ?_ | refine blk_alloc ?_ _)); refine blk_far ?_ NB499_503.out _; (with_reducible repeat (first | refine blk_drewN ?_ _ | refine blk_drew ?_ | refine blk_alloc ?_ _)); refine blk_far ?_ NB499_503.out _; (with_reducible repeat (first | refine blk_drewN ?_ _ | refine blk_drew ?_ | refine blk_alloc ?_ _)); exact BK499.out⟩, ⟨by (with_reducible repeat (first | refine blk_drewN ?_ _ | refine blk_drew ?_ | refine blk_alloc ?_ _)); refine blk_put (cs := #[.int .i64 ((rd_T36 l0_2 a1).f0), .int .i64 ((rd_T36 l0_2 a1).f1), .bool (false), .bool false]) ?_ 3 _ rfl; (with_reducible repeat (first | refine blk_drewN ?_ _ | refine blk_drew ?_ | refine blk_alloc ?_ _)); refine blk_put (cs := #[.int .i64 ((rd_T36 l0_2 a1).f0), .int .i64 ((rd_T36 l0_2 a1).f1), .bool false, .bool false]) ?_ 2 _ rfl; (with_reducible repeat (first | refine blk_drewN ?_ _ | refine blk_drew ?_ | refine blk_alloc ?_ _)); refine blk_put (cs := #[.int .i64 ((rd_T36 l0_2 a1).f0), .int .i64 0, .bool false, .bool false]) ?_ 1 _ rfl; (with_reducible repeat (first | refine blk_drewN ?_ _ | refine blk_drew ?_ | refine blk_alloc ?_ _)); refine blk_put (cs := #[.int .i64 0, .int .i64 0, .bool false, .bool false]) ?_ 0 _ rfl; (with_reducible repeat (first | refine blk_drewN ?_ _ | refine blk_drew ?_ | refine blk_alloc ?_ _)); exact BK503.out⟩, ⟨by repeat (first | (with_reducible first | exact HB.out | apply below_alloc | apply pw_below_drewN | apply below_drew1 | refine below_set ?_ GE498.out | refine below_set ?_ GE499.out | refine below_set ?_ GE503.out) | exact HB.out)⟩⟩
          case rest =>
            clear HC10
            try clear c1
            try clear c2
            try clear p2
            try clear q2
            try clear c3
            try clear c4
            try clear c5
            try clear c5b0
            try clear c5b1
            try clear p5
            try clear q5
            try clear hx5
            try clear c7
            try clear c8
            try clear c8b0
            try clear c9
            try clear c9b0
            try clear c13
            try clear c18
            try clear c19
            try clear q21
            try clear c22
            try clear c23
            try clear c24
            try clear c26
            try clear c26b0
            try clear c26b1
            try clear c27
            try clear c28
            try clear c29
            try clear c30
            try clear c31
            try clear hcz14_0
            try clear hcz14_1
            try clear hcz14_2
            try clear hcz16_0
            try clear hcz16_1
            try clear hcz16_2
            try clear hcz20_0
            try clear hcz20_1
            try clear hcz20_2
            try clear hcz20_3
            try clear hcz25_0
            try clear hcz25_1
            try clear hcz25_2
            try clear hcz25_3
            try clear hcz29_0
            try clear hcz29_1
            try clear hcz29_2
            try clear hcz29_3
            try clear hcz32_0
            try clear hcz32_1
            try clear hcz32_2
            try clear hcz32_3
            try clear hfz14_0
            try clear hfz14_1
            try clear hfz14_2
            try clear hfz16_0
            try clear hfz16_1
            try clear hfz16_2
            try clear hfz20_0
            try clear hfz20_1
            try clear hfz20_2
            try clear hfz20_3
            try clear hfz25_0
            try clear hfz25_1
            try clear hfz25_2
            try clear hfz25_3
            try clear hfz29_0
            try clear hfz29_1
            try clear hfz29_2
            try clear hfz29_3
            try clear hfz32_0
            try clear hfz32_1
            try clear hfz32_2
            try clear hfz32_3
            try clear hx502_0
            try clear hx502_1
            try clear hx502_2
            try clear hx502_3
            try clear p502
            try clear q502
            obtain ⟨kq, x39_9, rfl, HA, HJ9, BK498, BK499, BK503, HB⟩ := hcut
            cases kq with
            | zero => exact absurd HA.out (by simp [crossbarref14_Arrive.j0])
            | succ kj9 =>
              have H := HA.out
              clear HA
              simp only [crossbarref14_Arrive.j0] at H
              by_cases c33 : x39_9 = true
              · subst c33
                have H1 : ((crossbarref14_with.f a0_0 a0_1 l0_2 a1 ((rd_T36 l0_2 a1).f0) ((rd_T36 l0_2 a1).f1) ((rd_T36 l0_2 a1).f2) ((rd_T36 l0_2 a1).f3)).bind fun bt504 => (some (bt504.1, bt504.2.1, bt504.2.2, 4, 0))) = some (r1, r2, r3, r4, r5) := by rw [if_pos rfl] at H; exact H
                clear H
                have H := H1
                clear H1
                replace H := Option.bind_eq_some_iff.mp H
                obtain ⟨⟨t504, t505, t506⟩, A340, H⟩ := H
                replace H : (some (t504, t505, t506, 4, 0)) = some (r1, r2, r3, r4, r5) := H
                have A34 := Aside0.mk A340
                clear A340
                simp only [Option.some.injEq, Prod.mk.injEq] at H
                obtain ⟨rfl, rfl, rfl, rfl, rfl⟩ := H
                have hnb35 := NB498_499.out
                have hnc35 := NB499_498.out
                have hnb36 := NB498_503.out
                have hnc36 := NB503_498.out
                have hcz37_0 : wc.cell? ⟨gb498, 0, none⟩ = some (.int .i64 a0_0) := (blk_cell BK498.out 0).trans rfl
                have hcz37_1 : wc.cell? ⟨gb498, 1, none⟩ = some (.int .i64 a0_1) := (blk_cell BK498.out 1).trans rfl
                have hcz37_2 : wc.cell? ⟨gb498, 2, none⟩ = some (.slice (some ad502) l0_2.length c0_2) := (blk_cell BK498.out 2).trans rfl
                have hfz37_0 := blk_frozen BK498.out 0
                have hfz37_1 := blk_frozen BK498.out 1
                have hfz37_2 := blk_frozen BK498.out 2
                have hnb38 := NB503_499.out
                have hnc38 := NB499_503.out
                have hcz39_0 : wc.cell? ⟨gb503, 0, none⟩ = some (.int .i64 ((rd_T36 l0_2 a1).f0)) := (blk_cell BK503.out 0).trans rfl
                have hcz39_1 : wc.cell? ⟨gb503, 1, none⟩ = some (.int .i64 ((rd_T36 l0_2 a1).f1)) := (blk_cell BK503.out 1).trans rfl
                have hcz39_2 : wc.cell? ⟨gb503, 2, none⟩ = some (.bool ((rd_T36 l0_2 a1).f2)) := (blk_cell BK503.out 2).trans rfl
                have hcz39_3 : wc.cell? ⟨gb503, 3, none⟩ = some (.bool ((rd_T36 l0_2 a1).f3)) := (blk_cell BK503.out 3).trans rfl
                have hfz39_0 := blk_frozen BK503.out 0
                have hfz39_1 := blk_frozen BK503.out 1
                have hfz39_2 := blk_frozen BK503.out 2
                have hfz39_3 := blk_frozen BK503.out 3
                go_wp2_with (first | ((with_reducible refine gate_callee (f := 51) rfl ?_); refine goesL_ (some 43) rfl rfl Try.func51 (by kernel_rfl) rfl #[.agg #[.int .i64 a0_0, .int .i64 a0_1, .slice (some ad502) l0_2.length c0_2], .int .i64 a1, .agg #[.int .i64 ((rd_T36 l0_2 a1).f0), .int .i64 ((rd_T36 l0_2 a1).f1), .bool ((rd_T36 l0_2 a1).f2), .bool ((rd_T36 l0_2 a1).f3)]] rfl (by (try simp only [List.map_toArray, List.map_cons, List.map_nil]); first | done | rfl | (simp only [List.length_drop, List.length_take]; rfl)) ?_; (with_reducible refine (crossbarref14_with.calls a0_0 a0_1 _ _ l0_2 a1 ((rd_T36 l0_2 a1).f0) ((rd_T36 l0_2 a1).f1) ((rd_T36 l0_2 a1).f2) ((rd_T36 l0_2 a1).f3) t504 t505 t506 _ ?side1 ?side2 A34.out).mono ?_); (case side1 => repeat (first | exact (Kd.C_below HR0_2.out HB.out) | (with_reducible refine Kd.C_alloc ?_ _) | (with_reducible refine Kd.C_drewN ?_ _) | (with_reducible refine Kd.C_drew ?_))); (case side2 => exact HC0_2.out); rintro e w40 ⟨v507, rfl, ho0, hb⟩; refine ⟨_, rfl, ?_⟩; have n0_ := Aside0.mk (Kd.R_lower (Kd.R_newB ho0 (g := gb503) (o := .cells #[.int .i64 ((rd_T36 l0_2 a1).f0), .int .i64 ((rd_T36 l0_2 a1).f1), .bool ((rd_T36 l0_2 a1).f2), .bool ((rd_T36 l0_2 a1).f3)] 36 (0, 0)) (by (with_reducible repeat (first | refine blk_drewN ?_ _ | refine blk_drew ?_ | refine blk_alloc ?_ _)); exact BK503.out)) (below_size (by repeat (first | (with_reducible first | exact HB.out | apply below_alloc | apply pw_below_drewN | apply below_drew1 | refine below_set ?_ GE498.out | refine below_set ?_ GE499.out | refine below_set ?_ GE503.out) | exact HB.out)))); have n1_ := Aside0.mk (blk_below (g := gb498) (o := .cells #[.int .i64 a0_0, .int .i64 a0_1, .slice (some ad502) l0_2.length c0_2] 26 (0, 0)) (by (with_reducible repeat (first | refine blk_drewN ?_ _ | refine blk_drew ?_ | refine blk_alloc ?_ _)); exact BK498.out) hb); have n2_ := Aside0.mk (blk_below (g := gb499) (o := .cells #[.int .i64 0, .int .i64 0, .slice none 0 0] 26 (0, 0)) (by (with_reducible repeat (first | refine blk_drewN ?_ _ | refine blk_drew ?_ | refine blk_alloc ?_ _)); exact BK499.out) hb); have n3_ := Aside0.mk (blk_below (g := gb503) (o := .cells #[.int .i64 ((rd_T36 l0_2 a1).f0), .int .i64 ((rd_T36 l0_2 a1).f1), .bool ((rd_T36 l0_2 a1).f2), .bool ((rd_T36 l0_2 a1).f3)] 36 (0, 0)) (by (with_reducible repeat (first | refine blk_drewN ?_ _ | refine blk_drew ?_ | refine blk_alloc ?_ _)); exact BK503.out) hb); have n4_ := Aside0.mk (below_step (by repeat (first | (with_reducible first | exact HB.out | apply below_alloc | apply pw_below_drewN | apply below_drew1 | refine below_set ?_ GE498.out | refine below_set ?_ GE499.out | refine below_set ?_ GE503.out) | exact HB.out)) hb); clear BK498; clear BK499; clear BK503; clear HB; have HO508 := n0_; have BK498 := n1_; have BK499 := n2_; have BK503 := n3_; have HB := n4_; clear n0_ n1_ n2_ n3_ n4_; (try clear hb); (try clear hb2); (try clear hk); (try clear hi); (try clear ho0); have hcz41_0 : w40.cell? ⟨gb499, 0, none⟩ = some (.int .i64 0) := (blk_cell BK499.out 0).trans rfl; have hcz41_1 : w40.cell? ⟨gb499, 1, none⟩ = some (.int .i64 0) := (blk_cell BK499.out 1).trans rfl; have hcz41_2 : w40.cell? ⟨gb499, 2, none⟩ = some (.slice none 0 0) := (blk_cell BK499.out 2).trans rfl; have hfz41_0 := blk_frozen BK499.out 0; have hfz41_1 := blk_frozen BK499.out 1; have hfz41_2 := blk_frozen BK499.out 2; obtain ⟨Ao42, co42, eo42⟩ := Kd.R_slice HO508.out; subst eo42))
                refine bodyPost_ret (results_ctt rfl _ _ gb499 26 #[.int .i64 t504, .int .i64 t505, .slice Ao42 t506.length co42] (0, 0) _ rfl (by (with_reducible repeat (first | refine blk_drewN ?_ _ | refine blk_drew ?_ | refine blk_alloc ?_ _)); refine blk_put (cs := #[.int .i64 t504, .int .i64 t505, .slice none 0 0]) ?_ 2 _ rfl; (with_reducible repeat (first | refine blk_drewN ?_ _ | refine blk_drew ?_ | refine blk_alloc ?_ _)); refine blk_put (cs := #[.int .i64 t504, .int .i64 0, .slice none 0 0]) ?_ 1 _ rfl; (with_reducible repeat (first | refine blk_drewN ?_ _ | refine blk_drew ?_ | refine blk_alloc ?_ _)); refine blk_put (cs := #[.int .i64 0, .int .i64 0, .slice none 0 0]) ?_ 0 _ rfl; (with_reducible repeat (first | refine blk_drewN ?_ _ | refine blk_drew ?_ | refine blk_alloc ?_ _)); exact BK499.out) Try.underlying26 rfl (by kernel_rfl)) rfl ?_
                exact ⟨_, by first | rfl | (simp [errW_none, errW_some] <;> rfl) | (simp [*, errW_none, errW_some] <;> rfl), by (with_reducible repeat (first | apply Kd.R_alloc | apply Kd.R_drewN | apply Kd.R_drew)); exact Kd.R_mono (Kd.R_far (p := ⟨gb499, 2, none⟩) (Kd.R_far (p := ⟨gb499, 1, none⟩) (Kd.R_far (p := ⟨gb499, 0, none⟩) (Kd.R_types HO508.out BK499.out (by decide)) (fun _ hk => hk.2) (.int .i64 t504)) (fun _ hk => hk.2) (.int .i64 t505)) (fun _ hk => hk.2) (.slice Ao42 t506.length co42)) (fun _ hk => trivial), by repeat (first | (with_reducible first | exact HB.out | apply below_alloc | apply pw_below_drewN | apply below_drew1 | refine below_set ?_ GE498.out | refine below_set ?_ GE499.out | refine below_set ?_ GE503.out) | exact HB.out)⟩
              · replace c33 := Bool.eq_false_iff.mpr c33
                subst c33
                have H1 : (if ((rd_T36 l0_2 a1).f0) = 1 then ((crossbarref14_Controls.f kj9 a0_0 a0_1 l0_2 a1).bind fun t509 => (crossbarref14_Arrive.j1 kj9 a1 a2 t509 a0_0 a0_1 l0_2 ((rd_T36 l0_2 a1).f0) ((rd_T36 l0_2 a1).f1) ((rd_T36 l0_2 a1).f2) ((rd_T36 l0_2 a1).f3))) else (crossbarref14_Arrive.j1 kj9 a1 a2 false a0_0 a0_1 l0_2 ((rd_T36 l0_2 a1).f0) ((rd_T36 l0_2 a1).f1) ((rd_T36 l0_2 a1).f2) ((rd_T36 l0_2 a1).f3))) = some (r1, r2, r3, r4, r5) := by rw [if_neg (show ¬ (false = true) by decide)] at H; exact H
                clear H
                have H := H1
                clear H1
                have HC43 := Aside0.mk H
                clear H
                go_upto_region 9 with (fail)
                go_cut [51] (fun v51 wc => ∃ (kq : Nat) (x51_42 : Bool), v51 = .bool x51_42 ∧ Aside0 (crossbarref14_Arrive.j1 kq a1 a2 x51_42 a0_0 a0_1 l0_2 ((rd_T36 l0_2 a1).f0) ((rd_T36 l0_2 a1).f1) ((rd_T36 l0_2 a1).f2) ((rd_T36 l0_2 a1).f3) = some (r1, r2, r3, r4, r5)) ∧ Aside0 (kq ≤ kj9) ∧ Aside0 (wc.heap[gb498]? = some (.cells #[.int .i64 a0_0, .int .i64 a0_1, (.slice (some ad502) l0_2.length c0_2)] 26 (0, 0))) ∧ Aside0 (wc.heap[gb499]? = some (.cells #[.int .i64 0, .int .i64 0, (.slice none 0 0)] 26 (0, 0))) ∧ Aside0 (wc.heap[gb503]? = some (.cells #[.int .i64 ((rd_T36 l0_2 a1).f0), .int .i64 ((rd_T36 l0_2 a1).f1), .bool ((rd_T36 l0_2 a1).f2), .bool ((rd_T36 l0_2 a1).f3)] 36 (0, 0))) ∧ Aside0 (Below w.heap.size w wc))
                case first =>
                  have H := HC43.out
                  clear HC43
                  by_cases c44 : ((rd_T36 l0_2 a1).f0) = 1
                  · rw [if_pos c44] at H
                    have c44b0 : (((rd_T36 l0_2 a1).f0) == 1) = true := beq_iff_eq.mpr c44
                    have c44b1 : (((rd_T36 l0_2 a1).f0) != 1) = false := bne_eq_false_iff_eq.mpr c44
                    clear c44
                    (first | rw [c44b0] | (simp only [i64_w, i32_w]; rw [c44b0]) | skip)
                    replace H := Option.bind_eq_some_iff.mp H
                    obtain ⟨t509, A450, H⟩ := H
                    replace H : (crossbarref14_Arrive.j1 kj9 a1 a2 t509 a0_0 a0_1 l0_2 ((rd_T36 l0_2 a1).f0) ((rd_T36 l0_2 a1).f1) ((rd_T36 l0_2 a1).f2) ((rd_T36 l0_2 a1).f3)) = some (r1, r2, r3, r4, r5) := H
                    have A45 := Aside0.mk A450
                    clear A450
                    have H' := Aside0.mk H
                    clear H
                    have hnb46 := NB503_498.out
                    have hnc46 := NB498_503.out
                    have hnb47 := NB503_499.out
                    have hnc47 := NB499_503.out
                    have hcz48_0 : wc.cell? ⟨gb503, 0, none⟩ = some (.int .i64 ((rd_T36 l0_2 a1).f0)) := (blk_cell BK503.out 0).trans rfl
                    have hcz48_1 : wc.cell? ⟨gb503, 1, none⟩ = some (.int .i64 ((rd_T36 l0_2 a1).f1)) := (blk_cell BK503.out 1).trans rfl
                    have hcz48_2 : wc.cell? ⟨gb503, 2, none⟩ = some (.bool ((rd_T36 l0_2 a1).f2)) := (blk_cell BK503.out 2).trans rfl
                    have hcz48_3 : wc.cell? ⟨gb503, 3, none⟩ = some (.bool ((rd_T36 l0_2 a1).f3)) := (blk_cell BK503.out 3).trans rfl
                    have hfz48_0 := blk_frozen BK503.out 0
                    have hfz48_1 := blk_frozen BK503.out 1
                    have hfz48_2 := blk_frozen BK503.out 2
                    have hfz48_3 := blk_frozen BK503.out 3
                    have hnb49 := NB498_499.out
                    have hnc49 := NB499_498.out
                    have hcz50_0 : wc.cell? ⟨gb498, 0, none⟩ = some (.int .i64 a0_0) := (blk_cell BK498.out 0).trans rfl
                    have hcz50_1 : wc.cell? ⟨gb498, 1, none⟩ = some (.int .i64 a0_1) := (blk_cell BK498.out 1).trans rfl
                    have hcz50_2 : wc.cell? ⟨gb498, 2, none⟩ = some (.slice (some ad502) l0_2.length c0_2) := (blk_cell BK498.out 2).trans rfl
                    have hfz50_0 := blk_frozen BK498.out 0
                    have hfz50_1 := blk_frozen BK498.out 1
                    have hfz50_2 := blk_frozen BK498.out 2
                    go_wp2_with (first | (go_at_call 52; (with_reducible refine (crossbarref14_Controls.calls kj9 a0_0 a0_1 _ _ l0_2 a1 t509 _ ?side1 ?side2 A45.out).mono ?_); (case side1 => repeat (first | exact (Kd.C_below HR0_2.out HB.out) | (with_reducible refine Kd.C_alloc ?_ _) | (with_reducible refine Kd.C_drewN ?_ _) | (with_reducible refine Kd.C_drew ?_))); (case side2 => exact HC0_2.out); rintro e w51 ⟨rfl, hb⟩; have n0_ := Aside0.mk (blk_below (g := gb498) (o := .cells #[.int .i64 a0_0, .int .i64 a0_1, .slice (some ad502) l0_2.length c0_2] 26 (0, 0)) (by (with_reducible repeat (first | refine blk_drewN ?_ _ | refine blk_drew ?_ | refine blk_alloc ?_ _)); exact BK498.out) hb); have n1_ := Aside0.mk (blk_below (g := gb499) (o := .cells #[.int .i64 0, .int .i64 0, .slice none 0 0] 26 (0, 0)) (by (with_reducible repeat (first | refine blk_drewN ?_ _ | refine blk_drew ?_ | refine blk_alloc ?_ _)); exact BK499.out) hb); have n2_ := Aside0.mk (blk_below (g := gb503) (o := .cells #[.int .i64 ((rd_T36 l0_2 a1).f0), .int .i64 ((rd_T36 l0_2 a1).f1), .bool ((rd_T36 l0_2 a1).f2), .bool ((rd_T36 l0_2 a1).f3)] 36 (0, 0)) (by (with_reducible repeat (first | refine blk_drewN ?_ _ | refine blk_drew ?_ | refine blk_alloc ?_ _)); exact BK503.out) hb); have n3_ := Aside0.mk (below_step (by repeat (first | (with_reducible first | exact HB.out | apply below_alloc | apply pw_below_drewN | apply below_drew1 | refine below_set ?_ GE498.out | refine below_set ?_ GE499.out | refine below_set ?_ GE503.out) | exact HB.out)) hb); clear BK498; clear BK499; clear BK503; clear HB; have BK498 := n0_; have BK499 := n1_; have BK503 := n2_; have HB := n3_; clear n0_ n1_ n2_ n3_; (try clear hb); (try clear hb2); (try clear hk); (try clear hi)))
                    go_meet
                    case rel => (try rw [← Nbq21.out]); exact ⟨_, (t509), (by first | rfl | (simp; done) | (simp [*]; done)), H', ⟨by have := HJ9.out; first | omega | exact Nat.le_refl _⟩, ⟨by (with_reducible repeat (first | refine blk_drewN ?_ _ | refine blk_drew ?_ | refine blk_alloc ?_ _)); exact BK498.out⟩, ⟨by (with_reducible repeat (first | refine blk_drewN ?_ _ | refine blk_drew ?_ | refine blk_alloc ?_ _)); exact BK499.out⟩, ⟨by (with_reducible repeat (first | refine blk_drewN ?_ _ | refine blk_drew ?_ | refine blk_alloc ?_ _)); exact BK503.out⟩, ⟨by repeat (first | (with_reducible first | exact HB.out | apply below_alloc | apply pw_below_drewN | apply below_drew1 | refine below_set ?_ GE498.out | refine below_set ?_ GE499.out | refine below_set ?_ GE503.out) | exact HB.out)⟩⟩
                  · rw [if_neg c44] at H
                    have c44b0 : (((rd_T36 l0_2 a1).f0) == 1) = false := beq_eq_false_iff_ne.mpr c44
                    have c44b1 : (((rd_T36 l0_2 a1).f0) != 1) = true := bne_iff_ne.mpr c44
                    (first | rw [c44b0] | (simp only [i64_w, i32_w]; rw [c44b0]) | skip)
                    have H' := Aside0.mk H
                    clear H
                    have hnb52 := NB503_498.out
                    have hnc52 := NB498_503.out
                    have hnb53 := NB503_499.out
                    have hnc53 := NB499_503.out
                    have hcz54_0 : wc.cell? ⟨gb503, 0, none⟩ = some (.int .i64 ((rd_T36 l0_2 a1).f0)) := (blk_cell BK503.out 0).trans rfl
                    have hcz54_1 : wc.cell? ⟨gb503, 1, none⟩ = some (.int .i64 ((rd_T36 l0_2 a1).f1)) := (blk_cell BK503.out 1).trans rfl
                    have hcz54_2 : wc.cell? ⟨gb503, 2, none⟩ = some (.bool ((rd_T36 l0_2 a1).f2)) := (blk_cell BK503.out 2).trans rfl
                    have hcz54_3 : wc.cell? ⟨gb503, 3, none⟩ = some (.bool ((rd_T36 l0_2 a1).f3)) := (blk_cell BK503.out 3).trans rfl
                    have hfz54_0 := blk_frozen BK503.out 0
                    have hfz54_1 := blk_frozen BK503.out 1
                    have hfz54_2 := blk_frozen BK503.out 2
                    have hfz54_3 := blk_frozen BK503.out 3
                    go_wp2
                    go_meet
                    case rel => (try rw [← Nbq21.out]); exact ⟨_, (false), (by first | rfl | (simp; done) | (simp [*]; done)), H', ⟨by have := HJ9.out; first | omega | exact Nat.le_refl _⟩, ⟨by (with_reducible repeat (first | refine blk_drewN ?_ _ | refine blk_drew ?_ | refine blk_alloc ?_ _)); exact BK498.out⟩, ⟨by (with_reducible repeat (first | refine blk_drewN ?_ _ | refine blk_drew ?_ | refine blk_alloc ?_ _)); exact BK499.out⟩, ⟨by (with_reducible repeat (first | refine blk_drewN ?_ _ | refine blk_drew ?_ | refine blk_alloc ?_ _)); exact BK503.out⟩, ⟨by repeat (first | (with_reducible first | exact HB.out | apply below_alloc | apply pw_below_drewN | apply below_drew1 | refine below_set ?_ GE498.out | refine below_set ?_ GE499.out | refine below_set ?_ GE503.out) | exact HB.out)⟩⟩
                case rest =>
                  clear HC43
                  try clear c1
                  try clear c2
                  try clear p2
                  try clear q2
                  try clear c3
                  try clear c4
                  try clear c5
                  try clear c5b0
                  try clear c5b1
                  try clear p5
                  try clear q5
                  try clear hx5
                  try clear c7
                  try clear c8
                  try clear c8b0
                  try clear c9
                  try clear c9b0
                  try clear c13
                  try clear c18
                  try clear c19
                  try clear q21
                  try clear c22
                  try clear c23
                  try clear c24
                  try clear c26
                  try clear c26b0
                  try clear c26b1
                  try clear c27
                  try clear c28
                  try clear c29
                  try clear c30
                  try clear c31
                  try clear c33
                  try clear c35
                  try clear c36
                  try clear c38
                  try clear c44
                  try clear c44b0
                  try clear c44b1
                  try clear c46
                  try clear c47
                  try clear c48
                  try clear c49
                  try clear p50
                  try clear q50
                  try clear hx50
                  try clear c51
                  try clear c52
                  try clear c53
                  try clear hcz14_0
                  try clear hcz14_1
                  try clear hcz14_2
                  try clear hcz16_0
                  try clear hcz16_1
                  try clear hcz16_2
                  try clear hcz20_0
                  try clear hcz20_1
                  try clear hcz20_2
                  try clear hcz20_3
                  try clear hcz25_0
                  try clear hcz25_1
                  try clear hcz25_2
                  try clear hcz25_3
                  try clear hcz29_0
                  try clear hcz29_1
                  try clear hcz29_2
                  try clear hcz29_3
                  try clear hcz32_0
                  try clear hcz32_1
                  try clear hcz32_2
                  try clear hcz32_3
                  try clear hcz37_0
                  try clear hcz37_1
                  try clear hcz37_2
                  try clear hcz39_0
                  try clear hcz39_1
                  try clear hcz39_2
                  try clear hcz39_3
                  try clear hcz41_0
                  try clear hcz41_1
                  try clear hcz41_2
                  try clear hcz48_0
                  try clear hcz48_1
                  try clear hcz48_2
                  try clear hcz48_3
                  try clear hcz50_0
                  try clear hcz50_1
                  try clear hcz50_2
                  try clear hcz54_0
                  try clear hcz54_1
                  try clear hcz54_2
                  try clear hcz54_3
                  try clear hfz14_0
                  try clear hfz14_1
                  try clear hfz14_2
                  try clear hfz16_0
                  try clear hfz16_1
                  try clear hfz16_2
                  try clear hfz20_0
                  try clear hfz20_1
                  try clear hfz20_2
                  try clear hfz20_3
                  try clear hfz25_0
                  try clear hfz25_1
                  try clear hfz25_2
                  try clear hfz25_3
                  try clear hfz29_0
                  try clear hfz29_1
                  try clear hfz29_2
                  try clear hfz29_3
                  try clear hfz32_0
                  try clear hfz32_1
                  try clear hfz32_2
                  try clear hfz32_3
                  try clear hfz37_0
                  try clear hfz37_1
                  try clear hfz37_2
                  try clear hfz39_0
                  try clear hfz39_1
                  try clear hfz39_2
                  try clear hfz39_3
                  try clear hfz41_0
                  try clear hfz41_1
                  try clear hfz41_2
                  try clear hfz48_0
                  try clear hfz48_1
                  try clear hfz48_2
                  try clear hfz48_3
                  try clear hfz50_0
                  try clear hfz50_1
                  try clear hfz50_2
                  try clear hfz54_0
                  try clear hfz54_1
                  try clear hfz54_2
                  try clear hfz54_3
                  try clear hx502_0
                  try clear hx502_1
                  try clear hx502_2
                  try clear hx502_3
                  try clear p2
                  try clear p5
                  try clear p502
                  try clear q2
                  try clear q21
                  try clear q5
                  try clear q502
                  obtain ⟨kq, x51_42, rfl, HA, HJ42, BK498, BK499, BK503, HB⟩ := hcut
                  cases kq with
                  | zero => exact absurd HA.out (by simp [crossbarref14_Arrive.j1])
                  | succ kj42 =>
                    have H := HA.out
                    clear HA
                    simp only [crossbarref14_Arrive.j1] at H
                    by_cases c55 : x51_42 = true
                    · subst c55
                      have H1 : ((crossbarref14_with.f a0_0 a0_1 l0_2 a1 ((rd_T36 l0_2 a1).f0) ((rd_T36 l0_2 a1).f1) ((rd_T36 l0_2 a1).f2) ((rd_T36 l0_2 a1).f3)).bind fun bt510 => (some (bt510.1, bt510.2.1, bt510.2.2, 2, 0))) = some (r1, r2, r3, r4, r5) := by rw [if_pos rfl] at H; exact H
                      clear H
                      have H := H1
                      clear H1
                      replace H := Option.bind_eq_some_iff.mp H
                      obtain ⟨⟨t510, t511, t512⟩, A560, H⟩ := H
                      replace H : (some (t510, t511, t512, 2, 0)) = some (r1, r2, r3, r4, r5) := H
                      have A56 := Aside0.mk A560
                      clear A560
                      simp only [Option.some.injEq, Prod.mk.injEq] at H
                      obtain ⟨rfl, rfl, rfl, rfl, rfl⟩ := H
                      have hnb57 := NB498_499.out
                      have hnc57 := NB499_498.out
                      have hnb58 := NB498_503.out
                      have hnc58 := NB503_498.out
                      have hcz59_0 : wc.cell? ⟨gb498, 0, none⟩ = some (.int .i64 a0_0) := (blk_cell BK498.out 0).trans rfl
                      have hcz59_1 : wc.cell? ⟨gb498, 1, none⟩ = some (.int .i64 a0_1) := (blk_cell BK498.out 1).trans rfl
                      have hcz59_2 : wc.cell? ⟨gb498, 2, none⟩ = some (.slice (some ad502) l0_2.length c0_2) := (blk_cell BK498.out 2).trans rfl
                      have hfz59_0 := blk_frozen BK498.out 0
                      have hfz59_1 := blk_frozen BK498.out 1
                      have hfz59_2 := blk_frozen BK498.out 2
                      have hnb60 := NB503_499.out
                      have hnc60 := NB499_503.out
                      have hcz61_0 : wc.cell? ⟨gb503, 0, none⟩ = some (.int .i64 ((rd_T36 l0_2 a1).f0)) := (blk_cell BK503.out 0).trans rfl
                      have hcz61_1 : wc.cell? ⟨gb503, 1, none⟩ = some (.int .i64 ((rd_T36 l0_2 a1).f1)) := (blk_cell BK503.out 1).trans rfl
                      have hcz61_2 : wc.cell? ⟨gb503, 2, none⟩ = some (.bool ((rd_T36 l0_2 a1).f2)) := (blk_cell BK503.out 2).trans rfl
                      have hcz61_3 : wc.cell? ⟨gb503, 3, none⟩ = some (.bool ((rd_T36 l0_2 a1).f3)) := (blk_cell BK503.out 3).trans rfl
                      have hfz61_0 := blk_frozen BK503.out 0
                      have hfz61_1 := blk_frozen BK503.out 1
                      have hfz61_2 := blk_frozen BK503.out 2
                      have hfz61_3 := blk_frozen BK503.out 3
                      go_wp2_with (first | ((with_reducible refine gate_callee (f := 51) rfl ?_); refine goesL_ (some 55) rfl rfl Try.func51 (by kernel_rfl) rfl #[.agg #[.int .i64 a0_0, .int .i64 a0_1, .slice (some ad502) l0_2.length c0_2], .int .i64 a1, .agg #[.int .i64 ((rd_T36 l0_2 a1).f0), .int .i64 ((rd_T36 l0_2 a1).f1), .bool ((rd_T36 l0_2 a1).f2), .bool ((rd_T36 l0_2 a1).f3)]] rfl (by (try simp only [List.map_toArray, List.map_cons, List.map_nil]); first | done | rfl | (simp only [List.length_drop, List.length_take]; rfl)) ?_; (with_reducible refine (crossbarref14_with.calls a0_0 a0_1 _ _ l0_2 a1 ((rd_T36 l0_2 a1).f0) ((rd_T36 l0_2 a1).f1) ((rd_T36 l0_2 a1).f2) ((rd_T36 l0_2 a1).f3) t510 t511 t512 _ ?side1 ?side2 A56.out).mono ?_); (case side1 => repeat (first | exact (Kd.C_below HR0_2.out HB.out) | (with_reducible refine Kd.C_alloc ?_ _) | (with_reducible refine Kd.C_drewN ?_ _) | (with_reducible refine Kd.C_drew ?_))); (case side2 => exact HC0_2.out); rintro e w62 ⟨v513, rfl, ho0, hb⟩; refine ⟨_, rfl, ?_⟩; have n0_ := Aside0.mk (Kd.R_lower (Kd.R_newB ho0 (g := gb503) (o := .cells #[.int .i64 ((rd_T36 l0_2 a1).f0), .int .i64 ((rd_T36 l0_2 a1).f1), .bool ((rd_T36 l0_2 a1).f2), .bool ((rd_T36 l0_2 a1).f3)] 36 (0, 0)) (by (with_reducible repeat (first | refine blk_drewN ?_ _ | refine blk_drew ?_ | refine blk_alloc ?_ _)); exact BK503.out)) (below_size (by repeat (first | (with_reducible first | exact HB.out | apply below_alloc | apply pw_below_drewN | apply below_drew1 | refine below_set ?_ GE498.out | refine below_set ?_ GE499.out | refine below_set ?_ GE503.out) | exact HB.out)))); have n1_ := Aside0.mk (blk_below (g := gb498) (o := .cells #[.int .i64 a0_0, .int .i64 a0_1, .slice (some ad502) l0_2.length c0_2] 26 (0, 0)) (by (with_reducible repeat (first | refine blk_drewN ?_ _ | refine blk_drew ?_ | refine blk_alloc ?_ _)); exact BK498.out) hb); have n2_ := Aside0.mk (blk_below (g := gb499) (o := .cells #[.int .i64 0, .int .i64 0, .slice none 0 0] 26 (0, 0)) (by (with_reducible repeat (first | refine blk_drewN ?_ _ | refine blk_drew ?_ | refine blk_alloc ?_ _)); exact BK499.out) hb); have n3_ := Aside0.mk (blk_below (g := gb503) (o := .cells #[.int .i64 ((rd_T36 l0_2 a1).f0), .int .i64 ((rd_T36 l0_2 a1).f1), .bool ((rd_T36 l0_2 a1).f2), .bool ((rd_T36 l0_2 a1).f3)] 36 (0, 0)) (by (with_reducible repeat (first | refine blk_drewN ?_ _ | refine blk_drew ?_ | refine blk_alloc ?_ _)); exact BK503.out) hb); have n4_ := Aside0.mk (below_step (by repeat (first | (with_reducible first | exact HB.out | apply below_alloc | apply pw_below_drewN | apply below_drew1 | refine below_set ?_ GE498.out | refine below_set ?_ GE499.out | refine below_set ?_ GE503.out) | exact HB.out)) hb); clear BK498; clear BK499; clear BK503; clear HB; have HO514 := n0_; have BK498 := n1_; have BK499 := n2_; have BK503 := n3_; have HB := n4_; clear n0_ n1_ n2_ n3_ n4_; (try clear hb); (try clear hb2); (try clear hk); (try clear hi); (try clear ho0); have hcz63_0 : w62.cell? ⟨gb499, 0, none⟩ = some (.int .i64 0) := (blk_cell BK499.out 0).trans rfl; have hcz63_1 : w62.cell? ⟨gb499, 1, none⟩ = some (.int .i64 0) := (blk_cell BK499.out 1).trans rfl; have hcz63_2 : w62.cell? ⟨gb499, 2, none⟩ = some (.slice none 0 0) := (blk_cell BK499.out 2).trans rfl; have hfz63_0 := blk_frozen BK499.out 0; have hfz63_1 := blk_frozen BK499.out 1; have hfz63_2 := blk_frozen BK499.out 2; obtain ⟨Ao64, co64, eo64⟩ := Kd.R_slice HO514.out; subst eo64))
                      refine bodyPost_ret (results_ctt rfl _ _ gb499 26 #[.int .i64 t510, .int .i64 t511, .slice Ao64 t512.length co64] (0, 0) _ rfl (by (with_reducible repeat (first | refine blk_drewN ?_ _ | refine blk_drew ?_ | refine blk_alloc ?_ _)); refine blk_put (cs := #[.int .i64 t510, .int .i64 t511, .slice none 0 0]) ?_ 2 _ rfl; (with_reducible repeat (first | refine blk_drewN ?_ _ | refine blk_drew ?_ | refine blk_alloc ?_ _)); refine blk_put (cs := #[.int .i64 t510, .int .i64 0, .slice none 0 0]) ?_ 1 _ rfl; (with_reducible repeat (first | refine blk_drewN ?_ _ | refine blk_drew ?_ | refine blk_alloc ?_ _)); refine blk_put (cs := #[.int .i64 0, .int .i64 0, .slice none 0 0]) ?_ 0 _ rfl; (with_reducible repeat (first | refine blk_drewN ?_ _ | refine blk_drew ?_ | refine blk_alloc ?_ _)); exact BK499.out) Try.underlying26 rfl (by kernel_rfl)) rfl ?_
                      exact ⟨_, by first | rfl | (simp [errW_none, errW_some] <;> rfl) | (simp [*, errW_none, errW_some] <;> rfl), by (with_reducible repeat (first | apply Kd.R_alloc | apply Kd.R_drewN | apply Kd.R_drew)); exact Kd.R_mono (Kd.R_far (p := ⟨gb499, 2, none⟩) (Kd.R_far (p := ⟨gb499, 1, none⟩) (Kd.R_far (p := ⟨gb499, 0, none⟩) (Kd.R_types HO514.out BK499.out (by decide)) (fun _ hk => hk.2) (.int .i64 t510)) (fun _ hk => hk.2) (.int .i64 t511)) (fun _ hk => hk.2) (.slice Ao64 t512.length co64)) (fun _ hk => trivial), by repeat (first | (with_reducible first | exact HB.out | apply below_alloc | apply pw_below_drewN | apply below_drew1 | refine below_set ?_ GE498.out | refine below_set ?_ GE499.out | refine below_set ?_ GE503.out) | exact HB.out)⟩
                    · replace c55 := Bool.eq_false_iff.mpr c55
                      subst c55
                      have H1 : (if ((rd_T36 l0_2 a1).f0) = 1 then ((crossbarref14_with.f a0_0 a0_1 l0_2 a1 2 a2 ((rd_T36 l0_2 a1).f2) false).bind fun bt515 => (some (bt515.1, bt515.2.1, bt515.2.2, 3, 0))) else ((crossbarref14_with.f a0_0 a0_1 l0_2 a1 2 a2 ((rd_T36 l0_2 a1).f2) false).bind fun bt520 => (some (bt520.1, bt520.2.1, bt520.2.2, 1, 0)))) = some (r1, r2, r3, r4, r5) := by rw [if_neg (show ¬ (false = true) by decide)] at H; exact H
                      clear H
                      have H := H1
                      clear H1
                      by_cases c65 : ((rd_T36 l0_2 a1).f0) = 1
                      · rw [if_pos c65] at H
                        have c65b0 : (((rd_T36 l0_2 a1).f0) == 1) = true := beq_iff_eq.mpr c65
                        have c65b1 : (((rd_T36 l0_2 a1).f0) != 1) = false := bne_eq_false_iff_eq.mpr c65
                        clear c65
                        replace H := Option.bind_eq_some_iff.mp H
                        obtain ⟨⟨t515, t516, t517⟩, A660, H⟩ := H
                        replace H : (some (t515, t516, t517, 3, 0)) = some (r1, r2, r3, r4, r5) := H
                        have A66 := Aside0.mk A660
                        clear A660
                        simp only [Option.some.injEq, Prod.mk.injEq] at H
                        obtain ⟨rfl, rfl, rfl, rfl, rfl⟩ := H
                        have hnb67 := NB503_498.out
                        have hnc67 := NB498_503.out
                        have hnb68 := NB503_499.out
                        have hnc68 := NB499_503.out
                        have hcz69_0 : wc.cell? ⟨gb503, 0, none⟩ = some (.int .i64 ((rd_T36 l0_2 a1).f0)) := (blk_cell BK503.out 0).trans rfl
                        have hcz69_1 : wc.cell? ⟨gb503, 1, none⟩ = some (.int .i64 ((rd_T36 l0_2 a1).f1)) := (blk_cell BK503.out 1).trans rfl
                        have hcz69_2 : wc.cell? ⟨gb503, 2, none⟩ = some (.bool ((rd_T36 l0_2 a1).f2)) := (blk_cell BK503.out 2).trans rfl
                        have hcz69_3 : wc.cell? ⟨gb503, 3, none⟩ = some (.bool ((rd_T36 l0_2 a1).f3)) := (blk_cell BK503.out 3).trans rfl
                        have hfz69_0 := blk_frozen BK503.out 0
                        have hfz69_1 := blk_frozen BK503.out 1
                        have hfz69_2 := blk_frozen BK503.out 2
                        have hfz69_3 := blk_frozen BK503.out 3
                        have hnb70 := NB498_499.out
                        have hnc70 := NB499_498.out
                        have hcz71_0 : wc.cell? ⟨gb498, 0, none⟩ = some (.int .i64 a0_0) := (blk_cell BK498.out 0).trans rfl
                        have hcz71_1 : wc.cell? ⟨gb498, 1, none⟩ = some (.int .i64 a0_1) := (blk_cell BK498.out 1).trans rfl
                        have hcz71_2 : wc.cell? ⟨gb498, 2, none⟩ = some (.slice (some ad502) l0_2.length c0_2) := (blk_cell BK498.out 2).trans rfl
                        have hfz71_0 := blk_frozen BK498.out 0
                        have hfz71_1 := blk_frozen BK498.out 1
                        have hfz71_2 := blk_frozen BK498.out 2
                        go_wp2_with (first | ((with_reducible refine gate_callee (f := 51) rfl ?_); refine goesL_ (some 66) rfl rfl Try.func51 (by kernel_rfl) rfl #[.agg #[.int .i64 a0_0, .int .i64 a0_1, .slice (some ad502) l0_2.length c0_2], .int .i64 a1, .agg #[.int .i64 2, .int .i64 a2, .bool ((rd_T36 l0_2 a1).f2), .bool false]] rfl (by (try simp only [List.map_toArray, List.map_cons, List.map_nil]); first | done | rfl | (simp only [List.length_drop, List.length_take]; rfl)) ?_; (with_reducible refine (crossbarref14_with.calls a0_0 a0_1 _ _ l0_2 a1 2 a2 ((rd_T36 l0_2 a1).f2) false t515 t516 t517 _ ?side1 ?side2 A66.out).mono ?_); (case side1 => exact Kd.C_below HR0_2.out (by repeat (first | (with_reducible first | exact HB.out | apply below_alloc | apply pw_below_drewN | apply below_drew1 | refine below_set ?_ GE498.out | refine below_set ?_ GE499.out | refine below_set ?_ GE503.out) | exact HB.out))); (case side2 => exact HC0_2.out); rintro e w72 ⟨v518, rfl, ho0, hb⟩; refine ⟨_, rfl, ?_⟩; have n0_ := Aside0.mk (Kd.R_lower (Kd.R_newB ho0 (g := gb503) (o := .cells #[.int .i64 2, .int .i64 a2, .bool ((rd_T36 l0_2 a1).f2), .bool false] 36 (0, 0)) (by (with_reducible repeat (first | refine blk_drewN ?_ _ | refine blk_drew ?_ | refine blk_alloc ?_ _)); refine blk_put (cs := #[.int .i64 2, .int .i64 a2, .bool ((rd_T36 l0_2 a1).f2), .bool ((rd_T36 l0_2 a1).f3)]) ?_ 3 _ rfl; (with_reducible repeat (first | refine blk_drewN ?_ _ | refine blk_drew ?_ | refine blk_alloc ?_ _)); refine blk_put (cs := #[.int .i64 2, .int .i64 ((rd_T36 l0_2 a1).f1), .bool ((rd_T36 l0_2 a1).f2), .bool ((rd_T36 l0_2 a1).f3)]) ?_ 1 _ rfl; (with_reducible repeat (first | refine blk_drewN ?_ _ | refine blk_drew ?_ | refine blk_alloc ?_ _)); refine blk_put (cs := #[.int .i64 ((rd_T36 l0_2 a1).f0), .int .i64 ((rd_T36 l0_2 a1).f1), .bool ((rd_T36 l0_2 a1).f2), .bool ((rd_T36 l0_2 a1).f3)]) ?_ 0 _ rfl; (with_reducible repeat (first | refine blk_drewN ?_ _ | refine blk_drew ?_ | refine blk_alloc ?_ _)); exact BK503.out)) (below_size (by repeat (first | (with_reducible first | exact HB.out | apply below_alloc | apply pw_below_drewN | apply below_drew1 | refine below_set ?_ GE498.out | refine below_set ?_ GE499.out | refine below_set ?_ GE503.out) | exact HB.out)))); have n1_ := Aside0.mk (blk_below (g := gb498) (o := .cells #[.int .i64 a0_0, .int .i64 a0_1, .slice (some ad502) l0_2.length c0_2] 26 (0, 0)) (by (with_reducible repeat (first | refine blk_drewN ?_ _ | refine blk_drew ?_ | refine blk_alloc ?_ _)); refine blk_far ?_ NB498_503.out _; (with_reducible repeat (first | refine blk_drewN ?_ _ | refine blk_drew ?_ | refine blk_alloc ?_ _)); refine blk_far ?_ NB498_503.out _; (with_reducible repeat (first | refine blk_drewN ?_ _ | refine blk_drew ?_ | refine blk_alloc ?_ _)); refine blk_far ?_ NB498_503.out _; (with_reducible repeat (first | refine blk_drewN ?_ _ | refine blk_drew ?_ | refine blk_alloc ?_ _)); exact BK498.out) hb); have n2_ := Aside0.mk (blk_below (g := gb499) (o := .cells #[.int .i64 0, .int .i64 0, .slice none 0 0] 26 (0, 0)) (by (with_reducible repeat (first | refine blk_drewN ?_ _ | refine blk_drew ?_ | refine blk_alloc ?_ _)); refine blk_far ?_ NB499_503.out _; (with_reducible repeat (first | refine blk_drewN ?_ _ | refine blk_drew ?_ | refine blk_alloc ?_ _)); refine blk_far ?_ NB499_503.out _; (with_reducible repeat (first | refine blk_drewN ?_ _ | refine blk_drew ?_ | refine blk_alloc ?_ _)); refine blk_far ?_ NB499_503.out _; (with_reducible repeat (first | refine blk_drewN ?_ _ | refine blk_drew ?_ | refine blk_alloc ?_ _)); exact BK499.out) hb); have n3_ := Aside0.mk (blk_below (g := gb503) (o := .cells #[.int .i64 2, .int .i64 a2, .bool ((rd_T36 l0_2 a1).f2), .bool false] 36 (0, 0)) (by (with_reducible repeat (first | refine blk_drewN ?_ _ | refine blk_drew ?_ | refine blk_alloc ?_ _)); refine blk_put (cs := #[.int .i64 2, .int .i64 a2, .bool ((rd_T36 l0_2 a1).f2), .bool ((rd_T36 l0_2 a1).f3)]) ?_ 3 _ rfl; (with_reducible repeat (first | refine blk_drewN ?_ _ | refine blk_drew ?_ | refine blk_alloc ?_ _)); refine blk_put (cs := #[.int .i64 2, .int .i64 ((rd_T36 l0_2 a1).f1), .bool ((rd_T36 l0_2 a1).f2), .bool ((rd_T36 l0_2 a1).f3)]) ?_ 1 _ rfl; (with_reducible repeat (first | refine blk_drewN ?_ _ | refine blk_drew ?_ | refine blk_alloc ?_ _)); refine blk_put (cs := #[.int .i64 ((rd_T36 l0_2 a1).f0), .int .i64 ((rd_T36 l0_2 a1).f1), .bool ((rd_T36 l0_2 a1).f2), .bool ((rd_T36 l0_2 a1).f3)]) ?_ 0 _ rfl; (with_reducible repeat (first | refine blk_drewN ?_ _ | refine blk_drew ?_ | refine blk_alloc ?_ _)); exact BK503.out) hb); have n4_ := Aside0.mk (below_step (by repeat (first | (with_reducible first | exact HB.out | apply below_alloc | apply pw_below_drewN | apply below_drew1 | refine below_set ?_ GE498.out | refine below_set ?_ GE499.out | refine below_set ?_ GE503.out) | exact HB.out)) hb); clear BK498; clear BK499; clear BK503; clear HB; have HO519 := n0_; have BK498 := n1_; have BK499 := n2_; have BK503 := n3_; have HB := n4_; clear n0_ n1_ n2_ n3_ n4_; (try clear hb); (try clear hb2); (try clear hk); (try clear hi); (try clear ho0); have hcz73_0 : w72.cell? ⟨gb499, 0, none⟩ = some (.int .i64 0) := (blk_cell BK499.out 0).trans rfl; have hcz73_1 : w72.cell? ⟨gb499, 1, none⟩ = some (.int .i64 0) := (blk_cell BK499.out 1).trans rfl; have hcz73_2 : w72.cell? ⟨gb499, 2, none⟩ = some (.slice none 0 0) := (blk_cell BK499.out 2).trans rfl; have hfz73_0 := blk_frozen BK499.out 0; have hfz73_1 := blk_frozen BK499.out 1; have hfz73_2 := blk_frozen BK499.out 2; obtain ⟨Ao74, co74, eo74⟩ := Kd.R_slice HO519.out; subst eo74))
                        refine bodyPost_ret (results_ctt rfl _ _ gb499 26 #[.int .i64 t515, .int .i64 t516, .slice Ao74 t517.length co74] (0, 0) _ rfl (by (with_reducible repeat (first | refine blk_drewN ?_ _ | refine blk_drew ?_ | refine blk_alloc ?_ _)); refine blk_put (cs := #[.int .i64 t515, .int .i64 t516, .slice none 0 0]) ?_ 2 _ rfl; (with_reducible repeat (first | refine blk_drewN ?_ _ | refine blk_drew ?_ | refine blk_alloc ?_ _)); refine blk_put (cs := #[.int .i64 t515, .int .i64 0, .slice none 0 0]) ?_ 1 _ rfl; (with_reducible repeat (first | refine blk_drewN ?_ _ | refine blk_drew ?_ | refine blk_alloc ?_ _)); refine blk_put (cs := #[.int .i64 0, .int .i64 0, .slice none 0 0]) ?_ 0 _ rfl; (with_reducible repeat (first | refine blk_drewN ?_ _ | refine blk_drew ?_ | refine blk_alloc ?_ _)); exact BK499.out) Try.underlying26 rfl (by kernel_rfl)) rfl ?_
                        exact ⟨_, by first | rfl | (simp [errW_none, errW_some] <;> rfl) | (simp [*, errW_none, errW_some] <;> rfl), by (with_reducible repeat (first | apply Kd.R_alloc | apply Kd.R_drewN | apply Kd.R_drew)); exact Kd.R_mono (Kd.R_far (p := ⟨gb499, 2, none⟩) (Kd.R_far (p := ⟨gb499, 1, none⟩) (Kd.R_far (p := ⟨gb499, 0, none⟩) (Kd.R_types HO519.out BK499.out (by decide)) (fun _ hk => hk.2) (.int .i64 t515)) (fun _ hk => hk.2) (.int .i64 t516)) (fun _ hk => hk.2) (.slice Ao74 t517.length co74)) (fun _ hk => trivial), by repeat (first | (with_reducible first | exact HB.out | apply below_alloc | apply pw_below_drewN | apply below_drew1 | refine below_set ?_ GE498.out | refine below_set ?_ GE499.out | refine below_set ?_ GE503.out) | exact HB.out)⟩
                      · rw [if_neg c65] at H
                        have c65b0 : (((rd_T36 l0_2 a1).f0) == 1) = false := beq_eq_false_iff_ne.mpr c65
                        have c65b1 : (((rd_T36 l0_2 a1).f0) != 1) = true := bne_iff_ne.mpr c65
                        replace H := Option.bind_eq_some_iff.mp H
                        obtain ⟨⟨t520, t521, t522⟩, A750, H⟩ := H
                        replace H : (some (t520, t521, t522, 1, 0)) = some (r1, r2, r3, r4, r5) := H
                        have A75 := Aside0.mk A750
                        clear A750
                        simp only [Option.some.injEq, Prod.mk.injEq] at H
                        obtain ⟨rfl, rfl, rfl, rfl, rfl⟩ := H
                        have hnb76 := NB503_498.out
                        have hnc76 := NB498_503.out
                        have hnb77 := NB503_499.out
                        have hnc77 := NB499_503.out
                        have hcz78_0 : wc.cell? ⟨gb503, 0, none⟩ = some (.int .i64 ((rd_T36 l0_2 a1).f0)) := (blk_cell BK503.out 0).trans rfl
                        have hcz78_1 : wc.cell? ⟨gb503, 1, none⟩ = some (.int .i64 ((rd_T36 l0_2 a1).f1)) := (blk_cell BK503.out 1).trans rfl
                        have hcz78_2 : wc.cell? ⟨gb503, 2, none⟩ = some (.bool ((rd_T36 l0_2 a1).f2)) := (blk_cell BK503.out 2).trans rfl
                        have hcz78_3 : wc.cell? ⟨gb503, 3, none⟩ = some (.bool ((rd_T36 l0_2 a1).f3)) := (blk_cell BK503.out 3).trans rfl
                        have hfz78_0 := blk_frozen BK503.out 0
                        have hfz78_1 := blk_frozen BK503.out 1
                        have hfz78_2 := blk_frozen BK503.out 2
                        have hfz78_3 := blk_frozen BK503.out 3
                        have hnb79 := NB498_499.out
                        have hnc79 := NB499_498.out
                        have hcz80_0 : wc.cell? ⟨gb498, 0, none⟩ = some (.int .i64 a0_0) := (blk_cell BK498.out 0).trans rfl
                        have hcz80_1 : wc.cell? ⟨gb498, 1, none⟩ = some (.int .i64 a0_1) := (blk_cell BK498.out 1).trans rfl
                        have hcz80_2 : wc.cell? ⟨gb498, 2, none⟩ = some (.slice (some ad502) l0_2.length c0_2) := (blk_cell BK498.out 2).trans rfl
                        have hfz80_0 := blk_frozen BK498.out 0
                        have hfz80_1 := blk_frozen BK498.out 1
                        have hfz80_2 := blk_frozen BK498.out 2
                        go_wp2_with (first | ((with_reducible refine gate_callee (f := 51) rfl ?_); refine goesL_ (some 66) rfl rfl Try.func51 (by kernel_rfl) rfl #[.agg #[.int .i64 a0_0, .int .i64 a0_1, .slice (some ad502) l0_2.length c0_2], .int .i64 a1, .agg #[.int .i64 2, .int .i64 a2, .bool ((rd_T36 l0_2 a1).f2), .bool false]] rfl (by (try simp only [List.map_toArray, List.map_cons, List.map_nil]); first | done | rfl | (simp only [List.length_drop, List.length_take]; rfl)) ?_; (with_reducible refine (crossbarref14_with.calls a0_0 a0_1 _ _ l0_2 a1 2 a2 ((rd_T36 l0_2 a1).f2) false t520 t521 t522 _ ?side1 ?side2 A75.out).mono ?_); (case side1 => exact Kd.C_below HR0_2.out (by repeat (first | (with_reducible first | exact HB.out | apply below_alloc | apply pw_below_drewN | apply below_drew1 | refine below_set ?_ GE498.out | refine below_set ?_ GE499.out | refine below_set ?_ GE503.out) | exact HB.out))); (case side2 => exact HC0_2.out); rintro e w81 ⟨v523, rfl, ho0, hb⟩; refine ⟨_, rfl, ?_⟩; have n0_ := Aside0.mk (Kd.R_lower (Kd.R_newB ho0 (g := gb503) (o := .cells #[.int .i64 2, .int .i64 a2, .bool ((rd_T36 l0_2 a1).f2), .bool false] 36 (0, 0)) (by (with_reducible repeat (first | refine blk_drewN ?_ _ | refine blk_drew ?_ | refine blk_alloc ?_ _)); refine blk_put (cs := #[.int .i64 2, .int .i64 a2, .bool ((rd_T36 l0_2 a1).f2), .bool ((rd_T36 l0_2 a1).f3)]) ?_ 3 _ rfl; (with_reducible repeat (first | refine blk_drewN ?_ _ | refine blk_drew ?_ | refine blk_alloc ?_ _)); refine blk_put (cs := #[.int .i64 2, .int .i64 ((rd_T36 l0_2 a1).f1), .bool ((rd_T36 l0_2 a1).f2), .bool ((rd_T36 l0_2 a1).f3)]) ?_ 1 _ rfl; (with_reducible repeat (first | refine blk_drewN ?_ _ | refine blk_drew ?_ | refine blk_alloc ?_ _)); refine blk_put (cs := #[.int .i64 ((rd_T36 l0_2 a1).f0), .int .i64 ((rd_T36 l0_2 a1).f1), .bool ((rd_T36 l0_2 a1).f2), .bool ((rd_T36 l0_2 a1).f3)]) ?_ 0 _ rfl; (with_reducible repeat (first | refine blk_drewN ?_ _ | refine blk_drew ?_ | refine blk_alloc ?_ _)); exact BK503.out)) (below_size (by repeat (first | (with_reducible first | exact HB.out | apply below_alloc | apply pw_below_drewN | apply below_drew1 | refine below_set ?_ GE498.out | refine below_set ?_ GE499.out | refine below_set ?_ GE503.out) | exact HB.out)))); have n1_ := Aside0.mk (blk_below (g := gb498) (o := .cells #[.int .i64 a0_0, .int .i64 a0_1, .slice (some ad502) l0_2.length c0_2] 26 (0, 0)) (by (with_reducible repeat (first | refine blk_drewN ?_ _ | refine blk_drew ?_ | refine blk_alloc ?_ _)); refine blk_far ?_ NB498_503.out _; (with_reducible repeat (first | refine blk_drewN ?_ _ | refine blk_drew ?_ | refine blk_alloc ?_ _)); refine blk_far ?_ NB498_503.out _; (with_reducible repeat (first | refine blk_drewN ?_ _ | refine blk_drew ?_ | refine blk_alloc ?_ _)); refine blk_far ?_ NB498_503.out _; (with_reducible repeat (first | refine blk_drewN ?_ _ | refine blk_drew ?_ | refine blk_alloc ?_ _)); exact BK498.out) hb); have n2_ := Aside0.mk (blk_below (g := gb499) (o := .cells #[.int .i64 0, .int .i64 0, .slice none 0 0] 26 (0, 0)) (by (with_reducible repeat (first | refine blk_drewN ?_ _ | refine blk_drew ?_ | refine blk_alloc ?_ _)); refine blk_far ?_ NB499_503.out _; (with_reducible repeat (first | refine blk_drewN ?_ _ | refine blk_drew ?_ | refine blk_alloc ?_ _)); refine blk_far ?_ NB499_503.out _; (with_reducible repeat (first | refine blk_drewN ?_ _ | refine blk_drew ?_ | refine blk_alloc ?_ _)); refine blk_far ?_ NB499_503.out _; (with_reducible repeat (first | refine blk_drewN ?_ _ | refine blk_drew ?_ | refine blk_alloc ?_ _)); exact BK499.out) hb); have n3_ := Aside0.mk (blk_below (g := gb503) (o := .cells #[.int .i64 2, .int .i64 a2, .bool ((rd_T36 l0_2 a1).f2), .bool false] 36 (0, 0)) (by (with_reducible repeat (first | refine blk_drewN ?_ _ | refine blk_drew ?_ | refine blk_alloc ?_ _)); refine blk_put (cs := #[.int .i64 2, .int .i64 a2, .bool ((rd_T36 l0_2 a1).f2), .bool ((rd_T36 l0_2 a1).f3)]) ?_ 3 _ rfl; (with_reducible repeat (first | refine blk_drewN ?_ _ | refine blk_drew ?_ | refine blk_alloc ?_ _)); refine blk_put (cs := #[.int .i64 2, .int .i64 ((rd_T36 l0_2 a1).f1), .bool ((rd_T36 l0_2 a1).f2), .bool ((rd_T36 l0_2 a1).f3)]) ?_ 1 _ rfl; (with_reducible repeat (first | refine blk_drewN ?_ _ | refine blk_drew ?_ | refine blk_alloc ?_ _)); refine blk_put (cs := #[.int .i64 ((rd_T36 l0_2 a1).f0), .int .i64 ((rd_T36 l0_2 a1).f1), .bool ((rd_T36 l0_2 a1).f2), .bool ((rd_T36 l0_2 a1).f3)]) ?_ 0 _ rfl; (with_reducible repeat (first | refine blk_drewN ?_ _ | refine blk_drew ?_ | refine blk_alloc ?_ _)); exact BK503.out) hb); have n4_ := Aside0.mk (below_step (by repeat (first | (with_reducible first | exact HB.out | apply below_alloc | apply pw_below_drewN | apply below_drew1 | refine below_set ?_ GE498.out | refine below_set ?_ GE499.out | refine below_set ?_ GE503.out) | exact HB.out)) hb); clear BK498; clear BK499; clear BK503; clear HB; have HO524 := n0_; have BK498 := n1_; have BK499 := n2_; have BK503 := n3_; have HB := n4_; clear n0_ n1_ n2_ n3_ n4_; (try clear hb); (try clear hb2); (try clear hk); (try clear hi); (try clear ho0); have hcz82_0 : w81.cell? ⟨gb499, 0, none⟩ = some (.int .i64 0) := (blk_cell BK499.out 0).trans rfl; have hcz82_1 : w81.cell? ⟨gb499, 1, none⟩ = some (.int .i64 0) := (blk_cell BK499.out 1).trans rfl; have hcz82_2 : w81.cell? ⟨gb499, 2, none⟩ = some (.slice none 0 0) := (blk_cell BK499.out 2).trans rfl; have hfz82_0 := blk_frozen BK499.out 0; have hfz82_1 := blk_frozen BK499.out 1; have hfz82_2 := blk_frozen BK499.out 2; obtain ⟨Ao83, co83, eo83⟩ := Kd.R_slice HO524.out; subst eo83))
                        refine bodyPost_ret (results_ctt rfl _ _ gb499 26 #[.int .i64 t520, .int .i64 t521, .slice Ao83 t522.length co83] (0, 0) _ rfl (by (with_reducible repeat (first | refine blk_drewN ?_ _ | refine blk_drew ?_ | refine blk_alloc ?_ _)); refine blk_put (cs := #[.int .i64 t520, .int .i64 t521, .slice none 0 0]) ?_ 2 _ rfl; (with_reducible repeat (first | refine blk_drewN ?_ _ | refine blk_drew ?_ | refine blk_alloc ?_ _)); refine blk_put (cs := #[.int .i64 t520, .int .i64 0, .slice none 0 0]) ?_ 1 _ rfl; (with_reducible repeat (first | refine blk_drewN ?_ _ | refine blk_drew ?_ | refine blk_alloc ?_ _)); refine blk_put (cs := #[.int .i64 0, .int .i64 0, .slice none 0 0]) ?_ 0 _ rfl; (with_reducible repeat (first | refine blk_drewN ?_ _ | refine blk_drew ?_ | refine blk_alloc ?_ _)); exact BK499.out) Try.underlying26 rfl (by kernel_rfl)) rfl ?_
                        exact ⟨_, by first | rfl | (simp [errW_none, errW_some] <;> rfl) | (simp [*, errW_none, errW_some] <;> rfl), by (with_reducible repeat (first | apply Kd.R_alloc | apply Kd.R_drewN | apply Kd.R_drew)); exact Kd.R_mono (Kd.R_far (p := ⟨gb499, 2, none⟩) (Kd.R_far (p := ⟨gb499, 1, none⟩) (Kd.R_far (p := ⟨gb499, 0, none⟩) (Kd.R_types HO524.out BK499.out (by decide)) (fun _ hk => hk.2) (.int .i64 t520)) (fun _ hk => hk.2) (.int .i64 t521)) (fun _ hk => hk.2) (.slice Ao83 t522.length co83)) (fun _ hk => trivial), by repeat (first | (with_reducible first | exact HB.out | apply below_alloc | apply pw_below_drewN | apply below_drew1 | refine below_set ?_ GE498.out | refine below_set ?_ GE499.out | refine below_set ?_ GE503.out) | exact HB.out)⟩
        · rw [if_neg c9] at H
          exact absurd H (by simp)
      · rw [if_neg c8] at H
        exact absurd H (by simp)
    · replace c7 := Bool.eq_false_iff.mpr c7
      subst c7
      have H1 : (some (0, 0, ([] : List (S36)), 0, 1)) = some (r1, r2, r3, r4, r5) := by rw [if_neg (show ¬ (false = true) by decide)] at H; exact H
      clear H
      have H := H1
      clear H1
      simp only [Option.some.injEq, Prod.mk.injEq] at H
      obtain ⟨rfl, rfl, rfl, rfl, rfl⟩ := H
      go_enter Try.func29, Try.ntmps29
      go_wp2_with (first | ((with_reducible refine gate_dst (N := 3) rfl ?_); refine box_event ?hg (N := 3) ?hd (cs := #[.int .i64 a0_0, .int .i64 a0_1, .slice A0_2 l0_2.length c0_2]) (t := 26) ?hr ?_; (case hd => rfl); (case hg => rfl); (case hr => first | (go_simp; done) | (go_simp; rfl)); intro gb498 hg w84 hbox hb; have n0_ := Aside0.mk (below_step (by repeat (first | (with_reducible first | exact HB.out | apply below_alloc | apply pw_below_drewN | apply below_drew1) | exact HB.out)) hb); have n1_ := Aside0.mk (hbox); have n2_ := Aside0.mk ((by rw [hg]; exact (below_size (by repeat (first | (with_reducible first | exact HB.out | apply below_alloc | apply pw_below_drewN | apply below_drew1) | exact HB.out))) : w.heap.size ≤ gb498)); have n3_ := Aside0.mk ((by rw [hg]; exact (below_size (by repeat (first | (with_reducible first | exact HB.out | apply below_alloc | apply pw_below_drewN | apply below_drew1) | exact HB.out))) : w.heap.size ≤ gb498)); clear HB; have HB := n0_; have BK498 := n1_; have GW498 := n2_; have GE498 := n3_; clear n0_ n1_ n2_ n3_; clear hb hbox hg) | ((with_reducible refine gate_dst (N := 6) rfl ?_); refine box_event ?hg (N := 6) ?hd (cs := #[.int .i64 0, .int .i64 0, .slice none 0 0]) (t := 26) ?hr ?_; (case hd => rfl); (case hg => rfl); (case hr => first | (go_simp; done) | (go_simp; rfl)); intro gb499 hg w85 hbox hb; have n0_ := Aside0.mk (blk_below (g := gb498) (o := .cells #[.int .i64 a0_0, .int .i64 a0_1, .slice A0_2 l0_2.length c0_2] 26 (0, 0)) (by (with_reducible repeat (first | refine blk_drewN ?_ _ | refine blk_drew ?_ | refine blk_alloc ?_ _)); exact BK498.out) hb); have n1_ := Aside0.mk (below_step (by repeat (first | (with_reducible first | exact HB.out | apply below_alloc | apply pw_below_drewN | apply below_drew1 | refine below_set ?_ GE498.out) | exact HB.out)) hb); have n2_ := Aside0.mk (hbox); have n3_ := Aside0.mk ((by rw [hg]; exact (below_size (by repeat (first | (with_reducible first | exact HB.out | apply below_alloc | apply pw_below_drewN | apply below_drew1 | refine below_set ?_ GE498.out) | exact HB.out))) : w.heap.size ≤ gb499)); have n4_ := Aside0.mk ((by rw [hg]; exact (below_size (by repeat (first | (with_reducible first | exact HB.out | apply below_alloc | apply pw_below_drewN | apply below_drew1 | refine below_set ?_ GE498.out) | exact HB.out))) : w.heap.size ≤ gb499)); have n5_ := Aside0.mk ((by rw [hg]; exact Nat.ne_of_lt (blk_lt (g := gb498) (o := .cells #[.int .i64 a0_0, .int .i64 a0_1, .slice A0_2 l0_2.length c0_2] 26 (0, 0)) (by (with_reducible repeat (first | refine blk_drewN ?_ _ | refine blk_drew ?_ | refine blk_alloc ?_ _)); exact BK498.out)) : gb498 ≠ gb499)); have n6_ := Aside0.mk ((by rw [hg]; exact Nat.ne_of_gt (blk_lt (g := gb498) (o := .cells #[.int .i64 a0_0, .int .i64 a0_1, .slice A0_2 l0_2.length c0_2] 26 (0, 0)) (by (with_reducible repeat (first | refine blk_drewN ?_ _ | refine blk_drew ?_ | refine blk_alloc ?_ _)); exact BK498.out)) : gb499 ≠ gb498)); clear BK498; clear HB; have BK498 := n0_; have HB := n1_; have BK499 := n2_; have GW499 := n3_; have GE499 := n4_; have NB498_499 := n5_; have NB499_498 := n6_; clear n0_ n1_ n2_ n3_ n4_ n5_ n6_; clear hb hbox hg; have hnb86 := NB498_499.out; have hnc86 := NB499_498.out; have hcz87_0 : w85.cell? ⟨gb498, 0, none⟩ = some (.int .i64 a0_0) := (blk_cell BK498.out 0).trans rfl; have hcz87_1 : w85.cell? ⟨gb498, 1, none⟩ = some (.int .i64 a0_1) := (blk_cell BK498.out 1).trans rfl; have hcz87_2 : w85.cell? ⟨gb498, 2, none⟩ = some (.slice A0_2 l0_2.length c0_2) := (blk_cell BK498.out 2).trans rfl; have hfz87_0 := blk_frozen BK498.out 0; have hfz87_1 := blk_frozen BK498.out 1; have hfz87_2 := blk_frozen BK498.out 2) | ((with_reducible refine gate_callee (f := 48) rfl ?_); refine goesL_ (some 14) rfl rfl Try.func48 (by kernel_rfl) rfl #[.agg #[.int .i64 a0_0, .int .i64 a0_1, .slice A0_2 l0_2.length c0_2], .int .i64 a1] rfl (by (try simp only [List.map_toArray, List.map_cons, List.map_nil]); first | done | rfl | (simp only [List.length_drop, List.length_take]; rfl)) ?_; (with_reducible refine (crossbarref14_checked.calls k a0_0 a0_1 _ _ l0_2 a1 t500 _ ?side1 ?side2 A4.out).mono ?_); (case side1 => repeat (first | exact (Kd.C_below HR0_2.out HB.out) | (with_reducible refine Kd.C_alloc ?_ _) | (with_reducible refine Kd.C_drewN ?_ _) | (with_reducible refine Kd.C_drew ?_))); (case side2 => exact HC0_2.out); rintro e w88 ⟨rfl, hb⟩; refine ⟨_, rfl, ?_⟩; have n0_ := Aside0.mk (blk_below (g := gb498) (o := .cells #[.int .i64 a0_0, .int .i64 a0_1, .slice A0_2 l0_2.length c0_2] 26 (0, 0)) (by (with_reducible repeat (first | refine blk_drewN ?_ _ | refine blk_drew ?_ | refine blk_alloc ?_ _)); exact BK498.out) hb); have n1_ := Aside0.mk (blk_below (g := gb499) (o := .cells #[.int .i64 0, .int .i64 0, .slice none 0 0] 26 (0, 0)) (by (with_reducible repeat (first | refine blk_drewN ?_ _ | refine blk_drew ?_ | refine blk_alloc ?_ _)); exact BK499.out) hb); have n2_ := Aside0.mk (below_step (by repeat (first | (with_reducible first | exact HB.out | apply below_alloc | apply pw_below_drewN | apply below_drew1 | refine below_set ?_ GE498.out | refine below_set ?_ GE499.out) | exact HB.out)) hb); clear BK498; clear BK499; clear HB; have BK498 := n0_; have BK499 := n1_; have HB := n2_; clear n0_ n1_ n2_; (try clear hb); (try clear hb2); (try clear hk); (try clear hi)) | ((with_reducible refine gate_callee (f := 49) rfl ?_); refine goesL_ (some 20) rfl rfl Try.func49 (by kernel_rfl) rfl #[.int .i64 a2] rfl (by (try simp only [List.map_toArray, List.map_cons, List.map_nil]); first | done | rfl | (simp only [List.length_drop, List.length_take]; rfl)) ?_; (with_reducible refine (crossbarref14_number.calls a2 false _ A6.out).mono ?_); rintro e w' ⟨rfl, ⟨nd, rfl⟩⟩; refine ⟨_, rfl, ?_⟩; (try (rw [drewN_self w88]; generalize hq_ : World.drewN w88 _ = w88; have n0_ : Aside0 (w88.heap[gb498]? = some (.cells #[.int .i64 a0_0, .int .i64 a0_1, .slice A0_2 l0_2.length c0_2] 26 (0, 0))) := ⟨by rw [← hq_]; exact (by (with_reducible repeat (first | refine blk_drewN ?_ _ | refine blk_drew ?_ | refine blk_alloc ?_ _)); exact BK498.out)⟩; have n1_ : Aside0 (w88.heap[gb499]? = some (.cells #[.int .i64 0, .int .i64 0, .slice none 0 0] 26 (0, 0))) := ⟨by rw [← hq_]; exact (by (with_reducible repeat (first | refine blk_drewN ?_ _ | refine blk_drew ?_ | refine blk_alloc ?_ _)); exact BK499.out)⟩; have n2_ : Aside0 (Below w.heap.size w w88) := ⟨by rw [← hq_]; exact (by repeat (first | (with_reducible first | exact HB.out | apply below_alloc | apply pw_below_drewN | apply below_drew1 | refine below_set ?_ GE498.out | refine below_set ?_ GE499.out) | exact HB.out))⟩; clear BK498 BK499 HB hq_; have BK498 := n0_; have BK499 := n1_; have HB := n2_; clear n0_ n1_ n2_)); have hcz89_0 : w88.cell? ⟨gb499, 0, none⟩ = some (.int .i64 0) := (blk_cell BK499.out 0).trans rfl; have hcz89_1 : w88.cell? ⟨gb499, 1, none⟩ = some (.int .i64 0) := (blk_cell BK499.out 1).trans rfl; have hcz89_2 : w88.cell? ⟨gb499, 2, none⟩ = some (.slice none 0 0) := (blk_cell BK499.out 2).trans rfl; have hfz89_0 := blk_frozen BK499.out 0; have hfz89_1 := blk_frozen BK499.out 1; have hfz89_2 := blk_frozen BK499.out 2))
      refine bodyPost_ret (results_ctt rfl _ _ gb499 26 #[.int .i64 0, .int .i64 0, .slice none 0 0] (0, 0) _ rfl (by (with_reducible repeat (first | refine blk_drewN ?_ _ | refine blk_drew ?_ | refine blk_alloc ?_ _)); refine blk_put (cs := #[.int .i64 0, .int .i64 0, .slice none 0 0]) ?_ 2 _ rfl; (with_reducible repeat (first | refine blk_drewN ?_ _ | refine blk_drew ?_ | refine blk_alloc ?_ _)); refine blk_put (cs := #[.int .i64 0, .int .i64 0, .slice none 0 0]) ?_ 1 _ rfl; (with_reducible repeat (first | refine blk_drewN ?_ _ | refine blk_drew ?_ | refine blk_alloc ?_ _)); refine blk_put (cs := #[.int .i64 0, .int .i64 0, .slice none 0 0]) ?_ 0 _ rfl; (with_reducible repeat (first | refine blk_drewN ?_ _ | refine blk_drew ?_ | refine blk_alloc ?_ _)); exact BK499.out) Try.underlying26 rfl (by kernel_rfl)) rfl ?_
      exact ⟨_, by first | rfl | (simp [errW_none, errW_some] <;> rfl) | (simp [*, errW_none, errW_some] <;> rfl), by first | exact Kd.R_nil _ _ _ _ _ | exact Kd.N_nil _ _ _ _ _ | exact Kd.V_nil _ _ _ _ _ | exact Kd.Q_nil _ _ _ _ _ | exact Kd.S_nil _ _ _ _ _, by repeat (first | (with_reducible first | exact HB.out | apply below_alloc | apply pw_below_drewN | apply below_drew1 | refine below_set ?_ GE498.out | refine below_set ?_ GE499.out) | exact HB.out)⟩
  · rw [if_neg c5] at H
    have c5b0 : (t500 == 0) = false := beq_eq_false_iff_ne.mpr c5
    have c5b1 : (t500 != 0) = true := bne_iff_ne.mpr c5
    simp only [Option.some.injEq, Prod.mk.injEq] at H
    obtain ⟨rfl, rfl, rfl, rfl, rfl⟩ := H
    go_enter Try.func29, Try.ntmps29
    go_wp2_with (first | ((with_reducible refine gate_dst (N := 3) rfl ?_); refine box_event ?hg (N := 3) ?hd (cs := #[.int .i64 a0_0, .int .i64 a0_1, .slice A0_2 l0_2.length c0_2]) (t := 26) ?hr ?_; (case hd => rfl); (case hg => rfl); (case hr => first | (go_simp; done) | (go_simp; rfl)); intro gb498 hg w90 hbox hb; have n0_ := Aside0.mk (below_step (by repeat (first | (with_reducible first | exact HB.out | apply below_alloc | apply pw_below_drewN | apply below_drew1) | exact HB.out)) hb); have n1_ := Aside0.mk (hbox); have n2_ := Aside0.mk ((by rw [hg]; exact (below_size (by repeat (first | (with_reducible first | exact HB.out | apply below_alloc | apply pw_below_drewN | apply below_drew1) | exact HB.out))) : w.heap.size ≤ gb498)); have n3_ := Aside0.mk ((by rw [hg]; exact (below_size (by repeat (first | (with_reducible first | exact HB.out | apply below_alloc | apply pw_below_drewN | apply below_drew1) | exact HB.out))) : w.heap.size ≤ gb498)); clear HB; have HB := n0_; have BK498 := n1_; have GW498 := n2_; have GE498 := n3_; clear n0_ n1_ n2_ n3_; clear hb hbox hg) | ((with_reducible refine gate_dst (N := 6) rfl ?_); refine box_event ?hg (N := 6) ?hd (cs := #[.int .i64 0, .int .i64 0, .slice none 0 0]) (t := 26) ?hr ?_; (case hd => rfl); (case hg => rfl); (case hr => first | (go_simp; done) | (go_simp; rfl)); intro gb499 hg w91 hbox hb; have n0_ := Aside0.mk (blk_below (g := gb498) (o := .cells #[.int .i64 a0_0, .int .i64 a0_1, .slice A0_2 l0_2.length c0_2] 26 (0, 0)) (by (with_reducible repeat (first | refine blk_drewN ?_ _ | refine blk_drew ?_ | refine blk_alloc ?_ _)); exact BK498.out) hb); have n1_ := Aside0.mk (below_step (by repeat (first | (with_reducible first | exact HB.out | apply below_alloc | apply pw_below_drewN | apply below_drew1 | refine below_set ?_ GE498.out) | exact HB.out)) hb); have n2_ := Aside0.mk (hbox); have n3_ := Aside0.mk ((by rw [hg]; exact (below_size (by repeat (first | (with_reducible first | exact HB.out | apply below_alloc | apply pw_below_drewN | apply below_drew1 | refine below_set ?_ GE498.out) | exact HB.out))) : w.heap.size ≤ gb499)); have n4_ := Aside0.mk ((by rw [hg]; exact (below_size (by repeat (first | (with_reducible first | exact HB.out | apply below_alloc | apply pw_below_drewN | apply below_drew1 | refine below_set ?_ GE498.out) | exact HB.out))) : w.heap.size ≤ gb499)); have n5_ := Aside0.mk ((by rw [hg]; exact Nat.ne_of_lt (blk_lt (g := gb498) (o := .cells #[.int .i64 a0_0, .int .i64 a0_1, .slice A0_2 l0_2.length c0_2] 26 (0, 0)) (by (with_reducible repeat (first | refine blk_drewN ?_ _ | refine blk_drew ?_ | refine blk_alloc ?_ _)); exact BK498.out)) : gb498 ≠ gb499)); have n6_ := Aside0.mk ((by rw [hg]; exact Nat.ne_of_gt (blk_lt (g := gb498) (o := .cells #[.int .i64 a0_0, .int .i64 a0_1, .slice A0_2 l0_2.length c0_2] 26 (0, 0)) (by (with_reducible repeat (first | refine blk_drewN ?_ _ | refine blk_drew ?_ | refine blk_alloc ?_ _)); exact BK498.out)) : gb499 ≠ gb498)); clear BK498; clear HB; have BK498 := n0_; have HB := n1_; have BK499 := n2_; have GW499 := n3_; have GE499 := n4_; have NB498_499 := n5_; have NB499_498 := n6_; clear n0_ n1_ n2_ n3_ n4_ n5_ n6_; clear hb hbox hg; have hnb92 := NB498_499.out; have hnc92 := NB499_498.out; have hcz93_0 : w91.cell? ⟨gb498, 0, none⟩ = some (.int .i64 a0_0) := (blk_cell BK498.out 0).trans rfl; have hcz93_1 : w91.cell? ⟨gb498, 1, none⟩ = some (.int .i64 a0_1) := (blk_cell BK498.out 1).trans rfl; have hcz93_2 : w91.cell? ⟨gb498, 2, none⟩ = some (.slice A0_2 l0_2.length c0_2) := (blk_cell BK498.out 2).trans rfl; have hfz93_0 := blk_frozen BK498.out 0; have hfz93_1 := blk_frozen BK498.out 1; have hfz93_2 := blk_frozen BK498.out 2) | ((with_reducible refine gate_callee (f := 48) rfl ?_); refine goesL_ (some 14) rfl rfl Try.func48 (by kernel_rfl) rfl #[.agg #[.int .i64 a0_0, .int .i64 a0_1, .slice A0_2 l0_2.length c0_2], .int .i64 a1] rfl (by (try simp only [List.map_toArray, List.map_cons, List.map_nil]); first | done | rfl | (simp only [List.length_drop, List.length_take]; rfl)) ?_; (with_reducible refine (crossbarref14_checked.calls k a0_0 a0_1 _ _ l0_2 a1 t500 _ ?side1 ?side2 A4.out).mono ?_); (case side1 => repeat (first | exact (Kd.C_below HR0_2.out HB.out) | (with_reducible refine Kd.C_alloc ?_ _) | (with_reducible refine Kd.C_drewN ?_ _) | (with_reducible refine Kd.C_drew ?_))); (case side2 => exact HC0_2.out); rintro e w94 ⟨rfl, hb⟩; refine ⟨_, rfl, ?_⟩; have n0_ := Aside0.mk (blk_below (g := gb498) (o := .cells #[.int .i64 a0_0, .int .i64 a0_1, .slice A0_2 l0_2.length c0_2] 26 (0, 0)) (by (with_reducible repeat (first | refine blk_drewN ?_ _ | refine blk_drew ?_ | refine blk_alloc ?_ _)); exact BK498.out) hb); have n1_ := Aside0.mk (blk_below (g := gb499) (o := .cells #[.int .i64 0, .int .i64 0, .slice none 0 0] 26 (0, 0)) (by (with_reducible repeat (first | refine blk_drewN ?_ _ | refine blk_drew ?_ | refine blk_alloc ?_ _)); exact BK499.out) hb); have n2_ := Aside0.mk (below_step (by repeat (first | (with_reducible first | exact HB.out | apply below_alloc | apply pw_below_drewN | apply below_drew1 | refine below_set ?_ GE498.out | refine below_set ?_ GE499.out) | exact HB.out)) hb); clear BK498; clear BK499; clear HB; have BK498 := n0_; have BK499 := n1_; have HB := n2_; clear n0_ n1_ n2_; (try clear hb); (try clear hb2); (try clear hk); (try clear hi); have hcz95_0 : w94.cell? ⟨gb499, 0, none⟩ = some (.int .i64 0) := (blk_cell BK499.out 0).trans rfl; have hcz95_1 : w94.cell? ⟨gb499, 1, none⟩ = some (.int .i64 0) := (blk_cell BK499.out 1).trans rfl; have hcz95_2 : w94.cell? ⟨gb499, 2, none⟩ = some (.slice none 0 0) := (blk_cell BK499.out 2).trans rfl; have hfz95_0 := blk_frozen BK499.out 0; have hfz95_1 := blk_frozen BK499.out 1; have hfz95_2 := blk_frozen BK499.out 2))
    refine bodyPost_ret (results_ctt rfl _ _ gb499 26 #[.int .i64 0, .int .i64 0, .slice none 0 0] (0, 0) _ rfl (by (with_reducible repeat (first | refine blk_drewN ?_ _ | refine blk_drew ?_ | refine blk_alloc ?_ _)); refine blk_put (cs := #[.int .i64 0, .int .i64 0, .slice none 0 0]) ?_ 2 _ rfl; (with_reducible repeat (first | refine blk_drewN ?_ _ | refine blk_drew ?_ | refine blk_alloc ?_ _)); refine blk_put (cs := #[.int .i64 0, .int .i64 0, .slice none 0 0]) ?_ 1 _ rfl; (with_reducible repeat (first | refine blk_drewN ?_ _ | refine blk_drew ?_ | refine blk_alloc ?_ _)); refine blk_put (cs := #[.int .i64 0, .int .i64 0, .slice none 0 0]) ?_ 0 _ rfl; (with_reducible repeat (first | refine blk_drewN ?_ _ | refine blk_drew ?_ | refine blk_alloc ?_ _)); exact BK499.out) Try.underlying26 rfl (by kernel_rfl)) rfl ?_
    exact ⟨_, by first | rfl | (simp [errW_none, errW_some] <;> rfl) | (simp [*, errW_none, errW_some] <;> rfl), by first | exact Kd.R_nil _ _ _ _ _ | exact Kd.N_nil _ _ _ _ _ | exact Kd.V_nil _ _ _ _ _ | exact Kd.Q_nil _ _ _ _ _ | exact Kd.S_nil _ _ _ _ _, by repeat (first | (with_reducible first | exact HB.out | apply below_alloc | apply pw_below_drewN | apply below_drew1 | refine below_set ?_ GE498.out | refine below_set ?_ GE499.out) | exact HB.out)⟩

end Go.Proofs.Ythemnajgdoambaa.Tr
