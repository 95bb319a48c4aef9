/- change of the package trunk, by hand: its contract for each method; printed by a program of ours (wip/tools/emit_change.py). -/
import Derived.Test.YthemnajgdoambaaTh4
namespace Go.Proofs.Ythemnajgdoambaa.Th
open Go.RowKit Go.Proofs.YthemnajgdoambaaW.PrintWords Go.Proofs.YthemnajgdoambaaW.PrintLast Go.Proofs.YthemnajgdoambaaW.PrintMore Go.Proofs.Ythemnajgdoambaa.Tr
set_option linter.unusedVariables false
set_option linter.unusedSimpArgs false

set_option maxHeartbeats 8000000 in
set_option maxRecDepth 100000 in
theorem change_seize (a b : Int) (A : Option Addr) (c : Nat) (l : List S36) (i ref : Int) (w : World) (hr : Kd.C k36 w A l.length l) (hc : l.length ≤ c) (hk : checkS a b l = 0)
    (hi : (decide (0 ≤ i) && decide (i ≤ wrap64 ((l.length : Int) - 1))) = true) (hx : (decide (1 ≤ ref) && decide (ref ≤ 1099511627776)) = true) (ctl : Bool) (hctl : trunk_Controls.f a b l i = some ctl) (h0 : 0 ≤ i) (h1 : i < l.length) (hl : l.length ≤ 1000) (c' : S36) (vd : Int)
    (HM : ∀ (W : World) (lb g : Nat), Below w.heap.size w W → Ln W lb g (i.toNat * 4) ctl 0 (rd_T36 l i.toNat) → Calls Try.prog 36 #[.pointer (some ⟨lb, 0, none⟩), .int .i64 ref] W fun e W' => e = .returned (.int .i64 0) ∧ Upd W W' lb g i.toNat vd c') :
    Calls Try.prog 35 #[.agg #[.int .i64 a, .int .i64 b, .slice A l.length c], .int .i64 i, .int .i64 ref, .func (.func 36) #[] #[]] w fun e w' => ∃ v, e = .returned (.tuple #[.agg #[.int .i64 a, .int .i64 b, v], .int .i64 vd, .int .i64 0]) ∧ Kd.R k36 36 w' w.heap.size (fun _ => True) v (l.set i.toNat c') ∧ Below w.heap.size w w' := by
  have HR := Aside0.mk hr
  have HK := Aside0.mk hk
  have HC := Aside0.mk hc
  have HT := Aside0.mk hctl
  have HL := Aside0.mk hl
  clear hr hk hc hctl hl
  have HW := Aside0.mk (within_eq i 0 (wrap64 ((l.length : Int) - 1)))
  have HX := Aside0.mk (within_eq ref 1 1099511627776)
  rw [hi] at HW
  rw [hx] at HX
  have HM := Aside0.mk HM
  go_enter Try.func35, Try.ntmps35
  go_wp2_with (first | (go_at_call 19; refine (check_calls _ _ _ _ _ _ (Kd.C_alloc (Kd.C_alloc HR.out _) _)).mono ?_; rintro e w1 ⟨rfl, hb⟩; rw [HK.out]; obtain ⟨hc, hf⟩ := bcell hb; have HB := Aside0.mk hb; clear hb) | (go_at_call 38; (with_reducible refine (trunk_within.calls _ _ _ _ _ HW.out).mono ?_); rintro e w2 ⟨rfl, ⟨nd, rfl⟩⟩) | (go_at_call 38; (with_reducible refine (trunk_within.calls _ _ _ _ _ HX.out).mono ?_); rintro e w2 ⟨rfl, ⟨ne, rfl⟩⟩) | (go_at_call 16; (with_reducible refine (trunk_Controls.calls _ _ _ _ _ _ _ _ ?s1 ?s2 HT.out).mono ?_); (case s1 => exact Kd.C_below HR.out (below_step (below_alloc (below_alloc (Below.refl _ _) _) _) (pw_below_drewN HB.out _))); (case s2 => exact HC.out); rintro e w3 ⟨rfl, hb⟩; have hb' := below_step (pw_below_drewN HB.out _) hb; clear hc hf HB; obtain ⟨hc, hf⟩ := bcell hb'; have HB := Aside0.mk hb'; clear hb hb') | (go_at_call 53; (with_reducible refine (clone_calls _ _ _ _ ?s1 HL.out).mono ?_); (case s1 => exact Kd.C_below HR.out (below_step (below_alloc (below_alloc (Below.refl _ _) _) _) HB.out)); rintro e w4 ⟨v, rfl, ho, hb⟩; obtain ⟨g, cap, rfl, hg1, hg2, cells, hg3⟩ := Kd.R_form ho (by omega); have hb' := below_step HB.out hb; have t2 := two_blk hb'; have hS : w.heap.size + 2 ≤ w4.heap.size := (by have hq := hb'.size; simp at hq; omega); have hG3 : w.heap.size + 2 ≤ w3.heap.size := (by have hq := HB.out.size; simp at hq; omega); have hG : w.heap.size + 2 ≤ g := (by omega); obtain ⟨x0, x1, x2, y0, y1, y2, fx, fy⟩ := id t2; have T2 := Aside0.mk t2; clear hc hf HB; have HB := Aside0.mk hb'; have HO := Aside0.mk ho; clear hb t2 hb' ho) | (go_at_call 36; refine (line_step (k0 := w.heap.size) (k1 := w.heap.size + 1) T2.out ?z1 ?z2 hg2 hg3 ?z3 ?z4 (by omega) HO.out i h0 h1 ctl 36 (fun p => #[p, .int .i64 ref]) _ (fun W W' lb g => Upd W W' lb g i.toNat vd c') w (below_step (below_alloc (below_alloc (Below.refl _ _) _) _) HB.out) (Nat.le_refl _) (fun W W' lb h => ⟨h.below, h.blk⟩) HM.out).mono ?_; (case z1 => omega); (case z2 => omega); (case z3 => omega); (case z4 => omega); rintro e w6 ⟨rfl, w5, hr5, hu, t6, hb6⟩; clear x0 x1 x2 y0 y1 y2 fx fy; obtain ⟨x0, x1, x2, y0, y1, y2, fx, fy⟩ := t6; have hv := hu.vd; have HU := Aside0.mk (hu.row _ _ _ _ (by omega) hr5); have HB6 := Aside0.mk hb6; clear hu hr5 hb6))
  go_region
  go_wp2
  have h4 : Below w.heap.size w w4 := below_step (below_alloc (below_alloc (Below.refl _ _) _) _) HB.out
  have h6 : Below w.heap.size w w6 := h4.trans (HB6.out _ (by omega) (by omega) (by omega) (by omega))
  refine bodyPost_ret (v := .tuple #[.agg #[.int .i64 a, .int .i64 b, .slice (some ⟨g, 0, none⟩) l.length cap], .int .i64 vd, .int .i64 0]) ?_ rfl ⟨_, rfl, ?_, ?_⟩
  · simp [results, Try.results35, go_sem, y0, y1, y2]
  · have q := HU.out
    refine Kd.R_lower (Kd.R_mono (Kd.R_drew (Kd.R_far (Kd.R_far (Kd.R_far q ?_ _) ?_ _) ?_ _)) (fun _ _ => trivial)) ?_
    · intro k hk; subst hk; show k ≠ w.heap.size + 1; omega
    · intro k hk; subst hk; show k ≠ w.heap.size + 1; omega
    · intro k hk; subst hk; show k ≠ w.heap.size + 1; omega
    · omega
  · refine below_drew1 (Below.setCell (Below.setCell (Below.setCell h6 ?_ _) ?_ _) ?_ _)
    all_goals (show w.heap.size ≤ w.heap.size + 1; omega)

set_option maxHeartbeats 8000000 in
set_option maxRecDepth 100000 in
theorem change_arrive (a b : Int) (A : Option Addr) (c : Nat) (l : List S36) (i ref : Int) (w : World) (hr : Kd.C k36 w A l.length l) (hc : l.length ≤ c) (hk : checkS a b l = 0)
    (hi : (decide (0 ≤ i) && decide (i ≤ wrap64 ((l.length : Int) - 1))) = true) (hx : (decide (1 ≤ ref) && decide (ref ≤ 1099511627776)) = true) (ctl : Bool) (hctl : trunk_Controls.f a b l i = some ctl) (h0 : 0 ≤ i) (h1 : i < l.length) (hl : l.length ≤ 1000) (c' : S36) (vd : Int)
    (HM : ∀ (W : World) (lb g : Nat), Below w.heap.size w W → Ln W lb g (i.toNat * 4) ctl 0 (rd_T36 l i.toNat) → Calls Try.prog 37 #[.pointer (some ⟨lb, 0, none⟩), .int .i64 ref] W fun e W' => e = .returned (.int .i64 0) ∧ Upd W W' lb g i.toNat vd c') :
    Calls Try.prog 35 #[.agg #[.int .i64 a, .int .i64 b, .slice A l.length c], .int .i64 i, .int .i64 ref, .func (.func 37) #[] #[]] w fun e w' => ∃ v, e = .returned (.tuple #[.agg #[.int .i64 a, .int .i64 b, v], .int .i64 vd, .int .i64 0]) ∧ Kd.R k36 36 w' w.heap.size (fun _ => True) v (l.set i.toNat c') ∧ Below w.heap.size w w' := by
  have HR := Aside0.mk hr
  have HK := Aside0.mk hk
  have HC := Aside0.mk hc
  have HT := Aside0.mk hctl
  have HL := Aside0.mk hl
  clear hr hk hc hctl hl
  have HW := Aside0.mk (within_eq i 0 (wrap64 ((l.length : Int) - 1)))
  have HX := Aside0.mk (within_eq ref 1 1099511627776)
  rw [hi] at HW
  rw [hx] at HX
  have HM := Aside0.mk HM
  go_enter Try.func35, Try.ntmps35
  go_wp2_with (first | (go_at_call 19; refine (check_calls _ _ _ _ _ _ (Kd.C_alloc (Kd.C_alloc HR.out _) _)).mono ?_; rintro e w1 ⟨rfl, hb⟩; rw [HK.out]; obtain ⟨hc, hf⟩ := bcell hb; have HB := Aside0.mk hb; clear hb) | (go_at_call 38; (with_reducible refine (trunk_within.calls _ _ _ _ _ HW.out).mono ?_); rintro e w2 ⟨rfl, ⟨nd, rfl⟩⟩) | (go_at_call 38; (with_reducible refine (trunk_within.calls _ _ _ _ _ HX.out).mono ?_); rintro e w2 ⟨rfl, ⟨ne, rfl⟩⟩) | (go_at_call 16; (with_reducible refine (trunk_Controls.calls _ _ _ _ _ _ _ _ ?s1 ?s2 HT.out).mono ?_); (case s1 => exact Kd.C_below HR.out (below_step (below_alloc (below_alloc (Below.refl _ _) _) _) (pw_below_drewN HB.out _))); (case s2 => exact HC.out); rintro e w3 ⟨rfl, hb⟩; have hb' := below_step (pw_below_drewN HB.out _) hb; clear hc hf HB; obtain ⟨hc, hf⟩ := bcell hb'; have HB := Aside0.mk hb'; clear hb hb') | (go_at_call 53; (with_reducible refine (clone_calls _ _ _ _ ?s1 HL.out).mono ?_); (case s1 => exact Kd.C_below HR.out (below_step (below_alloc (below_alloc (Below.refl _ _) _) _) HB.out)); rintro e w4 ⟨v, rfl, ho, hb⟩; obtain ⟨g, cap, rfl, hg1, hg2, cells, hg3⟩ := Kd.R_form ho (by omega); have hb' := below_step HB.out hb; have t2 := two_blk hb'; have hS : w.heap.size + 2 ≤ w4.heap.size := (by have hq := hb'.size; simp at hq; omega); have hG3 : w.heap.size + 2 ≤ w3.heap.size := (by have hq := HB.out.size; simp at hq; omega); have hG : w.heap.size + 2 ≤ g := (by omega); obtain ⟨x0, x1, x2, y0, y1, y2, fx, fy⟩ := id t2; have T2 := Aside0.mk t2; clear hc hf HB; have HB := Aside0.mk hb'; have HO := Aside0.mk ho; clear hb t2 hb' ho) | (go_at_call 37; refine (line_step (k0 := w.heap.size) (k1 := w.heap.size + 1) T2.out ?z1 ?z2 hg2 hg3 ?z3 ?z4 (by omega) HO.out i h0 h1 ctl 37 (fun p => #[p, .int .i64 ref]) _ (fun W W' lb g => Upd W W' lb g i.toNat vd c') w (below_step (below_alloc (below_alloc (Below.refl _ _) _) _) HB.out) (Nat.le_refl _) (fun W W' lb h => ⟨h.below, h.blk⟩) HM.out).mono ?_; (case z1 => omega); (case z2 => omega); (case z3 => omega); (case z4 => omega); rintro e w6 ⟨rfl, w5, hr5, hu, t6, hb6⟩; clear x0 x1 x2 y0 y1 y2 fx fy; obtain ⟨x0, x1, x2, y0, y1, y2, fx, fy⟩ := t6; have hv := hu.vd; have HU := Aside0.mk (hu.row _ _ _ _ (by omega) hr5); have HB6 := Aside0.mk hb6; clear hu hr5 hb6))
  go_region
  go_wp2
  have h4 : Below w.heap.size w w4 := below_step (below_alloc (below_alloc (Below.refl _ _) _) _) HB.out
  have h6 : Below w.heap.size w w6 := h4.trans (HB6.out _ (by omega) (by omega) (by omega) (by omega))
  refine bodyPost_ret (v := .tuple #[.agg #[.int .i64 a, .int .i64 b, .slice (some ⟨g, 0, none⟩) l.length cap], .int .i64 vd, .int .i64 0]) ?_ rfl ⟨_, rfl, ?_, ?_⟩
  · simp [results, Try.results35, go_sem, y0, y1, y2]
  · have q := HU.out
    refine Kd.R_lower (Kd.R_mono (Kd.R_drew (Kd.R_far (Kd.R_far (Kd.R_far q ?_ _) ?_ _) ?_ _)) (fun _ _ => trivial)) ?_
    · intro k hk; subst hk; show k ≠ w.heap.size + 1; omega
    · intro k hk; subst hk; show k ≠ w.heap.size + 1; omega
    · intro k hk; subst hk; show k ≠ w.heap.size + 1; omega
    · omega
  · refine below_drew1 (Below.setCell (Below.setCell (Below.setCell h6 ?_ _) ?_ _) ?_ _)
    all_goals (show w.heap.size ≤ w.heap.size + 1; omega)

set_option maxHeartbeats 8000000 in
set_option maxRecDepth 100000 in
theorem change_release (a b : Int) (A : Option Addr) (c : Nat) (l : List S36) (i ref : Int) (w : World) (hr : Kd.C k36 w A l.length l) (hc : l.length ≤ c) (hk : checkS a b l = 0)
    (hi : (decide (0 ≤ i) && decide (i ≤ wrap64 ((l.length : Int) - 1))) = true) (hx : (decide (1 ≤ ref) && decide (ref ≤ 1099511627776)) = true) (ctl : Bool) (hctl : trunk_Controls.f a b l i = some ctl) (h0 : 0 ≤ i) (h1 : i < l.length) (hl : l.length ≤ 1000) (c' : S36) (vd : Int)
    (HM : ∀ (W : World) (lb g : Nat), Below w.heap.size w W → Ln W lb g (i.toNat * 4) ctl 0 (rd_T36 l i.toNat) → Calls Try.prog 46 #[.pointer (some ⟨lb, 0, none⟩), .int .i64 ref] W fun e W' => e = .returned (.int .i64 0) ∧ Upd W W' lb g i.toNat vd c') :
    Calls Try.prog 35 #[.agg #[.int .i64 a, .int .i64 b, .slice A l.length c], .int .i64 i, .int .i64 ref, .func (.func 46) #[] #[]] w fun e w' => ∃ v, e = .returned (.tuple #[.agg #[.int .i64 a, .int .i64 b, v], .int .i64 vd, .int .i64 0]) ∧ Kd.R k36 36 w' w.heap.size (fun _ => True) v (l.set i.toNat c') ∧ Below w.heap.size w w' := by
  have HR := Aside0.mk hr
  have HK := Aside0.mk hk
  have HC := Aside0.mk hc
  have HT := Aside0.mk hctl
  have HL := Aside0.mk hl
  clear hr hk hc hctl hl
  have HW := Aside0.mk (within_eq i 0 (wrap64 ((l.length : Int) - 1)))
  have HX := Aside0.mk (within_eq ref 1 1099511627776)
  rw [hi] at HW
  rw [hx] at HX
  have HM := Aside0.mk HM
  go_enter Try.func35, Try.ntmps35
  go_wp2_with (first | (go_at_call 19; refine (check_calls _ _ _ _ _ _ (Kd.C_alloc (Kd.C_alloc HR.out _) _)).mono ?_; rintro e w1 ⟨rfl, hb⟩; rw [HK.out]; obtain ⟨hc, hf⟩ := bcell hb; have HB := Aside0.mk hb; clear hb) | (go_at_call 38; (with_reducible refine (trunk_within.calls _ _ _ _ _ HW.out).mono ?_); rintro e w2 ⟨rfl, ⟨nd, rfl⟩⟩) | (go_at_call 38; (with_reducible refine (trunk_within.calls _ _ _ _ _ HX.out).mono ?_); rintro e w2 ⟨rfl, ⟨ne, rfl⟩⟩) | (go_at_call 16; (with_reducible refine (trunk_Controls.calls _ _ _ _ _ _ _ _ ?s1 ?s2 HT.out).mono ?_); (case s1 => exact Kd.C_below HR.out (below_step (below_alloc (below_alloc (Below.refl _ _) _) _) (pw_below_drewN HB.out _))); (case s2 => exact HC.out); rintro e w3 ⟨rfl, hb⟩; have hb' := below_step (pw_below_drewN HB.out _) hb; clear hc hf HB; obtain ⟨hc, hf⟩ := bcell hb'; have HB := Aside0.mk hb'; clear hb hb') | (go_at_call 53; (with_reducible refine (clone_calls _ _ _ _ ?s1 HL.out).mono ?_); (case s1 => exact Kd.C_below HR.out (below_step (below_alloc (below_alloc (Below.refl _ _) _) _) HB.out)); rintro e w4 ⟨v, rfl, ho, hb⟩; obtain ⟨g, cap, rfl, hg1, hg2, cells, hg3⟩ := Kd.R_form ho (by omega); have hb' := below_step HB.out hb; have t2 := two_blk hb'; have hS : w.heap.size + 2 ≤ w4.heap.size := (by have hq := hb'.size; simp at hq; omega); have hG3 : w.heap.size + 2 ≤ w3.heap.size := (by have hq := HB.out.size; simp at hq; omega); have hG : w.heap.size + 2 ≤ g := (by omega); obtain ⟨x0, x1, x2, y0, y1, y2, fx, fy⟩ := id t2; have T2 := Aside0.mk t2; clear hc hf HB; have HB := Aside0.mk hb'; have HO := Aside0.mk ho; clear hb t2 hb' ho) | (go_at_call 46; refine (line_step (k0 := w.heap.size) (k1 := w.heap.size + 1) T2.out ?z1 ?z2 hg2 hg3 ?z3 ?z4 (by omega) HO.out i h0 h1 ctl 46 (fun p => #[p, .int .i64 ref]) _ (fun W W' lb g => Upd W W' lb g i.toNat vd c') w (below_step (below_alloc (below_alloc (Below.refl _ _) _) _) HB.out) (Nat.le_refl _) (fun W W' lb h => ⟨h.below, h.blk⟩) HM.out).mono ?_; (case z1 => omega); (case z2 => omega); (case z3 => omega); (case z4 => omega); rintro e w6 ⟨rfl, w5, hr5, hu, t6, hb6⟩; clear x0 x1 x2 y0 y1 y2 fx fy; obtain ⟨x0, x1, x2, y0, y1, y2, fx, fy⟩ := t6; have hv := hu.vd; have HU := Aside0.mk (hu.row _ _ _ _ (by omega) hr5); have HB6 := Aside0.mk hb6; clear hu hr5 hb6))
  go_region
  go_wp2
  have h4 : Below w.heap.size w w4 := below_step (below_alloc (below_alloc (Below.refl _ _) _) _) HB.out
  have h6 : Below w.heap.size w w6 := h4.trans (HB6.out _ (by omega) (by omega) (by omega) (by omega))
  refine bodyPost_ret (v := .tuple #[.agg #[.int .i64 a, .int .i64 b, .slice (some ⟨g, 0, none⟩) l.length cap], .int .i64 vd, .int .i64 0]) ?_ rfl ⟨_, rfl, ?_, ?_⟩
  · simp [results, Try.results35, go_sem, y0, y1, y2]
  · have q := HU.out
    refine Kd.R_lower (Kd.R_mono (Kd.R_drew (Kd.R_far (Kd.R_far (Kd.R_far q ?_ _) ?_ _) ?_ _)) (fun _ _ => trivial)) ?_
    · intro k hk; subst hk; show k ≠ w.heap.size + 1; omega
    · intro k hk; subst hk; show k ≠ w.heap.size + 1; omega
    · intro k hk; subst hk; show k ≠ w.heap.size + 1; omega
    · omega
  · refine below_drew1 (Below.setCell (Below.setCell (Below.setCell h6 ?_ _) ?_ _) ?_ _)
    all_goals (show w.heap.size ≤ w.heap.size + 1; omega)

set_option maxHeartbeats 8000000 in
set_option maxRecDepth 100000 in
theorem change_clear (a b : Int) (A : Option Addr) (c : Nat) (l : List S36) (i ref : Int) (w : World) (hr : Kd.C k36 w A l.length l) (hc : l.length ≤ c) (hk : checkS a b l = 0)
    (hi : (decide (0 ≤ i) && decide (i ≤ wrap64 ((l.length : Int) - 1))) = true) (hx : (decide (1 ≤ ref) && decide (ref ≤ 1099511627776)) = true) (ctl : Bool) (hctl : trunk_Controls.f a b l i = some ctl) (h0 : 0 ≤ i) (h1 : i < l.length) (hl : l.length ≤ 1000) (c' : S36) (vd : Int)
    (HM : ∀ (W : World) (lb g : Nat), Below w.heap.size w W → Ln W lb g (i.toNat * 4) ctl 0 (rd_T36 l i.toNat) → Calls Try.prog 47 #[.pointer (some ⟨lb, 0, none⟩), .int .i64 ref] W fun e W' => e = .returned (.int .i64 0) ∧ Upd W W' lb g i.toNat vd c') :
    Calls Try.prog 35 #[.agg #[.int .i64 a, .int .i64 b, .slice A l.length c], .int .i64 i, .int .i64 ref, .func (.func 47) #[] #[]] w fun e w' => ∃ v, e = .returned (.tuple #[.agg #[.int .i64 a, .int .i64 b, v], .int .i64 vd, .int .i64 0]) ∧ Kd.R k36 36 w' w.heap.size (fun _ => True) v (l.set i.toNat c') ∧ Below w.heap.size w w' := by
  have HR := Aside0.mk hr
  have HK := Aside0.mk hk
  have HC := Aside0.mk hc
  have HT := Aside0.mk hctl
  have HL := Aside0.mk hl
  clear hr hk hc hctl hl
  have HW := Aside0.mk (within_eq i 0 (wrap64 ((l.length : Int) - 1)))
  have HX := Aside0.mk (within_eq ref 1 1099511627776)
  rw [hi] at HW
  rw [hx] at HX
  have HM := Aside0.mk HM
  go_enter Try.func35, Try.ntmps35
  go_wp2_with (first | (go_at_call 19; refine (check_calls _ _ _ _ _ _ (Kd.C_alloc (Kd.C_alloc HR.out _) _)).mono ?_; rintro e w1 ⟨rfl, hb⟩; rw [HK.out]; obtain ⟨hc, hf⟩ := bcell hb; have HB := Aside0.mk hb; clear hb) | (go_at_call 38; (with_reducible refine (trunk_within.calls _ _ _ _ _ HW.out).mono ?_); rintro e w2 ⟨rfl, ⟨nd, rfl⟩⟩) | (go_at_call 38; (with_reducible refine (trunk_within.calls _ _ _ _ _ HX.out).mono ?_); rintro e w2 ⟨rfl, ⟨ne, rfl⟩⟩) | (go_at_call 16; (with_reducible refine (trunk_Controls.calls _ _ _ _ _ _ _ _ ?s1 ?s2 HT.out).mono ?_); (case s1 => exact Kd.C_below HR.out (below_step (below_alloc (below_alloc (Below.refl _ _) _) _) (pw_below_drewN HB.out _))); (case s2 => exact HC.out); rintro e w3 ⟨rfl, hb⟩; have hb' := below_step (pw_below_drewN HB.out _) hb; clear hc hf HB; obtain ⟨hc, hf⟩ := bcell hb'; have HB := Aside0.mk hb'; clear hb hb') | (go_at_call 53; (with_reducible refine (clone_calls _ _ _ _ ?s1 HL.out).mono ?_); (case s1 => exact Kd.C_below HR.out (below_step (below_alloc (below_alloc (Below.refl _ _) _) _) HB.out)); rintro e w4 ⟨v, rfl, ho, hb⟩; obtain ⟨g, cap, rfl, hg1, hg2, cells, hg3⟩ := Kd.R_form ho (by omega); have hb' := below_step HB.out hb; have t2 := two_blk hb'; have hS : w.heap.size + 2 ≤ w4.heap.size := (by have hq := hb'.size; simp at hq; omega); have hG3 : w.heap.size + 2 ≤ w3.heap.size := (by have hq := HB.out.size; simp at hq; omega); have hG : w.heap.size + 2 ≤ g := (by omega); obtain ⟨x0, x1, x2, y0, y1, y2, fx, fy⟩ := id t2; have T2 := Aside0.mk t2; clear hc hf HB; have HB := Aside0.mk hb'; have HO := Aside0.mk ho; clear hb t2 hb' ho) | (go_at_call 47; refine (line_step (k0 := w.heap.size) (k1 := w.heap.size + 1) T2.out ?z1 ?z2 hg2 hg3 ?z3 ?z4 (by omega) HO.out i h0 h1 ctl 47 (fun p => #[p, .int .i64 ref]) _ (fun W W' lb g => Upd W W' lb g i.toNat vd c') w (below_step (below_alloc (below_alloc (Below.refl _ _) _) _) HB.out) (Nat.le_refl _) (fun W W' lb h => ⟨h.below, h.blk⟩) HM.out).mono ?_; (case z1 => omega); (case z2 => omega); (case z3 => omega); (case z4 => omega); rintro e w6 ⟨rfl, w5, hr5, hu, t6, hb6⟩; clear x0 x1 x2 y0 y1 y2 fx fy; obtain ⟨x0, x1, x2, y0, y1, y2, fx, fy⟩ := t6; have hv := hu.vd; have HU := Aside0.mk (hu.row _ _ _ _ (by omega) hr5); have HB6 := Aside0.mk hb6; clear hu hr5 hb6))
  go_region
  go_wp2
  have h4 : Below w.heap.size w w4 := below_step (below_alloc (below_alloc (Below.refl _ _) _) _) HB.out
  have h6 : Below w.heap.size w w6 := h4.trans (HB6.out _ (by omega) (by omega) (by omega) (by omega))
  refine bodyPost_ret (v := .tuple #[.agg #[.int .i64 a, .int .i64 b, .slice (some ⟨g, 0, none⟩) l.length cap], .int .i64 vd, .int .i64 0]) ?_ rfl ⟨_, rfl, ?_, ?_⟩
  · simp [results, Try.results35, go_sem, y0, y1, y2]
  · have q := HU.out
    refine Kd.R_lower (Kd.R_mono (Kd.R_drew (Kd.R_far (Kd.R_far (Kd.R_far q ?_ _) ?_ _) ?_ _)) (fun _ _ => trivial)) ?_
    · intro k hk; subst hk; show k ≠ w.heap.size + 1; omega
    · intro k hk; subst hk; show k ≠ w.heap.size + 1; omega
    · intro k hk; subst hk; show k ≠ w.heap.size + 1; omega
    · omega
  · refine below_drew1 (Below.setCell (Below.setCell (Below.setCell h6 ?_ _) ?_ _) ?_ _)
    all_goals (show w.heap.size ≤ w.heap.size + 1; omega)

set_option maxHeartbeats 8000000 in
set_option maxRecDepth 100000 in
theorem change_block (a b : Int) (A : Option Addr) (c : Nat) (l : List S36) (i ref : Int) (br bo : Nat) (w : World) (hr : Kd.C k36 w A l.length l) (hc : l.length ≤ c) (hk : checkS a b l = 0)
    (hi : (decide (0 ≤ i) && decide (i ≤ wrap64 ((l.length : Int) - 1))) = true) (hx : (decide (1 ≤ ref) && decide (ref ≤ 1099511627776)) = true) (ctl : Bool) (hctl : trunk_Controls.f a b l i = some ctl) (h0 : 0 ≤ i) (h1 : i < l.length) (hl : l.length ≤ 1000) (c' : S36) (vd : Int)
    (HM : ∀ (W : World) (lb g : Nat), Below w.heap.size w W → Ln W lb g (i.toNat * 4) ctl 0 (rd_T36 l i.toNat) → Calls Try.prog 44 #[.pointer (some ⟨lb, 0, none⟩), .int .i64 ref, .pointer (some ⟨br, 0, none⟩), .pointer (some ⟨bo, 0, none⟩)] W fun e W' => e = .returned (.int .i64 0) ∧ Upd W W' lb g i.toNat vd c') :
    Calls Try.prog 35 #[.agg #[.int .i64 a, .int .i64 b, .slice A l.length c], .int .i64 i, .int .i64 ref, .func (.func 44) #[] #[.pointer (some ⟨br, 0, none⟩), .pointer (some ⟨bo, 0, none⟩)]] w fun e w' => ∃ v, e = .returned (.tuple #[.agg #[.int .i64 a, .int .i64 b, v], .int .i64 vd, .int .i64 0]) ∧ Kd.R k36 36 w' w.heap.size (fun _ => True) v (l.set i.toNat c') ∧ Below w.heap.size w w' := by
  have HR := Aside0.mk hr
  have HK := Aside0.mk hk
  have HC := Aside0.mk hc
  have HT := Aside0.mk hctl
  have HL := Aside0.mk hl
  clear hr hk hc hctl hl
  have HW := Aside0.mk (within_eq i 0 (wrap64 ((l.length : Int) - 1)))
  have HX := Aside0.mk (within_eq ref 1 1099511627776)
  rw [hi] at HW
  rw [hx] at HX
  have HM := Aside0.mk HM
  go_enter Try.func35, Try.ntmps35
  go_wp2_with (first | (go_at_call 19; refine (check_calls _ _ _ _ _ _ (Kd.C_alloc (Kd.C_alloc HR.out _) _)).mono ?_; rintro e w1 ⟨rfl, hb⟩; rw [HK.out]; obtain ⟨hc, hf⟩ := bcell hb; have HB := Aside0.mk hb; clear hb) | (go_at_call 38; (with_reducible refine (trunk_within.calls _ _ _ _ _ HW.out).mono ?_); rintro e w2 ⟨rfl, ⟨nd, rfl⟩⟩) | (go_at_call 38; (with_reducible refine (trunk_within.calls _ _ _ _ _ HX.out).mono ?_); rintro e w2 ⟨rfl, ⟨ne, rfl⟩⟩) | (go_at_call 16; (with_reducible refine (trunk_Controls.calls _ _ _ _ _ _ _ _ ?s1 ?s2 HT.out).mono ?_); (case s1 => exact Kd.C_below HR.out (below_step (below_alloc (below_alloc (Below.refl _ _) _) _) (pw_below_drewN HB.out _))); (case s2 => exact HC.out); rintro e w3 ⟨rfl, hb⟩; have hb' := below_step (pw_below_drewN HB.out _) hb; clear hc hf HB; obtain ⟨hc, hf⟩ := bcell hb'; have HB := Aside0.mk hb'; clear hb hb') | (go_at_call 53; (with_reducible refine (clone_calls _ _ _ _ ?s1 HL.out).mono ?_); (case s1 => exact Kd.C_below HR.out (below_step (below_alloc (below_alloc (Below.refl _ _) _) _) HB.out)); rintro e w4 ⟨v, rfl, ho, hb⟩; obtain ⟨g, cap, rfl, hg1, hg2, cells, hg3⟩ := Kd.R_form ho (by omega); have hb' := below_step HB.out hb; have t2 := two_blk hb'; have hS : w.heap.size + 2 ≤ w4.heap.size := (by have hq := hb'.size; simp at hq; omega); have hG3 : w.heap.size + 2 ≤ w3.heap.size := (by have hq := HB.out.size; simp at hq; omega); have hG : w.heap.size + 2 ≤ g := (by omega); obtain ⟨x0, x1, x2, y0, y1, y2, fx, fy⟩ := id t2; have T2 := Aside0.mk t2; clear hc hf HB; have HB := Aside0.mk hb'; have HO := Aside0.mk ho; clear hb t2 hb' ho) | (go_at_call 44; refine (line_step (k0 := w.heap.size) (k1 := w.heap.size + 1) T2.out ?z1 ?z2 hg2 hg3 ?z3 ?z4 (by omega) HO.out i h0 h1 ctl 44 (fun p => #[p, .int .i64 ref, .pointer (some ⟨br, 0, none⟩), .pointer (some ⟨bo, 0, none⟩)]) _ (fun W W' lb g => Upd W W' lb g i.toNat vd c') w (below_step (below_alloc (below_alloc (Below.refl _ _) _) _) HB.out) (Nat.le_refl _) (fun W W' lb h => ⟨h.below, h.blk⟩) HM.out).mono ?_; (case z1 => omega); (case z2 => omega); (case z3 => omega); (case z4 => omega); rintro e w6 ⟨rfl, w5, hr5, hu, t6, hb6⟩; clear x0 x1 x2 y0 y1 y2 fx fy; obtain ⟨x0, x1, x2, y0, y1, y2, fx, fy⟩ := t6; have hv := hu.vd; have HU := Aside0.mk (hu.row _ _ _ _ (by omega) hr5); have HB6 := Aside0.mk hb6; clear hu hr5 hb6))
  go_region
  go_wp2
  have h4 : Below w.heap.size w w4 := below_step (below_alloc (below_alloc (Below.refl _ _) _) _) HB.out
  have h6 : Below w.heap.size w w6 := h4.trans (HB6.out _ (by omega) (by omega) (by omega) (by omega))
  refine bodyPost_ret (v := .tuple #[.agg #[.int .i64 a, .int .i64 b, .slice (some ⟨g, 0, none⟩) l.length cap], .int .i64 vd, .int .i64 0]) ?_ rfl ⟨_, rfl, ?_, ?_⟩
  · simp [results, Try.results35, go_sem, y0, y1, y2]
  · have q := HU.out
    refine Kd.R_lower (Kd.R_mono (Kd.R_drew (Kd.R_far (Kd.R_far (Kd.R_far q ?_ _) ?_ _) ?_ _)) (fun _ _ => trivial)) ?_
    · intro k hk; subst hk; show k ≠ w.heap.size + 1; omega
    · intro k hk; subst hk; show k ≠ w.heap.size + 1; omega
    · intro k hk; subst hk; show k ≠ w.heap.size + 1; omega
    · omega
  · refine below_drew1 (Below.setCell (Below.setCell (Below.setCell h6 ?_ _) ?_ _) ?_ _)
    all_goals (show w.heap.size ≤ w.heap.size + 1; omega)

set_option maxHeartbeats 8000000 in
set_option maxRecDepth 100000 in
theorem change_seize_no (a b : Int) (A : Option Addr) (c : Nat) (l : List S36) (i ref : Int) (w : World) (hr : Kd.C k36 w A l.length l) (hc : l.length ≤ c) (hk : checkS a b l = 0)
    (hi : (decide (0 ≤ i) && decide (i ≤ wrap64 ((l.length : Int) - 1))) = true) (hx : (decide (1 ≤ ref) && decide (ref ≤ 1099511627776)) = true) (ctl : Bool) (hctl : trunk_Controls.f a b l i = some ctl) (h0 : 0 ≤ i) (h1 : i < l.length) (hl : l.length ≤ 1000)
    (HM : ∀ (W : World) (lb g : Nat), Below w.heap.size w W → Ln W lb g (i.toNat * 4) ctl 0 (rd_T36 l i.toNat) → Calls Try.prog 36 #[.pointer (some ⟨lb, 0, none⟩), .int .i64 ref] W fun e W' => e = .returned (.int .i64 140) ∧ Below W.heap.size W W') :
    Calls Try.prog 35 #[.agg #[.int .i64 a, .int .i64 b, .slice A l.length c], .int .i64 i, .int .i64 ref, .func (.func 36) #[] #[]] w fun e w' => e = .returned (.tuple #[noT, .int .i64 0, .int .i64 140]) ∧ Below w.heap.size w w' := by
  have HR := Aside0.mk hr
  have HK := Aside0.mk hk
  have HC := Aside0.mk hc
  have HT := Aside0.mk hctl
  have HL := Aside0.mk hl
  clear hr hk hc hctl hl
  have HW := Aside0.mk (within_eq i 0 (wrap64 ((l.length : Int) - 1)))
  have HX := Aside0.mk (within_eq ref 1 1099511627776)
  rw [hi] at HW
  rw [hx] at HX
  have HM := Aside0.mk HM
  go_enter Try.func35, Try.ntmps35
  go_wp2_with (first | (go_at_call 19; refine (check_calls _ _ _ _ _ _ (Kd.C_alloc (Kd.C_alloc HR.out _) _)).mono ?_; rintro e w1 ⟨rfl, hb⟩; rw [HK.out]; obtain ⟨hc, hf⟩ := bcell hb; have HB := Aside0.mk hb; clear hb) | (go_at_call 38; (with_reducible refine (trunk_within.calls _ _ _ _ _ HW.out).mono ?_); rintro e w2 ⟨rfl, ⟨nd, rfl⟩⟩) | (go_at_call 38; (with_reducible refine (trunk_within.calls _ _ _ _ _ HX.out).mono ?_); rintro e w2 ⟨rfl, ⟨ne, rfl⟩⟩) | (go_at_call 16; (with_reducible refine (trunk_Controls.calls _ _ _ _ _ _ _ _ ?s1 ?s2 HT.out).mono ?_); (case s1 => exact Kd.C_below HR.out (below_step (below_alloc (below_alloc (Below.refl _ _) _) _) (pw_below_drewN HB.out _))); (case s2 => exact HC.out); rintro e w3 ⟨rfl, hb⟩; have hb' := below_step (pw_below_drewN HB.out _) hb; clear hc hf HB; obtain ⟨hc, hf⟩ := bcell hb'; have HB := Aside0.mk hb'; clear hb hb') | (go_at_call 53; (with_reducible refine (clone_calls _ _ _ _ ?s1 HL.out).mono ?_); (case s1 => exact Kd.C_below HR.out (below_step (below_alloc (below_alloc (Below.refl _ _) _) _) HB.out)); rintro e w4 ⟨v, rfl, ho, hb⟩; obtain ⟨g, cap, rfl, hg1, hg2, cells, hg3⟩ := Kd.R_form ho (by omega); have hb' := below_step HB.out hb; have t2 := two_blk hb'; have hS : w.heap.size + 2 ≤ w4.heap.size := (by have hq := hb'.size; simp at hq; omega); have hG3 : w.heap.size + 2 ≤ w3.heap.size := (by have hq := HB.out.size; simp at hq; omega); have hG : w.heap.size + 2 ≤ g := (by omega); obtain ⟨x0, x1, x2, y0, y1, y2, fx, fy⟩ := id t2; have T2 := Aside0.mk t2; clear hc hf HB; have HB := Aside0.mk hb'; have HO := Aside0.mk ho; clear hb t2 hb' ho) | (go_at_call 36; refine (line_step (k0 := w.heap.size) (k1 := w.heap.size + 1) T2.out ?z1 ?z2 hg2 hg3 ?z3 ?z4 (by omega) HO.out i h0 h1 ctl 36 (fun p => #[p, .int .i64 ref]) _ (fun W W' lb g => Below W.heap.size W W') w (below_step (below_alloc (below_alloc (Below.refl _ _) _) _) HB.out) (Nat.le_refl _) (fun W W' lb h => ⟨fun B _ _ hB => h.mono hB, fun k hk _ _ => h.block k hk⟩) HM.out).mono ?_; (case z1 => omega); (case z2 => omega); (case z3 => omega); (case z4 => omega); rintro e w6 ⟨rfl, w5, hr5, hu, t6, hb6⟩; clear x0 x1 x2 y0 y1 y2 fx fy; obtain ⟨x0, x1, x2, y0, y1, y2, fx, fy⟩ := t6;  have HB6 := Aside0.mk hb6; clear hu hr5 hb6))
  go_ways
  have h4 : Below w.heap.size w w4 := below_step (below_alloc (below_alloc (Below.refl _ _) _) _) HB.out
  have h6 : Below w.heap.size w w6 := h4.trans (HB6.out _ (by omega) (by omega) (by omega) (by omega))
  refine bodyPost_ret (v := .tuple #[noT, .int .i64 0, .int .i64 140]) ?_ rfl ⟨rfl, ?_⟩
  · simp [results, Try.results35, go_sem, y0, y1, y2]
    rfl
  · refine Below.setCell (Below.setCell (Below.setCell h6 ?_ _) ?_ _) ?_ _
    all_goals (show w.heap.size ≤ w.heap.size + 1; omega)

set_option maxHeartbeats 8000000 in
set_option maxRecDepth 100000 in
theorem change_release_no (a b : Int) (A : Option Addr) (c : Nat) (l : List S36) (i ref : Int) (w : World) (hr : Kd.C k36 w A l.length l) (hc : l.length ≤ c) (hk : checkS a b l = 0)
    (hi : (decide (0 ≤ i) && decide (i ≤ wrap64 ((l.length : Int) - 1))) = true) (hx : (decide (1 ≤ ref) && decide (ref ≤ 1099511627776)) = true) (ctl : Bool) (hctl : trunk_Controls.f a b l i = some ctl) (h0 : 0 ≤ i) (h1 : i < l.length) (hl : l.length ≤ 1000)
    (HM : ∀ (W : World) (lb g : Nat), Below w.heap.size w W → Ln W lb g (i.toNat * 4) ctl 0 (rd_T36 l i.toNat) → Calls Try.prog 46 #[.pointer (some ⟨lb, 0, none⟩), .int .i64 ref] W fun e W' => e = .returned (.int .i64 140) ∧ Below W.heap.size W W') :
    Calls Try.prog 35 #[.agg #[.int .i64 a, .int .i64 b, .slice A l.length c], .int .i64 i, .int .i64 ref, .func (.func 46) #[] #[]] w fun e w' => e = .returned (.tuple #[noT, .int .i64 0, .int .i64 140]) ∧ Below w.heap.size w w' := by
  have HR := Aside0.mk hr
  have HK := Aside0.mk hk
  have HC := Aside0.mk hc
  have HT := Aside0.mk hctl
  have HL := Aside0.mk hl
  clear hr hk hc hctl hl
  have HW := Aside0.mk (within_eq i 0 (wrap64 ((l.length : Int) - 1)))
  have HX := Aside0.mk (within_eq ref 1 1099511627776)
  rw [hi] at HW
  rw [hx] at HX
  have HM := Aside0.mk HM
  go_enter Try.func35, Try.ntmps35
  go_wp2_with (first | (go_at_call 19; refine (check_calls _ _ _ _ _ _ (Kd.C_alloc (Kd.C_alloc HR.out _) _)).mono ?_; rintro e w1 ⟨rfl, hb⟩; rw [HK.out]; obtain ⟨hc, hf⟩ := bcell hb; have HB := Aside0.mk hb; clear hb) | (go_at_call 38; (with_reducible refine (trunk_within.calls _ _ _ _ _ HW.out).mono ?_); rintro e w2 ⟨rfl, ⟨nd, rfl⟩⟩) | (go_at_call 38; (with_reducible refine (trunk_within.calls _ _ _ _ _ HX.out).mono ?_); rintro e w2 ⟨rfl, ⟨ne, rfl⟩⟩) | (go_at_call 16; (with_reducible refine (trunk_Controls.calls _ _ _ _ _ _ _ _ ?s1 ?s2 HT.out).mono ?_); (case s1 => exact Kd.C_below HR.out (below_step (below_alloc (below_alloc (Below.refl _ _) _) _) (pw_below_drewN HB.out _))); (case s2 => exact HC.out); rintro e w3 ⟨rfl, hb⟩; have hb' := below_step (pw_below_drewN HB.out _) hb; clear hc hf HB; obtain ⟨hc, hf⟩ := bcell hb'; have HB := Aside0.mk hb'; clear hb hb') | (go_at_call 53; (with_reducible refine (clone_calls _ _ _ _ ?s1 HL.out).mono ?_); (case s1 => exact Kd.C_below HR.out (below_step (below_alloc (below_alloc (Below.refl _ _) _) _) HB.out)); rintro e w4 ⟨v, rfl, ho, hb⟩; obtain ⟨g, cap, rfl, hg1, hg2, cells, hg3⟩ := Kd.R_form ho (by omega); have hb' := below_step HB.out hb; have t2 := two_blk hb'; have hS : w.heap.size + 2 ≤ w4.heap.size := (by have hq := hb'.size; simp at hq; omega); have hG3 : w.heap.size + 2 ≤ w3.heap.size := (by have hq := HB.out.size; simp at hq; omega); have hG : w.heap.size + 2 ≤ g := (by omega); obtain ⟨x0, x1, x2, y0, y1, y2, fx, fy⟩ := id t2; have T2 := Aside0.mk t2; clear hc hf HB; have HB := Aside0.mk hb'; have HO := Aside0.mk ho; clear hb t2 hb' ho) | (go_at_call 46; refine (line_step (k0 := w.heap.size) (k1 := w.heap.size + 1) T2.out ?z1 ?z2 hg2 hg3 ?z3 ?z4 (by omega) HO.out i h0 h1 ctl 46 (fun p => #[p, .int .i64 ref]) _ (fun W W' lb g => Below W.heap.size W W') w (below_step (below_alloc (below_alloc (Below.refl _ _) _) _) HB.out) (Nat.le_refl _) (fun W W' lb h => ⟨fun B _ _ hB => h.mono hB, fun k hk _ _ => h.block k hk⟩) HM.out).mono ?_; (case z1 => omega); (case z2 => omega); (case z3 => omega); (case z4 => omega); rintro e w6 ⟨rfl, w5, hr5, hu, t6, hb6⟩; clear x0 x1 x2 y0 y1 y2 fx fy; obtain ⟨x0, x1, x2, y0, y1, y2, fx, fy⟩ := t6;  have HB6 := Aside0.mk hb6; clear hu hr5 hb6))
  go_ways
  have h4 : Below w.heap.size w w4 := below_step (below_alloc (below_alloc (Below.refl _ _) _) _) HB.out
  have h6 : Below w.heap.size w w6 := h4.trans (HB6.out _ (by omega) (by omega) (by omega) (by omega))
  refine bodyPost_ret (v := .tuple #[noT, .int .i64 0, .int .i64 140]) ?_ rfl ⟨rfl, ?_⟩
  · simp [results, Try.results35, go_sem, y0, y1, y2]
    rfl
  · refine Below.setCell (Below.setCell (Below.setCell h6 ?_ _) ?_ _) ?_ _
    all_goals (show w.heap.size ≤ w.heap.size + 1; omega)

set_option maxHeartbeats 8000000 in
set_option maxRecDepth 100000 in
theorem change_clear_no (a b : Int) (A : Option Addr) (c : Nat) (l : List S36) (i ref : Int) (w : World) (hr : Kd.C k36 w A l.length l) (hc : l.length ≤ c) (hk : checkS a b l = 0)
    (hi : (decide (0 ≤ i) && decide (i ≤ wrap64 ((l.length : Int) - 1))) = true) (hx : (decide (1 ≤ ref) && decide (ref ≤ 1099511627776)) = true) (ctl : Bool) (hctl : trunk_Controls.f a b l i = some ctl) (h0 : 0 ≤ i) (h1 : i < l.length) (hl : l.length ≤ 1000)
    (HM : ∀ (W : World) (lb g : Nat), Below w.heap.size w W → Ln W lb g (i.toNat * 4) ctl 0 (rd_T36 l i.toNat) → Calls Try.prog 47 #[.pointer (some ⟨lb, 0, none⟩), .int .i64 ref] W fun e W' => e = .returned (.int .i64 140) ∧ Below W.heap.size W W') :
    Calls Try.prog 35 #[.agg #[.int .i64 a, .int .i64 b, .slice A l.length c], .int .i64 i, .int .i64 ref, .func (.func 47) #[] #[]] w fun e w' => e = .returned (.tuple #[noT, .int .i64 0, .int .i64 140]) ∧ Below w.heap.size w w' := by
  have HR := Aside0.mk hr
  have HK := Aside0.mk hk
  have HC := Aside0.mk hc
  have HT := Aside0.mk hctl
  have HL := Aside0.mk hl
  clear hr hk hc hctl hl
  have HW := Aside0.mk (within_eq i 0 (wrap64 ((l.length : Int) - 1)))
  have HX := Aside0.mk (within_eq ref 1 1099511627776)
  rw [hi] at HW
  rw [hx] at HX
  have HM := Aside0.mk HM
  go_enter Try.func35, Try.ntmps35
  go_wp2_with (first | (go_at_call 19; refine (check_calls _ _ _ _ _ _ (Kd.C_alloc (Kd.C_alloc HR.out _) _)).mono ?_; rintro e w1 ⟨rfl, hb⟩; rw [HK.out]; obtain ⟨hc, hf⟩ := bcell hb; have HB := Aside0.mk hb; clear hb) | (go_at_call 38; (with_reducible refine (trunk_within.calls _ _ _ _ _ HW.out).mono ?_); rintro e w2 ⟨rfl, ⟨nd, rfl⟩⟩) | (go_at_call 38; (with_reducible refine (trunk_within.calls _ _ _ _ _ HX.out).mono ?_); rintro e w2 ⟨rfl, ⟨ne, rfl⟩⟩) | (go_at_call 16; (with_reducible refine (trunk_Controls.calls _ _ _ _ _ _ _ _ ?s1 ?s2 HT.out).mono ?_); (case s1 => exact Kd.C_below HR.out (below_step (below_alloc (below_alloc (Below.refl _ _) _) _) (pw_below_drewN HB.out _))); (case s2 => exact HC.out); rintro e w3 ⟨rfl, hb⟩; have hb' := below_step (pw_below_drewN HB.out _) hb; clear hc hf HB; obtain ⟨hc, hf⟩ := bcell hb'; have HB := Aside0.mk hb'; clear hb hb') | (go_at_call 53; (with_reducible refine (clone_calls _ _ _ _ ?s1 HL.out).mono ?_); (case s1 => exact Kd.C_below HR.out (below_step (below_alloc (below_alloc (Below.refl _ _) _) _) HB.out)); rintro e w4 ⟨v, rfl, ho, hb⟩; obtain ⟨g, cap, rfl, hg1, hg2, cells, hg3⟩ := Kd.R_form ho (by omega); have hb' := below_step HB.out hb; have t2 := two_blk hb'; have hS : w.heap.size + 2 ≤ w4.heap.size := (by have hq := hb'.size; simp at hq; omega); have hG3 : w.heap.size + 2 ≤ w3.heap.size := (by have hq := HB.out.size; simp at hq; omega); have hG : w.heap.size + 2 ≤ g := (by omega); obtain ⟨x0, x1, x2, y0, y1, y2, fx, fy⟩ := id t2; have T2 := Aside0.mk t2; clear hc hf HB; have HB := Aside0.mk hb'; have HO := Aside0.mk ho; clear hb t2 hb' ho) | (go_at_call 47; refine (line_step (k0 := w.heap.size) (k1 := w.heap.size + 1) T2.out ?z1 ?z2 hg2 hg3 ?z3 ?z4 (by omega) HO.out i h0 h1 ctl 47 (fun p => #[p, .int .i64 ref]) _ (fun W W' lb g => Below W.heap.size W W') w (below_step (below_alloc (below_alloc (Below.refl _ _) _) _) HB.out) (Nat.le_refl _) (fun W W' lb h => ⟨fun B _ _ hB => h.mono hB, fun k hk _ _ => h.block k hk⟩) HM.out).mono ?_; (case z1 => omega); (case z2 => omega); (case z3 => omega); (case z4 => omega); rintro e w6 ⟨rfl, w5, hr5, hu, t6, hb6⟩; clear x0 x1 x2 y0 y1 y2 fx fy; obtain ⟨x0, x1, x2, y0, y1, y2, fx, fy⟩ := t6;  have HB6 := Aside0.mk hb6; clear hu hr5 hb6))
  go_ways
  have h4 : Below w.heap.size w w4 := below_step (below_alloc (below_alloc (Below.refl _ _) _) _) HB.out
  have h6 : Below w.heap.size w w6 := h4.trans (HB6.out _ (by omega) (by omega) (by omega) (by omega))
  refine bodyPost_ret (v := .tuple #[noT, .int .i64 0, .int .i64 140]) ?_ rfl ⟨rfl, ?_⟩
  · simp [results, Try.results35, go_sem, y0, y1, y2]
    rfl
  · refine Below.setCell (Below.setCell (Below.setCell h6 ?_ _) ?_ _) ?_ _
    all_goals (show w.heap.size ≤ w.heap.size + 1; omega)

end Go.Proofs.Ythemnajgdoambaa.Th
