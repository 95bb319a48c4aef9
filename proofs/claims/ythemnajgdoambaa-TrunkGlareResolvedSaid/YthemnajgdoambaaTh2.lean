/-
  The methods of trunk's line, by hand: what seize, arrive, release, clear and the closure of Block do to the circuit's cells.
-/
import Derived.Test.YthemnajgdoambaaTa
import Derived.RegionTactic
import Derived.ChangeAlike
namespace Go.Proofs.Ythemnajgdoambaa.Th
open Go.RowKit Go.Proofs.YthemnajgdoambaaW.PrintWords Go.Proofs.YthemnajgdoambaaW.PrintLast Go.Proofs.YthemnajgdoambaaW.PrintMore Go.Proofs.Ythemnajgdoambaa.Tr
set_option linter.unusedVariables false
set_option linter.unusedSimpArgs false

def av (c : S36) : Bool := decide (c.f0 = 0) && !c.f2 && !c.f3
theorem av_eq (c : S36) : trunk_available.f c.f0 c.f1 c.f2 c.f3 = some (av c) := by
  unfold trunk_available.f av
  by_cases h : c.f0 = 0
  · rw [if_pos h, decide_eq_true h]
    cases c.f2 <;> simp
  · rw [if_neg h, decide_eq_false h]
    rfl

/-- A line in memory: a pointer to the circuit's cells, whether this side controls it, the verdict. -/
structure Ln (w : World) (lb g o : Nat) (ctl : Bool) (vd : Int) (c : S36) : Prop where
  p : w.cell? ⟨lb, 0, none⟩ = some (.pointer (some ⟨g, o, none⟩))
  b : w.cell? ⟨lb, 1, none⟩ = some (.bool ctl)
  v : w.cell? ⟨lb, 2, none⟩ = some (.int .i64 vd)
  c0 : w.cell? ⟨g, o, none⟩ = some (.int .i64 c.f0)
  c1 : w.cell? ⟨g, o + 1, none⟩ = some (.int .i64 c.f1)
  c2 : w.cell? ⟨g, o + 2, none⟩ = some (.bool c.f2)
  c3 : w.cell? ⟨g, o + 3, none⟩ = some (.bool c.f3)
  fl : ∀ j, w.frozen? ⟨lb, j, none⟩ = false
  fg : ∀ j, w.frozen? ⟨g, j, none⟩ = false
  ne : lb ≠ g

theorem Ln.below {w w1 : World} {lb g o : Nat} {ctl : Bool} {vd : Int} {c : S36} (h : Ln w lb g o ctl vd c) (hb : Below w.heap.size w w1) : Ln w1 lb g o ctl vd c :=
  ⟨pw_cell_below hb h.p, pw_cell_below hb h.b, pw_cell_below hb h.v, pw_cell_below hb h.c0, pw_cell_below hb h.c1, pw_cell_below hb h.c2, pw_cell_below hb h.c3,
   fun j => (hb.frozen (p := ⟨lb, j, none⟩) (World.block_lt_of_cell? _ ⟨lb, 0, none⟩ h.p)).trans (h.fl j), fun j => (hb.frozen (p := ⟨g, j, none⟩) (World.block_lt_of_cell? _ ⟨g, o, none⟩ h.c0)).trans (h.fg j), h.ne⟩

set_option maxHeartbeats 1000000 in
theorem seizeM_yes (lb g o : Nat) (ctl : Bool) (vd ref : Int) (c : S36) (w : World) (h : Ln w lb g o ctl vd c) (ha : av c = true) :
    Calls Try.prog 36 #[.pointer (some ⟨lb, 0, none⟩), .int .i64 ref] w fun e w' => e = .returned (.int .i64 0) ∧ ∃ w2, Below w.heap.size w w2 ∧ w' = ((w2.setCell ⟨g, o, none⟩ (.int .i64 1)).setCell ⟨g, o + 1, none⟩ (.int .i64 ref)).drew := by
  have HL := Aside0.mk h
  have HA := Aside0.mk ha
  have HV := Aside0.mk (av_eq c)
  obtain ⟨hp, _, _, h0, h1, h2, h3, hfl, hfg, hne⟩ := h
  clear ha
  go_enter Try.func36, Try.ntmps36
  go_wp2_with (go_at_call 54; refine (trunk_available.calls _ _ _ _ _ _ HV.out).mono ?_; rintro e w1 ⟨rfl, hb⟩; rw [HA.out]; have HB := Aside0.mk hb; have HL1 := Aside0.mk (HL.out.below hb); clear hb)
  obtain ⟨hp1, _, _, g0, g1, g2, g3, hfl1, hfg1, _⟩ := HL1.out
  go_region
  go_wp2
  go_ret
  exact ⟨rfl, _, HB.out, rfl⟩

set_option maxHeartbeats 1000000 in
theorem seizeM_no (lb g o : Nat) (ctl : Bool) (vd ref : Int) (c : S36) (w : World) (h : Ln w lb g o ctl vd c) (ha : av c = false) :
    Calls Try.prog 36 #[.pointer (some ⟨lb, 0, none⟩), .int .i64 ref] w fun e w' => e = .returned (.int .i64 140) ∧ Below w.heap.size w w' := by
  have HA := Aside0.mk ha
  have HV := Aside0.mk (av_eq c)
  obtain ⟨hp, _, _, h0, h1, h2, h3, hfl, hfg, hne⟩ := h
  clear ha
  go_enter Try.func36, Try.ntmps36
  go_wp2_with (go_at_call 54; refine (trunk_available.calls _ _ _ _ _ _ HV.out).mono ?_; rintro e w1 ⟨rfl, hb⟩; rw [HA.out]; have HB := Aside0.mk hb; clear hb)
  go_ret
  exact ⟨rfl, HB.out⟩

set_option maxHeartbeats 1000000 in
theorem releaseM_yes (lb g o : Nat) (ctl : Bool) (vd ref : Int) (c : S36) (w : World) (h : Ln w lb g o ctl vd c) (ha : c.f0 = 1 ∨ c.f0 = 2) :
    Calls Try.prog 46 #[.pointer (some ⟨lb, 0, none⟩), .int .i64 ref] w fun e w' => e = .returned (.int .i64 0) ∧ w' = w.setCell ⟨g, o, none⟩ (.int .i64 3) := by
  obtain ⟨hp, _, _, h0, h1, h2, h3, hfl, hfg, hne⟩ := h
  rcases ha with ha | ha
  · rw [ha] at h0
    go_enter Try.func46, Try.ntmps46
    go_wp2
    go_ret
    exact ⟨rfl, rfl⟩
  · rw [ha] at h0
    go_enter Try.func46, Try.ntmps46
    go_wp2
    go_ret
    exact ⟨rfl, rfl⟩

set_option maxHeartbeats 1000000 in
theorem releaseM_no (lb g o : Nat) (ctl : Bool) (vd ref : Int) (c : S36) (w : World) (h : Ln w lb g o ctl vd c) (ha1 : (c.f0 != 1) = true) (ha2 : (c.f0 != 2) = true) :
    Calls Try.prog 46 #[.pointer (some ⟨lb, 0, none⟩), .int .i64 ref] w fun e w' => e = .returned (.int .i64 140) ∧ w' = w := by
  obtain ⟨hp, _, _, h0, h1, h2, h3, hfl, hfg, hne⟩ := h
  go_enter Try.func46, Try.ntmps46
  go_wp2
  go_ret
  exact ⟨rfl, rfl⟩

set_option maxHeartbeats 1000000 in
theorem clearM_yes (lb g o : Nat) (ctl : Bool) (vd ref : Int) (c : S36) (w : World) (h : Ln w lb g o ctl vd c) (ha : (c.f0 == 0) = false) :
    Calls Try.prog 47 #[.pointer (some ⟨lb, 0, none⟩), .int .i64 ref] w fun e w' => e = .returned (.int .i64 0) ∧ w' = ((w.setCell ⟨g, o, none⟩ (.int .i64 0)).setCell ⟨g, o + 1, none⟩ (.int .i64 0)).drew := by
  obtain ⟨hp, _, _, h0, h1, h2, h3, hfl, hfg, hne⟩ := h
  go_enter Try.func47, Try.ntmps47
  go_wp2
  go_region
  go_wp2
  go_ret
  exact ⟨rfl, rfl⟩

set_option maxHeartbeats 1000000 in
theorem clearM_no (lb g o : Nat) (ctl : Bool) (vd ref : Int) (c : S36) (w : World) (h : Ln w lb g o ctl vd c) (ha : (c.f0 == 0) = true) :
    Calls Try.prog 47 #[.pointer (some ⟨lb, 0, none⟩), .int .i64 ref] w fun e w' => e = .returned (.int .i64 140) ∧ w' = w := by
  obtain ⟨hp, _, _, h0, h1, h2, h3, hfl, hfg, hne⟩ := h
  go_enter Try.func47, Try.ntmps47
  go_wp2
  go_ret
  exact ⟨rfl, rfl⟩

set_option maxHeartbeats 1000000 in
theorem blockM (lb g o br bo : Nat) (ctl remote on : Bool) (vd ref : Int) (c : S36) (w : World) (h : Ln w lb g o ctl vd c) (hr : w.cell? ⟨br, 0, none⟩ = some (.bool remote)) (ho : w.cell? ⟨bo, 0, none⟩ = some (.bool on)) :
    Calls Try.prog 44 #[.pointer (some ⟨lb, 0, none⟩), .int .i64 ref, .pointer (some ⟨br, 0, none⟩), .pointer (some ⟨bo, 0, none⟩)] w fun e w' => e = .returned (.int .i64 0) ∧ w' = (w.setCell ⟨g, if remote then o + 3 else o + 2, none⟩ (.bool on)).drew := by
  obtain ⟨hp, _, _, h0, h1, h2, h3, hfl, hfg, hne⟩ := h
  cases remote
  all_goals
    go_enter Try.func44, Try.ntmps44
    go_wp2
    go_region
    go_wp2
    go_ret
    exact ⟨rfl, rfl⟩

set_option maxHeartbeats 1000000 in
theorem arriveM_refuse (lb g o : Nat) (ctl : Bool) (vd ref : Int) (c : S36) (w : World) (h : Ln w lb g o ctl vd c) (ha : c.f2 = true ∨ c.f0 = 2 ∨ c.f0 = 3) :
    Calls Try.prog 37 #[.pointer (some ⟨lb, 0, none⟩), .int .i64 ref] w fun e w' => e = .returned (.int .i64 0) ∧ w' = w.setCell ⟨lb, 2, none⟩ (.int .i64 4) := by
  obtain ⟨hp, _, _, h0, h1, h2, h3, hfl, hfg, hne⟩ := h
  cases hc : c.f2
  · rw [hc] at h2 ha
    rcases ha with ha | ha | ha
    · cases ha
    all_goals
      rw [ha] at h0
      go_enter Try.func37, Try.ntmps37
      go_wp2
      go_ret
      exact ⟨rfl, rfl⟩
  · rw [hc] at h2
    go_enter Try.func37, Try.ntmps37
    go_wp2
    go_ret
    exact ⟨rfl, rfl⟩

set_option maxHeartbeats 1000000 in
theorem arriveM_ignore (lb g o : Nat) (vd ref : Int) (c : S36) (w : World) (h : Ln w lb g o true vd c) (h2' : c.f2 = false) (ha : c.f0 = 1) :
    Calls Try.prog 37 #[.pointer (some ⟨lb, 0, none⟩), .int .i64 ref] w fun e w' => e = .returned (.int .i64 0) ∧ w' = w.setCell ⟨lb, 2, none⟩ (.int .i64 2) := by
  obtain ⟨hp, _, _, h0, h1, h2, h3, hfl, hfg, hne⟩ := h
  rw [h2'] at h2
  rw [ha] at h0
  go_enter Try.func37, Try.ntmps37
  go_wp2
  go_ret
  exact ⟨rfl, rfl⟩

set_option maxHeartbeats 2000000 in
theorem arriveM_yield (lb g o : Nat) (vd ref : Int) (c : S36) (w : World) (h : Ln w lb g o false vd c) (h2' : c.f2 = false) (ha : c.f0 = 1) :
    Calls Try.prog 37 #[.pointer (some ⟨lb, 0, none⟩), .int .i64 ref] w fun e w' => e = .returned (.int .i64 0) ∧ w' = ((((w.setCell ⟨lb, 2, none⟩ (.int .i64 3)).setCell ⟨g, o, none⟩ (.int .i64 2)).setCell ⟨g, o + 1, none⟩ (.int .i64 ref)).setCell ⟨g, o + 3, none⟩ (.bool false)).drew := by
  obtain ⟨hp, _, _, h0, h1, h2, h3, hfl, hfg, hne⟩ := h
  rw [h2'] at h2
  rw [ha] at h0
  go_enter Try.func37, Try.ntmps37
  go_wp2
  go_region
  go_wp2
  go_ret
  exact ⟨rfl, rfl⟩

set_option maxHeartbeats 2000000 in
theorem arriveM_accept (lb g o : Nat) (ctl : Bool) (vd ref : Int) (c : S36) (w : World) (h : Ln w lb g o ctl vd c) (h2' : c.f2 = false) (ha : c.f0 = 0) :
    Calls Try.prog 37 #[.pointer (some ⟨lb, 0, none⟩), .int .i64 ref] w fun e w' => e = .returned (.int .i64 0) ∧ w' = ((((w.setCell ⟨lb, 2, none⟩ (.int .i64 1)).setCell ⟨g, o, none⟩ (.int .i64 2)).setCell ⟨g, o + 1, none⟩ (.int .i64 ref)).setCell ⟨g, o + 3, none⟩ (.bool false)).drew := by
  obtain ⟨hp, _, _, h0, h1, h2, h3, hfl, hfg, hne⟩ := h
  rw [h2'] at h2
  rw [ha] at h0
  go_enter Try.func37, Try.ntmps37
  go_wp2
  go_region
  go_wp2
  go_ret
  exact ⟨rfl, rfl⟩

end Go.Proofs.Ythemnajgdoambaa.Th
