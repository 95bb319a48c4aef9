/- The exported changes of trunk: their walks; printed by a program of ours (wip/tools/emit_wrap2.py). -/
import Derived.Test.YthemnajgdoambaaTh7
namespace Go.Proofs.Ythemnajgdoambaa.Th
open Go.RowKit Go.Proofs.YthemnajgdoambaaW.PrintWords Go.Proofs.YthemnajgdoambaaW.PrintLast Go.Proofs.YthemnajgdoambaaW.PrintMore Go.Proofs.Ythemnajgdoambaa.Tr
set_option linter.unusedVariables false
set_option linter.unusedSimpArgs false

theorem R_in {w w1 w2 : World} {B : Nat} {ok : Nat → Prop} {v : Value} {xs : List S36} (h : Kd.R k36 36 w1 B ok v xs) (hw : w.heap.size ≤ B) (hm : ∀ k, B ≤ k → k < w1.heap.size → w2.heap[k]? = w1.heap[k]?) : Kd.R k36 36 w2 w.heap.size (fun _ => True) v xs :=
  Kd.R_lower (Kd.R_mono (Kd.R_step (Kd.R_bound h) (fun k hk hk2 => hm k hk.2.1 hk2)) (fun _ _ => trivial)) hw

set_option maxHeartbeats 4000000 in
set_option maxRecDepth 100000 in
theorem seize_calls (a b : Int) (A : Option Addr) (c : Nat) (l : List S36) (i : Int) (ref : Int) (r1 r2 : Int) (r3 : List S36) (r4 r5 : Int) (w : World) (hr : Kd.C k36 w A l.length l) (hc : l.length ≤ c) (hR : chgS a b l i ref (fun _ c => seizeS c ref) = (r1, r2, r3, r4, r5)) :
    Calls Try.prog 13 #[.agg #[.int .i64 a, .int .i64 b, .slice A l.length c], .int .i64 i, .int .i64 ref] w fun e w' => ∃ v, e = .returned (.tuple #[.agg #[.int .i64 r1, .int .i64 r2, v], .int .i64 r5]) ∧ Kd.R k36 36 w' w.heap.size (fun _ => True) v r3 ∧ Below w.heap.size w w' := by
  have HR := Aside0.mk hr
  have HC := Aside0.mk hc
  have HS := Aside0.mk hR
  clear hr hc hR
  go_enter Try.func13, Try.ntmps13
  go_wp2_with (go_at_call 35; refine (change_seize_spec _ _ _ _ _ _ _  _ ?s1 HC.out).mono ?_; (case s1 => repeat (first | exact HR.out | (with_reducible refine Kd.C_alloc ?_ _))); rw [HS.out]; rintro e w1 ⟨v, rfl, hv, hb⟩; obtain ⟨Av, cv, rfl⟩ := Kd.R_slice hv; obtain ⟨hc, hf⟩ := bcell hb; have hS : w.heap.size + 1 < w1.heap.size := (by have hq := hb.size; simp at hq; omega); have y0 : w1.cell? ⟨w.heap.size + 1, 0, none⟩ = some (.int .i64 0) := (hc (w.heap.size + 1) 0 (by simp <;> omega)).trans (by go_simp); have y1 : w1.cell? ⟨w.heap.size + 1, 1, none⟩ = some (.int .i64 0) := (hc (w.heap.size + 1) 1 (by simp <;> omega)).trans (by go_simp); have y2 : w1.cell? ⟨w.heap.size + 1, 2, none⟩ = some (.slice none 0 0) := (hc (w.heap.size + 1) 2 (by simp <;> omega)).trans (by go_simp); have fy : ∀ o, w1.frozen? ⟨w.heap.size + 1, o, none⟩ = false := (fun o => (hf (w.heap.size + 1) o (by simp <;> omega)).trans (by go_simp)); have HB := Aside0.mk hb; have HV := Aside0.mk hv; clear hb hv hc hf; dsimp only)
  go_ways
  have h1 : Below w.heap.size w w1 := below_step (below_alloc (below_alloc (Below.refl _ _) _) _) HB.out
  refine bodyPost_ret (v := .tuple #[.agg #[.int .i64 r1, .int .i64 r2, .slice Av r3.length cv], .int .i64 r5]) ?_ rfl ⟨_, rfl, ?_, ?_⟩
  · simp [results, Try.results13, go_sem, y0, y1, y2, hS]
  · refine R_in HV.out (by simp <;> omega) (fun k hk1 hk2 => ?_)
    have hne : k ≠ w.heap.size + 1 := by
      have q := hk1
      simp at q
      omega
    exact (Below.heap_alloc _ _ k (by simpa using hk2)).trans ((Below.heap_setCell _ ⟨_, 2, none⟩ _ k hne).trans ((Below.heap_setCell _ ⟨_, 1, none⟩ _ k hne).trans (Below.heap_setCell _ ⟨_, 0, none⟩ _ k hne)))
  · exact Below.alloc (Below.setCell (p := ⟨_, 2, none⟩) (Below.setCell (p := ⟨_, 1, none⟩) (Below.setCell (p := ⟨_, 0, none⟩) h1 (show w.heap.size ≤ w.heap.size + 1 by omega) _) (show w.heap.size ≤ w.heap.size + 1 by omega) _) (show w.heap.size ≤ w.heap.size + 1 by omega) _) (by simp; omega) _

set_option maxHeartbeats 4000000 in
set_option maxRecDepth 100000 in
theorem arrive_calls (a b : Int) (A : Option Addr) (c : Nat) (l : List S36) (i : Int) (ref : Int) (r1 r2 : Int) (r3 : List S36) (r4 r5 : Int) (w : World) (hr : Kd.C k36 w A l.length l) (hc : l.length ≤ c) (hR : chgS a b l i ref (fun ctl c => arriveS ctl c ref) = (r1, r2, r3, r4, r5)) :
    Calls Try.prog 15 #[.agg #[.int .i64 a, .int .i64 b, .slice A l.length c], .int .i64 i, .int .i64 ref] w fun e w' => ∃ v, e = .returned (.tuple #[.agg #[.int .i64 r1, .int .i64 r2, v], .int .i64 r4, .int .i64 r5]) ∧ Kd.R k36 36 w' w.heap.size (fun _ => True) v r3 ∧ Below w.heap.size w w' := by
  have HR := Aside0.mk hr
  have HC := Aside0.mk hc
  have HS := Aside0.mk hR
  clear hr hc hR
  go_enter Try.func15, Try.ntmps15
  go_wp2_with (go_at_call 35; refine (change_arrive_spec _ _ _ _ _ _ _  _ ?s1 HC.out).mono ?_; (case s1 => repeat (first | exact HR.out | (with_reducible refine Kd.C_alloc ?_ _))); rw [HS.out]; rintro e w1 ⟨v, rfl, hv, hb⟩; obtain ⟨Av, cv, rfl⟩ := Kd.R_slice hv; obtain ⟨hc, hf⟩ := bcell hb; have hS : w.heap.size + 1 < w1.heap.size := (by have hq := hb.size; simp at hq; omega); have y0 : w1.cell? ⟨w.heap.size + 1, 0, none⟩ = some (.int .i64 0) := (hc (w.heap.size + 1) 0 (by simp <;> omega)).trans (by go_simp); have y1 : w1.cell? ⟨w.heap.size + 1, 1, none⟩ = some (.int .i64 0) := (hc (w.heap.size + 1) 1 (by simp <;> omega)).trans (by go_simp); have y2 : w1.cell? ⟨w.heap.size + 1, 2, none⟩ = some (.slice none 0 0) := (hc (w.heap.size + 1) 2 (by simp <;> omega)).trans (by go_simp); have fy : ∀ o, w1.frozen? ⟨w.heap.size + 1, o, none⟩ = false := (fun o => (hf (w.heap.size + 1) o (by simp <;> omega)).trans (by go_simp)); have HB := Aside0.mk hb; have HV := Aside0.mk hv; clear hb hv hc hf; dsimp only)
  go_ways
  have h1 : Below w.heap.size w w1 := below_step (below_alloc (below_alloc (Below.refl _ _) _) _) HB.out
  refine bodyPost_ret (v := .tuple #[.agg #[.int .i64 r1, .int .i64 r2, .slice Av r3.length cv], .int .i64 r4, .int .i64 r5]) ?_ rfl ⟨_, rfl, ?_, ?_⟩
  · simp [results, Try.results15, go_sem, y0, y1, y2, hS]
  · refine R_in HV.out (by simp <;> omega) (fun k hk1 hk2 => ?_)
    have hne : k ≠ w.heap.size + 1 := by
      have q := hk1
      simp at q
      omega
    exact (Below.heap_setCell _ ⟨_, 2, none⟩ _ k hne).trans ((Below.heap_setCell _ ⟨_, 1, none⟩ _ k hne).trans (Below.heap_setCell _ ⟨_, 0, none⟩ _ k hne))
  · exact Below.setCell (p := ⟨_, 2, none⟩) (Below.setCell (p := ⟨_, 1, none⟩) (Below.setCell (p := ⟨_, 0, none⟩) h1 (show w.heap.size ≤ w.heap.size + 1 by omega) _) (show w.heap.size ≤ w.heap.size + 1 by omega) _) (show w.heap.size ≤ w.heap.size + 1 by omega) _

set_option maxHeartbeats 4000000 in
set_option maxRecDepth 100000 in
theorem release_calls (a b : Int) (A : Option Addr) (c : Nat) (l : List S36) (i : Int) (r1 r2 : Int) (r3 : List S36) (r4 r5 : Int) (w : World) (hr : Kd.C k36 w A l.length l) (hc : l.length ≤ c) (hR : chgS a b l i 1 (fun _ c => releaseS c) = (r1, r2, r3, r4, r5)) :
    Calls Try.prog 26 #[.agg #[.int .i64 a, .int .i64 b, .slice A l.length c], .int .i64 i] w fun e w' => ∃ v, e = .returned (.tuple #[.agg #[.int .i64 r1, .int .i64 r2, v], .int .i64 r5]) ∧ Kd.R k36 36 w' w.heap.size (fun _ => True) v r3 ∧ Below w.heap.size w w' := by
  have HR := Aside0.mk hr
  have HC := Aside0.mk hc
  have HS := Aside0.mk hR
  clear hr hc hR
  go_enter Try.func26, Try.ntmps26
  go_wp2_with (go_at_call 35; refine (change_release_spec _ _ _ _ _ _ _  _ ?s1 HC.out).mono ?_; (case s1 => repeat (first | exact HR.out | (with_reducible refine Kd.C_alloc ?_ _))); rw [HS.out]; rintro e w1 ⟨v, rfl, hv, hb⟩; obtain ⟨Av, cv, rfl⟩ := Kd.R_slice hv; obtain ⟨hc, hf⟩ := bcell hb; have hS : w.heap.size + 1 < w1.heap.size := (by have hq := hb.size; simp at hq; omega); have y0 : w1.cell? ⟨w.heap.size + 1, 0, none⟩ = some (.int .i64 0) := (hc (w.heap.size + 1) 0 (by simp <;> omega)).trans (by go_simp); have y1 : w1.cell? ⟨w.heap.size + 1, 1, none⟩ = some (.int .i64 0) := (hc (w.heap.size + 1) 1 (by simp <;> omega)).trans (by go_simp); have y2 : w1.cell? ⟨w.heap.size + 1, 2, none⟩ = some (.slice none 0 0) := (hc (w.heap.size + 1) 2 (by simp <;> omega)).trans (by go_simp); have fy : ∀ o, w1.frozen? ⟨w.heap.size + 1, o, none⟩ = false := (fun o => (hf (w.heap.size + 1) o (by simp <;> omega)).trans (by go_simp)); have HB := Aside0.mk hb; have HV := Aside0.mk hv; clear hb hv hc hf; dsimp only)
  go_ways
  have h1 : Below w.heap.size w w1 := below_step (below_alloc (below_alloc (Below.refl _ _) _) _) HB.out
  refine bodyPost_ret (v := .tuple #[.agg #[.int .i64 r1, .int .i64 r2, .slice Av r3.length cv], .int .i64 r5]) ?_ rfl ⟨_, rfl, ?_, ?_⟩
  · simp [results, Try.results26, go_sem, y0, y1, y2, hS]
  · refine R_in HV.out (by simp <;> omega) (fun k hk1 hk2 => ?_)
    have hne : k ≠ w.heap.size + 1 := by
      have q := hk1
      simp at q
      omega
    exact (Below.heap_alloc _ _ k (by simpa using hk2)).trans ((Below.heap_setCell _ ⟨_, 2, none⟩ _ k hne).trans ((Below.heap_setCell _ ⟨_, 1, none⟩ _ k hne).trans (Below.heap_setCell _ ⟨_, 0, none⟩ _ k hne)))
  · exact Below.alloc (Below.setCell (p := ⟨_, 2, none⟩) (Below.setCell (p := ⟨_, 1, none⟩) (Below.setCell (p := ⟨_, 0, none⟩) h1 (show w.heap.size ≤ w.heap.size + 1 by omega) _) (show w.heap.size ≤ w.heap.size + 1 by omega) _) (show w.heap.size ≤ w.heap.size + 1 by omega) _) (by simp; omega) _

set_option maxHeartbeats 4000000 in
set_option maxRecDepth 100000 in
theorem clear_calls (a b : Int) (A : Option Addr) (c : Nat) (l : List S36) (i : Int) (r1 r2 : Int) (r3 : List S36) (r4 r5 : Int) (w : World) (hr : Kd.C k36 w A l.length l) (hc : l.length ≤ c) (hR : chgS a b l i 1 (fun _ c => clearS c) = (r1, r2, r3, r4, r5)) :
    Calls Try.prog 27 #[.agg #[.int .i64 a, .int .i64 b, .slice A l.length c], .int .i64 i] w fun e w' => ∃ v, e = .returned (.tuple #[.agg #[.int .i64 r1, .int .i64 r2, v], .int .i64 r5]) ∧ Kd.R k36 36 w' w.heap.size (fun _ => True) v r3 ∧ Below w.heap.size w w' := by
  have HR := Aside0.mk hr
  have HC := Aside0.mk hc
  have HS := Aside0.mk hR
  clear hr hc hR
  go_enter Try.func27, Try.ntmps27
  go_wp2_with (go_at_call 35; refine (change_clear_spec _ _ _ _ _ _ _  _ ?s1 HC.out).mono ?_; (case s1 => repeat (first | exact HR.out | (with_reducible refine Kd.C_alloc ?_ _))); rw [HS.out]; rintro e w1 ⟨v, rfl, hv, hb⟩; obtain ⟨Av, cv, rfl⟩ := Kd.R_slice hv; obtain ⟨hc, hf⟩ := bcell hb; have hS : w.heap.size + 1 < w1.heap.size := (by have hq := hb.size; simp at hq; omega); have y0 : w1.cell? ⟨w.heap.size + 1, 0, none⟩ = some (.int .i64 0) := (hc (w.heap.size + 1) 0 (by simp <;> omega)).trans (by go_simp); have y1 : w1.cell? ⟨w.heap.size + 1, 1, none⟩ = some (.int .i64 0) := (hc (w.heap.size + 1) 1 (by simp <;> omega)).trans (by go_simp); have y2 : w1.cell? ⟨w.heap.size + 1, 2, none⟩ = some (.slice none 0 0) := (hc (w.heap.size + 1) 2 (by simp <;> omega)).trans (by go_simp); have fy : ∀ o, w1.frozen? ⟨w.heap.size + 1, o, none⟩ = false := (fun o => (hf (w.heap.size + 1) o (by simp <;> omega)).trans (by go_simp)); have HB := Aside0.mk hb; have HV := Aside0.mk hv; clear hb hv hc hf; dsimp only)
  go_ways
  have h1 : Below w.heap.size w w1 := below_step (below_alloc (below_alloc (Below.refl _ _) _) _) HB.out
  refine bodyPost_ret (v := .tuple #[.agg #[.int .i64 r1, .int .i64 r2, .slice Av r3.length cv], .int .i64 r5]) ?_ rfl ⟨_, rfl, ?_, ?_⟩
  · simp [results, Try.results27, go_sem, y0, y1, y2, hS]
  · refine R_in HV.out (by simp <;> omega) (fun k hk1 hk2 => ?_)
    have hne : k ≠ w.heap.size + 1 := by
      have q := hk1
      simp at q
      omega
    exact (Below.heap_alloc _ _ k (by simpa using hk2)).trans ((Below.heap_setCell _ ⟨_, 2, none⟩ _ k hne).trans ((Below.heap_setCell _ ⟨_, 1, none⟩ _ k hne).trans (Below.heap_setCell _ ⟨_, 0, none⟩ _ k hne)))
  · exact Below.alloc (Below.setCell (p := ⟨_, 2, none⟩) (Below.setCell (p := ⟨_, 1, none⟩) (Below.setCell (p := ⟨_, 0, none⟩) h1 (show w.heap.size ≤ w.heap.size + 1 by omega) _) (show w.heap.size ≤ w.heap.size + 1 by omega) _) (show w.heap.size ≤ w.heap.size + 1 by omega) _) (by simp; omega) _

set_option maxHeartbeats 4000000 in
set_option maxRecDepth 100000 in
theorem block_calls (a b : Int) (A : Option Addr) (c : Nat) (l : List S36) (i : Int) (remote on : Bool) (r1 r2 : Int) (r3 : List S36) (r4 r5 : Int) (w : World) (hr : Kd.C k36 w A l.length l) (hc : l.length ≤ c) (hR : chgS a b l i 1 (fun _ c => blockS remote on c) = (r1, r2, r3, r4, r5)) :
    Calls Try.prog 22 #[.agg #[.int .i64 a, .int .i64 b, .slice A l.length c], .int .i64 i, .bool remote, .bool on] w fun e w' => ∃ v, e = .returned (.tuple #[.agg #[.int .i64 r1, .int .i64 r2, v], .int .i64 r5]) ∧ Kd.R k36 36 w' w.heap.size (fun _ => True) v r3 ∧ Below w.heap.size w w' := by
  have HR := Aside0.mk hr
  have HC := Aside0.mk hc
  have HS := Aside0.mk hR
  clear hr hc hR
  go_enter Try.func22, Try.ntmps22
  go_wp2_with (go_at_call 35; refine (change_block_spec _ _ _ _ _ _ _ _ _ remote on _ ?s1 HC.out ?s2 ?s3).mono ?_; (case s1 => repeat (first | exact HR.out | (with_reducible refine Kd.C_alloc ?_ _))); (case s2 => go_simp); (case s3 => go_simp); rw [HS.out]; rintro e w1 ⟨v, rfl, hv, hb⟩; obtain ⟨Av, cv, rfl⟩ := Kd.R_slice hv; obtain ⟨hc, hf⟩ := bcell hb; have hS : w.heap.size + 3 < w1.heap.size := (by have hq := hb.size; simp at hq; omega); have y0 : w1.cell? ⟨w.heap.size + 3, 0, none⟩ = some (.int .i64 0) := (hc (w.heap.size + 3) 0 (by simp <;> omega)).trans (by go_simp); have y1 : w1.cell? ⟨w.heap.size + 3, 1, none⟩ = some (.int .i64 0) := (hc (w.heap.size + 3) 1 (by simp <;> omega)).trans (by go_simp); have y2 : w1.cell? ⟨w.heap.size + 3, 2, none⟩ = some (.slice none 0 0) := (hc (w.heap.size + 3) 2 (by simp <;> omega)).trans (by go_simp); have fy : ∀ o, w1.frozen? ⟨w.heap.size + 3, o, none⟩ = false := (fun o => (hf (w.heap.size + 3) o (by simp <;> omega)).trans (by go_simp)); have HB := Aside0.mk hb; have HV := Aside0.mk hv; clear hb hv hc hf; dsimp only)
  go_ways
  have h1 : Below w.heap.size w w1 := below_step (below_alloc (below_alloc (below_alloc (below_alloc (Below.refl _ _) _) _) _) _) HB.out
  refine bodyPost_ret (v := .tuple #[.agg #[.int .i64 r1, .int .i64 r2, .slice Av r3.length cv], .int .i64 r5]) ?_ rfl ⟨_, rfl, ?_, ?_⟩
  · simp [results, Try.results22, go_sem, y0, y1, y2, hS]
  · refine R_in HV.out (by simp <;> omega) (fun k hk1 hk2 => ?_)
    have hne : k ≠ w.heap.size + 3 := by
      have q := hk1
      simp at q
      omega
    exact (Below.heap_alloc _ _ k (by simpa using hk2)).trans ((Below.heap_setCell _ ⟨_, 2, none⟩ _ k hne).trans ((Below.heap_setCell _ ⟨_, 1, none⟩ _ k hne).trans (Below.heap_setCell _ ⟨_, 0, none⟩ _ k hne)))
  · exact Below.alloc (Below.setCell (p := ⟨_, 2, none⟩) (Below.setCell (p := ⟨_, 1, none⟩) (Below.setCell (p := ⟨_, 0, none⟩) h1 (show w.heap.size ≤ w.heap.size + 3 by omega) _) (show w.heap.size ≤ w.heap.size + 3 by omega) _) (show w.heap.size ≤ w.heap.size + 3 by omega) _) (by simp; omega) _

end Go.Proofs.Ythemnajgdoambaa.Th
