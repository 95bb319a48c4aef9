/-
  The reference's with, by hand; and what trunk's and its contracts are called in the printed texts.
-/
import Derived.Test.YthemnajgdoambaaTh8
import Derived.Test.YthemnajgdoambaaTh10
namespace Go.Proofs.Ythemnajgdoambaa.Th
open Go.RowKit Go.Proofs.YthemnajgdoambaaW.PrintWords Go.Proofs.YthemnajgdoambaaW.PrintLast Go.Proofs.YthemnajgdoambaaW.PrintMore Go.Proofs.Ythemnajgdoambaa.Tr
set_option linter.unusedVariables false
set_option linter.unusedSimpArgs false

set_option maxHeartbeats 4000000 in
set_option maxRecDepth 100000 in
theorem with_calls (a b : Int) (A : Option Addr) (c : Nat) (l : List S36) (i : Int) (d : S36) (w : World) (hr : Kd.C k36 w A l.length l) (h0 : 0 ≤ i) (h1 : i < l.length) (hl : l.length ≤ 1000) :
    Calls Try.prog 51 #[.agg #[.int .i64 a, .int .i64 b, .slice A l.length c], .int .i64 i, .agg #[.int .i64 d.f0, .int .i64 d.f1, .bool d.f2, .bool d.f3]] w fun e w' => ∃ v, e = .returned (.agg #[.int .i64 a, .int .i64 b, v]) ∧ Kd.R k36 36 w' w.heap.size (fun _ => True) v (l.set i.toNat d) ∧ Below w.heap.size w w' := by
  have hb3 : Below w.heap.size w (((w.alloc (.cells #[.int .i64 a, .int .i64 b, .slice A l.length c] 26)).alloc (.cells #[.int .i64 d.f0, .int .i64 d.f1, .bool d.f2, .bool d.f3] 36)).alloc (.cells #[.int .i64 0, .int .i64 0, .slice none 0 0] 26)) := below_alloc (below_alloc (below_alloc (Below.refl _ _) _) _) _
  have hs3 : (((w.alloc (.cells #[.int .i64 a, .int .i64 b, .slice A l.length c] 26)).alloc (.cells #[.int .i64 d.f0, .int .i64 d.f1, .bool d.f2, .bool d.f3] 36)).alloc (.cells #[.int .i64 0, .int .i64 0, .slice none 0 0] 26)).heap.size = w.heap.size + 3 := by simp
  have HR := Aside0.mk hr
  have HB := Aside0.mk hb3
  have HS := Aside0.mk hs3
  clear hr hb3 hs3
  go_enter Try.func51, Try.ntmps51
  go_wp2_with ((with_reducible refine gate_builtin (b := .append) (xs := #[.const (.slice none 0 0), .tmp 8]) rfl ?_); at_builtin; refine Kd.R_append_rows (α := S36) k36 (Rr := k36.K (((w.alloc (.cells #[.int .i64 a, .int .i64 b, .slice A l.length c] 26)).alloc (.cells #[.int .i64 d.f0, .int .i64 d.f1, .bool d.f2, .bool d.f3] 36)).alloc (.cells #[.int .i64 0, .int .i64 0, .slice none 0 0] 26))) (w0 := (((w.alloc (.cells #[.int .i64 a, .int .i64 b, .slice A l.length c] 26)).alloc (.cells #[.int .i64 d.f0, .int .i64 d.f1, .bool d.f2, .bool d.f3] 36)).alloc (.cells #[.int .i64 0, .int .i64 0, .slice none 0 0] 26))) (w.heap.size + 3) rfl (.const (.slice none 0 0)) (.tmp 8) 24 36 (.agg #[(.int .i64 0), (.int .i64 0), (.bool false), (.bool false)]) 24 rfl Try.underlying24 info36 rfl ?q1 ?q2 (.slice none 0 0) ([] : List S36) l A l.length c (fun _ => True) (fun _ => False) rfl rfl ?aO ?aR ?aK ?q3 ?aF ?aB ?aS ?aL ?_; (case q1 => exact (by decide : 0 < 4)); (case q2 => omega); (case q3 => exact fun _ h => h.elim); (case aK => exact fun x cs h => by rw [k36_open h]; exact k36_mkM _ _ _ x); (case aR => exact (Kd.C_below HR.out HB.out)); (case aB => exact Below.refl _ _); (case aF => exact (fun _ _ => trivial)); (case aO => exact Kd.R_nil _ _ _ _ _); (case aS => exact Nat.le_of_eq HS.out.symm); (case aL => simp only [List.length_nil]; omega); intro v104 w4 ho hb hg hat; obtain ⟨g, cap, rfl, hg1, hg2, cells, hg3⟩ := Kd.R_form ho (by simp; omega); have hb' := hb; rw [← HS.out] at hb'; obtain ⟨hc, hf⟩ := bcell hb'; simp only [List.nil_append, List.length_nil, Nat.zero_add] at ho hg1 hg2 hg3; have hsz : w.heap.size + 3 ≤ w4.heap.size := (by have q := hb.size; rw [HS.out] at q; exact q); have x0 : w4.cell? ⟨w.heap.size, 0, none⟩ = some (.int .i64 a) := (hc (w.heap.size) 0 (by simp <;> omega)).trans (by go_simp); have x1 : w4.cell? ⟨w.heap.size, 1, none⟩ = some (.int .i64 b) := (hc (w.heap.size) 1 (by simp <;> omega)).trans (by go_simp); have x2 : w4.cell? ⟨w.heap.size, 2, none⟩ = some (.slice A l.length c) := (hc (w.heap.size) 2 (by simp <;> omega)).trans (by go_simp); have e0 : w4.cell? ⟨w.heap.size + 1, 0, none⟩ = some (.int .i64 d.f0) := (hc (w.heap.size + 1) 0 (by simp <;> omega)).trans (by go_simp); have e1 : w4.cell? ⟨w.heap.size + 1, 1, none⟩ = some (.int .i64 d.f1) := (hc (w.heap.size + 1) 1 (by simp <;> omega)).trans (by go_simp); have e2 : w4.cell? ⟨w.heap.size + 1, 2, none⟩ = some (.bool d.f2) := (hc (w.heap.size + 1) 2 (by simp <;> omega)).trans (by go_simp); have e3 : w4.cell? ⟨w.heap.size + 1, 3, none⟩ = some (.bool d.f3) := (hc (w.heap.size + 1) 3 (by simp <;> omega)).trans (by go_simp); have y0 : w4.cell? ⟨w.heap.size + 1 + 1, 0, none⟩ = some (.int .i64 0) := (hc (w.heap.size + 1 + 1) 0 (by simp <;> omega)).trans (by go_simp); have y1 : w4.cell? ⟨w.heap.size + 1 + 1, 1, none⟩ = some (.int .i64 0) := (hc (w.heap.size + 1 + 1) 1 (by simp <;> omega)).trans (by go_simp); have y2 : w4.cell? ⟨w.heap.size + 1 + 1, 2, none⟩ = some (.slice none 0 0) := (hc (w.heap.size + 1 + 1) 2 (by simp <;> omega)).trans (by go_simp); have fx : ∀ o, w4.frozen? ⟨w.heap.size, o, none⟩ = false := (fun o => (hf (w.heap.size) o (by simp <;> omega)).trans (by go_simp)); have fy : ∀ o, w4.frozen? ⟨w.heap.size + 1 + 1, o, none⟩ = false := (fun o => (hf (w.heap.size + 1 + 1) o (by simp <;> omega)).trans (by go_simp)); have rc := R_cls ho i.toNat (by omega); have r0 : w4.cell? ⟨g, i.toNat * 4, none⟩ = some (.int .i64 (rd_T36 l i.toNat).f0) := rc 0 _ rfl; have r1 := rc 1 _ rfl; have r2 := rc 2 _ rfl; have r3 := rc 3 _ rfl; have fg := blk_frozen hg3; clear rc hc hf; have HO := Aside0.mk ho; have HB4 := Aside0.mk hb; have HG := Aside0.mk hg3; clear ho hb hg hat hg3 hb')
  go_ways
  have h3 : Below w.heap.size w w4 := below_step HB.out (by rw [HS.out]; exact HB4.out)
  refine bodyPost_ret (v := .agg #[.int .i64 a, .int .i64 b, .slice (some ⟨g, 0, none⟩) l.length cap]) ?_ rfl ⟨_, rfl, ?_, ?_⟩
  · simp [results, Try.results51, go_sem, y0, y1, y2]
  · have q0 := R_any (base' := 0) HO.out (ok' := fun k => k = g) (fun k hk => by simp [Value.ownBlock] at hk; exact hk.symm)
    have q1 := Kd.R_far (p := ⟨w.heap.size, 2, none⟩) q0 (fun k hk => by subst hk; show k ≠ w.heap.size; omega) (.slice (some ⟨g, 0, none⟩) l.length cap)
    have q2 := R_put1 q1 i.toNat 0 (by omega) (by omega) (.int .i64 d.f0) ⟨d.f0, (rd_T36 l i.toNat).f1, (rd_T36 l i.toNat).f2, (rd_T36 l i.toNat).f3⟩ rfl
    have q3 := R_put1 q2 i.toNat 1 (by omega) (by omega) (.int .i64 d.f1) ⟨d.f0, d.f1, (rd_T36 l i.toNat).f2, (rd_T36 l i.toNat).f3⟩ (by rw [rd_set (by omega)]; rfl)
    rw [List.set_set] at q3
    have q4 := R_put1 q3 i.toNat 2 (by omega) (by omega) (.bool d.f2) ⟨d.f0, d.f1, d.f2, (rd_T36 l i.toNat).f3⟩ (by rw [rd_set (by omega)]; rfl)
    rw [List.set_set] at q4
    have q5 := R_put1 q4 i.toNat 3 (by omega) (by omega) (.bool d.f3) d (by rw [rd_set (by omega)]; rfl)
    rw [List.set_set] at q5
    have hf : ∀ k, k = g → k ≠ w.heap.size + 1 + 1 := fun k hk => by omega
    exact Kd.R_lower (Kd.R_mono (Kd.R_far (p := ⟨w.heap.size + 1 + 1, 2, none⟩) (Kd.R_far (p := ⟨w.heap.size + 1 + 1, 1, none⟩) (Kd.R_far (p := ⟨w.heap.size + 1 + 1, 0, none⟩) q5 hf _) hf _) hf _) (fun _ _ => trivial)) (by omega)
  · have hg : w.heap.size ≤ g := by omega
    have h2 : w.heap.size ≤ w.heap.size + 1 + 1 := by omega
    exact Below.setCell (p := ⟨_, 2, none⟩) (Below.setCell (p := ⟨_, 1, none⟩) (Below.setCell (p := ⟨_, 0, none⟩) (Below.setCell (p := ⟨g, _, none⟩) (Below.setCell (p := ⟨g, _, none⟩) (Below.setCell (p := ⟨g, _, none⟩) (Below.setCell (p := ⟨g, _, none⟩) (Below.setCell (p := ⟨_, 2, none⟩) h3 (Nat.le_refl _) _) hg _) hg _) hg _) hg _) h2 _) h2 _) h2 _

end Go.Proofs.Ythemnajgdoambaa.Th
