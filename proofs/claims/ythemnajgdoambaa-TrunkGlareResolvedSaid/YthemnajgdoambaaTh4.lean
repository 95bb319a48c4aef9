/-
  change of the package trunk, by hand: its contract where the group, the circuit or the call is out of range, and for each method.
-/
import Derived.Test.YthemnajgdoambaaTh3
namespace Go.Proofs.Ythemnajgdoambaa.Th
open Go.RowKit Go.Proofs.YthemnajgdoambaaW.PrintWords Go.Proofs.YthemnajgdoambaaW.PrintLast Go.Proofs.YthemnajgdoambaaW.PrintMore Go.Proofs.Ythemnajgdoambaa.Tr
set_option linter.unusedVariables false
set_option linter.unusedSimpArgs false

theorem bcell {W w1 : World} (hb : Below W.heap.size W w1) : (∀ b o, b < W.heap.size → w1.cell? ⟨b, o, none⟩ = W.cell? ⟨b, o, none⟩) ∧ (∀ b o, b < W.heap.size → w1.frozen? ⟨b, o, none⟩ = W.frozen? ⟨b, o, none⟩) :=
  ⟨fun b o h => hb.cell (p := ⟨b, o, none⟩) h, fun b o h => hb.frozen (p := ⟨b, o, none⟩) h⟩

theorem cell_blk {W W' : World} {k o : Nat} (h : W'.heap[k]? = W.heap[k]?) : W'.cell? ⟨k, o, none⟩ = W.cell? ⟨k, o, none⟩ := by simp [World.cell?, h]
theorem frozen_blk {W W' : World} {k o : Nat} (h : W'.heap[k]? = W.heap[k]?) : W'.frozen? ⟨k, o, none⟩ = W.frozen? ⟨k, o, none⟩ := by simp [World.frozen?, h]

/-- The group's blocks (k0 the copy, k1 the result) in a world. -/
structure Two (W : World) (k0 k1 : Nat) (a b : Int) (v : Value) : Prop where
  x0 : W.cell? ⟨k0, 0, none⟩ = some (.int .i64 a)
  x1 : W.cell? ⟨k0, 1, none⟩ = some (.int .i64 b)
  x2 : W.cell? ⟨k0, 2, none⟩ = some v
  y0 : W.cell? ⟨k1, 0, none⟩ = some (.int .i64 0)
  y1 : W.cell? ⟨k1, 1, none⟩ = some (.int .i64 0)
  y2 : W.cell? ⟨k1, 2, none⟩ = some (.slice none 0 0)
  fx : ∀ o, W.frozen? ⟨k0, o, none⟩ = false
  fy : ∀ o, W.frozen? ⟨k1, o, none⟩ = false

theorem Two.blk {W W' : World} {k0 k1 : Nat} {a b : Int} {v : Value} (h : Two W k0 k1 a b v) (h0 : W'.heap[k0]? = W.heap[k0]?) (h1 : W'.heap[k1]? = W.heap[k1]?) : Two W' k0 k1 a b v :=
  ⟨(cell_blk h0).trans h.x0, (cell_blk h0).trans h.x1, (cell_blk h0).trans h.x2, (cell_blk h1).trans h.y0, (cell_blk h1).trans h.y1, (cell_blk h1).trans h.y2, fun o => (frozen_blk h0).trans (h.fx o), fun o => (frozen_blk h1).trans (h.fy o)⟩

theorem two_blk {w w4 : World} {a b : Int} {v : Value} (h : Below ((w.alloc (.cells #[.int .i64 a, .int .i64 b, v] 26)).alloc (.cells #[.int .i64 0, .int .i64 0, .slice none 0 0] 26)).heap.size ((w.alloc (.cells #[.int .i64 a, .int .i64 b, v] 26)).alloc (.cells #[.int .i64 0, .int .i64 0, .slice none 0 0] 26)) w4) :
    Two w4 w.heap.size (w.heap.size + 1) a b v := by
  obtain ⟨hc, hf⟩ := bcell h
  have s0 : w.heap.size < ((w.alloc (.cells #[.int .i64 a, .int .i64 b, v] 26)).alloc (.cells #[.int .i64 0, .int .i64 0, .slice none 0 0] 26)).heap.size := by simp <;> omega
  have s1 : w.heap.size + 1 < ((w.alloc (.cells #[.int .i64 a, .int .i64 b, v] 26)).alloc (.cells #[.int .i64 0, .int .i64 0, .slice none 0 0] 26)).heap.size := by simp <;> omega
  refine ⟨(hc _ 0 s0).trans ?_, (hc _ 1 s0).trans ?_, (hc _ 2 s0).trans ?_, (hc _ 0 s1).trans ?_, (hc _ 1 s1).trans ?_, (hc _ 2 s1).trans ?_, fun o => (hf _ o s0).trans ?_, fun o => (hf _ o s1).trans ?_⟩ <;> (go_simp; done)

/-- The line is made and a method is run on it. -/
theorem line_step {w4 : World} {k0 k1 g cap base : Nat} {a b : Int} {u : Value} {l : List S36} {cells : Array Value} (ht : Two w4 k0 k1 a b u) (hk0 : k0 < w4.heap.size) (hk1 : k1 < w4.heap.size) (hg : g < w4.heap.size) (hc : w4.heap[g]? = some (.cells cells 36 (0, 0))) (n0 : k0 ≠ g) (n1 : k1 ≠ g) (n01 : k0 ≠ k1)
    (HO : Kd.R k36 36 w4 base (fun _ => True) (.slice (some ⟨g, 0, none⟩) l.length cap) l) (i : Int) (h0 : 0 ≤ i) (h1 : i < l.length) (ctl : Bool) (F : Nat) (af : Value → Array Value) (r : Value) (Q : World → World → Nat → Nat → Prop) (w0 : World) (hb0 : Below w0.heap.size w0 w4) (hk0' : w0.heap.size ≤ k0)
    (hQ : ∀ W W' lb, Q W W' lb g → (∀ B, B ≤ lb → B ≤ g → B ≤ W.heap.size → Below B W W') ∧ (∀ k, k < W.heap.size → k ≠ lb → k ≠ g → W'.heap[k]? = W.heap[k]?))
    (HM : ∀ (W : World) (lb g : Nat), Below w0.heap.size w0 W → Ln W lb g (i.toNat * 4) ctl 0 (rd_T36 l i.toNat) → Calls Try.prog F (af (.pointer (some ⟨lb, 0, none⟩))) W fun e W' => e = .returned r ∧ Q W W' lb g) :
    Calls Try.prog F (af (.pointer (some ⟨w4.heap.size, 0, none⟩))) ((w4.setCell ⟨k0, 2, none⟩ (.slice (some ⟨g, 0, none⟩) l.length cap)).alloc (.cells #[.pointer (some ⟨g, i.toNat * 4, none⟩), .bool ctl, .int .i64 0] 87)) fun e w6 => e = .returned r ∧ ∃ W5,
      Kd.R k36 36 W5 base (fun k => k = g) (.slice (some ⟨g, 0, none⟩) l.length cap) l ∧ Q W5 w6 w4.heap.size g ∧ Two w6 k0 k1 a b (.slice (some ⟨g, 0, none⟩) l.length cap) ∧ (∀ B, B ≤ k0 → B ≤ k1 → B ≤ g → B ≤ w4.heap.size → Below B w4 w6) := by
  have hx2 : (w4.setCell ⟨k0, 2, none⟩ (.slice (some ⟨g, 0, none⟩) l.length cap)).cell? ⟨k0, 2, none⟩ = some (.slice (some ⟨g, 0, none⟩) l.length cap) := World.cell?_setCell_same w4 _ _ ht.x2
  have bx : ∀ k, k ≠ k0 → (w4.setCell ⟨k0, 2, none⟩ (.slice (some ⟨g, 0, none⟩) l.length cap)).heap[k]? = w4.heap[k]? := fun k hk => Below.heap_setCell w4 ⟨k0, 2, none⟩ _ k hk
  have T1 : Two (w4.setCell ⟨k0, 2, none⟩ (.slice (some ⟨g, 0, none⟩) l.length cap)) k0 k1 a b (.slice (some ⟨g, 0, none⟩) l.length cap) := by
    obtain ⟨x0, x1, x2, y0, y1, y2, fx, fy⟩ := ht
    exact ⟨by go_simp, by go_simp, hx2, (cell_blk (bx k1 (Ne.symm n01))).trans y0, (cell_blk (bx k1 (Ne.symm n01))).trans y1, (cell_blk (bx k1 (Ne.symm n01))).trans y2, fun o => by have := fx o; go_simp, fun o => (frozen_blk (bx k1 (Ne.symm n01))).trans (fy o)⟩
  have HO1 : Kd.R k36 36 ((w4.setCell ⟨k0, 2, none⟩ (.slice (some ⟨g, 0, none⟩) l.length cap)).alloc (.cells #[.pointer (some ⟨g, i.toNat * 4, none⟩), .bool ctl, .int .i64 0] 87)) base (fun k => k = g) (.slice (some ⟨g, 0, none⟩) l.length cap) l :=
    Kd.R_alloc (Kd.R_far (R_any (base' := 0) HO (ok' := fun k => k = g) (fun k hk => by simp [Value.ownBlock] at hk; exact hk.symm)) (fun k hk => by subst hk; exact Ne.symm n0) _) _
  have hsz : (w4.setCell ⟨k0, 2, none⟩ (.slice (some ⟨g, 0, none⟩) l.length cap)).heap.size = w4.heap.size := by simp
  have ba : ∀ k, k < w4.heap.size → ((w4.setCell ⟨k0, 2, none⟩ (.slice (some ⟨g, 0, none⟩) l.length cap)).alloc (.cells #[.pointer (some ⟨g, i.toNat * 4, none⟩), .bool ctl, .int .i64 0] 87)).heap[k]? = (w4.setCell ⟨k0, 2, none⟩ (.slice (some ⟨g, 0, none⟩) l.length cap)).heap[k]? := fun k hk => Below.heap_alloc _ _ k (by rw [hsz]; exact hk)
  have T2 := T1.blk (ba k0 hk0) (ba k1 hk1)
  have hc5 : ((w4.setCell ⟨k0, 2, none⟩ (.slice (some ⟨g, 0, none⟩) l.length cap)).alloc (.cells #[.pointer (some ⟨g, i.toNat * 4, none⟩), .bool ctl, .int .i64 0] 87)).heap[g]? = some (.cells cells 36 (0, 0)) := (ba g hg).trans ((bx g (Ne.symm n0)).trans hc)
  have rc := R_cls HO1 i.toNat (by omega)
  have hln : Ln ((w4.setCell ⟨k0, 2, none⟩ (.slice (some ⟨g, 0, none⟩) l.length cap)).alloc (.cells #[.pointer (some ⟨g, i.toNat * 4, none⟩), .bool ctl, .int .i64 0] 87)) w4.heap.size g (i.toNat * 4) ctl 0 (rd_T36 l i.toNat) :=
    ⟨by go_simp, by go_simp, by go_simp, rc 0 _ rfl, rc 1 _ rfl, rc 2 _ rfl, rc 3 _ rfl, fun j => by go_simp, fun j => blk_frozen hc5 j, by omega⟩
  refine (HM _ _ _ (below_alloc (Below.setCell (p := ⟨k0, 2, none⟩) hb0 hk0' _) _) hln).mono ?_
  rintro e w6 ⟨rfl, hq⟩
  obtain ⟨hb, hk⟩ := hQ _ _ _ hq
  have hs5 : ((w4.setCell ⟨k0, 2, none⟩ (.slice (some ⟨g, 0, none⟩) l.length cap)).alloc (.cells #[.pointer (some ⟨g, i.toNat * 4, none⟩), .bool ctl, .int .i64 0] 87)).heap.size = w4.heap.size + 1 := by simp
  refine ⟨rfl, _, HO1, hq, T2.blk (hk k0 (by omega) (by omega) n0) (hk k1 (by omega) (by omega) n1), fun B b0 b1 b2 b3 => ?_⟩
  exact ((Below.setCell (p := ⟨k0, 2, none⟩) (Below.refl B w4) b0 _).alloc (by rw [hsz]; exact b3) _).trans (hb B b3 b2 (by omega))

/-- The empty group that goes with an error. -/
def noT : Value := .agg #[.int .i64 0, .int .i64 0, .slice none 0 0]

set_option maxHeartbeats 2000000 in
set_option maxRecDepth 100000 in
theorem change_check (a b : Int) (A : Option Addr) (c : Nat) (l : List S36) (i ref : Int) (hv : Value) (w : World) (hr : Kd.C k36 w A l.length l) (hk : checkS a b l = 1) :
    Calls Try.prog 35 #[.agg #[.int .i64 a, .int .i64 b, .slice A l.length c], .int .i64 i, .int .i64 ref, hv] w fun e w' => e = .returned (.tuple #[noT, .int .i64 0, .int .i64 1]) ∧ Below w.heap.size w w' := by
  have HR := Aside0.mk hr
  have HK := Aside0.mk hk
  clear hr hk
  go_enter Try.func35, Try.ntmps35
  go_wp2_with (go_at_call 19; refine (check_calls _ _ _ _ _ _ (Kd.C_alloc (Kd.C_alloc HR.out _) _)).mono ?_; rintro e w1 ⟨rfl, hb⟩; rw [HK.out]; obtain ⟨hc, hf⟩ := bcell hb; have HB := Aside0.mk hb; clear hb)
  go_ways
  have hB : Below w.heap.size w w1 := below_step (below_alloc (below_alloc (Below.refl _ _) _) _) HB.out
  refine bodyPost_ret (v := .tuple #[noT, .int .i64 0, .int .i64 1]) ?_ rfl ⟨rfl, ?_⟩
  · simp [results, Try.results35, go_sem, hc, hf]
    rfl
  · exact ((hB.setCell (by simp) _).setCell (by simp) _).setCell (by simp) _

set_option maxHeartbeats 4000000 in
set_option maxRecDepth 100000 in
theorem change_range (a b : Int) (A : Option Addr) (c : Nat) (l : List S36) (i ref : Int) (hv : Value) (w : World) (hr : Kd.C k36 w A l.length l) (hk : checkS a b l = 0)
    (hi : (decide (0 ≤ i) && decide (i ≤ wrap64 ((l.length : Int) - 1))) = false ∨ (decide (0 ≤ i) && decide (i ≤ wrap64 ((l.length : Int) - 1))) = true ∧ (decide (1 ≤ ref) && decide (ref ≤ 1099511627776)) = false) :
    Calls Try.prog 35 #[.agg #[.int .i64 a, .int .i64 b, .slice A l.length c], .int .i64 i, .int .i64 ref, hv] w fun e w' => e = .returned (.tuple #[noT, .int .i64 0, .int .i64 1]) ∧ Below w.heap.size w w' := by
  have HR := Aside0.mk hr
  have HK := Aside0.mk hk
  clear hr hk
  have HW := Aside0.mk (within_eq i 0 (wrap64 ((l.length : Int) - 1)))
  have HX := Aside0.mk (within_eq ref 1 1099511627776)
  rcases hi with hi | ⟨hi, hx⟩
  · rw [hi] at HW
    go_enter Try.func35, Try.ntmps35
    go_wp2_with (first | (go_at_call 19; refine (check_calls _ _ _ _ _ _ (Kd.C_alloc (Kd.C_alloc HR.out _) _)).mono ?_; rintro e w1 ⟨rfl, hb⟩; rw [HK.out]; obtain ⟨hc, hf⟩ := bcell hb; have HB := Aside0.mk hb; clear hb) | (go_at_call 38; (with_reducible refine (trunk_within.calls _ _ _ _ _ HW.out).mono ?_); rintro e w2 ⟨rfl, ⟨nd, rfl⟩⟩))
    go_ways
    have hB : Below w.heap.size w w1 := below_step (below_alloc (below_alloc (Below.refl _ _) _) _) HB.out
    refine bodyPost_ret (v := .tuple #[noT, .int .i64 0, .int .i64 1]) ?_ rfl ⟨rfl, ?_⟩
    · simp [results, Try.results35, go_sem, hc, hf]
      rfl
    · exact (((pw_below_drewN hB _).setCell (by simp) _).setCell (by simp) _).setCell (by simp) _
  · rw [hi] at HW
    rw [hx] at HX
    go_enter Try.func35, Try.ntmps35
    go_wp2_with (first | (go_at_call 19; refine (check_calls _ _ _ _ _ _ (Kd.C_alloc (Kd.C_alloc HR.out _) _)).mono ?_; rintro e w1 ⟨rfl, hb⟩; rw [HK.out]; obtain ⟨hc, hf⟩ := bcell hb; have HB := Aside0.mk hb; clear hb) | (go_at_call 38; (with_reducible refine (trunk_within.calls _ _ _ _ _ HW.out).mono ?_); rintro e w2 ⟨rfl, ⟨nd, rfl⟩⟩) | (go_at_call 38; (with_reducible refine (trunk_within.calls _ _ _ _ _ HX.out).mono ?_); rintro e w2 ⟨rfl, ⟨ne, rfl⟩⟩))
    go_ways
    have hB : Below w.heap.size w w1 := below_step (below_alloc (below_alloc (Below.refl _ _) _) _) HB.out
    refine bodyPost_ret (v := .tuple #[noT, .int .i64 0, .int .i64 1]) ?_ rfl ⟨rfl, ?_⟩
    · simp [results, Try.results35, go_sem, hc, hf]
      rfl
    · refine Below.setCell (Below.setCell (Below.setCell ?_ ?_ _) ?_ _) ?_ _
      · repeat (first | exact hB | apply pw_below_drewN)
      all_goals simp

end Go.Proofs.Ythemnajgdoambaa.Th
