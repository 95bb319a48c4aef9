/-
  The sanity check of crossbarlaw11, by hand: it answers true.
-/
import Derived.Test.YtmpjcpkfnjnejaaIb
namespace Go.Proofs.Ytmpjcpkfnjnejaa.Iq
open Go.RowKit Go.Shelf Go.Proofs.YtmpjcpkfnjnejaaW.PrintWords Go.Proofs.YtmpjcpkfnjnejaaW.PrintLast Go.Proofs.YtmpjcpkfnjnejaaW.PrintMore Go.Proofs.Ytmpjcpkfnjnejaa.Is Go.Proofs.Ytmpjcpkfnjnejaa.Vm Go.Proofs.Ytmpjcpkfnjnejaa.Iv
attribute [local go_sem] max2_int min2_int
attribute [local go_sem high] eqSig
set_option linter.unusedVariables false
set_option linter.unusedSimpArgs false

def REL : Sig := ⟨7, 5, 300, 0, 16, noStr, noStr, noStr, false, false⟩
def BLO : Sig := ⟨9, 2, 0, 0, 0, noStr, noStr, noStr, false, false⟩
theorem enc300 : enc 300 = [172, 2] := by rw [enc_big (by decide), enc_small (by decide)]; rfl
theorem validREL : validS_ REL = true := by decide +kernel
theorem validBLO : validS_ BLO = true := by decide +kernel
theorem encREL : encS REL = [7, 5, 172, 2, 16] := by
  have e : encS REL = 7 :: (enc 5 ++ (enc 300 ++ (enc 16 ++ []))) := by unfold encS; rw [validREL]; rfl
  rw [e, enc300, enc_small (by decide), enc_small (by decide)]
  rfl
theorem encBLO : encS BLO = [9, 2] := by
  have e : encS BLO = 9 :: (enc 2 ++ []) := by unfold encS; rw [validBLO]; rfl
  rw [e, enc_small (by decide)]
  rfl
theorem checkREL : checkS REL = 0 := by unfold checkS; rw [validREL]; rfl
theorem checkBLO : checkS BLO = 0 := by unfold checkS; rw [validBLO]; rfl
theorem checkZ : checkS zSig = 110 := by decide +kernel
theorem decREL : decS [7, 5, 172, 2, 16] = (REL, 0) := by kernel_rfl
theorem decCut : (decS [7, 5, 172, 2]).2 = 10 := by decide +kernel
theorem s1 : (strOfNums [7, 5, 172, 2, 16]).toList = ([7, 5, 172, 2, 16] : List UInt8) := by decide +kernel
theorem s2 : (strOfNums [9, 2]).toList = ([9, 2] : List UInt8) := by decide +kernel

def zeros : Array Value := #[.int .i64 0, .int .i64 0, .int .i64 0, .int .i64 0, .int .i64 0, .string ⟨#[]⟩, .string ⟨#[]⟩, .string ⟨#[]⟩, .bool false, .bool false]
theorem E1 (w : World) : Calls Try.prog 11 #[.agg #[.int .i64 7, .int .i64 5, .int .i64 300, .int .i64 0, .int .i64 16, .string ⟨#[]⟩, .string ⟨#[]⟩, .string ⟨#[]⟩, .bool false, .bool false]] w fun e w' => ∃ v, e = .returned (.tuple #[v, .int .i64 0]) ∧ By w' w.heap.size v [7, 5, 172, 2, 16] ∧ Below w.heap.size w w' := by
  have h := encode_calls REL w
  unfold En at h
  rw [checkREL, encREL] at h
  exact h
theorem E2 (w : World) : Calls Try.prog 11 #[.agg #[.int .i64 9, .int .i64 2, .int .i64 0, .int .i64 0, .int .i64 0, .string ⟨#[]⟩, .string ⟨#[]⟩, .string ⟨#[]⟩, .bool false, .bool false]] w fun e w' => ∃ v, e = .returned (.tuple #[v, .int .i64 0]) ∧ By w' w.heap.size v [9, 2] ∧ Below w.heap.size w w' := by
  have h := encode_calls BLO w
  unfold En at h
  rw [checkBLO, encBLO] at h
  exact h
theorem D1 (A : Option Addr) (c : Nat) (w : World) (hC : Kd.C (Kd.int .u8) w A 5 [7, 5, 172, 2, 16]) (hc : 5 ≤ c) : Calls Try.prog 13 #[.slice A 5 c] w fun e w' => e = .returned (.tuple #[.agg #[.int .i64 7, .int .i64 5, .int .i64 300, .int .i64 0, .int .i64 16, .string ⟨#[]⟩, .string ⟨#[]⟩, .string ⟨#[]⟩, .bool false, .bool false], .int .i64 0]) ∧ Below w.heap.size w w' := by
  have h := decode_calls A c [7, 5, 172, 2, 16] w hC hc (by intro x hx; simp at hx; omega) (by decide)
  unfold De at h
  rw [decREL] at h
  exact h
theorem D2 (A : Option Addr) (c : Nat) (w : World) (hC : Kd.C (Kd.int .u8) w A 4 [7, 5, 172, 2]) (hc : 4 ≤ c) : Calls Try.prog 13 #[.slice A 4 c] w fun e w' => (∃ t : Sig, e = .returned (.tuple #[.agg #[.int .i64 t.kind, .int .i64 t.circuit, .int .i64 t.ref, .int .i64 t.hops, .int .i64 t.cause, .string t.called, .string t.calling, .string t.digits, .bool t.emergency, .bool t.reverse], .int .i64 10])) ∧ Below w.heap.size w w' := by
  have h := decode_calls A c [7, 5, 172, 2] w hC hc (by intro x hx; simp at hx; omega) (by decide)
  unfold De at h
  rw [decCut] at h
  exact h.mono (by rintro e w' ⟨rfl, hb⟩; exact ⟨⟨_, rfl⟩, hb⟩)
theorem K1 (w : World) : Calls Try.prog 12 #[.agg #[.int .i64 0, .int .i64 0, .int .i64 0, .int .i64 0, .int .i64 0, .string ⟨#[]⟩, .string ⟨#[]⟩, .string ⟨#[]⟩, .bool false, .bool false]] w fun e w' => e = .returned (.int .i64 110) ∧ Below w.heap.size w w' := by
  have h := check_calls zSig w
  rw [checkZ] at h
  exact h

theorem reply9 : isup_Reply.f 5 9 = some 10 := by decide +kernel
theorem relTen {w : World} {k : Nat} (h : At w k REL) : w.cell? ⟨k, 0, none⟩ = some (.int .i64 7) ∧ w.cell? ⟨k, 1, none⟩ = some (.int .i64 5) ∧ w.cell? ⟨k, 2, none⟩ = some (.int .i64 300) ∧ w.cell? ⟨k, 3, none⟩ = some (.int .i64 0) ∧ w.cell? ⟨k, 4, none⟩ = some (.int .i64 16) ∧ w.cell? ⟨k, 5, none⟩ = some (.string ⟨#[]⟩) ∧ w.cell? ⟨k, 6, none⟩ = some (.string ⟨#[]⟩) ∧ w.cell? ⟨k, 7, none⟩ = some (.string ⟨#[]⟩) ∧ w.cell? ⟨k, 8, none⟩ = some (.bool false) ∧ w.cell? ⟨k, 9, none⟩ = some (.bool false) := h.ten
set_option maxHeartbeats 8000000 in
set_option maxRecDepth 100000 in
theorem sane_calls (w : World) : Calls Try.prog 9 #[] w fun e w' => e = .returned (.bool true) ∧ Below w.heap.size w w' := by
  have hs : ∀ (A : Option Addr) (c : Nat) (hc : 5 ≤ c) (W : World), (Instr.slice 24 (.slice A 5 c) none (some (.int .i64 4)) none).run Try.prog W = .ok (.slice A 4 c) W := fun A c hc W => (print_take_int (P := Try.prog) (k := .u8) 24 5 Try.underlying24 (i := (Try.prog.info? 5).get (by kernel_rfl)) (by kernel_rfl) (by kernel_rfl) A c [7, 5, 172, 2, 16] 4 (by decide) (by decide) hc).1 W
  have t1 := s1
  have t2 := s2
  have hmin : min (5 : Int) 4 = 4 := by decide
  go_enter Try.func9, Try.ntmps9
  go_wp2_with (first
    | (go_at_call 11; (with_reducible refine (E1 _).mono ?_); rintro e w1 ⟨v1, rfl, hy, hb⟩; obtain ⟨A1, c1, rfl⟩ := Kd.R_slice hy; obtain ⟨_, hc1, hC1⟩ := Kd.R_reads' hy; have hC4 := Kd.C_take (m := 4) hC1 (by decide); simp only [List.length_cons, List.length_nil, Nat.reduceAdd, List.take_succ_cons, List.take_zero] at hc1 hC1 hC4 ⊢; have HC1 := Aside0.mk hC1; have HC4 := Aside0.mk hC4; have HL1 := Aside0.mk hc1; have HL4 := Aside0.mk (Nat.le_trans (by decide : 4 ≤ 5) hc1); have hs1 := hs A1 c1 hc1; have HAr := Aside0.mk (At.below (S := w.heap.size) (s := REL) (w := w.alloc (.cells REL.cells 23)) (hp_new rfl) hb); have HW := Aside0.mk (below_step (below_alloc (Below.refl w.heap.size w) _) hb); clear hy hC1 hC4 hc1 hb)
    | (go_at_call 11; (with_reducible refine (E2 _).mono ?_); rintro e w2 ⟨v2, rfl, hy, hb⟩; obtain ⟨A2, c2, rfl⟩ := Kd.R_slice hy; obtain ⟨_, hc2, hC2⟩ := Kd.R_reads' hy; simp only [List.length_cons, List.length_nil, Nat.reduceAdd] at hc2 hC2 ⊢; have HC2 := Aside0.mk hC2; have HL2 := Aside0.mk hc2; have HB2 := Aside0.mk hb; clear hb hy hC2 hc2)
    | (go_at_call 13; (with_reducible refine (D1 _ _ _ (Kd.C_below HC1.out HB2.out) HL1.out).mono ?_); rintro e w3 ⟨rfl, hb⟩; have HB3 := Aside0.mk hb; clear hb)
    | (go_at_call 13; go_loud ((with_reducible refine (D2 A1 c1 _ (Kd.C_below HC4.out (below_step (below_step HB2.out HB3.out) (below_alloc (Below.refl _ _) _))) HL4.out).mono ?_); rintro e w4 ⟨⟨t, rfl⟩, hb⟩; have B14 := below_step (below_step (below_step HB2.out HB3.out) (below_alloc (Below.refl _ _) _)) hb; have B15 := below_step B14 (below_alloc (Below.refl _ _) (.cells t.cells 23)); have hcv1 := Kd.C_string (P := Try.prog) (c := c1) Try.underlying24 Try.underlying5 Try.underlying9 (Kd.C_below HC1.out B15); have hcv2 := Kd.C_string (P := Try.prog) (c := c2) Try.underlying24 Try.underlying5 Try.underlying9 (Kd.C_below HC2.out (below_step (below_step (below_step HB3.out (below_alloc (Below.refl _ _) (.cells REL.cells 23))) hb) (below_alloc (Below.refl _ _) (.cells t.cells 23)))); obtain ⟨x0, x1, x2, x3, x4, x5, x6, x7, x8, x9⟩ := relTen (HAr.out.below B15); obtain ⟨y0, y1, y2, y3, y4, y5, y6, y7, y8, y9⟩ := relTen (At.below (S := w3.heap.size) (s := REL) (w := w3.alloc (.cells REL.cells 23)) (hp_new rfl) (below_step hb (below_alloc (Below.refl _ _) (.cells t.cells 23)))); have HW5 := Aside0.mk (below_step HW.out B15); clear hb B14 B15; unfold Sig.cells at hcv1 hcv2 x0 x1 x2 x3 x4 x5 x6 x7 x8 x9 y0 y1 y2 y3 y4 y5 y6 y7 y8 y9))
    | (go_at_call 14; go_loud (refine (isup_Reply.calls 5 9 10 _ reply9).mono ?_; rintro e w5 ⟨rfl, ⟨nd, rfl⟩⟩))
    | (go_at_call 12; (with_reducible refine (K1 _).mono ?_); rintro e w6 ⟨rfl, hb⟩; have HB6 := Aside0.mk hb; clear hb))
  go_ret
  exact ⟨rfl, below_step (pw_below_drewN HW5.out _) HB6.out⟩
end Go.Proofs.Ytmpjcpkfnjnejaa.Iq
