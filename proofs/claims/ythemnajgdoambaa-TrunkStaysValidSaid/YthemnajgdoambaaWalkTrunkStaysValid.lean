/- TrunkStaysValid: changes preserve validity and affect only the named circuit. -/
import Derived.Test.YthemnajgdoambaaSv1
namespace Go.Proofs.Ythemnajgdoambaa.Tr
open Go.RowKit Go.Proofs.YthemnajgdoambaaW.PrintWords Go.Proofs.YthemnajgdoambaaW.PrintLast Go.Proofs.YthemnajgdoambaaW.PrintMore Go.Proofs.Ythemnajgdoambaa.Th
set_option linter.unusedVariables false
set_option linter.unusedSimpArgs false

theorem same_none (B : Option Addr) (d : Nat) (W : World) (h : Kd.C k36 W B 0 []) : Calls Try.prog 25 #[.agg #[.int .i64 0, .int .i64 0, .slice B 0 d], .agg #[.int .i64 0, .int .i64 0, .slice none 0 0]] W fun e w' => e = .returned (.bool true) ∧ Below W.heap.size W w' :=
  crossbarref14_Same.calls 63 0 0 B d [] 0 0 none 0 [] true W h (Nat.zero_le _) (Kd.C_nil _ _) (Nat.le_refl _) same_nil
set_option maxHeartbeats 8000000 in
set_option maxRecDepth 100000 in
theorem stays_good (a b : Int) (A : Option Addr) (c : Nat) (l : List S36) (A1 : Option Addr) (c1 : Nat) (L : List S59) (w : World) (hC : Kd.C k36 w A l.length l) (hc : l.length ≤ c) (hL : Kd.C k59 w A1 L.length L) (hc1 : L.length ≤ c1) (h30 : L.length ≤ 30) (hk : checkS a b l = 0) :
    Calls Try.prog 10 #[.agg #[.int .i64 a, .int .i64 b, .slice A l.length c], .slice A1 L.length c1] w fun e w' => e = .returned (.bool true) ∧ Below w.heap.size w w' := by
  obtain ⟨_, hl1, hl2, _⟩ := check_zero hk
  have HF := Aside0.mk (fun W hr => crossbarlaw14_few.calls a b A c l true W hr hc (by rw [few_eq, decide_eq_true (by omega)]))
  have HK := Aside0.mk (fun W hr => trunk_Check.calls a b A c l 0 W hr hc (by rw [check_eq, hk]))
  have HC := Aside0.mk hC
  have HC1 := Aside0.mk hL
  have HL := Aside0.mk h30
  have HLe := Aside0.mk hc
  have HZ := Aside0.mk hk
  have hgt : decide ((L.length : Int) > 30) = false := decide_eq_false (by omega)
  have hfar : ∀ x, A = some x → 0 < l.length → x.block < w.heap.size := fun x hx hp => by
    obtain ⟨ad, e, h0, _⟩ := at_T36 hC 0 (Int.le_refl _) (by omega)
    have e2 : ad = x := by rw [e] at hx; exact Option.some.inj hx
    subst e2
    have := h0
    unfold World.cell? at this
    by_cases hlt : ad.block < w.heap.size
    · exact hlt
    · have eb : (ad.add ((0 : Int).toNat * 4)).block = ad.block := by unfold Addr.add; split <;> rfl
      rw [eb, Array.getElem?_eq_none (by omega)] at this
      simp at this
  have HFar := Aside0.mk (fun x hx => hfar x hx (by omega))
  clear hC hL h30 hk hc hl1 hl2 hfar
  go_enter Try.func10, Try.ntmps10
  go_wp2_with (first
    | (go_at_call 11; (with_reducible refine (crossbarlaw14_sane.calls true _ sane_eq).mono ?_); rintro e w1 ⟨rfl, hb⟩; have HG := Aside0.mk (Gp.below (w := w.alloc (.cells #[.int .i64 a, .int .i64 b, .slice A l.length c] 26)) (g := w.heap.size) (a := a) (b := b) (A := A) (c := c) (l := l) ⟨World.alloc_heap_new _ _, Kd.C_below HC.out (below_alloc (Below.refl _ _) _), fun x hx => Nat.ne_of_lt (HFar.out x hx), HLe.out⟩ hb); have HW := Aside0.mk (below_step (below_alloc (Below.refl w.heap.size w) _) hb); obtain ⟨t0, t1, t2⟩ := HG.out.cells; clear hb)
    | (go_at_call 18; (with_reducible refine (HF.out _ HG.out.row).mono ?_); rintro e w2 ⟨rfl, hb⟩; have HG2 := Aside0.mk (HG.out.below hb); have HW2 := Aside0.mk (below_step HW.out hb); clear t0 t1 t2; obtain ⟨t0, t1, t2⟩ := HG2.out.cells; clear hb)
    | (go_at_call 19; (with_reducible refine (HK.out _ HG2.out.row).mono ?_); rintro e w3 ⟨rfl, hb⟩; have HG3 := Aside0.mk (HG2.out.below hb); have HW3 := Aside0.mk (below_step HW2.out hb); clear t0 t1 t2; clear hb))
  clear HF HK HC HG HG2 HW HW2 HFar
  go_loopg [26] L.length (fun kq v26 w' => ∃ (i : Nat) (A : Option Addr) (c : Nat) (l : List S36), i + kq = L.length ∧ v26 = .int .i64 (i : Int) ∧ Aside0 (Gp w' w.heap.size a b A c l) ∧ Aside0 (checkS a b l = 0) ∧ Aside0 (Below w.heap.size w w'))
  case atStart => exact ⟨0, A, c, l, by omega, rfl, HG3, HZ, HW3⟩
  case round =>
    clear HG3 HW3 HZ HLe
    obtain ⟨i, A, c, l, hi, rfl, HG, HK, HW⟩ := hrel
    have HLl := Aside0.mk (check_zero HK.out).2.2.1
    cases gk with
    | zero =>
      have hlt : decide ((i : Int) < (L.length : Int)) = false := decide_eq_false (by omega)
      have hlu : decide (i < L.length) = false := decide_eq_false (by omega)
      go_wp2
      go_ret
      exact ⟨rfl, HW.out⟩
    | succ k1 =>
      obtain ⟨ad, e, d0, d1, d2, d3, d4⟩ := at59 (Kd.C_below HC1.out HW.out) i (by omega)
      cases e
      generalize L.getD i z59 = x at d0 d1 d2 d3 d4
      obtain ⟨f0, f1, f2, f3, f4⟩ := x
      dsimp only at d0 d1 d2 d3 d4
      have hq : (i : Int) < (L.length : Int) := by omega
      have hlt := decide_eq_true hq
      have hn0 : World.heap (wr.alloc (.cells #[.int .i64 f0, .int .i64 f1, .int .i64 f2, .bool f3, .bool f4] 59)) = World.heap (wr.alloc (.cells #[.int .i64 f0, .int .i64 f1, .int .i64 f2, .bool f3, .bool f4] 59)) := rfl
      clear hn0
      have HG1 := Aside0.mk (HG.out.below (below_alloc (Below.refl wr.heap.size wr) (.cells #[.int .i64 f0, .int .i64 f1, .int .i64 f2, .bool f3, .bool f4] 59)))
      have HX := Aside0.mk (World.alloc_heap_new wr (.cells #[.int .i64 f0, .int .i64 f1, .int .i64 f2, .bool f3, .bool f4] 59))
      have HW1 := Aside0.mk (below_alloc HW.out (.cells #[.int .i64 f0, .int .i64 f1, .int .i64 f2, .bool f3, .bool f4] 59))
      obtain ⟨t0, t1, t2⟩ := HG1.out.cells
      obtain ⟨r1, r2, r3, r4, hap, hch⟩ := applied_chd a b l f0 f1 f2 f3 f4 HK.out
      rcases hch with ⟨hne, e1, e2, e3⟩ | ⟨he, e1, e2, c', e3, h0, hk'⟩
      · dsimp only at hne e1 e2 e3
        subst e1 e2 e3
        have HA := Aside0.mk (fun W hr => crossbarlaw14_applied.calls a b A c l f0 f1 f2 f3 f4 0 0 [] r4 W hr HG.out.le hap)
        have hb0 : (r4 != 0) = true := bne_iff_ne.2 hne
        have hb1 : (r4 == 0) = false := beq_eq_false_iff_ne.2 hne
        clear hap hne
        go_wp2_with (first
          | (go_at_call 33; (with_reducible refine (HA.out _ HG1.out.row).mono ?_); rintro e w4 ⟨v, rfl, hr, hb⟩; obtain ⟨A2, c2, rfl⟩ := Kd.R_slice hr; obtain ⟨_, hc2, hC2⟩ := Kd.R_reads' hr; have HC2 := Aside0.mk (show Kd.C k36 _ A2 0 [] from Kd.C_below hC2 (below_alloc (Below.refl _ _) (.cells #[.int .i64 0, .int .i64 0, .slice A2 0 c2] 26))); have HG4 := Aside0.mk ((HG1.out.below hb).below (below_alloc (Below.refl _ _) (.cells #[.int .i64 0, .int .i64 0, .slice A2 0 c2] 26))); have HW4 := Aside0.mk (below_alloc (below_step HW1.out hb) (.cells #[.int .i64 0, .int .i64 0, .slice A2 0 c2] 26)); clear t0 t1 t2 hr hb hC2 hc2)
          | (go_at_call 25; go_loud ((with_reducible refine (same_none A2 c2 _ HC2.out).mono ?_); rintro e w5 ⟨rfl, hb⟩; have HG5 := Aside0.mk (HG4.out.below hb); have HW5 := Aside0.mk (below_step HW4.out hb); clear hb)))
        go_roundg k1
        case measure => omega
        case rel =>
          have e1 : wrap64 ((i : Int) + 1) = ((i + 1 : Nat) : Int) := by have := HL.out; unfold wrap64; omega
          exact ⟨i + 1, A, c, l, by omega, by rw [e1], HG5, HK, HW5⟩
      · dsimp only at he e1 e2 e3 hk'
        subst r1 r2 he
        have HA := Aside0.mk (fun W hr => crossbarlaw14_applied.calls a b A c l f0 f1 f2 f3 f4 a b r3 0 W hr HG.out.le hap)
        have HKC := Aside0.mk (fun B d W (hr : Kd.C k36 W B r3.length r3) hd => trunk_Check.calls a b B d r3 0 W hr hd (by rw [check_eq, e3, hk']))
        have HSB := Aside0.mk (fun B d W (hr : Kd.C k36 W B r3.length r3) hd (hr2 : Kd.C k36 W A l.length l) => crossbarref14_SameBut.calls 63 a b B d r3 a b A c l f1 true W hr hd hr2 HG.out.le (by rw [e3]; exact but_set a b l f1 h0 c' (by have := HLl.out; omega) 63 (Nat.le_refl _)))
        have HK3 := Aside0.mk (show checkS a b r3 = 0 by rw [e3, hk'])
        clear hap e3 hk' h0
        go_wp2_with (first
          | (go_at_call 33; go_loud ((with_reducible refine (HA.out _ HG1.out.row).mono ?_); rintro e w4 ⟨v, rfl, hr, hb⟩; obtain ⟨A2, c2, rfl⟩ := Kd.R_slice hr; obtain ⟨_, hc2, hC2⟩ := Kd.R_reads' hr; have HC2 := Aside0.mk (Kd.C_below hC2 (below_alloc (Below.refl _ _) (.cells #[.int .i64 a, .int .i64 b, .slice A2 r3.length c2] 26))); have HL2 := Aside0.mk hc2; have HG4 := Aside0.mk ((HG1.out.below hb).below (below_alloc (Below.refl _ _) (.cells #[.int .i64 a, .int .i64 b, .slice A2 r3.length c2] 26))); have HW4 := Aside0.mk (below_alloc (below_step HW1.out hb) (.cells #[.int .i64 a, .int .i64 b, .slice A2 r3.length c2] 26)); have HF2 := Aside0.mk (Kd.R_base hr); have HX4 := Aside0.mk (blk_alloc (blk_below HX.out hb) (.cells #[.int .i64 a, .int .i64 b, .slice A2 r3.length c2] 26)); have HN4 := Aside0.mk (World.alloc_heap_new w4 (.cells #[.int .i64 a, .int .i64 b, .slice A2 r3.length c2] 26)); clear t0 t1 t2 hr hb hC2 hc2))
          | (go_at_call 19; go_loud ((with_reducible refine (HKC.out A2 c2 _ HC2.out HL2.out).mono ?_); rintro e w5 ⟨rfl, hb⟩; have HG5 := Aside0.mk (HG4.out.below hb); have HW5 := Aside0.mk (below_step HW4.out hb); have HC5 := Aside0.mk (Kd.C_below HC2.out hb); have HN5 := Aside0.mk (blk_below HN4.out hb); have HX5 := Aside0.mk (blk_below HX4.out hb); obtain ⟨t0, t1, t2⟩ := HG5.out.cells; have y0 : w5.cell? ⟨w4.heap.size, 0, none⟩ = some (.int .i64 a) := (blk_cell HN5.out 0).trans rfl; have y1 : w5.cell? ⟨w4.heap.size, 1, none⟩ = some (.int .i64 b) := (blk_cell HN5.out 1).trans rfl; have y2 : w5.cell? ⟨w4.heap.size, 2, none⟩ = some (.slice A2 r3.length c2) := (blk_cell HN5.out 2).trans rfl; have y3 : w5.cell? ⟨wr.heap.size, 1, none⟩ = some (.int .i64 f1) := (blk_cell HX5.out 1).trans rfl; clear hb))
          | (go_at_call 17; go_loud ((with_reducible refine (HSB.out A2 c2 _ HC5.out HL2.out HG5.out.row).mono ?_); rintro e w6 ⟨rfl, hb⟩; have HG6 := Aside0.mk (HG5.out.below hb); have HW6 := Aside0.mk (below_step HW5.out hb); have HC6 := Aside0.mk (Kd.C_below HC5.out hb); have HN6 := Aside0.mk (blk_below HN5.out hb); clear t0 t1 t2 y0 y1 y2 y3; obtain ⟨t0, t1, t2⟩ := HG6.out.cells; have y0 : w6.cell? ⟨w4.heap.size, 0, none⟩ = some (.int .i64 a) := (blk_cell HN6.out 0).trans rfl; have y1 : w6.cell? ⟨w4.heap.size, 1, none⟩ = some (.int .i64 b) := (blk_cell HN6.out 1).trans rfl; have y2 : w6.cell? ⟨w4.heap.size, 2, none⟩ = some (.slice A2 r3.length c2) := (blk_cell HN6.out 2).trans rfl; have z0 := HG6.out.frozen 0; have z1 := HG6.out.frozen 1; have z2 := HG6.out.frozen 2; clear hb)))
        go_roundg k1
        case measure => omega
        case rel =>
          have e1 : wrap64 ((i : Int) + 1) = ((i + 1 : Nat) : Int) := by have := HL.out; unfold wrap64; omega
          have hn : ∀ x, A2 = some x → x.block ≠ w.heap.size := fun x hx => by
            have := HF2.out x.block (by rw [hx]; rfl)
            have := HG1.out.lt
            omega
          exact ⟨i + 1, A2, c2, r3, by omega, by rw [e1], ⟨HG6.out.store HC6.out hn HL2.out⟩, HK3, ⟨((HW6.out.setCell (p := ⟨w.heap.size, 0, none⟩) (Nat.le_refl _) _).setCell (p := ⟨w.heap.size, 1, none⟩) (Nat.le_refl _) _).setCell (p := ⟨w.heap.size, 2, none⟩) (Nat.le_refl _) _⟩⟩

set_option maxHeartbeats 8000000 in
set_option maxRecDepth 100000 in
theorem stays_few (a b : Int) (A : Option Addr) (c : Nat) (l : List S36) (A1 : Option Addr) (c1 : Nat) (L : List S59) (w : World) (hC : Kd.C k36 w A l.length l) (hc : l.length ≤ c) (h : ¬ l.length ≤ 60) :
    Calls Try.prog 10 #[.agg #[.int .i64 a, .int .i64 b, .slice A l.length c], .slice A1 L.length c1] w fun e w' => e = .returned (.bool true) ∧ Below w.heap.size w w' := by
  have HF := Aside0.mk (fun W hr => crossbarlaw14_few.calls a b A c l false W hr hc (by rw [few_eq, decide_eq_false (by omega)]))
  have HC := Aside0.mk hC
  clear hC hc h
  go_enter Try.func10, Try.ntmps10
  go_wp2_with (first
    | (go_at_call 11; (with_reducible refine (crossbarlaw14_sane.calls true _ sane_eq).mono ?_); rintro e w1 ⟨rfl, hb⟩; have HB1 := Aside0.mk (below_step (below_alloc (Below.refl w.heap.size w) (.cells #[.int .i64 a, .int .i64 b, .slice A l.length c] 26)) hb); have HN := Aside0.mk (blk_below (blk_new w (.cells #[.int .i64 a, .int .i64 b, .slice A l.length c] 26)) hb); have y0 : w1.cell? ⟨w.heap.size, 0, none⟩ = some (.int .i64 a) := (blk_cell HN.out 0).trans rfl; have y1 : w1.cell? ⟨w.heap.size, 1, none⟩ = some (.int .i64 b) := (blk_cell HN.out 1).trans rfl; have y2 : w1.cell? ⟨w.heap.size, 2, none⟩ = some (.slice A l.length c) := (blk_cell HN.out 2).trans rfl; clear hb)
    | (go_at_call 18; (with_reducible refine (HF.out _ (Kd.C_below HC.out HB1.out)).mono ?_); rintro e w2 ⟨rfl, hb⟩; have HB2 := Aside0.mk (below_step HB1.out hb); clear hb))
  go_ret
  exact ⟨rfl, HB2.out⟩
set_option maxHeartbeats 8000000 in
set_option maxRecDepth 100000 in
theorem stays_long (a b : Int) (A : Option Addr) (c : Nat) (l : List S36) (A1 : Option Addr) (c1 : Nat) (L : List S59) (w : World) (hC : Kd.C k36 w A l.length l) (hc : l.length ≤ c) (h : l.length ≤ 60) (h30 : ¬ L.length ≤ 30) :
    Calls Try.prog 10 #[.agg #[.int .i64 a, .int .i64 b, .slice A l.length c], .slice A1 L.length c1] w fun e w' => e = .returned (.bool true) ∧ Below w.heap.size w w' := by
  have HF := Aside0.mk (fun W hr => crossbarlaw14_few.calls a b A c l true W hr hc (by rw [few_eq, decide_eq_true (by omega)]))
  have HC := Aside0.mk hC
  have hgt : decide ((L.length : Int) > 30) = true := decide_eq_true (by omega)
  clear hC hc h h30
  go_enter Try.func10, Try.ntmps10
  go_wp2_with (first
    | (go_at_call 11; (with_reducible refine (crossbarlaw14_sane.calls true _ sane_eq).mono ?_); rintro e w1 ⟨rfl, hb⟩; have HB1 := Aside0.mk (below_step (below_alloc (Below.refl w.heap.size w) (.cells #[.int .i64 a, .int .i64 b, .slice A l.length c] 26)) hb); have HN := Aside0.mk (blk_below (blk_new w (.cells #[.int .i64 a, .int .i64 b, .slice A l.length c] 26)) hb); have y0 : w1.cell? ⟨w.heap.size, 0, none⟩ = some (.int .i64 a) := (blk_cell HN.out 0).trans rfl; have y1 : w1.cell? ⟨w.heap.size, 1, none⟩ = some (.int .i64 b) := (blk_cell HN.out 1).trans rfl; have y2 : w1.cell? ⟨w.heap.size, 2, none⟩ = some (.slice A l.length c) := (blk_cell HN.out 2).trans rfl; clear hb)
    | (go_at_call 18; (with_reducible refine (HF.out _ (Kd.C_below HC.out HB1.out)).mono ?_); rintro e w2 ⟨rfl, hb⟩; have HB2 := Aside0.mk (below_step HB1.out hb); clear hb))
  go_ret
  exact ⟨rfl, HB2.out⟩
set_option maxHeartbeats 8000000 in
set_option maxRecDepth 100000 in
theorem stays_bad (a b : Int) (A : Option Addr) (c : Nat) (l : List S36) (A1 : Option Addr) (c1 : Nat) (L : List S59) (w : World) (hC : Kd.C k36 w A l.length l) (hc : l.length ≤ c) (h : l.length ≤ 60) (h30 : L.length ≤ 30) (hk : checkS a b l = 1) :
    Calls Try.prog 10 #[.agg #[.int .i64 a, .int .i64 b, .slice A l.length c], .slice A1 L.length c1] w fun e w' => e = .returned (.bool true) ∧ Below w.heap.size w w' := by
  have HF := Aside0.mk (fun W hr => crossbarlaw14_few.calls a b A c l true W hr hc (by rw [few_eq, decide_eq_true (by omega)]))
  have HK := Aside0.mk (fun W hr => trunk_Check.calls a b A c l 1 W hr hc (by rw [check_eq, hk]))
  have HC := Aside0.mk hC
  have hgt : decide ((L.length : Int) > 30) = false := decide_eq_false (by omega)
  clear hC hc h h30 hk
  go_enter Try.func10, Try.ntmps10
  go_wp2_with (first
    | (go_at_call 11; (with_reducible refine (crossbarlaw14_sane.calls true _ sane_eq).mono ?_); rintro e w1 ⟨rfl, hb⟩; have HB1 := Aside0.mk (below_step (below_alloc (Below.refl w.heap.size w) (.cells #[.int .i64 a, .int .i64 b, .slice A l.length c] 26)) hb); have HN := Aside0.mk (blk_below (blk_new w (.cells #[.int .i64 a, .int .i64 b, .slice A l.length c] 26)) hb); have y0 : w1.cell? ⟨w.heap.size, 0, none⟩ = some (.int .i64 a) := (blk_cell HN.out 0).trans rfl; have y1 : w1.cell? ⟨w.heap.size, 1, none⟩ = some (.int .i64 b) := (blk_cell HN.out 1).trans rfl; have y2 : w1.cell? ⟨w.heap.size, 2, none⟩ = some (.slice A l.length c) := (blk_cell HN.out 2).trans rfl; clear hb)
    | (go_at_call 18; (with_reducible refine (HF.out _ (Kd.C_below HC.out HB1.out)).mono ?_); rintro e w2 ⟨rfl, hb⟩; have HB2 := Aside0.mk (below_step HB1.out hb); have HN2 := Aside0.mk (blk_below HN.out hb); clear y0 y1 y2; have y0 : w2.cell? ⟨w.heap.size, 0, none⟩ = some (.int .i64 a) := (blk_cell HN2.out 0).trans rfl; have y1 : w2.cell? ⟨w.heap.size, 1, none⟩ = some (.int .i64 b) := (blk_cell HN2.out 1).trans rfl; have y2 : w2.cell? ⟨w.heap.size, 2, none⟩ = some (.slice A l.length c) := (blk_cell HN2.out 2).trans rfl; clear hb)
    | (go_at_call 19; (with_reducible refine (HK.out _ (Kd.C_below HC.out HB2.out)).mono ?_); rintro e w3 ⟨rfl, hb⟩; have HB3 := Aside0.mk (below_step HB2.out hb); clear hb))
  go_ret
  exact ⟨rfl, HB3.out⟩

theorem crossbarlaw14_TrunkStaysValid.walk (a b : Int) (A : Option Addr) (c : Nat) (l : List S36) (A1 : Option Addr) (c1 : Nat) (L : List S59) (w : World) (hC : Kd.C k36 w A l.length l) (hc : l.length ≤ c) (hL : Kd.C k59 w A1 L.length L) (hc1 : L.length ≤ c1) :
    Calls Try.prog 10 #[.agg #[.int .i64 a, .int .i64 b, .slice A l.length c], .slice A1 L.length c1] w fun e w' => e = .returned (.bool true) ∧ Below w.heap.size w w' := by
  by_cases h : l.length ≤ 60
  · by_cases h30 : L.length ≤ 30
    · rcases check_or a b l with hk | hk
      · exact stays_good a b A c l A1 c1 L w hC hc hL hc1 h30 hk
      · exact stays_bad a b A c l A1 c1 L w hC hc h h30 hk
    · exact stays_long a b A c l A1 c1 L w hC hc h h30
  · exact stays_few a b A c l A1 c1 L w hC hc h
end Go.Proofs.Ythemnajgdoambaa.Tr
