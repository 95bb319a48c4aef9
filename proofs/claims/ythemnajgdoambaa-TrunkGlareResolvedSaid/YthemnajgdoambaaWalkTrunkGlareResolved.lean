/- TrunkGlareResolved: both exchanges seize the same circuit; each then receives the other's message. -/
-- Written by a program of this session (wip/tools/emit_gl.py).
import Derived.Test.YthemnajgdoambaaGl1
namespace Go.Proofs.Ythemnajgdoambaa.Tr
open Go.RowKit Go.Proofs.YthemnajgdoambaaW.PrintWords Go.Proofs.YthemnajgdoambaaW.PrintLast Go.Proofs.YthemnajgdoambaaW.PrintMore Go.Proofs.Ythemnajgdoambaa.Th
set_option linter.unusedVariables false
set_option linter.unusedSimpArgs false
set_option maxHeartbeats 16000000 in
set_option maxRecDepth 100000 in
theorem gl_off (own peer n i o t : Int) (w : World) (NA0 : ∀ W, Calls Try.prog 12 #[.int .i64 own, .int .i64 peer, .int .i64 n] W fun e w' => ∃ v, e = .returned (.tuple #[.agg #[.int .i64 0, .int .i64 0, v], .int .i64 1]) ∧ Kd.R k36 36 w' W.heap.size (fun _ => True) v ([] : List S36) ∧ Below W.heap.size W w') (NB0 : ∀ W, Calls Try.prog 12 #[.int .i64 peer, .int .i64 own, .int .i64 n] W fun e w' => ∃ v, e = .returned (.tuple #[.agg #[.int .i64 0, .int .i64 0, v], .int .i64 1]) ∧ Kd.R k36 36 w' W.heap.size (fun _ => True) v ([] : List S36) ∧ Below W.heap.size W w') :
    Calls Try.prog 3 #[.int .i64 own, .int .i64 peer, .int .i64 n, .int .i64 i, .int .u16 o, .int .u16 t] w fun e w' => e = .returned (.bool true) ∧ Below w.heap.size w w' := by
  have NA := Aside0.mk NA0
  have NB := Aside0.mk NB0
  clear NA0 NB0
  go_enter Try.func3, Try.ntmps3
  go_wp2_with (first
    | (go_at_call 11; (with_reducible refine (crossbarlaw14_sane.calls true _ sane_eq).mono ?_); rintro e w1 ⟨rfl, hb⟩; have HW_1 := Aside0.mk (hb); clear hb)
    | (go_at_call 12; (with_reducible refine (NA.out _).mono ?_); rintro e w2 ⟨v, rfl, hr, hb⟩; obtain ⟨A2, c2, rfl⟩ := Kd.R_slice hr; obtain ⟨_, hl2, hC2⟩ := Kd.R_reads' hr; have HW_2 := Aside0.mk (below_alloc (below_step HW_1.out hb) (.cells #[.int .i64 0, .int .i64 0, .slice A2 0 c2] 26)); have Ha_2 := Aside0.mk (Hd.new hC2 hl2 0 0); have PA := Aside0.mk (R_apart_lt hr); have WA := Aside0.mk ((below_step HW_1.out hb).size); obtain ⟨a0, a1, a2⟩ := (Ha_2.out).cells; have af := fun j : Nat => (Ha_2.out).frozen j; clear hr hC2 hl2 hb)
    | (go_at_call 12; (with_reducible refine (NB.out _).mono ?_); rintro e w3 ⟨v, rfl, hr, hb⟩; obtain ⟨A3, c3, rfl⟩ := Kd.R_slice hr; obtain ⟨_, hl3, hC3⟩ := Kd.R_reads' hr; have HW_3 := Aside0.mk (below_alloc (below_step HW_2.out hb) (.cells #[.int .i64 0, .int .i64 0, .slice A3 0 c3] 26)); have Hb_3 := Aside0.mk (Hd.new hC3 hl3 0 0); have PB := Aside0.mk (R_apart_lt hr); have AB := Aside0.mk (R_apart hr Ha_2.out.lt); have NE := Aside0.mk ((Ha_2.out.below hb).lt); have Ha_3 := Aside0.mk ((Ha_2.out.below hb).alloc (.cells #[.int .i64 0, .int .i64 0, .slice A3 0 c3] 26)); have WB := Aside0.mk ((below_step HW_2.out hb).size); clear a0 a1 a2 af; obtain ⟨a0, a1, a2⟩ := (Ha_3.out).cells; have af := fun j : Nat => (Ha_3.out).frozen j; obtain ⟨b0, b1, b2⟩ := (Hb_3.out).cells; have bf := fun j : Nat => (Hb_3.out).frozen j; have ne1 := Nat.ne_of_lt NE.out; have ne2 := Nat.ne_of_gt NE.out; clear hr hC3 hl3 hb))
  go_ret
  exact ⟨rfl, HW_3.out⟩
set_option maxHeartbeats 16000000 in
set_option maxRecDepth 100000 in
theorem gl_neg (own peer n i o t : Int) (w : World) (l : List S36) (hi : i < 0) (NA0 : ∀ W, Calls Try.prog 12 #[.int .i64 own, .int .i64 peer, .int .i64 n] W fun e w' => ∃ v, e = .returned (.tuple #[.agg #[.int .i64 own, .int .i64 peer, v], .int .i64 0]) ∧ Kd.R k36 36 w' W.heap.size (fun _ => True) v l ∧ Below W.heap.size W w') (NB0 : ∀ W, Calls Try.prog 12 #[.int .i64 peer, .int .i64 own, .int .i64 n] W fun e w' => ∃ v, e = .returned (.tuple #[.agg #[.int .i64 peer, .int .i64 own, v], .int .i64 0]) ∧ Kd.R k36 36 w' W.heap.size (fun _ => True) v l ∧ Below W.heap.size W w') :
    Calls Try.prog 3 #[.int .i64 own, .int .i64 peer, .int .i64 n, .int .i64 i, .int .u16 o, .int .u16 t] w fun e w' => e = .returned (.bool true) ∧ Below w.heap.size w w' := by
  have NA := Aside0.mk NA0
  have NB := Aside0.mk NB0
  have d1 : decide (i < 0) = true := decide_eq_true hi
  clear NA0 NB0 hi
  go_enter Try.func3, Try.ntmps3
  go_wp2_with (first
    | (go_at_call 11; (with_reducible refine (crossbarlaw14_sane.calls true _ sane_eq).mono ?_); rintro e w1 ⟨rfl, hb⟩; have HW_1 := Aside0.mk (hb); clear hb)
    | (go_at_call 12; (with_reducible refine (NA.out _).mono ?_); rintro e w2 ⟨v, rfl, hr, hb⟩; obtain ⟨A2, c2, rfl⟩ := Kd.R_slice hr; obtain ⟨_, hl2, hC2⟩ := Kd.R_reads' hr; have HW_2 := Aside0.mk (below_alloc (below_step HW_1.out hb) (.cells #[.int .i64 own, .int .i64 peer, .slice A2 l.length c2] 26)); have Ha_2 := Aside0.mk (Hd.new hC2 hl2 own peer); have PA := Aside0.mk (R_apart_lt hr); have WA := Aside0.mk ((below_step HW_1.out hb).size); obtain ⟨a0, a1, a2⟩ := (Ha_2.out).cells; have af := fun j : Nat => (Ha_2.out).frozen j; clear hr hC2 hl2 hb)
    | (go_at_call 12; (with_reducible refine (NB.out _).mono ?_); rintro e w3 ⟨v, rfl, hr, hb⟩; obtain ⟨A3, c3, rfl⟩ := Kd.R_slice hr; obtain ⟨_, hl3, hC3⟩ := Kd.R_reads' hr; have HW_3 := Aside0.mk (below_alloc (below_step HW_2.out hb) (.cells #[.int .i64 peer, .int .i64 own, .slice A3 l.length c3] 26)); have Hb_3 := Aside0.mk (Hd.new hC3 hl3 peer own); have PB := Aside0.mk (R_apart_lt hr); have AB := Aside0.mk (R_apart hr Ha_2.out.lt); have NE := Aside0.mk ((Ha_2.out.below hb).lt); have Ha_3 := Aside0.mk ((Ha_2.out.below hb).alloc (.cells #[.int .i64 peer, .int .i64 own, .slice A3 l.length c3] 26)); have WB := Aside0.mk ((below_step HW_2.out hb).size); clear a0 a1 a2 af; obtain ⟨a0, a1, a2⟩ := (Ha_3.out).cells; have af := fun j : Nat => (Ha_3.out).frozen j; obtain ⟨b0, b1, b2⟩ := (Hb_3.out).cells; have bf := fun j : Nat => (Hb_3.out).frozen j; have ne1 := Nat.ne_of_lt NE.out; have ne2 := Nat.ne_of_gt NE.out; clear hr hC3 hl3 hb))
  go_ret
  exact ⟨rfl, HW_3.out⟩
set_option maxHeartbeats 16000000 in
set_option maxRecDepth 100000 in
theorem gl_big (own peer n i o t : Int) (w : World) (l : List S36) (h0 : 0 ≤ i) (hi : n ≤ i) (NA0 : ∀ W, Calls Try.prog 12 #[.int .i64 own, .int .i64 peer, .int .i64 n] W fun e w' => ∃ v, e = .returned (.tuple #[.agg #[.int .i64 own, .int .i64 peer, v], .int .i64 0]) ∧ Kd.R k36 36 w' W.heap.size (fun _ => True) v l ∧ Below W.heap.size W w') (NB0 : ∀ W, Calls Try.prog 12 #[.int .i64 peer, .int .i64 own, .int .i64 n] W fun e w' => ∃ v, e = .returned (.tuple #[.agg #[.int .i64 peer, .int .i64 own, v], .int .i64 0]) ∧ Kd.R k36 36 w' W.heap.size (fun _ => True) v l ∧ Below W.heap.size W w') :
    Calls Try.prog 3 #[.int .i64 own, .int .i64 peer, .int .i64 n, .int .i64 i, .int .u16 o, .int .u16 t] w fun e w' => e = .returned (.bool true) ∧ Below w.heap.size w w' := by
  have NA := Aside0.mk NA0
  have NB := Aside0.mk NB0
  have d1 : decide (i < 0) = false := decide_eq_false (by omega)
  have d2 : decide (i ≥ n) = true := decide_eq_true (by omega)
  clear NA0 NB0 hi h0
  go_enter Try.func3, Try.ntmps3
  go_wp2_with (first
    | (go_at_call 11; (with_reducible refine (crossbarlaw14_sane.calls true _ sane_eq).mono ?_); rintro e w1 ⟨rfl, hb⟩; have HW_1 := Aside0.mk (hb); clear hb)
    | (go_at_call 12; (with_reducible refine (NA.out _).mono ?_); rintro e w2 ⟨v, rfl, hr, hb⟩; obtain ⟨A2, c2, rfl⟩ := Kd.R_slice hr; obtain ⟨_, hl2, hC2⟩ := Kd.R_reads' hr; have HW_2 := Aside0.mk (below_alloc (below_step HW_1.out hb) (.cells #[.int .i64 own, .int .i64 peer, .slice A2 l.length c2] 26)); have Ha_2 := Aside0.mk (Hd.new hC2 hl2 own peer); have PA := Aside0.mk (R_apart_lt hr); have WA := Aside0.mk ((below_step HW_1.out hb).size); obtain ⟨a0, a1, a2⟩ := (Ha_2.out).cells; have af := fun j : Nat => (Ha_2.out).frozen j; clear hr hC2 hl2 hb)
    | (go_at_call 12; (with_reducible refine (NB.out _).mono ?_); rintro e w3 ⟨v, rfl, hr, hb⟩; obtain ⟨A3, c3, rfl⟩ := Kd.R_slice hr; obtain ⟨_, hl3, hC3⟩ := Kd.R_reads' hr; have HW_3 := Aside0.mk (below_alloc (below_step HW_2.out hb) (.cells #[.int .i64 peer, .int .i64 own, .slice A3 l.length c3] 26)); have Hb_3 := Aside0.mk (Hd.new hC3 hl3 peer own); have PB := Aside0.mk (R_apart_lt hr); have AB := Aside0.mk (R_apart hr Ha_2.out.lt); have NE := Aside0.mk ((Ha_2.out.below hb).lt); have Ha_3 := Aside0.mk ((Ha_2.out.below hb).alloc (.cells #[.int .i64 peer, .int .i64 own, .slice A3 l.length c3] 26)); have WB := Aside0.mk ((below_step HW_2.out hb).size); clear a0 a1 a2 af; obtain ⟨a0, a1, a2⟩ := (Ha_3.out).cells; have af := fun j : Nat => (Ha_3.out).frozen j; obtain ⟨b0, b1, b2⟩ := (Hb_3.out).cells; have bf := fun j : Nat => (Hb_3.out).frozen j; have ne1 := Nat.ne_of_lt NE.out; have ne2 := Nat.ne_of_gt NE.out; clear hr hC3 hl3 hb))
  go_ret
  exact ⟨rfl, HW_3.out⟩
set_option maxHeartbeats 16000000 in
set_option maxRecDepth 100000 in
theorem gl_ctl (own peer n i o t : Int) (w : World) (l la lb lc ld : List S36) (x y : Int) (h0 : 0 ≤ i) (h1 : i < n) (hx : wrap64 (1 + wrap64 o) = x) (hy : wrap64 (1 + wrap64 t) = y) (hlc : (lc.length : Int) = n) (hld : (ld.length : Int) = n) (hp : rd_T36 lc i = ⟨1, x, false, false⟩) (hq : rd_T36 ld i = ⟨2, x, false, false⟩)
    (NA0 : ∀ W, Calls Try.prog 12 #[.int .i64 own, .int .i64 peer, .int .i64 n] W fun e w' => ∃ v, e = .returned (.tuple #[.agg #[.int .i64 own, .int .i64 peer, v], .int .i64 0]) ∧ Kd.R k36 36 w' W.heap.size (fun _ => True) v l ∧ Below W.heap.size W w')
    (NB0 : ∀ W, Calls Try.prog 12 #[.int .i64 peer, .int .i64 own, .int .i64 n] W fun e w' => ∃ v, e = .returned (.tuple #[.agg #[.int .i64 peer, .int .i64 own, v], .int .i64 0]) ∧ Kd.R k36 36 w' W.heap.size (fun _ => True) v l ∧ Below W.heap.size W w')
    (SA0 : ∀ B d W, Kd.C k36 W B l.length l → l.length ≤ d → Calls Try.prog 13 #[.agg #[.int .i64 own, .int .i64 peer, .slice B l.length d], .int .i64 i, .int .i64 x] W fun e w' => ∃ v, e = .returned (.tuple #[.agg #[.int .i64 own, .int .i64 peer, v], .int .i64 0]) ∧ Kd.R k36 36 w' W.heap.size (fun _ => True) v la ∧ Below W.heap.size W w')
    (SB0 : ∀ B d W, Kd.C k36 W B l.length l → l.length ≤ d → Calls Try.prog 13 #[.agg #[.int .i64 peer, .int .i64 own, .slice B l.length d], .int .i64 i, .int .i64 y] W fun e w' => ∃ v, e = .returned (.tuple #[.agg #[.int .i64 peer, .int .i64 own, v], .int .i64 0]) ∧ Kd.R k36 36 w' W.heap.size (fun _ => True) v lb ∧ Below W.heap.size W w')
    (TX0 : ∀ W, Calls Try.prog 14 #[.int .i64 i, .int .i64 x] W fun e w' => e = .returned (.tuple #[.int .i64 i, .int .i64 x, .bool true]) ∧ Below W.heap.size W w')
    (TY0 : ∀ W, Calls Try.prog 14 #[.int .i64 i, .int .i64 y] W fun e w' => e = .returned (.tuple #[.int .i64 i, .int .i64 y, .bool true]) ∧ Below W.heap.size W w')
    (AA0 : ∀ B d W, Kd.C k36 W B la.length la → la.length ≤ d → Calls Try.prog 15 #[.agg #[.int .i64 own, .int .i64 peer, .slice B la.length d], .int .i64 i, .int .i64 y] W fun e w' => ∃ v, e = .returned (.tuple #[.agg #[.int .i64 own, .int .i64 peer, v], .int .i64 2, .int .i64 0]) ∧ Kd.R k36 36 w' W.heap.size (fun _ => True) v lc ∧ Below W.heap.size W w')
    (AR0 : ∀ B d W, Kd.C k36 W B lb.length lb → lb.length ≤ d → Calls Try.prog 15 #[.agg #[.int .i64 peer, .int .i64 own, .slice B lb.length d], .int .i64 i, .int .i64 x] W fun e w' => ∃ v, e = .returned (.tuple #[.agg #[.int .i64 peer, .int .i64 own, v], .int .i64 3, .int .i64 0]) ∧ Kd.R k36 36 w' W.heap.size (fun _ => True) v ld ∧ Below W.heap.size W w')
    (CO0 : ∀ B d W, Kd.C k36 W B la.length la → la.length ≤ d → Calls Try.prog 16 #[.agg #[.int .i64 own, .int .i64 peer, .slice B la.length d], .int .i64 i] W fun e w' => e = .returned (.bool true) ∧ Below W.heap.size W w')
    (BA0 : ∀ B d B' d' W, Kd.C k36 W B lc.length lc → lc.length ≤ d → Kd.C k36 W B' la.length la → la.length ≤ d' → Calls Try.prog 17 #[.agg #[.int .i64 own, .int .i64 peer, .slice B lc.length d], .agg #[.int .i64 own, .int .i64 peer, .slice B' la.length d'], .int .i64 i] W fun e w' => e = .returned (.bool true) ∧ Below W.heap.size W w')
    (BB0 : ∀ B d B' d' W, Kd.C k36 W B ld.length ld → ld.length ≤ d → Kd.C k36 W B' lb.length lb → lb.length ≤ d' → Calls Try.prog 17 #[.agg #[.int .i64 peer, .int .i64 own, .slice B ld.length d], .agg #[.int .i64 peer, .int .i64 own, .slice B' lb.length d'], .int .i64 i] W fun e w' => e = .returned (.bool true) ∧ Below W.heap.size W w') :
    Calls Try.prog 3 #[.int .i64 own, .int .i64 peer, .int .i64 n, .int .i64 i, .int .u16 o, .int .u16 t] w fun e w' => e = .returned (.bool true) ∧ Below w.heap.size w w' := by
  have NA := Aside0.mk NA0
  have NB := Aside0.mk NB0
  have SA := Aside0.mk SA0
  have SB := Aside0.mk SB0
  have TX := Aside0.mk TX0
  have TY := Aside0.mk TY0
  have AA := Aside0.mk AA0
  have AR := Aside0.mk AR0
  have CO := Aside0.mk CO0
  have BA := Aside0.mk BA0
  have BB := Aside0.mk BB0
  have HI := Aside0.mk (And.intro h0 h1)
  have PL := Aside0.mk (And.intro (show i < (lc.length : Int) by omega) (show i < (ld.length : Int) by omega))
  have PC0 := Aside0.mk hp
  have QC0 := Aside0.mk hq
  have d1 : decide (i < 0) = false := decide_eq_false (by omega)
  have d2 : decide (i ≥ n) = false := decide_eq_false (by omega)
  have e1 : ((lc.length : Int) != n) = false := by simp [hlc]
  have e2 : ((ld.length : Int) != n) = false := by simp [hld]
  have p_ := eq_true h0
  have q1_ := eq_true PL.out.1
  have q2_ := eq_true PL.out.2
  clear h0 h1 hlc hld hp hq NA0 NB0 SA0 SB0 TX0 TY0 AA0 AR0 CO0 BA0 BB0
  go_enter Try.func3, Try.ntmps3
  go_upto_region 18 with (first
    | (go_at_call 11; (with_reducible refine (crossbarlaw14_sane.calls true _ sane_eq).mono ?_); rintro e w1 ⟨rfl, hb⟩; have HW_1 := Aside0.mk (hb); clear hb)
    | (go_at_call 12; (with_reducible refine (NA.out _).mono ?_); rintro e w2 ⟨v, rfl, hr, hb⟩; obtain ⟨A2, c2, rfl⟩ := Kd.R_slice hr; obtain ⟨_, hl2, hC2⟩ := Kd.R_reads' hr; have HW_2 := Aside0.mk (below_alloc (below_step HW_1.out hb) (.cells #[.int .i64 own, .int .i64 peer, .slice A2 l.length c2] 26)); have Ha_2 := Aside0.mk (Hd.new hC2 hl2 own peer); have PA := Aside0.mk (R_apart_lt hr); have WA := Aside0.mk ((below_step HW_1.out hb).size); obtain ⟨a0, a1, a2⟩ := (Ha_2.out).cells; have af := fun j : Nat => (Ha_2.out).frozen j; clear hr hC2 hl2 hb)
    | (go_at_call 12; (with_reducible refine (NB.out _).mono ?_); rintro e w3 ⟨v, rfl, hr, hb⟩; obtain ⟨A3, c3, rfl⟩ := Kd.R_slice hr; obtain ⟨_, hl3, hC3⟩ := Kd.R_reads' hr; have HW_3 := Aside0.mk (below_alloc (below_step HW_2.out hb) (.cells #[.int .i64 peer, .int .i64 own, .slice A3 l.length c3] 26)); have Hb_3 := Aside0.mk (Hd.new hC3 hl3 peer own); have PB := Aside0.mk (R_apart_lt hr); have AB := Aside0.mk (R_apart hr Ha_2.out.lt); have NE := Aside0.mk ((Ha_2.out.below hb).lt); have Ha_3 := Aside0.mk ((Ha_2.out.below hb).alloc (.cells #[.int .i64 peer, .int .i64 own, .slice A3 l.length c3] 26)); have WB := Aside0.mk ((below_step HW_2.out hb).size); clear a0 a1 a2 af; obtain ⟨a0, a1, a2⟩ := (Ha_3.out).cells; have af := fun j : Nat => (Ha_3.out).frozen j; obtain ⟨b0, b1, b2⟩ := (Hb_3.out).cells; have bf := fun j : Nat => (Hb_3.out).frozen j; have ne1 := Nat.ne_of_lt NE.out; have ne2 := Nat.ne_of_gt NE.out; clear hr hC3 hl3 hb)
    | (go_at_call 13; (with_reducible refine (SA.out _ _ _ Ha_3.out.row Ha_3.out.le).mono ?_); rintro e w4 ⟨v, rfl, hr, hb⟩; obtain ⟨A4, c4, rfl⟩ := Kd.R_slice hr; obtain ⟨_, hl4, hC4⟩ := Kd.R_reads' hr; have HW_4 := Aside0.mk (hdSet_below' (a' := own) (b' := peer) (v := .slice A4 la.length c4) (below_step HW_3.out hb) WA.out); have Ha_4 := Aside0.mk (Hd.store' (a' := own) (b' := peer) (Ha_3.out.below hb) hC4 (R_apart hr Ha_3.out.lt) hl4); have Hb_4 := Aside0.mk (Hd.far' (a' := own) (b' := peer) (v := .slice A4 la.length c4) (Hb_3.out.below hb) (Nat.ne_of_gt NE.out) AB.out); have PC := Aside0.mk (R_apart hr Hb_3.out.lt); clear a0 a1 a2 af b0 b1 b2 bf; obtain ⟨a0, a1, a2⟩ := (Ha_3.out.below hb).cells; have af := fun j : Nat => (Ha_3.out.below hb).frozen j; obtain ⟨b0, b1, b2⟩ := (Hb_3.out.below hb).cells; have bf := fun j : Nat => (Hb_3.out.below hb).frozen j; clear hr hC4 hl4 hb)
    | (go_at_call 13; (with_reducible refine (SB.out _ _ _ Hb_4.out.row Hb_4.out.le).mono ?_); rintro e w5 ⟨v, rfl, hr, hb⟩; obtain ⟨A5, c5, rfl⟩ := Kd.R_slice hr; obtain ⟨_, hl5, hC5⟩ := Kd.R_reads' hr; have HW_5 := Aside0.mk (hdSet_below' (a' := peer) (b' := own) (v := .slice A5 lb.length c5) (below_step HW_4.out hb) WB.out); have Hb_5 := Aside0.mk (Hd.store' (a' := peer) (b' := own) (Hb_4.out.below hb) hC5 (R_apart hr Hb_4.out.lt) hl5); have Ha_5 := Aside0.mk (Hd.far' (a' := peer) (b' := own) (v := .slice A5 lb.length c5) (Ha_4.out.below hb) (Nat.ne_of_lt NE.out) PC.out); clear a0 a1 a2 af b0 b1 b2 bf; obtain ⟨a0, a1, a2⟩ := (Ha_4.out.below hb).cells; have af := fun j : Nat => (Ha_4.out.below hb).frozen j; obtain ⟨b0, b1, b2⟩ := (Hb_4.out.below hb).cells; have bf := fun j : Nat => (Hb_4.out.below hb).frozen j; clear hr hC5 hl5 hb)
    | (go_at_call 14; (with_reducible refine (TX.out _).mono ?_); rintro e w6 ⟨rfl, hb⟩; have Ha_6 := Aside0.mk (Ha_5.out.below hb); have Hb_6 := Aside0.mk (Hb_5.out.below hb); have HW_6 := Aside0.mk (below_step HW_5.out hb); clear a0 a1 a2 af b0 b1 b2 bf; obtain ⟨a0, a1, a2⟩ := (Ha_6.out).cells; have af := fun j : Nat => (Ha_6.out).frozen j; obtain ⟨b0, b1, b2⟩ := (Hb_6.out).cells; have bf := fun j : Nat => (Hb_6.out).frozen j; clear hb)
    | (go_at_call 14; (with_reducible refine (TY.out _).mono ?_); rintro e w7 ⟨rfl, hb⟩; have Ha_7 := Aside0.mk (Ha_6.out.below hb); have Hb_7 := Aside0.mk (Hb_6.out.below hb); have HW_7 := Aside0.mk (below_step HW_6.out hb); clear a0 a1 a2 af b0 b1 b2 bf; obtain ⟨a0, a1, a2⟩ := (Ha_7.out).cells; have af := fun j : Nat => (Ha_7.out).frozen j; obtain ⟨b0, b1, b2⟩ := (Hb_7.out).cells; have bf := fun j : Nat => (Hb_7.out).frozen j; clear hb)
    | (go_at_call 15; (with_reducible refine (AA.out _ _ _ Ha_7.out.row Ha_7.out.le).mono ?_); rintro e w8 ⟨v, rfl, hr, hb⟩; obtain ⟨g8, c8, rfl, _, hs8, _⟩ := Kd.R_form hr (show 0 < lc.length by have := PL.out.1; have := HI.out.1; omega); obtain ⟨_, hl8, hC8⟩ := Kd.R_reads' hr; have L8 := Aside0.mk (hs8); have Ha_8 := Aside0.mk ((Ha_7.out.below hb).alloc (.cells #[.int .i64 own, .int .i64 peer, .slice (some ⟨g8, 0, none⟩) lc.length c8] 26)); have Hb_8 := Aside0.mk ((Hb_7.out.below hb).alloc (.cells #[.int .i64 own, .int .i64 peer, .slice (some ⟨g8, 0, none⟩) lc.length c8] 26)); have HW_8 := Aside0.mk (below_alloc (below_step HW_7.out hb) (.cells #[.int .i64 own, .int .i64 peer, .slice (some ⟨g8, 0, none⟩) lc.length c8] 26)); have Hc_8 := Aside0.mk (Hd.new hC8 hl8 own peer); clear a0 a1 a2 af b0 b1 b2 bf; obtain ⟨a0, a1, a2⟩ := (Ha_8.out).cells; have af := fun j : Nat => (Ha_8.out).frozen j; obtain ⟨b0, b1, b2⟩ := (Hb_8.out).cells; have bf := fun j : Nat => (Hb_8.out).frozen j; obtain ⟨c0, c1, c2⟩ := (Hc_8.out).cells; have cf := fun j : Nat => (Hc_8.out).frozen j; clear hr hC8 hl8 hb hs8)
    | (go_at_call 15; (with_reducible refine (AR.out _ _ _ Hb_8.out.row Hb_8.out.le).mono ?_); rintro e w9 ⟨v, rfl, hr, hb⟩; obtain ⟨g9, c9, rfl, _, hs9, _⟩ := Kd.R_form hr (show 0 < ld.length by have := PL.out.2; have := HI.out.1; omega); obtain ⟨_, hl9, hC9⟩ := Kd.R_reads' hr; have L9 := Aside0.mk (hs9); have Ha_9 := Aside0.mk ((Ha_8.out.below hb).alloc (.cells #[.int .i64 peer, .int .i64 own, .slice (some ⟨g9, 0, none⟩) ld.length c9] 26)); have Hb_9 := Aside0.mk ((Hb_8.out.below hb).alloc (.cells #[.int .i64 peer, .int .i64 own, .slice (some ⟨g9, 0, none⟩) ld.length c9] 26)); have Hc_9 := Aside0.mk ((Hc_8.out.below hb).alloc (.cells #[.int .i64 peer, .int .i64 own, .slice (some ⟨g9, 0, none⟩) ld.length c9] 26)); have HW_9 := Aside0.mk (below_alloc (below_step HW_8.out hb) (.cells #[.int .i64 peer, .int .i64 own, .slice (some ⟨g9, 0, none⟩) ld.length c9] 26)); have Hd_9 := Aside0.mk (Hd.new hC9 hl9 peer own); clear a0 a1 a2 af b0 b1 b2 bf c0 c1 c2 cf; obtain ⟨a0, a1, a2⟩ := (Ha_9.out).cells; have af := fun j : Nat => (Ha_9.out).frozen j; obtain ⟨b0, b1, b2⟩ := (Hb_9.out).cells; have bf := fun j : Nat => (Hb_9.out).frozen j; obtain ⟨c0, c1, c2⟩ := (Hc_9.out).cells; have cf := fun j : Nat => (Hc_9.out).frozen j; obtain ⟨d0, d1, d2⟩ := (Hd_9.out).cells; have df := fun j : Nat => (Hd_9.out).frozen j; clear hr hC9 hl9 hb hs9))
  have lc_ := Hc_9.out.lt
  have ld_ := Hd_9.out.lt
  generalize hW : w9.alloc (.cells #[.int .i64 peer, .int .i64 own, .slice (some ⟨g9, 0, none⟩) ld.length c9] 26) = W at Ha_9 Hb_9 Hc_9 Hd_9 HW_9 a0 a1 a2 b0 b1 b2 c0 c1 c2 d0 d1 d2 lc_ ld_ ⊢
  have lx := Nat.lt_trans L8.out lc_
  have ly := Nat.lt_trans L9.out ld_
  obtain ⟨ax, ex, px0, px1, px2, px3⟩ := at_T36 Hc_9.out.row i HI.out.1 PL.out.1
  cases ex
  rw [PC0.out] at px0 px1 px2 px3
  obtain ⟨ay, ey, qx0, qx1, qx2, qx3⟩ := at_T36 Hd_9.out.row i HI.out.1 PL.out.2
  cases ey
  rw [QC0.out] at qx0 qx1 qx2 qx3
  simp only [Addr.add_lit, Nat.zero_add] at px0 px1 px2 px3 qx0 qx1 qx2 qx3
  generalize w8.heap.size = gc at *
  generalize w9.heap.size = gd at *
  have lx' : g8 < W.heap.size + 1 := Nat.lt_succ_of_lt lx
  have ly' : g9 < W.heap.size + 1 := Nat.lt_succ_of_lt ly
  have lc' : gc < W.heap.size + 1 := Nat.lt_succ_of_lt lc_
  have ld' : gd < W.heap.size + 1 := Nat.lt_succ_of_lt ld_
  go_cut [31, 32] (fun v31 v32 wx => ∃ g1 g2 : Nat, v31 = .pointer (some ⟨g1, 0, none⟩) ∧ v32 = .pointer (some ⟨g2, 0, none⟩) ∧ Aside0 (wx.cell? ⟨g1, 0, none⟩ = some (.int .i64 1) ∧ wx.cell? ⟨g1, 1, none⟩ = some (.int .i64 x) ∧ wx.cell? ⟨g2, 0, none⟩ = some (.int .i64 2) ∧ wx.cell? ⟨g2, 1, none⟩ = some (.int .i64 x)) ∧ Aside0 (Below W.heap.size W wx))
  case first =>
    go_region
    · go_wp2_with (fail)
      go_meet
      exact ⟨_, _, rfl, rfl, ⟨by simp [go_sem], by simp [go_sem], by simp [go_sem], by simp [go_sem]⟩, ⟨below_drew1 (below_alloc (below_alloc (Below.refl _ _) _) _)⟩⟩
    · go_wp2_with (fail)
      go_meet
      exact ⟨_, _, rfl, rfl, ⟨by simp [go_sem], by simp [go_sem], by simp [go_sem], by simp [go_sem]⟩, ⟨below_drew1 (below_alloc (below_alloc (Below.refl _ _) _) _)⟩⟩
  case rest =>
    obtain ⟨g1, g2, rfl, rfl, HP, HX⟩ := hcut
    have Ha_10 := Aside0.mk (Ha_9.out.below HX.out)
    have Hb_10 := Aside0.mk (Hb_9.out.below HX.out)
    have Hc_10 := Aside0.mk (Hc_9.out.below HX.out)
    have Hd_10 := Aside0.mk (Hd_9.out.below HX.out)
    have HW_10 := Aside0.mk (below_step HW_9.out HX.out)
    clear a0 a1 a2 af b0 b1 b2 bf c0 c1 c2 cf d0 d1 d2 df px0 px1 px2 px3 qx0 qx1 qx2 qx3 lx ly lx' ly' lc_ ld_ lc' ld'
    obtain ⟨a0, a1, a2⟩ := Ha_10.out.cells
    go_wp2_with (first
      | (go_at_call 16; (with_reducible refine (CO.out _ _ _ Ha_10.out.row Ha_10.out.le).mono ?_); rintro e w11 ⟨rfl, hb⟩; have Ha_11 := Aside0.mk (Ha_10.out.below hb); have Hb_11 := Aside0.mk (Hb_10.out.below hb); have Hc_11 := Aside0.mk (Hc_10.out.below hb); have Hd_11 := Aside0.mk (Hd_10.out.below hb); have HW_11 := Aside0.mk (below_step HW_10.out hb); have z0 := cell_keep HP.out.1 hb; have z1 := cell_keep HP.out.2.1 hb; have z2 := cell_keep HP.out.2.2.1 hb; have z3 := cell_keep HP.out.2.2.2 hb; clear a0 a1 a2; obtain ⟨a0, a1, a2⟩ := Ha_11.out.cells; obtain ⟨b0, b1, b2⟩ := Hb_11.out.cells; obtain ⟨c0, c1, c2⟩ := Hc_11.out.cells; obtain ⟨d0, d1, d2⟩ := Hd_11.out.cells; clear hb)
      | (go_at_call 17; (with_reducible refine (BA.out _ _ _ _ _ Hc_11.out.row Hc_11.out.le Ha_11.out.row Ha_11.out.le).mono ?_); rintro e w12 ⟨rfl, hb⟩; have Ha_12 := Aside0.mk (Ha_11.out.below hb); have Hb_12 := Aside0.mk (Hb_11.out.below hb); have Hc_12 := Aside0.mk (Hc_11.out.below hb); have Hd_12 := Aside0.mk (Hd_11.out.below hb); have HW_12 := Aside0.mk (below_step HW_11.out hb); clear a0 a1 a2 b0 b1 b2 c0 c1 c2 d0 d1 d2; obtain ⟨b0, b1, b2⟩ := Hb_12.out.cells; obtain ⟨d0, d1, d2⟩ := Hd_12.out.cells; clear hb)
      | (go_at_call 17; (with_reducible refine (BB.out _ _ _ _ _ Hd_12.out.row Hd_12.out.le Hb_12.out.row Hb_12.out.le).mono ?_); rintro e w13 ⟨rfl, hb⟩; have Ha_13 := Aside0.mk (Ha_12.out.below hb); have Hb_13 := Aside0.mk (Hb_12.out.below hb); have Hc_13 := Aside0.mk (Hc_12.out.below hb); have Hd_13 := Aside0.mk (Hd_12.out.below hb); have HW_13 := Aside0.mk (below_step HW_12.out hb); clear b0 b1 b2 d0 d1 d2; clear hb))
    go_ret
    exact ⟨rfl, HW_13.out⟩
set_option maxHeartbeats 16000000 in
set_option maxRecDepth 100000 in
theorem gl_not (own peer n i o t : Int) (w : World) (l la lb lc ld : List S36) (x y : Int) (h0 : 0 ≤ i) (h1 : i < n) (hx : wrap64 (1 + wrap64 o) = x) (hy : wrap64 (1 + wrap64 t) = y) (hlc : (lc.length : Int) = n) (hld : (ld.length : Int) = n) (hp : rd_T36 lc i = ⟨2, y, false, false⟩) (hq : rd_T36 ld i = ⟨1, y, false, false⟩)
    (NA0 : ∀ W, Calls Try.prog 12 #[.int .i64 own, .int .i64 peer, .int .i64 n] W fun e w' => ∃ v, e = .returned (.tuple #[.agg #[.int .i64 own, .int .i64 peer, v], .int .i64 0]) ∧ Kd.R k36 36 w' W.heap.size (fun _ => True) v l ∧ Below W.heap.size W w')
    (NB0 : ∀ W, Calls Try.prog 12 #[.int .i64 peer, .int .i64 own, .int .i64 n] W fun e w' => ∃ v, e = .returned (.tuple #[.agg #[.int .i64 peer, .int .i64 own, v], .int .i64 0]) ∧ Kd.R k36 36 w' W.heap.size (fun _ => True) v l ∧ Below W.heap.size W w')
    (SA0 : ∀ B d W, Kd.C k36 W B l.length l → l.length ≤ d → Calls Try.prog 13 #[.agg #[.int .i64 own, .int .i64 peer, .slice B l.length d], .int .i64 i, .int .i64 x] W fun e w' => ∃ v, e = .returned (.tuple #[.agg #[.int .i64 own, .int .i64 peer, v], .int .i64 0]) ∧ Kd.R k36 36 w' W.heap.size (fun _ => True) v la ∧ Below W.heap.size W w')
    (SB0 : ∀ B d W, Kd.C k36 W B l.length l → l.length ≤ d → Calls Try.prog 13 #[.agg #[.int .i64 peer, .int .i64 own, .slice B l.length d], .int .i64 i, .int .i64 y] W fun e w' => ∃ v, e = .returned (.tuple #[.agg #[.int .i64 peer, .int .i64 own, v], .int .i64 0]) ∧ Kd.R k36 36 w' W.heap.size (fun _ => True) v lb ∧ Below W.heap.size W w')
    (TX0 : ∀ W, Calls Try.prog 14 #[.int .i64 i, .int .i64 x] W fun e w' => e = .returned (.tuple #[.int .i64 i, .int .i64 x, .bool true]) ∧ Below W.heap.size W w')
    (TY0 : ∀ W, Calls Try.prog 14 #[.int .i64 i, .int .i64 y] W fun e w' => e = .returned (.tuple #[.int .i64 i, .int .i64 y, .bool true]) ∧ Below W.heap.size W w')
    (AA0 : ∀ B d W, Kd.C k36 W B la.length la → la.length ≤ d → Calls Try.prog 15 #[.agg #[.int .i64 own, .int .i64 peer, .slice B la.length d], .int .i64 i, .int .i64 y] W fun e w' => ∃ v, e = .returned (.tuple #[.agg #[.int .i64 own, .int .i64 peer, v], .int .i64 3, .int .i64 0]) ∧ Kd.R k36 36 w' W.heap.size (fun _ => True) v lc ∧ Below W.heap.size W w')
    (AR0 : ∀ B d W, Kd.C k36 W B lb.length lb → lb.length ≤ d → Calls Try.prog 15 #[.agg #[.int .i64 peer, .int .i64 own, .slice B lb.length d], .int .i64 i, .int .i64 x] W fun e w' => ∃ v, e = .returned (.tuple #[.agg #[.int .i64 peer, .int .i64 own, v], .int .i64 2, .int .i64 0]) ∧ Kd.R k36 36 w' W.heap.size (fun _ => True) v ld ∧ Below W.heap.size W w')
    (CO0 : ∀ B d W, Kd.C k36 W B la.length la → la.length ≤ d → Calls Try.prog 16 #[.agg #[.int .i64 own, .int .i64 peer, .slice B la.length d], .int .i64 i] W fun e w' => e = .returned (.bool false) ∧ Below W.heap.size W w')
    (BA0 : ∀ B d B' d' W, Kd.C k36 W B lc.length lc → lc.length ≤ d → Kd.C k36 W B' la.length la → la.length ≤ d' → Calls Try.prog 17 #[.agg #[.int .i64 own, .int .i64 peer, .slice B lc.length d], .agg #[.int .i64 own, .int .i64 peer, .slice B' la.length d'], .int .i64 i] W fun e w' => e = .returned (.bool true) ∧ Below W.heap.size W w')
    (BB0 : ∀ B d B' d' W, Kd.C k36 W B ld.length ld → ld.length ≤ d → Kd.C k36 W B' lb.length lb → lb.length ≤ d' → Calls Try.prog 17 #[.agg #[.int .i64 peer, .int .i64 own, .slice B ld.length d], .agg #[.int .i64 peer, .int .i64 own, .slice B' lb.length d'], .int .i64 i] W fun e w' => e = .returned (.bool true) ∧ Below W.heap.size W w') :
    Calls Try.prog 3 #[.int .i64 own, .int .i64 peer, .int .i64 n, .int .i64 i, .int .u16 o, .int .u16 t] w fun e w' => e = .returned (.bool true) ∧ Below w.heap.size w w' := by
  have NA := Aside0.mk NA0
  have NB := Aside0.mk NB0
  have SA := Aside0.mk SA0
  have SB := Aside0.mk SB0
  have TX := Aside0.mk TX0
  have TY := Aside0.mk TY0
  have AA := Aside0.mk AA0
  have AR := Aside0.mk AR0
  have CO := Aside0.mk CO0
  have BA := Aside0.mk BA0
  have BB := Aside0.mk BB0
  have HI := Aside0.mk (And.intro h0 h1)
  have PL := Aside0.mk (And.intro (show i < (lc.length : Int) by omega) (show i < (ld.length : Int) by omega))
  have PC0 := Aside0.mk hp
  have QC0 := Aside0.mk hq
  have d1 : decide (i < 0) = false := decide_eq_false (by omega)
  have d2 : decide (i ≥ n) = false := decide_eq_false (by omega)
  have e1 : ((lc.length : Int) != n) = false := by simp [hlc]
  have e2 : ((ld.length : Int) != n) = false := by simp [hld]
  have p_ := eq_true h0
  have q1_ := eq_true PL.out.1
  have q2_ := eq_true PL.out.2
  clear h0 h1 hlc hld hp hq NA0 NB0 SA0 SB0 TX0 TY0 AA0 AR0 CO0 BA0 BB0
  go_enter Try.func3, Try.ntmps3
  go_upto_region 18 with (first
    | (go_at_call 11; (with_reducible refine (crossbarlaw14_sane.calls true _ sane_eq).mono ?_); rintro e w1 ⟨rfl, hb⟩; have HW_1 := Aside0.mk (hb); clear hb)
    | (go_at_call 12; (with_reducible refine (NA.out _).mono ?_); rintro e w2 ⟨v, rfl, hr, hb⟩; obtain ⟨A2, c2, rfl⟩ := Kd.R_slice hr; obtain ⟨_, hl2, hC2⟩ := Kd.R_reads' hr; have HW_2 := Aside0.mk (below_alloc (below_step HW_1.out hb) (.cells #[.int .i64 own, .int .i64 peer, .slice A2 l.length c2] 26)); have Ha_2 := Aside0.mk (Hd.new hC2 hl2 own peer); have PA := Aside0.mk (R_apart_lt hr); have WA := Aside0.mk ((below_step HW_1.out hb).size); obtain ⟨a0, a1, a2⟩ := (Ha_2.out).cells; have af := fun j : Nat => (Ha_2.out).frozen j; clear hr hC2 hl2 hb)
    | (go_at_call 12; (with_reducible refine (NB.out _).mono ?_); rintro e w3 ⟨v, rfl, hr, hb⟩; obtain ⟨A3, c3, rfl⟩ := Kd.R_slice hr; obtain ⟨_, hl3, hC3⟩ := Kd.R_reads' hr; have HW_3 := Aside0.mk (below_alloc (below_step HW_2.out hb) (.cells #[.int .i64 peer, .int .i64 own, .slice A3 l.length c3] 26)); have Hb_3 := Aside0.mk (Hd.new hC3 hl3 peer own); have PB := Aside0.mk (R_apart_lt hr); have AB := Aside0.mk (R_apart hr Ha_2.out.lt); have NE := Aside0.mk ((Ha_2.out.below hb).lt); have Ha_3 := Aside0.mk ((Ha_2.out.below hb).alloc (.cells #[.int .i64 peer, .int .i64 own, .slice A3 l.length c3] 26)); have WB := Aside0.mk ((below_step HW_2.out hb).size); clear a0 a1 a2 af; obtain ⟨a0, a1, a2⟩ := (Ha_3.out).cells; have af := fun j : Nat => (Ha_3.out).frozen j; obtain ⟨b0, b1, b2⟩ := (Hb_3.out).cells; have bf := fun j : Nat => (Hb_3.out).frozen j; have ne1 := Nat.ne_of_lt NE.out; have ne2 := Nat.ne_of_gt NE.out; clear hr hC3 hl3 hb)
    | (go_at_call 13; (with_reducible refine (SA.out _ _ _ Ha_3.out.row Ha_3.out.le).mono ?_); rintro e w4 ⟨v, rfl, hr, hb⟩; obtain ⟨A4, c4, rfl⟩ := Kd.R_slice hr; obtain ⟨_, hl4, hC4⟩ := Kd.R_reads' hr; have HW_4 := Aside0.mk (hdSet_below' (a' := own) (b' := peer) (v := .slice A4 la.length c4) (below_step HW_3.out hb) WA.out); have Ha_4 := Aside0.mk (Hd.store' (a' := own) (b' := peer) (Ha_3.out.below hb) hC4 (R_apart hr Ha_3.out.lt) hl4); have Hb_4 := Aside0.mk (Hd.far' (a' := own) (b' := peer) (v := .slice A4 la.length c4) (Hb_3.out.below hb) (Nat.ne_of_gt NE.out) AB.out); have PC := Aside0.mk (R_apart hr Hb_3.out.lt); clear a0 a1 a2 af b0 b1 b2 bf; obtain ⟨a0, a1, a2⟩ := (Ha_3.out.below hb).cells; have af := fun j : Nat => (Ha_3.out.below hb).frozen j; obtain ⟨b0, b1, b2⟩ := (Hb_3.out.below hb).cells; have bf := fun j : Nat => (Hb_3.out.below hb).frozen j; clear hr hC4 hl4 hb)
    | (go_at_call 13; (with_reducible refine (SB.out _ _ _ Hb_4.out.row Hb_4.out.le).mono ?_); rintro e w5 ⟨v, rfl, hr, hb⟩; obtain ⟨A5, c5, rfl⟩ := Kd.R_slice hr; obtain ⟨_, hl5, hC5⟩ := Kd.R_reads' hr; have HW_5 := Aside0.mk (hdSet_below' (a' := peer) (b' := own) (v := .slice A5 lb.length c5) (below_step HW_4.out hb) WB.out); have Hb_5 := Aside0.mk (Hd.store' (a' := peer) (b' := own) (Hb_4.out.below hb) hC5 (R_apart hr Hb_4.out.lt) hl5); have Ha_5 := Aside0.mk (Hd.far' (a' := peer) (b' := own) (v := .slice A5 lb.length c5) (Ha_4.out.below hb) (Nat.ne_of_lt NE.out) PC.out); clear a0 a1 a2 af b0 b1 b2 bf; obtain ⟨a0, a1, a2⟩ := (Ha_4.out.below hb).cells; have af := fun j : Nat => (Ha_4.out.below hb).frozen j; obtain ⟨b0, b1, b2⟩ := (Hb_4.out.below hb).cells; have bf := fun j : Nat => (Hb_4.out.below hb).frozen j; clear hr hC5 hl5 hb)
    | (go_at_call 14; (with_reducible refine (TX.out _).mono ?_); rintro e w6 ⟨rfl, hb⟩; have Ha_6 := Aside0.mk (Ha_5.out.below hb); have Hb_6 := Aside0.mk (Hb_5.out.below hb); have HW_6 := Aside0.mk (below_step HW_5.out hb); clear a0 a1 a2 af b0 b1 b2 bf; obtain ⟨a0, a1, a2⟩ := (Ha_6.out).cells; have af := fun j : Nat => (Ha_6.out).frozen j; obtain ⟨b0, b1, b2⟩ := (Hb_6.out).cells; have bf := fun j : Nat => (Hb_6.out).frozen j; clear hb)
    | (go_at_call 14; (with_reducible refine (TY.out _).mono ?_); rintro e w7 ⟨rfl, hb⟩; have Ha_7 := Aside0.mk (Ha_6.out.below hb); have Hb_7 := Aside0.mk (Hb_6.out.below hb); have HW_7 := Aside0.mk (below_step HW_6.out hb); clear a0 a1 a2 af b0 b1 b2 bf; obtain ⟨a0, a1, a2⟩ := (Ha_7.out).cells; have af := fun j : Nat => (Ha_7.out).frozen j; obtain ⟨b0, b1, b2⟩ := (Hb_7.out).cells; have bf := fun j : Nat => (Hb_7.out).frozen j; clear hb)
    | (go_at_call 15; (with_reducible refine (AA.out _ _ _ Ha_7.out.row Ha_7.out.le).mono ?_); rintro e w8 ⟨v, rfl, hr, hb⟩; obtain ⟨g8, c8, rfl, _, hs8, _⟩ := Kd.R_form hr (show 0 < lc.length by have := PL.out.1; have := HI.out.1; omega); obtain ⟨_, hl8, hC8⟩ := Kd.R_reads' hr; have L8 := Aside0.mk (hs8); have Ha_8 := Aside0.mk ((Ha_7.out.below hb).alloc (.cells #[.int .i64 own, .int .i64 peer, .slice (some ⟨g8, 0, none⟩) lc.length c8] 26)); have Hb_8 := Aside0.mk ((Hb_7.out.below hb).alloc (.cells #[.int .i64 own, .int .i64 peer, .slice (some ⟨g8, 0, none⟩) lc.length c8] 26)); have HW_8 := Aside0.mk (below_alloc (below_step HW_7.out hb) (.cells #[.int .i64 own, .int .i64 peer, .slice (some ⟨g8, 0, none⟩) lc.length c8] 26)); have Hc_8 := Aside0.mk (Hd.new hC8 hl8 own peer); clear a0 a1 a2 af b0 b1 b2 bf; obtain ⟨a0, a1, a2⟩ := (Ha_8.out).cells; have af := fun j : Nat => (Ha_8.out).frozen j; obtain ⟨b0, b1, b2⟩ := (Hb_8.out).cells; have bf := fun j : Nat => (Hb_8.out).frozen j; obtain ⟨c0, c1, c2⟩ := (Hc_8.out).cells; have cf := fun j : Nat => (Hc_8.out).frozen j; clear hr hC8 hl8 hb hs8)
    | (go_at_call 15; (with_reducible refine (AR.out _ _ _ Hb_8.out.row Hb_8.out.le).mono ?_); rintro e w9 ⟨v, rfl, hr, hb⟩; obtain ⟨g9, c9, rfl, _, hs9, _⟩ := Kd.R_form hr (show 0 < ld.length by have := PL.out.2; have := HI.out.1; omega); obtain ⟨_, hl9, hC9⟩ := Kd.R_reads' hr; have L9 := Aside0.mk (hs9); have Ha_9 := Aside0.mk ((Ha_8.out.below hb).alloc (.cells #[.int .i64 peer, .int .i64 own, .slice (some ⟨g9, 0, none⟩) ld.length c9] 26)); have Hb_9 := Aside0.mk ((Hb_8.out.below hb).alloc (.cells #[.int .i64 peer, .int .i64 own, .slice (some ⟨g9, 0, none⟩) ld.length c9] 26)); have Hc_9 := Aside0.mk ((Hc_8.out.below hb).alloc (.cells #[.int .i64 peer, .int .i64 own, .slice (some ⟨g9, 0, none⟩) ld.length c9] 26)); have HW_9 := Aside0.mk (below_alloc (below_step HW_8.out hb) (.cells #[.int .i64 peer, .int .i64 own, .slice (some ⟨g9, 0, none⟩) ld.length c9] 26)); have Hd_9 := Aside0.mk (Hd.new hC9 hl9 peer own); clear a0 a1 a2 af b0 b1 b2 bf c0 c1 c2 cf; obtain ⟨a0, a1, a2⟩ := (Ha_9.out).cells; have af := fun j : Nat => (Ha_9.out).frozen j; obtain ⟨b0, b1, b2⟩ := (Hb_9.out).cells; have bf := fun j : Nat => (Hb_9.out).frozen j; obtain ⟨c0, c1, c2⟩ := (Hc_9.out).cells; have cf := fun j : Nat => (Hc_9.out).frozen j; obtain ⟨d0, d1, d2⟩ := (Hd_9.out).cells; have df := fun j : Nat => (Hd_9.out).frozen j; clear hr hC9 hl9 hb hs9))
  have lc_ := Hc_9.out.lt
  have ld_ := Hd_9.out.lt
  generalize hW : w9.alloc (.cells #[.int .i64 peer, .int .i64 own, .slice (some ⟨g9, 0, none⟩) ld.length c9] 26) = W at Ha_9 Hb_9 Hc_9 Hd_9 HW_9 a0 a1 a2 b0 b1 b2 c0 c1 c2 d0 d1 d2 lc_ ld_ ⊢
  have lx := Nat.lt_trans L8.out lc_
  have ly := Nat.lt_trans L9.out ld_
  obtain ⟨ax, ex, px0, px1, px2, px3⟩ := at_T36 Hc_9.out.row i HI.out.1 PL.out.1
  cases ex
  rw [PC0.out] at px0 px1 px2 px3
  obtain ⟨ay, ey, qx0, qx1, qx2, qx3⟩ := at_T36 Hd_9.out.row i HI.out.1 PL.out.2
  cases ey
  rw [QC0.out] at qx0 qx1 qx2 qx3
  simp only [Addr.add_lit, Nat.zero_add] at px0 px1 px2 px3 qx0 qx1 qx2 qx3
  generalize w8.heap.size = gc at *
  generalize w9.heap.size = gd at *
  have lx' : g8 < W.heap.size + 1 := Nat.lt_succ_of_lt lx
  have ly' : g9 < W.heap.size + 1 := Nat.lt_succ_of_lt ly
  have lc' : gc < W.heap.size + 1 := Nat.lt_succ_of_lt lc_
  have ld' : gd < W.heap.size + 1 := Nat.lt_succ_of_lt ld_
  go_cut [31, 32] (fun v31 v32 wx => ∃ g1 g2 : Nat, v31 = .pointer (some ⟨g1, 0, none⟩) ∧ v32 = .pointer (some ⟨g2, 0, none⟩) ∧ Aside0 (wx.cell? ⟨g1, 0, none⟩ = some (.int .i64 2) ∧ wx.cell? ⟨g1, 1, none⟩ = some (.int .i64 y) ∧ wx.cell? ⟨g2, 0, none⟩ = some (.int .i64 1) ∧ wx.cell? ⟨g2, 1, none⟩ = some (.int .i64 y)) ∧ Aside0 (Below W.heap.size W wx))
  case first =>
    go_region
    · go_wp2_with (fail)
      go_meet
      exact ⟨_, _, rfl, rfl, ⟨by simp [go_sem], by simp [go_sem], by simp [go_sem], by simp [go_sem]⟩, ⟨below_drew1 (below_alloc (below_alloc (Below.refl _ _) _) _)⟩⟩
    · go_wp2_with (fail)
      go_meet
      exact ⟨_, _, rfl, rfl, ⟨by simp [go_sem], by simp [go_sem], by simp [go_sem], by simp [go_sem]⟩, ⟨below_drew1 (below_alloc (below_alloc (Below.refl _ _) _) _)⟩⟩
  case rest =>
    obtain ⟨g1, g2, rfl, rfl, HP, HX⟩ := hcut
    have Ha_10 := Aside0.mk (Ha_9.out.below HX.out)
    have Hb_10 := Aside0.mk (Hb_9.out.below HX.out)
    have Hc_10 := Aside0.mk (Hc_9.out.below HX.out)
    have Hd_10 := Aside0.mk (Hd_9.out.below HX.out)
    have HW_10 := Aside0.mk (below_step HW_9.out HX.out)
    clear a0 a1 a2 af b0 b1 b2 bf c0 c1 c2 cf d0 d1 d2 df px0 px1 px2 px3 qx0 qx1 qx2 qx3 lx ly lx' ly' lc_ ld_ lc' ld'
    obtain ⟨a0, a1, a2⟩ := Ha_10.out.cells
    go_wp2_with (first
      | (go_at_call 16; (with_reducible refine (CO.out _ _ _ Ha_10.out.row Ha_10.out.le).mono ?_); rintro e w11 ⟨rfl, hb⟩; have Ha_11 := Aside0.mk (Ha_10.out.below hb); have Hb_11 := Aside0.mk (Hb_10.out.below hb); have Hc_11 := Aside0.mk (Hc_10.out.below hb); have Hd_11 := Aside0.mk (Hd_10.out.below hb); have HW_11 := Aside0.mk (below_step HW_10.out hb); have z0 := cell_keep HP.out.1 hb; have z1 := cell_keep HP.out.2.1 hb; have z2 := cell_keep HP.out.2.2.1 hb; have z3 := cell_keep HP.out.2.2.2 hb; clear a0 a1 a2; obtain ⟨a0, a1, a2⟩ := Ha_11.out.cells; obtain ⟨b0, b1, b2⟩ := Hb_11.out.cells; obtain ⟨c0, c1, c2⟩ := Hc_11.out.cells; obtain ⟨d0, d1, d2⟩ := Hd_11.out.cells; clear hb)
      | (go_at_call 17; (with_reducible refine (BA.out _ _ _ _ _ Hc_11.out.row Hc_11.out.le Ha_11.out.row Ha_11.out.le).mono ?_); rintro e w12 ⟨rfl, hb⟩; have Ha_12 := Aside0.mk (Ha_11.out.below hb); have Hb_12 := Aside0.mk (Hb_11.out.below hb); have Hc_12 := Aside0.mk (Hc_11.out.below hb); have Hd_12 := Aside0.mk (Hd_11.out.below hb); have HW_12 := Aside0.mk (below_step HW_11.out hb); clear a0 a1 a2 b0 b1 b2 c0 c1 c2 d0 d1 d2; obtain ⟨b0, b1, b2⟩ := Hb_12.out.cells; obtain ⟨d0, d1, d2⟩ := Hd_12.out.cells; clear hb)
      | (go_at_call 17; (with_reducible refine (BB.out _ _ _ _ _ Hd_12.out.row Hd_12.out.le Hb_12.out.row Hb_12.out.le).mono ?_); rintro e w13 ⟨rfl, hb⟩; have Ha_13 := Aside0.mk (Ha_12.out.below hb); have Hb_13 := Aside0.mk (Hb_12.out.below hb); have Hc_13 := Aside0.mk (Hc_12.out.below hb); have Hd_13 := Aside0.mk (Hd_12.out.below hb); have HW_13 := Aside0.mk (below_step HW_12.out hb); clear b0 b1 b2 d0 d1 d2; clear hb))
    go_ret
    exact ⟨rfl, HW_13.out⟩
end Go.Proofs.Ythemnajgdoambaa.Tr
