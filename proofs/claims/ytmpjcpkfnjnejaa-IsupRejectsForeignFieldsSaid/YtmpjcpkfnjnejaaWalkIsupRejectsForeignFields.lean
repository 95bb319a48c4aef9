/- IsupRejectsForeignFields: a message with a field that is not its kind's is invalid. -/
-- Written by a program of this session (wip/tools/emit_foreign.py).
import Derived.Test.YtmpjcpkfnjnejaaIq11
import Derived.Test.YtmpjcpkfnjnejaaIq12
import Derived.Test.YtmpjcpkfnjnejaaIq13
import Derived.Test.YtmpjcpkfnjnejaaIb
namespace Go.Proofs.Ytmpjcpkfnjnejaa.Is
open Go.RowKit Go.Shelf Go.Proofs.YtmpjcpkfnjnejaaW.PrintWords Go.Proofs.YtmpjcpkfnjnejaaW.PrintLast Go.Proofs.YtmpjcpkfnjnejaaW.PrintMore Go.Proofs.Ytmpjcpkfnjnejaa.Iq
set_option linter.unusedVariables false
set_option linter.unusedSimpArgs false
theorem few_of (s : Sig) : ∃ b, crossbarref11_Few.f s.kind s.circuit s.ref s.hops s.cause s.called s.calling s.digits s.emergency s.reverse = some b := by
  unfold crossbarref11_Few.f
  split
  · split
    · exact ⟨_, rfl⟩
    · exact ⟨_, rfl⟩
  · exact ⟨_, rfl⟩
theorem few_sig (s : Sig) : ∃ b, ∀ W, Calls Try.prog 10 #[.agg s.cells] W fun e w' => e = .returned (.bool b) ∧ Below W.heap.size W w' := by
  obtain ⟨b, hb⟩ := few_of s
  exact ⟨b, fun W => crossbarref11_Few.calls _ _ _ _ _ _ _ _ _ _ b W hb⟩
theorem bad_check {s : Sig} (h : ¬ Iq.Clean s) (W : World) : Calls Try.prog 12 #[.agg s.cells] W fun e w' => e = .returned (.int .i64 110) ∧ Below W.heap.size W w' := by
  have e : checkS s = 110 := by
    unfold checkS
    rw [if_neg (fun hv => h ((valid_iff s).1 hv).2.2)]
  have := check_calls s W
  rwa [e] at this
theorem toL {x : ByteArray} (h : x.toList = []) : x = noStr := toList_nil.1 h
set_option maxHeartbeats 16000000 in
set_option maxRecDepth 100000 in
theorem foreign_one (k c r h ca : Int) (s5 s6 s7 : ByteArray) (b8 b9 : Bool) (hk : k = 1) (w : World) : Calls Try.prog 7 #[.agg #[.int .i64 k, .int .i64 c, .int .i64 r, .int .i64 h, .int .i64 ca, .string s5, .string s6, .string s7, .bool b8, .bool b9]] w fun e w' => e = .returned (.bool true) ∧ Below w.heap.size w w' := by
  subst hk
  have hk2 : (1 : Int) ≠ 2 := by decide
  have hk4 : (1 : Int) ≠ 4 := by decide
  have hk7 : (1 : Int) ≠ 7 := by decide
  obtain ⟨fb, FW0⟩ := few_sig ⟨1, c, r, h, ca, s5, s6, s7, b8, b9⟩
  have FW := Aside0.mk FW0
  clear FW0
  unfold Sig.cells at FW
  dsimp only at FW
  cases fb
  · go_enter Try.func7, Try.ntmps7
    go_wp2_with (first
      | (go_at_call 9; (with_reducible refine (sane_calls _).mono ?_); rintro e w1 ⟨rfl, hb⟩; have HS := Aside0.mk (At.below (S := w.heap.size) (s := ⟨1, c, r, h, ca, s5, s6, s7, b8, b9⟩) (w := w.alloc (.cells (Sig.cells ⟨1, c, r, h, ca, s5, s6, s7, b8, b9⟩) 23)) (hp_new rfl) hb); have HW := Aside0.mk (below_step (below_alloc (Below.refl w.heap.size w) _) hb); obtain ⟨t0, t1, t2, t3, t4, t5, t6, t7, t8, t9⟩ := HS.out.ten; clear hb)
      | (go_at_call 10; (with_reducible refine (FW.out _).mono ?_); rintro e w2 ⟨rfl, hb⟩; have HS2 := Aside0.mk (HS.out.below hb); have HW2 := Aside0.mk (below_step HW.out hb); clear t0 t1 t2 t3 t4 t5 t6 t7 t8 t9; obtain ⟨t0, t1, t2, t3, t4, t5, t6, t7, t8, t9⟩ := HS2.out.ten; clear hb))
    go_ret
    exact ⟨rfl, HW2.out⟩
  · by_cases qs7 : s7.toList = ([] : List UInt8)
    · have qs7b : (s7.toList != ([] : List UInt8)) = false := bne_eq_false_iff_eq.mpr qs7
      have qs7c : (s7.toList == ([] : List UInt8)) = true := beq_iff_eq.mpr qs7
      clear qs7
      by_cases qca : ca = 0
      · have qcab : (ca != 0) = false := bne_eq_false_iff_eq.mpr qca
        have qcac : (ca == 0) = true := beq_iff_eq.mpr qca
        clear qca
        cases b9
        · go_enter Try.func7, Try.ntmps7
          go_wp2_with (first
            | (go_at_call 9; (with_reducible refine (sane_calls _).mono ?_); rintro e w1 ⟨rfl, hb⟩; have HS := Aside0.mk (At.below (S := w.heap.size) (s := ⟨1, c, r, h, ca, s5, s6, s7, b8, false⟩) (w := w.alloc (.cells (Sig.cells ⟨1, c, r, h, ca, s5, s6, s7, b8, false⟩) 23)) (hp_new rfl) hb); have HW := Aside0.mk (below_step (below_alloc (Below.refl w.heap.size w) _) hb); obtain ⟨t0, t1, t2, t3, t4, t5, t6, t7, t8, t9⟩ := HS.out.ten; clear hb)
            | (go_at_call 10; (with_reducible refine (FW.out _).mono ?_); rintro e w2 ⟨rfl, hb⟩; have HS2 := Aside0.mk (HS.out.below hb); have HW2 := Aside0.mk (below_step HW.out hb); clear t0 t1 t2 t3 t4 t5 t6 t7 t8 t9; obtain ⟨t0, t1, t2, t3, t4, t5, t6, t7, t8, t9⟩ := HS2.out.ten; clear hb))
          go_ret
          exact ⟨rfl, HW2.out⟩
        · have CK := Aside0.mk (bad_check (s := ⟨1, c, r, h, ca, s5, s6, s7, b8, true⟩) (fun h => by have e : true = false := h.anm hk4; cases e))
          unfold Sig.cells at CK
          dsimp only at CK
          go_enter Try.func7, Try.ntmps7
          go_wp2_with (first
            | (go_at_call 9; (with_reducible refine (sane_calls _).mono ?_); rintro e w1 ⟨rfl, hb⟩; have HS := Aside0.mk (At.below (S := w.heap.size) (s := ⟨1, c, r, h, ca, s5, s6, s7, b8, true⟩) (w := w.alloc (.cells (Sig.cells ⟨1, c, r, h, ca, s5, s6, s7, b8, true⟩) 23)) (hp_new rfl) hb); have HW := Aside0.mk (below_step (below_alloc (Below.refl w.heap.size w) _) hb); obtain ⟨t0, t1, t2, t3, t4, t5, t6, t7, t8, t9⟩ := HS.out.ten; clear hb)
            | (go_at_call 10; (with_reducible refine (FW.out _).mono ?_); rintro e w2 ⟨rfl, hb⟩; have HS2 := Aside0.mk (HS.out.below hb); have HW2 := Aside0.mk (below_step HW.out hb); clear t0 t1 t2 t3 t4 t5 t6 t7 t8 t9; obtain ⟨t0, t1, t2, t3, t4, t5, t6, t7, t8, t9⟩ := HS2.out.ten; clear hb)
            | (go_at_call 12; (with_reducible refine (CK.out _).mono ?_); rintro e w3 ⟨rfl, hb⟩; have HW3 := Aside0.mk (below_step HW2.out hb); clear hb))
          go_ret
          exact ⟨rfl, HW3.out⟩
      · have qcab : (ca != 0) = true := bne_iff_ne.mpr qca
        have qcac : (ca == 0) = false := beq_eq_false_iff_ne.mpr qca
        have CK := Aside0.mk (bad_check (s := ⟨1, c, r, h, ca, s5, s6, s7, b8, b9⟩) (fun h => qca (h.rel hk7)))
        unfold Sig.cells at CK
        dsimp only at CK
        go_enter Try.func7, Try.ntmps7
        go_wp2_with (first
          | (go_at_call 9; (with_reducible refine (sane_calls _).mono ?_); rintro e w1 ⟨rfl, hb⟩; have HS := Aside0.mk (At.below (S := w.heap.size) (s := ⟨1, c, r, h, ca, s5, s6, s7, b8, b9⟩) (w := w.alloc (.cells (Sig.cells ⟨1, c, r, h, ca, s5, s6, s7, b8, b9⟩) 23)) (hp_new rfl) hb); have HW := Aside0.mk (below_step (below_alloc (Below.refl w.heap.size w) _) hb); obtain ⟨t0, t1, t2, t3, t4, t5, t6, t7, t8, t9⟩ := HS.out.ten; clear hb)
          | (go_at_call 10; (with_reducible refine (FW.out _).mono ?_); rintro e w2 ⟨rfl, hb⟩; have HS2 := Aside0.mk (HS.out.below hb); have HW2 := Aside0.mk (below_step HW.out hb); clear t0 t1 t2 t3 t4 t5 t6 t7 t8 t9; obtain ⟨t0, t1, t2, t3, t4, t5, t6, t7, t8, t9⟩ := HS2.out.ten; clear hb)
          | (go_at_call 12; (with_reducible refine (CK.out _).mono ?_); rintro e w3 ⟨rfl, hb⟩; have HW3 := Aside0.mk (below_step HW2.out hb); clear hb))
        go_ret
        exact ⟨rfl, HW3.out⟩
    · have qs7b : (s7.toList != ([] : List UInt8)) = true := bne_iff_ne.mpr qs7
      have qs7c : (s7.toList == ([] : List UInt8)) = false := beq_eq_false_iff_ne.mpr qs7
      have CK := Aside0.mk (bad_check (s := ⟨1, c, r, h, ca, s5, s6, s7, b8, b9⟩) (fun h => qs7 (toList_nil.2 (h.sam hk2))))
      unfold Sig.cells at CK
      dsimp only at CK
      go_enter Try.func7, Try.ntmps7
      go_wp2_with (first
        | (go_at_call 9; (with_reducible refine (sane_calls _).mono ?_); rintro e w1 ⟨rfl, hb⟩; have HS := Aside0.mk (At.below (S := w.heap.size) (s := ⟨1, c, r, h, ca, s5, s6, s7, b8, b9⟩) (w := w.alloc (.cells (Sig.cells ⟨1, c, r, h, ca, s5, s6, s7, b8, b9⟩) 23)) (hp_new rfl) hb); have HW := Aside0.mk (below_step (below_alloc (Below.refl w.heap.size w) _) hb); obtain ⟨t0, t1, t2, t3, t4, t5, t6, t7, t8, t9⟩ := HS.out.ten; clear hb)
        | (go_at_call 10; (with_reducible refine (FW.out _).mono ?_); rintro e w2 ⟨rfl, hb⟩; have HS2 := Aside0.mk (HS.out.below hb); have HW2 := Aside0.mk (below_step HW.out hb); clear t0 t1 t2 t3 t4 t5 t6 t7 t8 t9; obtain ⟨t0, t1, t2, t3, t4, t5, t6, t7, t8, t9⟩ := HS2.out.ten; clear hb)
        | (go_at_call 12; (with_reducible refine (CK.out _).mono ?_); rintro e w3 ⟨rfl, hb⟩; have HW3 := Aside0.mk (below_step HW2.out hb); clear hb))
      go_ret
      exact ⟨rfl, HW3.out⟩
set_option maxHeartbeats 16000000 in
set_option maxRecDepth 100000 in
theorem foreign_two (k c r h ca : Int) (s5 s6 s7 : ByteArray) (b8 b9 : Bool) (hk : k = 2) (w : World) : Calls Try.prog 7 #[.agg #[.int .i64 k, .int .i64 c, .int .i64 r, .int .i64 h, .int .i64 ca, .string s5, .string s6, .string s7, .bool b8, .bool b9]] w fun e w' => e = .returned (.bool true) ∧ Below w.heap.size w w' := by
  subst hk
  have hk1 : (2 : Int) ≠ 1 := by decide
  have hk4 : (2 : Int) ≠ 4 := by decide
  have hk7 : (2 : Int) ≠ 7 := by decide
  obtain ⟨fb, FW0⟩ := few_sig ⟨2, c, r, h, ca, s5, s6, s7, b8, b9⟩
  have FW := Aside0.mk FW0
  clear FW0
  unfold Sig.cells at FW
  dsimp only at FW
  cases fb
  · go_enter Try.func7, Try.ntmps7
    go_wp2_with (first
      | (go_at_call 9; (with_reducible refine (sane_calls _).mono ?_); rintro e w1 ⟨rfl, hb⟩; have HS := Aside0.mk (At.below (S := w.heap.size) (s := ⟨2, c, r, h, ca, s5, s6, s7, b8, b9⟩) (w := w.alloc (.cells (Sig.cells ⟨2, c, r, h, ca, s5, s6, s7, b8, b9⟩) 23)) (hp_new rfl) hb); have HW := Aside0.mk (below_step (below_alloc (Below.refl w.heap.size w) _) hb); obtain ⟨t0, t1, t2, t3, t4, t5, t6, t7, t8, t9⟩ := HS.out.ten; clear hb)
      | (go_at_call 10; (with_reducible refine (FW.out _).mono ?_); rintro e w2 ⟨rfl, hb⟩; have HS2 := Aside0.mk (HS.out.below hb); have HW2 := Aside0.mk (below_step HW.out hb); clear t0 t1 t2 t3 t4 t5 t6 t7 t8 t9; obtain ⟨t0, t1, t2, t3, t4, t5, t6, t7, t8, t9⟩ := HS2.out.ten; clear hb))
    go_ret
    exact ⟨rfl, HW2.out⟩
  · by_cases qca : ca = 0
    · have qcab : (ca != 0) = false := bne_eq_false_iff_eq.mpr qca
      have qcac : (ca == 0) = true := beq_iff_eq.mpr qca
      clear qca
      cases b9
      · by_cases qh : h = 0
        · have qhb : (h != 0) = false := bne_eq_false_iff_eq.mpr qh
          have qhc : (h == 0) = true := beq_iff_eq.mpr qh
          clear qh
          by_cases qs5 : s5.toList = ([] : List UInt8)
          · have qs5b : (s5.toList != ([] : List UInt8)) = false := bne_eq_false_iff_eq.mpr qs5
            have qs5c : (s5.toList == ([] : List UInt8)) = true := beq_iff_eq.mpr qs5
            clear qs5
            by_cases qs6 : s6.toList = ([] : List UInt8)
            · have qs6b : (s6.toList != ([] : List UInt8)) = false := bne_eq_false_iff_eq.mpr qs6
              have qs6c : (s6.toList == ([] : List UInt8)) = true := beq_iff_eq.mpr qs6
              clear qs6
              cases b8
              · go_enter Try.func7, Try.ntmps7
                go_wp2_with (first
                  | (go_at_call 9; (with_reducible refine (sane_calls _).mono ?_); rintro e w1 ⟨rfl, hb⟩; have HS := Aside0.mk (At.below (S := w.heap.size) (s := ⟨2, c, r, h, ca, s5, s6, s7, false, false⟩) (w := w.alloc (.cells (Sig.cells ⟨2, c, r, h, ca, s5, s6, s7, false, false⟩) 23)) (hp_new rfl) hb); have HW := Aside0.mk (below_step (below_alloc (Below.refl w.heap.size w) _) hb); obtain ⟨t0, t1, t2, t3, t4, t5, t6, t7, t8, t9⟩ := HS.out.ten; clear hb)
                  | (go_at_call 10; (with_reducible refine (FW.out _).mono ?_); rintro e w2 ⟨rfl, hb⟩; have HS2 := Aside0.mk (HS.out.below hb); have HW2 := Aside0.mk (below_step HW.out hb); clear t0 t1 t2 t3 t4 t5 t6 t7 t8 t9; obtain ⟨t0, t1, t2, t3, t4, t5, t6, t7, t8, t9⟩ := HS2.out.ten; clear hb))
                go_ret
                exact ⟨rfl, HW2.out⟩
              · have CK := Aside0.mk (bad_check (s := ⟨2, c, r, h, ca, s5, s6, s7, true, false⟩) (fun h => by have e : true = false := (h.iam hk1).2.2.2; cases e))
                unfold Sig.cells at CK
                dsimp only at CK
                go_enter Try.func7, Try.ntmps7
                go_wp2_with (first
                  | (go_at_call 9; (with_reducible refine (sane_calls _).mono ?_); rintro e w1 ⟨rfl, hb⟩; have HS := Aside0.mk (At.below (S := w.heap.size) (s := ⟨2, c, r, h, ca, s5, s6, s7, true, false⟩) (w := w.alloc (.cells (Sig.cells ⟨2, c, r, h, ca, s5, s6, s7, true, false⟩) 23)) (hp_new rfl) hb); have HW := Aside0.mk (below_step (below_alloc (Below.refl w.heap.size w) _) hb); obtain ⟨t0, t1, t2, t3, t4, t5, t6, t7, t8, t9⟩ := HS.out.ten; clear hb)
                  | (go_at_call 10; (with_reducible refine (FW.out _).mono ?_); rintro e w2 ⟨rfl, hb⟩; have HS2 := Aside0.mk (HS.out.below hb); have HW2 := Aside0.mk (below_step HW.out hb); clear t0 t1 t2 t3 t4 t5 t6 t7 t8 t9; obtain ⟨t0, t1, t2, t3, t4, t5, t6, t7, t8, t9⟩ := HS2.out.ten; clear hb)
                  | (go_at_call 12; (with_reducible refine (CK.out _).mono ?_); rintro e w3 ⟨rfl, hb⟩; have HW3 := Aside0.mk (below_step HW2.out hb); clear hb))
                go_ret
                exact ⟨rfl, HW3.out⟩
            · have qs6b : (s6.toList != ([] : List UInt8)) = true := bne_iff_ne.mpr qs6
              have qs6c : (s6.toList == ([] : List UInt8)) = false := beq_eq_false_iff_ne.mpr qs6
              have CK := Aside0.mk (bad_check (s := ⟨2, c, r, h, ca, s5, s6, s7, b8, false⟩) (fun h => qs6 (toList_nil.2 ((h.iam hk1).2.2.1))))
              unfold Sig.cells at CK
              dsimp only at CK
              go_enter Try.func7, Try.ntmps7
              go_wp2_with (first
                | (go_at_call 9; (with_reducible refine (sane_calls _).mono ?_); rintro e w1 ⟨rfl, hb⟩; have HS := Aside0.mk (At.below (S := w.heap.size) (s := ⟨2, c, r, h, ca, s5, s6, s7, b8, false⟩) (w := w.alloc (.cells (Sig.cells ⟨2, c, r, h, ca, s5, s6, s7, b8, false⟩) 23)) (hp_new rfl) hb); have HW := Aside0.mk (below_step (below_alloc (Below.refl w.heap.size w) _) hb); obtain ⟨t0, t1, t2, t3, t4, t5, t6, t7, t8, t9⟩ := HS.out.ten; clear hb)
                | (go_at_call 10; (with_reducible refine (FW.out _).mono ?_); rintro e w2 ⟨rfl, hb⟩; have HS2 := Aside0.mk (HS.out.below hb); have HW2 := Aside0.mk (below_step HW.out hb); clear t0 t1 t2 t3 t4 t5 t6 t7 t8 t9; obtain ⟨t0, t1, t2, t3, t4, t5, t6, t7, t8, t9⟩ := HS2.out.ten; clear hb)
                | (go_at_call 12; (with_reducible refine (CK.out _).mono ?_); rintro e w3 ⟨rfl, hb⟩; have HW3 := Aside0.mk (below_step HW2.out hb); clear hb))
              go_ret
              exact ⟨rfl, HW3.out⟩
          · have qs5b : (s5.toList != ([] : List UInt8)) = true := bne_iff_ne.mpr qs5
            have qs5c : (s5.toList == ([] : List UInt8)) = false := beq_eq_false_iff_ne.mpr qs5
            have CK := Aside0.mk (bad_check (s := ⟨2, c, r, h, ca, s5, s6, s7, b8, false⟩) (fun h => qs5 (toList_nil.2 ((h.iam hk1).2.1))))
            unfold Sig.cells at CK
            dsimp only at CK
            go_enter Try.func7, Try.ntmps7
            go_wp2_with (first
              | (go_at_call 9; (with_reducible refine (sane_calls _).mono ?_); rintro e w1 ⟨rfl, hb⟩; have HS := Aside0.mk (At.below (S := w.heap.size) (s := ⟨2, c, r, h, ca, s5, s6, s7, b8, false⟩) (w := w.alloc (.cells (Sig.cells ⟨2, c, r, h, ca, s5, s6, s7, b8, false⟩) 23)) (hp_new rfl) hb); have HW := Aside0.mk (below_step (below_alloc (Below.refl w.heap.size w) _) hb); obtain ⟨t0, t1, t2, t3, t4, t5, t6, t7, t8, t9⟩ := HS.out.ten; clear hb)
              | (go_at_call 10; (with_reducible refine (FW.out _).mono ?_); rintro e w2 ⟨rfl, hb⟩; have HS2 := Aside0.mk (HS.out.below hb); have HW2 := Aside0.mk (below_step HW.out hb); clear t0 t1 t2 t3 t4 t5 t6 t7 t8 t9; obtain ⟨t0, t1, t2, t3, t4, t5, t6, t7, t8, t9⟩ := HS2.out.ten; clear hb)
              | (go_at_call 12; (with_reducible refine (CK.out _).mono ?_); rintro e w3 ⟨rfl, hb⟩; have HW3 := Aside0.mk (below_step HW2.out hb); clear hb))
            go_ret
            exact ⟨rfl, HW3.out⟩
        · have qhb : (h != 0) = true := bne_iff_ne.mpr qh
          have qhc : (h == 0) = false := beq_eq_false_iff_ne.mpr qh
          have CK := Aside0.mk (bad_check (s := ⟨2, c, r, h, ca, s5, s6, s7, b8, false⟩) (fun h => qh ((h.iam hk1).1)))
          unfold Sig.cells at CK
          dsimp only at CK
          go_enter Try.func7, Try.ntmps7
          go_wp2_with (first
            | (go_at_call 9; (with_reducible refine (sane_calls _).mono ?_); rintro e w1 ⟨rfl, hb⟩; have HS := Aside0.mk (At.below (S := w.heap.size) (s := ⟨2, c, r, h, ca, s5, s6, s7, b8, false⟩) (w := w.alloc (.cells (Sig.cells ⟨2, c, r, h, ca, s5, s6, s7, b8, false⟩) 23)) (hp_new rfl) hb); have HW := Aside0.mk (below_step (below_alloc (Below.refl w.heap.size w) _) hb); obtain ⟨t0, t1, t2, t3, t4, t5, t6, t7, t8, t9⟩ := HS.out.ten; clear hb)
            | (go_at_call 10; (with_reducible refine (FW.out _).mono ?_); rintro e w2 ⟨rfl, hb⟩; have HS2 := Aside0.mk (HS.out.below hb); have HW2 := Aside0.mk (below_step HW.out hb); clear t0 t1 t2 t3 t4 t5 t6 t7 t8 t9; obtain ⟨t0, t1, t2, t3, t4, t5, t6, t7, t8, t9⟩ := HS2.out.ten; clear hb)
            | (go_at_call 12; (with_reducible refine (CK.out _).mono ?_); rintro e w3 ⟨rfl, hb⟩; have HW3 := Aside0.mk (below_step HW2.out hb); clear hb))
          go_ret
          exact ⟨rfl, HW3.out⟩
      · have CK := Aside0.mk (bad_check (s := ⟨2, c, r, h, ca, s5, s6, s7, b8, true⟩) (fun h => by have e : true = false := h.anm hk4; cases e))
        unfold Sig.cells at CK
        dsimp only at CK
        go_enter Try.func7, Try.ntmps7
        go_wp2_with (first
          | (go_at_call 9; (with_reducible refine (sane_calls _).mono ?_); rintro e w1 ⟨rfl, hb⟩; have HS := Aside0.mk (At.below (S := w.heap.size) (s := ⟨2, c, r, h, ca, s5, s6, s7, b8, true⟩) (w := w.alloc (.cells (Sig.cells ⟨2, c, r, h, ca, s5, s6, s7, b8, true⟩) 23)) (hp_new rfl) hb); have HW := Aside0.mk (below_step (below_alloc (Below.refl w.heap.size w) _) hb); obtain ⟨t0, t1, t2, t3, t4, t5, t6, t7, t8, t9⟩ := HS.out.ten; clear hb)
          | (go_at_call 10; (with_reducible refine (FW.out _).mono ?_); rintro e w2 ⟨rfl, hb⟩; have HS2 := Aside0.mk (HS.out.below hb); have HW2 := Aside0.mk (below_step HW.out hb); clear t0 t1 t2 t3 t4 t5 t6 t7 t8 t9; obtain ⟨t0, t1, t2, t3, t4, t5, t6, t7, t8, t9⟩ := HS2.out.ten; clear hb)
          | (go_at_call 12; (with_reducible refine (CK.out _).mono ?_); rintro e w3 ⟨rfl, hb⟩; have HW3 := Aside0.mk (below_step HW2.out hb); clear hb))
        go_ret
        exact ⟨rfl, HW3.out⟩
    · have qcab : (ca != 0) = true := bne_iff_ne.mpr qca
      have qcac : (ca == 0) = false := beq_eq_false_iff_ne.mpr qca
      have CK := Aside0.mk (bad_check (s := ⟨2, c, r, h, ca, s5, s6, s7, b8, b9⟩) (fun h => qca (h.rel hk7)))
      unfold Sig.cells at CK
      dsimp only at CK
      go_enter Try.func7, Try.ntmps7
      go_wp2_with (first
        | (go_at_call 9; (with_reducible refine (sane_calls _).mono ?_); rintro e w1 ⟨rfl, hb⟩; have HS := Aside0.mk (At.below (S := w.heap.size) (s := ⟨2, c, r, h, ca, s5, s6, s7, b8, b9⟩) (w := w.alloc (.cells (Sig.cells ⟨2, c, r, h, ca, s5, s6, s7, b8, b9⟩) 23)) (hp_new rfl) hb); have HW := Aside0.mk (below_step (below_alloc (Below.refl w.heap.size w) _) hb); obtain ⟨t0, t1, t2, t3, t4, t5, t6, t7, t8, t9⟩ := HS.out.ten; clear hb)
        | (go_at_call 10; (with_reducible refine (FW.out _).mono ?_); rintro e w2 ⟨rfl, hb⟩; have HS2 := Aside0.mk (HS.out.below hb); have HW2 := Aside0.mk (below_step HW.out hb); clear t0 t1 t2 t3 t4 t5 t6 t7 t8 t9; obtain ⟨t0, t1, t2, t3, t4, t5, t6, t7, t8, t9⟩ := HS2.out.ten; clear hb)
        | (go_at_call 12; (with_reducible refine (CK.out _).mono ?_); rintro e w3 ⟨rfl, hb⟩; have HW3 := Aside0.mk (below_step HW2.out hb); clear hb))
      go_ret
      exact ⟨rfl, HW3.out⟩
set_option maxHeartbeats 16000000 in
set_option maxRecDepth 100000 in
theorem foreign_four (k c r h ca : Int) (s5 s6 s7 : ByteArray) (b8 b9 : Bool) (hk : k = 4) (w : World) : Calls Try.prog 7 #[.agg #[.int .i64 k, .int .i64 c, .int .i64 r, .int .i64 h, .int .i64 ca, .string s5, .string s6, .string s7, .bool b8, .bool b9]] w fun e w' => e = .returned (.bool true) ∧ Below w.heap.size w w' := by
  subst hk
  have hk1 : (4 : Int) ≠ 1 := by decide
  have hk2 : (4 : Int) ≠ 2 := by decide
  have hk7 : (4 : Int) ≠ 7 := by decide
  obtain ⟨fb, FW0⟩ := few_sig ⟨4, c, r, h, ca, s5, s6, s7, b8, b9⟩
  have FW := Aside0.mk FW0
  clear FW0
  unfold Sig.cells at FW
  dsimp only at FW
  cases fb
  · go_enter Try.func7, Try.ntmps7
    go_wp2_with (first
      | (go_at_call 9; (with_reducible refine (sane_calls _).mono ?_); rintro e w1 ⟨rfl, hb⟩; have HS := Aside0.mk (At.below (S := w.heap.size) (s := ⟨4, c, r, h, ca, s5, s6, s7, b8, b9⟩) (w := w.alloc (.cells (Sig.cells ⟨4, c, r, h, ca, s5, s6, s7, b8, b9⟩) 23)) (hp_new rfl) hb); have HW := Aside0.mk (below_step (below_alloc (Below.refl w.heap.size w) _) hb); obtain ⟨t0, t1, t2, t3, t4, t5, t6, t7, t8, t9⟩ := HS.out.ten; clear hb)
      | (go_at_call 10; (with_reducible refine (FW.out _).mono ?_); rintro e w2 ⟨rfl, hb⟩; have HS2 := Aside0.mk (HS.out.below hb); have HW2 := Aside0.mk (below_step HW.out hb); clear t0 t1 t2 t3 t4 t5 t6 t7 t8 t9; obtain ⟨t0, t1, t2, t3, t4, t5, t6, t7, t8, t9⟩ := HS2.out.ten; clear hb))
    go_ret
    exact ⟨rfl, HW2.out⟩
  · by_cases qs7 : s7.toList = ([] : List UInt8)
    · have qs7b : (s7.toList != ([] : List UInt8)) = false := bne_eq_false_iff_eq.mpr qs7
      have qs7c : (s7.toList == ([] : List UInt8)) = true := beq_iff_eq.mpr qs7
      clear qs7
      by_cases qca : ca = 0
      · have qcab : (ca != 0) = false := bne_eq_false_iff_eq.mpr qca
        have qcac : (ca == 0) = true := beq_iff_eq.mpr qca
        clear qca
        by_cases qh : h = 0
        · have qhb : (h != 0) = false := bne_eq_false_iff_eq.mpr qh
          have qhc : (h == 0) = true := beq_iff_eq.mpr qh
          clear qh
          by_cases qs5 : s5.toList = ([] : List UInt8)
          · have qs5b : (s5.toList != ([] : List UInt8)) = false := bne_eq_false_iff_eq.mpr qs5
            have qs5c : (s5.toList == ([] : List UInt8)) = true := beq_iff_eq.mpr qs5
            clear qs5
            by_cases qs6 : s6.toList = ([] : List UInt8)
            · have qs6b : (s6.toList != ([] : List UInt8)) = false := bne_eq_false_iff_eq.mpr qs6
              have qs6c : (s6.toList == ([] : List UInt8)) = true := beq_iff_eq.mpr qs6
              clear qs6
              cases b8
              · go_enter Try.func7, Try.ntmps7
                go_wp2_with (first
                  | (go_at_call 9; (with_reducible refine (sane_calls _).mono ?_); rintro e w1 ⟨rfl, hb⟩; have HS := Aside0.mk (At.below (S := w.heap.size) (s := ⟨4, c, r, h, ca, s5, s6, s7, false, b9⟩) (w := w.alloc (.cells (Sig.cells ⟨4, c, r, h, ca, s5, s6, s7, false, b9⟩) 23)) (hp_new rfl) hb); have HW := Aside0.mk (below_step (below_alloc (Below.refl w.heap.size w) _) hb); obtain ⟨t0, t1, t2, t3, t4, t5, t6, t7, t8, t9⟩ := HS.out.ten; clear hb)
                  | (go_at_call 10; (with_reducible refine (FW.out _).mono ?_); rintro e w2 ⟨rfl, hb⟩; have HS2 := Aside0.mk (HS.out.below hb); have HW2 := Aside0.mk (below_step HW.out hb); clear t0 t1 t2 t3 t4 t5 t6 t7 t8 t9; obtain ⟨t0, t1, t2, t3, t4, t5, t6, t7, t8, t9⟩ := HS2.out.ten; clear hb))
                go_ret
                exact ⟨rfl, HW2.out⟩
              · have CK := Aside0.mk (bad_check (s := ⟨4, c, r, h, ca, s5, s6, s7, true, b9⟩) (fun h => by have e : true = false := (h.iam hk1).2.2.2; cases e))
                unfold Sig.cells at CK
                dsimp only at CK
                go_enter Try.func7, Try.ntmps7
                go_wp2_with (first
                  | (go_at_call 9; (with_reducible refine (sane_calls _).mono ?_); rintro e w1 ⟨rfl, hb⟩; have HS := Aside0.mk (At.below (S := w.heap.size) (s := ⟨4, c, r, h, ca, s5, s6, s7, true, b9⟩) (w := w.alloc (.cells (Sig.cells ⟨4, c, r, h, ca, s5, s6, s7, true, b9⟩) 23)) (hp_new rfl) hb); have HW := Aside0.mk (below_step (below_alloc (Below.refl w.heap.size w) _) hb); obtain ⟨t0, t1, t2, t3, t4, t5, t6, t7, t8, t9⟩ := HS.out.ten; clear hb)
                  | (go_at_call 10; (with_reducible refine (FW.out _).mono ?_); rintro e w2 ⟨rfl, hb⟩; have HS2 := Aside0.mk (HS.out.below hb); have HW2 := Aside0.mk (below_step HW.out hb); clear t0 t1 t2 t3 t4 t5 t6 t7 t8 t9; obtain ⟨t0, t1, t2, t3, t4, t5, t6, t7, t8, t9⟩ := HS2.out.ten; clear hb)
                  | (go_at_call 12; (with_reducible refine (CK.out _).mono ?_); rintro e w3 ⟨rfl, hb⟩; have HW3 := Aside0.mk (below_step HW2.out hb); clear hb))
                go_ret
                exact ⟨rfl, HW3.out⟩
            · have qs6b : (s6.toList != ([] : List UInt8)) = true := bne_iff_ne.mpr qs6
              have qs6c : (s6.toList == ([] : List UInt8)) = false := beq_eq_false_iff_ne.mpr qs6
              have CK := Aside0.mk (bad_check (s := ⟨4, c, r, h, ca, s5, s6, s7, b8, b9⟩) (fun h => qs6 (toList_nil.2 ((h.iam hk1).2.2.1))))
              unfold Sig.cells at CK
              dsimp only at CK
              go_enter Try.func7, Try.ntmps7
              go_wp2_with (first
                | (go_at_call 9; (with_reducible refine (sane_calls _).mono ?_); rintro e w1 ⟨rfl, hb⟩; have HS := Aside0.mk (At.below (S := w.heap.size) (s := ⟨4, c, r, h, ca, s5, s6, s7, b8, b9⟩) (w := w.alloc (.cells (Sig.cells ⟨4, c, r, h, ca, s5, s6, s7, b8, b9⟩) 23)) (hp_new rfl) hb); have HW := Aside0.mk (below_step (below_alloc (Below.refl w.heap.size w) _) hb); obtain ⟨t0, t1, t2, t3, t4, t5, t6, t7, t8, t9⟩ := HS.out.ten; clear hb)
                | (go_at_call 10; (with_reducible refine (FW.out _).mono ?_); rintro e w2 ⟨rfl, hb⟩; have HS2 := Aside0.mk (HS.out.below hb); have HW2 := Aside0.mk (below_step HW.out hb); clear t0 t1 t2 t3 t4 t5 t6 t7 t8 t9; obtain ⟨t0, t1, t2, t3, t4, t5, t6, t7, t8, t9⟩ := HS2.out.ten; clear hb)
                | (go_at_call 12; (with_reducible refine (CK.out _).mono ?_); rintro e w3 ⟨rfl, hb⟩; have HW3 := Aside0.mk (below_step HW2.out hb); clear hb))
              go_ret
              exact ⟨rfl, HW3.out⟩
          · have qs5b : (s5.toList != ([] : List UInt8)) = true := bne_iff_ne.mpr qs5
            have qs5c : (s5.toList == ([] : List UInt8)) = false := beq_eq_false_iff_ne.mpr qs5
            have CK := Aside0.mk (bad_check (s := ⟨4, c, r, h, ca, s5, s6, s7, b8, b9⟩) (fun h => qs5 (toList_nil.2 ((h.iam hk1).2.1))))
            unfold Sig.cells at CK
            dsimp only at CK
            go_enter Try.func7, Try.ntmps7
            go_wp2_with (first
              | (go_at_call 9; (with_reducible refine (sane_calls _).mono ?_); rintro e w1 ⟨rfl, hb⟩; have HS := Aside0.mk (At.below (S := w.heap.size) (s := ⟨4, c, r, h, ca, s5, s6, s7, b8, b9⟩) (w := w.alloc (.cells (Sig.cells ⟨4, c, r, h, ca, s5, s6, s7, b8, b9⟩) 23)) (hp_new rfl) hb); have HW := Aside0.mk (below_step (below_alloc (Below.refl w.heap.size w) _) hb); obtain ⟨t0, t1, t2, t3, t4, t5, t6, t7, t8, t9⟩ := HS.out.ten; clear hb)
              | (go_at_call 10; (with_reducible refine (FW.out _).mono ?_); rintro e w2 ⟨rfl, hb⟩; have HS2 := Aside0.mk (HS.out.below hb); have HW2 := Aside0.mk (below_step HW.out hb); clear t0 t1 t2 t3 t4 t5 t6 t7 t8 t9; obtain ⟨t0, t1, t2, t3, t4, t5, t6, t7, t8, t9⟩ := HS2.out.ten; clear hb)
              | (go_at_call 12; (with_reducible refine (CK.out _).mono ?_); rintro e w3 ⟨rfl, hb⟩; have HW3 := Aside0.mk (below_step HW2.out hb); clear hb))
            go_ret
            exact ⟨rfl, HW3.out⟩
        · have qhb : (h != 0) = true := bne_iff_ne.mpr qh
          have qhc : (h == 0) = false := beq_eq_false_iff_ne.mpr qh
          have CK := Aside0.mk (bad_check (s := ⟨4, c, r, h, ca, s5, s6, s7, b8, b9⟩) (fun h => qh ((h.iam hk1).1)))
          unfold Sig.cells at CK
          dsimp only at CK
          go_enter Try.func7, Try.ntmps7
          go_wp2_with (first
            | (go_at_call 9; (with_reducible refine (sane_calls _).mono ?_); rintro e w1 ⟨rfl, hb⟩; have HS := Aside0.mk (At.below (S := w.heap.size) (s := ⟨4, c, r, h, ca, s5, s6, s7, b8, b9⟩) (w := w.alloc (.cells (Sig.cells ⟨4, c, r, h, ca, s5, s6, s7, b8, b9⟩) 23)) (hp_new rfl) hb); have HW := Aside0.mk (below_step (below_alloc (Below.refl w.heap.size w) _) hb); obtain ⟨t0, t1, t2, t3, t4, t5, t6, t7, t8, t9⟩ := HS.out.ten; clear hb)
            | (go_at_call 10; (with_reducible refine (FW.out _).mono ?_); rintro e w2 ⟨rfl, hb⟩; have HS2 := Aside0.mk (HS.out.below hb); have HW2 := Aside0.mk (below_step HW.out hb); clear t0 t1 t2 t3 t4 t5 t6 t7 t8 t9; obtain ⟨t0, t1, t2, t3, t4, t5, t6, t7, t8, t9⟩ := HS2.out.ten; clear hb)
            | (go_at_call 12; (with_reducible refine (CK.out _).mono ?_); rintro e w3 ⟨rfl, hb⟩; have HW3 := Aside0.mk (below_step HW2.out hb); clear hb))
          go_ret
          exact ⟨rfl, HW3.out⟩
      · have qcab : (ca != 0) = true := bne_iff_ne.mpr qca
        have qcac : (ca == 0) = false := beq_eq_false_iff_ne.mpr qca
        have CK := Aside0.mk (bad_check (s := ⟨4, c, r, h, ca, s5, s6, s7, b8, b9⟩) (fun h => qca (h.rel hk7)))
        unfold Sig.cells at CK
        dsimp only at CK
        go_enter Try.func7, Try.ntmps7
        go_wp2_with (first
          | (go_at_call 9; (with_reducible refine (sane_calls _).mono ?_); rintro e w1 ⟨rfl, hb⟩; have HS := Aside0.mk (At.below (S := w.heap.size) (s := ⟨4, c, r, h, ca, s5, s6, s7, b8, b9⟩) (w := w.alloc (.cells (Sig.cells ⟨4, c, r, h, ca, s5, s6, s7, b8, b9⟩) 23)) (hp_new rfl) hb); have HW := Aside0.mk (below_step (below_alloc (Below.refl w.heap.size w) _) hb); obtain ⟨t0, t1, t2, t3, t4, t5, t6, t7, t8, t9⟩ := HS.out.ten; clear hb)
          | (go_at_call 10; (with_reducible refine (FW.out _).mono ?_); rintro e w2 ⟨rfl, hb⟩; have HS2 := Aside0.mk (HS.out.below hb); have HW2 := Aside0.mk (below_step HW.out hb); clear t0 t1 t2 t3 t4 t5 t6 t7 t8 t9; obtain ⟨t0, t1, t2, t3, t4, t5, t6, t7, t8, t9⟩ := HS2.out.ten; clear hb)
          | (go_at_call 12; (with_reducible refine (CK.out _).mono ?_); rintro e w3 ⟨rfl, hb⟩; have HW3 := Aside0.mk (below_step HW2.out hb); clear hb))
        go_ret
        exact ⟨rfl, HW3.out⟩
    · have qs7b : (s7.toList != ([] : List UInt8)) = true := bne_iff_ne.mpr qs7
      have qs7c : (s7.toList == ([] : List UInt8)) = false := beq_eq_false_iff_ne.mpr qs7
      have CK := Aside0.mk (bad_check (s := ⟨4, c, r, h, ca, s5, s6, s7, b8, b9⟩) (fun h => qs7 (toList_nil.2 (h.sam hk2))))
      unfold Sig.cells at CK
      dsimp only at CK
      go_enter Try.func7, Try.ntmps7
      go_wp2_with (first
        | (go_at_call 9; (with_reducible refine (sane_calls _).mono ?_); rintro e w1 ⟨rfl, hb⟩; have HS := Aside0.mk (At.below (S := w.heap.size) (s := ⟨4, c, r, h, ca, s5, s6, s7, b8, b9⟩) (w := w.alloc (.cells (Sig.cells ⟨4, c, r, h, ca, s5, s6, s7, b8, b9⟩) 23)) (hp_new rfl) hb); have HW := Aside0.mk (below_step (below_alloc (Below.refl w.heap.size w) _) hb); obtain ⟨t0, t1, t2, t3, t4, t5, t6, t7, t8, t9⟩ := HS.out.ten; clear hb)
        | (go_at_call 10; (with_reducible refine (FW.out _).mono ?_); rintro e w2 ⟨rfl, hb⟩; have HS2 := Aside0.mk (HS.out.below hb); have HW2 := Aside0.mk (below_step HW.out hb); clear t0 t1 t2 t3 t4 t5 t6 t7 t8 t9; obtain ⟨t0, t1, t2, t3, t4, t5, t6, t7, t8, t9⟩ := HS2.out.ten; clear hb)
        | (go_at_call 12; (with_reducible refine (CK.out _).mono ?_); rintro e w3 ⟨rfl, hb⟩; have HW3 := Aside0.mk (below_step HW2.out hb); clear hb))
      go_ret
      exact ⟨rfl, HW3.out⟩
set_option maxHeartbeats 16000000 in
set_option maxRecDepth 100000 in
theorem foreign_seven (k c r h ca : Int) (s5 s6 s7 : ByteArray) (b8 b9 : Bool) (hk : k = 7) (w : World) : Calls Try.prog 7 #[.agg #[.int .i64 k, .int .i64 c, .int .i64 r, .int .i64 h, .int .i64 ca, .string s5, .string s6, .string s7, .bool b8, .bool b9]] w fun e w' => e = .returned (.bool true) ∧ Below w.heap.size w w' := by
  subst hk
  have hk1 : (7 : Int) ≠ 1 := by decide
  have hk2 : (7 : Int) ≠ 2 := by decide
  have hk4 : (7 : Int) ≠ 4 := by decide
  obtain ⟨fb, FW0⟩ := few_sig ⟨7, c, r, h, ca, s5, s6, s7, b8, b9⟩
  have FW := Aside0.mk FW0
  clear FW0
  unfold Sig.cells at FW
  dsimp only at FW
  cases fb
  · go_enter Try.func7, Try.ntmps7
    go_wp2_with (first
      | (go_at_call 9; (with_reducible refine (sane_calls _).mono ?_); rintro e w1 ⟨rfl, hb⟩; have HS := Aside0.mk (At.below (S := w.heap.size) (s := ⟨7, c, r, h, ca, s5, s6, s7, b8, b9⟩) (w := w.alloc (.cells (Sig.cells ⟨7, c, r, h, ca, s5, s6, s7, b8, b9⟩) 23)) (hp_new rfl) hb); have HW := Aside0.mk (below_step (below_alloc (Below.refl w.heap.size w) _) hb); obtain ⟨t0, t1, t2, t3, t4, t5, t6, t7, t8, t9⟩ := HS.out.ten; clear hb)
      | (go_at_call 10; (with_reducible refine (FW.out _).mono ?_); rintro e w2 ⟨rfl, hb⟩; have HS2 := Aside0.mk (HS.out.below hb); have HW2 := Aside0.mk (below_step HW.out hb); clear t0 t1 t2 t3 t4 t5 t6 t7 t8 t9; obtain ⟨t0, t1, t2, t3, t4, t5, t6, t7, t8, t9⟩ := HS2.out.ten; clear hb))
    go_ret
    exact ⟨rfl, HW2.out⟩
  · by_cases qs7 : s7.toList = ([] : List UInt8)
    · have qs7b : (s7.toList != ([] : List UInt8)) = false := bne_eq_false_iff_eq.mpr qs7
      have qs7c : (s7.toList == ([] : List UInt8)) = true := beq_iff_eq.mpr qs7
      clear qs7
      cases b9
      · by_cases qh : h = 0
        · have qhb : (h != 0) = false := bne_eq_false_iff_eq.mpr qh
          have qhc : (h == 0) = true := beq_iff_eq.mpr qh
          clear qh
          by_cases qs5 : s5.toList = ([] : List UInt8)
          · have qs5b : (s5.toList != ([] : List UInt8)) = false := bne_eq_false_iff_eq.mpr qs5
            have qs5c : (s5.toList == ([] : List UInt8)) = true := beq_iff_eq.mpr qs5
            clear qs5
            by_cases qs6 : s6.toList = ([] : List UInt8)
            · have qs6b : (s6.toList != ([] : List UInt8)) = false := bne_eq_false_iff_eq.mpr qs6
              have qs6c : (s6.toList == ([] : List UInt8)) = true := beq_iff_eq.mpr qs6
              clear qs6
              cases b8
              · go_enter Try.func7, Try.ntmps7
                go_wp2_with (first
                  | (go_at_call 9; (with_reducible refine (sane_calls _).mono ?_); rintro e w1 ⟨rfl, hb⟩; have HS := Aside0.mk (At.below (S := w.heap.size) (s := ⟨7, c, r, h, ca, s5, s6, s7, false, false⟩) (w := w.alloc (.cells (Sig.cells ⟨7, c, r, h, ca, s5, s6, s7, false, false⟩) 23)) (hp_new rfl) hb); have HW := Aside0.mk (below_step (below_alloc (Below.refl w.heap.size w) _) hb); obtain ⟨t0, t1, t2, t3, t4, t5, t6, t7, t8, t9⟩ := HS.out.ten; clear hb)
                  | (go_at_call 10; (with_reducible refine (FW.out _).mono ?_); rintro e w2 ⟨rfl, hb⟩; have HS2 := Aside0.mk (HS.out.below hb); have HW2 := Aside0.mk (below_step HW.out hb); clear t0 t1 t2 t3 t4 t5 t6 t7 t8 t9; obtain ⟨t0, t1, t2, t3, t4, t5, t6, t7, t8, t9⟩ := HS2.out.ten; clear hb))
                go_ret
                exact ⟨rfl, HW2.out⟩
              · have CK := Aside0.mk (bad_check (s := ⟨7, c, r, h, ca, s5, s6, s7, true, false⟩) (fun h => by have e : true = false := (h.iam hk1).2.2.2; cases e))
                unfold Sig.cells at CK
                dsimp only at CK
                go_enter Try.func7, Try.ntmps7
                go_wp2_with (first
                  | (go_at_call 9; (with_reducible refine (sane_calls _).mono ?_); rintro e w1 ⟨rfl, hb⟩; have HS := Aside0.mk (At.below (S := w.heap.size) (s := ⟨7, c, r, h, ca, s5, s6, s7, true, false⟩) (w := w.alloc (.cells (Sig.cells ⟨7, c, r, h, ca, s5, s6, s7, true, false⟩) 23)) (hp_new rfl) hb); have HW := Aside0.mk (below_step (below_alloc (Below.refl w.heap.size w) _) hb); obtain ⟨t0, t1, t2, t3, t4, t5, t6, t7, t8, t9⟩ := HS.out.ten; clear hb)
                  | (go_at_call 10; (with_reducible refine (FW.out _).mono ?_); rintro e w2 ⟨rfl, hb⟩; have HS2 := Aside0.mk (HS.out.below hb); have HW2 := Aside0.mk (below_step HW.out hb); clear t0 t1 t2 t3 t4 t5 t6 t7 t8 t9; obtain ⟨t0, t1, t2, t3, t4, t5, t6, t7, t8, t9⟩ := HS2.out.ten; clear hb)
                  | (go_at_call 12; (with_reducible refine (CK.out _).mono ?_); rintro e w3 ⟨rfl, hb⟩; have HW3 := Aside0.mk (below_step HW2.out hb); clear hb))
                go_ret
                exact ⟨rfl, HW3.out⟩
            · have qs6b : (s6.toList != ([] : List UInt8)) = true := bne_iff_ne.mpr qs6
              have qs6c : (s6.toList == ([] : List UInt8)) = false := beq_eq_false_iff_ne.mpr qs6
              have CK := Aside0.mk (bad_check (s := ⟨7, c, r, h, ca, s5, s6, s7, b8, false⟩) (fun h => qs6 (toList_nil.2 ((h.iam hk1).2.2.1))))
              unfold Sig.cells at CK
              dsimp only at CK
              go_enter Try.func7, Try.ntmps7
              go_wp2_with (first
                | (go_at_call 9; (with_reducible refine (sane_calls _).mono ?_); rintro e w1 ⟨rfl, hb⟩; have HS := Aside0.mk (At.below (S := w.heap.size) (s := ⟨7, c, r, h, ca, s5, s6, s7, b8, false⟩) (w := w.alloc (.cells (Sig.cells ⟨7, c, r, h, ca, s5, s6, s7, b8, false⟩) 23)) (hp_new rfl) hb); have HW := Aside0.mk (below_step (below_alloc (Below.refl w.heap.size w) _) hb); obtain ⟨t0, t1, t2, t3, t4, t5, t6, t7, t8, t9⟩ := HS.out.ten; clear hb)
                | (go_at_call 10; (with_reducible refine (FW.out _).mono ?_); rintro e w2 ⟨rfl, hb⟩; have HS2 := Aside0.mk (HS.out.below hb); have HW2 := Aside0.mk (below_step HW.out hb); clear t0 t1 t2 t3 t4 t5 t6 t7 t8 t9; obtain ⟨t0, t1, t2, t3, t4, t5, t6, t7, t8, t9⟩ := HS2.out.ten; clear hb)
                | (go_at_call 12; (with_reducible refine (CK.out _).mono ?_); rintro e w3 ⟨rfl, hb⟩; have HW3 := Aside0.mk (below_step HW2.out hb); clear hb))
              go_ret
              exact ⟨rfl, HW3.out⟩
          · have qs5b : (s5.toList != ([] : List UInt8)) = true := bne_iff_ne.mpr qs5
            have qs5c : (s5.toList == ([] : List UInt8)) = false := beq_eq_false_iff_ne.mpr qs5
            have CK := Aside0.mk (bad_check (s := ⟨7, c, r, h, ca, s5, s6, s7, b8, false⟩) (fun h => qs5 (toList_nil.2 ((h.iam hk1).2.1))))
            unfold Sig.cells at CK
            dsimp only at CK
            go_enter Try.func7, Try.ntmps7
            go_wp2_with (first
              | (go_at_call 9; (with_reducible refine (sane_calls _).mono ?_); rintro e w1 ⟨rfl, hb⟩; have HS := Aside0.mk (At.below (S := w.heap.size) (s := ⟨7, c, r, h, ca, s5, s6, s7, b8, false⟩) (w := w.alloc (.cells (Sig.cells ⟨7, c, r, h, ca, s5, s6, s7, b8, false⟩) 23)) (hp_new rfl) hb); have HW := Aside0.mk (below_step (below_alloc (Below.refl w.heap.size w) _) hb); obtain ⟨t0, t1, t2, t3, t4, t5, t6, t7, t8, t9⟩ := HS.out.ten; clear hb)
              | (go_at_call 10; (with_reducible refine (FW.out _).mono ?_); rintro e w2 ⟨rfl, hb⟩; have HS2 := Aside0.mk (HS.out.below hb); have HW2 := Aside0.mk (below_step HW.out hb); clear t0 t1 t2 t3 t4 t5 t6 t7 t8 t9; obtain ⟨t0, t1, t2, t3, t4, t5, t6, t7, t8, t9⟩ := HS2.out.ten; clear hb)
              | (go_at_call 12; (with_reducible refine (CK.out _).mono ?_); rintro e w3 ⟨rfl, hb⟩; have HW3 := Aside0.mk (below_step HW2.out hb); clear hb))
            go_ret
            exact ⟨rfl, HW3.out⟩
        · have qhb : (h != 0) = true := bne_iff_ne.mpr qh
          have qhc : (h == 0) = false := beq_eq_false_iff_ne.mpr qh
          have CK := Aside0.mk (bad_check (s := ⟨7, c, r, h, ca, s5, s6, s7, b8, false⟩) (fun h => qh ((h.iam hk1).1)))
          unfold Sig.cells at CK
          dsimp only at CK
          go_enter Try.func7, Try.ntmps7
          go_wp2_with (first
            | (go_at_call 9; (with_reducible refine (sane_calls _).mono ?_); rintro e w1 ⟨rfl, hb⟩; have HS := Aside0.mk (At.below (S := w.heap.size) (s := ⟨7, c, r, h, ca, s5, s6, s7, b8, false⟩) (w := w.alloc (.cells (Sig.cells ⟨7, c, r, h, ca, s5, s6, s7, b8, false⟩) 23)) (hp_new rfl) hb); have HW := Aside0.mk (below_step (below_alloc (Below.refl w.heap.size w) _) hb); obtain ⟨t0, t1, t2, t3, t4, t5, t6, t7, t8, t9⟩ := HS.out.ten; clear hb)
            | (go_at_call 10; (with_reducible refine (FW.out _).mono ?_); rintro e w2 ⟨rfl, hb⟩; have HS2 := Aside0.mk (HS.out.below hb); have HW2 := Aside0.mk (below_step HW.out hb); clear t0 t1 t2 t3 t4 t5 t6 t7 t8 t9; obtain ⟨t0, t1, t2, t3, t4, t5, t6, t7, t8, t9⟩ := HS2.out.ten; clear hb)
            | (go_at_call 12; (with_reducible refine (CK.out _).mono ?_); rintro e w3 ⟨rfl, hb⟩; have HW3 := Aside0.mk (below_step HW2.out hb); clear hb))
          go_ret
          exact ⟨rfl, HW3.out⟩
      · have CK := Aside0.mk (bad_check (s := ⟨7, c, r, h, ca, s5, s6, s7, b8, true⟩) (fun h => by have e : true = false := h.anm hk4; cases e))
        unfold Sig.cells at CK
        dsimp only at CK
        go_enter Try.func7, Try.ntmps7
        go_wp2_with (first
          | (go_at_call 9; (with_reducible refine (sane_calls _).mono ?_); rintro e w1 ⟨rfl, hb⟩; have HS := Aside0.mk (At.below (S := w.heap.size) (s := ⟨7, c, r, h, ca, s5, s6, s7, b8, true⟩) (w := w.alloc (.cells (Sig.cells ⟨7, c, r, h, ca, s5, s6, s7, b8, true⟩) 23)) (hp_new rfl) hb); have HW := Aside0.mk (below_step (below_alloc (Below.refl w.heap.size w) _) hb); obtain ⟨t0, t1, t2, t3, t4, t5, t6, t7, t8, t9⟩ := HS.out.ten; clear hb)
          | (go_at_call 10; (with_reducible refine (FW.out _).mono ?_); rintro e w2 ⟨rfl, hb⟩; have HS2 := Aside0.mk (HS.out.below hb); have HW2 := Aside0.mk (below_step HW.out hb); clear t0 t1 t2 t3 t4 t5 t6 t7 t8 t9; obtain ⟨t0, t1, t2, t3, t4, t5, t6, t7, t8, t9⟩ := HS2.out.ten; clear hb)
          | (go_at_call 12; (with_reducible refine (CK.out _).mono ?_); rintro e w3 ⟨rfl, hb⟩; have HW3 := Aside0.mk (below_step HW2.out hb); clear hb))
        go_ret
        exact ⟨rfl, HW3.out⟩
    · have qs7b : (s7.toList != ([] : List UInt8)) = true := bne_iff_ne.mpr qs7
      have qs7c : (s7.toList == ([] : List UInt8)) = false := beq_eq_false_iff_ne.mpr qs7
      have CK := Aside0.mk (bad_check (s := ⟨7, c, r, h, ca, s5, s6, s7, b8, b9⟩) (fun h => qs7 (toList_nil.2 (h.sam hk2))))
      unfold Sig.cells at CK
      dsimp only at CK
      go_enter Try.func7, Try.ntmps7
      go_wp2_with (first
        | (go_at_call 9; (with_reducible refine (sane_calls _).mono ?_); rintro e w1 ⟨rfl, hb⟩; have HS := Aside0.mk (At.below (S := w.heap.size) (s := ⟨7, c, r, h, ca, s5, s6, s7, b8, b9⟩) (w := w.alloc (.cells (Sig.cells ⟨7, c, r, h, ca, s5, s6, s7, b8, b9⟩) 23)) (hp_new rfl) hb); have HW := Aside0.mk (below_step (below_alloc (Below.refl w.heap.size w) _) hb); obtain ⟨t0, t1, t2, t3, t4, t5, t6, t7, t8, t9⟩ := HS.out.ten; clear hb)
        | (go_at_call 10; (with_reducible refine (FW.out _).mono ?_); rintro e w2 ⟨rfl, hb⟩; have HS2 := Aside0.mk (HS.out.below hb); have HW2 := Aside0.mk (below_step HW.out hb); clear t0 t1 t2 t3 t4 t5 t6 t7 t8 t9; obtain ⟨t0, t1, t2, t3, t4, t5, t6, t7, t8, t9⟩ := HS2.out.ten; clear hb)
        | (go_at_call 12; (with_reducible refine (CK.out _).mono ?_); rintro e w3 ⟨rfl, hb⟩; have HW3 := Aside0.mk (below_step HW2.out hb); clear hb))
      go_ret
      exact ⟨rfl, HW3.out⟩
set_option maxHeartbeats 16000000 in
set_option maxRecDepth 100000 in
theorem foreign_big (k c r h ca : Int) (s5 s6 s7 : ByteArray) (b8 b9 : Bool) (hk : 8 < k) (w : World) : Calls Try.prog 7 #[.agg #[.int .i64 k, .int .i64 c, .int .i64 r, .int .i64 h, .int .i64 ca, .string s5, .string s6, .string s7, .bool b8, .bool b9]] w fun e w' => e = .returned (.bool true) ∧ Below w.heap.size w w' := by
  have hk1 : k ≠ 1 := by omega
  have hkb1 : (k != 1) = true := bne_iff_ne.mpr hk1
  have hk2 : k ≠ 2 := by omega
  have hkb2 : (k != 2) = true := bne_iff_ne.mpr hk2
  have hk4 : k ≠ 4 := by omega
  have hkb4 : (k != 4) = true := bne_iff_ne.mpr hk4
  have hk7 : k ≠ 7 := by omega
  have hkb7 : (k != 7) = true := bne_iff_ne.mpr hk7
  have hk8 : 8 < k := hk
  have hkg : decide (k > 8) = true := decide_eq_true hk
  obtain ⟨fb, FW0⟩ := few_sig ⟨k, c, r, h, ca, s5, s6, s7, b8, b9⟩
  have FW := Aside0.mk FW0
  clear FW0
  unfold Sig.cells at FW
  dsimp only at FW
  cases fb
  · go_enter Try.func7, Try.ntmps7
    go_wp2_with (first
      | (go_at_call 9; (with_reducible refine (sane_calls _).mono ?_); rintro e w1 ⟨rfl, hb⟩; have HS := Aside0.mk (At.below (S := w.heap.size) (s := ⟨k, c, r, h, ca, s5, s6, s7, b8, b9⟩) (w := w.alloc (.cells (Sig.cells ⟨k, c, r, h, ca, s5, s6, s7, b8, b9⟩) 23)) (hp_new rfl) hb); have HW := Aside0.mk (below_step (below_alloc (Below.refl w.heap.size w) _) hb); obtain ⟨t0, t1, t2, t3, t4, t5, t6, t7, t8, t9⟩ := HS.out.ten; clear hb)
      | (go_at_call 10; (with_reducible refine (FW.out _).mono ?_); rintro e w2 ⟨rfl, hb⟩; have HS2 := Aside0.mk (HS.out.below hb); have HW2 := Aside0.mk (below_step HW.out hb); clear t0 t1 t2 t3 t4 t5 t6 t7 t8 t9; obtain ⟨t0, t1, t2, t3, t4, t5, t6, t7, t8, t9⟩ := HS2.out.ten; clear hb))
    go_ret
    exact ⟨rfl, HW2.out⟩
  · by_cases qs7 : s7.toList = ([] : List UInt8)
    · have qs7b : (s7.toList != ([] : List UInt8)) = false := bne_eq_false_iff_eq.mpr qs7
      have qs7c : (s7.toList == ([] : List UInt8)) = true := beq_iff_eq.mpr qs7
      clear qs7
      by_cases qca : ca = 0
      · have qcab : (ca != 0) = false := bne_eq_false_iff_eq.mpr qca
        have qcac : (ca == 0) = true := beq_iff_eq.mpr qca
        clear qca
        cases b9
        · by_cases qr : r = 0
          · have qrb : (r != 0) = false := bne_eq_false_iff_eq.mpr qr
            have qrc : (r == 0) = true := beq_iff_eq.mpr qr
            clear qr
            by_cases qh : h = 0
            · have qhb : (h != 0) = false := bne_eq_false_iff_eq.mpr qh
              have qhc : (h == 0) = true := beq_iff_eq.mpr qh
              clear qh
              by_cases qs5 : s5.toList = ([] : List UInt8)
              · have qs5b : (s5.toList != ([] : List UInt8)) = false := bne_eq_false_iff_eq.mpr qs5
                have qs5c : (s5.toList == ([] : List UInt8)) = true := beq_iff_eq.mpr qs5
                clear qs5
                by_cases qs6 : s6.toList = ([] : List UInt8)
                · have qs6b : (s6.toList != ([] : List UInt8)) = false := bne_eq_false_iff_eq.mpr qs6
                  have qs6c : (s6.toList == ([] : List UInt8)) = true := beq_iff_eq.mpr qs6
                  clear qs6
                  cases b8
                  · go_enter Try.func7, Try.ntmps7
                    go_wp2_with (first
                      | (go_at_call 9; (with_reducible refine (sane_calls _).mono ?_); rintro e w1 ⟨rfl, hb⟩; have HS := Aside0.mk (At.below (S := w.heap.size) (s := ⟨k, c, r, h, ca, s5, s6, s7, false, false⟩) (w := w.alloc (.cells (Sig.cells ⟨k, c, r, h, ca, s5, s6, s7, false, false⟩) 23)) (hp_new rfl) hb); have HW := Aside0.mk (below_step (below_alloc (Below.refl w.heap.size w) _) hb); obtain ⟨t0, t1, t2, t3, t4, t5, t6, t7, t8, t9⟩ := HS.out.ten; clear hb)
                      | (go_at_call 10; (with_reducible refine (FW.out _).mono ?_); rintro e w2 ⟨rfl, hb⟩; have HS2 := Aside0.mk (HS.out.below hb); have HW2 := Aside0.mk (below_step HW.out hb); clear t0 t1 t2 t3 t4 t5 t6 t7 t8 t9; obtain ⟨t0, t1, t2, t3, t4, t5, t6, t7, t8, t9⟩ := HS2.out.ten; clear hb))
                    go_ret
                    exact ⟨rfl, HW2.out⟩
                  · have CK := Aside0.mk (bad_check (s := ⟨k, c, r, h, ca, s5, s6, s7, true, false⟩) (fun h => by have e : true = false := (h.iam hk1).2.2.2; cases e))
                    unfold Sig.cells at CK
                    dsimp only at CK
                    go_enter Try.func7, Try.ntmps7
                    go_wp2_with (first
                      | (go_at_call 9; (with_reducible refine (sane_calls _).mono ?_); rintro e w1 ⟨rfl, hb⟩; have HS := Aside0.mk (At.below (S := w.heap.size) (s := ⟨k, c, r, h, ca, s5, s6, s7, true, false⟩) (w := w.alloc (.cells (Sig.cells ⟨k, c, r, h, ca, s5, s6, s7, true, false⟩) 23)) (hp_new rfl) hb); have HW := Aside0.mk (below_step (below_alloc (Below.refl w.heap.size w) _) hb); obtain ⟨t0, t1, t2, t3, t4, t5, t6, t7, t8, t9⟩ := HS.out.ten; clear hb)
                      | (go_at_call 10; (with_reducible refine (FW.out _).mono ?_); rintro e w2 ⟨rfl, hb⟩; have HS2 := Aside0.mk (HS.out.below hb); have HW2 := Aside0.mk (below_step HW.out hb); clear t0 t1 t2 t3 t4 t5 t6 t7 t8 t9; obtain ⟨t0, t1, t2, t3, t4, t5, t6, t7, t8, t9⟩ := HS2.out.ten; clear hb)
                      | (go_at_call 12; (with_reducible refine (CK.out _).mono ?_); rintro e w3 ⟨rfl, hb⟩; have HW3 := Aside0.mk (below_step HW2.out hb); clear hb))
                    go_ret
                    exact ⟨rfl, HW3.out⟩
                · have qs6b : (s6.toList != ([] : List UInt8)) = true := bne_iff_ne.mpr qs6
                  have qs6c : (s6.toList == ([] : List UInt8)) = false := beq_eq_false_iff_ne.mpr qs6
                  have CK := Aside0.mk (bad_check (s := ⟨k, c, r, h, ca, s5, s6, s7, b8, false⟩) (fun h => qs6 (toList_nil.2 ((h.iam hk1).2.2.1))))
                  unfold Sig.cells at CK
                  dsimp only at CK
                  go_enter Try.func7, Try.ntmps7
                  go_wp2_with (first
                    | (go_at_call 9; (with_reducible refine (sane_calls _).mono ?_); rintro e w1 ⟨rfl, hb⟩; have HS := Aside0.mk (At.below (S := w.heap.size) (s := ⟨k, c, r, h, ca, s5, s6, s7, b8, false⟩) (w := w.alloc (.cells (Sig.cells ⟨k, c, r, h, ca, s5, s6, s7, b8, false⟩) 23)) (hp_new rfl) hb); have HW := Aside0.mk (below_step (below_alloc (Below.refl w.heap.size w) _) hb); obtain ⟨t0, t1, t2, t3, t4, t5, t6, t7, t8, t9⟩ := HS.out.ten; clear hb)
                    | (go_at_call 10; (with_reducible refine (FW.out _).mono ?_); rintro e w2 ⟨rfl, hb⟩; have HS2 := Aside0.mk (HS.out.below hb); have HW2 := Aside0.mk (below_step HW.out hb); clear t0 t1 t2 t3 t4 t5 t6 t7 t8 t9; obtain ⟨t0, t1, t2, t3, t4, t5, t6, t7, t8, t9⟩ := HS2.out.ten; clear hb)
                    | (go_at_call 12; (with_reducible refine (CK.out _).mono ?_); rintro e w3 ⟨rfl, hb⟩; have HW3 := Aside0.mk (below_step HW2.out hb); clear hb))
                  go_ret
                  exact ⟨rfl, HW3.out⟩
              · have qs5b : (s5.toList != ([] : List UInt8)) = true := bne_iff_ne.mpr qs5
                have qs5c : (s5.toList == ([] : List UInt8)) = false := beq_eq_false_iff_ne.mpr qs5
                have CK := Aside0.mk (bad_check (s := ⟨k, c, r, h, ca, s5, s6, s7, b8, false⟩) (fun h => qs5 (toList_nil.2 ((h.iam hk1).2.1))))
                unfold Sig.cells at CK
                dsimp only at CK
                go_enter Try.func7, Try.ntmps7
                go_wp2_with (first
                  | (go_at_call 9; (with_reducible refine (sane_calls _).mono ?_); rintro e w1 ⟨rfl, hb⟩; have HS := Aside0.mk (At.below (S := w.heap.size) (s := ⟨k, c, r, h, ca, s5, s6, s7, b8, false⟩) (w := w.alloc (.cells (Sig.cells ⟨k, c, r, h, ca, s5, s6, s7, b8, false⟩) 23)) (hp_new rfl) hb); have HW := Aside0.mk (below_step (below_alloc (Below.refl w.heap.size w) _) hb); obtain ⟨t0, t1, t2, t3, t4, t5, t6, t7, t8, t9⟩ := HS.out.ten; clear hb)
                  | (go_at_call 10; (with_reducible refine (FW.out _).mono ?_); rintro e w2 ⟨rfl, hb⟩; have HS2 := Aside0.mk (HS.out.below hb); have HW2 := Aside0.mk (below_step HW.out hb); clear t0 t1 t2 t3 t4 t5 t6 t7 t8 t9; obtain ⟨t0, t1, t2, t3, t4, t5, t6, t7, t8, t9⟩ := HS2.out.ten; clear hb)
                  | (go_at_call 12; (with_reducible refine (CK.out _).mono ?_); rintro e w3 ⟨rfl, hb⟩; have HW3 := Aside0.mk (below_step HW2.out hb); clear hb))
                go_ret
                exact ⟨rfl, HW3.out⟩
            · have qhb : (h != 0) = true := bne_iff_ne.mpr qh
              have qhc : (h == 0) = false := beq_eq_false_iff_ne.mpr qh
              have CK := Aside0.mk (bad_check (s := ⟨k, c, r, h, ca, s5, s6, s7, b8, false⟩) (fun h => qh ((h.iam hk1).1)))
              unfold Sig.cells at CK
              dsimp only at CK
              go_enter Try.func7, Try.ntmps7
              go_wp2_with (first
                | (go_at_call 9; (with_reducible refine (sane_calls _).mono ?_); rintro e w1 ⟨rfl, hb⟩; have HS := Aside0.mk (At.below (S := w.heap.size) (s := ⟨k, c, r, h, ca, s5, s6, s7, b8, false⟩) (w := w.alloc (.cells (Sig.cells ⟨k, c, r, h, ca, s5, s6, s7, b8, false⟩) 23)) (hp_new rfl) hb); have HW := Aside0.mk (below_step (below_alloc (Below.refl w.heap.size w) _) hb); obtain ⟨t0, t1, t2, t3, t4, t5, t6, t7, t8, t9⟩ := HS.out.ten; clear hb)
                | (go_at_call 10; (with_reducible refine (FW.out _).mono ?_); rintro e w2 ⟨rfl, hb⟩; have HS2 := Aside0.mk (HS.out.below hb); have HW2 := Aside0.mk (below_step HW.out hb); clear t0 t1 t2 t3 t4 t5 t6 t7 t8 t9; obtain ⟨t0, t1, t2, t3, t4, t5, t6, t7, t8, t9⟩ := HS2.out.ten; clear hb)
                | (go_at_call 12; (with_reducible refine (CK.out _).mono ?_); rintro e w3 ⟨rfl, hb⟩; have HW3 := Aside0.mk (below_step HW2.out hb); clear hb))
              go_ret
              exact ⟨rfl, HW3.out⟩
          · have qrb : (r != 0) = true := bne_iff_ne.mpr qr
            have qrc : (r == 0) = false := beq_eq_false_iff_ne.mpr qr
            have CK := Aside0.mk (bad_check (s := ⟨k, c, r, h, ca, s5, s6, s7, b8, false⟩) (fun h => qr (h.big hk8)))
            unfold Sig.cells at CK
            dsimp only at CK
            go_enter Try.func7, Try.ntmps7
            go_wp2_with (first
              | (go_at_call 9; (with_reducible refine (sane_calls _).mono ?_); rintro e w1 ⟨rfl, hb⟩; have HS := Aside0.mk (At.below (S := w.heap.size) (s := ⟨k, c, r, h, ca, s5, s6, s7, b8, false⟩) (w := w.alloc (.cells (Sig.cells ⟨k, c, r, h, ca, s5, s6, s7, b8, false⟩) 23)) (hp_new rfl) hb); have HW := Aside0.mk (below_step (below_alloc (Below.refl w.heap.size w) _) hb); obtain ⟨t0, t1, t2, t3, t4, t5, t6, t7, t8, t9⟩ := HS.out.ten; clear hb)
              | (go_at_call 10; (with_reducible refine (FW.out _).mono ?_); rintro e w2 ⟨rfl, hb⟩; have HS2 := Aside0.mk (HS.out.below hb); have HW2 := Aside0.mk (below_step HW.out hb); clear t0 t1 t2 t3 t4 t5 t6 t7 t8 t9; obtain ⟨t0, t1, t2, t3, t4, t5, t6, t7, t8, t9⟩ := HS2.out.ten; clear hb)
              | (go_at_call 12; (with_reducible refine (CK.out _).mono ?_); rintro e w3 ⟨rfl, hb⟩; have HW3 := Aside0.mk (below_step HW2.out hb); clear hb))
            go_ret
            exact ⟨rfl, HW3.out⟩
        · have CK := Aside0.mk (bad_check (s := ⟨k, c, r, h, ca, s5, s6, s7, b8, true⟩) (fun h => by have e : true = false := h.anm hk4; cases e))
          unfold Sig.cells at CK
          dsimp only at CK
          go_enter Try.func7, Try.ntmps7
          go_wp2_with (first
            | (go_at_call 9; (with_reducible refine (sane_calls _).mono ?_); rintro e w1 ⟨rfl, hb⟩; have HS := Aside0.mk (At.below (S := w.heap.size) (s := ⟨k, c, r, h, ca, s5, s6, s7, b8, true⟩) (w := w.alloc (.cells (Sig.cells ⟨k, c, r, h, ca, s5, s6, s7, b8, true⟩) 23)) (hp_new rfl) hb); have HW := Aside0.mk (below_step (below_alloc (Below.refl w.heap.size w) _) hb); obtain ⟨t0, t1, t2, t3, t4, t5, t6, t7, t8, t9⟩ := HS.out.ten; clear hb)
            | (go_at_call 10; (with_reducible refine (FW.out _).mono ?_); rintro e w2 ⟨rfl, hb⟩; have HS2 := Aside0.mk (HS.out.below hb); have HW2 := Aside0.mk (below_step HW.out hb); clear t0 t1 t2 t3 t4 t5 t6 t7 t8 t9; obtain ⟨t0, t1, t2, t3, t4, t5, t6, t7, t8, t9⟩ := HS2.out.ten; clear hb)
            | (go_at_call 12; (with_reducible refine (CK.out _).mono ?_); rintro e w3 ⟨rfl, hb⟩; have HW3 := Aside0.mk (below_step HW2.out hb); clear hb))
          go_ret
          exact ⟨rfl, HW3.out⟩
      · have qcab : (ca != 0) = true := bne_iff_ne.mpr qca
        have qcac : (ca == 0) = false := beq_eq_false_iff_ne.mpr qca
        have CK := Aside0.mk (bad_check (s := ⟨k, c, r, h, ca, s5, s6, s7, b8, b9⟩) (fun h => qca (h.rel hk7)))
        unfold Sig.cells at CK
        dsimp only at CK
        go_enter Try.func7, Try.ntmps7
        go_wp2_with (first
          | (go_at_call 9; (with_reducible refine (sane_calls _).mono ?_); rintro e w1 ⟨rfl, hb⟩; have HS := Aside0.mk (At.below (S := w.heap.size) (s := ⟨k, c, r, h, ca, s5, s6, s7, b8, b9⟩) (w := w.alloc (.cells (Sig.cells ⟨k, c, r, h, ca, s5, s6, s7, b8, b9⟩) 23)) (hp_new rfl) hb); have HW := Aside0.mk (below_step (below_alloc (Below.refl w.heap.size w) _) hb); obtain ⟨t0, t1, t2, t3, t4, t5, t6, t7, t8, t9⟩ := HS.out.ten; clear hb)
          | (go_at_call 10; (with_reducible refine (FW.out _).mono ?_); rintro e w2 ⟨rfl, hb⟩; have HS2 := Aside0.mk (HS.out.below hb); have HW2 := Aside0.mk (below_step HW.out hb); clear t0 t1 t2 t3 t4 t5 t6 t7 t8 t9; obtain ⟨t0, t1, t2, t3, t4, t5, t6, t7, t8, t9⟩ := HS2.out.ten; clear hb)
          | (go_at_call 12; (with_reducible refine (CK.out _).mono ?_); rintro e w3 ⟨rfl, hb⟩; have HW3 := Aside0.mk (below_step HW2.out hb); clear hb))
        go_ret
        exact ⟨rfl, HW3.out⟩
    · have qs7b : (s7.toList != ([] : List UInt8)) = true := bne_iff_ne.mpr qs7
      have qs7c : (s7.toList == ([] : List UInt8)) = false := beq_eq_false_iff_ne.mpr qs7
      have CK := Aside0.mk (bad_check (s := ⟨k, c, r, h, ca, s5, s6, s7, b8, b9⟩) (fun h => qs7 (toList_nil.2 (h.sam hk2))))
      unfold Sig.cells at CK
      dsimp only at CK
      go_enter Try.func7, Try.ntmps7
      go_wp2_with (first
        | (go_at_call 9; (with_reducible refine (sane_calls _).mono ?_); rintro e w1 ⟨rfl, hb⟩; have HS := Aside0.mk (At.below (S := w.heap.size) (s := ⟨k, c, r, h, ca, s5, s6, s7, b8, b9⟩) (w := w.alloc (.cells (Sig.cells ⟨k, c, r, h, ca, s5, s6, s7, b8, b9⟩) 23)) (hp_new rfl) hb); have HW := Aside0.mk (below_step (below_alloc (Below.refl w.heap.size w) _) hb); obtain ⟨t0, t1, t2, t3, t4, t5, t6, t7, t8, t9⟩ := HS.out.ten; clear hb)
        | (go_at_call 10; (with_reducible refine (FW.out _).mono ?_); rintro e w2 ⟨rfl, hb⟩; have HS2 := Aside0.mk (HS.out.below hb); have HW2 := Aside0.mk (below_step HW.out hb); clear t0 t1 t2 t3 t4 t5 t6 t7 t8 t9; obtain ⟨t0, t1, t2, t3, t4, t5, t6, t7, t8, t9⟩ := HS2.out.ten; clear hb)
        | (go_at_call 12; (with_reducible refine (CK.out _).mono ?_); rintro e w3 ⟨rfl, hb⟩; have HW3 := Aside0.mk (below_step HW2.out hb); clear hb))
      go_ret
      exact ⟨rfl, HW3.out⟩
set_option maxHeartbeats 16000000 in
set_option maxRecDepth 100000 in
theorem foreign_rest (k c r h ca : Int) (s5 s6 s7 : ByteArray) (b8 b9 : Bool) (hk : k ≤ 8 ∧ k ≠ 1 ∧ k ≠ 2 ∧ k ≠ 4 ∧ k ≠ 7) (w : World) : Calls Try.prog 7 #[.agg #[.int .i64 k, .int .i64 c, .int .i64 r, .int .i64 h, .int .i64 ca, .string s5, .string s6, .string s7, .bool b8, .bool b9]] w fun e w' => e = .returned (.bool true) ∧ Below w.heap.size w w' := by
  have hk1 : k ≠ 1 := by omega
  have hkb1 : (k != 1) = true := bne_iff_ne.mpr hk1
  have hk2 : k ≠ 2 := by omega
  have hkb2 : (k != 2) = true := bne_iff_ne.mpr hk2
  have hk4 : k ≠ 4 := by omega
  have hkb4 : (k != 4) = true := bne_iff_ne.mpr hk4
  have hk7 : k ≠ 7 := by omega
  have hkb7 : (k != 7) = true := bne_iff_ne.mpr hk7
  have hkg : decide (k > 8) = false := decide_eq_false (by omega)
  obtain ⟨fb, FW0⟩ := few_sig ⟨k, c, r, h, ca, s5, s6, s7, b8, b9⟩
  have FW := Aside0.mk FW0
  clear FW0
  unfold Sig.cells at FW
  dsimp only at FW
  cases fb
  · go_enter Try.func7, Try.ntmps7
    go_wp2_with (first
      | (go_at_call 9; (with_reducible refine (sane_calls _).mono ?_); rintro e w1 ⟨rfl, hb⟩; have HS := Aside0.mk (At.below (S := w.heap.size) (s := ⟨k, c, r, h, ca, s5, s6, s7, b8, b9⟩) (w := w.alloc (.cells (Sig.cells ⟨k, c, r, h, ca, s5, s6, s7, b8, b9⟩) 23)) (hp_new rfl) hb); have HW := Aside0.mk (below_step (below_alloc (Below.refl w.heap.size w) _) hb); obtain ⟨t0, t1, t2, t3, t4, t5, t6, t7, t8, t9⟩ := HS.out.ten; clear hb)
      | (go_at_call 10; (with_reducible refine (FW.out _).mono ?_); rintro e w2 ⟨rfl, hb⟩; have HS2 := Aside0.mk (HS.out.below hb); have HW2 := Aside0.mk (below_step HW.out hb); clear t0 t1 t2 t3 t4 t5 t6 t7 t8 t9; obtain ⟨t0, t1, t2, t3, t4, t5, t6, t7, t8, t9⟩ := HS2.out.ten; clear hb))
    go_ret
    exact ⟨rfl, HW2.out⟩
  · by_cases qs7 : s7.toList = ([] : List UInt8)
    · have qs7b : (s7.toList != ([] : List UInt8)) = false := bne_eq_false_iff_eq.mpr qs7
      have qs7c : (s7.toList == ([] : List UInt8)) = true := beq_iff_eq.mpr qs7
      clear qs7
      by_cases qca : ca = 0
      · have qcab : (ca != 0) = false := bne_eq_false_iff_eq.mpr qca
        have qcac : (ca == 0) = true := beq_iff_eq.mpr qca
        clear qca
        cases b9
        · by_cases qh : h = 0
          · have qhb : (h != 0) = false := bne_eq_false_iff_eq.mpr qh
            have qhc : (h == 0) = true := beq_iff_eq.mpr qh
            clear qh
            by_cases qs5 : s5.toList = ([] : List UInt8)
            · have qs5b : (s5.toList != ([] : List UInt8)) = false := bne_eq_false_iff_eq.mpr qs5
              have qs5c : (s5.toList == ([] : List UInt8)) = true := beq_iff_eq.mpr qs5
              clear qs5
              by_cases qs6 : s6.toList = ([] : List UInt8)
              · have qs6b : (s6.toList != ([] : List UInt8)) = false := bne_eq_false_iff_eq.mpr qs6
                have qs6c : (s6.toList == ([] : List UInt8)) = true := beq_iff_eq.mpr qs6
                clear qs6
                cases b8
                · go_enter Try.func7, Try.ntmps7
                  go_wp2_with (first
                    | (go_at_call 9; (with_reducible refine (sane_calls _).mono ?_); rintro e w1 ⟨rfl, hb⟩; have HS := Aside0.mk (At.below (S := w.heap.size) (s := ⟨k, c, r, h, ca, s5, s6, s7, false, false⟩) (w := w.alloc (.cells (Sig.cells ⟨k, c, r, h, ca, s5, s6, s7, false, false⟩) 23)) (hp_new rfl) hb); have HW := Aside0.mk (below_step (below_alloc (Below.refl w.heap.size w) _) hb); obtain ⟨t0, t1, t2, t3, t4, t5, t6, t7, t8, t9⟩ := HS.out.ten; clear hb)
                    | (go_at_call 10; (with_reducible refine (FW.out _).mono ?_); rintro e w2 ⟨rfl, hb⟩; have HS2 := Aside0.mk (HS.out.below hb); have HW2 := Aside0.mk (below_step HW.out hb); clear t0 t1 t2 t3 t4 t5 t6 t7 t8 t9; obtain ⟨t0, t1, t2, t3, t4, t5, t6, t7, t8, t9⟩ := HS2.out.ten; clear hb))
                  go_ret
                  exact ⟨rfl, HW2.out⟩
                · have CK := Aside0.mk (bad_check (s := ⟨k, c, r, h, ca, s5, s6, s7, true, false⟩) (fun h => by have e : true = false := (h.iam hk1).2.2.2; cases e))
                  unfold Sig.cells at CK
                  dsimp only at CK
                  go_enter Try.func7, Try.ntmps7
                  go_wp2_with (first
                    | (go_at_call 9; (with_reducible refine (sane_calls _).mono ?_); rintro e w1 ⟨rfl, hb⟩; have HS := Aside0.mk (At.below (S := w.heap.size) (s := ⟨k, c, r, h, ca, s5, s6, s7, true, false⟩) (w := w.alloc (.cells (Sig.cells ⟨k, c, r, h, ca, s5, s6, s7, true, false⟩) 23)) (hp_new rfl) hb); have HW := Aside0.mk (below_step (below_alloc (Below.refl w.heap.size w) _) hb); obtain ⟨t0, t1, t2, t3, t4, t5, t6, t7, t8, t9⟩ := HS.out.ten; clear hb)
                    | (go_at_call 10; (with_reducible refine (FW.out _).mono ?_); rintro e w2 ⟨rfl, hb⟩; have HS2 := Aside0.mk (HS.out.below hb); have HW2 := Aside0.mk (below_step HW.out hb); clear t0 t1 t2 t3 t4 t5 t6 t7 t8 t9; obtain ⟨t0, t1, t2, t3, t4, t5, t6, t7, t8, t9⟩ := HS2.out.ten; clear hb)
                    | (go_at_call 12; (with_reducible refine (CK.out _).mono ?_); rintro e w3 ⟨rfl, hb⟩; have HW3 := Aside0.mk (below_step HW2.out hb); clear hb))
                  go_ret
                  exact ⟨rfl, HW3.out⟩
              · have qs6b : (s6.toList != ([] : List UInt8)) = true := bne_iff_ne.mpr qs6
                have qs6c : (s6.toList == ([] : List UInt8)) = false := beq_eq_false_iff_ne.mpr qs6
                have CK := Aside0.mk (bad_check (s := ⟨k, c, r, h, ca, s5, s6, s7, b8, false⟩) (fun h => qs6 (toList_nil.2 ((h.iam hk1).2.2.1))))
                unfold Sig.cells at CK
                dsimp only at CK
                go_enter Try.func7, Try.ntmps7
                go_wp2_with (first
                  | (go_at_call 9; (with_reducible refine (sane_calls _).mono ?_); rintro e w1 ⟨rfl, hb⟩; have HS := Aside0.mk (At.below (S := w.heap.size) (s := ⟨k, c, r, h, ca, s5, s6, s7, b8, false⟩) (w := w.alloc (.cells (Sig.cells ⟨k, c, r, h, ca, s5, s6, s7, b8, false⟩) 23)) (hp_new rfl) hb); have HW := Aside0.mk (below_step (below_alloc (Below.refl w.heap.size w) _) hb); obtain ⟨t0, t1, t2, t3, t4, t5, t6, t7, t8, t9⟩ := HS.out.ten; clear hb)
                  | (go_at_call 10; (with_reducible refine (FW.out _).mono ?_); rintro e w2 ⟨rfl, hb⟩; have HS2 := Aside0.mk (HS.out.below hb); have HW2 := Aside0.mk (below_step HW.out hb); clear t0 t1 t2 t3 t4 t5 t6 t7 t8 t9; obtain ⟨t0, t1, t2, t3, t4, t5, t6, t7, t8, t9⟩ := HS2.out.ten; clear hb)
                  | (go_at_call 12; (with_reducible refine (CK.out _).mono ?_); rintro e w3 ⟨rfl, hb⟩; have HW3 := Aside0.mk (below_step HW2.out hb); clear hb))
                go_ret
                exact ⟨rfl, HW3.out⟩
            · have qs5b : (s5.toList != ([] : List UInt8)) = true := bne_iff_ne.mpr qs5
              have qs5c : (s5.toList == ([] : List UInt8)) = false := beq_eq_false_iff_ne.mpr qs5
              have CK := Aside0.mk (bad_check (s := ⟨k, c, r, h, ca, s5, s6, s7, b8, false⟩) (fun h => qs5 (toList_nil.2 ((h.iam hk1).2.1))))
              unfold Sig.cells at CK
              dsimp only at CK
              go_enter Try.func7, Try.ntmps7
              go_wp2_with (first
                | (go_at_call 9; (with_reducible refine (sane_calls _).mono ?_); rintro e w1 ⟨rfl, hb⟩; have HS := Aside0.mk (At.below (S := w.heap.size) (s := ⟨k, c, r, h, ca, s5, s6, s7, b8, false⟩) (w := w.alloc (.cells (Sig.cells ⟨k, c, r, h, ca, s5, s6, s7, b8, false⟩) 23)) (hp_new rfl) hb); have HW := Aside0.mk (below_step (below_alloc (Below.refl w.heap.size w) _) hb); obtain ⟨t0, t1, t2, t3, t4, t5, t6, t7, t8, t9⟩ := HS.out.ten; clear hb)
                | (go_at_call 10; (with_reducible refine (FW.out _).mono ?_); rintro e w2 ⟨rfl, hb⟩; have HS2 := Aside0.mk (HS.out.below hb); have HW2 := Aside0.mk (below_step HW.out hb); clear t0 t1 t2 t3 t4 t5 t6 t7 t8 t9; obtain ⟨t0, t1, t2, t3, t4, t5, t6, t7, t8, t9⟩ := HS2.out.ten; clear hb)
                | (go_at_call 12; (with_reducible refine (CK.out _).mono ?_); rintro e w3 ⟨rfl, hb⟩; have HW3 := Aside0.mk (below_step HW2.out hb); clear hb))
              go_ret
              exact ⟨rfl, HW3.out⟩
          · have qhb : (h != 0) = true := bne_iff_ne.mpr qh
            have qhc : (h == 0) = false := beq_eq_false_iff_ne.mpr qh
            have CK := Aside0.mk (bad_check (s := ⟨k, c, r, h, ca, s5, s6, s7, b8, false⟩) (fun h => qh ((h.iam hk1).1)))
            unfold Sig.cells at CK
            dsimp only at CK
            go_enter Try.func7, Try.ntmps7
            go_wp2_with (first
              | (go_at_call 9; (with_reducible refine (sane_calls _).mono ?_); rintro e w1 ⟨rfl, hb⟩; have HS := Aside0.mk (At.below (S := w.heap.size) (s := ⟨k, c, r, h, ca, s5, s6, s7, b8, false⟩) (w := w.alloc (.cells (Sig.cells ⟨k, c, r, h, ca, s5, s6, s7, b8, false⟩) 23)) (hp_new rfl) hb); have HW := Aside0.mk (below_step (below_alloc (Below.refl w.heap.size w) _) hb); obtain ⟨t0, t1, t2, t3, t4, t5, t6, t7, t8, t9⟩ := HS.out.ten; clear hb)
              | (go_at_call 10; (with_reducible refine (FW.out _).mono ?_); rintro e w2 ⟨rfl, hb⟩; have HS2 := Aside0.mk (HS.out.below hb); have HW2 := Aside0.mk (below_step HW.out hb); clear t0 t1 t2 t3 t4 t5 t6 t7 t8 t9; obtain ⟨t0, t1, t2, t3, t4, t5, t6, t7, t8, t9⟩ := HS2.out.ten; clear hb)
              | (go_at_call 12; (with_reducible refine (CK.out _).mono ?_); rintro e w3 ⟨rfl, hb⟩; have HW3 := Aside0.mk (below_step HW2.out hb); clear hb))
            go_ret
            exact ⟨rfl, HW3.out⟩
        · have CK := Aside0.mk (bad_check (s := ⟨k, c, r, h, ca, s5, s6, s7, b8, true⟩) (fun h => by have e : true = false := h.anm hk4; cases e))
          unfold Sig.cells at CK
          dsimp only at CK
          go_enter Try.func7, Try.ntmps7
          go_wp2_with (first
            | (go_at_call 9; (with_reducible refine (sane_calls _).mono ?_); rintro e w1 ⟨rfl, hb⟩; have HS := Aside0.mk (At.below (S := w.heap.size) (s := ⟨k, c, r, h, ca, s5, s6, s7, b8, true⟩) (w := w.alloc (.cells (Sig.cells ⟨k, c, r, h, ca, s5, s6, s7, b8, true⟩) 23)) (hp_new rfl) hb); have HW := Aside0.mk (below_step (below_alloc (Below.refl w.heap.size w) _) hb); obtain ⟨t0, t1, t2, t3, t4, t5, t6, t7, t8, t9⟩ := HS.out.ten; clear hb)
            | (go_at_call 10; (with_reducible refine (FW.out _).mono ?_); rintro e w2 ⟨rfl, hb⟩; have HS2 := Aside0.mk (HS.out.below hb); have HW2 := Aside0.mk (below_step HW.out hb); clear t0 t1 t2 t3 t4 t5 t6 t7 t8 t9; obtain ⟨t0, t1, t2, t3, t4, t5, t6, t7, t8, t9⟩ := HS2.out.ten; clear hb)
            | (go_at_call 12; (with_reducible refine (CK.out _).mono ?_); rintro e w3 ⟨rfl, hb⟩; have HW3 := Aside0.mk (below_step HW2.out hb); clear hb))
          go_ret
          exact ⟨rfl, HW3.out⟩
      · have qcab : (ca != 0) = true := bne_iff_ne.mpr qca
        have qcac : (ca == 0) = false := beq_eq_false_iff_ne.mpr qca
        have CK := Aside0.mk (bad_check (s := ⟨k, c, r, h, ca, s5, s6, s7, b8, b9⟩) (fun h => qca (h.rel hk7)))
        unfold Sig.cells at CK
        dsimp only at CK
        go_enter Try.func7, Try.ntmps7
        go_wp2_with (first
          | (go_at_call 9; (with_reducible refine (sane_calls _).mono ?_); rintro e w1 ⟨rfl, hb⟩; have HS := Aside0.mk (At.below (S := w.heap.size) (s := ⟨k, c, r, h, ca, s5, s6, s7, b8, b9⟩) (w := w.alloc (.cells (Sig.cells ⟨k, c, r, h, ca, s5, s6, s7, b8, b9⟩) 23)) (hp_new rfl) hb); have HW := Aside0.mk (below_step (below_alloc (Below.refl w.heap.size w) _) hb); obtain ⟨t0, t1, t2, t3, t4, t5, t6, t7, t8, t9⟩ := HS.out.ten; clear hb)
          | (go_at_call 10; (with_reducible refine (FW.out _).mono ?_); rintro e w2 ⟨rfl, hb⟩; have HS2 := Aside0.mk (HS.out.below hb); have HW2 := Aside0.mk (below_step HW.out hb); clear t0 t1 t2 t3 t4 t5 t6 t7 t8 t9; obtain ⟨t0, t1, t2, t3, t4, t5, t6, t7, t8, t9⟩ := HS2.out.ten; clear hb)
          | (go_at_call 12; (with_reducible refine (CK.out _).mono ?_); rintro e w3 ⟨rfl, hb⟩; have HW3 := Aside0.mk (below_step HW2.out hb); clear hb))
        go_ret
        exact ⟨rfl, HW3.out⟩
    · have qs7b : (s7.toList != ([] : List UInt8)) = true := bne_iff_ne.mpr qs7
      have qs7c : (s7.toList == ([] : List UInt8)) = false := beq_eq_false_iff_ne.mpr qs7
      have CK := Aside0.mk (bad_check (s := ⟨k, c, r, h, ca, s5, s6, s7, b8, b9⟩) (fun h => qs7 (toList_nil.2 (h.sam hk2))))
      unfold Sig.cells at CK
      dsimp only at CK
      go_enter Try.func7, Try.ntmps7
      go_wp2_with (first
        | (go_at_call 9; (with_reducible refine (sane_calls _).mono ?_); rintro e w1 ⟨rfl, hb⟩; have HS := Aside0.mk (At.below (S := w.heap.size) (s := ⟨k, c, r, h, ca, s5, s6, s7, b8, b9⟩) (w := w.alloc (.cells (Sig.cells ⟨k, c, r, h, ca, s5, s6, s7, b8, b9⟩) 23)) (hp_new rfl) hb); have HW := Aside0.mk (below_step (below_alloc (Below.refl w.heap.size w) _) hb); obtain ⟨t0, t1, t2, t3, t4, t5, t6, t7, t8, t9⟩ := HS.out.ten; clear hb)
        | (go_at_call 10; (with_reducible refine (FW.out _).mono ?_); rintro e w2 ⟨rfl, hb⟩; have HS2 := Aside0.mk (HS.out.below hb); have HW2 := Aside0.mk (below_step HW.out hb); clear t0 t1 t2 t3 t4 t5 t6 t7 t8 t9; obtain ⟨t0, t1, t2, t3, t4, t5, t6, t7, t8, t9⟩ := HS2.out.ten; clear hb)
        | (go_at_call 12; (with_reducible refine (CK.out _).mono ?_); rintro e w3 ⟨rfl, hb⟩; have HW3 := Aside0.mk (below_step HW2.out hb); clear hb))
      go_ret
      exact ⟨rfl, HW3.out⟩
theorem crossbarlaw11_IsupRejectsForeignFields.walk (s : Sig) (W : World) (_ : Wf s) : Calls Try.prog 7 #[.agg s.cells] W fun e w' => e = .returned (.bool true) ∧ Below W.heap.size W w' := by
  obtain ⟨k, c, r, h, ca, s5, s6, s7, b8, b9⟩ := s
  by_cases h1 : k = 1
  · exact foreign_one k c r h ca s5 s6 s7 b8 b9 h1 W
  by_cases h2 : k = 2
  · exact foreign_two k c r h ca s5 s6 s7 b8 b9 h2 W
  by_cases h4 : k = 4
  · exact foreign_four k c r h ca s5 s6 s7 b8 b9 h4 W
  by_cases h7 : k = 7
  · exact foreign_seven k c r h ca s5 s6 s7 b8 b9 h7 W
  by_cases h8 : 8 < k
  · exact foreign_big k c r h ca s5 s6 s7 b8 b9 h8 W
  · exact foreign_rest k c r h ca s5 s6 s7 b8 b9 ⟨by omega, h1, h2, h4, h7⟩ W
end Go.Proofs.Ytmpjcpkfnjnejaa.Is
