/- IsupRecognizesTruncation: every proper prefix of an encoded message is truncated, and a message with an additional byte is invalid. -/
import Derived.Test.YtmpjcpkfnjnejaaIq11
import Derived.Test.YtmpjcpkfnjnejaaIq12
import Derived.Test.YtmpjcpkfnjnejaaIq15
import Derived.Test.YtmpjcpkfnjnejaaIb
namespace Go.Proofs.Ytmpjcpkfnjnejaa.Is
open Go.RowKit Go.Shelf Go.Proofs.YtmpjcpkfnjnejaaW.PrintWords Go.Proofs.YtmpjcpkfnjnejaaW.PrintLast Go.Proofs.YtmpjcpkfnjnejaaW.PrintMore Go.Proofs.Ytmpjcpkfnjnejaa.Iq Go.Proofs.Ytmpjcpkfnjnejaa.Iv Go.Proofs.Ytmpjcpkfnjnejaa.Vm
set_option linter.unusedVariables false
set_option linter.unusedSimpArgs false
theorem few_of (s : Sig) : ∃ b, crossbarref11_Few.f s.kind s.circuit s.ref s.hops s.cause s.called s.calling s.digits s.emergency s.reverse = some b := by
  unfold crossbarref11_Few.f
  split
  · split
    · exact ⟨_, rfl⟩
    · exact ⟨_, rfl⟩
  · exact ⟨_, rfl⟩
theorem few_sig (s : Sig) : ∃ b, ∀ W, Calls Try.prog 10 #[.agg s.cells] W fun e w' => e = .returned (.bool b) ∧ Below W.heap.size W w' := by
  obtain ⟨b, hb⟩ := few_of s
  exact ⟨b, fun W => crossbarref11_Few.calls _ _ _ _ _ _ _ _ _ _ b W hb⟩

set_option maxHeartbeats 8000000 in
set_option maxRecDepth 100000 in
theorem trunc_off (s : Sig) (cut x : Int) (w : World) (b : Bool) (FW0 : ∀ W, Calls Try.prog 10 #[.agg s.cells] W fun e w' => e = .returned (.bool b) ∧ Below W.heap.size W w') (h : b = true → cut < 0) :
    Calls Try.prog 4 #[.agg s.cells, .int .i64 cut, .int .u8 x] w fun e w' => e = .returned (.bool true) ∧ Below w.heap.size w w' := by
  have FW := Aside0.mk FW0
  clear FW0
  unfold Sig.cells at FW ⊢
  cases b
  · clear h
    go_enter Try.func4, Try.ntmps4
    go_wp2_with (first
      | (go_at_call 9; (with_reducible refine (sane_calls _).mono ?_); rintro e w1 ⟨rfl, hb⟩; have HS := Aside0.mk (At.below (S := w.heap.size) (s := s) (w := w.alloc (.cells s.cells 23)) (hp_new rfl) hb); have HW := Aside0.mk (below_step (below_alloc (Below.refl w.heap.size w) _) hb); obtain ⟨t0, t1, t2, t3, t4, t5, t6, t7, t8, t9⟩ := HS.out.ten; clear hb)
      | (go_at_call 10; (with_reducible refine (FW.out _).mono ?_); rintro e w2 ⟨rfl, hb⟩; have HW2 := Aside0.mk (below_step HW.out hb); clear hb))
    go_ret
    exact ⟨rfl, HW2.out⟩
  · have hc := decide_eq_true (h rfl)
    clear h
    go_enter Try.func4, Try.ntmps4
    go_wp2_with (first
      | (go_at_call 9; (with_reducible refine (sane_calls _).mono ?_); rintro e w1 ⟨rfl, hb⟩; have HS := Aside0.mk (At.below (S := w.heap.size) (s := s) (w := w.alloc (.cells s.cells 23)) (hp_new rfl) hb); have HW := Aside0.mk (below_step (below_alloc (Below.refl w.heap.size w) _) hb); obtain ⟨t0, t1, t2, t3, t4, t5, t6, t7, t8, t9⟩ := HS.out.ten; clear hb)
      | (go_at_call 10; (with_reducible refine (FW.out _).mono ?_); rintro e w2 ⟨rfl, hb⟩; have HW2 := Aside0.mk (below_step HW.out hb); clear hb))
    go_ret
    exact ⟨rfl, HW2.out⟩

set_option maxHeartbeats 8000000 in
set_option maxRecDepth 100000 in
theorem trunc_bad (s : Sig) (cut x : Int) (w : World) (FW0 : ∀ W, Calls Try.prog 10 #[.agg s.cells] W fun e w' => e = .returned (.bool true) ∧ Below W.heap.size W w') (h : 0 ≤ cut) (hv : validS_ s = false) :
    Calls Try.prog 4 #[.agg s.cells, .int .i64 cut, .int .u8 x] w fun e w' => e = .returned (.bool true) ∧ Below w.heap.size w w' := by
  have FW := Aside0.mk FW0
  have EN0 : ∀ W, Calls Try.prog 11 #[.agg s.cells] W fun e w' => ∃ v, e = .returned (.tuple #[v, .int .i64 110]) ∧ By w' W.heap.size v [] ∧ Below W.heap.size W w' := fun W => by
    have h := encode_calls s W
    unfold En at h
    have e1 : checkS s = 110 := by unfold checkS; rw [hv]; rfl
    rw [e1, enc_none hv] at h
    exact h
  have EN := Aside0.mk EN0
  clear FW0 EN0
  unfold Sig.cells at FW EN ⊢
  have hc : decide (cut < 0) = false := decide_eq_false (by omega)
  clear h hv
  go_enter Try.func4, Try.ntmps4
  go_wp2_with (first
    | (go_at_call 9; (with_reducible refine (sane_calls _).mono ?_); rintro e w1 ⟨rfl, hb⟩; have HS := Aside0.mk (At.below (S := w.heap.size) (s := s) (w := w.alloc (.cells s.cells 23)) (hp_new rfl) hb); have HW := Aside0.mk (below_step (below_alloc (Below.refl w.heap.size w) _) hb); obtain ⟨t0, t1, t2, t3, t4, t5, t6, t7, t8, t9⟩ := HS.out.ten; clear hb)
    | (go_at_call 10; (with_reducible refine (FW.out _).mono ?_); rintro e w2 ⟨rfl, hb⟩; have HS2 := Aside0.mk (HS.out.below hb); have HW2 := Aside0.mk (below_step HW.out hb); clear t0 t1 t2 t3 t4 t5 t6 t7 t8 t9; obtain ⟨t0, t1, t2, t3, t4, t5, t6, t7, t8, t9⟩ := HS2.out.ten; clear hb)
    | (go_at_call 11; (with_reducible refine (EN.out _).mono ?_); rintro e w3 ⟨v, rfl, hy, hb⟩; obtain ⟨A, c, rfl⟩ := Kd.R_slice hy; have HW3 := Aside0.mk (below_step HW2.out hb); simp only [List.length_nil]; clear hb hy))
  go_ret
  exact ⟨rfl, HW3.out⟩

theorem take_C {w : World} {A : Option Addr} {l : List Int} {j : Nat} (hC : Kd.C (Kd.int .u8) w A l.length l) (h : j < l.length) : Kd.C (Kd.int .u8) w A j (l.take j) := by
  have e : (l.take j).length = j := by
    rw [List.length_take]
    omega
  have := Kd.C_take (m := j) hC (Nat.le_of_lt h)
  rwa [e] at this
theorem enc_pos {s : Sig} (h : validS_ s = true) : 0 < (encS s).length := by rw [enc_head h]; simp

set_option maxHeartbeats 8000000 in
set_option maxRecDepth 100000 in
theorem trunc_good (s : Sig) (cut x : Int) (w : World) (FW0 : ∀ W, Calls Try.prog 10 #[.agg s.cells] W fun e w' => e = .returned (.bool true) ∧ Below W.heap.size W w') (h : 0 ≤ cut) (hx : 0 ≤ x ∧ x ≤ 255) (hv : validS_ s = true) :
    Calls Try.prog 4 #[.agg s.cells, .int .i64 cut, .int .u8 x] w fun e w' => e = .returned (.bool true) ∧ Below w.heap.size w w' := by
  have FW := Aside0.mk FW0
  obtain ⟨l, hl⟩ : ∃ l, encS s = l := ⟨_, rfl⟩
  have EN0 : ∀ W, Calls Try.prog 11 #[.agg s.cells] W fun e w' => ∃ v, e = .returned (.tuple #[v, .int .i64 0]) ∧ By w' W.heap.size v l ∧ Below W.heap.size W w' := fun W => by
    have h := encode_calls s W
    unfold En at h
    have e1 : checkS s = 0 := by unfold checkS; rw [hv]; rfl
    rw [e1, hl] at h
    exact h
  have EN := Aside0.mk EN0
  have hp : 0 < l.length := hl ▸ enc_pos hv
  have hm : l.length ≤ 1 + 26 * 6 := hl ▸ enc_len hv
  have hby : Bytes l := hl ▸ enc_bytes_all hv
  obtain ⟨j, hj⟩ : ∃ j : Nat, cut.tmod (l.length : Int) = (j : Int) := Int.eq_ofNat_of_zero_le (Int.tmod_nonneg _ h)
  have hjl : j < l.length := by
    have := Int.tmod_lt_of_pos cut (b := (l.length : Int)) (by omega)
    omega
  have D1 : ∀ (A : Option Addr) (c : Nat) (W : World), Kd.C (Kd.int .u8) W A j (l.take j) → j ≤ c → Calls Try.prog 13 #[.slice A j c] W fun e w' => ∃ t : Sig, e = .returned (.tuple #[.agg #[.int .i64 t.kind, .int .i64 t.circuit, .int .i64 t.ref, .int .i64 t.hops, .int .i64 t.cause, .string t.called, .string t.calling, .string t.digits, .bool t.emergency, .bool t.reverse], .int .i64 10]) ∧ Below W.heap.size W w' := fun A c W hC hc => by
    have e : (l.take j).length = j := by rw [List.length_take]; omega
    have h := decode_calls A c (l.take j) W (by rw [e]; exact hC) (by omega) (bytes_take hby j) (by omega)
    unfold De at h
    rw [e, ← hl, dec_cut hv j (hl ▸ hjl)] at h
    exact h.mono (by rintro e w' ⟨rfl, hb⟩; exact ⟨_, rfl, hb⟩)
  have D2 : ∀ (A : Option Addr) (c : Nat) (W : World), Kd.C (Kd.int .u8) W A (l ++ [x]).length (l ++ [x]) → (l ++ [x]).length ≤ c → Calls Try.prog 13 #[.slice A (l ++ [x]).length c] W fun e w' => ∃ t : Sig, e = .returned (.tuple #[.agg #[.int .i64 t.kind, .int .i64 t.circuit, .int .i64 t.ref, .int .i64 t.hops, .int .i64 t.cause, .string t.called, .string t.calling, .string t.digits, .bool t.emergency, .bool t.reverse], .int .i64 110]) ∧ Below W.heap.size W w' := fun A c W hC hc => by
    have h := decode_calls A c (l ++ [x]) W hC hc (bytes_append hby (fun c hc => by rw [List.mem_singleton.1 hc]; exact hx)) (by rw [List.length_append, List.length_singleton]; omega)
    unfold De at h
    rw [← hl, dec_more hv x] at h
    rw [← hl]
    exact h.mono (by rintro e w' ⟨rfl, hb⟩; exact ⟨_, rfl, hb⟩)
  have DA := Aside0.mk D1
  have eLn : (l ++ [x]).length = l.length + 1 := by rw [List.length_append, List.length_singleton]
  rw [eLn] at D2
  have DB := Aside0.mk D2
  have HP := Aside0.mk hp
  have HM := Aside0.mk hm
  have HJ := Aside0.mk hjl
  have hz : ((l.length : Int) == 0) = false := beq_eq_false_iff_ne.2 (by omega)
  have hz2 : ((l.length : Int) = 0) = False := eq_false (by omega)
  have hz3 : (l.length = 0) = False := eq_false (by omega)
  have hz4 : (l = []) = False := eq_false (by rintro rfl; simp at hp)
  have hcut : ∀ (A : Option Addr) (c : Nat) (hc : l.length ≤ c) (W : World), (Instr.slice 24 (.slice A l.length c) none (some (.int .i64 (j : Int))) none).run Try.prog W = .ok (.slice A j c) W := fun A c hc W => by
    have := (print_take_int (P := Try.prog) (k := .u8) 24 5 Try.underlying24 (i := (Try.prog.info? 5).get (by kernel_rfl)) (by kernel_rfl) (by kernel_rfl) A c l (j : Int) (by omega) (by omega) hc).1 W
    rw [Int.toNat_natCast, List.length_take, Nat.min_eq_left (by omega)] at this
    exact this
  have HCut := Aside0.mk hcut
  clear FW0 EN0 D1 D2 hp hm hjl hcut eLn
  unfold Sig.cells at FW EN ⊢
  have hc : decide (cut < 0) = false := decide_eq_false (by omega)
  have HX := Aside0.mk hx
  have HBy := Aside0.mk hby
  clear h hv hx hby hl
  go_enter Try.func4, Try.ntmps4
  go_wp2_with (first
    | (go_at_call 9; (with_reducible refine (sane_calls _).mono ?_); rintro e w1 ⟨rfl, hb⟩; have HS := Aside0.mk (At.below (S := w.heap.size) (s := s) (w := w.alloc (.cells s.cells 23)) (hp_new rfl) hb); have HW := Aside0.mk (below_step (below_alloc (Below.refl w.heap.size w) _) hb); obtain ⟨t0, t1, t2, t3, t4, t5, t6, t7, t8, t9⟩ := HS.out.ten; clear hb)
    | (go_at_call 10; (with_reducible refine (FW.out _).mono ?_); rintro e w2 ⟨rfl, hb⟩; have HS2 := Aside0.mk (HS.out.below hb); have HW2 := Aside0.mk (below_step HW.out hb); clear t0 t1 t2 t3 t4 t5 t6 t7 t8 t9; obtain ⟨t0, t1, t2, t3, t4, t5, t6, t7, t8, t9⟩ := HS2.out.ten; clear hb)
    | (go_at_call 11; (with_reducible refine (EN.out _).mono ?_); rintro e w3 ⟨v, rfl, hy, hb⟩; obtain ⟨A, c, rfl⟩ := Kd.R_slice hy; obtain ⟨_, hc1, hC1⟩ := Kd.R_reads' hy; have HC := Aside0.mk hC1; have HL := Aside0.mk hc1; have HCT := Aside0.mk (take_C hC1 HJ.out); have HW3 := Aside0.mk (below_step HW2.out hb); have hsl := HCut.out A c hc1; clear hb hy hC1 hc1)
    | (go_at_call 13; (with_reducible refine (DA.out _ _ _ HCT.out (Nat.le_trans (Nat.le_of_lt HJ.out) HL.out)).mono ?_); rintro e w4 ⟨t, rfl, hb⟩; have HB4 := Aside0.mk (below_alloc hb (.cells t.cells 23)); have HW4 := Aside0.mk (below_alloc (below_step HW3.out hb) (.cells t.cells 23)); clear hb HCT)
    | ((with_reducible refine gate_dst (N := 53) rfl ?_); go_loud (refine Kd.R_append_rows (Kd.int .u8) (w0 := w) w.heap.size rfl (.const (.slice none 0 0)) (.tmp 52) 24 5 (.int .u8 0) 1 rfl Try.underlying24 info5 rfl (by decide) (by omega) (.slice none 0 0) [] l A l.length c (fun _ => True) (fun _ => False) rfl rfl (Kd.R_nil _ _ _ _ _) (Kd.C_below HC.out HB4.out) (fun _ _ h => h) (fun _ h => h.elim) (fun _ _ => trivial) HW4.out (below_size HW4.out) (by have := HM.out; simp only [List.length_nil]; omega) ?_; intro v1 w5 ho1 hb1 hg hat; rw [List.nil_append] at ho1; have HR5 := Aside0.mk ho1; have HW5 := Aside0.mk hb1; clear ho1 hb1 hg hat))
    | ((with_reducible refine gate_dst (N := 57) rfl ?_); go_loud (refine Kd.R_append (Kd.int .u8) (w0 := w) w.heap.size rfl (.tmp 54) (.tmp 56) 24 5 (.int .u8 0) 1 rfl Try.underlying24 info5 rfl (by decide) (by omega) v1 l x [.int .u8 x] (fun _ => True) (fun _ => False) rfl rfl rfl (fun _ hk => hk.elim) (fun _ _ => trivial) HR5.out HW5.out (below_size HW5.out) (by have := HM.out; omega) ?_; intro v2 w6 ho2 hb2 hg hat; obtain ⟨A6, c6, rfl⟩ := Kd.R_slice ho2; obtain ⟨_, hc6, hC6⟩ := Kd.R_reads' ho2; simp only [List.length_append, List.length_singleton, List.length_cons, List.length_nil, Nat.zero_add] at hc6 hC6 ⊢; have HC6 := Aside0.mk hC6; have HL6 := Aside0.mk hc6; have HW6 := Aside0.mk hb2; clear ho2 hb2 hg hat hC6 hc6))
    | (go_at_call 13; go_loud ((with_reducible refine (DB.out _ _ _ HC6.out HL6.out).mono ?_); rintro e w7 ⟨t', rfl, hb⟩; have HW7 := Aside0.mk (below_alloc (below_step HW6.out hb) (.cells t'.cells 23)); clear hb)))
  go_ret
  exact ⟨rfl, HW7.out⟩

theorem crossbarlaw11_IsupRecognizesTruncation.walk (s : Sig) (cut x : Int) (W : World) (_ : Wf s) (w1 : (Lit.int .i64 cut).wf = true) (w2 : (Lit.int .u8 x).wf = true) : Calls Try.prog 4 #[.agg s.cells, .int .i64 cut, .int .u8 x] W fun e w' => e = .returned (.bool true) ∧ Below W.heap.size W w' := by
  obtain ⟨b, hb⟩ := few_sig s
  by_cases h : b = true → cut < 0
  · exact trunc_off s cut x W b hb h
  · have h' : b = true ∧ ¬ cut < 0 := by
      cases b
      · exact absurd (fun h => by cases h) h
      · exact ⟨rfl, fun hc => h (fun _ => hc)⟩
    obtain ⟨rfl, hc⟩ := h'
    cases hv : validS_ s
    · exact trunc_bad s cut x W hb (by omega) hv
    · exact trunc_good s cut x W hb (by omega) (wf_u8 w2) hv
end Go.Proofs.Ytmpjcpkfnjnejaa.Is
