/-
  isup.Encode, by hand: its contract.
-/
import Derived.Test.YtmpjcpkfnjnejaaIq6
namespace Go.Proofs.Ytmpjcpkfnjnejaa.Iq
open Go.RowKit Go.Shelf Go.Proofs.YtmpjcpkfnjnejaaW.PrintWords Go.Proofs.YtmpjcpkfnjnejaaW.PrintLast Go.Proofs.YtmpjcpkfnjnejaaW.PrintMore Go.Proofs.Ytmpjcpkfnjnejaa.Is Go.Proofs.Ytmpjcpkfnjnejaa.Vm Go.Proofs.Ytmpjcpkfnjnejaa.Iv
set_option linter.unusedVariables false
set_option linter.unusedSimpArgs false

/-- What Encode leaves. -/
def En (w : World) (e : Ending) (w' : World) (s : Sig) : Prop := ∃ v, e = .returned (.tuple #[v, .int .i64 (checkS s)]) ∧ By w' w.heap.size v (encS s) ∧ Below w.heap.size w w'

set_option maxHeartbeats 4000000 in
theorem encode_bad (s : Sig) (w : World) (h : validS_ s = false) : Calls Try.prog 11 #[.agg s.cells] w fun e w' => En w e w' s := by
  have e1 : checkS s = 110 := by unfold checkS; rw [h]; rfl
  have e2 : encS s = [] := by unfold encS; rw [h]; rfl
  unfold En
  rw [e1, e2]
  have HC := Aside0.mk (check_calls s)
  rw [e1] at HC
  unfold Sig.cells at HC ⊢
  clear h e1 e2
  go_enter Try.func11, Try.ntmps11
  go_wp2_with (go_at_call 12; refine (HC.out _).mono ?_; rintro e w1 ⟨rfl, hb⟩; have HB := Aside0.mk (below_step (below_alloc (Below.refl _ _) _) hb); clear hb)
  exact bodyPost_ret (v := .tuple #[.slice none 0 0, .int .i64 110]) (by simp [results, Try.results11, go_sem]) rfl ⟨_, rfl, Kd.R_nil _ _ _ _ _, HB.out⟩

set_option maxHeartbeats 8000000 in
set_option maxRecDepth 100000 in
theorem encode_good (s : Sig) (w : World) (h : validS_ s = true) : Calls Try.prog 11 #[.agg s.cells] w fun e w' => En w e w' s := by
  have e1 : checkS s = 0 := by unfold checkS; rw [h]; rfl
  have e2 : encS s = s.kind :: (fieldsS s.kind).flatMap (Fd.bytes s) := by unfold encS; rw [h]; rfl
  have hv := h
  unfold validS_ at hv
  simp only [Bool.and_eq_true] at hv
  obtain ⟨hk, hok, _⟩ := hv
  have HK := Aside0.mk hk
  have HOK := Aside0.mk (List.all_eq_true.1 hok)
  unfold En
  rw [e1, e2]
  have HC := Aside0.mk (check_calls s)
  rw [e1] at HC
  have hwr : IntKind.u8.wrap s.kind = s.kind := by
    unfold known at hk
    simp only [Bool.and_eq_true, decide_eq_true_eq] at hk
    simp [IntKind.wrap, IntKind.bits, IntKind.signed]
    omega
  unfold Sig.cells at HC
  have hcells : s.cells = #[.int .i64 s.kind, .int .i64 s.circuit, .int .i64 s.ref, .int .i64 s.hops, .int .i64 s.cause, .string s.called, .string s.calling, .string s.digits, .bool s.emergency, .bool s.reverse] := rfl
  rw [hcells]
  clear hcells h hk hok e1 e2
  go_enter Try.func11, Try.ntmps11
  go_wp2_with (first
    | (go_at_call 12; refine (HC.out _).mono ?_; rintro e w1 ⟨rfl, hb⟩; have HS := Aside0.mk (At.below (S := w.heap.size) (s := s) (w := w.alloc (.cells s.cells 23)) (hp_new rfl) hb); have HW := Aside0.mk (below_step (below_alloc (Below.refl _ _) _) hb); have hkc := HS.out.kind; clear hb)
    | (go_at_call 17; refine (fields_calls _ _ HK.out).mono ?_; rintro e w2 ⟨v, xs, rfl, hr, hf, hb⟩; have hp := fields_pos s.kind; rw [hf.len] at hp; obtain ⟨ad, c, rfl⟩ := Kd.R_slice1 hr hp; have n1 := Aside0.mk (HS.out.below hb); have n2 := Aside0.mk (below_step HW.out hb); have hS := HS.out.lt; have HL := Aside0.mk (show Ls w.heap.size w2 (some ad) c (fieldsS s.kind) xs from ⟨Kd.R_lower (Kd.R_mono (Kd.R_bound hr) (fun k hk => by have := hk.2.1; omega)) (Nat.zero_le _), hf.imp (fun _ _ hf => hf.mono (fun k hk _ => by have h3 : w1.heap.size ≤ k := hk; omega))⟩); have HN := Aside0.mk (show xs.length ≤ 6 from by rw [← hf.len]; exact fields_le _); clear HS HW hr hf hb hp hS hkc; have HS := n1; have HW := n2; have hkc := HS.out.kind; clear n1 n2)
    | ((with_reducible refine gate_dst (N := 24) rfl ?_); refine Kd.R_lit (Kd.int .u8) _ 5 ?hg (N := 24) ?hd (xs := [s.kind]) (inner := [.int .u8 s.kind]) (ok := fun _ => True) (okp := fun _ => True) ?hr ?hp (fun _ hk => hk) trivial (Below.refl _ _) (Nat.le_refl _) (by simp) ?_; (case hd => rfl); (case hg => rfl); (case hr => first | (go_simp; done) | (go_simp; rfl)); (case hp => exact Reps.one rfl (Reps.none _ _)); intro v3 w3 ho hb hg_ hnew_; have HO := Aside0.mk ho; have HB := Aside0.mk hb; clear ho hb hg_ hnew_))
  go_loopg [7, 27] xs.length (fun kq v7 v27 w' => ∃ i : Nat, i + kq = xs.length ∧ v27 = .int .i64 (i : Int) ∧ Aside0 (By w' w2.heap.size v7 (s.kind :: ((fieldsS s.kind).take i).flatMap (Fd.bytes s))) ∧ Aside0 (Below w2.heap.size w2 w') ∧ Aside0 ((((fieldsS s.kind).take i).flatMap (Fd.bytes s)).length ≤ 26 * i))
  case atStart => exact ⟨0, by omega, rfl, HO, HB, ⟨by simp⟩⟩
  case round =>
    clear HO HB
    obtain ⟨i, hi, rfl, HY, HB1, HLe⟩ := hrel
    cases gk with
    | zero =>
      have hall : (fieldsS s.kind).take i = fieldsS s.kind := List.take_of_length_le (by rw [HL.out.f.len]; omega)
      rw [hall] at HY
      clear hall
      have hlt : decide ((i : Int) < (xs.length : Int)) = false := decide_eq_false (by omega)
      have hlu : decide (i < xs.length) = false := decide_eq_false (by omega)
      go_wp2
      exact bodyPost_ret (v := .tuple #[u7, .int .i64 0]) (by simp [results, Try.results11, go_sem]) rfl ⟨_, rfl, Kd.R_lower HY.out (below_size HW.out), below_step HW.out HB1.out⟩
    | succ k1 =>
      have hL2 := HL.out.keep (fun k _ hk => HB1.out.block k hk)
      have HS2 := Aside0.mk (HS.out.below HB1.out)
      obtain ⟨d, hd, hf⟩ := hL2.get (i := i) (by omega)
      obtain ⟨ad', e, c0, c1, c2, c3⟩ := hL2.cell (i : Int) (by omega) (by omega)
      cases e
      rw [Int.toNat_natCast] at c0 c1 c2 c3
      have eg := fd_enters1 hf
      generalize xs.getD i zF = x at hf c0 c1 c2 c3 eg
      have HF2 := Aside0.mk hf
      have HD := Aside0.mk hd
      have hm := List.mem_of_getElem? hd
      have HDo := Aside0.mk (HOK.out d hm)
      have HDl := Aside0.mk (fields_low _ d hm)
      clear hL2 hf hd hm
      have hq : (i : Int) < (xs.length : Int) := by omega
      have hlt := decide_eq_true hq
      go_wp2_with (refine (fd_put (HS2.out.below (below_alloc (Below.refl _ _) _)) (HF2.out.below (below_alloc (Below.refl _ _) _)) HDo.out HDl.out w2.heap.size _ _ (Kd.R_alloc HY.out _) ?hb ?hn).mono ?_; (case hb => rw [World.size_alloc]; have := HB1.out.size; omega); (case hn => have := HLe.out; have := HN.out; simp only [List.length_cons]; omega); rintro e w4 ⟨v4, rfl, hy, hb⟩; have HY4 := Aside0.mk hy; have HB4 := Aside0.mk hb; clear hy hb)
      go_roundg k1
      case measure => omega
      case rel =>
        have e1 : wrap64 ((i : Int) + 1) = ((i + 1 : Nat) : Int) := by have := HN.out; unfold wrap64; omega
        exact ⟨i + 1, by omega, by rw [e1], ⟨by rw [flat_take HD.out]; exact HY4.out⟩, ⟨(HB1.out.alloc HB1.out.size _).trans HB4.out⟩, ⟨by rw [flat_take HD.out, List.length_append]; have := bytes_len HDo.out HDl.out; have := HLe.out; omega⟩⟩

theorem encode_calls (s : Sig) (w : World) : Calls Try.prog 11 #[.agg s.cells] w fun e w' => En w e w' s := by
  cases h : validS_ s
  · exact encode_bad s w h
  · exact encode_good s w h
end Go.Proofs.Ytmpjcpkfnjnejaa.Iq
