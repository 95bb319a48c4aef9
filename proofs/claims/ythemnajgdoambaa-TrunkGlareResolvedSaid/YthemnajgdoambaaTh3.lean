/-
  change of the package trunk, by hand: slices.Clone at circuits, the copy's row while a circuit of it is changed, and change's contract for each method.
-/
import Derived.Test.YthemnajgdoambaaTh1
import Derived.Test.YthemnajgdoambaaTh2
import Derived.Lib.SliceRun
namespace Go.Proofs.Ythemnajgdoambaa.Th
open Go.RowKit Go.Proofs.YthemnajgdoambaaW.PrintWords Go.Proofs.YthemnajgdoambaaW.PrintLast Go.Proofs.YthemnajgdoambaaW.PrintMore Go.Proofs.Ythemnajgdoambaa.Tr
set_option linter.unusedVariables false
set_option linter.unusedSimpArgs false

theorem R_any {w : World} {base base' : Nat} {ok ok' : Nat → Prop} {v : Value} {xs : List S36} (h : Kd.R k36 36 w base ok v xs) (h' : ∀ k, v.ownBlock = some k → ok' k) : Kd.R k36 36 w base ok' v xs := by
  obtain ⟨_, inner, ho, hr⟩ := h
  exact ⟨h', inner, ho, hr.imp_ (fun p c hp => by rw [k36_openM hp]; exact k36_mkM _ _ _ p)⟩

def cls (c : S36) : List Value := [.int .i64 c.f0, .int .i64 c.f1, .bool c.f2, .bool c.f3]

theorem R_cls {w : World} {base : Nat} {ok : Nat → Prop} {g n cap : Nat} {xs : List S36} (h : Kd.R k36 36 w base ok (.slice (some ⟨g, 0, none⟩) n cap) xs) (i : Nat) (hi : i < n) :
    ∀ j u, (cls (rd_T36 xs i))[j]? = some u → w.cell? ⟨g, i * 4 + j, none⟩ = some u := by
  obtain ⟨hn, hc, hC⟩ := Kd.R_reads' h
  subst hn
  obtain ⟨ad, e, x0, x1, x2, x3⟩ := at_T36 hC (i : Int) (by omega) (by omega)
  cases e
  rw [Int.toNat_natCast, add_plain] at x0 x1 x2 x3
  intro j u hj
  match j, hj with
  | 0, hj => simp [cls] at hj; subst hj; exact x0
  | 1, hj => simp [cls] at hj; subst hj; exact x1
  | 2, hj => simp [cls] at hj; subst hj; exact x2
  | 3, hj => simp [cls] at hj; subst hj; exact x3
  | j + 4, hj => simp [cls] at hj

/-- One cell of circuit i is written. -/
theorem R_put1 {w : World} {base : Nat} {ok : Nat → Prop} {g n cap : Nat} {xs : List S36} (h : Kd.R k36 36 w base ok (.slice (some ⟨g, 0, none⟩) n cap) xs) (i j : Nat) (hi : i < n) (hj : j < 4) (v : Value) (c' : S36) (hc : cls c' = (cls (rd_T36 xs i)).set j v) :
    Kd.R k36 36 (w.setCell ⟨g, i * 4 + j, none⟩ v) base ok (.slice (some ⟨g, 0, none⟩) n cap) (xs.set i c') := by
  have h2 := (Kd.R_seg (d := k36) (e := 36) (okp := fun _ => False) h (i : Int) (by omega) (by omega) (c := cls (rd_T36 xs i)) (seg := [v]) (j := j) rfl (by rw [Int.toNat_natCast]; exact R_cls h i hi) (by show j + 1 ≤ 4; omega) (x' := c') (by
    have e : (cls (rd_T36 xs i)).take j ++ [v] ++ (cls (rd_T36 xs i)).drop (j + [v].length) = cls c' := by
      rw [hc]
      match j, hj with
      | 0, _ => rfl
      | 1, _ => rfl
      | 2, _ => rfl
      | 3, _ => rfl
    rw [e]
    exact k36_mkM _ _ _ c') (fun k hk => hk.elim)).1
  rw [Int.toNat_natCast] at h2
  exact h2

theorem rd_set {xs : List S36} {i : Nat} (hi : i < xs.length) (c : S36) : rd_T36 (xs.set i c) i = c := by
  unfold rd_T36
  simp [List.getD_eq_getElem?_getD, hi]

/-- What a method does to the line and to the circuit: the row that it lies in goes on with the new circuit. -/
structure Upd (W W' : World) (lb g i : Nat) (vd : Int) (c' : S36) : Prop where
  below : ∀ B, B ≤ lb → B ≤ g → B ≤ W.heap.size → Below B W W'
  blk : ∀ k, k < W.heap.size → k ≠ lb → k ≠ g → W'.heap[k]? = W.heap[k]?
  vd : W'.cell? ⟨lb, 2, none⟩ = some (.int .i64 vd)
  row : ∀ (base n cap : Nat) (xs : List S36), i < n → Kd.R k36 36 W base (fun k => k = g) (.slice (some ⟨g, 0, none⟩) n cap) xs → Kd.R k36 36 W' base (fun k => k = g) (.slice (some ⟨g, 0, none⟩) n cap) (xs.set i c')

theorem blk_setCell {W : World} {p : Addr} {u : Value} (k : Nat) (h : k ≠ p.block) : (W.setCell p u).heap[k]? = W.heap[k]? := Below.heap_setCell W p u k h

set_option maxHeartbeats 1000000 in
set_option maxRecDepth 100000 in
theorem clone_calls (A : Option Addr) (c : Nat) (l : List S36) (w : World) (hr : Kd.C k36 w A l.length l) (hl : l.length ≤ 1000) :
    Calls Try.prog 53 #[.slice A l.length c] w fun e w' => ∃ v : Value, e = .returned v ∧ Kd.R k36 36 w' w.heap.size (fun _ => True) v l ∧ Below w.heap.size w w' := by
  rcases A with _ | ad0
  · have hz : l.length = 0 := by
      rcases Nat.eq_zero_or_pos l.length with h0 | h0
      · exact h0
      · obtain ⟨ad, e, _⟩ := hr.2.2 h0
        cases e
    obtain rfl : l = [] := List.eq_nil_of_length_eq_zero hz
    clear hr hz
    have hq : ∀ (W : World) (n c : Nat), (binOp .eql 24 (.slice none n c) (.slice none 0 0)).run Try.prog W = .ok (.bool true) W := fun W n c => Lib.run_eql_slice_nil W 24 36 none n c 0 0 Try.underlying24
    go_enter Try.func53, Try.ntmps53
    go_wp2
    go_ret
    exact ⟨_, rfl, Kd.R_nil _ _ _ _ _, Below.refl _ _⟩
  have hq : ∀ (W : World) (n c : Nat), (binOp .eql 24 (.slice (some ad0) n c) (.slice none 0 0)).run Try.prog W = .ok (.bool false) W := fun W n c => Lib.run_eql_slice_nil W 24 36 (some ad0) n c 0 0 Try.underlying24
  have HR := Aside0.mk hr
  clear hr
  have HB := Aside0.mk (Below.refl w.heap.size w)
  go_enter Try.func53, Try.ntmps53
  go_wp2_with (first | ((with_reducible refine gate_dst (N := 5) rfl ?_); refine Kd.R_lit k36 _ 36 ?hg (N := 5) ?hd (xs := ([] : List S36)) (inner := []) (ok := fun _ => True) (okp := fun _ => True) ?hr ?hp (fun _ hk => hk) trivial (Below.refl _ _) (Nat.le_refl _) (by simp) ?_; (case hd => rfl); (case hg => rfl); (case hr => first | (go_simp; done) | (go_simp; rfl)); (case hp => exact (Reps.none _ _)); intro v102 w3 ho4 hb hg_ hnew_; clear hg_ hnew_; have n0_ := Aside0.mk (Kd.R_lower ho4 (below_size HB.out)); have n1_ := Aside0.mk (below_step HB.out hb); clear HB; have HO103 := n0_; have HB := n1_; clear n0_ n1_; clear hb ho4) | ((with_reducible refine gate_builtin (b := .append) (xs := #[.tmp 5, .tmp 6]) rfl ?_); at_builtin; refine Kd.R_append_rows (α := S36) k36 (Rr := k36.K w3) (w0 := w) w.heap.size rfl (.tmp 5) (.tmp 6) 24 36 (.agg #[(.int .i64 0), (.int .i64 0), (.bool false), (.bool false)]) 24 rfl Try.underlying24 info36 rfl ?q1 ?q2 v102 ([] : List S36) l (some ad0) l.length c (fun _ => True) (fun _ => False) rfl rfl ?aO ?aR ?aK ?q3 ?aF ?aB ?aS ?aL ?_; (case q1 => exact (by decide : 0 < 4)); (case q2 => omega); (case q3 => exact fun _ h => h.elim); (case aK => exact fun x cs h => by rw [k36_open h]; exact k36_mkM _ _ _ x); (case aR => exact (Kd.C_below HR.out HB.out)); (case aB => exact HB.out); (case aF => exact (fun _ _ => trivial)); (case aO => exact HO103.out); (case aS => exact (below_size HB.out)); (case aL => simp only [List.length_nil]; omega); intro v104 w4 ho hb hg hat; have n0_ := Aside0.mk hb; have n1_ := Aside0.mk ho; clear HB HO103; have HB := n0_; have HO := n1_; clear n0_ n1_; clear ho hb hg hat))
  go_ret
  exact ⟨_, rfl, HO.out, HB.out⟩

end Go.Proofs.Ythemnajgdoambaa.Th
