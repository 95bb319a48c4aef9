/-
  isup.Decode, by hand: the deferred closure.
-/
import Derived.Test.YtmpjcpkfnjnejaaIq8
import Derived.Recover
import Derived.Defers
namespace Go.Proofs.Ytmpjcpkfnjnejaa.Iq
open Go.RowKit Go.Shelf Go.Proofs.YtmpjcpkfnjnejaaW.PrintWords Go.Proofs.YtmpjcpkfnjnejaaW.PrintLast Go.Proofs.YtmpjcpkfnjnejaaW.PrintMore Go.Proofs.Ytmpjcpkfnjnejaa.Is Go.Proofs.Ytmpjcpkfnjnejaa.Vm Go.Proofs.Ytmpjcpkfnjnejaa.Iv
set_option linter.unusedVariables false
set_option linter.unusedSimpArgs false

theorem catch_idle (k2 k3 : Nat) (w : World) : CallsD Try.prog 18 #[pt k2, pt k3] .returning w fun e u' w' => e = .returned (.tuple #[]) ∧ u' = .returning ∧ w' = w := by
  unfold pt
  refine callsD_of_wpS Try.func18 rfl fun c₀ cs hu => ?_
  apply wpS_seq
  apply wpS_region
  simp [wpOpsS, go_sem, recoverD, hu, Try.ntmps18, Exit.thenS]
  refine wpS_of_wp ?_
  simp only [Array.replicate_succ, Array.replicate_zero, List.push_toArray, List.append_toArray, List.nil_append, List.cons_append, List.setIfInBounds_toArray, List.set_cons_succ, List.set_cons_zero]
  go_wp2
  cases c₀
  simp_all [bodyPostS, results, Try.results18]

def pv (er : Int) : Value := .iface 54 (.agg #[.int .i64 er])
theorem blk_set {V : World} {k : Nat} {v u : Value} {t : TypeId} (h : V.heap[k]? = some (.cells #[v] t (0, 0))) : (V.setCell ⟨k, 0, none⟩ u).heap[k]? = some (.cells #[u] t (0, 0)) := by
  have hlt := (Array.getElem?_eq_some_iff.1 h).1
  simp [World.setCell, Array.getElem?_modify, h]
theorem set_at {W : World} {k j : Nat} {a : Array Value} {t : TypeId} {v : Value} (h : W.heap[k]? = some (.cells a t (0, 0))) : (W.setCell ⟨k, j, none⟩ v).heap[k]? = some (.cells (a.setIfInBounds j v) t (0, 0)) := by
  have hlt := (Array.getElem?_eq_some_iff.1 h).1
  simp [World.setCell, Array.getElem?_modify, h]
/-- The message's ten cells are written. -/
structure Zd (w W : World) (k : Nat) : Prop where
  at_ : At W k zSig
  below : ∀ B, B ≤ k → Below B w W
  far : ∀ j, j ≠ k → W.heap[j]? = w.heap[j]?
theorem zero10 {w : World} {k : Nat} {s0 : Sig} (h : At w k s0) : Zd w ((((((((((w.setCell ⟨k, 0, none⟩ (.int .i64 0)).setCell ⟨k, 1, none⟩ (.int .i64 0)).setCell ⟨k, 2, none⟩ (.int .i64 0)).setCell ⟨k, 3, none⟩ (.int .i64 0)).setCell ⟨k, 4, none⟩ (.int .i64 0)).setCell ⟨k, 5, none⟩ (.string ⟨#[]⟩)).setCell ⟨k, 6, none⟩ (.string ⟨#[]⟩)).setCell ⟨k, 7, none⟩ (.string ⟨#[]⟩)).setCell ⟨k, 8, none⟩ (.bool false)).setCell ⟨k, 9, none⟩ (.bool false)) k := by
  refine ⟨?_, fun B hB => ?_, fun j hj => ?_⟩
  · unfold At at h ⊢
    unfold Sig.cells at h
    have h0 := set_at (j := 0) (v := .int .i64 0) h
    simp only [List.setIfInBounds_toArray, List.set_cons_zero, List.set_cons_succ] at h0
    have h1 := set_at (j := 1) (v := .int .i64 0) h0
    simp only [List.setIfInBounds_toArray, List.set_cons_zero, List.set_cons_succ] at h1
    have h2 := set_at (j := 2) (v := .int .i64 0) h1
    simp only [List.setIfInBounds_toArray, List.set_cons_zero, List.set_cons_succ] at h2
    have h3 := set_at (j := 3) (v := .int .i64 0) h2
    simp only [List.setIfInBounds_toArray, List.set_cons_zero, List.set_cons_succ] at h3
    have h4 := set_at (j := 4) (v := .int .i64 0) h3
    simp only [List.setIfInBounds_toArray, List.set_cons_zero, List.set_cons_succ] at h4
    have h5 := set_at (j := 5) (v := .string ⟨#[]⟩) h4
    simp only [List.setIfInBounds_toArray, List.set_cons_zero, List.set_cons_succ] at h5
    have h6 := set_at (j := 6) (v := .string ⟨#[]⟩) h5
    simp only [List.setIfInBounds_toArray, List.set_cons_zero, List.set_cons_succ] at h6
    have h7 := set_at (j := 7) (v := .string ⟨#[]⟩) h6
    simp only [List.setIfInBounds_toArray, List.set_cons_zero, List.set_cons_succ] at h7
    have h8 := set_at (j := 8) (v := .bool false) h7
    simp only [List.setIfInBounds_toArray, List.set_cons_zero, List.set_cons_succ] at h8
    have h9 := set_at (j := 9) (v := .bool false) h8
    simp only [List.setIfInBounds_toArray, List.set_cons_zero, List.set_cons_succ] at h9
    rw [h9]
    rfl
  · have st : ∀ (W : World) (o : Nat) (v : Value), Below B w W → Below B w (W.setCell ⟨k, o, none⟩ v) := fun W o v h => Below.setCell (p := ⟨k, o, none⟩) h hB v
    exact st _ _ _ (st _ _ _ (st _ _ _ (st _ _ _ (st _ _ _ (st _ _ _ (st _ _ _ (st _ _ _ (st _ _ _ (st _ _ _ (Below.refl _ _))))))))))
  · have st : ∀ (W : World) (o : Nat) (v : Value), W.heap[j]? = w.heap[j]? → (W.setCell ⟨k, o, none⟩ v).heap[j]? = w.heap[j]? := fun W o v h => (Below.heap_setCell W ⟨k, o, none⟩ v j hj).trans h
    exact st _ _ _ (st _ _ _ (st _ _ _ (st _ _ _ (st _ _ _ (st _ _ _ (st _ _ _ (st _ _ _ (st _ _ _ (st _ _ _ rfl)))))))))
set_option maxHeartbeats 4000000 in
theorem catch_panic (k2 k3 : Nat) (er e0 : Int) (s0 : Sig) (w : World) (h2 : At w k2 s0) (h3 : w.heap[k3]? = some (.cells #[.int .i64 e0] 27 (0, 0))) (hn : k2 < k3) :
    CallsD Try.prog 18 #[pt k2, pt k3] (.panicking [{ v := pv er, recovered := false }]) w fun e u' w' => e = .returned (.tuple #[]) ∧ u' = .panicking [{ v := pv er, recovered := true }] ∧ At w' k2 zSig ∧ w'.cell? ⟨k3, 0, none⟩ = some (.int .i64 er) ∧ Below k2 w w' := by
  unfold pt pv
  have H2 := Aside0.mk h2
  have H3 := Aside0.mk h3
  have hta : ∀ (v : Value) (w : World), (Instr.typeAssert (.iface 54 v) 20 54 true).run Try.prog w = .ok (.tuple #[v, .bool true]) w := fun v w => by kernel_rfl
  have q0 := h2.kind
  have q1 := h2.int .circuit
  have q2 := h2.int .ref
  have q3 := h2.int .hops
  have q4 := h2.int .cause
  have q5 := h2.str .called
  have q6 := h2.str .calling
  have q7 := h2.str .digits
  have q8 := h2.bool .emergency
  have q9 := h2.bool .reverse
  simp only [IF.off, IF.get, SF.off, SF.get, BF.off, BF.get] at q1 q2 q3 q4 q5 q6 q7 q8 q9
  have q10 : w.cell? ⟨k3, 0, none⟩ = some (.int .i64 e0) := by simp [World.cell?, h3]
  have f2 := h2.frozen
  have f3 : ∀ j, w.frozen? ⟨k3, j, none⟩ = false := fun j => by simp [World.frozen?, h3]
  have l2 := h2.lt
  have l3 := (Array.getElem?_eq_some_iff.1 h3).1
  have n2 : k2 ≠ k3 := Nat.ne_of_lt hn
  have n3 : k3 ≠ k2 := Nat.ne_of_gt hn
  have l23 := Nat.le_of_lt hn
  clear h2 h3 hn
  refine callsD_of_wpS Try.func18 rfl fun c₀ cs hu => ?_
  apply wpS_seq
  apply wpS_region
  simp [wpOpsS, go_sem, recoverD, hu, Try.ntmps18, Exit.thenS]
  refine wpS_of_wp ?_
  simp only [Array.replicate_succ, Array.replicate_zero, List.push_toArray, List.append_toArray, List.nil_append, List.cons_append, List.setIfInBounds_toArray, List.set_cons_succ, List.set_cons_zero]
  go_wp2
  go_region
  have HZ := zero10 H2.out
  generalize (((((((((w.setCell ⟨k2, 0, none⟩ (.int .i64 0)).setCell ⟨k2, 1, none⟩ (.int .i64 0)).setCell ⟨k2, 2, none⟩ (.int .i64 0)).setCell ⟨k2, 3, none⟩ (.int .i64 0)).setCell ⟨k2, 4, none⟩ (.int .i64 0)).setCell ⟨k2, 5, none⟩ (.string ⟨#[]⟩)).setCell ⟨k2, 6, none⟩ (.string ⟨#[]⟩)).setCell ⟨k2, 7, none⟩ (.string ⟨#[]⟩)).setCell ⟨k2, 8, none⟩ (.bool false)).setCell ⟨k2, 9, none⟩ (.bool false) = W at HZ ⊢
  have hC := (HZ.far k3 n3).trans H3.out
  have hA := HZ.at_
  have hB := HZ.below k2 (Nat.le_refl _)
  clear HZ
  have hA1 := hp_set (p := ⟨k3, 0, none⟩) (u := .int .i64 er) hA n2
  have hC1 := blk_set (u := .int .i64 er) hC
  have hB1 : Below k2 w (W.setCell ⟨k3, 0, none⟩ (.int .i64 er)) := Below.setCell (p := ⟨k3, 0, none⟩) hB l23 _
  clear hA hC hB
  generalize W.setCell ⟨k3, 0, none⟩ (.int .i64 er) = W1 at hA1 hC1 hB1 ⊢
  have hA2 := hp_alloc (o' := .cells #[.int .i64 er] 54) hA1
  have hC2 := hp_alloc (o' := .cells #[.int .i64 er] 54) hC1
  have hB2 := hB1.alloc (by have := hB1.size; omega) (.cells #[.int .i64 er] 54)
  clear hA1 hC1 hB1
  generalize W1.alloc (.cells #[.int .i64 er] 54) = W2 at hA2 hC2 hB2 ⊢
  have hB3 := below_drew1 hB2
  have hD : W2.drew.cell? ⟨k3, 0, none⟩ = some (.int .i64 er) := by
    have : W2.drew.heap[k3]? = some (.cells #[.int .i64 er] 27 (0, 0)) := hC2
    simp [World.cell?, this]
  have hA3 : At W2.drew k2 zSig := hA2
  generalize W2.drew = W3 at hB3 hD hA3 ⊢
  clear hA2 hC2 hB2 q0 q1 q2 q3 q4 q5 q6 q7 q8 q9 q10 f2 f3 hta
  go_wp2
  simp [bodyPostS, results, Try.results18, hA3, hD, hB3]
end Go.Proofs.Ytmpjcpkfnjnejaa.Iq
