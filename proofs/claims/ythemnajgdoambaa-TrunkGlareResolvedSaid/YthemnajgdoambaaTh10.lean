/-
  Pick of the package trunk, by hand: the exported function.
-/
import Derived.Test.YthemnajgdoambaaTh9
import Derived.RangeFuncNested
import Derived.RangeFuncBound
import Derived.RangeFuncCalls
import Derived.RangeFuncLeaves
import Derived.Shelf.Abstract
import Derived.Shelf.RegionOpen
import Derived.WalkKit
import Derived.OwnWalkIn
import Derived.TacticsInMore
import Derived.LoopNIn
import Derived.LoopIn
namespace Go.Proofs.Ythemnajgdoambaa.Th
open Go.RowKit Go.Shelf Go.Proofs.YthemnajgdoambaaW.PrintWords Go.Proofs.YthemnajgdoambaaW.PrintLast Go.Proofs.YthemnajgdoambaaW.PrintMore Go.Proofs.Ythemnajgdoambaa.Tr
set_option linter.unusedVariables false
set_option linter.unusedSimpArgs false
attribute [local go_sem] Oper.semAt_some

theorem own_block {β : Type} {B k : Nat} (o : Obj) (hk : k < B) : OwnFrom B (fun (_ : β) V => V.heap[k]? = some o) := fun s V V' row hs hg hr =>
  (hg.block k (Array.getElem?_eq_some_iff.1 hs).1 (fun e => by have := (hr k e.symm).1; omega)).trans hs

theorem blk1 {V : World} {k : Nat} {v : Value} {t : TypeId} (h : V.heap[k]? = some (.cells #[v] t (0, 0))) : V.cell? ⟨k, 0, none⟩ = some v ∧ V.frozen? ⟨k, 0, none⟩ = false := by
  constructor
  · simp [World.cell?, h]
  · simp [World.frozen?, h]
theorem blk_set {V : World} {k : Nat} {v u : Value} {t : TypeId} (h : V.heap[k]? = some (.cells #[v] t (0, 0))) : (V.setCell ⟨k, 0, none⟩ u).heap[k]? = some (.cells #[u] t (0, 0)) := by
  have hlt := (Array.getElem?_eq_some_iff.1 h).1
  simp [World.setCell, Array.getElem?_modify, h]
theorem below_put {B : Nat} {w V : World} {k : Nat} (h : Below B w V) (hk : B ≤ k) (hs : k < V.heap.size) (o : Obj) : Below B w (V.putObj k o) :=
  h.grown (grownBy_putObj' V k o) (Nat.le_trans hk (Nat.le_of_lt hs)) (fun j e => by cases e; exact hk)

theorem range_enter {F : Fence} {n : Nat} {P : Program} {g : Operand} {ps : Array Tmp} {assign body : Code} {Q : Exit → Act → World → Prop} {a : Act} {w : World} (hro : F.round = none) (h1 : 1 ≤ n) {gf : Nat} {lb : Array Value}
    (hg : a.eval g = .func (.func gf) #[] lb) (hFg : F.fn gf) (eg : ∀ args w, (callFunc gf args).run P w = .ok (.enter gf args) w)
    (h : ∀ r : Loop, F.fn r.fn → r.state = .ready → r.pending = none → r.tmps = a.tmps → r.params = ps → r.assign = assign → r.body = body → r.defers = w.heap.size →
      CallsIn F (n - 1) P gf (#[.func (.yield (w.heap.size + 1)) #[] #[]] ++ lb) ((w.alloc (.deferred (some []))).alloc (.loop r)) (rangePost F n P (w.heap.size + 1) Q { a with defers := [{ target := .collected w.heap.size, args := #[] }] ++ a.defers })) :
    (Code.rangeFunc g ps assign body).wpIn F n P Q a w := by
  refine wpIn_rangeFunc ?_
  intro fn hfn
  rw [hro]
  refine ⟨w.heap.size + 1, ?_⟩
  refine ⟨[{ target := .collected w.heap.size, args := #[] }], ?_⟩
  refine ⟨(w.alloc (.deferred (some []))).alloc (.loop { state := .ready, pending := none, fn, tmps := a.tmps, params := ps, assign, body, defers := w.heap.size }), ?_⟩
  refine ⟨{ target := .fn (.func gf) lb, args := #[.func (.yield (w.heap.size + 1)) #[] #[]] }, ?_⟩
  refine ⟨(w.alloc (.deferred (some []))).alloc (.loop { state := .ready, pending := none, fn, tmps := a.tmps, params := ps, assign, body, defers := w.heap.size }), ?_⟩
  refine ⟨gf, #[.func (.yield (w.heap.size + 1)) #[] #[]] ++ lb, ?_⟩
  refine ⟨(w.alloc (.deferred (some []))).alloc (.loop { state := .ready, pending := none, fn, tmps := a.tmps, params := ps, assign, body, defers := w.heap.size }), ?_⟩
  refine ⟨run_enterLoop_outer _ _ _ _ _, ?_⟩
  refine ⟨?_, ?_, ?_, fun _ => h1, h _ hfn rfl rfl rfl rfl rfl rfl rfl⟩
  · simp only [resolve, hg]
    simp [go_sem]
  · intro f' hf'
    simp [Target.leads] at hf'
    subst hf'
    exact hFg
  · simp [invoke, go_sem, eg]

set_option maxRecDepth 100000 in
set_option maxHeartbeats 4000000 in
theorem pick_calls (a b : Int) (A : Option Addr) (c : Nat) (l : List S36) (hl : l.length ≤ 60) (hc : l.length ≤ c) (w : World) (hC : Kd.C k36 w A l.length l) :
    Calls Try.prog 24 #[.agg #[.int .i64 a, .int .i64 b, .slice A l.length c]] w fun e w' => e = .returned (.tuple #[.int .i64 ((pickS a b l).getD 0), .bool (pickS a b l).isSome]) ∧ Below w.heap.size w w' := by
  refine (callsIn_wide (n := 8)).1 ?_
  refine callsIn_of_wp_marks Try.func24 rfl trivial ?_ rfl
  simp only [Try.ntmps24, List.size_toArray, List.length_cons, List.length_nil, Nat.reduceAdd, Nat.reduceSub, Array.replicate_succ, Array.replicate_zero, List.push_toArray, List.append_toArray, List.nil_append, List.cons_append]
  gi_wp2_with (refine ⟨trivial, ?_⟩; gi_at_call 45; refine (callsIn_wide.2 (candidates_calls _ _ _ _)).mono ?_; rintro e w1 ⟨rfl, rfl⟩)
  have hB0 : Below w.heap.size w ((((w.alloc (.cells #[.int .i64 a, .int .i64 b, .slice A l.length c] 26)).alloc (.cells #[.int .i64 0] 3)).alloc (.cells #[.bool false] 4)).alloc (.cells #[.int .i64 a, .int .i64 b, .slice A l.length c] 26)) := below_alloc (below_alloc (below_alloc (below_alloc (Below.refl _ _) _) _) _) _
  have b1 : ((((w.alloc (.cells #[.int .i64 a, .int .i64 b, .slice A l.length c] 26)).alloc (.cells #[.int .i64 0] 3)).alloc (.cells #[.bool false] 4)).alloc (.cells #[.int .i64 a, .int .i64 b, .slice A l.length c] 26)).heap[w.heap.size + 1]? = some (.cells #[.int .i64 0] 3 (0, 0)) :=
    (Below.heap_alloc _ _ _ (by simp <;> omega)).trans ((Below.heap_alloc _ _ _ (by simp)).trans (by have := World.alloc_heap_new (w.alloc (.cells #[.int .i64 a, .int .i64 b, .slice A l.length c] 26)) (.cells #[.int .i64 0] 3); rwa [World.size_alloc] at this))
  have b2 : ((((w.alloc (.cells #[.int .i64 a, .int .i64 b, .slice A l.length c] 26)).alloc (.cells #[.int .i64 0] 3)).alloc (.cells #[.bool false] 4)).alloc (.cells #[.int .i64 a, .int .i64 b, .slice A l.length c] 26)).heap[w.heap.size + 1 + 1]? = some (.cells #[.bool false] 4 (0, 0)) :=
    (Below.heap_alloc _ _ _ (by simp)).trans (by have := World.alloc_heap_new ((w.alloc (.cells #[.int .i64 a, .int .i64 b, .slice A l.length c] 26)).alloc (.cells #[.int .i64 0] 3)) (.cells #[.bool false] 4); rwa [World.size_alloc, World.size_alloc] at this)
  have t0 : ((((w.alloc (.cells #[.int .i64 a, .int .i64 b, .slice A l.length c] 26)).alloc (.cells #[.int .i64 0] 3)).alloc (.cells #[.bool false] 4)).alloc (.cells #[.int .i64 a, .int .i64 b, .slice A l.length c] 26)).cell? ⟨w.heap.size + 1 + 1 + 1, 0, none⟩ = some (.int .i64 a) := by go_simp
  have t1 : ((((w.alloc (.cells #[.int .i64 a, .int .i64 b, .slice A l.length c] 26)).alloc (.cells #[.int .i64 0] 3)).alloc (.cells #[.bool false] 4)).alloc (.cells #[.int .i64 a, .int .i64 b, .slice A l.length c] 26)).cell? ⟨w.heap.size + 1 + 1 + 1, 1, none⟩ = some (.int .i64 b) := by go_simp
  have t2 : ((((w.alloc (.cells #[.int .i64 a, .int .i64 b, .slice A l.length c] 26)).alloc (.cells #[.int .i64 0] 3)).alloc (.cells #[.bool false] 4)).alloc (.cells #[.int .i64 a, .int .i64 b, .slice A l.length c] 26)).cell? ⟨w.heap.size + 1 + 1 + 1, 2, none⟩ = some (.slice A l.length c) := by go_simp
  have hs0 : ((((w.alloc (.cells #[.int .i64 a, .int .i64 b, .slice A l.length c] 26)).alloc (.cells #[.int .i64 0] 3)).alloc (.cells #[.bool false] 4)).alloc (.cells #[.int .i64 a, .int .i64 b, .slice A l.length c] 26)).heap.size = w.heap.size + 4 := by simp
  have hz : w.heap.size + 4 ≤ ((((w.alloc (.cells #[.int .i64 a, .int .i64 b, .slice A l.length c] 26)).alloc (.cells #[.int .i64 0] 3)).alloc (.cells #[.bool false] 4)).alloc (.cells #[.int .i64 a, .int .i64 b, .slice A l.length c] 26)).heap.size := Nat.le_of_eq hs0.symm
  clear hs0
  have hC0 := Kd.C_below hC hB0
  generalize (((w.alloc (.cells #[.int .i64 a, .int .i64 b, .slice A l.length c] 26)).alloc (.cells #[.int .i64 0] 3)).alloc (.cells #[.bool false] 4)).alloc (.cells #[.int .i64 a, .int .i64 b, .slice A l.length c] 26) = W0 at *
  refine range_enter rfl (by decide) (gf := 71) (lb := #[.pointer (some ⟨w.heap.size + 1 + 1 + 1, 0, none⟩)]) rfl trivial (enters_of Try.func71 (by kernel_rfl) rfl) ?_
  intro r hfn hst hpe htm hpa has hbo hde
  replace hst := Aside0.mk hst
  replace hpe := Aside0.mk hpe
  replace htm := Aside0.mk htm
  replace hpa := Aside0.mk hpa
  replace has := Aside0.mk has
  replace hbo := Aside0.mk hbo
  clear hde
  have hl1 : ((W0.alloc (.deferred (some []))).alloc (.loop r)).heap[W0.heap.size + 1]? = some (.loop r) := by
    have := World.alloc_heap_new (W0.alloc (.deferred (some []))) (.loop r); rwa [World.size_alloc] at this
  have hD1 : ((W0.alloc (.deferred (some []))).alloc (.loop r)).heap[W0.heap.size]? = some (.deferred (some [])) := (Below.heap_alloc _ _ _ (by simp)).trans (World.alloc_heap_new W0 _)
  have hB1 : Below W0.heap.size W0 ((W0.alloc (.deferred (some []))).alloc (.loop r)) := below_alloc (below_alloc (Below.refl _ _) _) _
  have hs1 : ((W0.alloc (.deferred (some []))).alloc (.loop r)).heap.size = W0.heap.size + 2 := by simp
  have hz1 : W0.heap.size + 2 ≤ ((W0.alloc (.deferred (some []))).alloc (.loop r)).heap.size := Nat.le_of_eq hs1.symm
  clear hs1
  have c1 := (hB1.block (w.heap.size + 1) (by omega)).trans b1
  have c2 := (hB1.block (w.heap.size + 1 + 1) (by omega)).trans b2
  have hBw : Below w.heap.size w ((W0.alloc (.deferred (some []))).alloc (.loop r)) := hB0.trans (hB1.mono (by omega))
  have hC1 := Kd.C_below hC0 hB1
  have s0 := pw_cell_below hB1 t0
  have s1 := pw_cell_below hB1 t1
  have s2 := pw_cell_below hB1 t2
  generalize (W0.alloc (.deferred (some []))).alloc (.loop r) = W1 at *
  refine (cand_in 7 (by decide) (W0.heap.size + 1) (w.heap.size + 1 + 1 + 1) c a b A l hl hc W1 hC1 s0 s1 s2
    (fun _ V => V.heap[W0.heap.size + 1]? = some (.loop r) ∧ V.heap[W0.heap.size]? = some (.deferred (some [])) ∧ V.heap[w.heap.size + 1]? = some (.cells #[.int .i64 0] 3 (0, 0)) ∧ V.heap[w.heap.size + 1 + 1]? = some (.cells #[.bool false] 4 (0, 0)) ∧ Below w.heap.size w V)
    (fun i V => V.heap[W0.heap.size + 1]? = some (.loop { r with state := .done, pending := some .ret }) ∧ V.heap[W0.heap.size]? = some (.deferred (some [])) ∧ V.heap[w.heap.size + 1]? = some (.cells #[.int .i64 i] 3 (0, 0)) ∧ V.heap[w.heap.size + 1 + 1]? = some (.cells #[.bool true] 4 (0, 0)) ∧ Below w.heap.size w V)
    (OwnFrom.and (own_block _ (by omega)) (OwnFrom.and (own_block _ (by omega)) (OwnFrom.and (own_block _ (by omega)) (OwnFrom.and (own_block _ (by omega)) (ownFrom_below (Nat.le_refl _) (by omega))))))
    (OwnFrom.and (own_block _ (by omega)) (OwnFrom.and (own_block _ (by omega)) (OwnFrom.and (fun i V V' row hs hg hr => own_block (β := Unit) (.cells #[.int .i64 i] 3 (0, 0)) (by omega) () V V' row hs hg hr) (OwnFrom.and (own_block _ (by omega)) (ownFrom_below (Nat.le_refl _) (by omega))))))
    ?_ W1 (Below.refl _ _) ⟨hl1, hD1, c1, c2, hBw⟩).mono ?_
  · rintro m i V ⟨hl, hD, d1, d2, hBV⟩
    have hy := run_yield (P := Try.prog) (args := #[.int .i64 i]) hl (by rw [hpa.out]; rfl)
    refine ⟨r.fn, _, r.assign, r.body, hy, roundIn_of_wpIn hfn ?_⟩
    have hlt := (Array.getElem?_eq_some_iff.1 hl).1
    generalize hdr : Obj.loop { r with state := .done, pending := some .ret } = dr
    rw [has.out, hbo.out, htm.out, hpa.out]
    gi_wp2
    refine ⟨_, run_beginRound hl hst.out, ?_⟩
    have o1 : ∀ o, (V.putObj (W0.heap.size + 1) o).heap[w.heap.size + 1]? = some (.cells #[.int .i64 0] 3 (0, 0)) := fun o => (World.putObj_heap_other (by omega)).trans d1
    have o2 : ∀ o, (V.putObj (W0.heap.size + 1) o).heap[w.heap.size + 1 + 1]? = some (.cells #[.bool false] 4 (0, 0)) := fun o => (World.putObj_heap_other (by omega)).trans d2
    have o3 : ∀ o, (V.putObj (W0.heap.size + 1) o).heap[W0.heap.size]? = some (.deferred (some [])) := fun o => (World.putObj_heap_other (by omega)).trans hD
    have o4 : ∀ o, (V.putObj (W0.heap.size + 1) o).heap[W0.heap.size + 1]? = some o := fun o => World.putObj_heap_same hlt
    have hBo : ∀ o, Below w.heap.size w (V.putObj (W0.heap.size + 1) o) := fun o => below_put hBV (by omega) hlt o
    have hko : ∀ o k, W1.heap.size ≤ k → (V.putObj (W0.heap.size + 1) o).heap[k]? = V.heap[k]? := fun o k hk => World.putObj_heap_other (by omega)
    have hso : ∀ o, (V.putObj (W0.heap.size + 1) o).heap.size = V.heap.size := fun o => by simp [World.putObj]
    have p1 := o1 (.loop { r with state := .busy })
    have p2 := o2 (.loop { r with state := .busy })
    have p3 := o3 (.loop { r with state := .busy })
    have p4 := o4 (.loop { r with state := .busy })
    have p5 := hBo (.loop { r with state := .busy })
    have p6 := hko (.loop { r with state := .busy })
    have p7 := hso (.loop { r with state := .busy })
    clear o1 o2 o3 o4 hBo hko hso
    generalize V.putObj (W0.heap.size + 1) (.loop { r with state := .busy }) = V1 at *
    obtain ⟨e1, f1⟩ := blk1 p1
    obtain ⟨e2, f2⟩ := blk1 p2
    gi_wp2
    have q1 : ((V1.setCell ⟨w.heap.size + 1, 0, none⟩ (.int .i64 i)).setCell ⟨w.heap.size + 1 + 1, 0, none⟩ (.bool true)).heap[w.heap.size + 1]? = some (.cells #[.int .i64 i] 3 (0, 0)) := (Below.heap_setCell _ ⟨w.heap.size + 1 + 1, 0, none⟩ _ _ (show w.heap.size + 1 ≠ w.heap.size + 1 + 1 by omega)).trans (blk_set p1)
    have q2 : ((V1.setCell ⟨w.heap.size + 1, 0, none⟩ (.int .i64 i)).setCell ⟨w.heap.size + 1 + 1, 0, none⟩ (.bool true)).heap[w.heap.size + 1 + 1]? = some (.cells #[.bool true] 4 (0, 0)) := blk_set ((Below.heap_setCell _ ⟨w.heap.size + 1, 0, none⟩ _ _ (show w.heap.size + 1 + 1 ≠ w.heap.size + 1 by omega)).trans p2)
    have qo : ∀ k, k ≠ w.heap.size + 1 → k ≠ w.heap.size + 1 + 1 → ((V1.setCell ⟨w.heap.size + 1, 0, none⟩ (.int .i64 i)).setCell ⟨w.heap.size + 1 + 1, 0, none⟩ (.bool true)).heap[k]? = V1.heap[k]? := fun k k1 k2 => (Below.heap_setCell _ ⟨w.heap.size + 1 + 1, 0, none⟩ _ k k2).trans (Below.heap_setCell _ ⟨w.heap.size + 1, 0, none⟩ _ k k1)
    have q5 : Below w.heap.size w ((V1.setCell ⟨w.heap.size + 1, 0, none⟩ (.int .i64 i)).setCell ⟨w.heap.size + 1 + 1, 0, none⟩ (.bool true)) := Below.setCell (p := ⟨w.heap.size + 1 + 1, 0, none⟩) (Below.setCell (p := ⟨w.heap.size + 1, 0, none⟩) p5 (show w.heap.size ≤ w.heap.size + 1 by omega) _) (show w.heap.size ≤ w.heap.size + 1 + 1 by omega) _
    have q7 : ((V1.setCell ⟨w.heap.size + 1, 0, none⟩ (.int .i64 i)).setCell ⟨w.heap.size + 1 + 1, 0, none⟩ (.bool true)).heap.size = V1.heap.size := by simp
    have q3 := (qo W0.heap.size (by omega) (by omega)).trans p3
    have q4 := (qo (W0.heap.size + 1) (by omega) (by omega)).trans p4
    generalize (V1.setCell ⟨w.heap.size + 1, 0, none⟩ (.int .i64 i)).setCell ⟨w.heap.size + 1 + 1, 0, none⟩ (.bool true) = V3 at *
    have hlt3 := (Array.getElem?_eq_some_iff.1 q4).1
    refine ⟨_, _, run_endRound (some .ret) q4, rfl, ⟨?_, (World.putObj_heap_other (by omega)).trans q3, (World.putObj_heap_other (by omega)).trans q1, (World.putObj_heap_other (by omega)).trans q2, below_put q5 (by omega) hlt3 _⟩, ?_⟩
    · rw [← hdr]
      exact World.putObj_heap_same hlt3
    · refine ⟨by rw [show ∀ (X : World) l o, (X.putObj l o).heap.size = X.heap.size from fun X l o => by simp [World.putObj], q7, p7]; exact Nat.le_refl _, fun k o hk h _ => ?_⟩
      exact (World.putObj_heap_other (by omega)).trans ((qo k (by omega) (by omega)).trans ((p6 k hk).trans h))
  · rintro e V ⟨⟨v, rfl⟩, (⟨hp, hl, hD, d1, d2, hBV⟩ | ⟨i, hp, hl, hD, d1, d2, hBV⟩)⟩
    · refine ⟨_, _, run_endLoop hl (by rw [hst.out]; simp), ?_⟩
      rw [hpe.out]
      have hlt := (Array.getElem?_eq_some_iff.1 hl).1
      have r1 : ∀ o, (V.putObj (W0.heap.size + 1) o).heap[w.heap.size + 1]? = some (.cells #[.int .i64 0] 3 (0, 0)) := fun o => (World.putObj_heap_other (by omega)).trans d1
      have r2 : ∀ o, (V.putObj (W0.heap.size + 1) o).heap[w.heap.size + 1 + 1]? = some (.cells #[.bool false] 4 (0, 0)) := fun o => (World.putObj_heap_other (by omega)).trans d2
      have rD : ∀ o, (V.putObj (W0.heap.size + 1) o).heap[W0.heap.size]? = some (.deferred (some [])) := fun o => (World.putObj_heap_other (by omega)).trans hD
      have rB : ∀ o, Below w.heap.size w (V.putObj (W0.heap.size + 1) o) := fun o => below_put hBV (by omega) hlt o
      generalize Obj.loop _ = o
      replace r1 := r1 o
      replace r2 := r2 o
      replace rD := rD o
      replace rB := rB o
      generalize V.putObj (W0.heap.size + 1) o = V1 at *
      obtain ⟨e1, f1⟩ := blk1 r1
      obtain ⟨e2, f2⟩ := blk1 r2
      dsimp only
      gi_wp2
      have q1 : ((V1.setCell ⟨w.heap.size + 1, 0, none⟩ (.int .i64 0)).setCell ⟨w.heap.size + 1 + 1, 0, none⟩ (.bool false)).heap[w.heap.size + 1]? = some (.cells #[.int .i64 0] 3 (0, 0)) := (Below.heap_setCell _ ⟨w.heap.size + 1 + 1, 0, none⟩ _ _ (show w.heap.size + 1 ≠ w.heap.size + 1 + 1 by omega)).trans (blk_set r1)
      have q2 : ((V1.setCell ⟨w.heap.size + 1, 0, none⟩ (.int .i64 0)).setCell ⟨w.heap.size + 1 + 1, 0, none⟩ (.bool false)).heap[w.heap.size + 1 + 1]? = some (.cells #[.bool false] 4 (0, 0)) := blk_set ((Below.heap_setCell _ ⟨w.heap.size + 1, 0, none⟩ _ _ (show w.heap.size + 1 + 1 ≠ w.heap.size + 1 by omega)).trans r2)
      have q3 : ((V1.setCell ⟨w.heap.size + 1, 0, none⟩ (.int .i64 0)).setCell ⟨w.heap.size + 1 + 1, 0, none⟩ (.bool false)).heap[W0.heap.size]? = some (.deferred (some [])) := (Below.heap_setCell _ ⟨w.heap.size + 1 + 1, 0, none⟩ _ _ (show W0.heap.size ≠ w.heap.size + 1 + 1 by omega)).trans ((Below.heap_setCell _ ⟨w.heap.size + 1, 0, none⟩ _ _ (show W0.heap.size ≠ w.heap.size + 1 by omega)).trans rD)
      have q5 : Below w.heap.size w ((V1.setCell ⟨w.heap.size + 1, 0, none⟩ (.int .i64 0)).setCell ⟨w.heap.size + 1 + 1, 0, none⟩ (.bool false)) := Below.setCell (p := ⟨w.heap.size + 1 + 1, 0, none⟩) (Below.setCell (p := ⟨w.heap.size + 1, 0, none⟩) rB (show w.heap.size ≤ w.heap.size + 1 by omega) _) (show w.heap.size ≤ w.heap.size + 1 + 1 by omega) _
      clear r1 r2 rD rB e1 e2 f1 f2
      generalize (V1.setCell ⟨w.heap.size + 1, 0, none⟩ (.int .i64 0)).setCell ⟨w.heap.size + 1 + 1, 0, none⟩ (.bool false) = V2 at *
      have r1 := q1
      have r2 := q2
      have rD := q3
      have rB := q5
      refine ⟨by simp, .inl ⟨_, _, rfl, run_takeDeferred rD, ?_⟩⟩
      have k1 := (blk1 ((World.putObj_heap_other (o := .deferred none) (show w.heap.size + 1 ≠ W0.heap.size by omega)).trans r1)).1
      have k2 := (blk1 ((World.putObj_heap_other (o := .deferred none) (show w.heap.size + 1 + 1 ≠ W0.heap.size by omega)).trans r2)).1
      have hltD := (Array.getElem?_eq_some_iff.1 rD).1
      refine ⟨.tuple #[.int .i64 0, .bool false], ?_, rfl, below_put rB (by omega) hltD _⟩
      simp [results, Try.results24, go_sem, k1, k2]
    · refine ⟨_, _, run_endLoop hl (by simp), ?_⟩
      have hlt := (Array.getElem?_eq_some_iff.1 hl).1
      have r1 : ∀ o, (V.putObj (W0.heap.size + 1) o).heap[w.heap.size + 1]? = some (.cells #[.int .i64 i] 3 (0, 0)) := fun o => (World.putObj_heap_other (by omega)).trans d1
      have r2 : ∀ o, (V.putObj (W0.heap.size + 1) o).heap[w.heap.size + 1 + 1]? = some (.cells #[.bool true] 4 (0, 0)) := fun o => (World.putObj_heap_other (by omega)).trans d2
      have rD : ∀ o, (V.putObj (W0.heap.size + 1) o).heap[W0.heap.size]? = some (.deferred (some [])) := fun o => (World.putObj_heap_other (by omega)).trans hD
      have rB : ∀ o, Below w.heap.size w (V.putObj (W0.heap.size + 1) o) := fun o => below_put hBV (by omega) hlt o
      dsimp only
      generalize Obj.loop _ = o
      replace r1 := r1 o
      replace r2 := r2 o
      replace rD := rD o
      replace rB := rB o
      generalize V.putObj (W0.heap.size + 1) o = V1 at *
      gi_wp2
      refine ⟨by simp, .inl ⟨_, _, rfl, run_takeDeferred rD, ?_⟩⟩
      have k1 := (blk1 ((World.putObj_heap_other (o := .deferred none) (show w.heap.size + 1 ≠ W0.heap.size by omega)).trans r1)).1
      have k2 := (blk1 ((World.putObj_heap_other (o := .deferred none) (show w.heap.size + 1 + 1 ≠ W0.heap.size by omega)).trans r2)).1
      have hltD := (Array.getElem?_eq_some_iff.1 rD).1
      refine ⟨.tuple #[.int .i64 i, .bool true], ?_, rfl, below_put rB (by omega) hltD _⟩
      simp [results, Try.results24, go_sem, k1, k2]

end Go.Proofs.Ythemnajgdoambaa.Th
