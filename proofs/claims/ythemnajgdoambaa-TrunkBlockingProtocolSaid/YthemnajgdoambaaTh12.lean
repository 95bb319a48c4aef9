/-
  A group that comes in by value: what a row says of it.
-/
import Derived.Test.YthemnajgdoambaaTr0
import Derived.Lib.SmallJoins
import Derived.WalkKit
import Derived.OpenShut
namespace Go.Proofs.Ythemnajgdoambaa.Th
open Go.ChangeShapes Go.WideShapes Go.ChangeAt Go.RowKit Go.Joins Go.Proofs.YthemnajgdoambaaW.PrintWords Go.Proofs.YthemnajgdoambaaW.PrintLast Go.Proofs.YthemnajgdoambaaW.PrintMore Go.Proofs.Ythemnajgdoambaa.Tr
set_option linter.unusedVariables false
set_option linter.unusedSimpArgs false
variable {H : Type} {enc : TypeId × Value → H} {w : World} {base : Nat} {sp : Nat → Bool} {held : Bool}

theorem cells36 : Try.prog.cellsOf 36 = 4 := by kernel_rfl
theorem cells26 : Try.prog.cellsOf 26 = 3 := by kernel_rfl
theorem cells3 : Try.prog.cellsOf 3 = 1 := by kernel_rfl
theorem cells4 : Try.prog.cellsOf 4 = 1 := by kernel_rfl

theorem add_add (a : Addr) (m n : Nat) : (a.add m).add n = a.add (m + n) := by
  unfold Addr.add
  by_cases hm : m = 0 <;> by_cases hn : n = 0 <;> simp [hm, hn, Nat.add_assoc]

set_option maxRecDepth 100000 in
theorem open36 {fuel : Nat} {cs : List Value} {y : DataW H × List MemPlace} (h : DataW.trod enc Try.prog w base sp held fuel 36 cs = some y) :
    ∃ c : S36, cs = [.int .i64 c.f0, .int .i64 c.f1, .bool c.f2, .bool c.f3] ∧ (Lit.int .i64 c.f0).wf = true ∧ (Lit.int .i64 c.f1).wf = true := by
  obtain ⟨y0, y1, y2, y3, n, _, hl, h0, h1, h2, h3⟩ := trod_struct4 Try.underlying36 h
  rw [cells36] at hl
  obtain ⟨c0, c1, c2, c3, rfl⟩ : ∃ c0 c1 c2 c3, cs = [c0, c1, c2, c3] := by
    match cs, hl with
    | [c0, c1, c2, c3], _ => exact ⟨c0, c1, c2, c3, rfl⟩
  simp only [cells3, cells4] at h0 h1 h2 h3
  obtain ⟨n0, e0, _, w0⟩ := DataW.trod_int Try.underlying3 h0
  obtain ⟨n1, e1, _, w1⟩ := DataW.trod_int Try.underlying3 h1
  obtain ⟨b2, e2, _⟩ := DataW.trod_bool Try.underlying4 h2
  obtain ⟨b3, e3, _⟩ := DataW.trod_bool Try.underlying4 h3
  simp at e0 e1 e2 e3
  subst e0 e1 e2 e3
  exact ⟨⟨n0, n1, b2, b3⟩, rfl, w0, w1⟩

theorem open24 {fuel : Nat} {v : Value} {y : DataW H × List MemPlace} (h : DataW.trod enc Try.prog w base sp held fuel 24 [v] = some y) :
    ∃ (A : Option Addr) (l : List S36) (c : Nat), v = .slice A l.length c ∧ l.length ≤ c ∧ Kd.C k36 w A l.length l ∧ ∀ x ∈ l, (Lit.int .i64 x.f0).wf = true ∧ (Lit.int .i64 x.f1).wf = true := by
  rcases DataW.trod_slice Try.underlying24 h with ⟨hcs, _⟩ | ⟨a, len, cap, elems, rest, n, _, hcs, _, hb, hl, hm, hlen, hel, _, _⟩
  · simp at hcs
    subst hcs
    exact ⟨none, [], 0, rfl, Nat.le_refl _, Kd.C_nil _ _, by simp⟩
  · simp at hcs
    subst hcs
    rw [cells36] at hel
    have each : ∀ i, i < len → ∃ c : S36, (∀ j u, (([.int .i64 c.f0, .int .i64 c.f1, .bool c.f2, .bool c.f3] : List Value))[j]? = some u → w.cell? (a.add (i * 4 + j)) = some u) ∧ (Lit.int .i64 c.f0).wf = true ∧ (Lit.int .i64 c.f1).wf = true := by
      intro i hi
      have hx := hel i hi
      have he : i < elems.length := by omega
      rw [List.getElem?_eq_getElem he] at hx
      obtain ⟨cs, hcs, ht⟩ := Option.bind_eq_some_iff.1 hx
      obtain ⟨c, rfl, w0, w1⟩ := open36 ht
      obtain ⟨_, hlen4, hcell⟩ := World.cells?_some hcs
      refine ⟨c, fun j u hu => ?_, w0, w1⟩
      have hj4 : j < 4 := (List.getElem?_eq_some_iff.1 hu).1
      have hq := hcell j hj4
      rw [hu, add_add] at hq
      exact hq
    have hex : ∃ l : List S36, l.length = len ∧ ∀ i c, l[i]? = some c → (∀ j u, (([.int .i64 c.f0, .int .i64 c.f1, .bool c.f2, .bool c.f3] : List Value))[j]? = some u → w.cell? (a.add (i * 4 + j)) = some u) ∧ (Lit.int .i64 c.f0).wf = true ∧ (Lit.int .i64 c.f1).wf = true := by
      refine ⟨(List.range len).map (fun i => if h : i < len then (each i h).choose else ⟨0, 0, false, false⟩), by simp, fun i c hc => ?_⟩
      have hi : i < len := by
        have := (List.getElem?_eq_some_iff.1 hc).1
        simpa using this
      rw [List.getElem?_map, List.getElem?_range hi] at hc
      simp [hi] at hc
      subst hc
      exact (each i hi).choose_spec
    obtain ⟨l, rfl, hall⟩ := hex
    refine ⟨some a, l, cap, rfl, hl, ⟨rfl, Nat.le_trans hl (Nat.le_trans hm (by decide)), fun _ => ⟨a, rfl, fun j p hp => ⟨_, rfl, k36_mk w p, fun i u hu => (hall j p hp).1 i u hu⟩⟩⟩, fun x hx => ?_⟩
    obtain ⟨i, hi⟩ := List.getElem?_of_mem hx
    exact (hall i x hi).2

set_option maxRecDepth 100000 in
theorem open26 {r : Reach} {b0 : Nat} {v : Value} {d : DataW H} {p : List MemPlace} (hv : Value.okWide Try.prog w r b0 26 v) (h : DataW.Trod enc Try.prog w base sp held 26 v d p) :
    ∃ (a b : Int) (A : Option Addr) (l : List S36) (c : Nat), v = .agg #[.int .i64 a, .int .i64 b, .slice A l.length c] ∧ l.length ≤ c ∧ Kd.C k36 w A l.length l ∧ (Lit.int .i64 a).wf = true ∧ (Lit.int .i64 b).wf = true ∧ ∀ x ∈ l, (Lit.int .i64 x.f0).wf = true ∧ (Lit.int .i64 x.f1).wf = true := by
  obtain ⟨v0, v1, v2, y0, y1, y2, n, rfl, _, _, h0, h1, h2⟩ := open_agg3 Try.underlying26 (by kernel_rfl) cells26 hv h
  obtain ⟨a, e0, _, w0⟩ := DataW.trod_int Try.underlying3 h0
  obtain ⟨b, e1, _, w1⟩ := DataW.trod_int Try.underlying3 h1
  simp at e0 e1
  subst e0 e1
  obtain ⟨A, l, c, rfl, hl, hC, hw⟩ := open24 h2
  exact ⟨a, b, A, l, c, rfl, hl, hC, w0, w1, hw⟩

end Go.Proofs.Ythemnajgdoambaa.Th
