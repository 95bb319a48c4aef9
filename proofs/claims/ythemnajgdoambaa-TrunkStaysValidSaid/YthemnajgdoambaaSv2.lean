/-
  TrunkStaysValid: a slice of changes that comes in.
-/
import Derived.Test.YthemnajgdoambaaSv1
import Derived.OpenShut
namespace Go.Proofs.Ythemnajgdoambaa.Th
open Go.ChangeShapes Go.WideShapes Go.ChangeAt Go.RowKit Go.Joins Go.Proofs.YthemnajgdoambaaW.PrintWords Go.Proofs.YthemnajgdoambaaW.PrintLast Go.Proofs.YthemnajgdoambaaW.PrintMore Go.Proofs.Ythemnajgdoambaa.Tr
set_option linter.unusedVariables false
set_option linter.unusedSimpArgs false
variable {H : Type} {enc : TypeId × Value → H} {w : World} {base : Nat} {sp : Nat → Bool} {held : Bool}
theorem cells59 : Try.prog.cellsOf 59 = 5 := by kernel_rfl

set_option maxRecDepth 100000 in
theorem open59 {fuel : Nat} {l : List Value} {y : DataW H × List MemPlace} (h : DataW.trod enc Try.prog w base sp held fuel 59 l = some y) : ∃ s : S59, l = [.int .i64 s.f0, .int .i64 s.f1, .int .i64 s.f2, .bool s.f3, .bool s.f4] := by
  obtain ⟨xs, n, _, _, hl, hlen, hfd⟩ := DataW.trod_struct Try.underlying59 h
  rw [cells59] at hl
  have hlen : xs.length = 5 := hlen
  obtain ⟨c0, c1, c2, c3, c4, rfl⟩ : ∃ c0 c1 c2 c3 c4, l = [c0, c1, c2, c3, c4] := by
    match l, hl with
    | [c0, c1, c2, c3, c4], _ => exact ⟨c0, c1, c2, c3, c4, rfl⟩
  obtain ⟨x0, x1, x2, x3, x4, rfl⟩ : ∃ c0 c1 c2 c3 c4, xs = [c0, c1, c2, c3, c4] := by
    match xs, hlen with
    | [c0, c1, c2, c3, c4], _ => exact ⟨c0, c1, c2, c3, c4, rfl⟩
  have h0 := hfd 0 _ rfl
  have h1 := hfd 1 _ rfl
  have h2 := hfd 2 _ rfl
  have h3 := hfd 3 _ rfl
  have h4 := hfd 4 _ rfl
  simp [cells3, cells4] at h0 h1 h2 h3 h4
  obtain ⟨n0, e0, _, w0⟩ := DataW.trod_int Try.underlying3 h0
  obtain ⟨n1, e1, _, w1⟩ := DataW.trod_int Try.underlying3 h1
  obtain ⟨n2, e2, _, w2⟩ := DataW.trod_int Try.underlying3 h2
  obtain ⟨b3, e3, _⟩ := DataW.trod_bool Try.underlying4 h3
  obtain ⟨b4, e4, _⟩ := DataW.trod_bool Try.underlying4 h4
  simp at e0 e1 e2 e3 e4
  subst e0 e1 e2 e3 e4
  exact ⟨⟨n0, n1, n2, b3, b4⟩, rfl⟩

set_option maxRecDepth 100000 in
theorem open57 {r : Reach} {b0 : Nat} {v : Value} {d : DataW H} {p : List MemPlace} (hv : Value.okWide Try.prog w r b0 57 v) (h : DataW.Trod enc Try.prog w base sp held 57 v d p) :
    ∃ (A : Option Addr) (l : List S59) (c : Nat), v = .slice A l.length c ∧ l.length ≤ c ∧ Kd.C k59 w A l.length l := by
  obtain ⟨a0, len0, cap0, rfl⟩ := okWide_slice Try.underlying57 hv
  obtain ⟨fuel, hf⟩ := h
  rcases DataW.trod_slice Try.underlying57 hf with ⟨hcs, _⟩ | ⟨a, len, cap, elems, rest, n, _, hcs, _, hb, hl, hm, hlen, hel, _, _⟩
  · simp [Value.cells] at hcs
    obtain ⟨rfl, rfl, rfl⟩ := hcs
    exact ⟨none, [], 0, rfl, Nat.le_refl _, Kd.C_nil _ _⟩
  · simp [Value.cells] at hcs
    obtain ⟨rfl, rfl, rfl⟩ := hcs
    rw [cells59] at hel
    have each : ∀ i, i < len0 → ∃ c : S59, ∀ j u, (([.int .i64 c.f0, .int .i64 c.f1, .int .i64 c.f2, .bool c.f3, .bool c.f4] : List Value))[j]? = some u → w.cell? (a.add (i * 5 + j)) = some u := by
      intro i hi
      have hx := hel i hi
      have he : i < elems.length := by omega
      rw [List.getElem?_eq_getElem he] at hx
      obtain ⟨cs, hcs, ht⟩ := Option.bind_eq_some_iff.1 hx
      obtain ⟨c, rfl⟩ := open59 ht
      obtain ⟨_, hlen4, hcell⟩ := World.cells?_some hcs
      refine ⟨c, fun j u hu => ?_⟩
      have hj4 : j < 5 := (List.getElem?_eq_some_iff.1 hu).1
      have hq := hcell j hj4
      rw [hu, add_add] at hq
      exact hq
    have hex : ∃ l : List S59, l.length = len0 ∧ ∀ i c, l[i]? = some c → ∀ j u, (([.int .i64 c.f0, .int .i64 c.f1, .int .i64 c.f2, .bool c.f3, .bool c.f4] : List Value))[j]? = some u → w.cell? (a.add (i * 5 + j)) = some u := by
      refine ⟨(List.range len0).map (fun i => if h : i < len0 then (each i h).choose else z59), by simp, fun i c hc => ?_⟩
      have hi : i < len0 := by
        have := (List.getElem?_eq_some_iff.1 hc).1
        simpa using this
      rw [List.getElem?_map, List.getElem?_range hi] at hc
      simp [hi] at hc
      subst hc
      exact (each i hi).choose_spec
    obtain ⟨l, rfl, hall⟩ := hex
    exact ⟨some a, l, cap0, rfl, hl, ⟨rfl, Nat.le_trans hl (Nat.le_trans hm (by decide)), fun _ => ⟨a, rfl, fun j p hp => ⟨_, rfl, k59_mk w p, fun i u hu => hall j p hp i u hu⟩⟩⟩⟩
end Go.Proofs.Ythemnajgdoambaa.Th
