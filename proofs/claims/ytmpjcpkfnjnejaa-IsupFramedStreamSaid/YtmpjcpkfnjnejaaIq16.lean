/-
  A slice of messages that comes in: what a row says of it.
-/
import Derived.Test.YtmpjcpkfnjnejaaIq12
namespace Go.Proofs.Ytmpjcpkfnjnejaa.Iq
open Go.ChangeShapes Go.WideShapes Go.ChangeAt Go.RowKit Go.Joins Go.Proofs.YtmpjcpkfnjnejaaW.PrintWords Go.Proofs.YtmpjcpkfnjnejaaW.PrintLast Go.Proofs.YtmpjcpkfnjnejaaW.PrintMore Go.Proofs.Ytmpjcpkfnjnejaa.Is
set_option linter.unusedVariables false
set_option linter.unusedSimpArgs false
variable {H : Type} {enc : TypeId × Value → H} {w : World} {base : Nat} {sp : Nat → Bool} {held : Bool}

theorem addr_add2 (a : Addr) (m n : Nat) : (a.add m).add n = a.add (m + n) := by
  unfold Addr.add
  by_cases h1 : m = 0
  · subst h1
    simp
  · by_cases h2 : n = 0
    · subst h2
      simp [h1]
    · simp [h1, h2, Nat.add_assoc]
set_option maxRecDepth 100000 in
theorem openSigs {r : Reach} {b0 : Nat} {v : Value} {d : DataW H} {p : List MemPlace} (hv : Value.okWide Try.prog w r b0 37 v) (h : DataW.Trod enc Try.prog w base sp held 37 v d p) :
    ∃ (A : Option Addr) (l : List S23) (c : Nat), v = .slice A l.length c ∧ l.length ≤ c ∧ Kd.C k23 w A l.length l := by
  obtain ⟨a0, len0, cap0, rfl⟩ := okWide_slice Try.underlying37 hv
  obtain ⟨fuel, hf⟩ := h
  rcases DataW.trod_slice Try.underlying37 hf with ⟨hcs, _⟩ | ⟨a, len, cap, elems, rest, n, _, hcs, _, hb, hl, hm, hlen, hel, _, _⟩
  · simp [Value.cells] at hcs
    obtain ⟨rfl, rfl, rfl⟩ := hcs
    exact ⟨none, [], 0, rfl, Nat.le_refl _, Kd.C_nil _ _⟩
  · simp [Value.cells] at hcs
    obtain ⟨rfl, rfl, rfl⟩ := hcs
    rw [cellsSig] at hel
    have each : ∀ i, i < len0 → ∃ c : S23, ∀ j u, ([.int .i64 c.f0, .int .i64 c.f1, .int .i64 c.f2, .int .i64 c.f3, .int .i64 c.f4, .string c.f5, .string c.f6, .string c.f7, .bool c.f8, .bool c.f9] : List Value)[j]? = some u → w.cell? (a.add (i * 10 + j)) = some u := by
      intro i hi
      have hx := hel i hi
      have he : i < elems.length := by omega
      rw [List.getElem?_eq_getElem he] at hx
      obtain ⟨cs, hcs, ht⟩ := Option.bind_eq_some_iff.1 hx
      obtain ⟨s, rfl, _⟩ := openCells ht
      obtain ⟨_, hlen4, hcell⟩ := World.cells?_some hcs
      refine ⟨⟨s.kind, s.circuit, s.ref, s.hops, s.cause, s.called, s.calling, s.digits, s.emergency, s.reverse⟩, fun j u hu => ?_⟩
      have hu : s.cells.toList[j]? = some u := hu
      have hj4 : j < 10 := (List.getElem?_eq_some_iff.1 hu).1
      have hq := hcell j hj4
      rw [hu, addr_add2] at hq
      exact hq
    have hex : ∃ l : List S23, l.length = len0 ∧ ∀ i c, l[i]? = some c → ∀ j u, ([.int .i64 c.f0, .int .i64 c.f1, .int .i64 c.f2, .int .i64 c.f3, .int .i64 c.f4, .string c.f5, .string c.f6, .string c.f7, .bool c.f8, .bool c.f9] : List Value)[j]? = some u → w.cell? (a.add (i * 10 + j)) = some u := by
      refine ⟨(List.range len0).map (fun i => if h : i < len0 then (each i h).choose else z23), by simp, fun i c hc => ?_⟩
      have hi : i < len0 := by
        have := (List.getElem?_eq_some_iff.1 hc).1
        simpa using this
      rw [List.getElem?_map, List.getElem?_range hi] at hc
      simp [hi] at hc
      subst hc
      exact (each i hi).choose_spec
    obtain ⟨l, rfl, hall⟩ := hex
    exact ⟨some a, l, cap0, rfl, hl, ⟨rfl, Nat.le_trans hl (Nat.le_trans hm (by decide)), fun _ => ⟨a, rfl, fun j p hp => ⟨_, rfl, k23_mk w p, fun i u hu => hall j p hp i u hu⟩⟩⟩⟩
end Go.Proofs.Ytmpjcpkfnjnejaa.Iq
