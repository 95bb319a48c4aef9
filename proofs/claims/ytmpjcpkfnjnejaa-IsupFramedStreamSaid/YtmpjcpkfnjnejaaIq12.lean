/-
  A message that comes in by value: what a row says of it.
-/
import Derived.Test.YtmpjcpkfnjnejaaIq1
import Derived.Lib.SmallJoins
import Derived.WalkKit
import Derived.OpenShut
namespace Go.Proofs.Ytmpjcpkfnjnejaa.Iq
open Go.ChangeShapes Go.WideShapes Go.ChangeAt Go.RowKit Go.Joins Go.Proofs.YtmpjcpkfnjnejaaW.PrintWords Go.Proofs.YtmpjcpkfnjnejaaW.PrintLast Go.Proofs.YtmpjcpkfnjnejaaW.PrintMore Go.Proofs.Ytmpjcpkfnjnejaa.Is
set_option linter.unusedVariables false
set_option linter.unusedSimpArgs false
variable {H : Type} {enc : TypeId × Value → H} {w : World} {base : Nat} {sp : Nat → Bool} {held : Bool}

theorem cellsSig : Try.prog.cellsOf 23 = 10 := by kernel_rfl
theorem cells3 : Try.prog.cellsOf 3 = 1 := by kernel_rfl
theorem cells4 : Try.prog.cellsOf 4 = 1 := by kernel_rfl
theorem cellsStr : Try.prog.cellsOf 9 = 1 := by kernel_rfl

/-- The message's numbers are int64s. -/
def Wf (s : Sig) : Prop := (Lit.int .i64 s.kind).wf = true ∧ (Lit.int .i64 s.circuit).wf = true ∧ (Lit.int .i64 s.ref).wf = true ∧ (Lit.int .i64 s.hops).wf = true ∧ (Lit.int .i64 s.cause).wf = true

set_option maxRecDepth 100000 in
theorem openCells {fuel : Nat} {l : List Value} {y : DataW H × List MemPlace} (h : DataW.trod enc Try.prog w base sp held fuel 23 l = some y) : ∃ s : Sig, l = s.cells.toList ∧ Wf s := by
  obtain ⟨xs, n, _, _, hl, hlen, hfd⟩ := DataW.trod_struct Try.underlying23 h
  rw [cellsSig] at hl
  have hlen : xs.length = 10 := hlen
  obtain ⟨c0, c1, c2, c3, c4, c5, c6, c7, c8, c9, rfl⟩ : ∃ c0 c1 c2 c3 c4 c5 c6 c7 c8 c9, l = [c0, c1, c2, c3, c4, c5, c6, c7, c8, c9] := by
    match l, hl with
    | [c0, c1, c2, c3, c4, c5, c6, c7, c8, c9], _ => exact ⟨c0, c1, c2, c3, c4, c5, c6, c7, c8, c9, rfl⟩
  obtain ⟨x0, x1, x2, x3, x4, x5, x6, x7, x8, x9, rfl⟩ : ∃ c0 c1 c2 c3 c4 c5 c6 c7 c8 c9, xs = [c0, c1, c2, c3, c4, c5, c6, c7, c8, c9] := by
    match xs, hlen with
    | [c0, c1, c2, c3, c4, c5, c6, c7, c8, c9], _ => exact ⟨c0, c1, c2, c3, c4, c5, c6, c7, c8, c9, rfl⟩
  have h0 := hfd 0 _ rfl
  have h1 := hfd 1 _ rfl
  have h2 := hfd 2 _ rfl
  have h3 := hfd 3 _ rfl
  have h4 := hfd 4 _ rfl
  have h5 := hfd 5 _ rfl
  have h6 := hfd 6 _ rfl
  have h7 := hfd 7 _ rfl
  have h8 := hfd 8 _ rfl
  have h9 := hfd 9 _ rfl
  simp [cells3, cells4, cellsStr] at h0 h1 h2 h3 h4 h5 h6 h7 h8 h9
  obtain ⟨n0, e0, _, w0⟩ := DataW.trod_int Try.underlying3 h0
  obtain ⟨n1, e1, _, w1⟩ := DataW.trod_int Try.underlying3 h1
  obtain ⟨n2, e2, _, w2⟩ := DataW.trod_int Try.underlying3 h2
  obtain ⟨n3, e3, _, w3⟩ := DataW.trod_int Try.underlying3 h3
  obtain ⟨n4, e4, _, w4⟩ := DataW.trod_int Try.underlying3 h4
  obtain ⟨s5, e5, _, w5⟩ := DataW.trod_string Try.underlying9 h5
  obtain ⟨s6, e6, _, w6⟩ := DataW.trod_string Try.underlying9 h6
  obtain ⟨s7, e7, _, w7⟩ := DataW.trod_string Try.underlying9 h7
  obtain ⟨b8, e8, _⟩ := DataW.trod_bool Try.underlying4 h8
  obtain ⟨b9, e9, _⟩ := DataW.trod_bool Try.underlying4 h9
  simp at e0 e1 e2 e3 e4 e5 e6 e7 e8 e9
  subst e0 e1 e2 e3 e4 e5 e6 e7 e8 e9
  exact ⟨⟨n0, n1, n2, n3, n4, s5, s6, s7, b8, b9⟩, rfl, w0, w1, w2, w3, w4⟩
theorem openSig {r : Reach} {b0 : Nat} {v : Value} {d : DataW H} {p : List MemPlace} (hv : Value.okWide Try.prog w r b0 23 v) (h : DataW.Trod enc Try.prog w base sp held 23 v d p) :
    ∃ s : Sig, v = .agg s.cells ∧ Wf s := by
  obtain ⟨cs, rfl, hsz⟩ := okWide_struct Try.underlying23 hv
  obtain ⟨fuel, hf⟩ := h
  obtain ⟨s, e, hw⟩ := openCells hf
  refine ⟨s, ?_, hw⟩
  have e2 : cs.toList = s.cells.toList := by simpa [Value.cells] using e
  rw [Array.toList_inj.1 e2]
/-- A slice of bytes that comes in. -/
theorem openBytes {r : Reach} {b0 : Nat} {v : Value} {d : DataW H} {p : List MemPlace} (hv : Value.okWide Try.prog w r b0 24 v) (h : DataW.Trod enc Try.prog w base sp held 24 v d p) :
    ∃ (A : Option Addr) (l : List Int) (c : Nat), v = .slice A l.length c ∧ l.length ≤ c ∧ Kd.C (Kd.int .u8) w A l.length l ∧ ∀ x ∈ l, (Lit.int .u8 x).wf = true := by
  obtain ⟨a0, len0, cap0, rfl⟩ := okWide_slice Try.underlying24 hv
  obtain ⟨fuel, hf⟩ := h
  rcases open_ints Try.underlying24 Try.underlying5 (by kernel_rfl) hf with ⟨hcs, _⟩ | ⟨x, l, c, zs, hcs, _, hl, hm, hz, _, hcell, hwz⟩
  · simp [Value.cells] at hcs
    obtain ⟨rfl, rfl, rfl⟩ := hcs
    exact ⟨none, [], 0, rfl, Nat.le_refl _, (Kd.R_reads' (Kd.R_nil (Kd.int .u8) 5 w 0 (fun _ => True))).2.2, fun x hx => by simp at hx⟩
  · simp [Value.cells] at hcs
    obtain ⟨rfl, rfl, rfl⟩ := hcs
    have hlen : (zs.take len0).length = len0 := by
      rw [List.length_take]
      split at hz <;> omega
    refine ⟨some x, zs.take len0, cap0, by rw [hlen], by omega, ⟨rfl, Nat.le_trans (by omega : (zs.take len0).length ≤ cap0) (Nat.le_trans hm (by decide)), fun _ => ⟨x, rfl, fun j q hq => ⟨[.int .u8 q], rfl, rfl, fun i u hu => ?_⟩⟩⟩, fun n hn => hwz n (List.mem_of_mem_take hn)⟩
    have hi : i = 0 := by
      have := (List.getElem?_eq_some_iff.1 hu).1
      simpa using this
    subst hi
    have hj : j < len0 := by
      have := (List.getElem?_eq_some_iff.1 hq).1
      omega
    have hj2 : j < zs.length := by
      have := (List.getElem?_eq_some_iff.1 hq).1
      rw [List.length_take] at this
      omega
    have h := hcell j hj2
    have e : zs.getD j 0 = q := by
      rw [List.getElem?_take, if_pos hj] at hq
      rw [List.getD_eq_getElem?_getD, hq]
      rfl
    have eu : u = .int .u8 q := by simpa using hu.symm
    rw [eu, ← e]
    have e2 : j * (Kd.int .u8).sz + 0 = j := by show j * 1 + 0 = j; omega
    rw [e2]
    exact h
end Go.Proofs.Ytmpjcpkfnjnejaa.Iq
