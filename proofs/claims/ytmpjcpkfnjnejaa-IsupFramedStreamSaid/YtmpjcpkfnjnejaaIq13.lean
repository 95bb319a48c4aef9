/-
  isup, plain Lean: Decode undoes Encode, Encode undoes Decode, prefixes are truncated, foreign fields are refused, replies are valid.
-/
import Derived.Test.YtmpjcpkfnjnejaaIq10
namespace Go.Proofs.Ytmpjcpkfnjnejaa.Iq
open Go.RowKit Go.Shelf Go.Proofs.YtmpjcpkfnjnejaaW.PrintWords Go.Proofs.YtmpjcpkfnjnejaaW.PrintLast Go.Proofs.YtmpjcpkfnjnejaaW.PrintMore Go.Proofs.Ytmpjcpkfnjnejaa.Is Go.Proofs.Ytmpjcpkfnjnejaa.Vm Go.Proofs.Ytmpjcpkfnjnejaa.Iv
set_option linter.unusedVariables false
set_option linter.unusedSimpArgs false

/-! ### what is left where a message is valid -/
theorem noStr_iff {x : ByteArray} : x.toList = noStr.toList ↔ x = noStr := by
  rw [toList_nil.2 (rfl : noStr = noStr)]
  exact toList_nil

structure Clean (s : Sig) : Prop where
  iam : s.kind ≠ 1 → s.hops = 0 ∧ s.called = noStr ∧ s.calling = noStr ∧ s.emergency = false
  sam : s.kind ≠ 2 → s.digits = noStr
  anm : s.kind ≠ 4 → s.reverse = false
  rel : s.kind ≠ 7 → s.cause = 0
  big : 8 < s.kind → s.ref = 0

/-- A field's value, from one message into another. -/
def Fd.cpy (s t : Sig) : Fd → Sig
  | .int f _ _ => f.set t (f.get s)
  | .addr f _ => f.set t (f.get s)
  | .bool f => f.set t (f.get s)
def cpyAll (l : List Fd) (s t : Sig) : Sig := l.foldl (fun t d => d.cpy s t) t

theorem fields_cases (k : Int) : (8 < k ∧ fieldsS k = [.int .circuit 0 47]) ∨
    (k = 1 ∧ fieldsS k = [.int .circuit 0 47, .int .ref 1 1099511627776, .int .hops 0 8, .addr .called .emergency, .addr .calling .always, .bool .emergency]) ∨
    (k = 2 ∧ fieldsS k = [.int .circuit 0 47, .int .ref 1 1099511627776, .addr .digits .never]) ∨
    (k = 4 ∧ fieldsS k = [.int .circuit 0 47, .int .ref 1 1099511627776, .bool .reverse]) ∨
    (k = 7 ∧ fieldsS k = [.int .circuit 0 47, .int .ref 1 1099511627776, .int .cause 1 127]) ∨
    (k ≤ 8 ∧ k ≠ 1 ∧ k ≠ 2 ∧ k ≠ 4 ∧ k ≠ 7 ∧ fieldsS k = [.int .circuit 0 47, .int .ref (leastS k) 1099511627776]) := by
  by_cases h8 : k > 8
  · exact .inl ⟨by omega, by unfold fieldsS; rw [if_pos h8]⟩
  have e : fieldsS k = [.int .circuit 0 47, .int .ref (leastS k) 1099511627776] ++ moreS k := by unfold fieldsS; rw [if_neg h8]
  by_cases h1 : k = 1
  · subst h1; exact .inr (.inl ⟨rfl, by rw [e]; rfl⟩)
  by_cases h2 : k = 2
  · subst h2; exact .inr (.inr (.inl ⟨rfl, by rw [e]; rfl⟩))
  by_cases h4 : k = 4
  · subst h4; exact .inr (.inr (.inr (.inl ⟨rfl, by rw [e]; rfl⟩)))
  by_cases h7 : k = 7
  · subst h7; exact .inr (.inr (.inr (.inr (.inl ⟨rfl, by rw [e]; rfl⟩))))
  refine .inr (.inr (.inr (.inr (.inr ⟨by omega, h1, h2, h4, h7, ?_⟩))))
  rw [e]
  unfold moreS
  rw [if_neg h1, if_neg h2, if_neg h4, if_neg h7]
  rfl

theorem bare_iff (s : Sig) : bare (clrAll (fieldsS s.kind) s) = true ↔ Clean s := by
  obtain ⟨k, c, r, h, ca, s5, s6, s7, b8, b9⟩ := s
  dsimp only
  rcases fields_cases k with ⟨hk, e⟩ | ⟨hk, e⟩ | ⟨hk, e⟩ | ⟨hk, e⟩ | ⟨hk, e⟩ | ⟨hk, n1, n2, n4, n7, e⟩ <;> rw [e] <;>
    simp only [clrAll, List.foldl, Fd.clr, IF.set, SF.set, BF.set, bare, Bool.and_eq_true, beq_iff_eq, noStr_iff, true_and, and_true]
  · exact ⟨fun ⟨a, b, c, d, e, f, g, h⟩ => ⟨fun _ => ⟨b, d, e, g⟩, fun _ => f, fun _ => h, fun _ => c, fun _ => a⟩, fun h => ⟨h.big hk, (h.iam (by simp only; omega)).1, h.rel (by simp only; omega), (h.iam (by simp only; omega)).2.1, (h.iam (by simp only; omega)).2.2.1, h.sam (by simp only; omega), (h.iam (by simp only; omega)).2.2.2, h.anm (by simp only; omega)⟩⟩
  · exact ⟨fun ⟨a, b, c⟩ => ⟨fun n => absurd hk n, fun _ => b, fun _ => c, fun _ => a, fun h => by simp only at h; omega⟩, fun h => ⟨h.rel (by simp only; omega), h.sam (by simp only; omega), h.anm (by simp only; omega)⟩⟩
  · exact ⟨fun ⟨a, b, c, d, e, f⟩ => ⟨fun _ => ⟨a, c, d, e⟩, fun n => absurd hk n, fun _ => f, fun _ => b, fun h => by simp only at h; omega⟩, fun h => ⟨(h.iam (by simp only; omega)).1, h.rel (by simp only; omega), (h.iam (by simp only; omega)).2.1, (h.iam (by simp only; omega)).2.2.1, (h.iam (by simp only; omega)).2.2.2, h.anm (by simp only; omega)⟩⟩
  · exact ⟨fun ⟨a, b, c, d, e, f⟩ => ⟨fun _ => ⟨a, c, d, f⟩, fun _ => e, fun n => absurd hk n, fun _ => b, fun h => by simp only at h; omega⟩, fun h => ⟨(h.iam (by simp only; omega)).1, h.rel (by simp only; omega), (h.iam (by simp only; omega)).2.1, (h.iam (by simp only; omega)).2.2.1, h.sam (by simp only; omega), (h.iam (by simp only; omega)).2.2.2⟩⟩
  · exact ⟨fun ⟨a, c, d, e, f, g⟩ => ⟨fun _ => ⟨a, c, d, f⟩, fun _ => e, fun _ => g, fun n => absurd hk n, fun h => by simp only at h; omega⟩, fun h => ⟨(h.iam (by simp only; omega)).1, (h.iam (by simp only; omega)).2.1, (h.iam (by simp only; omega)).2.2.1, h.sam (by simp only; omega), (h.iam (by simp only; omega)).2.2.2, h.anm (by simp only; omega)⟩⟩
  · exact ⟨fun ⟨a, b, c, d, e, f, g⟩ => ⟨fun _ => ⟨a, c, d, f⟩, fun _ => e, fun _ => g, fun _ => b, fun h => by simp only at h; omega⟩, fun h => ⟨(h.iam (by simp only; omega)).1, h.rel (by simp only; omega), (h.iam (by simp only; omega)).2.1, (h.iam (by simp only; omega)).2.2.1, h.sam (by simp only; omega), (h.iam (by simp only; omega)).2.2.2, h.anm (by simp only; omega)⟩⟩

theorem valid_iff (s : Sig) : validS_ s = true ↔ (1 ≤ s.kind ∧ s.kind ≤ 13) ∧ (∀ d ∈ fieldsS s.kind, d.ok s = true) ∧ Clean s := by
  unfold validS_ known
  simp only [Bool.and_eq_true, decide_eq_true_eq, List.all_eq_true, bare_iff]

/-- A valid message is its fields upon nothing but its kind. -/
theorem cpy_clean {s : Sig} (h : Clean s) : cpyAll (fieldsS s.kind) s { zSig with kind := s.kind } = s := by
  obtain ⟨k, c, r, hh, ca, s5, s6, s7, b8, b9⟩ := s
  obtain ⟨q1, q2, q3, q4, q5⟩ := h
  dsimp only at q1 q2 q3 q4 q5 ⊢
  rcases fields_cases k with ⟨hk, e⟩ | ⟨hk, e⟩ | ⟨hk, e⟩ | ⟨hk, e⟩ | ⟨hk, e⟩ | ⟨hk, n1, n2, n4, n7, e⟩ <;> rw [e] <;>
    simp only [cpyAll, List.foldl, Fd.cpy, IF.set, SF.set, BF.set, IF.get, SF.get, BF.get, zSig, Sig.mk.injEq, true_and, and_true]
  · have := q1 (by omega); have := q2 (by omega); have := q3 (by omega); have := q4 (by omega); have := q5 hk; simp [*]
  · have := q2 (by omega); have := q3 (by omega); have := q4 (by omega); simp [*]
  · have := q1 (by omega); have := q3 (by omega); have := q4 (by omega); simp [*]
  · have := q1 (by omega); have := q2 (by omega); have := q4 (by omega); simp [*]
  · have := q1 (by omega); have := q2 (by omega); have := q3 (by omega); simp [*]
  · have := q1 (by omega); have := q2 (by omega); have := q3 (by omega); have := q4 (by omega); simp [*]
end Go.Proofs.Ytmpjcpkfnjnejaa.Iq
