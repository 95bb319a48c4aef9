/- IsupRoundTrip: decoding the encoding of a valid message returns the message, and encoding a decoded message reproduces the bytes. -/
import Derived.Test.YtmpjcpkfnjnejaaIszIsupRoundTrip
import Derived.Test.YtmpjcpkfnjnejaaIq15
import Derived.Test.YtmpjcpkfnjnejaaIq12
set_option linter.unusedVariables false
namespace Go.Proofs.Ytmpjcpkfnjnejaa.Pure
open Go.RowKit Go.Proofs.Ytmpjcpkfnjnejaa.Is Go.Proofs.Ytmpjcpkfnjnejaa.Iq Go.Proofs.Ytmpjcpkfnjnejaa.Vm Go.Proofs.Ytmpjcpkfnjnejaa.Iv Go.Proofs.YtmpjcpkfnjnejaaW.PrintWords Go.Proofs.YtmpjcpkfnjnejaaW.PrintLast

theorem few_some (s : Sig) : ∃ b, crossbarref11_Few.f s.kind s.circuit s.ref s.hops s.cause s.called s.calling s.digits s.emergency s.reverse = some b := by
  unfold crossbarref11_Few.f
  split
  · split
    · exact ⟨_, rfl⟩
    · exact ⟨_, rfl⟩
  · exact ⟨_, rfl⟩
theorem encode_f (s : Sig) : isup_Encode.f s.kind s.circuit s.ref s.hops s.cause s.called s.calling s.digits s.emergency s.reverse = some (encS s, checkS s) := rfl
theorem check_f (s : Sig) : isup_Check.f s.kind s.circuit s.ref s.hops s.cause s.called s.calling s.digits s.emergency s.reverse = some (checkS s) := rfl
theorem decode_f {l : List Int} (hb : Bytes l) (hl : l.length ≤ 140737488351232) : isup_Decode.f l = some ((decS l).1.kind, (decS l).1.circuit, (decS l).1.ref, (decS l).1.hops, (decS l).1.cause, (decS l).1.called, (decS l).1.calling, (decS l).1.digits, (decS l).1.emergency, (decS l).1.reverse, (decS l).2) := by
  unfold isup_Decode.f
  exact if_pos ⟨hb, hl⟩
theorem check_zero {s : Sig} : checkS s = 0 ↔ validS_ s = true := by
  unfold checkS
  cases validS_ s <;> simp

theorem rt_back (l : List Int) (hb : Bytes l) (hl : l.length ≤ 500) (k : Nat) : crossbarlaw11_IsupRoundTrip.j1 (k + 1) l = some true := by
  rw [crossbarlaw11_IsupRoundTrip.j1, decode_f hb (by omega)]
  simp only [Option.bind_some]
  by_cases h : (decS l).2 = 0
  · obtain ⟨hv, he⟩ := dec_back hb h
    rw [if_pos h, encode_f, check_f]
    simp only [Option.bind_some]
    rw [if_pos (check_zero.2 hv), he, if_pos rfl, check_zero.2 hv]
    rfl
  · rw [if_neg h, dec_err h]
    have h0 : noStr.toList = [] := toList_nil.2 rfl
    simp [zSig, h0]

theorem IsupRoundTrip (s : Sig) (l : List Int) (_ : Wf s) (hb : Bytes l) : ∃ k, crossbarlaw11_IsupRoundTrip.f k s.kind s.circuit s.ref s.hops s.cause s.called s.calling s.digits s.emergency s.reverse l = some true := by
  refine ⟨2, ?_⟩
  obtain ⟨b, hf⟩ := few_some s
  unfold crossbarlaw11_IsupRoundTrip.f
  simp only [crossbarlaw11_sane.f, Option.bind_some, if_true, hf]
  have hj : ∀ x : Bool, (x = false → l.length ≤ 500) → crossbarlaw11_IsupRoundTrip.j0 2 l x s.kind s.circuit s.ref s.hops s.cause s.called s.calling s.digits s.emergency s.reverse = some true := by
    intro x hx
    cases x with
    | true => rw [crossbarlaw11_IsupRoundTrip.j0, if_pos rfl]
    | false =>
      have hl := hx rfl
      have hbk := rt_back l hb hl 0
      obtain ⟨e1, e2⟩ := enc_dec_all s
      rw [crossbarlaw11_IsupRoundTrip.j0, if_neg (by decide), encode_f, check_f]
      simp only [Option.bind_some]
      rw [if_neg (by simp)]
      by_cases hc : checkS s = 0
      · have hv := check_zero.1 hc
        rw [if_pos hc, decode_f e1 (by omega), dec_enc hv]
        simp [hbk]
      · rw [if_neg hc]
        exact hbk
  cases b with
  | true =>
    rw [if_pos rfl]
    refine hj _ (fun h => ?_)
    have := of_decide_eq_false h
    omega
  | false =>
    rw [if_neg (by decide)]
    exact hj true (fun h => by cases h)
end Go.Proofs.Ytmpjcpkfnjnejaa.Pure
