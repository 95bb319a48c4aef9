/- IsupAcknowledgementValid: if a valid message has an acknowledgement, the message of that kind with the same circuit and call is valid, and it has no acknowledgement itself. -/
import Derived.Test.YtmpjcpkfnjnejaaIszIsupAcknowledgementValid
import Derived.Test.YtmpjcpkfnjnejaaIq13
import Derived.Test.YtmpjcpkfnjnejaaIq12
set_option linter.unusedVariables false
set_option linter.unusedSimpArgs false
namespace Go.Proofs.Ytmpjcpkfnjnejaa.Pure
open Go.RowKit Go.Proofs.Ytmpjcpkfnjnejaa.Is Go.Proofs.Ytmpjcpkfnjnejaa.Iq Go.Proofs.Ytmpjcpkfnjnejaa.Vm Go.Proofs.Ytmpjcpkfnjnejaa.Iv Go.Proofs.YtmpjcpkfnjnejaaW.PrintWords Go.Proofs.YtmpjcpkfnjnejaaW.PrintLast

theorem few_some (s : Sig) : ∃ b, crossbarref11_Few.f s.kind s.circuit s.ref s.hops s.cause s.called s.calling s.digits s.emergency s.reverse = some b := by
  unfold crossbarref11_Few.f
  split
  · split
    · exact ⟨_, rfl⟩
    · exact ⟨_, rfl⟩
  · exact ⟨_, rfl⟩
theorem check_f (s : Sig) : isup_Check.f s.kind s.circuit s.ref s.hops s.cause s.called s.calling s.digits s.emergency s.reverse = some (checkS s) := rfl
theorem check_zero {s : Sig} : checkS s = 0 ↔ validS_ s = true := by
  unfold checkS
  cases validS_ s <;> simp
def repS (k : Int) : Int := if k = 7 ∨ k = 13 then 8 else if k = 9 then 10 else if k = 11 then 12 else 0
theorem reply_f (k : Int) (n : Nat) : isup_Reply.f (n + 1) k = some (repS k) := by
  unfold isup_Reply.f isup_Reply.j0 repS
  by_cases h7 : k = 7
  · simp [h7]
  · by_cases h13 : k = 13
    · simp [h7, h13]
    · by_cases h9 : k = 9
      · simp [h7, h13, h9]
      · by_cases h11 : k = 11
        · simp [h7, h13, h9, h11]
        · simp [h7, h13, h9, h11]
theorem ack_valid {s : Sig} (h : validS_ s = true) (hr : repS s.kind ≠ 0) : validS_ ⟨repS s.kind, s.circuit, s.ref, 0, 0, noStr, noStr, noStr, false, false⟩ = true := by
  obtain ⟨hk, ho, hc⟩ := (valid_iff s).1 h
  rw [valid_iff]
  dsimp only
  have hcl : ∀ k r : Int, (8 < k → r = 0) → Iq.Clean ⟨k, s.circuit, r, 0, 0, noStr, noStr, noStr, false, false⟩ := fun k r hb => ⟨fun _ => ⟨rfl, rfl, rfl, rfl⟩, fun _ => rfl, fun _ => rfl, fun _ => rfl, hb⟩
  have hcirc : (Fd.int .circuit 0 47).ok s = true := by
    refine ho _ ?_
    rcases fields_cases s.kind with ⟨_, e⟩ | ⟨_, e⟩ | ⟨_, e⟩ | ⟨_, e⟩ | ⟨_, e⟩ | ⟨_, _, _, _, _, e⟩ <;> rw [e] <;> exact List.mem_cons_self
  have hc0 : ∀ k r : Int, (Fd.int .circuit 0 47).ok ⟨k, s.circuit, r, 0, 0, noStr, noStr, noStr, false, false⟩ = true := fun k r => hcirc
  by_cases h7 : s.kind = 7
  · have e : repS s.kind = 8 := by unfold repS; rw [if_pos (.inl h7)]
    have hrf : (Fd.int .ref 1 1099511627776).ok s = true := ho _ (by
      have e7 : fieldsS 7 = [.int .circuit 0 47, .int .ref 1 1099511627776, .int .cause 1 127] := rfl
      rw [h7, e7]
      simp)
    rw [e]
    refine ⟨by decide, fun d hd => ?_, hcl 8 _ (fun h => absurd h (by decide))⟩
    have e8 : fieldsS 8 = [.int .circuit 0 47, .int .ref 0 1099511627776] := rfl
    rw [e8] at hd
    simp only [List.mem_cons, List.not_mem_nil, or_false] at hd
    rcases hd with rfl | rfl
    · exact hc0 _ _
    · have hrf' : (decide (1 ≤ s.ref) && decide (s.ref ≤ 1099511627776)) = true := hrf
      rw [Bool.and_eq_true, decide_eq_true_eq, decide_eq_true_eq] at hrf'
      show (decide (0 ≤ s.ref) && decide (s.ref ≤ 1099511627776)) = true
      rw [Bool.and_eq_true, decide_eq_true_eq, decide_eq_true_eq]
      omega
  by_cases h13 : s.kind = 13
  · have e : repS s.kind = 8 := by unfold repS; rw [if_pos (.inr h13)]
    have hr0 : s.ref = 0 := hc.big (by omega)
    rw [e, hr0]
    refine ⟨by decide, fun d hd => ?_, hcl 8 _ (fun h => absurd h (by decide))⟩
    have e8 : fieldsS 8 = [.int .circuit 0 47, .int .ref 0 1099511627776] := rfl
    rw [e8] at hd
    simp only [List.mem_cons, List.not_mem_nil, or_false] at hd
    rcases hd with rfl | rfl
    · exact hc0 _ _
    · rfl
  have hbig : s.kind = 9 ∨ s.kind = 11 := by
    unfold repS at hr
    rw [if_neg (by omega)] at hr
    split at hr
    · exact .inl (by assumption)
    · split at hr
      · exact .inr (by assumption)
      · exact absurd rfl hr
  have hr0 : s.ref = 0 := hc.big (by omega)
  have hrange : 8 < repS s.kind ∧ repS s.kind ≤ 13 := by
    unfold repS
    rcases hbig with h | h <;> rw [h] <;> decide
  rw [hr0]
  refine ⟨by omega, fun d hd => ?_, hcl _ _ (fun _ => rfl)⟩
  have e8 : fieldsS (repS s.kind) = [.int .circuit 0 47] := by unfold fieldsS; rw [if_pos (by omega)]
  rw [e8] at hd
  simp only [List.mem_cons, List.not_mem_nil, or_false] at hd
  subst hd
  exact hc0 _ _
theorem rep_rep (k : Int) : repS (repS k) = 0 := by
  unfold repS
  split
  · decide
  · split
    · decide
    · split <;> decide

theorem IsupAcknowledgementValid (s : Sig) (_ : Wf s) : ∃ k, crossbarlaw11_IsupAcknowledgementValid.f k s.kind s.circuit s.ref s.hops s.cause s.called s.calling s.digits s.emergency s.reverse = some true := by
  refine ⟨2, ?_⟩
  obtain ⟨b, hf⟩ := few_some s
  unfold crossbarlaw11_IsupAcknowledgementValid.f
  simp only [crossbarlaw11_sane.f, Option.bind_some, if_true, hf, check_f]
  have hj : ∀ x : Bool, (x = false → validS_ s = true) → crossbarlaw11_IsupAcknowledgementValid.j0 2 x s.kind s.circuit s.ref s.hops s.cause s.called s.calling s.digits s.emergency s.reverse = some true := by
    intro x hx
    rw [crossbarlaw11_IsupAcknowledgementValid.j0]
    cases x with
    | true => rw [if_pos rfl]
    | false =>
      have hv := hx rfl
      rw [if_neg (by decide), reply_f]
      simp only [Option.bind_some]
      by_cases hr : repS s.kind = 0
      · have n7 : s.kind ≠ 7 := fun h => by rw [h] at hr; exact absurd hr (by decide)
        have n13 : s.kind ≠ 13 := fun h => by rw [h] at hr; exact absurd hr (by decide)
        have n9 : s.kind ≠ 9 := fun h => by rw [h] at hr; exact absurd hr (by decide)
        have n11 : s.kind ≠ 11 := fun h => by rw [h] at hr; exact absurd hr (by decide)
        rw [if_pos hr, if_neg n7, if_neg n13, if_neg n9]
        simp [n11]
      · rw [if_neg hr]
        have hch : isup_Check.f (repS s.kind) s.circuit s.ref 0 0 (⟨#[]⟩ : ByteArray) (⟨#[]⟩ : ByteArray) (⟨#[]⟩ : ByteArray) false false = some 0 := by
          have := check_f ⟨repS s.kind, s.circuit, s.ref, 0, 0, noStr, noStr, noStr, false, false⟩
          rw [check_zero.2 (ack_valid hv hr)] at this
          exact this
        rw [hch]
        simp only [Option.bind_some, if_true]
        rw [reply_f, rep_rep]
        rfl
  cases b with
  | true =>
    rw [if_pos rfl]
    refine hj _ (fun h => ?_)
    by_cases hc : checkS s = 0
    · exact check_zero.1 hc
    · simp [hc] at h
  | false =>
    rw [if_neg (by decide)]
    exact hj true (fun h => by cases h)
end Go.Proofs.Ytmpjcpkfnjnejaa.Pure
