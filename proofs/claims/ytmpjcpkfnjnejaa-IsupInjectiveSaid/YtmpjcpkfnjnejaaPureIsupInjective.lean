/- IsupInjective: two valid messages have the same encoding if and only if they are equal. -/
import Derived.Test.YtmpjcpkfnjnejaaIszIsupInjective
import Derived.Test.YtmpjcpkfnjnejaaIq15
import Derived.Test.YtmpjcpkfnjnejaaIq12
set_option linter.unusedVariables false
namespace Go.Proofs.Ytmpjcpkfnjnejaa.Pure
open Go.RowKit Go.Proofs.Ytmpjcpkfnjnejaa.Is Go.Proofs.Ytmpjcpkfnjnejaa.Iq Go.Proofs.Ytmpjcpkfnjnejaa.Vm Go.Proofs.Ytmpjcpkfnjnejaa.Iv Go.Proofs.YtmpjcpkfnjnejaaW.PrintWords Go.Proofs.YtmpjcpkfnjnejaaW.PrintLast

theorem few_some (s : Sig) : ∃ b, crossbarref11_Few.f s.kind s.circuit s.ref s.hops s.cause s.called s.calling s.digits s.emergency s.reverse = some b := by
  unfold crossbarref11_Few.f
  split
  · split
    · exact ⟨_, rfl⟩
    · exact ⟨_, rfl⟩
  · exact ⟨_, rfl⟩
theorem encode_f (s : Sig) : isup_Encode.f s.kind s.circuit s.ref s.hops s.cause s.called s.calling s.digits s.emergency s.reverse = some (encS s, checkS s) := rfl
theorem check_zero {s : Sig} : checkS s = 0 ↔ validS_ s = true := by
  unfold checkS
  cases validS_ s <;> simp

theorem toList_eq {a b : ByteArray} : a.toList = b.toList ↔ a = b := by
  constructor
  · intro h
    rw [ByteArray.toList_eq, ByteArray.toList_eq] at h
    cases a
    cases b
    simpa using h
  · rintro rfl
    rfl
theorem sig_eq (s t : Sig) : (s.kind == t.kind && (s.circuit == t.circuit && (s.ref == t.ref && (s.hops == t.hops && (s.cause == t.cause && (s.called.toList == t.called.toList && (s.calling.toList == t.calling.toList && (s.digits.toList == t.digits.toList && (s.emergency == t.emergency && (s.reverse == t.reverse)))))))))) = true ↔ s = t := by
  obtain ⟨k, c, r, h, ca, s5, s6, s7, b8, b9⟩ := s
  obtain ⟨k', c', r', h', ca', s5', s6', s7', b8', b9'⟩ := t
  simp only [Bool.and_eq_true, beq_iff_eq, toList_eq, Sig.mk.injEq]

theorem IsupInjective (s t : Sig) (_ : Wf s) (_ : Wf t) : ∃ k, crossbarlaw11_IsupInjective.f k s.kind s.circuit s.ref s.hops s.cause s.called s.calling s.digits s.emergency s.reverse t.kind t.circuit t.ref t.hops t.cause t.called t.calling t.digits t.emergency t.reverse = some true := by
  refine ⟨1, ?_⟩
  obtain ⟨b, hf⟩ := few_some s
  obtain ⟨c, hg⟩ := few_some t
  unfold crossbarlaw11_IsupInjective.f
  simp only [crossbarlaw11_sane.f, Option.bind_some, if_true, hf, hg]
  have hj : ∀ x : Bool, crossbarlaw11_IsupInjective.j0 1 x s.kind s.circuit s.ref s.hops s.cause s.called s.calling s.digits s.emergency s.reverse t.kind t.circuit t.ref t.hops t.cause t.called t.calling t.digits t.emergency t.reverse = some true := by
    intro x
    rw [crossbarlaw11_IsupInjective.j0]
    cases x with
    | true => rw [if_pos rfl]
    | false =>
      rw [if_neg (by decide), encode_f, encode_f]
      simp only [Option.bind_some]
      by_cases h1 : checkS s = 0
      · by_cases h2 : checkS t = 0
        · rw [if_pos h1, if_pos h2]
          have v1 := check_zero.1 h1
          have v2 := check_zero.1 h2
          by_cases he : s = t
          · subst he
            rw [(sig_eq s s).2 rfl]
            simp
          · have hn := mt (sig_eq s t).1 he
            rw [Bool.not_eq_true] at hn
            rw [hn]
            have hx : ((strOfNums (encS s)).toList == (strOfNums (encS t)).toList) = false := by
              rw [beq_eq_false_iff_ne]
              intro h
              have h := congrArg bytesOf (toList_eq.1 h)
              rw [bytesOf_strOfNums (enc_bytes_all v1), bytesOf_strOfNums (enc_bytes_all v2)] at h
              have h := congrArg decS h
              rw [dec_enc v1, dec_enc v2] at h
              exact he (Prod.mk.inj h).1
            rw [hx]
            rfl
        · rw [if_pos h1, if_neg h2]
      · rw [if_neg h1]
  cases b with
  | true => rw [if_pos rfl]; exact hj _
  | false => rw [if_neg (by decide)]; exact hj true
end Go.Proofs.Ytmpjcpkfnjnejaa.Pure
