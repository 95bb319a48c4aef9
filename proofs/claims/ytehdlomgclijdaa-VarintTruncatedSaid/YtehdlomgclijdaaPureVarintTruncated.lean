/- VarintTruncated: every proper prefix of the encoding of an integer or of a byte string of at most 4000 bytes is rejected with ErrTruncated. -/
import Derived.Test.YtehdlomgclijdaaVix5
import Derived.Test.YtehdlomgclijdaaVc
set_option linter.unusedVariables false
namespace Go.Proofs.Ytehdlomgclijdaa.Pure
open Go.RowKit Go.Proofs.Ytehdlomgclijdaa.Vi Go.Proofs.YtehdlomgclijdaaW.PrintWords Go.Proofs.YtehdlomgclijdaaW.PrintLast Go.Proofs.Ytehdlomgclijdaa.Vm Go.Proofs.Ytehdlomgclijdaa.Vb Go.Proofs.Ytehdlomgclijdaa.Vc

theorem VarintTruncated : crossbarlaw01_VarintTruncated.Pure := by
  intro a0 l1 a2 w0 _ _ wl w2
  have hw := wf_u64 w0
  obtain ⟨v, rfl⟩ := Int.eq_ofNat_of_zero_le hw.1
  have hv : v < 18446744073709551616 := by omega
  have hb := wf_bytes wl
  refine ⟨100, ?_⟩
  unfold crossbarlaw01_VarintTruncated.f crossbarlaw01_few.f
  rw [sane_eq 100 (by decide)]
  simp only [Option.bind_some, if_true, List.length_nil]
  rw [if_pos (by decide)]
  simp only [Option.bind_some]
  by_cases hf : (l1.length : Int) ≤ 4000
  · rw [if_pos (decide_eq_true hf), appendUint_eq 100 [] v (by decide) (by decide) hv]
    simp only [Option.bind_some, List.nil_append]
    rw [appendBytes_eq 100 [] l1 (by decide) (by simp; omega)]
    simp only [Option.bind_some, List.nil_append]
    have hp1 := enc_pos v
    have hp2 : 0 < (enc l1.length ++ l1).length := by have := enc_pos l1.length; simp; omega
    have h10 := enc_len10 hv
    have h11 := enc_len10 (v := l1.length) (by omega)
    have hlc : (enc l1.length ++ l1).length ≤ 140737488351232 := by simp; omega
    have c1 := cut_range a2 (enc v).length hp1
    have c2 := cut_range a2 (enc l1.length ++ l1).length hp2
    rw [if_neg (by omega)]
    simp only [crossbarlaw01_VarintTruncated.j0]
    rw [if_neg (by rw [beq_iff_eq]; omega), if_neg (by omega), if_neg (by omega), if_pos c1.1, if_pos (by omega)]
    rw [uint_eq 99 _ 0 (by decide) (bytes_take (enc_bytes v) _) (by rw [List.length_take]; omega)]
    simp only [Option.bind_some]
    rw [if_pos c2.1, if_pos (by omega)]
    rw [bytes_eq 99 _ 0 _ (by decide) (bytes_take (bytes_append (enc_bytes _) hb) _) (by rw [List.length_take]; omega) (by omega)]
    simp only [Option.bind_some]
    rw [uint_take hv (by omega), seq_trunc l1 _ _ (by omega) (by omega) (by omega)]
    rfl
  · rw [if_neg (by simpa using hf)]

end Go.Proofs.Ytehdlomgclijdaa.Pure
