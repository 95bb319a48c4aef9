/- VarintMatchesIntegers: AppendUint, Uint, AppendInt and Int of the package varint equal the reference's at every byte slice of at most 4000 bytes, every offset and every integer. -/
import Derived.Test.YtehdlomgclijdaaVix4
import Derived.Test.YtehdlomgclijdaaVd
set_option linter.unusedVariables false
namespace Go.Proofs.Ytehdlomgclijdaa.Pure
open Go.RowKit Go.Proofs.Ytehdlomgclijdaa.Vi Go.Proofs.YtehdlomgclijdaaW.PrintWords Go.Proofs.YtehdlomgclijdaaW.PrintLast Go.Proofs.Ytehdlomgclijdaa.Vm Go.Proofs.Ytehdlomgclijdaa.Vb Go.Proofs.Ytehdlomgclijdaa.Vd

theorem VarintMatchesIntegers : crossbarlaw01_VarintMatchesIntegers.Pure := by
  intro l0 a1 a2 a3 _ hlen wl w1 w2 w3
  have hb := wf_bytes wl
  have h2 := wf_u64 w2
  have h3 := wf_i64 w3
  obtain ⟨v, rfl⟩ := Int.eq_ofNat_of_zero_le h2.1
  refine ⟨100, ?_⟩
  unfold crossbarlaw01_VarintMatchesIntegers.f crossbarlaw01_few.f
  rw [sane_eq 100 (by decide)]
  simp only [Option.bind_some, if_true, List.length_nil]
  by_cases hf : (l0.length : Int) ≤ 4000
  · rw [if_pos hf]
    simp only [Option.bind_some]
    rw [if_pos (by decide), uint_eq 100 l0 a1 (by decide) hb (by omega), refUint_eq 100 l0 a1 (by decide) hb (by omega), int_eq 100 l0 a1 (by decide) hb (by omega), refInt_eq 100 l0 a1 (by decide) hb (by omega)]
    simp only [Option.bind_some]
    rw [if_pos trivial, if_pos trivial, if_pos trivial, if_pos trivial, if_pos trivial]
    simp only [crossbarlaw01_VarintMatchesIntegers.j0]
    rw [if_pos (by rw [beq_self_eq_true]), appendUint_eq 99 l0 v (by decide) (by omega) (by omega), refAppendUint_eq 99 l0 v (by decide) (by omega) (by omega)]
    simp only [Option.bind_some]
    rw [if_pos trivial, appendInt_eq 99 l0 a3 (by decide) (by omega) h3.1 h3.2, refAppendInt_eq 99 l0 a3 (by decide) (by omega) h3.1 h3.2]
    simp only [Option.bind_some, beq_self_eq_true]
  · rw [if_neg hf]
    simp only [Option.bind_some]
    rw [if_neg (by decide)]

end Go.Proofs.Ytehdlomgclijdaa.Pure
