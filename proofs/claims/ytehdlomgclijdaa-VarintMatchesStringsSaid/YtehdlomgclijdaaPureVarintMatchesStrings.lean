/- VarintMatchesStrings: AppendBytes, Bytes, AppendString and String of the package varint equal the reference's at every byte slices of at most 4000 bytes, every offset and every limit. -/
import Derived.Test.YtehdlomgclijdaaVix6
import Derived.Test.YtehdlomgclijdaaVe
set_option linter.unusedVariables false
namespace Go.Proofs.Ytehdlomgclijdaa.Pure
open Go.RowKit Go.Proofs.Ytehdlomgclijdaa.Vi Go.Proofs.YtehdlomgclijdaaW.PrintWords Go.Proofs.YtehdlomgclijdaaW.PrintLast Go.Proofs.Ytehdlomgclijdaa.Vm Go.Proofs.Ytehdlomgclijdaa.Vb Go.Proofs.Ytehdlomgclijdaa.Vc Go.Proofs.Ytehdlomgclijdaa.Vd Go.Proofs.Ytehdlomgclijdaa.Ve

theorem VarintMatchesStrings : crossbarlaw01_VarintMatchesStrings.Pure := by
  intro l0 l1 a2 a3 _ hlen0 wl0 _ hlen1 wl1 w2 w3
  have hb0 := wf_bytes wl0
  have hb1 := wf_bytes wl1
  have h3 := wf_i64 w3
  refine ⟨100, ?_⟩
  unfold crossbarlaw01_VarintMatchesStrings.f crossbarlaw01_few.f
  rw [sane_eq 100 (by decide)]
  simp only [Option.bind_some, if_true]
  by_cases hf : (l0.length : Int) ≤ 4000
  · rw [if_pos hf]
    simp only [Option.bind_some]
    by_cases hg : (l1.length : Int) ≤ 4000
    · rw [if_pos (decide_eq_true hg), bytes_eq 100 l0 a2 a3 (by decide) hb0 (by omega) h3.2, string_eq 100 l0 a2 a3 (by decide) hb0 (by omega) h3.2, refBytes_eq 100 l0 a2 a3 (by decide) hb0 (by omega) h3.2, refAppendBytes_eq 100 l0 l1 (by decide) (by omega)]
      simp only [Option.bind_some]
      rw [if_pos trivial, if_pos trivial, if_pos trivial, if_pos trivial, if_pos trivial, if_pos trivial, appendBytes_eq 100 l0 l1 (by decide) (by omega)]
      simp only [Option.bind_some]
      rw [if_pos trivial, appendString_eq 100 l0 l1 (by decide) hb1 (by omega)]
      simp only [Option.bind_some, beq_self_eq_true]
    · rw [if_neg (by simpa using hg)]
  · rw [if_neg hf]
    simp only [Option.bind_some]
    rw [if_neg (by decide)]

end Go.Proofs.Ytehdlomgclijdaa.Pure
