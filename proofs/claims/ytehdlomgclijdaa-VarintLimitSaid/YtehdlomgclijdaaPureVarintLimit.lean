/- VarintLimit: a byte string of 1 to 4000 bytes is accepted with every limit of at least its length and rejected with ErrLimit by every smaller non-negative limit, also if its bytes are missing. -/
import Derived.Test.YtehdlomgclijdaaVix5
import Derived.Test.YtehdlomgclijdaaVc
set_option linter.unusedVariables false
namespace Go.Proofs.Ytehdlomgclijdaa.Pure
open Go.RowKit Go.Proofs.Ytehdlomgclijdaa.Vi Go.Proofs.YtehdlomgclijdaaW.PrintWords Go.Proofs.YtehdlomgclijdaaW.PrintLast Go.Proofs.Ytehdlomgclijdaa.Vm Go.Proofs.Ytehdlomgclijdaa.Vb Go.Proofs.Ytehdlomgclijdaa.Vc

theorem VarintLimit : crossbarlaw01_VarintLimit.Pure := by
  intro l0 a1 a2 _ _ wl w1 w2
  have hb := wf_bytes wl
  have h1 := wf_i64 w1
  refine ⟨100, ?_⟩
  unfold crossbarlaw01_VarintLimit.f crossbarlaw01_few.f
  rw [sane_eq 100 (by decide)]
  simp only [Option.bind_some, if_true, List.length_nil]
  rw [if_pos (by decide)]
  simp only [Option.bind_some]
  by_cases hf : (l0.length : Int) ≤ 4000
  · rw [if_pos (decide_eq_true hf)]
    by_cases hz : l0.length = 0
    · simp only [crossbarlaw01_VarintLimit.j0]
      rw [if_pos (by rw [beq_iff_eq]; omega)]
    · simp only [crossbarlaw01_VarintLimit.j0]
      rw [if_neg (by rw [beq_iff_eq]; omega), appendBytes_eq 99 [] l0 (by decide) (by simp; omega)]
      simp only [Option.bind_some, List.nil_append]
      have hp := enc_pos l0.length
      have h10 := enc_len10 (v := l0.length) (by omega)
      have hlen : (enc l0.length ++ l0).length = (enc l0.length).length + l0.length := List.length_append
      have c := cut_range a2 l0.length (by omega)
      generalize (bits BinOp.and IntKind.i64 a2 65535).tmod (l0.length : Int) = j at c ⊢
      have hbb : Bytes (enc l0.length ++ l0) := bytes_append (enc_bytes _) hb
      rw [if_neg (by omega), bytes_eq 99 _ 0 a1 (by decide) hbb (by omega) h1.2]
      simp only [Option.bind_some]
      rw [if_neg (by omega), w64 (x := ((enc l0.length ++ l0).length : Int) - 1) (by omega) (by omega), w64 (x := ((enc l0.length ++ l0).length : Int) - 1 - j) (by omega) (by omega), if_pos (by omega), if_pos (by omega)]
      rw [bytes_eq 99 _ 0 a1 (by decide) (bytes_take hbb _) (by rw [List.length_take]; omega) h1.2]
      simp only [Option.bind_some]
      by_cases hn : a1 < 0
      · have e1 : ∀ l, seqS l 0 a1 = ([], 0, 1) := fun l => by unfold seqS; rw [if_pos hn]
        rw [if_pos hn, e1, e1]
        rfl
      · have hcut := seq_cut l0 (((enc l0.length ++ l0).length : Int) - 1 - j).toNat a1 (by omega) (by omega) (by omega) (by omega)
        rw [if_neg hn, hcut]
        by_cases hm : a1 < (l0.length : Int)
        · have hw : seqS (enc l0.length ++ l0) 0 a1 = ([], 0, 2) := by
            unfold seqS
            rw [uint_zero l0 (by omega)]
            dsimp only
            rw [if_neg hn, if_pos rfl, if_pos (by omega)]
          rw [if_pos hm, hw, if_pos (show (l0.length : Int) > a1 by omega)]
          rfl
        · have hw := seq_zero l0 [] a1 (by omega) (by omega)
          rw [List.append_nil] at hw
          rw [if_neg hm, hw, if_neg (show ¬ (l0.length : Int) > a1 by omega)]
          rfl
  · rw [if_neg (by simpa using hf)]
    simp only [crossbarlaw01_VarintLimit.j0]
    rfl

end Go.Proofs.Ytehdlomgclijdaa.Pure
