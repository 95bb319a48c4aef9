/- VarintCanonical: what the three readers accept is what the writers write. -/
import Derived.Test.YtehdlomgclijdaaVw
import Derived.Test.YtehdlomgclijdaaVc
import Derived.Test.YtehdlomgclijdaaVd
set_option linter.unusedVariables false
namespace Go.Proofs.Ytehdlomgclijdaa.Pure
open Go.RowKit Go.Proofs.Ytehdlomgclijdaa.Vi Go.Proofs.YtehdlomgclijdaaW.PrintWords Go.Proofs.YtehdlomgclijdaaW.PrintLast Go.Proofs.Ytehdlomgclijdaa.Vm Go.Proofs.Ytehdlomgclijdaa.Vb Go.Proofs.Ytehdlomgclijdaa.Vc Go.Proofs.Ytehdlomgclijdaa.Vd

theorem VarintCanonical : crossbarlaw01_VarintCanonical.Pure := by
  intro l0 a1 a2 _ hlen0 wl0 w1 w2
  have hb := wf_bytes wl0
  have hm := wf_i64 w2
  have hl : l0.length ≤ 140737488351232 := by omega
  refine ⟨100, ?_⟩
  by_cases hf : (l0.length : Int) ≤ 4000
  · refine .inr ⟨(uintS l0 a1).1, (uintS l0 a1).2.1, (uintS l0 a1).2.2, (intS l0 a1).1, (intS l0 a1).2.1, (intS l0 a1).2.2, (seqS l0 a1 a2).1, (seqS l0 a1 a2).2.1, (seqS l0 a1 a2).2.2, ?_⟩
    refine ⟨sane_eq 100 (by decide), ?_, uint_eq 100 l0 a1 (by decide) hb hl, int_eq 100 l0 a1 (by decide) hb hl, bytes_eq 100 l0 a1 a2 (by decide) hb hl hm.2, ?_, ?_⟩
    · unfold crossbarlaw01_few.f
      rw [if_pos hf]
      simp
    · by_cases he : (uintS l0 a1).2.2 = 0
      · left
        have hq : uintS l0 a1 = ((uintS l0 a1).1, (uintS l0 a1).2.1, 0) := by rw [← he]
        obtain ⟨v, hv, hu, ha, hi, hil, hs, _⟩ := uint_canon hb hq
        have hp := enc_pos v
        have hr := unzz_range hv
        have e1 : (intS l0 a1).1 = unzz (v : Int) := by unfold intS; rw [if_pos he, hu]
        have e2 : (intS l0 a1).2.1 = (uintS l0 a1).2.1 := by unfold intS; rw [if_pos he]
        have e3 : (intS l0 a1).2.2 = 0 := by unfold intS; rw [if_pos he]
        refine ⟨he, e3, e2, ha, by omega, hil, ?_, ?_⟩
        · rw [hu, appendUint_eq 100 [] v (by decide) (by simp) hv, hs, List.nil_append]
        · rw [e1, appendInt_eq 100 [] _ (by decide) (by simp) hr.1 hr.2, zz_unzz, hs, List.nil_append]
      · right
        have hz := uint_err l0 a1 he
        refine ⟨he, ?_, hz.1, hz.2⟩
        unfold intS
        rw [if_neg he]
        exact he
    · by_cases he : (seqS l0 a1 a2).2.2 = 0
      · left
        have hq : seqS l0 a1 a2 = ((seqS l0 a1 a2).1, (seqS l0 a1 a2).2.1, 0) := by rw [← he]
        obtain ⟨ha, hi, hil, hpm, hs⟩ := seq_canon hb hq
        have hlen : ((l0.take (seqS l0 a1 a2).2.1.toNat).drop a1.toNat).length = (enc (seqS l0 a1 a2).1.length).length + (seqS l0 a1 a2).1.length := by rw [hs, List.length_append]
        rw [List.length_drop, List.length_take] at hlen
        refine ⟨he, ha, hi, hil, hpm, ?_⟩
        rw [appendBytes_eq 100 [] _ (by decide) (by simp; omega), hs, List.nil_append]
      · right
        have hz := seq_err l0 a1 a2 he
        exact ⟨he, hz.1, hz.2⟩
  · left
    refine ⟨sane_eq 100 (by decide), ?_⟩
    unfold crossbarlaw01_few.f
    rw [if_neg hf]
end Go.Proofs.Ytehdlomgclijdaa.Pure
