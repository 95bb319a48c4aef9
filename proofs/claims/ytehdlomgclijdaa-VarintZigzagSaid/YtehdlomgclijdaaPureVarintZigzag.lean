/- VarintZigzag: v and -v - 1 are encoded as two consecutive unsigned integers, the even one for the non-negative; integers of smaller magnitude have no longer encodings. No condition. -/
import Derived.Test.YtehdlomgclijdaaVix2
import Derived.Test.YtehdlomgclijdaaVb
set_option linter.unusedVariables false
namespace Go.Proofs.Ytehdlomgclijdaa.Pure
open Go.RowKit Go.Proofs.Ytehdlomgclijdaa.Vi Go.Proofs.YtehdlomgclijdaaW.PrintWords Go.Proofs.YtehdlomgclijdaaW.PrintLast Go.Proofs.Ytehdlomgclijdaa.Vm Go.Proofs.Ytehdlomgclijdaa.Vb

theorem zz_neg (v : Int) : zz (-v - 1) = if v ≥ 0 then zz v + 1 else zz v - 1 := by
  unfold zz
  split <;> split <;> omega

theorem xor_next : ∀ x : Nat, x % 2 = 0 → x ^^^ (x + 1) = 1 := by
  intro x hx
  obtain ⟨y, rfl⟩ : ∃ y, x = 2 * y := ⟨x / 2, by omega⟩
  apply Nat.eq_of_testBit_eq
  intro i
  rw [Nat.testBit_xor]
  cases i with
  | zero => simp [Nat.testBit_zero]
  | succ i =>
    have e1 : 2 * y / 2 = y := by omega
    have e2 : (2 * y + 1) / 2 = y := by omega
    simp [Nat.testBit_succ, e1, e2]

theorem VarintZigzag : crossbarlaw01_VarintZigzag.Pure := by
  intro a0 a1 w0 w1
  refine ⟨100, ?_⟩
  have h0 := wf_i64 w0
  have h1 := wf_i64 w1
  have hz := zz_lt h0.1 h0.2
  unfold crossbarlaw01_VarintZigzag.f
  have e : wrap64 (wrap64 (-a0) - 1) = -a0 - 1 := by unfold wrap64; omega
  have hz2 := zz_lt (v := -a0 - 1) (by omega) (by omega)
  rw [sane_eq 100 (by decide), appendInt_eq 100 [] a0 (by decide) (by decide) h0.1 h0.2, e, appendInt_eq 100 [] (-a0 - 1) (by decide) (by decide) (by omega) (by omega), appendInt_eq 100 [] a1 (by decide) (by decide) h1.1 h1.2]
  simp only [Option.bind_some, if_true, List.nil_append]
  rw [uint_eq 100 _ _ (by decide) (enc_bytes _) (by have := enc_len10 hz; omega), uint_eq 100 _ _ (by decide) (enc_bytes _) (by have := enc_len10 hz2; omega)]
  have u1 := uint_zero [] hz
  have u2 := uint_zero [] hz2
  rw [List.append_nil] at u1 u2
  rw [u1, u2]
  simp only [Option.bind_some, if_true]
  have hzn := zz_neg a0
  have hx : bits .xor .u64 ((zz a0 : Nat) : Int) ((zz (-a0 - 1) : Nat) : Int) = 1 := by
    rw [u64_xor_nat _ _ hz hz2]
    by_cases h : a0 ≥ 0
    · rw [if_pos h] at hzn
      rw [hzn, xor_next _ (by unfold zz; rw [if_pos h]; omega)]
      rfl
    · rw [if_neg h] at hzn
      have e3 : zz a0 = zz (-a0 - 1) + 1 := by unfold zz; split <;> split <;> omega
      rw [e3, Nat.xor_comm, xor_next _ (by unfold zz; split <;> omega)]
      rfl
  rw [if_pos hx]
  have hp : (((zz a0 : Nat) : Int).tmod 2 == 0) = decide (a0 ≥ 0) := by
    rw [Int.tmod_eq_emod_of_nonneg (by omega)]
    by_cases h : a0 ≥ 0
    · rw [decide_eq_true h, beq_iff_eq]; unfold zz; rw [if_pos h]; omega
    · rw [decide_eq_false h, beq_eq_false_iff_ne]; unfold zz; rw [if_neg h]; omega
  rw [hp, if_neg (by simp)]
  have key : (a0 ≥ 0 ∧ a1 ≥ 0 ∧ a0 ≤ a1) ∨ (a0 < 0 ∧ a1 < 0 ∧ a0 ≥ a1) → decide (((enc (zz a0)).length : Int) ≤ ((enc (zz a1)).length : Int)) = true := by
    intro h
    have := enc_len_mono (zz a0) (zz a1) (by unfold zz; split <;> split <;> omega)
    exact decide_eq_true (by omega)
  by_cases c1 : a0 ≥ 0
  · rw [if_pos c1, if_neg (show ¬ a0 < 0 by omega)]
    by_cases c2 : a1 ≥ 0
    · rw [if_pos c2]
      by_cases c3 : a0 ≤ a1
      · rw [if_pos c3, key (.inl ⟨c1, c2, c3⟩)]
      · rw [if_neg c3]
    · rw [if_neg c2]
  · rw [if_neg c1, if_pos (show a0 < 0 by omega)]
    by_cases c2 : a1 < 0
    · rw [if_pos c2]
      by_cases c3 : a0 ≥ a1
      · rw [if_pos c3, key (.inr ⟨by omega, c2, c3⟩)]
      · rw [if_neg c3]
    · rw [if_neg c2]

end Go.Proofs.Ytehdlomgclijdaa.Pure
