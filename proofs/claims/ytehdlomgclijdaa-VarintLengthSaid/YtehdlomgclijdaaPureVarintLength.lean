/- VarintLength: the encoding of every uint64 u has one byte for each started group of seven bits, at most ten, and all but the last are at least 128. No condition. -/
import Derived.Test.YtehdlomgclijdaaVix2
import Derived.Test.YtehdlomgclijdaaVb
set_option linter.unusedVariables false
namespace Go.Proofs.Ytehdlomgclijdaa.Pure
open Go.RowKit Go.Proofs.Ytehdlomgclijdaa.Vi Go.Proofs.YtehdlomgclijdaaW.PrintWords Go.Proofs.YtehdlomgclijdaaW.PrintLast Go.Proofs.Ytehdlomgclijdaa.Vm Go.Proofs.Ytehdlomgclijdaa.Vb

theorem len_l1 (l : List Int) (v : Nat) (hl : l = enc v) (h10 : l.length ≤ 10) : ∀ (d k i : Nat), i + d = l.length → d < k → crossbarlaw01_VarintLength.l1 k l (l.length : Int) (i : Int) = some true := by
  intro d
  induction d with
  | zero =>
    intro k i hi hk
    obtain ⟨k, rfl⟩ : ∃ m, k = m + 1 := ⟨k - 1, by omega⟩
    simp only [crossbarlaw01_VarintLength.l1]
    rw [if_neg (by omega)]
  | succ d ih =>
    intro k i hi hk
    obtain ⟨k, rfl⟩ : ∃ m, k = m + 1 := ⟨k - 1, by omega⟩
    simp only [crossbarlaw01_VarintLength.l1]
    have hm := enc_more v i (by rw [← hl]; omega)
    rw [← hl] at hm
    have e : rd l (i : Int) = l.getD i 0 := rfl
    have e2 : ((i : Int) + 1) = ((i + 1 : Nat) : Int) := by omega
    rw [if_pos (by omega), if_pos (by omega), if_pos (by omega), w64 (by omega) (by omega), w64 (by omega) (by omega), e, if_neg ?_, e2, ih k (i + 1) (by omega) (by omega)]
    have : decide (l.getD i 0 ≥ 128) = decide ((i : Int) < (l.length : Int) - 1) := by
      by_cases h : l.getD i 0 ≥ 128
      · rw [decide_eq_true h, decide_eq_true (by have := hm.1 h; omega)]
      · rw [decide_eq_false h, decide_eq_false (by have : ¬ i + 1 < l.length := fun h2 => h (hm.2 h2); omega)]
    rw [this]
    simp only [bne_self_eq_false, Bool.false_eq_true, not_false_eq_true]

theorem len_l0 (l : List Int) (v0 : Nat) (hl : l = enc v0) (h10 : l.length ≤ 10) : ∀ (n v k c : Nat), v < 2 * 128 ^ n → c + (enc v).length = l.length + 1 → n + 30 < k → crossbarlaw01_VarintLength.l0 k l (c : Int) (v : Int) = some true := by
  intro n
  induction n with
  | zero =>
    intro v k c hv hc hk
    obtain ⟨k, rfl⟩ : ∃ m, k = m + 1 := ⟨k - 1, by omega⟩
    obtain ⟨k, rfl⟩ : ∃ m, k = m + 1 := ⟨k - 1, by omega⟩
    have hv2 : v < 128 := by simp at hv; omega
    rw [enc_small hv2] at hc
    simp only [List.length_cons, List.length_nil] at hc
    simp only [crossbarlaw01_VarintLength.l0]
    rw [if_neg (by omega), if_pos (by omega)]
    simp only [crossbarlaw01_VarintLength.j1]
    rw [if_neg (by simp; omega)]
    have e : (c : Int) = (l.length : Int) := by omega
    rw [e]
    exact len_l1 l v0 hl h10 l.length k 0 (by omega) (by omega)
  | succ n ih =>
    intro v k c hv hc hk
    by_cases h : v < 128
    · obtain ⟨k, rfl⟩ : ∃ m, k = m + 1 := ⟨k - 1, by omega⟩
      obtain ⟨k, rfl⟩ : ∃ m, k = m + 1 := ⟨k - 1, by omega⟩
      rw [enc_small h] at hc
      simp only [List.length_cons, List.length_nil] at hc
      simp only [crossbarlaw01_VarintLength.l0]
      rw [if_neg (by omega), if_pos (by omega)]
      simp only [crossbarlaw01_VarintLength.j1]
      rw [if_neg (by simp; omega)]
      have e : (c : Int) = (l.length : Int) := by omega
      rw [e]
      exact len_l1 l v0 hl h10 l.length k 0 (by omega) (by omega)
    · obtain ⟨k, rfl⟩ : ∃ m, k = m + 1 := ⟨k - 1, by omega⟩
      rw [enc_big h] at hc
      simp only [List.length_cons] at hc
      simp only [crossbarlaw01_VarintLength.l0]
      have e : ((v : Int) / 128) = ((v / 128 : Nat) : Int) := by omega
      have e2 : ((c : Int) + 1) = ((c + 1 : Nat) : Int) := by omega
      rw [if_pos (by omega), w64 (by omega) (by omega), e, e2]
      exact ih (v / 128) k (c + 1) (by rw [Nat.pow_succ] at hv; omega) (by omega) (by omega)

theorem VarintLength : crossbarlaw01_VarintLength.Pure := by
  intro a0 w0
  refine ⟨100, ?_⟩
  have hw := wf_u64 w0
  obtain ⟨v, rfl⟩ := Int.eq_ofNat_of_zero_le hw.1
  have hv : v < 18446744073709551616 := by omega
  unfold crossbarlaw01_VarintLength.f
  rw [sane_eq 100 (by decide), appendUint_eq 100 [] v (by decide) (by decide) hv]
  simp only [Option.bind_some, if_true, List.nil_append]
  exact len_l0 (enc v) v rfl (enc_len10 hv) 9 v 100 1 (by omega) (by omega) (by omega)

end Go.Proofs.Ytehdlomgclijdaa.Pure
