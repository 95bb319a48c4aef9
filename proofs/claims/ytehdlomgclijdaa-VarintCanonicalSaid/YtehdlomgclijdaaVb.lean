/-
  The printed functions of the package varint are the plain ones of Vm and Vn: AppendUint, AppendInt, Uint; and the sanity check holds.
-/
import Derived.Test.YtehdlomgclijdaaVix1
import Derived.Test.YtehdlomgclijdaaVn
set_option linter.unusedVariables false
namespace Go.Proofs.Ytehdlomgclijdaa.Vb
open Go.RowKit Go.Proofs.Ytehdlomgclijdaa.Vi Go.Proofs.YtehdlomgclijdaaW.PrintWords Go.Proofs.YtehdlomgclijdaaW.PrintLast Go.Proofs.YtehdlomgclijdaaW.PrintMore Go.Proofs.Ytehdlomgclijdaa.Vm

theorem w64 {x : Int} (h0 : -9223372036854775808 ≤ x) (h1 : x ≤ 9223372036854775807) : wrap64 x = x := by unfold wrap64; omega
theorem u64w (n : Int) : IntKind.u64.wrap n = n % 18446744073709551616 := by simp [IntKind.wrap, IntKind.bits, IntKind.signed]

theorem wf_u64 {x : Int} (h : (Lit.int .u64 x).wf = true) : 0 ≤ x ∧ x ≤ 18446744073709551615 := by
  simp only [Lit.wf, IntKind.min, IntKind.max, IntKind.signed, IntKind.bits, Bool.and_eq_true, decide_eq_true_eq, Bool.false_eq_true, if_false] at h; omega
theorem wf_i64 {x : Int} (h : (Lit.int .i64 x).wf = true) : -9223372036854775808 ≤ x ∧ x ≤ 9223372036854775807 := by
  simp only [Lit.wf, IntKind.min, IntKind.max, IntKind.signed, IntKind.bits, Bool.and_eq_true, decide_eq_true_eq, if_true] at h; omega
theorem wf_u8 {x : Int} (h : (Lit.int .u8 x).wf = true) : 0 ≤ x ∧ x ≤ 255 := by
  simp only [Lit.wf, IntKind.min, IntKind.max, IntKind.signed, IntKind.bits, Bool.and_eq_true, decide_eq_true_eq, Bool.false_eq_true, if_false] at h; omega
theorem wf_bytes {l : List Int} (h : ∀ x ∈ l, (Lit.int .u8 x).wf = true) : Bytes l := fun c hc => wf_u8 (h c hc)
theorem clone_eq (l : List Int) (h : l.length < 140737488355328) : slices_Clone_byte_byte.f l = some l := by
  unfold slices_Clone_byte_byte.f
  simp only [Option.bind_some, List.nil_append, List.length_nil, Nat.zero_add]
  rw [if_pos h]

theorem append_loop : ∀ (n v k : Nat) (xs : List Int), v < 2 * 128 ^ n → n < k → xs.length + n < 140737488355328 →
    varint_AppendUint.l0 k (v : Int) xs = some (xs ++ enc v) := by
  intro n
  induction n with
  | zero =>
    intro v k xs hv hk hx
    obtain ⟨k, rfl⟩ : ∃ m, k = m + 1 := ⟨k - 1, by omega⟩
    have hv2 : v < 2 := by simpa using hv
    rw [enc_small (by omega)]
    simp only [varint_AppendUint.l0]
    rw [if_neg (by omega), if_pos (by omega), Int.emod_eq_of_lt (by omega) (by omega)]
  | succ n ih =>
    intro v k xs hv hk hx
    obtain ⟨k, rfl⟩ : ∃ m, k = m + 1 := ⟨k - 1, by omega⟩
    simp only [varint_AppendUint.l0]
    by_cases h : v < 128
    · rw [if_neg (by omega), if_pos (by omega), Int.emod_eq_of_lt (by omega) (by omega), enc_small h]
    · rw [if_pos (by omega), if_pos (by omega), or128 (by omega) (by omega)]
      have e : ((v : Int) / 128) = ((v / 128 : Nat) : Int) := by omega
      have e2 : ((v : Int) % 256 % 128 + 128) = ((v % 128 + 128 : Nat) : Int) := by omega
      rw [e, e2, ih (v / 128) k _ (by rw [Nat.pow_succ] at hv; omega) (by omega) (by simp; omega), enc_big h]
      simp

theorem appendUint_eq (k : Nat) (l : List Int) (v : Nat) (hk : 10 ≤ k) (hl : l.length ≤ 140737488351232) (hv : v < 18446744073709551616) :
    varint_AppendUint.f k l (v : Int) = some (l ++ enc v) := by
  unfold varint_AppendUint.f
  rw [clone_eq l (by omega)]
  exact append_loop 9 v k l (by omega) (by omega) (by omega)

theorem appendInt_eq (k : Nat) (l : List Int) (v : Int) (hk : 10 ≤ k) (hl : l.length ≤ 140737488351232) (h0 : -9223372036854775808 ≤ v) (h1 : v ≤ 9223372036854775807) :
    varint_AppendInt.f k l v = some (l ++ enc (zz v)) := by
  unfold varint_AppendInt.f
  rw [zz_bits h0 h1, appendUint_eq k l (zz v) hk hl (zz_lt h0 h1)]
  rfl

/-! ### Uint -/
theorem rd_of_drop {l : List Int} {j : Nat} (h : j < l.length) : l.drop j = rd l (j : Int) :: l.drop (j + 1) := by
  rw [List.drop_eq_getElem_cons h]
  congr 1
  unfold rd
  simp [List.getD_eq_getElem?_getD, h]
theorem rd_byte {l : List Int} (hl : Bytes l) {j : Nat} (h : j < l.length) : 0 ≤ rd l (j : Int) ∧ rd l (j : Int) ≤ 255 := by
  refine hl _ ?_
  unfold rd
  simp only [Int.toNat_natCast, List.getD_eq_getElem?_getD, List.getElem?_eq_getElem h, Option.getD_some]
  exact List.getElem_mem h

theorem uint_full (K : Nat) (l : List Int) (a acc : Int) : varint_Uint.l0 (K + 1) l a acc 10 = some (0, 0, 11) := by
  simp only [varint_Uint.l0]
  rw [if_neg (by omega)]

theorem shl_eq {x y : Int} {i : Nat} (hi : i ≤ 9) (hy : y = 7 * (i : Int)) (hx0 : 0 ≤ x) (hx : x * 2 ^ (7 * i) < 18446744073709551616) : shl .u64 x y = x * 2 ^ (7 * i) := by
  have e : y.toNat = 7 * i := by omega
  unfold shl
  rw [e, Nat.min_eq_left (by simp [IntKind.bits]; omega), u64w, Int.emod_eq_of_lt (Int.mul_nonneg hx0 (Int.pow_nonneg (by decide))) hx]

theorem pow7 (i : Nat) : (2 : Int) ^ (7 * (i + 1)) = 2 ^ (7 * i) * 128 := by
  rw [Nat.mul_add, Int.pow_add]
  rfl

theorem pow_le {i : Nat} (hi : i ≤ 8) : (2 : Int) ^ (7 * i) ≤ 72057594037927936 := by
  have h : (2 : Nat) ^ (7 * i) ≤ 2 ^ 56 := Nat.pow_le_pow_right (by decide) (by omega)
  have e : (2 : Int) ^ (7 * i) = ((2 ^ (7 * i) : Nat) : Int) := by rw [Int.natCast_pow]; rfl
  rw [e]
  have : (2 : Nat) ^ 56 = 72057594037927936 := by decide
  omega

theorem uint_loop (l : List Int) (hl : Bytes l) (hlen : l.length ≤ 140737488351232) (a : Nat) : ∀ (n i K : Nat) (acc : Int), n + i = 10 → a + i ≤ l.length → 0 ≤ acc → acc < 2 ^ (7 * i) → 2 * n + 2 ≤ K →
    varint_Uint.l0 K l (a : Int) acc (i : Int) = some (scan n (l.drop (a + i)) (decide (0 < i)) acc (2 ^ (7 * i)) ((a : Int) + i)) := by
  intro n
  induction n with
  | zero =>
    intro i K acc hni hai h0 h1 hK
    obtain ⟨K, rfl⟩ : ∃ m, K = m + 1 := ⟨K - 1, by omega⟩
    obtain rfl : i = 10 := by omega
    exact uint_full K l a acc
  | succ n ih =>
    intro i K acc hni hai h0 h1 hK
    obtain ⟨K, rfl⟩ : ∃ m, K = m + 1 := ⟨K - 1, by omega⟩
    simp only [varint_Uint.l0]
    rw [w64 (x := (a : Int) + (i : Int)) (by omega) (by omega), w64 (x := 7 * (i : Int)) (by omega) (by omega), w64 (x := (i : Int) + 1) (by omega) (by omega), if_pos (by omega)]
    by_cases he : a + i = l.length
    · rw [if_pos (by omega), he, List.drop_length]
      rfl
    · have hlt : a + i < l.length := by omega
      have hc := rd_byte hl hlt
      have ec : (a : Int) + (i : Int) = ((a + i : Nat) : Int) := by omega
      rw [if_neg (by omega), if_pos (by omega), if_pos (by omega), if_pos (by omega), rd_of_drop hlt, ec]
      generalize rd l ((a + i : Nat) : Int) = c at hc ⊢
      rw [andNot128 hc.1 hc.2, u64w, Int.emod_eq_of_lt (show 0 ≤ c % 128 by omega) (by omega)]
      rw [scan]
      by_cases hb : c ≥ 128
      · rw [if_neg (fun h => by have := (and128 hc.1 hc.2).1 h; omega), if_pos hb]
        by_cases h9 : i = 9
        · obtain rfl : n = 0 := by omega
          subst h9
          obtain ⟨K, rfl⟩ : ∃ m, K = m + 1 := ⟨K - 1, by omega⟩
          rw [show ((9 : Nat) : Int) + 1 = 10 by decide, uint_full]
          rfl
        · have hp := pow_le (i := i) (by omega)
          have hpos : (0 : Int) < 2 ^ (7 * i) := Int.pow_pos (by decide)
          have hmul : c % 128 * 2 ^ (7 * i) ≤ 127 * 2 ^ (7 * i) := Int.mul_le_mul_of_nonneg_right (by omega) (by omega)
          have hmul0 : 0 ≤ c % 128 * 2 ^ (7 * i) := Int.mul_nonneg (by omega) (by omega)
          rw [shl_eq (i := i) (by omega) rfl (by omega) (by omega), or_join (i := 7 * i) (by omega) h0 h1 (by omega) (by omega)]
          have e1 : c % 128 = c - 128 := by omega
          have e2 : (i : Int) + 1 = ((i + 1 : Nat) : Int) := by omega
          rw [e2, ih (i + 1) K _ (by omega) (by omega) (by omega) (by rw [pow7]; omega) (by omega), pow7, e1]
          simp only [Nat.zero_lt_succ, decide_true, Int.natCast_add]
          congr 2
      · rw [if_pos ((and128 hc.1 hc.2).2 (by omega)), if_neg hb]
        obtain ⟨K, rfl⟩ : ∃ m, K = m + 1 := ⟨K - 1, by omega⟩
        have e1 : c % 128 = c := by omega
        rw [e1]
        by_cases h9 : i = 9
        · subst h9
          obtain rfl : n = 0 := by omega
          rw [if_pos (show ((9 : Nat) : Int) = 9 from rfl)]
          simp only [varint_Uint.j2]
          by_cases h2 : c > 1
          · rw [if_pos (show decide (c > 1) = true by simpa using h2), if_pos (show True ∧ c > 1 from ⟨trivial, h2⟩)]
          · rw [if_neg (show ¬ decide (c > 1) = true by simpa using h2), if_neg (show ¬ (True ∧ c > 1) from fun h => h2 h.2), if_pos (show ((9 : Nat) : Int) > 0 by decide)]
            by_cases h3 : c = 0
            · rw [if_pos h3, if_pos (show decide (0 < 9) = true ∧ c = 0 from ⟨by decide, h3⟩)]
            · rw [if_neg h3, if_neg (show ¬ (decide (0 < 9) = true ∧ c = 0) from fun h => h3 h.2)]
              obtain rfl : c = 1 := by omega
              rw [w64 (x := (a : Int) + ((9 : Nat) : Int)) (by omega) (by omega), w64 (x := (a : Int) + ((9 : Nat) : Int) + 1) (by omega) (by omega), shl_eq (i := 9) (by omega) rfl (by omega) (by decide), or_join (i := 7 * 9) (by omega) h0 h1 (by omega) (by decide)]
              rfl
        · rw [if_neg (by omega), if_neg (fun h => h9 (by omega))]
          simp only [varint_Uint.j2]
          rw [if_neg (by decide)]
          have hp := pow_le (i := i) (by omega)
          have hpos : (0 : Int) < 2 ^ (7 * i) := Int.pow_pos (by decide)
          have hmul : c * 2 ^ (7 * i) ≤ 127 * 2 ^ (7 * i) := Int.mul_le_mul_of_nonneg_right (by omega) (by omega)
          rw [shl_eq (i := i) (by omega) rfl (by omega) (by omega), or_join (i := 7 * i) (by omega) h0 h1 (by omega) (by omega)]
          rw [w64 (x := (a : Int) + (i : Int)) (by omega) (by omega), w64 (x := (a : Int) + (i : Int) + 1) (by omega) (by omega), ec]
          by_cases hi0 : 0 < i
          · rw [if_pos (by omega)]
            by_cases h3 : c = 0
            · rw [if_pos h3, if_pos ⟨by simpa using hi0, h3⟩]
            · rw [if_neg h3, if_neg (fun h => h3 h.2)]
          · rw [if_neg (by omega), if_neg (fun h => hi0 (by simpa using h.1))]

theorem uint_eq (k : Nat) (l : List Int) (a : Int) (hk : 30 ≤ k) (hl : Bytes l) (hlen : l.length ≤ 140737488351232) : varint_Uint.f k l a = some (uintS l a) := by
  obtain ⟨k, rfl⟩ : ∃ m, k = m + 1 := ⟨k - 1, by omega⟩
  unfold varint_Uint.f uintS
  simp only [varint_Uint.j0]
  by_cases h : a < 0
  · rw [if_pos h, if_pos trivial, if_pos (.inl h)]
  · rw [if_neg h]
    by_cases h2 : a > (l.length : Int)
    · rw [if_pos (by simpa using h2), if_pos (.inr h2)]
    · rw [if_neg (by simpa using h2), if_neg (by omega)]
      obtain ⟨A, rfl⟩ := Int.eq_ofNat_of_zero_le (show 0 ≤ a by omega)
      have := uint_loop l hl hlen A 10 0 k 0 (by omega) (by omega) (by omega) (by decide) (by omega)
      simpa using this

/-! ### the sanity check -/
theorem enc300 : enc 300 = [172, 2] := by rw [enc_big (by decide), enc_small (by decide)]; rfl
theorem strs_172 : (strOfNums [172, 2]).toList = ([172, 2] : List UInt8) := by decide +kernel
theorem strs_9 : (strOfNums [9, 1]).toList = ([9, 1] : List UInt8) := by decide +kernel
theorem sane_eq (k : Nat) (hk : 30 ≤ k) : crossbarlaw01_sane.f k = some true := by
  unfold crossbarlaw01_sane.f
  have h1 := appendUint_eq k [] 300 (by omega) (by decide) (by decide)
  have h2 := appendInt_eq k [9] (-1) (by omega) (by decide) (by decide) (by decide)
  have e1 : zz (-1) = 1 := by decide
  rw [enc300] at h1
  rw [e1, enc_small (by decide)] at h2
  have b1 : Bytes [172, 2] := by intro c hc; simp at hc; omega
  have b2 : Bytes [128, 0] := by intro c hc; simp at hc; omega
  have u1 : uintS [172, 2] 0 = (300, 2, 0) := by decide
  have u2 : uintS [172, 2] 1 = (2, 2, 0) := by decide
  have u3 : uintS [128, 0] 0 = (0, 0, 12) := by decide
  rw [show (300 : Int) = ((300 : Nat) : Int) from rfl, h1]
  simp only [Option.bind_some, List.nil_append]
  rw [uint_eq k _ _ hk b1 (by decide), uint_eq k _ _ hk b1 (by decide), uint_eq k _ _ hk b2 (by decide), h2, u1, u2, u3]
  simp only [Option.bind_some, List.cons_append, List.nil_append]
  rw [if_pos strs_172]
  simp [strs_9]

end Go.Proofs.Ytehdlomgclijdaa.Vb
