/-
  The reference's integers (Uint, Int, AppendUint, AppendInt, Zigzag) and the code's Int are the plain functions of Vm and Vn.
-/
import Derived.Test.YtehdlomgclijdaaVix3
import Derived.Test.YtehdlomgclijdaaVb
set_option linter.unusedVariables false
namespace Go.Proofs.Ytehdlomgclijdaa.Vd
open Go.RowKit Go.Proofs.Ytehdlomgclijdaa.Vi Go.Proofs.YtehdlomgclijdaaW.PrintWords Go.Proofs.YtehdlomgclijdaaW.PrintLast Go.Proofs.YtehdlomgclijdaaW.PrintMore Go.Proofs.Ytehdlomgclijdaa.Vm Go.Proofs.Ytehdlomgclijdaa.Vb

theorem ref_full (K : Nat) (l : List Int) (a acc : Int) : crossbarref01_Uint.l0 (K + 1) l a acc 10 = some (0, 0, 11) := by
  simp only [crossbarref01_Uint.l0]
  rw [if_neg (by omega)]

theorem ref_loop (l : List Int) (hl : Bytes l) (hlen : l.length ≤ 140737488351232) (a : Nat) : ∀ (n i K : Nat) (acc : Int), n + i = 10 → a + i ≤ l.length → 0 ≤ acc → acc < 2 ^ (7 * i) → 2 * n + 2 ≤ K →
    crossbarref01_Uint.l0 K l (a : Int) acc (i : Int) = some (scan n (l.drop (a + i)) (decide (0 < i)) acc (2 ^ (7 * i)) ((a : Int) + i)) := by
  intro n
  induction n with
  | zero =>
    intro i K acc hni hai h0 h1 hK
    obtain ⟨K, rfl⟩ : ∃ m, K = m + 1 := ⟨K - 1, by omega⟩
    obtain rfl : i = 10 := by omega
    exact ref_full K l a acc
  | succ n ih =>
    intro i K acc hni hai h0 h1 hK
    obtain ⟨K, rfl⟩ : ∃ m, K = m + 1 := ⟨K - 1, by omega⟩
    simp only [crossbarref01_Uint.l0]
    have e7 : IntKind.u64.wrap (wrap64 (7 * (i : Int))) = 7 * (i : Int) := by rw [w64 (by omega) (by omega), u64w, Int.emod_eq_of_lt (by omega) (by omega)]
    rw [w64 (x := (a : Int) + (i : Int)) (by omega) (by omega), e7, w64 (x := (i : Int) + 1) (by omega) (by omega), if_pos (show (i : Int) < 10 by omega)]
    by_cases he : a + i = l.length
    · rw [if_pos (by omega), he, List.drop_length]
      rfl
    · have hlt : a + i < l.length := by omega
      have hc := rd_byte hl hlt
      have ec : (a : Int) + (i : Int) = ((a + i : Nat) : Int) := by omega
      rw [if_neg (show ¬ (a : Int) + (i : Int) ≥ (l.length : Int) by omega), if_pos (show 0 ≤ (a : Int) + (i : Int) by omega), if_pos (show (a : Int) + (i : Int) < (l.length : Int) by omega), rd_of_drop hlt, ec]
      generalize rd l ((a + i : Nat) : Int) = c at hc ⊢
      rw [scan]
      by_cases hb : c ≥ 128
      · rw [if_pos hb, if_pos hb, if_pos (show 0 ≤ 7 * (i : Int) by omega)]
        by_cases h9 : i = 9
        · obtain rfl : n = 0 := by omega
          subst h9
          obtain ⟨K, rfl⟩ : ∃ m, K = m + 1 := ⟨K - 1, by omega⟩
          rw [show ((9 : Nat) : Int) + 1 = 10 by decide, ref_full]
          rfl
        · have hp := pow_le (i := i) (by omega)
          have hpos : (0 : Int) < 2 ^ (7 * i) := Int.pow_pos (by decide)
          have e1 : (c - 128) % 256 = c - 128 := by omega
          have hmul : (c - 128) * 2 ^ (7 * i) ≤ 127 * 2 ^ (7 * i) := Int.mul_le_mul_of_nonneg_right (by omega) (by omega)
          have hmul0 : 0 ≤ (c - 128) * 2 ^ (7 * i) := Int.mul_nonneg (by omega) (by omega)
          rw [e1, shl_eq (i := i) (by omega) rfl (by omega) (by omega), u64w, Int.emod_eq_of_lt (by omega) (by omega)]
          have e2 : (i : Int) + 1 = ((i + 1 : Nat) : Int) := by omega
          rw [e2, ih (i + 1) K _ (by omega) (by omega) (by omega) (by rw [pow7]; omega) (by omega), pow7]
          simp only [Nat.zero_lt_succ, decide_true, Int.natCast_add]
          congr 2
      · rw [if_neg hb, if_neg hb]
        obtain ⟨K, rfl⟩ : ∃ m, K = m + 1 := ⟨K - 1, by omega⟩
        have ew : IntKind.u64.wrap c = c := by rw [u64w, Int.emod_eq_of_lt (by omega) (by omega)]
        by_cases h9 : i = 9
        · subst h9
          obtain rfl : n = 0 := by omega
          rw [if_pos (show ((9 : Nat) : Int) = 9 from rfl)]
          simp only [crossbarref01_Uint.j2]
          by_cases h2 : c > 1
          · rw [if_pos (show decide (c > 1) = true by simpa using h2), if_pos (show True ∧ c > 1 from ⟨trivial, h2⟩)]
          · rw [if_neg (show ¬ decide (c > 1) = true by simpa using h2), if_neg (show ¬ (True ∧ c > 1) from fun h => h2 h.2), if_pos (show ((9 : Nat) : Int) > 0 by decide)]
            by_cases h3 : c = 0
            · rw [if_pos h3, if_pos (show decide (0 < 9) = true ∧ c = 0 from ⟨by decide, h3⟩)]
            · rw [if_neg h3, if_neg (show ¬ (decide (0 < 9) = true ∧ c = 0) from fun h => h3 h.2), e7, if_pos (show 0 ≤ 7 * ((9 : Nat) : Int) by decide), ew]
              obtain rfl : c = 1 := by omega
              have hacc : acc < 9223372036854775808 := h1
              rw [w64 (x := (a : Int) + ((9 : Nat) : Int)) (by omega) (by omega), w64 (x := (a : Int) + ((9 : Nat) : Int) + 1) (by omega) (by omega), shl_eq (i := 9) (by omega) rfl (by omega) (by decide), u64w, Int.emod_eq_of_lt (by omega) (by omega)]
              rfl
        · rw [if_neg (show ¬ (i : Int) = 9 by omega), if_neg (show ¬ (n = 0 ∧ c > 1) from fun h => h9 (by omega))]
          simp only [crossbarref01_Uint.j2]
          rw [if_neg (by decide)]
          have hp := pow_le (i := i) (by omega)
          have hpos : (0 : Int) < 2 ^ (7 * i) := Int.pow_pos (by decide)
          have hmul : c * 2 ^ (7 * i) ≤ 127 * 2 ^ (7 * i) := Int.mul_le_mul_of_nonneg_right (by omega) (by omega)
          have hmul0 : 0 ≤ c * 2 ^ (7 * i) := Int.mul_nonneg (by omega) (by omega)
          rw [e7, ew, shl_eq (i := i) (by omega) rfl (by omega) (by omega), u64w, Int.emod_eq_of_lt (by omega) (by omega)]
          rw [w64 (x := (a : Int) + (i : Int)) (by omega) (by omega), w64 (x := (a : Int) + (i : Int) + 1) (by omega) (by omega), ec]
          by_cases hi0 : 0 < i
          · rw [if_pos (show (i : Int) > 0 by omega)]
            by_cases h3 : c = 0
            · rw [if_pos h3, if_pos (show decide (0 < i) = true ∧ c = 0 from ⟨by simpa using hi0, h3⟩)]
            · rw [if_neg h3, if_neg (show ¬ (decide (0 < i) = true ∧ c = 0) from fun h => h3 h.2), if_pos (show 0 ≤ 7 * (i : Int) by omega)]
          · rw [if_neg (show ¬ (i : Int) > 0 by omega), if_neg (show ¬ (decide (0 < i) = true ∧ c = 0) from fun h => hi0 (by simpa using h.1)), if_pos (show 0 ≤ 7 * (i : Int) by omega)]

theorem refUint_eq (k : Nat) (l : List Int) (a : Int) (hk : 30 ≤ k) (hl : Bytes l) (hlen : l.length ≤ 140737488351232) : crossbarref01_Uint.f k l a = some (uintS l a) := by
  obtain ⟨k, rfl⟩ : ∃ m, k = m + 1 := ⟨k - 1, by omega⟩
  unfold crossbarref01_Uint.f uintS
  simp only [crossbarref01_Uint.j0]
  by_cases h : a < 0
  · rw [if_pos h, if_pos trivial, if_pos (.inl h)]
  · rw [if_neg h]
    by_cases h2 : a > (l.length : Int)
    · rw [if_pos (by simpa using h2), if_pos (.inr h2)]
    · rw [if_neg (by simpa using h2), if_neg (by omega)]
      obtain ⟨A, rfl⟩ := Int.eq_ofNat_of_zero_le (show 0 ≤ a by omega)
      have := ref_loop l hl hlen A 10 0 k 0 (by omega) (by omega) (by omega) (by decide) (by omega)
      simpa using this

theorem refAppend_loop : ∀ (n v k : Nat) (xs : List Int), v < 2 * 128 ^ n → v < 18446744073709551616 → n < k → xs.length + n < 140737488355328 →
    crossbarref01_AppendUint.l0 k (v : Int) xs = some (xs ++ enc v) := by
  intro n
  induction n with
  | zero =>
    intro v k xs hv hv64 hk hx
    obtain ⟨k, rfl⟩ : ∃ m, k = m + 1 := ⟨k - 1, by omega⟩
    have hv2 : v < 2 := by simpa using hv
    rw [enc_small (by omega)]
    simp only [crossbarref01_AppendUint.l0]
    rw [if_neg (by omega), if_pos (by omega), Int.emod_eq_of_lt (by omega) (by omega)]
  | succ n ih =>
    intro v k xs hv hv64 hk hx
    obtain ⟨k, rfl⟩ : ∃ m, k = m + 1 := ⟨k - 1, by omega⟩
    simp only [crossbarref01_AppendUint.l0]
    by_cases h : v < 128
    · rw [if_neg (by omega), if_pos (by omega), Int.emod_eq_of_lt (by omega) (by omega), enc_small h]
    · have e : IntKind.u64.wrap (Int.tdiv (v : Int) 128) = ((v / 128 : Nat) : Int) := by
        rw [Int.tdiv_eq_ediv_of_nonneg (by omega), u64w]; omega
      have e2 : ((Int.tmod (v : Int) 128) + 128) % 256 = ((v % 128 + 128 : Nat) : Int) := by
        rw [Int.tmod_eq_emod_of_nonneg (by omega)]; omega
      rw [if_pos (by omega), if_pos (by omega), e, e2, ih (v / 128) k _ (by rw [Nat.pow_succ] at hv; omega) (by omega) (by omega) (by simp; omega), enc_big h]
      simp

theorem refAppendUint_eq (k : Nat) (l : List Int) (v : Nat) (hk : 10 ≤ k) (hl : l.length ≤ 140737488351232) (hv : v < 18446744073709551616) :
    crossbarref01_AppendUint.f k l (v : Int) = some (l ++ enc v) := by
  unfold crossbarref01_AppendUint.f
  simp only [Option.bind_some, List.length_nil, Nat.zero_add, List.nil_append]
  rw [if_pos (by omega)]
  exact refAppend_loop 9 v k l (by omega) hv (by omega) (by omega)

theorem refZigzag_eq {v : Int} (h0 : -9223372036854775808 ≤ v) (h1 : v ≤ 9223372036854775807) : crossbarref01_Zigzag.f v = some (zz v : Int) := by
  unfold crossbarref01_Zigzag.f zz
  by_cases h : v ≥ 0
  · rw [if_pos h, if_pos h]
    simp only [u64w]
    congr 1
    omega
  · rw [if_neg h, if_neg h, w64 (x := v + 1) (by omega) (by omega), w64 (by omega) (by omega)]
    simp only [u64w]
    congr 1
    omega

theorem refAppendInt_eq (k : Nat) (l : List Int) (v : Int) (hk : 10 ≤ k) (hl : l.length ≤ 140737488351232) (h0 : -9223372036854775808 ≤ v) (h1 : v ≤ 9223372036854775807) :
    crossbarref01_AppendInt.f k l v = some (l ++ enc (zz v)) := by
  unfold crossbarref01_AppendInt.f
  rw [refZigzag_eq h0 h1]
  simp only [Option.bind_some]
  rw [refAppendUint_eq k l (zz v) hk hl (zz_lt h0 h1)]
  rfl

/-! ### Int -/
def intS (l : List Int) (a : Int) : Int × Int × Int := if (uintS l a).2.2 = 0 then (unzz (uintS l a).1, (uintS l a).2.1, 0) else (0, 0, (uintS l a).2.2)

theorem xor_i64 {x : Int} (h0 : 0 ≤ x) (h1 : x ≤ 9223372036854775807) : bits .xor .i64 x 0 = x ∧ bits .xor .i64 x (-1) = -x - 1 := by
  obtain ⟨X, rfl⟩ := Int.eq_ofNat_of_zero_le h0
  have hX : X % 18446744073709551616 = X := Nat.mod_eq_of_lt (by omega)
  have ex : (BitVec.ofInt 64 (X : Int)).toNat = X := by rw [BitVec.ofInt_natCast, BitVec.toNat_ofNat]; exact hX
  constructor
  · have e : bits .xor .i64 (X : Int) 0 = IntKind.i64.wrap ((BitVec.ofInt 64 (X : Int) ^^^ BitVec.ofInt 64 0).toNat : Int) := rfl
    have e0 : (BitVec.ofInt 64 0).toNat = 0 := by decide
    rw [e, BitVec.toNat_xor, ex, e0, Nat.xor_zero, IntKind.wrap_i64]
    omega
  · have e : bits .xor .i64 (X : Int) (-1) = IntKind.i64.wrap ((BitVec.ofInt 64 (X : Int) ^^^ BitVec.ofInt 64 (-1)).toNat : Int) := rfl
    have e0 : (BitVec.ofInt 64 (-1)).toNat = 18446744073709551615 := by decide
    rw [e, BitVec.toNat_xor, ex, e0, xor_ones X (by omega), IntKind.wrap_i64]
    omega

theorem int_bits {u : Nat} (h : u < 18446744073709551616) : bits .xor .i64 (wrap64 ((u : Int) / 2)) (wrap64 (-(wrap64 (bits .and .u64 (u : Int) 1)))) = unzz (u : Int) := by
  have e1 : bits .and .u64 (u : Int) 1 = ((u % 2 : Nat) : Int) := by
    have := u64_and_nat u 1 h (by decide)
    rw [nat_mask1] at this
    exact this
  have hx := xor_i64 (x := (u : Int) / 2) (by omega) (by omega)
  rw [e1, w64 (x := (u : Int) / 2) (by omega) (by omega), w64 (x := ((u % 2 : Nat) : Int)) (by omega) (by omega), w64 (by omega) (by omega)]
  unfold unzz
  by_cases h2 : u % 2 = 0
  · rw [h2, if_pos (by omega)]
    exact hx.1
  · have h3 : u % 2 = 1 := by omega
    rw [h3, if_neg (by omega)]
    exact hx.2

theorem int_eq (k : Nat) (l : List Int) (a : Int) (hk : 30 ≤ k) (hl : Bytes l) (hlen : l.length ≤ 140737488351232) : varint_Int.f k l a = some (intS l a) := by
  unfold varint_Int.f intS
  rw [uint_eq k l a hk hl hlen]
  simp only [Option.bind_some]
  generalize hu : uintS l a = t
  obtain ⟨n, nx, e⟩ := t
  dsimp only
  by_cases he : e = 0
  · subst he
    obtain ⟨v, hv, rfl, _⟩ := uint_canon hl hu
    rw [int_bits hv, if_pos rfl]
  · have hz := uint_err l a (by rw [hu]; exact he)
    rw [hu] at hz
    dsimp only at hz
    obtain ⟨rfl, rfl⟩ := hz
    rw [if_neg he]
    have := int_bits (u := 0) (by decide)
    have e0 : unzz ((0 : Nat) : Int) = 0 := by decide
    rw [e0] at this
    congr 2

theorem refInt_eq (k : Nat) (l : List Int) (a : Int) (hk : 30 ≤ k) (hl : Bytes l) (hlen : l.length ≤ 140737488351232) : crossbarref01_Int.f k l a = some (intS l a) := by
  unfold crossbarref01_Int.f intS
  rw [refUint_eq k l a hk hl hlen]
  simp only [Option.bind_some]
  generalize hu : uintS l a = t
  obtain ⟨n, nx, e⟩ := t
  dsimp only
  by_cases he : e = 0
  · subst he
    obtain ⟨v, hv, rfl, _⟩ := uint_canon hl hu
    have e9 : (v : Int) / 2 % 18446744073709551616 = (v : Int) / 2 := Int.emod_eq_of_lt (by omega) (by omega)
    rw [if_pos rfl, if_pos rfl, Int.tmod_eq_emod_of_nonneg (by omega), Int.tdiv_eq_ediv_of_nonneg (by omega), u64w, e9, w64 (x := (v : Int) / 2) (by omega) (by omega), w64 (x := -((v : Int) / 2)) (by omega) (by omega), w64 (by omega) (by omega)]
    unfold unzz
    by_cases h : (v : Int) % 2 = 1
    · rw [if_pos h, if_neg (by omega)]
    · rw [if_neg h, if_pos (by omega)]
  · rw [if_neg he, if_neg he]

end Go.Proofs.Ytehdlomgclijdaa.Vd
