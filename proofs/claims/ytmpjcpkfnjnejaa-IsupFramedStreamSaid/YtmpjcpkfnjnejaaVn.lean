/-
  Plain mathematics of LEB128 varints, continued: lengths, the decoder at an offset, zigzag values, and the bit operations of the code.
-/
import Derived.Test.YtmpjcpkfnjnejaaVm
set_option linter.unusedVariables false
namespace Go.Proofs.Ytmpjcpkfnjnejaa.Vm

theorem enc_len_le : ∀ (n v : Nat), v < 2 * 128 ^ n → (enc v).length ≤ n + 1 := by
  intro n
  induction n with
  | zero => intro v hv; rw [enc_small (by simp at hv; omega)]; simp
  | succ n ih =>
    intro v hv
    by_cases h : v < 128
    · rw [enc_small h]; simp
    · rw [enc_big h]
      have := ih (v / 128) (by rw [Nat.pow_succ] at hv; omega)
      simp only [List.length_cons]
      omega

theorem enc_len10 {v : Nat} (hv : v < 18446744073709551616) : (enc v).length ≤ 10 := enc_len_le 9 v (by omega)

theorem enc_bytes (v : Nat) : Bytes (enc v) := by
  induction v using Nat.strongRecOn with
  | ind v ih =>
    by_cases h : v < 128
    · rw [enc_small h]; intro c hc; simp at hc; omega
    · rw [enc_big h]
      intro c hc
      rcases List.mem_cons.1 hc with rfl | hc
      · omega
      · exact ih (v / 128) (by omega) c hc

theorem enc_len_mono : ∀ (v w : Nat), v ≤ w → (enc v).length ≤ (enc w).length := by
  intro v
  induction v using Nat.strongRecOn with
  | ind v ih =>
    intro w h
    by_cases h1 : v < 128
    · rw [enc_small h1]; exact enc_pos w
    · rw [enc_big h1, enc_big (show ¬ w < 128 by omega)]
      have := ih (v / 128) (by omega) (w / 128) (by omega)
      simpa using this

/-- All bytes but the last are at least 128. -/
theorem enc_more : ∀ (v i : Nat), i < (enc v).length → ((enc v).getD i 0 ≥ 128 ↔ i + 1 < (enc v).length) := by
  intro v
  induction v using Nat.strongRecOn with
  | ind v ih =>
    intro i hi
    by_cases h1 : v < 128
    · rw [enc_small h1] at hi ⊢
      obtain rfl : i = 0 := by simpa using hi
      simp
      omega
    · rw [enc_big h1] at hi ⊢
      cases i with
      | zero =>
        have := enc_pos (v / 128)
        simp only [List.getD_cons_zero, List.length_cons]
        omega
      | succ i =>
        have := ih (v / 128) (by omega) i (by simpa using hi)
        simp only [List.getD_cons_succ, List.length_cons]
        omega

theorem uint_at (p q : List Int) {v : Nat} (hv : v < 18446744073709551616) : uintS (p ++ (enc v ++ q)) (p.length : Int) = ((v : Int), (p.length : Int) + ((enc v).length : Int), 0) := by
  unfold uintS
  rw [if_neg (by simp; omega)]
  have h : (p ++ (enc v ++ q)).drop ((p.length : Int)).toNat = enc v ++ q := by simp
  rw [h]
  have := scan_enc 9 v q false 0 1 (p.length : Int) (by omega) (by simp)
  rw [this]
  simp

theorem uint_zero (q : List Int) {v : Nat} (hv : v < 18446744073709551616) : uintS (enc v ++ q) 0 = ((v : Int), ((enc v).length : Int), 0) := by
  have := uint_at [] q hv
  simpa using this

theorem uint_take {v j : Nat} (hv : v < 18446744073709551616) (hj : j < (enc v).length) : uintS ((enc v).take j) 0 = (0, 0, 10) := by
  unfold uintS
  rw [if_neg (by omega)]
  simp only [Int.toNat_zero, List.drop_zero]
  exact scan_take 9 v j false 0 1 0 (by omega) hj

theorem uint_err (l : List Int) (a : Int) (h : (uintS l a).2.2 ≠ 0) : (uintS l a).1 = 0 ∧ (uintS l a).2.1 = 0 := by
  unfold uintS at h ⊢
  by_cases h1 : a < 0 ∨ a > l.length
  · rw [if_pos h1]; exact ⟨rfl, rfl⟩
  · rw [if_neg h1] at h ⊢; exact scan_err _ _ _ _ _ _ h

theorem uint_canon {l : List Int} {a u i : Int} (hl : Bytes l) (h : uintS l a = (u, i, 0)) :
    ∃ v : Nat, v < 18446744073709551616 ∧ u = (v : Int) ∧ 0 ≤ a ∧ i = a + ((enc v).length : Int) ∧ i ≤ (l.length : Int) ∧ (l.take i.toNat).drop a.toNat = enc v ∧ ∃ q, l.drop a.toNat = enc v ++ q := by
  unfold uintS at h
  by_cases h1 : a < 0 ∨ a > l.length
  · rw [if_pos h1] at h; simp at h
  · rw [if_neg h1] at h
    obtain ⟨v, q, hp, hu, hi, _, hv, _⟩ := scan_canon 10 _ false 0 1 a u i (fun c hc => hl c (List.mem_of_mem_drop hc)) h
    have hlen : l.length - a.toNat = (enc v).length + q.length := by rw [← List.length_drop, hp, List.length_append]
    refine ⟨v, by omega, by omega, by omega, hi, by omega, ?_, q, hp⟩
    have hin : i.toNat = a.toNat + (enc v).length := by omega
    rw [List.drop_take, hin, Nat.add_sub_cancel_left, hp]
    simp

/-! ### zigzag -/
def zz (v : Int) : Nat := if v ≥ 0 then (2 * v).toNat else (-2 * v - 1).toNat
def unzz (u : Int) : Int := if u % 2 = 0 then u / 2 else -(u / 2) - 1
theorem unzz_zz (v : Int) : unzz (zz v : Int) = v := by unfold unzz zz; split <;> split <;> omega
theorem zz_unzz (u : Nat) : zz (unzz (u : Int)) = u := by unfold unzz zz; split <;> split <;> omega
theorem zz_lt {v : Int} (h0 : -9223372036854775808 ≤ v) (h1 : v ≤ 9223372036854775807) : zz v < 18446744073709551616 := by unfold zz; split <;> omega
theorem unzz_range {u : Nat} (h : u < 18446744073709551616) : -9223372036854775808 ≤ unzz (u : Int) ∧ unzz (u : Int) ≤ 9223372036854775807 := by unfold unzz; split <;> omega

/-! ### the code's bit operations -/
set_option maxRecDepth 20000 in
theorem nat_or128 : ∀ x : Nat, x < 256 → x ||| 128 = x % 128 + 128 := by decide
set_option maxRecDepth 20000 in
theorem nat_and128 : ∀ x : Nat, x < 256 → x &&& 128 = if x < 128 then 0 else 128 := by decide

theorem or128 {x : Int} (h0 : 0 ≤ x) (h1 : x < 256) : bits .or .u8 x 128 = x % 128 + 128 := by
  rw [u8_or x 128 h0 h1 (by decide) (by decide)]
  have := nat_or128 x.toNat (by omega)
  have e : (128 : Int).toNat = 128 := rfl
  rw [e, this]
  omega
theorem and128 {x : Int} (h0 : 0 ≤ x) (h1 : x ≤ 255) : bits .and .u8 x 128 = 0 ↔ x < 128 := by
  rw [u8_and x 128 h0 (by omega) (by decide) (by decide)]
  have := nat_and128 x.toNat (by omega)
  have e : (128 : Int).toNat = 128 := rfl
  rw [e, this]
  by_cases h : x.toNat < 128
  · rw [if_pos h]; simp; omega
  · rw [if_neg h]; simp; omega
theorem andNot128 {x : Int} (h0 : 0 ≤ x) (h1 : x ≤ 255) : bits .andNot .u8 x 128 = x % 128 := by
  rw [u8_andNot x 128 h0 (by omega) (by decide) (by decide)]
  have e : (255 - (128 : Int).toNat) = 127 := rfl
  rw [e, nat_mask7]
  omega
/-- The or of what has come and the next group: nothing overlaps. -/
theorem or_join {acc y : Int} {i : Nat} (hi : i ≤ 64) (h0 : 0 ≤ acc) (h1 : acc < 2 ^ i) (hy0 : 0 ≤ y) (hy1 : y * 2 ^ i < 18446744073709551616) :
    bits .or .u64 acc (y * 2 ^ i) = acc + y * 2 ^ i := by
  obtain ⟨A, rfl⟩ := Int.eq_ofNat_of_zero_le h0
  obtain ⟨Y, rfl⟩ := Int.eq_ofNat_of_zero_le hy0
  have hA : A < 2 ^ i := by exact_mod_cast h1
  have e : ((Y : Int) * 2 ^ i) = ((Y * 2 ^ i : Nat) : Int) := by rw [Int.natCast_mul, Int.natCast_pow]; rfl
  have hY : Y * 2 ^ i < 18446744073709551616 := by rw [e] at hy1; generalize Y * 2 ^ i = z at *; omega
  have hA2 : A < 18446744073709551616 := Nat.lt_of_lt_of_le hA (Nat.le_trans (Nat.pow_le_pow_right (by decide) hi) (by decide : 2 ^ 64 ≤ 18446744073709551616))
  rw [e, u64_or_nat A (Y * 2 ^ i) hA2 hY, Nat.or_comm, nat_join i (Y * 2 ^ i) A (by simp) hA, Int.natCast_add, Int.add_comm]

theorem xor_ones : ∀ x : Nat, x < 18446744073709551616 → x ^^^ 18446744073709551615 = 18446744073709551615 - x := by
  intro x hx
  have h : (18446744073709551615 : Nat) = 2 ^ 64 - 1 := by decide
  have := BitVec.toNat_not (x := BitVec.ofNat 64 x)
  have h2 : (BitVec.ofNat 64 x ^^^ BitVec.allOnes 64) = ~~~ (BitVec.ofNat 64 x) := BitVec.xor_allOnes
  have h3 := congrArg BitVec.toNat h2
  rw [this] at h3
  simp only [BitVec.toNat_xor, BitVec.toNat_ofNat, BitVec.toNat_allOnes] at h3
  rw [Nat.mod_eq_of_lt (by simpa using hx)] at h3
  simpa using h3

/-- uint64(v)<<1 ^ uint64(v>>63), as the code has it. -/
theorem zz_bits {v : Int} (h0 : -9223372036854775808 ≤ v) (h1 : v ≤ 9223372036854775807) :
    bits .xor .u64 (IntKind.u64.wrap ((IntKind.u64.wrap v) * 2)) (IntKind.u64.wrap (v / 9223372036854775808)) = (zz v : Int) := by
  have w : ∀ n : Int, IntKind.u64.wrap n = n % 18446744073709551616 := fun n => by simp [IntKind.wrap, IntKind.bits, IntKind.signed]
  rw [w, w, w, u64_xor _ _ (by omega) (by omega) (by omega) (by omega)]
  by_cases h : v ≥ 0
  · have e1 : v / 9223372036854775808 = 0 := by omega
    have e2 : ((v % 18446744073709551616) * 2) % 18446744073709551616 = 2 * v := by omega
    rw [e1, e2]
    simp [zz, h]
  · have e1 : v / 9223372036854775808 = -1 := by omega
    have e2 : ((v % 18446744073709551616) * 2) % 18446744073709551616 = 18446744073709551616 + 2 * v := by omega
    have e3 : ((-1 : Int) % 18446744073709551616).toNat = 18446744073709551615 := rfl
    rw [e1, e2, e3, xor_ones _ (by omega)]
    simp only [zz, if_neg h]
    omega

end Go.Proofs.Ytmpjcpkfnjnejaa.Vm
