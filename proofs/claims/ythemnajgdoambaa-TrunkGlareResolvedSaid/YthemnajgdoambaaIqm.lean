/-
  isup, merged by wip/tools/merge.py out of: Vm, Vn, Iv, Iq1, Iq2, Iq3, Iq4, Iq5, Iq6, Iq7, Iq8, Iq9, Iq10, Iq13, Iq14, Iq15
-/
import Derived.Laws.BitsAllLaws
import Derived.Test.YthemnajgdoambaaIa
import Derived.RegionTactic
import Derived.ChangeAlike
import Derived.Deep.QuietTactic
import Derived.BigQuiet
import Derived.Shelf.Abstract
import Derived.Laws.NewBlocks
import Derived.Laws.EntriesVeiled
import Derived.RangeFuncRecord
import Derived.Shelf.GgClosure.StringsIndexFuncTop
import Derived.Shelf.Lay
import Derived.Ground.GgwProg
import Derived.Maps.Own
import Derived.Maps.Views
import Derived.Deep.RegionHeld3
import Derived.WalkSmall
import Derived.Recover
import Derived.Defers
/-
  Plain mathematics of LEB128 varints: the encoding of a natural number as a list of bytes, the decoder as a function on lists, and that each inverts the other. No program here.
-/
set_option linter.unusedVariables false
namespace Go.Proofs.Ythemnajgdoambaa.Vm

/-- The encoding: groups of seven bits, the least significant first. -/
def enc (v : Nat) : List Int := if h : v < 128 then [(v : Int)] else ((v % 128 + 128 : Nat) : Int) :: enc (v / 128)
  termination_by v
  decreasing_by omega

theorem enc_small {v : Nat} (h : v < 128) : enc v = [(v : Int)] := by rw [enc]; simp [h]
theorem enc_big {v : Nat} (h : ¬ v < 128) : enc v = ((v % 128 + 128 : Nat) : Int) :: enc (v / 128) := by rw [enc]; simp [h]

/-- The decoder: n groups may still come; b: a group has come; acc: what has come; pw: the next group's weight; pos: the offset. -/
def scan : Nat → List Int → Bool → Int → Int → Int → Int × Int × Int
  | 0, _, _, _, _, _ => (0, 0, 11)
  | _ + 1, [], _, _, _, _ => (0, 0, 10)
  | n + 1, c :: p, b, acc, pw, pos =>
    if c ≥ 128 then scan n p true (acc + (c - 128) * pw) (pw * 128) (pos + 1)
    else if n = 0 ∧ c > 1 then (0, 0, 11)
    else if b = true ∧ c = 0 then (0, 0, 12)
    else (acc + c * pw, pos + 1, 0)

def uintS (l : List Int) (a : Int) : Int × Int × Int := if a < 0 ∨ a > l.length then (0, 0, 1) else scan 10 (l.drop a.toNat) false 0 1 a

theorem enc_pos (v : Nat) : 0 < (enc v).length := by
  by_cases h : v < 128
  · simp [enc_small h]
  · simp [enc_big h]

theorem split_mul (v : Nat) (acc pw : Int) : acc + (((v % 128 + 128 : Nat) : Int) - 128) * pw + ((v / 128 : Nat) : Int) * (pw * 128) = acc + (v : Int) * pw := by
  have h : (v : Int) = (((v % 128 + 128 : Nat) : Int) - 128) + ((v / 128 : Nat) : Int) * 128 := by omega
  generalize (((v % 128 + 128 : Nat) : Int) - 128) = x at *
  generalize ((v / 128 : Nat) : Int) = y at *
  rw [h]
  grind

theorem scan_enc : ∀ (n v : Nat) (q : List Int) (b : Bool) (acc pw pos : Int), v < 2 * 128 ^ n → (b = true → v ≠ 0) →
    scan (n + 1) (enc v ++ q) b acc pw pos = (acc + (v : Int) * pw, pos + ((enc v).length : Int), 0) := by
  intro n
  induction n with
  | zero =>
    intro v q b acc pw pos hv hb
    have hv2 : v < 2 := by simpa using hv
    rw [enc_small (by omega)]
    simp only [List.cons_append, List.nil_append, scan, List.length_cons, List.length_nil]
    rw [if_neg (by omega), if_neg (by omega), if_neg (fun h => hb h.1 (by omega))]
    rfl
  | succ n ih =>
    intro v q b acc pw pos hv hb
    by_cases h : v < 128
    · rw [enc_small h]
      simp only [List.cons_append, List.nil_append, scan, List.length_cons, List.length_nil]
      rw [if_neg (by omega), if_neg (by omega), if_neg (fun h => hb h.1 (by omega))]
      rfl
    · rw [enc_big h]
      simp only [List.cons_append, List.length_cons]
      rw [scan, if_pos (by omega)]
      have hlt : v / 128 < 2 * 128 ^ n := by rw [Nat.pow_succ] at hv; omega
      rw [ih (v / 128) q true _ _ _ hlt (fun _ => by omega), split_mul]
      simp only [Prod.mk.injEq, true_and, and_true]
      omega

theorem scan_take : ∀ (n v j : Nat) (b : Bool) (acc pw pos : Int), v < 2 * 128 ^ n → j < (enc v).length →
    scan (n + 1) ((enc v).take j) b acc pw pos = (0, 0, 10) := by
  intro n
  induction n with
  | zero =>
    intro v j b acc pw pos hv hj
    have hv2 : v < 2 := by simpa using hv
    rw [enc_small (by omega)] at hj ⊢
    obtain rfl : j = 0 := by simpa using hj
    rfl
  | succ n ih =>
    intro v j b acc pw pos hv hj
    cases j with
    | zero => simp [scan]
    | succ j =>
      by_cases h : v < 128
      · rw [enc_small h] at hj
        simp at hj
      · rw [enc_big h] at hj ⊢
        rw [List.take_succ_cons, scan, if_pos (by omega)]
        have hlt : v / 128 < 2 * 128 ^ n := by rw [Nat.pow_succ] at hv; omega
        exact ih (v / 128) j true _ _ _ hlt (by simpa using hj)

theorem scan_err : ∀ (n : Nat) (p : List Int) (b : Bool) (acc pw pos : Int), (scan n p b acc pw pos).2.2 ≠ 0 → (scan n p b acc pw pos).1 = 0 ∧ (scan n p b acc pw pos).2.1 = 0 := by
  intro n
  induction n with
  | zero => intro p b acc pw pos h; exact ⟨rfl, rfl⟩
  | succ n ih =>
    intro p b acc pw pos h
    cases p with
    | nil => exact ⟨rfl, rfl⟩
    | cons c p =>
      rw [scan] at h ⊢
      by_cases h1 : c ≥ 128
      · rw [if_pos h1] at h ⊢; exact ih _ _ _ _ _ h
      · rw [if_neg h1] at h ⊢
        by_cases h2 : n = 0 ∧ c > 1
        · rw [if_pos h2]; exact ⟨rfl, rfl⟩
        · rw [if_neg h2] at h ⊢
          by_cases h3 : b = true ∧ c = 0
          · rw [if_pos h3]; exact ⟨rfl, rfl⟩
          · rw [if_neg h3] at h; exact absurd rfl h

def Bytes (l : List Int) : Prop := ∀ c ∈ l, 0 ≤ c ∧ c ≤ 255

theorem scan_canon : ∀ (n : Nat) (p : List Int) (b : Bool) (acc pw pos u nx : Int), Bytes p → scan n p b acc pw pos = (u, nx, 0) →
    ∃ (v : Nat) (q : List Int), p = enc v ++ q ∧ u = acc + (v : Int) * pw ∧ nx = pos + ((enc v).length : Int) ∧ 0 < n ∧ v < 2 * 128 ^ (n - 1) ∧ (b = true → v ≠ 0) := by
  intro n
  induction n with
  | zero => intro p b acc pw pos u nx hp h; simp [scan] at h
  | succ n ih =>
    intro p b acc pw pos u nx hp h
    cases p with
    | nil => simp [scan] at h
    | cons c p =>
      have hc := hp c (by simp)
      rw [scan] at h
      by_cases h1 : c ≥ 128
      · rw [if_pos h1] at h
        obtain ⟨v, q, rfl, hu, hnx, hn, hv, hb⟩ := ih p true _ _ _ u nx (fun x hx => hp x (by simp [hx])) h
        have hv0 := hb rfl
        obtain ⟨m, rfl⟩ : ∃ m, n = m + 1 := ⟨n - 1, by omega⟩
        have e0 : ¬ ((c - 128).toNat + 128 * v) < 128 := by omega
        have e1 : ((c - 128).toNat + 128 * v) / 128 = v := by omega
        have e2 : ((((c - 128).toNat + 128 * v) % 128 + 128 : Nat) : Int) = c := by omega
        refine ⟨(c - 128).toNat + 128 * v, q, ?_, ?_, ?_, by omega, ?_, fun _ => by omega⟩
        · rw [enc_big e0, e1, e2]; rfl
        · have := split_mul ((c - 128).toNat + 128 * v) acc pw
          rw [e1, e2] at this
          rw [hu, this]
        · rw [enc_big e0, e1, hnx]
          simp only [List.length_cons]
          omega
        · simp only [Nat.add_sub_cancel] at hv ⊢
          rw [Nat.pow_succ]
          omega
      · rw [if_neg h1] at h
        by_cases h2 : n = 0 ∧ c > 1
        · rw [if_pos h2] at h; simp at h
        · rw [if_neg h2] at h
          by_cases h3 : b = true ∧ c = 0
          · rw [if_pos h3] at h; simp at h
          · rw [if_neg h3] at h
            simp only [Prod.mk.injEq, and_true] at h
            have e : enc c.toNat = [c] := by rw [enc_small (by omega), Int.toNat_of_nonneg hc.1]
            refine ⟨c.toNat, p, by rw [e]; rfl, ?_, ?_, by omega, ?_, fun hb h0 => h3 ⟨hb, by omega⟩⟩
            · rw [Int.toNat_of_nonneg hc.1]; exact h.1.symm
            · rw [e]; simp [h.2]
            · simp only [Nat.add_sub_cancel]
              rcases Nat.eq_zero_or_pos n with rfl | hn
              · simp at h2 ⊢; omega
              · obtain ⟨m, rfl⟩ : ∃ m, n = m + 1 := ⟨n - 1, by omega⟩
                have := (Nat.pow_pos (by decide) : 0 < 128 ^ m)
                rw [Nat.pow_succ]; omega

end Go.Proofs.Ythemnajgdoambaa.Vm
/-
  Plain mathematics of LEB128 varints, continued: lengths, the decoder at an offset, zigzag values, and the bit operations of the code.
-/
set_option linter.unusedVariables false
namespace Go.Proofs.Ythemnajgdoambaa.Vm

theorem enc_len_le : ∀ (n v : Nat), v < 2 * 128 ^ n → (enc v).length ≤ n + 1 := by
  intro n
  induction n with
  | zero => intro v hv; rw [enc_small (by simp at hv; omega)]; simp
  | succ n ih =>
    intro v hv
    by_cases h : v < 128
    · rw [enc_small h]; simp
    · rw [enc_big h]
      have := ih (v / 128) (by rw [Nat.pow_succ] at hv; omega)
      simp only [List.length_cons]
      omega

theorem enc_len10 {v : Nat} (hv : v < 18446744073709551616) : (enc v).length ≤ 10 := enc_len_le 9 v (by omega)

theorem enc_bytes (v : Nat) : Bytes (enc v) := by
  induction v using Nat.strongRecOn with
  | ind v ih =>
    by_cases h : v < 128
    · rw [enc_small h]; intro c hc; simp at hc; omega
    · rw [enc_big h]
      intro c hc
      rcases List.mem_cons.1 hc with rfl | hc
      · omega
      · exact ih (v / 128) (by omega) c hc

theorem enc_len_mono : ∀ (v w : Nat), v ≤ w → (enc v).length ≤ (enc w).length := by
  intro v
  induction v using Nat.strongRecOn with
  | ind v ih =>
    intro w h
    by_cases h1 : v < 128
    · rw [enc_small h1]; exact enc_pos w
    · rw [enc_big h1, enc_big (show ¬ w < 128 by omega)]
      have := ih (v / 128) (by omega) (w / 128) (by omega)
      simpa using this

/-- All bytes but the last are at least 128. -/
theorem enc_more : ∀ (v i : Nat), i < (enc v).length → ((enc v).getD i 0 ≥ 128 ↔ i + 1 < (enc v).length) := by
  intro v
  induction v using Nat.strongRecOn with
  | ind v ih =>
    intro i hi
    by_cases h1 : v < 128
    · rw [enc_small h1] at hi ⊢
      obtain rfl : i = 0 := by simpa using hi
      simp
      omega
    · rw [enc_big h1] at hi ⊢
      cases i with
      | zero =>
        have := enc_pos (v / 128)
        simp only [List.getD_cons_zero, List.length_cons]
        omega
      | succ i =>
        have := ih (v / 128) (by omega) i (by simpa using hi)
        simp only [List.getD_cons_succ, List.length_cons]
        omega

theorem uint_at (p q : List Int) {v : Nat} (hv : v < 18446744073709551616) : uintS (p ++ (enc v ++ q)) (p.length : Int) = ((v : Int), (p.length : Int) + ((enc v).length : Int), 0) := by
  unfold uintS
  rw [if_neg (by simp; omega)]
  have h : (p ++ (enc v ++ q)).drop ((p.length : Int)).toNat = enc v ++ q := by simp
  rw [h]
  have := scan_enc 9 v q false 0 1 (p.length : Int) (by omega) (by simp)
  rw [this]
  simp

theorem uint_zero (q : List Int) {v : Nat} (hv : v < 18446744073709551616) : uintS (enc v ++ q) 0 = ((v : Int), ((enc v).length : Int), 0) := by
  have := uint_at [] q hv
  simpa using this

theorem uint_take {v j : Nat} (hv : v < 18446744073709551616) (hj : j < (enc v).length) : uintS ((enc v).take j) 0 = (0, 0, 10) := by
  unfold uintS
  rw [if_neg (by omega)]
  simp only [Int.toNat_zero, List.drop_zero]
  exact scan_take 9 v j false 0 1 0 (by omega) hj

theorem uint_err (l : List Int) (a : Int) (h : (uintS l a).2.2 ≠ 0) : (uintS l a).1 = 0 ∧ (uintS l a).2.1 = 0 := by
  unfold uintS at h ⊢
  by_cases h1 : a < 0 ∨ a > l.length
  · rw [if_pos h1]; exact ⟨rfl, rfl⟩
  · rw [if_neg h1] at h ⊢; exact scan_err _ _ _ _ _ _ h

theorem uint_canon {l : List Int} {a u i : Int} (hl : Bytes l) (h : uintS l a = (u, i, 0)) :
    ∃ v : Nat, v < 18446744073709551616 ∧ u = (v : Int) ∧ 0 ≤ a ∧ i = a + ((enc v).length : Int) ∧ i ≤ (l.length : Int) ∧ (l.take i.toNat).drop a.toNat = enc v ∧ ∃ q, l.drop a.toNat = enc v ++ q := by
  unfold uintS at h
  by_cases h1 : a < 0 ∨ a > l.length
  · rw [if_pos h1] at h; simp at h
  · rw [if_neg h1] at h
    obtain ⟨v, q, hp, hu, hi, _, hv, _⟩ := scan_canon 10 _ false 0 1 a u i (fun c hc => hl c (List.mem_of_mem_drop hc)) h
    have hlen : l.length - a.toNat = (enc v).length + q.length := by rw [← List.length_drop, hp, List.length_append]
    refine ⟨v, by omega, by omega, by omega, hi, by omega, ?_, q, hp⟩
    have hin : i.toNat = a.toNat + (enc v).length := by omega
    rw [List.drop_take, hin, Nat.add_sub_cancel_left, hp]
    simp

/-! ### zigzag -/
def zz (v : Int) : Nat := if v ≥ 0 then (2 * v).toNat else (-2 * v - 1).toNat
def unzz (u : Int) : Int := if u % 2 = 0 then u / 2 else -(u / 2) - 1
theorem unzz_zz (v : Int) : unzz (zz v : Int) = v := by unfold unzz zz; split <;> split <;> omega
theorem zz_unzz (u : Nat) : zz (unzz (u : Int)) = u := by unfold unzz zz; split <;> split <;> omega
theorem zz_lt {v : Int} (h0 : -9223372036854775808 ≤ v) (h1 : v ≤ 9223372036854775807) : zz v < 18446744073709551616 := by unfold zz; split <;> omega
theorem unzz_range {u : Nat} (h : u < 18446744073709551616) : -9223372036854775808 ≤ unzz (u : Int) ∧ unzz (u : Int) ≤ 9223372036854775807 := by unfold unzz; split <;> omega

/-! ### the code's bit operations -/
set_option maxRecDepth 20000 in
theorem nat_or128 : ∀ x : Nat, x < 256 → x ||| 128 = x % 128 + 128 := by decide
set_option maxRecDepth 20000 in
theorem nat_and128 : ∀ x : Nat, x < 256 → x &&& 128 = if x < 128 then 0 else 128 := by decide

theorem or128 {x : Int} (h0 : 0 ≤ x) (h1 : x < 256) : bits .or .u8 x 128 = x % 128 + 128 := by
  rw [u8_or x 128 h0 h1 (by decide) (by decide)]
  have := nat_or128 x.toNat (by omega)
  have e : (128 : Int).toNat = 128 := rfl
  rw [e, this]
  omega
theorem and128 {x : Int} (h0 : 0 ≤ x) (h1 : x ≤ 255) : bits .and .u8 x 128 = 0 ↔ x < 128 := by
  rw [u8_and x 128 h0 (by omega) (by decide) (by decide)]
  have := nat_and128 x.toNat (by omega)
  have e : (128 : Int).toNat = 128 := rfl
  rw [e, this]
  by_cases h : x.toNat < 128
  · rw [if_pos h]; simp; omega
  · rw [if_neg h]; simp; omega
theorem andNot128 {x : Int} (h0 : 0 ≤ x) (h1 : x ≤ 255) : bits .andNot .u8 x 128 = x % 128 := by
  rw [u8_andNot x 128 h0 (by omega) (by decide) (by decide)]
  have e : (255 - (128 : Int).toNat) = 127 := rfl
  rw [e, nat_mask7]
  omega
/-- The or of what has come and the next group: nothing overlaps. -/
theorem or_join {acc y : Int} {i : Nat} (hi : i ≤ 64) (h0 : 0 ≤ acc) (h1 : acc < 2 ^ i) (hy0 : 0 ≤ y) (hy1 : y * 2 ^ i < 18446744073709551616) :
    bits .or .u64 acc (y * 2 ^ i) = acc + y * 2 ^ i := by
  obtain ⟨A, rfl⟩ := Int.eq_ofNat_of_zero_le h0
  obtain ⟨Y, rfl⟩ := Int.eq_ofNat_of_zero_le hy0
  have hA : A < 2 ^ i := by exact_mod_cast h1
  have e : ((Y : Int) * 2 ^ i) = ((Y * 2 ^ i : Nat) : Int) := by rw [Int.natCast_mul, Int.natCast_pow]; rfl
  have hY : Y * 2 ^ i < 18446744073709551616 := by rw [e] at hy1; generalize Y * 2 ^ i = z at *; omega
  have hA2 : A < 18446744073709551616 := Nat.lt_of_lt_of_le hA (Nat.le_trans (Nat.pow_le_pow_right (by decide) hi) (by decide : 2 ^ 64 ≤ 18446744073709551616))
  rw [e, u64_or_nat A (Y * 2 ^ i) hA2 hY, Nat.or_comm, nat_join i (Y * 2 ^ i) A (by simp) hA, Int.natCast_add, Int.add_comm]

theorem xor_ones : ∀ x : Nat, x < 18446744073709551616 → x ^^^ 18446744073709551615 = 18446744073709551615 - x := by
  intro x hx
  have h : (18446744073709551615 : Nat) = 2 ^ 64 - 1 := by decide
  have := BitVec.toNat_not (x := BitVec.ofNat 64 x)
  have h2 : (BitVec.ofNat 64 x ^^^ BitVec.allOnes 64) = ~~~ (BitVec.ofNat 64 x) := BitVec.xor_allOnes
  have h3 := congrArg BitVec.toNat h2
  rw [this] at h3
  simp only [BitVec.toNat_xor, BitVec.toNat_ofNat, BitVec.toNat_allOnes] at h3
  rw [Nat.mod_eq_of_lt (by simpa using hx)] at h3
  simpa using h3

/-- uint64(v)<<1 ^ uint64(v>>63), as the code has it. -/
theorem zz_bits {v : Int} (h0 : -9223372036854775808 ≤ v) (h1 : v ≤ 9223372036854775807) :
    bits .xor .u64 (IntKind.u64.wrap ((IntKind.u64.wrap v) * 2)) (IntKind.u64.wrap (v / 9223372036854775808)) = (zz v : Int) := by
  have w : ∀ n : Int, IntKind.u64.wrap n = n % 18446744073709551616 := fun n => by simp [IntKind.wrap, IntKind.bits, IntKind.signed]
  rw [w, w, w, u64_xor _ _ (by omega) (by omega) (by omega) (by omega)]
  by_cases h : v ≥ 0
  · have e1 : v / 9223372036854775808 = 0 := by omega
    have e2 : ((v % 18446744073709551616) * 2) % 18446744073709551616 = 2 * v := by omega
    rw [e1, e2]
    simp [zz, h]
  · have e1 : v / 9223372036854775808 = -1 := by omega
    have e2 : ((v % 18446744073709551616) * 2) % 18446744073709551616 = 18446744073709551616 + 2 * v := by omega
    have e3 : ((-1 : Int) % 18446744073709551616).toNat = 18446744073709551615 := rfl
    rw [e1, e2, e3, xor_ones _ (by omega)]
    simp only [zz, if_neg h]
    omega

end Go.Proofs.Ythemnajgdoambaa.Vm
/-
  The printed functions of the package varint are the plain ones of Vm and Vn: AppendUint, Uint, AppendString, String. (Written by wip/tools/emit_iv.py out of our own varint texts.)
-/
set_option linter.unusedVariables false
namespace Go.Proofs.Ythemnajgdoambaa.Iv
open Go.RowKit Go.Proofs.Ythemnajgdoambaa.Is Go.Proofs.YthemnajgdoambaaW.PrintWords Go.Proofs.YthemnajgdoambaaW.PrintLast Go.Proofs.YthemnajgdoambaaW.PrintMore Go.Proofs.Ythemnajgdoambaa.Vm

theorem w64 {x : Int} (h0 : -9223372036854775808 ≤ x) (h1 : x ≤ 9223372036854775807) : wrap64 x = x := by unfold wrap64; omega
theorem u64w (n : Int) : IntKind.u64.wrap n = n % 18446744073709551616 := by simp [IntKind.wrap, IntKind.bits, IntKind.signed]

theorem wf_u64 {x : Int} (h : (Lit.int .u64 x).wf = true) : 0 ≤ x ∧ x ≤ 18446744073709551615 := by
  simp only [Lit.wf, IntKind.min, IntKind.max, IntKind.signed, IntKind.bits, Bool.and_eq_true, decide_eq_true_eq, Bool.false_eq_true, if_false] at h; omega
theorem wf_i64 {x : Int} (h : (Lit.int .i64 x).wf = true) : -9223372036854775808 ≤ x ∧ x ≤ 9223372036854775807 := by
  simp only [Lit.wf, IntKind.min, IntKind.max, IntKind.signed, IntKind.bits, Bool.and_eq_true, decide_eq_true_eq, if_true] at h; omega
theorem wf_u8 {x : Int} (h : (Lit.int .u8 x).wf = true) : 0 ≤ x ∧ x ≤ 255 := by
  simp only [Lit.wf, IntKind.min, IntKind.max, IntKind.signed, IntKind.bits, Bool.and_eq_true, decide_eq_true_eq, Bool.false_eq_true, if_false] at h; omega
theorem wf_bytes {l : List Int} (h : ∀ x ∈ l, (Lit.int .u8 x).wf = true) : Bytes l := fun c hc => wf_u8 (h c hc)
theorem clone_eq (l : List Int) (h : l.length < 140737488355328) : slices_Clone_byte_byte.f l = some l := by
  unfold slices_Clone_byte_byte.f
  simp only [Option.bind_some, List.nil_append, List.length_nil, Nat.zero_add]
  rw [if_pos h]

theorem append_loop : ∀ (n v k : Nat) (xs : List Int), v < 2 * 128 ^ n → n < k → xs.length + n < 140737488355328 →
    varint_AppendUint.l0 k (v : Int) xs = some (xs ++ enc v) := by
  intro n
  induction n with
  | zero =>
    intro v k xs hv hk hx
    obtain ⟨k, rfl⟩ : ∃ m, k = m + 1 := ⟨k - 1, by omega⟩
    have hv2 : v < 2 := by simpa using hv
    rw [enc_small (by omega)]
    simp only [varint_AppendUint.l0]
    rw [if_neg (by omega), if_pos (by omega), Int.emod_eq_of_lt (by omega) (by omega)]
  | succ n ih =>
    intro v k xs hv hk hx
    obtain ⟨k, rfl⟩ : ∃ m, k = m + 1 := ⟨k - 1, by omega⟩
    simp only [varint_AppendUint.l0]
    by_cases h : v < 128
    · rw [if_neg (by omega), if_pos (by omega), Int.emod_eq_of_lt (by omega) (by omega), enc_small h]
    · rw [if_pos (by omega), if_pos (by omega), or128 (by omega) (by omega)]
      have e : ((v : Int) / 128) = ((v / 128 : Nat) : Int) := by omega
      have e2 : ((v : Int) % 256 % 128 + 128) = ((v % 128 + 128 : Nat) : Int) := by omega
      rw [e, e2, ih (v / 128) k _ (by rw [Nat.pow_succ] at hv; omega) (by omega) (by simp; omega), enc_big h]
      simp

theorem appendUint_eq (k : Nat) (l : List Int) (v : Nat) (hk : 10 ≤ k) (hl : l.length ≤ 140737488351232) (hv : v < 18446744073709551616) :
    varint_AppendUint.f k l (v : Int) = some (l ++ enc v) := by
  unfold varint_AppendUint.f
  rw [clone_eq l (by omega)]
  exact append_loop 9 v k l (by omega) (by omega) (by omega)

theorem rd_of_drop {l : List Int} {j : Nat} (h : j < l.length) : l.drop j = rd l (j : Int) :: l.drop (j + 1) := by
  rw [List.drop_eq_getElem_cons h]
  congr 1
  unfold rd
  simp [List.getD_eq_getElem?_getD, h]
theorem rd_byte {l : List Int} (hl : Bytes l) {j : Nat} (h : j < l.length) : 0 ≤ rd l (j : Int) ∧ rd l (j : Int) ≤ 255 := by
  refine hl _ ?_
  unfold rd
  simp only [Int.toNat_natCast, List.getD_eq_getElem?_getD, List.getElem?_eq_getElem h, Option.getD_some]
  exact List.getElem_mem h

theorem uint_full (K : Nat) (l : List Int) (a acc : Int) : varint_Uint.l0 (K + 1) l a acc 10 = some (0, 0, 11) := by
  simp only [varint_Uint.l0]
  rw [if_neg (by omega)]

theorem shl_eq {x y : Int} {i : Nat} (hi : i ≤ 9) (hy : y = 7 * (i : Int)) (hx0 : 0 ≤ x) (hx : x * 2 ^ (7 * i) < 18446744073709551616) : shl .u64 x y = x * 2 ^ (7 * i) := by
  have e : y.toNat = 7 * i := by omega
  unfold shl
  rw [e, Nat.min_eq_left (by simp [IntKind.bits]; omega), u64w, Int.emod_eq_of_lt (Int.mul_nonneg hx0 (Int.pow_nonneg (by decide))) hx]

theorem pow7 (i : Nat) : (2 : Int) ^ (7 * (i + 1)) = 2 ^ (7 * i) * 128 := by
  rw [Nat.mul_add, Int.pow_add]
  rfl

theorem pow_le {i : Nat} (hi : i ≤ 8) : (2 : Int) ^ (7 * i) ≤ 72057594037927936 := by
  have h : (2 : Nat) ^ (7 * i) ≤ 2 ^ 56 := Nat.pow_le_pow_right (by decide) (by omega)
  have e : (2 : Int) ^ (7 * i) = ((2 ^ (7 * i) : Nat) : Int) := by rw [Int.natCast_pow]; rfl
  rw [e]
  have : (2 : Nat) ^ 56 = 72057594037927936 := by decide
  omega

theorem uint_loop (l : List Int) (hl : Bytes l) (hlen : l.length ≤ 140737488351232) (a : Nat) : ∀ (n i K : Nat) (acc : Int), n + i = 10 → a + i ≤ l.length → 0 ≤ acc → acc < 2 ^ (7 * i) → 2 * n + 2 ≤ K →
    varint_Uint.l0 K l (a : Int) acc (i : Int) = some (scan n (l.drop (a + i)) (decide (0 < i)) acc (2 ^ (7 * i)) ((a : Int) + i)) := by
  intro n
  induction n with
  | zero =>
    intro i K acc hni hai h0 h1 hK
    obtain ⟨K, rfl⟩ : ∃ m, K = m + 1 := ⟨K - 1, by omega⟩
    obtain rfl : i = 10 := by omega
    exact uint_full K l a acc
  | succ n ih =>
    intro i K acc hni hai h0 h1 hK
    obtain ⟨K, rfl⟩ : ∃ m, K = m + 1 := ⟨K - 1, by omega⟩
    simp only [varint_Uint.l0]
    rw [w64 (x := (a : Int) + (i : Int)) (by omega) (by omega), w64 (x := 7 * (i : Int)) (by omega) (by omega), w64 (x := (i : Int) + 1) (by omega) (by omega), if_pos (by omega)]
    by_cases he : a + i = l.length
    · rw [if_pos (by omega), he, List.drop_length]
      rfl
    · have hlt : a + i < l.length := by omega
      have hc := rd_byte hl hlt
      have ec : (a : Int) + (i : Int) = ((a + i : Nat) : Int) := by omega
      rw [if_neg (by omega), if_pos (by omega), if_pos (by omega), if_pos (by omega), rd_of_drop hlt, ec]
      generalize rd l ((a + i : Nat) : Int) = c at hc ⊢
      rw [andNot128 hc.1 hc.2, u64w, Int.emod_eq_of_lt (show 0 ≤ c % 128 by omega) (by omega)]
      rw [scan]
      by_cases hb : c ≥ 128
      · rw [if_neg (fun h => by have := (and128 hc.1 hc.2).1 h; omega), if_pos hb]
        by_cases h9 : i = 9
        · obtain rfl : n = 0 := by omega
          subst h9
          obtain ⟨K, rfl⟩ : ∃ m, K = m + 1 := ⟨K - 1, by omega⟩
          rw [show ((9 : Nat) : Int) + 1 = 10 by decide, uint_full]
          rfl
        · have hp := pow_le (i := i) (by omega)
          have hpos : (0 : Int) < 2 ^ (7 * i) := Int.pow_pos (by decide)
          have hmul : c % 128 * 2 ^ (7 * i) ≤ 127 * 2 ^ (7 * i) := Int.mul_le_mul_of_nonneg_right (by omega) (by omega)
          have hmul0 : 0 ≤ c % 128 * 2 ^ (7 * i) := Int.mul_nonneg (by omega) (by omega)
          rw [shl_eq (i := i) (by omega) rfl (by omega) (by omega), or_join (i := 7 * i) (by omega) h0 h1 (by omega) (by omega)]
          have e1 : c % 128 = c - 128 := by omega
          have e2 : (i : Int) + 1 = ((i + 1 : Nat) : Int) := by omega
          rw [e2, ih (i + 1) K _ (by omega) (by omega) (by omega) (by rw [pow7]; omega) (by omega), pow7, e1]
          simp only [Nat.zero_lt_succ, decide_true, Int.natCast_add]
          congr 2
      · rw [if_pos ((and128 hc.1 hc.2).2 (by omega)), if_neg hb]
        obtain ⟨K, rfl⟩ : ∃ m, K = m + 1 := ⟨K - 1, by omega⟩
        have e1 : c % 128 = c := by omega
        rw [e1]
        by_cases h9 : i = 9
        · subst h9
          obtain rfl : n = 0 := by omega
          rw [if_pos (show ((9 : Nat) : Int) = 9 from rfl)]
          simp only [varint_Uint.j2]
          by_cases h2 : c > 1
          · rw [if_pos (show decide (c > 1) = true by simpa using h2), if_pos (show True ∧ c > 1 from ⟨trivial, h2⟩)]
          · rw [if_neg (show ¬ decide (c > 1) = true by simpa using h2), if_neg (show ¬ (True ∧ c > 1) from fun h => h2 h.2), if_pos (show ((9 : Nat) : Int) > 0 by decide)]
            by_cases h3 : c = 0
            · rw [if_pos h3, if_pos (show decide (0 < 9) = true ∧ c = 0 from ⟨by decide, h3⟩)]
            · rw [if_neg h3, if_neg (show ¬ (decide (0 < 9) = true ∧ c = 0) from fun h => h3 h.2)]
              obtain rfl : c = 1 := by omega
              rw [w64 (x := (a : Int) + ((9 : Nat) : Int)) (by omega) (by omega), w64 (x := (a : Int) + ((9 : Nat) : Int) + 1) (by omega) (by omega), shl_eq (i := 9) (by omega) rfl (by omega) (by decide), or_join (i := 7 * 9) (by omega) h0 h1 (by omega) (by decide)]
              rfl
        · rw [if_neg (by omega), if_neg (fun h => h9 (by omega))]
          simp only [varint_Uint.j2]
          rw [if_neg (by decide)]
          have hp := pow_le (i := i) (by omega)
          have hpos : (0 : Int) < 2 ^ (7 * i) := Int.pow_pos (by decide)
          have hmul : c * 2 ^ (7 * i) ≤ 127 * 2 ^ (7 * i) := Int.mul_le_mul_of_nonneg_right (by omega) (by omega)
          rw [shl_eq (i := i) (by omega) rfl (by omega) (by omega), or_join (i := 7 * i) (by omega) h0 h1 (by omega) (by omega)]
          rw [w64 (x := (a : Int) + (i : Int)) (by omega) (by omega), w64 (x := (a : Int) + (i : Int) + 1) (by omega) (by omega), ec]
          by_cases hi0 : 0 < i
          · rw [if_pos (by omega)]
            by_cases h3 : c = 0
            · rw [if_pos h3, if_pos ⟨by simpa using hi0, h3⟩]
            · rw [if_neg h3, if_neg (fun h => h3 h.2)]
          · rw [if_neg (by omega), if_neg (fun h => hi0 (by simpa using h.1))]

theorem uint_eq (k : Nat) (l : List Int) (a : Int) (hk : 30 ≤ k) (hl : Bytes l) (hlen : l.length ≤ 140737488351232) : varint_Uint.f k l a = some (uintS l a) := by
  obtain ⟨k, rfl⟩ : ∃ m, k = m + 1 := ⟨k - 1, by omega⟩
  unfold varint_Uint.f uintS
  simp only [varint_Uint.j0]
  by_cases h : a < 0
  · rw [if_pos h, if_pos trivial, if_pos (.inl h)]
  · rw [if_neg h]
    by_cases h2 : a > (l.length : Int)
    · rw [if_pos (by simpa using h2), if_pos (.inr h2)]
    · rw [if_neg (by simpa using h2), if_neg (by omega)]
      obtain ⟨A, rfl⟩ := Int.eq_ofNat_of_zero_le (show 0 ≤ a by omega)
      have := uint_loop l hl hlen A 10 0 k 0 (by omega) (by omega) (by omega) (by decide) (by omega)
      simpa using this

def seqS (l : List Int) (a m : Int) : List Int × Int × Int :=
  if m < 0 then ([], 0, 1)
  else if (uintS l a).2.2 = 0 then
    if (uintS l a).1 > m then ([], 0, 2)
    else if (uintS l a).1 > (l.length : Int) - (uintS l a).2.1 then ([], 0, 10)
    else ((l.take ((uintS l a).2.1 + (uintS l a).1).toNat).drop ((uintS l a).2.1).toNat, (uintS l a).2.1 + (uintS l a).1, 0)
  else ([], 0, (uintS l a).2.2)

theorem seq_at (pre p q : List Int) (m : Int) (hp : p.length < 18446744073709551616) (hm : (p.length : Int) ≤ m) :
    seqS (pre ++ (enc p.length ++ (p ++ q))) (pre.length : Int) m = (p, (pre.length : Int) + ((enc p.length).length : Int) + (p.length : Int), 0) := by
  unfold seqS
  rw [uint_at pre (p ++ q) hp]
  dsimp only
  rw [if_neg (by omega), if_pos rfl, if_neg (by omega), if_neg (by simp; omega)]
  have e1 : ((pre.length : Int) + ((enc p.length).length : Int)).toNat = pre.length + (enc p.length).length := by omega
  have e2 : ((pre.length : Int) + ((enc p.length).length : Int) + (p.length : Int)).toNat = pre.length + (enc p.length).length + p.length := by omega
  rw [e1, e2, List.drop_take]
  have e3 : (pre ++ (enc p.length ++ (p ++ q))).drop (pre.length + (enc p.length).length) = p ++ q := by
    rw [← List.append_assoc, List.drop_left' (by simp)]
  rw [e3, Nat.add_sub_cancel_left]
  simp

theorem seq_zero (p q : List Int) (m : Int) (hp : p.length < 18446744073709551616) (hm : (p.length : Int) ≤ m) :
    seqS (enc p.length ++ (p ++ q)) 0 m = (p, ((enc p.length).length : Int) + (p.length : Int), 0) := by
  have := seq_at [] p q m hp hm
  simpa using this

/-- At a cut behind the length: the limit decides first, then what is missing. -/
theorem seq_cut (p : List Int) (j : Nat) (m : Int) (hp : p.length < 18446744073709551616) (h1 : (enc p.length).length ≤ j) (h2 : j < (enc p.length).length + p.length) (hm0 : 0 ≤ m) :
    seqS ((enc p.length ++ p).take j) 0 m = if (p.length : Int) > m then ([], 0, 2) else ([], 0, 10) := by
  have e : (enc p.length ++ p).take j = enc p.length ++ p.take (j - (enc p.length).length) := by
    rw [List.take_append, List.take_of_length_le h1]
  unfold seqS
  rw [e, uint_zero (p.take (j - (enc p.length).length)) hp]
  dsimp only
  rw [if_neg (by omega), if_pos rfl]
  by_cases hm : (p.length : Int) > m
  · rw [if_pos hm, if_pos hm]
  · rw [if_neg hm, if_neg hm, if_pos (by simp; omega)]

theorem seq_trunc (p : List Int) (j : Nat) (m : Int) (hp : p.length < 18446744073709551616) (h2 : j < (enc p.length ++ p).length) (hm : (p.length : Int) ≤ m) :
    (seqS ((enc p.length ++ p).take j) 0 m).2.2 = 10 := by
  rw [List.length_append] at h2
  by_cases h1 : (enc p.length).length ≤ j
  · rw [seq_cut p j m hp h1 h2 (by omega), if_neg (by omega)]
  · have e : (enc p.length ++ p).take j = (enc p.length).take j := by
      rw [List.take_append, Nat.sub_eq_zero_of_le (by omega)]
      simp
    unfold seqS
    rw [e, uint_take hp (by omega)]
    rw [if_neg (by omega), if_neg (by decide)]

theorem seq_err (l : List Int) (a m : Int) (h : (seqS l a m).2.2 ≠ 0) : (seqS l a m).1 = [] ∧ (seqS l a m).2.1 = 0 := by
  unfold seqS at h ⊢
  split
  · exact ⟨rfl, rfl⟩
  · rename_i h0
    rw [if_neg h0] at h
    split
    · rename_i h1
      rw [if_pos h1] at h
      split
      · exact ⟨rfl, rfl⟩
      · rename_i h2
        rw [if_neg h2] at h
        split
        · exact ⟨rfl, rfl⟩
        · rename_i h3
          rw [if_neg h3] at h
          exact absurd rfl h
    · exact ⟨rfl, rfl⟩

theorem seq_canon {l p : List Int} {a m i : Int} (hl : Bytes l) (h : seqS l a m = (p, i, 0)) :
    0 ≤ a ∧ a < i ∧ i ≤ (l.length : Int) ∧ (p.length : Int) ≤ m ∧ (l.take i.toNat).drop a.toNat = enc p.length ++ p := by
  unfold seqS at h
  split at h
  · simp at h
  · rename_i h0
    split at h
    · rename_i h1
      generalize hu : uintS l a = t at *
      obtain ⟨n, nx, e⟩ := t
      dsimp only at *
      subst h1
      obtain ⟨v, hv, rfl, ha, hi, hle, hcut, q, hq⟩ := uint_canon hl hu
      split at h
      · simp at h
      · split at h
        · simp at h
        · rename_i h2 h3
          simp only [Prod.mk.injEq, and_true] at h
          obtain ⟨rfl, rfl⟩ := h
          have hpos := enc_pos v
          have hpl : ((l.take (nx + (v : Int)).toNat).drop nx.toNat).length = v := by
            rw [List.length_drop, List.length_take]; omega
          refine ⟨ha, by omega, by omega, by omega, ?_⟩
          rw [hpl]
          have e1 : (nx + (v : Int)).toNat = a.toNat + ((enc v).length + v) := by omega
          have e2 : nx.toNat = a.toNat + (enc v).length := by omega
          rw [e1, e2, List.drop_take, List.drop_take, Nat.add_sub_cancel_left, ← Nat.add_assoc, Nat.add_sub_cancel_left, hq, List.take_append, List.take_of_length_le (by omega), Nat.add_sub_cancel_left]
          congr 1
          rw [← List.drop_drop, hq, List.drop_left]
    · rename_i h1
      simp only [Prod.mk.injEq] at h
      exact absurd h.2.2 h1

theorem bytes_take {l : List Int} (h : Bytes l) (n : Nat) : Bytes (l.take n) := fun c hc => h c (List.mem_of_mem_take hc)
theorem bytes_drop {l : List Int} (h : Bytes l) (n : Nat) : Bytes (l.drop n) := fun c hc => h c (List.mem_of_mem_drop hc)
theorem bytes_append {l m : List Int} (h : Bytes l) (k : Bytes m) : Bytes (l ++ m) := fun c hc => (List.mem_append.1 hc).elim (h c) (k c)

theorem str_nil : strOfNums [] = (⟨#[]⟩ : ByteArray) := rfl

theorem bytesOf_strOfNums {l : List Int} (h : Bytes l) : bytesOf (strOfNums l) = l := by
  unfold bytesOf
  rw [strOfNums_data, List.map_map]
  conv => rhs; rw [← List.map_id l]
  apply List.map_congr_left
  intro c hc
  have := h c hc
  simp only [Function.comp_apply, id_eq]
  rw [UInt8.toNat_ofNat']
  omega

theorem seqString_eq (k : Nat) (l : List Int) (a m : Int) (hk : 30 ≤ k) (hl : Bytes l) (hlen : l.length ≤ 140737488351232) (hm : m ≤ 9223372036854775807) : varint_seq_string.f k l a m = some (strOfNums (seqS l a m).1, (seqS l a m).2.1, (seqS l a m).2.2) := by
  unfold varint_seq_string.f seqS
  by_cases h0 : m < 0
  · rw [if_pos h0, if_pos h0]
    rfl
  · rw [if_neg h0, if_neg h0, uint_eq k l a hk hl hlen]
    simp only [Option.bind_some]
    generalize hu : uintS l a = t
    obtain ⟨n, nx, e⟩ := t
    dsimp only
    by_cases he : e = 0
    · subst he
      obtain ⟨v, hv, rfl, ha, hi, hle, hcut, _⟩ := uint_canon hl hu
      rw [if_pos rfl, if_pos rfl, u64w, u64w, w64 (x := (l.length : Int) - nx) (by omega) (by omega), Int.emod_eq_of_lt (by omega) (by omega), Int.emod_eq_of_lt (by omega) (by omega)]
      by_cases h1 : (v : Int) > m
      · rw [if_pos h1, if_pos h1]
        rfl
      · rw [if_neg h1, if_neg h1]
        by_cases h2 : (v : Int) > (l.length : Int) - nx
        · rw [if_pos h2, if_pos h2]
          rfl
        · rw [if_neg h2, if_neg h2, w64 (x := (v : Int)) (by omega) (by omega), w64 (x := nx + (v : Int)) (by omega) (by omega), if_pos (by omega), if_pos (by omega), if_pos (by omega), clone_eq _ (by simp; omega)]
          rfl
    · rw [if_neg he, if_neg he]
      rfl

theorem string_eq (k : Nat) (l : List Int) (a m : Int) (hk : 30 ≤ k) (hl : Bytes l) (hlen : l.length ≤ 140737488351232) (hm : m ≤ 9223372036854775807) : varint_String.f k l a m = some (strOfNums (seqS l a m).1, (seqS l a m).2.1, (seqS l a m).2.2) := by
  unfold varint_String.f
  rw [seqString_eq k l a m hk hl hlen hm]
  rfl

theorem appendString_eq (k : Nat) (l p : List Int) (hk : 10 ≤ k) (hp : Bytes p) (hl : l.length + p.length ≤ 140737488351232) : varint_AppendString.f k l (strOfNums p) = some (l ++ (enc p.length ++ p)) := by
  unfold varint_AppendString.f varint_appendSeq_string.f
  have h10 := enc_len10 (v := p.length) (by omega)
  rw [strOfNums_size, u64w, Int.emod_eq_of_lt (by omega) (by omega), appendUint_eq k l p.length hk (by omega) (by omega), bytesOf_strOfNums hp]
  simp only [Option.bind_some]
  rw [if_pos (by simp; omega)]
  simp
end Go.Proofs.Ythemnajgdoambaa.Iv
/-
  isup's fields, by hand: a message in memory, a field's four closures, and what integer, address and boolean make.
-/
namespace Go.Proofs.Ythemnajgdoambaa.Iq
open Go.RowKit Go.Shelf Go.Proofs.YthemnajgdoambaaW.PrintWords Go.Proofs.YthemnajgdoambaaW.PrintLast Go.Proofs.YthemnajgdoambaaW.PrintMore Go.Proofs.Ythemnajgdoambaa.Is
set_option linter.unusedVariables false
set_option linter.unusedSimpArgs false

/-! ### a message -/
structure Sig where
  kind : Int
  circuit : Int
  ref : Int
  hops : Int
  cause : Int
  called : ByteArray
  calling : ByteArray
  digits : ByteArray
  emergency : Bool
  reverse : Bool
def noStr : ByteArray := ⟨#[]⟩
def Sig.cells (s : Sig) : Array Value := #[.int .i64 s.kind, .int .i64 s.circuit, .int .i64 s.ref, .int .i64 s.hops, .int .i64 s.cause, .string s.called, .string s.calling, .string s.digits, .bool s.emergency, .bool s.reverse]
def zSig : Sig := ⟨0, 0, 0, 0, 0, noStr, noStr, noStr, false, false⟩
def At (w : World) (S : Nat) (s : Sig) : Prop := w.heap[S]? = some (.cells s.cells 46 (0, 0))

inductive IF | circuit | ref | hops | cause
inductive SF | called | calling | digits
inductive BF | emergency | reverse
inductive EF | never | always | emergency
def IF.off : IF → Nat | .circuit => 1 | .ref => 2 | .hops => 3 | .cause => 4
def SF.off : SF → Nat | .called => 5 | .calling => 6 | .digits => 7
def BF.off : BF → Nat | .emergency => 8 | .reverse => 9
def IF.fn : IF → Nat | .circuit => 57 | .ref => 58 | .hops => 62 | .cause => 70
def SF.fn : SF → Nat | .called => 64 | .calling => 65 | .digits => 68
def BF.fn : BF → Nat | .emergency => 67 | .reverse => 69
def EF.fn : EF → Nat | .never => 59 | .always => 60 | .emergency => 61
def IF.get : IF → Sig → Int | .circuit, s => s.circuit | .ref, s => s.ref | .hops, s => s.hops | .cause, s => s.cause
def SF.get : SF → Sig → ByteArray | .called, s => s.called | .calling, s => s.calling | .digits, s => s.digits
def BF.get : BF → Sig → Bool | .emergency, s => s.emergency | .reverse, s => s.reverse
def EF.get : EF → Sig → Bool | .never, _ => false | .always, _ => true | .emergency, s => s.emergency
def IF.set : IF → Sig → Int → Sig | .circuit, s, x => { s with circuit := x } | .ref, s, x => { s with ref := x } | .hops, s, x => { s with hops := x } | .cause, s, x => { s with cause := x }
def SF.set : SF → Sig → ByteArray → Sig | .called, s, x => { s with called := x } | .calling, s, x => { s with calling := x } | .digits, s, x => { s with digits := x }
def BF.set : BF → Sig → Bool → Sig | .emergency, s, x => { s with emergency := x } | .reverse, s, x => { s with reverse := x }

theorem At.int {w : World} {S : Nat} {s : Sig} (h : At w S s) (f : IF) : w.cell? ⟨S, f.off, none⟩ = some (.int .i64 (f.get s)) := by
  cases f <;> simp [World.cell?, At] at h ⊢ <;> rw [h] <;> rfl
theorem At.str {w : World} {S : Nat} {s : Sig} (h : At w S s) (f : SF) : w.cell? ⟨S, f.off, none⟩ = some (.string (f.get s)) := by
  cases f <;> simp [World.cell?, At] at h ⊢ <;> rw [h] <;> rfl
theorem At.bool {w : World} {S : Nat} {s : Sig} (h : At w S s) (f : BF) : w.cell? ⟨S, f.off, none⟩ = some (.bool (f.get s)) := by
  cases f <;> simp [World.cell?, At] at h ⊢ <;> rw [h] <;> rfl
theorem At.kind {w : World} {S : Nat} {s : Sig} (h : At w S s) : w.cell? ⟨S, 0, none⟩ = some (.int .i64 s.kind) := by
  simp [World.cell?, At] at h ⊢; rw [h]; rfl
theorem At.frozen {w : World} {S : Nat} {s : Sig} (h : At w S s) (j : Nat) : w.frozen? ⟨S, j, none⟩ = false := by simp only [World.frozen?, At] at h ⊢; rw [h]; simp
theorem At.setI {w : World} {S : Nat} {s : Sig} (h : At w S s) (f : IF) (x : Int) : At (w.setCell ⟨S, f.off, none⟩ (.int .i64 x)) S (f.set s x) := by
  unfold At at h ⊢
  have hlt := (Array.getElem?_eq_some_iff.1 h).1
  cases f <;> simp [World.setCell, Array.getElem?_modify, h, IF.off, IF.set, Sig.cells]
theorem At.setS {w : World} {S : Nat} {s : Sig} (h : At w S s) (f : SF) (x : ByteArray) : At (w.setCell ⟨S, f.off, none⟩ (.string x)) S (f.set s x) := by
  unfold At at h ⊢
  have hlt := (Array.getElem?_eq_some_iff.1 h).1
  cases f <;> simp [World.setCell, Array.getElem?_modify, h, SF.off, SF.set, Sig.cells]
theorem At.setB {w : World} {S : Nat} {s : Sig} (h : At w S s) (f : BF) (x : Bool) : At (w.setCell ⟨S, f.off, none⟩ (.bool x)) S (f.set s x) := by
  unfold At at h ⊢
  have hlt := (Array.getElem?_eq_some_iff.1 h).1
  cases f <;> simp [World.setCell, Array.getElem?_modify, h, BF.off, BF.set, Sig.cells]
theorem At.blk {w w' : World} {S : Nat} {s : Sig} (h : At w S s) (hk : w'.heap[S]? = w.heap[S]?) : At w' S s := hk.trans h
theorem At.lt {w : World} {S : Nat} {s : Sig} (h : At w S s) : S < w.heap.size := (Array.getElem?_eq_some_iff.1 h).1
theorem At.below {w w' : World} {S : Nat} {s : Sig} (h : At w S s) (hb : Below w.heap.size w w') : At w' S s := h.blk (hb.block S h.lt)

/-! ### the getters -/
set_option maxHeartbeats 1000000 in
theorem igetter (f : IF) (S : Nat) (w : World) : Calls Try.prog f.fn #[.pointer (some ⟨S, 0, none⟩)] w fun e w' => e = .returned (.pointer (some ⟨S, f.off, none⟩)) ∧ w' = w := by
  cases f
  · show Calls Try.prog 57 _ _ _
    go_enter Try.func57, Try.ntmps57
    go_wp2
    go_ret
    exact ⟨rfl, rfl⟩
  · show Calls Try.prog 58 _ _ _
    go_enter Try.func58, Try.ntmps58
    go_wp2
    go_ret
    exact ⟨rfl, rfl⟩
  · show Calls Try.prog 62 _ _ _
    go_enter Try.func62, Try.ntmps62
    go_wp2
    go_ret
    exact ⟨rfl, rfl⟩
  · show Calls Try.prog 70 _ _ _
    go_enter Try.func70, Try.ntmps70
    go_wp2
    go_ret
    exact ⟨rfl, rfl⟩
set_option maxHeartbeats 1000000 in
theorem sgetter (f : SF) (S : Nat) (w : World) : Calls Try.prog f.fn #[.pointer (some ⟨S, 0, none⟩)] w fun e w' => e = .returned (.pointer (some ⟨S, f.off, none⟩)) ∧ w' = w := by
  cases f
  · show Calls Try.prog 64 _ _ _
    go_enter Try.func64, Try.ntmps64
    go_wp2
    go_ret
    exact ⟨rfl, rfl⟩
  · show Calls Try.prog 65 _ _ _
    go_enter Try.func65, Try.ntmps65
    go_wp2
    go_ret
    exact ⟨rfl, rfl⟩
  · show Calls Try.prog 68 _ _ _
    go_enter Try.func68, Try.ntmps68
    go_wp2
    go_ret
    exact ⟨rfl, rfl⟩
set_option maxHeartbeats 1000000 in
theorem bgetter (f : BF) (S : Nat) (w : World) : Calls Try.prog f.fn #[.pointer (some ⟨S, 0, none⟩)] w fun e w' => e = .returned (.pointer (some ⟨S, f.off, none⟩)) ∧ w' = w := by
  cases f
  · show Calls Try.prog 67 _ _ _
    go_enter Try.func67, Try.ntmps67
    go_wp2
    go_ret
    exact ⟨rfl, rfl⟩
  · show Calls Try.prog 69 _ _ _
    go_enter Try.func69, Try.ntmps69
    go_wp2
    go_ret
    exact ⟨rfl, rfl⟩
set_option maxHeartbeats 1000000 in
theorem egetter (f : EF) (S : Nat) (s : Sig) (w : World) (h : At w S s) : Calls Try.prog f.fn #[.pointer (some ⟨S, 0, none⟩)] w fun e w' => e = .returned (.bool (f.get s)) ∧ w' = w := by
  cases f
  · show Calls Try.prog 59 _ _ _
    go_enter Try.func59, Try.ntmps59
    go_wp2
    go_ret
    exact ⟨rfl, rfl⟩
  · show Calls Try.prog 60 _ _ _
    go_enter Try.func60, Try.ntmps60
    go_wp2
    go_ret
    exact ⟨rfl, rfl⟩
  · show Calls Try.prog 61 _ _ _
    have h8 := h.bool .emergency
    simp only [BF.off, BF.get] at h8
    go_enter Try.func61, Try.ntmps61
    go_wp2
    go_ret
    exact ⟨rfl, rfl⟩

theorem ienters (f : IF) : ∀ args w, (callFunc f.fn args).run Try.prog w = .ok (.enter f.fn args) w := by
  cases f
  · exact enters_of Try.func57 (by kernel_rfl) rfl
  · exact enters_of Try.func58 (by kernel_rfl) rfl
  · exact enters_of Try.func62 (by kernel_rfl) rfl
  · exact enters_of Try.func70 (by kernel_rfl) rfl
theorem senters (f : SF) : ∀ args w, (callFunc f.fn args).run Try.prog w = .ok (.enter f.fn args) w := by
  cases f
  · exact enters_of Try.func64 (by kernel_rfl) rfl
  · exact enters_of Try.func65 (by kernel_rfl) rfl
  · exact enters_of Try.func68 (by kernel_rfl) rfl
theorem benters (f : BF) : ∀ args w, (callFunc f.fn args).run Try.prog w = .ok (.enter f.fn args) w := by
  cases f
  · exact enters_of Try.func67 (by kernel_rfl) rfl
  · exact enters_of Try.func69 (by kernel_rfl) rfl
theorem eenters (f : EF) : ∀ args w, (callFunc f.fn args).run Try.prog w = .ok (.enter f.fn args) w := by
  cases f
  · exact enters_of Try.func59 (by kernel_rfl) rfl
  · exact enters_of Try.func60 (by kernel_rfl) rfl
  · exact enters_of Try.func61 (by kernel_rfl) rfl

/-! ### a field's closures -/
structure Clo where
  fn : Nat
  cap : Array Value
structure SFd where
  f0 : Clo
  f1 : Clo
  f2 : Clo
  f3 : Clo
def Clo.val (c : Clo) : Value := .func (.func c.fn) #[] c.cap
def kClo : Kd Clo := Kd.scalar Clo.val (fun _ => rfl)
def kF : Kd SFd := Kd.iso (Kd.pair kClo (Kd.pair kClo (Kd.pair kClo kClo))) (fun x : SFd => (x.f0, x.f1, x.f2, x.f3))
def SFd.cells (x : SFd) : List Value := [x.f0.val, x.f1.val, x.f2.val, x.f3.val]
theorem kF_open {w : World} {x : SFd} {cs : List Value} (h : kF.K w x cs) : cs = x.cells := by
  obtain ⟨_, _, rfl, rfl, ⟨_, _, rfl, rfl, ⟨_, _, rfl, rfl, rfl⟩⟩⟩ := h
  exact rfl
theorem kF_openM {w : World} {base : Nat} {ok : Nat → Prop} {x : SFd} {cs : List Value} (h : kF.M w base ok x cs) : cs = x.cells := by
  obtain ⟨_, _, rfl, rfl, ⟨_, _, rfl, rfl, ⟨_, _, rfl, rfl, rfl⟩⟩⟩ := h
  exact rfl
theorem kF_mk (w : World) (x : SFd) : kF.K w x x.cells := ⟨[_], [_, _, _], rfl, rfl, ⟨[_], [_, _], rfl, rfl, ⟨[_], [_], rfl, rfl, rfl⟩⟩⟩
theorem kF_mkM (w : World) (base : Nat) (ok : Nat → Prop) (x : SFd) : kF.M w base ok x x.cells := ⟨[_], [_, _, _], rfl, rfl, ⟨[_], [_, _], rfl, rfl, ⟨[_], [_], rfl, rfl, rfl⟩⟩⟩

inductive Fd
  | int (f : IF) (lo hi : Int)
  | addr (f : SF) (e : EF)
  | bool (f : BF)
/-- A box of one cell; ok: which blocks it may be. -/
def Bx (ok : Nat → Prop) (w : World) (b : Nat) (v : Value) (t : TypeId) : Prop := ok b ∧ w.heap[b]? = some (.cells #[v] t (0, 0))
theorem Bx.cell {ok : Nat → Prop} {w : World} {b : Nat} {v : Value} {t : TypeId} (h : Bx ok w b v t) : w.cell? ⟨b, 0, none⟩ = some v := by simp [World.cell?, h.2]
theorem Bx.keep {ok : Nat → Prop} {w w' : World} {b : Nat} {v : Value} {t : TypeId} (h : Bx ok w b v t) (hk : ∀ k, ok k → k < w.heap.size → w'.heap[k]? = w.heap[k]?) : Bx ok w' b v t :=
  ⟨h.1, (hk b h.1 (Array.getElem?_eq_some_iff.1 h.2).1).trans h.2⟩
theorem Bx.mono {ok ok' : Nat → Prop} {w : World} {b : Nat} {v : Value} {t : TypeId} (h : Bx ok w b v t) (hm : ∀ k, ok k → k < w.heap.size → ok' k) : Bx ok' w b v t := ⟨hm b h.1 (Array.getElem?_eq_some_iff.1 h.2).1, h.2⟩
def pt (b : Nat) : Value := .pointer (some ⟨b, 0, none⟩)
def FOk (ok : Nat → Prop) (w : World) : Fd → SFd → Prop
  | .int f lo hi, s => ∃ bo bf bt, Bx ok w bo (.func (.func f.fn) #[] #[]) 98 ∧ Bx ok w bf (.int .i64 lo) 3 ∧ Bx ok w bt (.int .i64 hi) 3 ∧ s = ⟨⟨74, #[pt bf, pt bo, pt bt]⟩, ⟨75, #[pt bo]⟩, ⟨77, #[pt bo]⟩, ⟨79, #[pt bo]⟩⟩
  | .addr f e, s => ∃ bo be, Bx ok w bo (.func (.func f.fn) #[] #[]) 101 ∧ Bx ok w be (.func (.func e.fn) #[] #[]) 73 ∧ s = ⟨⟨80, #[pt bo, pt be]⟩, ⟨82, #[pt bo]⟩, ⟨84, #[pt bo]⟩, ⟨86, #[pt bo]⟩⟩
  | .bool f, s => ∃ bo, Bx ok w bo (.func (.func f.fn) #[] #[]) 104 ∧ s = ⟨⟨87, #[]⟩, ⟨88, #[pt bo]⟩, ⟨89, #[pt bo]⟩, ⟨91, #[pt bo]⟩⟩
theorem FOk.keep {ok : Nat → Prop} {w w' : World} {d : Fd} {s : SFd} (h : FOk ok w d s) (hk : ∀ k, ok k → k < w.heap.size → w'.heap[k]? = w.heap[k]?) : FOk ok w' d s := by
  cases d with
  | int f lo hi => obtain ⟨bo, bf, bt, h1, h2, h3, rfl⟩ := h; exact ⟨bo, bf, bt, h1.keep hk, h2.keep hk, h3.keep hk, rfl⟩
  | addr f e => obtain ⟨bo, be, h1, h2, rfl⟩ := h; exact ⟨bo, be, h1.keep hk, h2.keep hk, rfl⟩
  | bool f => obtain ⟨bo, h1, rfl⟩ := h; exact ⟨bo, h1.keep hk, rfl⟩
theorem FOk.mono {ok ok' : Nat → Prop} {w : World} {d : Fd} {s : SFd} (h : FOk ok w d s) (hm : ∀ k, ok k → k < w.heap.size → ok' k) : FOk ok' w d s := by
  cases d with
  | int f lo hi => obtain ⟨bo, bf, bt, h1, h2, h3, rfl⟩ := h; exact ⟨bo, bf, bt, h1.mono hm, h2.mono hm, h3.mono hm, rfl⟩
  | addr f e => obtain ⟨bo, be, h1, h2, rfl⟩ := h; exact ⟨bo, be, h1.mono hm, h2.mono hm, rfl⟩
  | bool f => obtain ⟨bo, h1, rfl⟩ := h; exact ⟨bo, h1.mono hm, rfl⟩

theorem Bx.types {ok : Nat → Prop} {w : World} {b g t' : Nat} {v : Value} {t : TypeId} {cells : Array Value} (h : Bx ok w b v t) (hg : w.heap[g]? = some (.cells cells t' (0, 0))) (ht : t ≠ t') : Bx (fun k => ok k ∧ k ≠ g) w b v t :=
  ⟨⟨h.1, by
    rintro rfl
    rw [h.2] at hg
    injection hg with hg
    injection hg with _ hg
    exact ht hg⟩, h.2⟩
theorem FOk.types {ok : Nat → Prop} {w : World} {d : Fd} {s : SFd} (h : FOk ok w d s) {g : Nat} {cells : Array Value} (hg : w.heap[g]? = some (.cells cells 78 (0, 0))) : FOk (fun k => ok k ∧ k ≠ g) w d s := by
  cases d with
  | int f lo hi => obtain ⟨bo, bf, bt, h1, h2, h3, rfl⟩ := h; exact ⟨bo, bf, bt, h1.types hg (by decide), h2.types hg (by decide), h3.types hg (by decide), rfl⟩
  | addr f e => obtain ⟨bo, be, h1, h2, rfl⟩ := h; exact ⟨bo, be, h1.types hg (by decide), h2.types hg (by decide), rfl⟩
  | bool f => obtain ⟨bo, h1, rfl⟩ := h; exact ⟨bo, h1.types hg (by decide), rfl⟩

/-! ### what integer, address, boolean make -/
/-- A field as a value. -/
def aggF (s : SFd) : Value := .agg #[.func (.func s.f0.fn) #[] s.f0.cap, .func (.func s.f1.fn) #[] s.f1.cap, .func (.func s.f2.fn) #[] s.f2.cap, .func (.func s.f3.fn) #[] s.f3.cap]
theorem hp_set {W : World} {p : Addr} {u : Value} {k : Nat} {o : Obj} (h : W.heap[k]? = some o) (n : k ≠ p.block) : (W.setCell p u).heap[k]? = some o := (Below.heap_setCell W p u k n).trans h
theorem hp_alloc {W : World} {o' : Obj} {k : Nat} {o : Obj} (h : W.heap[k]? = some o) : (W.alloc o').heap[k]? = some o := (Below.heap_alloc W o' k (Array.getElem?_eq_some_iff.1 h).1).trans h
theorem hp_new {W : World} {o : Obj} {k : Nat} (h : W.heap.size = k) : (W.alloc o).heap[k]? = some o := by subst h; exact World.alloc_heap_new W o
set_option maxHeartbeats 2000000 in
theorem integer_calls (f : IF) (lo hi : Int) (w : World) : Calls Try.prog 56 #[.func (.func f.fn) #[] #[], .int .i64 lo, .int .i64 hi] w fun e w' => ∃ s : SFd, e = .returned (aggF s) ∧ FOk (fun k => w.heap.size ≤ k) w' (.int f lo hi) s ∧ Below w.heap.size w w' := by
  have hmf : ∀ (fn : Fn) (first cap : Array Value) (w : World), (Instr.makeFunc fn first cap).run Try.prog w = .ok (.func fn first cap) w := fun _ _ _ _ => rfl
  go_enter Try.func56, Try.ntmps56
  go_wp2
  refine bodyPost_ret (v := aggF ⟨⟨74, #[pt (w.heap.size + 1), pt w.heap.size, pt (w.heap.size + 1 + 1)]⟩, ⟨75, #[pt w.heap.size]⟩, ⟨77, #[pt w.heap.size]⟩, ⟨79, #[pt w.heap.size]⟩⟩) ?_ rfl ⟨_, rfl, ⟨w.heap.size, w.heap.size + 1, w.heap.size + 1 + 1, ⟨by omega, ?_⟩, ⟨by omega, ?_⟩, ⟨by omega, ?_⟩, rfl⟩, ?_⟩
  · simp [results, Try.results56, go_sem, aggF, pt]
  all_goals (repeat (first | (refine hp_new ?_; simp; done) | refine hp_alloc ?_ | exact Below.refl _ _ | apply below_alloc))

set_option maxHeartbeats 2000000 in
theorem address_calls (f : SF) (g : EF) (w : World) : Calls Try.prog 63 #[.func (.func f.fn) #[] #[], .func (.func g.fn) #[] #[]] w fun e w' => ∃ s : SFd, e = .returned (aggF s) ∧ FOk (fun k => w.heap.size ≤ k) w' (.addr f g) s ∧ Below w.heap.size w w' := by
  have hmf : ∀ (fn : Fn) (first cap : Array Value) (w : World), (Instr.makeFunc fn first cap).run Try.prog w = .ok (.func fn first cap) w := fun _ _ _ _ => rfl
  go_enter Try.func63, Try.ntmps63
  go_wp2
  refine bodyPost_ret (v := aggF ⟨⟨80, #[pt w.heap.size, pt (w.heap.size + 1)]⟩, ⟨82, #[pt w.heap.size]⟩, ⟨84, #[pt w.heap.size]⟩, ⟨86, #[pt w.heap.size]⟩⟩) ?_ rfl ⟨_, rfl, ⟨w.heap.size, w.heap.size + 1, ⟨by omega, ?_⟩, ⟨by omega, ?_⟩, rfl⟩, ?_⟩
  · simp [results, Try.results63, go_sem, aggF, pt]
  all_goals (repeat (first | (refine hp_new ?_; simp; done) | refine hp_alloc ?_ | exact Below.refl _ _ | apply below_alloc))

set_option maxHeartbeats 2000000 in
theorem boolean_calls (f : BF) (w : World) : Calls Try.prog 66 #[.func (.func f.fn) #[] #[]] w fun e w' => ∃ s : SFd, e = .returned (aggF s) ∧ FOk (fun k => w.heap.size ≤ k) w' (.bool f) s ∧ Below w.heap.size w w' := by
  have hmf : ∀ (fn : Fn) (first cap : Array Value) (w : World), (Instr.makeFunc fn first cap).run Try.prog w = .ok (.func fn first cap) w := fun _ _ _ _ => rfl
  go_enter Try.func66, Try.ntmps66
  go_wp2
  refine bodyPost_ret (v := aggF ⟨⟨87, #[]⟩, ⟨88, #[pt w.heap.size]⟩, ⟨89, #[pt w.heap.size]⟩, ⟨91, #[pt w.heap.size]⟩⟩) ?_ rfl ⟨_, rfl, ⟨w.heap.size, ⟨by omega, ?_⟩, rfl⟩, ?_⟩
  · simp [results, Try.results66, go_sem, aggF, pt]
  all_goals (repeat (first | (refine hp_new ?_; simp; done) | refine hp_alloc ?_ | exact Below.refl _ _ | apply below_alloc))

end Go.Proofs.Ythemnajgdoambaa.Iq
/-
  isup's closures, by hand: which values are valid, clearing a field, digits.Valid.
-/
namespace Go.Proofs
shelf_lay LaysGw.n17 Ggw 17 at Try as Ythemnajgdoambaa.Iq.lay17
end Go.Proofs
namespace Go.Proofs.Ythemnajgdoambaa.Iq
open Go.RowKit Go.Shelf Go.Proofs.YthemnajgdoambaaW.PrintWords Go.Proofs.YthemnajgdoambaaW.PrintLast Go.Proofs.YthemnajgdoambaaW.PrintMore Go.Proofs.Ythemnajgdoambaa.Is
set_option linter.unusedVariables false
set_option linter.unusedSimpArgs false

/-! ### digits.Valid -/
def notDigit (x : Nat) : Bool := decide ((x : Int) < 48) || decide ((x : Int) > 57)
def validS (s : ByteArray) : Bool := decide ((s.size : Int) ≥ 1) && decide ((s.size : Int) ≤ 15) && !decide (0 ≤ Lib.idxFunc notDigit true s)

theorem notDigit_at (w : World) : PredAt Try.prog 100 #[] encR notDigit w := fun W r _ => by
  unfold FnGives encR notDigit
  by_cases h1 : (r : Int) < 48
  · have h1b := decide_eq_true h1
    go_enter Try.func100, Try.ntmps100
    go_wp2
    go_ret
    rw [h1b]
    exact ⟨rfl, 0, rfl⟩
  · have h1b := decide_eq_false h1
    go_enter Try.func100, Try.ntmps100
    go_wp2
    go_ret
    exact ⟨rfl, 0, rfl⟩

set_option maxHeartbeats 2000000 in
theorem only_calls (s : ByteArray) (w : World) : Calls Try.prog 97 #[.string s, .int .i64 1, .int .i64 15] w fun e w' => e = .returned (.bool (validS s)) ∧ Below w.heap.size w w' := by
  have hC := Any.strings_ContainsFunc lay17 100 #[] (enters_of Try.func100 (by kernel_rfl) rfl) notDigit s w (notDigit_at w)
  change Calls Try.prog 101 #[_, .func (.func 100) #[] #[]] _ _ at hC
  unfold validS
  by_cases h1 : (s.size : Int) ≥ 1
  · have h1b := decide_eq_true h1
    by_cases h2 : (s.size : Int) ≤ 15
    · have h2b := decide_eq_true h2
      go_enter Try.func97, Try.ntmps97
      go_wp2_with (go_at_call 101; refine hC.mono ?_; rintro e w' ⟨rfl, hb⟩)
      go_ret
      rw [h1b, h2b]
      exact ⟨rfl, hb⟩
    · have h2b := decide_eq_false h2
      go_enter Try.func97, Try.ntmps97
      go_wp2
      go_ret
      exact ⟨rfl, Below.refl _ _⟩
  · have h1b := decide_eq_false h1
    go_enter Try.func97, Try.ntmps97
    go_wp2
    go_ret
    exact ⟨rfl, Below.refl _ _⟩

set_option maxHeartbeats 2000000 in
theorem dvalid_calls (s : ByteArray) (w : World) : Calls Try.prog 81 #[.string s] w fun e w' => e = .returned (.bool (validS s)) ∧ Below w.heap.size w w' := by
  go_enter Try.func81, Try.ntmps81
  go_wp2_with (go_at_call 97; refine (only_calls s _).mono ?_; rintro e w' ⟨rfl, hb⟩)
  go_ret
  exact ⟨rfl, hb⟩

/-! ### valid -/
def Fd.ok (s : Sig) : Fd → Bool
  | .int f lo hi => decide (lo ≤ f.get s) && decide (f.get s ≤ hi)
  | .addr f e => validS (f.get s) || (decide (f.get s = noStr) && e.get s)
  | .bool f => true

set_option maxHeartbeats 4000000 in
theorem int_valid (f : IF) (lo hi : Int) (S bo bf bt : Nat) (ok : Nat → Prop) (s : Sig) (w : World) (hs : At w S s) (ho : Bx ok w bo (.func (.func f.fn) #[] #[]) 98) (hf : Bx ok w bf (.int .i64 lo) 3) (ht : Bx ok w bt (.int .i64 hi) 3) :
    Calls Try.prog 74 #[pt S, pt bf, pt bo, pt bt] w fun e w' => e = .returned (.bool (decide (lo ≤ f.get s) && decide (f.get s ≤ hi))) ∧ Below w.heap.size w w' := by
  have ho := ho.cell
  have hf := hf.cell
  have ht := ht.cell
  have hx := hs.int f
  have eg := ienters f
  unfold pt
  by_cases h1 : lo ≤ f.get s
  · have h1b := decide_eq_true h1
    go_enter Try.func74, Try.ntmps74
    go_wp2
    go_quiet (refine Calls.quiet_of_same (igetter f S _))
    go_wp2
    go_ret
    rw [h1b]
    exact ⟨rfl, pw_below_drewN (Below.refl _ _) _⟩
  · have h1b := decide_eq_false h1
    go_enter Try.func74, Try.ntmps74
    go_wp2
    go_quiet (refine Calls.quiet_of_same (igetter f S _))
    go_wp2
    go_ret
    rw [h1b]
    exact ⟨rfl, pw_below_drewN (Below.refl _ _) _⟩

set_option maxHeartbeats 4000000 in
theorem toList_nil {x : ByteArray} : x.toList = [] ↔ x = noStr := by
  rw [ByteArray.toList_eq]
  constructor
  · intro h
    cases x
    simp at h
    subst h
    rfl
  · rintro rfl
    rfl
set_option maxHeartbeats 4000000 in
theorem addr_valid (f : SF) (g : EF) (S bo be : Nat) (ok : Nat → Prop) (s : Sig) (w : World) (hs : At w S s) (ho : Bx ok w bo (.func (.func f.fn) #[] #[]) 101) (he : Bx ok w be (.func (.func g.fn) #[] #[]) 73) :
    Calls Try.prog 80 #[pt S, pt bo, pt be] w fun e w' => e = .returned (.bool (validS (f.get s) || (decide (f.get s = noStr) && g.get s))) ∧ Below w.heap.size w w' := by
  have ho := ho.cell
  have he := he.cell
  have hx := hs.str f
  have eg := senters f
  have eh := eenters g
  unfold pt
  by_cases h1 : validS (f.get s) = true
  · have H1 := Aside0.mk h1
    rw [h1]
    clear h1
    go_enter Try.func80, Try.ntmps80
    go_wp2_with (first | (go_at_call 81; refine (dvalid_calls _ _).mono ?_; rintro e w1 ⟨rfl, hb⟩; rw [H1.out]; have HB := Aside0.mk hb; clear hb) | ((with_reducible refine (sgetter f S _).mono ?_); rintro e w' ⟨rfl, rfl⟩))
    go_ret
    exact ⟨rfl, HB.out⟩
  · have H1 := Aside0.mk (Bool.eq_false_iff.2 h1)
    rw [H1.out]
    clear h1
    have HO := Aside0.mk ho
    have HE := Aside0.mk he
    have HS := Aside0.mk hs
    by_cases h2 : f.get s = noStr
    · have HX := Aside0.mk hx
      rw [decide_eq_true h2, Bool.true_and, Bool.false_or]
      have HZ := Aside0.mk h2
      clear h2
      go_enter Try.func80, Try.ntmps80
      go_wp2_with (first | (go_at_call 81; refine (dvalid_calls _ _).mono ?_; rintro e w1 ⟨rfl, hb⟩; rw [H1.out]; have HB := Aside0.mk hb; have ho1 := pw_cell_below hb HO.out; have he1 := pw_cell_below hb HE.out; have hx1 := pw_cell_below hb HX.out; rw [HZ.out] at hx1; unfold noStr at hx1; have HS1 := Aside0.mk (HS.out.below hb); clear hb) | ((with_reducible refine (sgetter f S _).mono ?_); rintro e w' ⟨rfl, rfl⟩) | ((with_reducible refine (egetter g S s _ HS1.out).mono ?_); rintro e w' ⟨rfl, rfl⟩))
      go_ret
      exact ⟨rfl, HB.out⟩
    · have HX := Aside0.mk hx
      rw [decide_eq_false h2, Bool.false_and, Bool.false_or]
      have hz : ¬ (f.get s).toList = [] := fun e => h2 (toList_nil.1 e)
      clear h2
      go_enter Try.func80, Try.ntmps80
      go_wp2_with (first | (go_at_call 81; refine (dvalid_calls _ _).mono ?_; rintro e w1 ⟨rfl, hb⟩; rw [H1.out]; have HB := Aside0.mk hb; have ho1 := pw_cell_below hb HO.out; have he1 := pw_cell_below hb HE.out; have hx1 := pw_cell_below hb HX.out; have HS1 := Aside0.mk (HS.out.below hb); clear hb) | ((with_reducible refine (sgetter f S _).mono ?_); rintro e w' ⟨rfl, rfl⟩) | ((with_reducible refine (egetter g S s _ HS1.out).mono ?_); rintro e w' ⟨rfl, rfl⟩))
      go_ret
      have e : (f.get s).toList.isEmpty = false := by rw [List.isEmpty_eq_false_iff]; exact hz
      refine ⟨by first | rfl | (simp [e]), HB.out⟩

set_option maxHeartbeats 2000000 in
theorem bool_valid (S : Nat) (w : World) : Calls Try.prog 87 #[pt S] w fun e w' => e = .returned (.bool true) ∧ w' = w := by
  unfold pt
  go_enter Try.func87, Try.ntmps87
  go_wp2
  go_ret
  exact ⟨rfl, rfl⟩

/-! ### clear -/
def Fd.clr (s : Sig) : Fd → Sig
  | .int f _ _ => f.set s 0
  | .addr f _ => f.set s noStr
  | .bool f => f.set s false

set_option maxHeartbeats 2000000 in
theorem int_clear (f : IF) (S bo : Nat) (ok : Nat → Prop) (s : Sig) (w : World) (hs : At w S s) (ho : Bx ok w bo (.func (.func f.fn) #[] #[]) 98) :
    Calls Try.prog 79 #[pt S, pt bo] w fun e w' => e = .returned (.tuple #[]) ∧ w' = w.setCell ⟨S, f.off, none⟩ (.int .i64 0) := by
  have ho := ho.cell
  have hx := hs.int f
  have hf := hs.frozen
  have eg := ienters f
  unfold pt
  go_enter Try.func79, Try.ntmps79
  go_wp2_with ((with_reducible refine (igetter f S _).mono ?_); rintro e w' ⟨rfl, rfl⟩)
  go_end0
  exact ⟨rfl, rfl⟩
set_option maxHeartbeats 2000000 in
theorem addr_clear (f : SF) (S bo : Nat) (ok : Nat → Prop) (s : Sig) (w : World) (hs : At w S s) (ho : Bx ok w bo (.func (.func f.fn) #[] #[]) 101) :
    Calls Try.prog 86 #[pt S, pt bo] w fun e w' => e = .returned (.tuple #[]) ∧ w' = w.setCell ⟨S, f.off, none⟩ (.string noStr) := by
  have ho := ho.cell
  have hx := hs.str f
  have hf := hs.frozen
  have eg := senters f
  unfold pt
  go_enter Try.func86, Try.ntmps86
  go_wp2_with ((with_reducible refine (sgetter f S _).mono ?_); rintro e w' ⟨rfl, rfl⟩)
  go_end0
  exact ⟨rfl, rfl⟩
set_option maxHeartbeats 2000000 in
theorem bool_clear (f : BF) (S bo : Nat) (ok : Nat → Prop) (s : Sig) (w : World) (hs : At w S s) (ho : Bx ok w bo (.func (.func f.fn) #[] #[]) 104) :
    Calls Try.prog 91 #[pt S, pt bo] w fun e w' => e = .returned (.tuple #[]) ∧ w' = w.setCell ⟨S, f.off, none⟩ (.bool false) := by
  have ho := ho.cell
  have hx := hs.bool f
  have hf := hs.frozen
  have eg := benters f
  unfold pt
  go_enter Try.func91, Try.ntmps91
  go_wp2_with ((with_reducible refine (bgetter f S _).mono ?_); rintro e w' ⟨rfl, rfl⟩)
  go_end0
  exact ⟨rfl, rfl⟩

end Go.Proofs.Ythemnajgdoambaa.Iq
/-
  isup's fields, by hand: the fields of a kind, the map of the fields that a kind has besides, and what lies in memory while the list is made.
-/
namespace Go.Proofs.Ythemnajgdoambaa.Iq
open Go.RowKit Go.Shelf Go.Maps Go.Proofs.YthemnajgdoambaaW.PrintWords Go.Proofs.YthemnajgdoambaaW.PrintLast Go.Proofs.YthemnajgdoambaaW.PrintMore Go.Proofs.Ythemnajgdoambaa.Is
set_option linter.unusedVariables false
set_option linter.unusedSimpArgs false

/-! ### which fields a kind has -/
def moreS (kind : Int) : List Fd :=
  if kind = 1 then [.int .hops 0 8, .addr .called .emergency, .addr .calling .always, .bool .emergency]
  else if kind = 2 then [.addr .digits .never]
  else if kind = 4 then [.bool .reverse]
  else if kind = 7 then [.int .cause 1 127]
  else []
def leastS (kind : Int) : Int := if kind = 8 then 0 else 1
def fieldsS (kind : Int) : List Fd :=
  if kind > 8 then [.int .circuit 0 47] else [.int .circuit 0 47, .int .ref (leastS kind) 1099511627776] ++ moreS kind
def known (kind : Int) : Bool := decide (1 ≤ kind) && decide (kind ≤ 13)

/-! ### a slice as a map's element -/
abbrev Dw := DataW Unit
def cdS : Value → Option Dw
  | .slice none 0 0 => some .nil
  | .slice (some ⟨b, 0, none⟩) n c => some (.agg [.lit (.int .i64 b), .lit (.int .i64 n), .lit (.int .i64 c)])
  | _ => none
def Rv (v : Value) : Option (Dw × List MemPlace) := (cdS v).map (fun d => (d, []))
theorem Rv_own (b n c : Nat) : Rv (.slice (some ⟨b, 0, none⟩) n c) = some (.agg [.lit (.int .i64 b), .lit (.int .i64 n), .lit (.int .i64 c)], []) := rfl
theorem cdS_inj {u v : Value} {d : Dw} (h : cdS u = some d) (h' : cdS v = some d) : u = v := by
  unfold cdS at h h'
  split at h
  · split at h'
    · rfl
    · simp only [Option.some.injEq] at h h'; subst h; cases h'
    · cases h'
  · split at h'
    · simp only [Option.some.injEq] at h h'; subst h; cases h'
    · simp only [Option.some.injEq] at h h'
      subst h
      simp only [DataW.agg.injEq, List.cons.injEq, DataW.lit.injEq, Lit.int.injEq, true_and, and_true] at h'
      obtain ⟨h1, h2, h3⟩ := h'
      have e1 := Int.ofNat.inj h1
      have e2 := Int.ofNat.inj h2
      have e3 := Int.ofNat.inj h3
      subst e1 e2 e3
      rfl
    · cases h'
  · cases h

/-! ### the state while the list is made: B the map's block -/
/-- Besides a block B (the map's), what lay in W lies in W'. -/
def Kp (B : Nat) (W W' : World) : Prop := W.heap.size ≤ W'.heap.size ∧ ∀ k, k < W.heap.size → k ≠ B → W'.heap[k]? = W.heap[k]?
theorem Kp.below {B : Nat} {W W' : World} (h : Below W.heap.size W W') : Kp B W W' := ⟨h.size, fun k hk _ => h.block k hk⟩
theorem Kp.grown {B : Nat} {W W' : World} (h : W.grownBy W' (some B)) : Kp B W W' := ⟨h.size, fun k hk hn => h.block k hk (fun e => hn (Option.some.inj e))⟩

structure St (B : Nat) (w W : World) (Fs : List (Fd × SFd)) (Rs : List (Value × List SFd)) (n : Nat) (D : Dw) : Prop where
  low : w.heap.size ≤ B
  below : Below w.heap.size w W
  f : ∀ p ∈ Fs, FOk (fun k => w.heap.size ≤ k ∧ k ≠ B) W p.1 p.2
  r : ∀ p ∈ Rs, Kd.R kF 78 W w.heap.size (fun k => k ≠ B) p.1 p.2
  m : W.ownsMap Try.prog 3 Rv B n D

variable {B : Nat} {w W W' : World} {Fs : List (Fd × SFd)} {Rs : List (Value × List SFd)} {n : Nat} {D : Dw}
theorem owns_blk (h : W.ownsMap Try.prog 3 Rv B n D) (e : W'.heap[B]? = W.heap[B]?) : W'.ownsMap Try.prog 3 Rv B n D := by
  obtain ⟨es, clock, hb, r⟩ := h
  exact ⟨es, clock, e.trans hb, r⟩
theorem St.kp (h : St B w W Fs Rs n D) (hk : Kp B W W') (hb : Below w.heap.size w W') {n' : Nat} {D' : Dw} (hm : W'.ownsMap Try.prog 3 Rv B n' D') : St B w W' Fs Rs n' D' :=
  ⟨h.low, hb, fun p hp => (h.f p hp).keep (fun k ok hlt => hk.2 k hlt ok.2), fun p hp => Kd.R_step (h.r p hp) (fun k ok hlt => hk.2 k hlt ok), hm⟩
theorem St.step (h : St B w W Fs Rs n D) (hb : Below W.heap.size W W') : St B w W' Fs Rs n D :=
  h.kp (Kp.below hb) (below_step h.below hb) (owns_blk h.m (hb.block B h.m.lt))
theorem St.addF (h : St B w W Fs Rs n D) {N : Nat} {d : Fd} {s : SFd} (hb : Below W.heap.size W W') (hN : W.heap.size ≤ N) (hf : FOk (fun k => N ≤ k) W' d s) : St B w W' ((d, s) :: Fs) Rs n D := by
  have h2 := h.step hb
  refine ⟨h2.low, h2.below, fun p hp => ?_, h2.r, h2.m⟩
  rcases List.mem_cons.1 hp with rfl | hp
  · exact hf.mono (fun k hk _ => by
      have h3 : N ≤ k := hk
      have h4 := h.m.lt
      have h5 := h.low
      exact ⟨by omega, by omega⟩)
  · exact h2.f p hp
theorem St.addR (h : St B w W Fs Rs n D) {v : Value} {xs : List SFd} (hb : Below W.heap.size W W') (hr : Kd.R kF 78 W' W.heap.size (fun _ => True) v xs) : St B w W' Fs ((v, xs) :: Rs) n D := by
  have h2 := h.step hb
  refine ⟨h2.low, h2.below, h2.f, fun p hp => ?_, h2.m⟩
  rcases List.mem_cons.1 hp with rfl | hp
  · have h4 := h.m.lt
    have h5 := h.low
    have h6 := h.below.size
    exact Kd.R_lower (Kd.R_mono (Kd.R_bound hr) (fun k hk => by have := hk.2.1; omega)) (by omega)
  · exact h2.r p hp
theorem St.put (h : St B w W Fs Rs n D) {kl : Lit} {d : Dw} (hg : W.grownBy W' (some B)) (hm : W'.ownsMap Try.prog 3 Rv B (n + 1) (D.put kl d)) : St B w W' Fs Rs (n + 1) (D.put kl d) :=
  h.kp (Kp.grown hg) (h.below.grown hg (Nat.le_trans h.low (Nat.le_of_lt h.m.lt)) (fun k e => by cases e; exact h.low)) hm

theorem St.start {w5 : World} (hb : Below w.heap.size w w5) {Fs : List (Fd × SFd)} (hf : ∀ p ∈ Fs, FOk (fun k => w.heap.size ≤ k) w5 p.1 p.2) {v : Value} {xs : List SFd} (hr : Kd.R kF 78 w5 w.heap.size (fun _ => True) v xs) :
    St w5.heap.size w (w5.alloc (.map #[] 0)) Fs [(v, xs)] 0 (.map []) := by
  have hB := below_alloc (Below.refl w5.heap.size w5) (.map #[] 0)
  refine ⟨hb.size, below_step hb hB, fun p hp => ?_, fun p hp => ?_, World.ownsMap_made _ _ _ _⟩
  · exact ((hf p hp).mono (ok' := fun k => w.heap.size ≤ k ∧ k ≠ w5.heap.size) (fun k hk hlt => ⟨hk, by omega⟩)).keep (fun k _ hk => hB.block k hk)
  · rw [List.mem_singleton.1 hp]
    exact Kd.R_below (Kd.R_mono (Kd.R_bound hr) (fun k hk => by have := hk.2.2.1; omega)) hB
/-! ### a store into the map and a look-up, at the operation -/
theorem law3 : Keyed Try.prog 3 := int_keyed Try.underlying3
theorem ins_event {ops : Array Oper} {rest : List Oper} {o : Oper} {a : Act} {Q : Exit → Act → World → Prop} (hg : o.guard = none) (m v : Operand) (key : Int) (hop : o.op = Op.insert 105 m (.const (.int .i64 key)) v) (hw : (Lit.int .i64 key).wf = true) (hn : n < maxLen)
    (hm : a.eval m = .map (some B)) (h : W.ownsMap Try.prog 3 Rv B n D) {d : Dw} (val : Value) (hv : a.eval v = val) (hval : Rv val = some (d, []))
    (hK : ∀ w', w'.ownsMap Try.prog 3 Rv B (n + 1) (D.put (.int .i64 key) d) → W.grownBy w' (some B) → wpList Try.prog ops Q rest (a.put o.dst undef) w') :
    wpList Try.prog ops Q (o :: rest) a W := by
  refine wpList_plain hg fun K' hK' => ?_
  have hx : a.eval (.const (.int .i64 key)) = .int .i64 key := rfl
  obtain ⟨w', hrun, r1, r2⟩ := h.update law3 Try.underlying105 hn (keyOf_int_mk Try.underlying3 hw) hval
  unfold Oper.wp
  simp [execOp, hop, hm, hx, hv, hrun, Result.andThen]
  exact hK' _ _ (hK w' r1 r2)
theorem zeroSl (w : World) : (zeroValue 70).run Try.prog w = .ok (.slice none 0 0) w := by kernel_rfl
theorem look_event {ops : Array Oper} {rest : List Oper} {o : Oper} {a : Act} {Q : Exit → Act → World → Prop} (hg : o.guard = none) (m x : Operand) (key : Int) (hop : o.op = Op.lookup 105 m x false) (hw : (Lit.int .i64 key).wf = true)
    (hm : a.eval m = .map (some B)) (h : W.ownsMap Try.prog 3 Rv B n D) (hx : a.eval x = .int .i64 key)
    (hK : ∀ v ps, Rv v = some (D.atKey (.int .i64 key) .nil, ps) → wpList Try.prog ops Q rest (a.put o.dst v) W) :
    wpList Try.prog ops Q (o :: rest) a W := by
  refine wpList_plain hg fun K' hK' => ?_
  obtain ⟨v, ps, hrun, hv⟩ := h.lookup law3 Try.underlying105 (zeroSl _) (zd := .nil) (zp := []) rfl (keyOf_int_mk Try.underlying3 hw)
  unfold Oper.wp
  simp [execOp, hop, hm, hx, hrun, Result.andThen]
  exact hK' _ _ (hK v ps hv)
theorem own_form {base : Nat} {ok : Nat → Prop} {v : Value} {xs : List SFd} (h : Kd.R kF 78 W base ok v xs) {b : Nat} (hb : v.ownBlock = some b) : ∃ b c, v = .slice (some ⟨b, 0, none⟩) xs.length c := by
  obtain ⟨inner, ho⟩ := Kd.R_own h
  rcases ho.2 with h2 | ⟨g, cap, cur, rfl, _⟩
  · rw [h2.1] at hb; simp [Value.ownBlock] at hb
  · exact ⟨g, cap, rfl⟩
end Go.Proofs.Ythemnajgdoambaa.Iq
/-
  isup's fields, by hand: the list of a kind's fields.
-/
namespace Go.Proofs.Ythemnajgdoambaa.Iq
open Go.RowKit Go.Shelf Go.Maps Go.Proofs.YthemnajgdoambaaW.PrintWords Go.Proofs.YthemnajgdoambaaW.PrintLast Go.Proofs.YthemnajgdoambaaW.PrintMore Go.Proofs.Ythemnajgdoambaa.Is
set_option linter.unusedVariables false
set_option linter.unusedSimpArgs false
variable {B : Nat} {w W W' : World} {Fs : List (Fd × SFd)} {Rs : List (Value × List SFd)} {n : Nat} {D : Dw}

def D4 (c1 c2 c4 c7 : Dw) : Dw := ((((DataW.map ([] : List (Lit × Dw))).put (.int .i64 1) c1).put (.int .i64 2) c2).put (.int .i64 4) c4).put (.int .i64 7) c7
theorem klit (k : Int) : WideAt.IsKeyLit (.int .i64 k) := by simp [WideAt.IsKeyLit]
theorem kne {a b : Int} (h : a ≠ b) : (Lit.int .i64 a) ≠ .int .i64 b := by
  intro e
  injection e with _ e
  exact h e
theorem D4_at (c1 c2 c4 c7 : Dw) (k : Int) : (D4 c1 c2 c4 c7).atKey (.int .i64 k) .nil = if k = 1 then c1 else if k = 2 then c2 else if k = 4 then c4 else if k = 7 then c7 else .nil := by
  unfold D4
  have i0 : IsMap (.map ([] : List (Lit × Dw))) := isMap_empty
  have i1 := i0.put (.int .i64 1) c1
  have i2 := i1.put (.int .i64 2) c2
  have i3 := i2.put (.int .i64 4) c4
  by_cases h7 : k = 7
  · subst h7
    rw [atKey_put_same i3 (klit 7)]
    rfl
  rw [atKey_put_other (kne h7)]
  by_cases h4 : k = 4
  · subst h4
    rw [atKey_put_same i2 (klit 4)]
    rfl
  rw [atKey_put_other (kne h4)]
  by_cases h2 : k = 2
  · subst h2
    rw [atKey_put_same i1 (klit 2)]
    rfl
  rw [atKey_put_other (kne h2)]
  by_cases h1 : k = 1
  · subst h1
    rw [atKey_put_same i0 (klit 1)]
    rfl
  rw [atKey_put_other (kne h1), if_neg h1, if_neg h2, if_neg h4, if_neg h7]
  rfl

inductive F2 (R : Fd → SFd → Prop) : List Fd → List SFd → Prop
  | nil : F2 R [] []
  | cons {a : Fd} {b : SFd} {l : List Fd} {m : List SFd} : R a b → F2 R l m → F2 R (a :: l) (b :: m)
theorem F2.imp {R R' : Fd → SFd → Prop} {l : List Fd} {m : List SFd} (h : F2 R l m) (hR : ∀ a b, R a b → R' a b) : F2 R' l m := by
  induction h with
  | nil => exact .nil
  | cons h _ ih => exact .cons (hR _ _ h) ih
theorem F2.append {R : Fd → SFd → Prop} {l l' : List Fd} {m m' : List SFd} (h : F2 R l m) (h' : F2 R l' m') : F2 R (l ++ l') (m ++ m') := by
  induction h with
  | nil => exact h'
  | cons h _ ih => exact .cons h ih
theorem F2.len {R : Fd → SFd → Prop} {l : List Fd} {m : List SFd} (h : F2 R l m) : l.length = m.length := by
  induction h with
  | nil => rfl
  | cons h _ ih => simp [ih]
theorem F2.get {R : Fd → SFd → Prop} {l : List Fd} {m : List SFd} (h : F2 R l m) : ∀ (i : Nat) (a : Fd), l[i]? = some a → ∃ b, m[i]? = some b ∧ R a b := by
  induction h with
  | nil => intro i a h; simp at h
  | cons h _ ih =>
    intro i a hi
    cases i with
    | zero => simp at hi; subst hi; exact ⟨_, rfl, h⟩
    | succ i => simp at hi; simpa using ih i a hi
/-- A list of fields in memory: read. -/
def Fr (ok : Nat → Prop) (W : World) (v : Value) (l : List Fd) : Prop := ∃ (xs : List SFd) (A : Option Addr) (c : Nat), v = .slice A xs.length c ∧ xs.length ≤ c ∧ kF.C W A xs.length xs ∧ F2 (FOk ok W) l xs
theorem Rv_cd {v : Value} {d : Dw} {ps : List MemPlace} (h : Rv v = some (d, ps)) : cdS v = some d := by
  unfold Rv at h
  cases hc : cdS v with
  | none => rw [hc] at h; simp at h
  | some x => rw [hc] at h; simp at h; rw [h.1]
theorem St.row (h : St B w W Fs Rs n D) {v : Value} {xs : List SFd} (hm : (v, xs) ∈ Rs) : ∃ (A : Option Addr) (c : Nat), v = .slice A xs.length c ∧ xs.length ≤ c ∧ kF.C W A xs.length xs := Kd.R_reads (h.r _ hm)
theorem look_row (h : St B w W Fs Rs n D) {c1 c2 c4 c7 : Dw} (hD : D = D4 c1 c2 c4 c7) {v1 v2 v4 v7 : Value} {sa sb sc sd s2 s4 s7 : SFd}
    (r1 : (v1, [sa, sb, sc, sd]) ∈ Rs) (e1 : cdS v1 = some c1) (r2 : (v2, [s2]) ∈ Rs) (e2 : cdS v2 = some c2) (r4 : (v4, [s4]) ∈ Rs) (e4 : cdS v4 = some c4) (r7 : (v7, [s7]) ∈ Rs) (e7 : cdS v7 = some c7)
    (fa : (Fd.int .hops 0 8, sa) ∈ Fs) (fb : (Fd.addr .called .emergency, sb) ∈ Fs) (fc : (Fd.addr .calling .always, sc) ∈ Fs) (fd : (Fd.bool .emergency, sd) ∈ Fs) (f2 : (Fd.addr .digits .never, s2) ∈ Fs) (f4 : (Fd.bool .reverse, s4) ∈ Fs) (f7 : (Fd.int .cause 1 127, s7) ∈ Fs)
    {v : Value} {ps : List MemPlace} {kind : Int} (hv : Rv v = some (D.atKey (.int .i64 kind) .nil, ps)) : Fr (fun k => w.heap.size ≤ k ∧ k ≠ B) W v (moreS kind) := by
  have hc := Rv_cd hv
  rw [hD, D4_at] at hc
  unfold moreS
  by_cases h1 : kind = 1
  · rw [if_pos h1] at hc ⊢
    obtain rfl := cdS_inj hc e1
    obtain ⟨A, c, e, hl, hC⟩ := h.row r1
    exact ⟨_, A, c, e, hl, hC, .cons (h.f _ fa) (.cons (h.f _ fb) (.cons (h.f _ fc) (.cons (h.f _ fd) .nil)))⟩
  rw [if_neg h1] at hc ⊢
  by_cases h2 : kind = 2
  · rw [if_pos h2] at hc ⊢
    obtain rfl := cdS_inj hc e2
    obtain ⟨A, c, e, hl, hC⟩ := h.row r2
    exact ⟨_, A, c, e, hl, hC, .cons (h.f _ f2) .nil⟩
  rw [if_neg h2] at hc ⊢
  by_cases h4 : kind = 4
  · rw [if_pos h4] at hc ⊢
    obtain rfl := cdS_inj hc e4
    obtain ⟨A, c, e, hl, hC⟩ := h.row r4
    exact ⟨_, A, c, e, hl, hC, .cons (h.f _ f4) .nil⟩
  rw [if_neg h4] at hc ⊢
  by_cases h7 : kind = 7
  · rw [if_pos h7] at hc ⊢
    obtain rfl := cdS_inj hc e7
    obtain ⟨A, c, e, hl, hC⟩ := h.row r7
    exact ⟨_, A, c, e, hl, hC, .cons (h.f _ f7) .nil⟩
  rw [if_neg h7] at hc ⊢
  have e0 : v = .slice none 0 0 := cdS_inj hc rfl
  exact ⟨[], none, 0, e0, Nat.le_refl _, (Kd.R_reads' (Kd.R_nil kF 78 W 0 (fun _ => True))).2.2, .nil⟩

theorem FOk.below {ok : Nat → Prop} {d : Fd} {s : SFd} (h : FOk ok W d s) (hb : Below W.heap.size W W') : FOk ok W' d s := h.keep (fun k _ hk => hb.block k hk)
theorem moreS_len (kind : Int) : (moreS kind).length ≤ 4 := by
  unfold moreS
  split
  · simp
  split
  · simp
  split
  · simp
  split <;> simp
theorem infoF : (Try.prog.info? 78).map (fun i => (i.zero, i.size, i.bytes)) = some (some (.agg #[.nilFunc, .nilFunc, .nilFunc, .nilFunc]), 4, 32) := by kernel_rfl
/-! ### the makers, as they are called -/
def Mk (d : Fd) (w : World) (e : Ending) (w' : World) : Prop := ∃ s, e = .returned (aggF s) ∧ FOk (fun k => w.heap.size ≤ k) w' d s ∧ Below w.heap.size w w'
theorem mk1 (w : World) : Calls Try.prog 56 #[.func (.func 57) #[] #[], .int .i64 0, .int .i64 47] w (Mk (.int .circuit 0 47) w) := integer_calls .circuit 0 47 w
theorem mk2 (x : Int) (w : World) : Calls Try.prog 56 #[.func (.func 58) #[] #[], .int .i64 x, .int .i64 1099511627776] w (Mk (.int .ref x 1099511627776) w) := integer_calls .ref x 1099511627776 w
theorem mk6 (w : World) : Calls Try.prog 56 #[.func (.func 62) #[] #[], .int .i64 0, .int .i64 8] w (Mk (.int .hops 0 8) w) := integer_calls .hops 0 8 w
theorem mk12 (w : World) : Calls Try.prog 56 #[.func (.func 70) #[] #[], .int .i64 1, .int .i64 127] w (Mk (.int .cause 1 127) w) := integer_calls .cause 1 127 w
theorem mk7 (w : World) : Calls Try.prog 63 #[.func (.func 64) #[] #[], .func (.func 61) #[] #[]] w (Mk (.addr .called .emergency) w) := address_calls .called .emergency w
theorem mk8 (w : World) : Calls Try.prog 63 #[.func (.func 65) #[] #[], .func (.func 60) #[] #[]] w (Mk (.addr .calling .always) w) := address_calls .calling .always w
theorem mk10 (w : World) : Calls Try.prog 63 #[.func (.func 68) #[] #[], .func (.func 59) #[] #[]] w (Mk (.addr .digits .never) w) := address_calls .digits .never w
theorem mk9 (w : World) : Calls Try.prog 66 #[.func (.func 67) #[] #[]] w (Mk (.bool .emergency) w) := boolean_calls .emergency w
theorem mk11 (w : World) : Calls Try.prog 66 #[.func (.func 69) #[] #[]] w (Mk (.bool .reverse) w) := boolean_calls .reverse w
def fc (s : SFd) : List Value := [.func (.func s.f0.fn) #[] s.f0.cap, .func (.func s.f1.fn) #[] s.f1.cap, .func (.func s.f2.fn) #[] s.f2.cap, .func (.func s.f3.fn) #[] s.f3.cap]

/-- What fields hands back for a known kind: a list of its own. -/
def Fo (w : World) (e : Ending) (w' : World) (l : List Fd) : Prop := ∃ (v : Value) (xs : List SFd), e = .returned (.tuple #[v, .bool true]) ∧ Kd.R kF 78 w' w.heap.size (fun _ => True) v xs ∧ F2 (FOk (fun k => w.heap.size ≤ k) w') l xs ∧ Below w.heap.size w w'

set_option maxHeartbeats 2000000 in
theorem fields_bad (kind : Int) (w : World) (h : known kind = false) : Calls Try.prog 42 #[.int .i64 kind] w fun e w' => e = .returned (.tuple #[.slice none 0 0, .bool false]) ∧ Below w.heap.size w w' := by
  unfold known at h
  by_cases h1 : kind < 1
  · clear h
    have h1b := decide_eq_true h1
    go_enter Try.func42, Try.ntmps42
    go_wp2
    exact bodyPost_ret (v := .tuple #[.slice none 0 0, .bool false]) (by simp [results, Try.results42, go_sem]) rfl ⟨rfl, Below.refl _ _⟩
  · have h2 : kind > 13 := by simp at h; omega
    clear h
    have h1b := decide_eq_false h1
    have h2b := decide_eq_true h2
    go_enter Try.func42, Try.ntmps42
    go_wp2
    exact bodyPost_ret (v := .tuple #[.slice none 0 0, .bool false]) (by simp [results, Try.results42, go_sem]) rfl ⟨rfl, Below.refl _ _⟩

set_option maxHeartbeats 2000000 in
theorem fields_one (kind : Int) (w : World) (h0 : 8 < kind) (h : kind ≤ 13) : Calls Try.prog 42 #[.int .i64 kind] w fun e w' => Fo w e w' (fieldsS kind) := by
  have e : fieldsS kind = [.int .circuit 0 47] := by unfold fieldsS; rw [if_pos (by omega)]
  rw [e]
  clear e
  have h1b : decide (kind < 1) = false := decide_eq_false (by omega)
  have h2b : decide (kind > 13) = false := decide_eq_false (by omega)
  have h3b : decide (kind > 8) = true := decide_eq_true (by omega)
  clear h0 h
  go_enter Try.func42, Try.ntmps42
  go_wp2_with (first | (go_at_call 56; (with_reducible refine (mk1 _).mono ?_); rintro e w1 ⟨s1, rfl, hf, hb⟩; dsimp only [aggF]; have F1 := Aside0.mk hf; have B1 := Aside0.mk hb; clear hf hb) | ((with_reducible refine gate_dst (N := 21) rfl ?_); go_loud (refine Kd.R_lit kF _ 78 ?hg (N := 21) ?hd (xs := [s1]) (inner := fc s1) (ok := fun _ => True) (okp := fun _ => True) ?hr ?hp (fun _ hk => hk) trivial (Below.refl _ _) (Nat.le_refl _) (by simp) ?_; (case hd => rfl); (case hg => rfl); (case hr => first | (go_simp; done) | (go_simp; rfl)); (case hp => exact Reps.c4 (kF_mkM _ _ _ s1) (Reps.none _ _)); intro v102 w3 ho4 hb hg_ hnew_; clear hg_ hnew_; have HO := Aside0.mk ho4; have B2 := Aside0.mk hb; clear ho4 hb)))
  have hB : Below w1.heap.size w1 w3 := below_step (below_alloc (Below.refl _ _) _) B2.out
  refine bodyPost_ret (v := .tuple #[v102, .bool true]) (by simp [results, Try.results42, go_sem]) rfl ⟨v102, [s1], rfl, ?_, ?_, ?_⟩
  · exact Kd.R_lower HO.out (by rw [World.size_alloc]; have := B1.out.size; omega)
  · exact .cons (F1.out.below hB) .nil
  · exact below_step B1.out hB

theorem fcell {W : World} {g : Nat} {s : SFd} (h : W.heap[g]? = some (.cells (fc s).toArray 78 (0, 0))) :
    W.cell? ⟨g, 0, none⟩ = some (.func (.func s.f0.fn) #[] s.f0.cap) ∧ W.cell? ⟨g, 1, none⟩ = some (.func (.func s.f1.fn) #[] s.f1.cap) ∧ W.cell? ⟨g, 2, none⟩ = some (.func (.func s.f2.fn) #[] s.f2.cap) ∧ W.cell? ⟨g, 3, none⟩ = some (.func (.func s.f3.fn) #[] s.f3.cap) := by
  refine ⟨?_, ?_, ?_, ?_⟩ <;> simp [World.cell?, h, fc]

set_option maxHeartbeats 8000000 in
set_option maxRecDepth 100000 in
theorem fields_many (kind : Int) (w : World) (h0 : 1 ≤ kind) (h : kind ≤ 8) : Calls Try.prog 42 #[.int .i64 kind] w fun e w' => Fo w e w' (fieldsS kind) := by
  have e : fieldsS kind = [.int .circuit 0 47, .int .ref (leastS kind) 1099511627776] ++ moreS kind := by unfold fieldsS; rw [if_neg (by omega)]
  rw [e]
  clear e
  have h1b : decide (kind < 1) = false := decide_eq_false (by omega)
  have h2b : decide (kind > 13) = false := decide_eq_false (by omega)
  have h3b : decide (kind > 8) = false := decide_eq_false (by omega)
  have hmm := @run_makeMap Try.prog
  have hwf : (Lit.int .i64 kind).wf = true := by simp [Lit.wf, IntKind.min, IntKind.max, IntKind.bits, IntKind.signed]; omega
  clear h0 h
  go_enter Try.func42, Try.ntmps42
  go_upto_if 23 with (first | (go_at_call 56; (with_reducible refine (mk1 _).mono ?_); rintro e w1 ⟨s1, rfl, hf, hb⟩; dsimp only [aggF]; have F1 := Aside0.mk hf; have B1 := Aside0.mk hb; clear hf hb))
  (try simp only [Act.put, List.setIfInBounds_toArray, List.set_cons_zero, List.set_cons_succ])
  have G1 := Aside0.mk (show (w1.alloc (.cells (fc s1).toArray 78)).heap[w1.heap.size]? = some (.cells (fc s1).toArray 78 (0, 0)) from hp_new rfl)
  have B2 := Aside0.mk (show Below w1.heap.size w1 (w1.alloc (.cells (fc s1).toArray 78)) from below_alloc (Below.refl _ _) _)
  unfold fc at G1 B2
  generalize w1.alloc _ = w2 at G1 B2 ⊢
  go_cut [5] (fun v5 wc => v5 = .int .i64 (leastS kind) ∧ wc = w2)
  case first =>
    by_cases h8 : kind = 8
    · have h8b : (kind == 8) = true := beq_iff_eq.mpr h8
      have e8 : leastS kind = 0 := by unfold leastS; rw [if_pos h8]
      clear h8
      go_wp2
      go_meet
      case rel => exact ⟨by rw [e8], rfl⟩
    · have h8b : (kind == 8) = false := beq_eq_false_iff_ne.mpr h8
      have e8 : leastS kind = 1 := by unfold leastS; rw [if_neg h8]
      clear h8
      go_wp2
      go_meet
      case rel => exact ⟨by rw [e8], rfl⟩
  case rest =>
    obtain ⟨rfl, rfl⟩ := hcut
    go_wp2
    have BD := Aside0.mk (below_drew1 B2.out)
    refine start_ (n := 5) (S := fun w' => w'.heap[w1.heap.size]? = some (.cells #[.func (.func s1.f0.fn) #[] s1.f0.cap, .func (.func s1.f1.fn) #[] s1.f1.cap, .func (.func s1.f2.fn) #[] s1.f2.cap, .func (.func s1.f3.fn) #[] s1.f3.cap] 78 (0, 0))) (ds := []) #[false, false, false, false, false] (by kernel_rfl) rfl rfl G1.out (fun hHeld => ?_)
    clear B2 G1
    generalize wc.drew = w2 at BD hHeld ⊢
    refine pure_ (i := 1) (N := some 25) (v := ?_) (a' := ?_) #[false, true, false, false, false] rfl rfl (by kernel_rfl) (fun _ _ _ h => h) (Or.inl ⟨by rfl, ?_⟩) ?_ ?_
    rotate_left
    · intro w'
      go_simp
      with_reducible rfl
    rotate_left
    · simp only [Act.put, List.setIfInBounds_toArray, List.set_cons_zero, List.set_cons_succ]
      rfl
    refine take_ (i := 0) (N := some 24) (v := ?_) (a' := ?_) #[true, true, false, false, false] rfl rfl (by kernel_rfl) (fun _ _ _ h => h) (Or.inl ⟨by rfl, ?_⟩) hHeld ?_ ?_
    rotate_left
    · intro w' hs_
      obtain ⟨q0, q1, q2, q3⟩ := fcell hs_
      go_simp
      with_reducible rfl
    rotate_left
    · simp only [Act.put, List.setIfInBounds_toArray, List.set_cons_zero, List.set_cons_succ]
      rfl
    refine one_ (i := 2) (N := some 26) #[true, true, true, false, false] rfl rfl (by kernel_rfl) (by decide) (fun K hK => ?_)
    refine goes_ Try.func56 (by kernel_rfl) rfl #[.func (.func 58) #[] #[], .int .i64 (leastS kind), .int .i64 1099511627776] (by rfl) rfl rfl (by (try simp only [List.map_toArray, List.map_cons, List.map_nil]); first | done | rfl) ?_
    refine (mk2 _ _).mono ?_
    rintro e w4 ⟨s2, rfl, hf, hb⟩
    refine ⟨_, rfl, ?_⟩
    dsimp only [aggF]
    have F2 := Aside0.mk hf
    have B4 := Aside0.mk hb
    refine hK.out _ _ ((hb.block _ (Array.getElem?_eq_some_iff.1 hHeld).1).trans hHeld) (fun hHeld => ?_)
    clear hK K hf hb
    simp only [Act.put, List.setIfInBounds_toArray, List.set_cons_zero, List.set_cons_succ]
    refine one_ (i := 3) (N := some 27) #[true, true, true, true, false] rfl rfl (by kernel_rfl) (by decide) (fun K hK => ?_)
    refine Kd.R_lit_step kF _ 78 (by rfl) (N := 27) rfl (xs := [s1, s2]) (inner := fc s1 ++ fc s2) (ok := fun _ => True) (okp := fun _ => True) ?hr (Reps.c4 (kF_mkM _ _ _ s1) (Reps.c4 (kF_mkM _ _ _ s2) (Reps.none _ _))) (fun _ hk => hk) trivial (Below.refl _ _) (Nat.le_refl _) (by simp) ?_
    case hr => first | (go_simp; done) | (go_simp; rfl)
    intro v5 w5 ho hb hg_ hnew_
    obtain ⟨b5, hb5, _⟩ := hnew_
    obtain ⟨g5, c5, rfl⟩ := own_form ho hb5
    clear hb5
    have HO := Aside0.mk ho
    have B5 := Aside0.mk hb
    refine hK.out _ _ ((hb.block _ (Array.getElem?_eq_some_iff.1 hHeld).1).trans hHeld) (fun hHeld => ?_)
    clear hK K ho hb hg_
    refine norm_ (a' := ?_) ?_ ?_
    rotate_left
    · show Act.put _ (some 27) _ = _
      simp only [Act.put, List.setIfInBounds_toArray, List.set_cons_zero, List.set_cons_succ]
      rfl
    refine one_ (i := 4) (N := some 6) #[true, true, true, true, true] rfl rfl (by kernel_rfl) (by decide) (fun K hK => ?_)
    refine value_ (w1 := ?_) (v := ?_) (by rfl) rfl ?_ ?_
    rotate_left 2
    · go_simp
      constructor
      · rfl
      · rfl
    refine hK.out _ _ hHeld (fun hHeld => ?_)
    clear hK K
    refine norm_ (a' := ?_) ?_ ?_
    rotate_left
    · show Act.put _ (some 6) _ = _
      simp only [Act.put, List.setIfInBounds_toArray, List.set_cons_zero, List.set_cons_succ]
      rfl
    refine done_ (by kernel_rfl) ?_
    have BC := Aside0.mk (below_step (below_step BD.out B4.out) B5.out)
    have BW := Aside0.mk (below_step B1.out BC.out)
    have HF := Aside0.mk (show ∀ p ∈ [(Fd.int .circuit 0 47, s1), (Fd.int .ref (leastS kind) 1099511627776, s2)], FOk (fun k => w.heap.size ≤ k) w5 p.1 p.2 from by
      intro p hp
      have q1 := B1.out.size
      have q2 := BD.out.size
      simp only [List.mem_cons, List.not_mem_nil, or_false] at hp
      rcases hp with rfl | rfl
      · exact F1.out.below BC.out
      · exact (F2.out.mono (fun k hk _ => by have h3 : w2.heap.size ≤ k := hk; omega)).below B5.out)
    have HR := Aside0.mk (Kd.R_lower (base' := w.heap.size) HO.out (below_size (below_step (below_step B1.out BD.out) B4.out)))
    clear BC B1 BD B4 B5 F1 F2 HO hHeld
    go_wp2_with (first
      | (go_at_call 56; (with_reducible refine (mk6 _).mono ?_); rintro e w6 ⟨s6, rfl, hf, hb⟩; dsimp only [aggF]; have HS := Aside0.mk ((St.start BW.out HF.out HR.out).addF hb (Nat.le_refl _) hf); clear hf hb)
      | (go_at_call 63; (with_reducible refine (mk7 _).mono ?_); rintro e w7 ⟨s7, rfl, hf, hb⟩; dsimp only [aggF]; have n_ := Aside0.mk (HS.out.addF hb (Nat.le_refl _) hf); clear HS hf hb; have HS := n_; clear n_)
      | (go_at_call 63; (with_reducible refine (mk8 _).mono ?_); rintro e w8 ⟨s8, rfl, hf, hb⟩; dsimp only [aggF]; have n_ := Aside0.mk (HS.out.addF hb (Nat.le_refl _) hf); clear HS hf hb; have HS := n_; clear n_)
      | (go_at_call 66; (with_reducible refine (mk9 _).mono ?_); rintro e w9 ⟨s9, rfl, hf, hb⟩; dsimp only [aggF]; have n_ := Aside0.mk (HS.out.addF hb (Nat.le_refl _) hf); clear HS hf hb; have HS := n_; clear n_)
      | (go_at_call 63; (with_reducible refine (mk10 _).mono ?_); rintro e w10 ⟨s10, rfl, hf, hb⟩; dsimp only [aggF]; have n_ := Aside0.mk (HS.out.addF hb (Nat.le_refl _) hf); clear HS hf hb; have HS := n_; clear n_)
      | (go_at_call 66; (with_reducible refine (mk11 _).mono ?_); rintro e w11 ⟨s11, rfl, hf, hb⟩; dsimp only [aggF]; have n_ := Aside0.mk (HS.out.addF hb (Nat.le_refl _) hf); clear HS hf hb; have HS := n_; clear n_)
      | (go_at_call 56; (with_reducible refine (mk12 _).mono ?_); rintro e w12 ⟨s12, rfl, hf, hb⟩; dsimp only [aggF]; have n_ := Aside0.mk (HS.out.addF hb (Nat.le_refl _) hf); clear HS hf hb; have HS := n_; clear n_)
      | ((with_reducible refine gate_dst (N := 35) rfl ?_); refine Kd.R_lit kF _ 78 ?hg (N := 35) ?hd (xs := [s6, s7, s8, s9]) (inner := fc s6 ++ (fc s7 ++ (fc s8 ++ fc s9))) (ok := fun _ => True) (okp := fun _ => True) ?hr ?hp (fun _ hk => hk) trivial (Below.refl _ _) (Nat.le_refl _) (by simp) ?_; (case hd => rfl); (case hg => rfl); (case hr => first | (go_simp; done) | (go_simp; rfl)); (case hp => exact Reps.c4 (kF_mkM _ _ _ s6) (Reps.c4 (kF_mkM _ _ _ s7) (Reps.c4 (kF_mkM _ _ _ s8) (Reps.c4 (kF_mkM _ _ _ s9) (Reps.none _ _))))); intro v35 w35 ho hb hg_ hnew_; obtain ⟨b35, hb35, _⟩ := hnew_; obtain ⟨g35, c35, rfl⟩ := own_form ho hb35; have n_ := Aside0.mk (HS.out.addR hb ho); clear HS ho hb hg_ hb35; have HS := n_; clear n_)
      | ((with_reducible refine gate_dst (N := 38) rfl ?_); refine Kd.R_lit kF _ 78 ?hg (N := 38) ?hd (xs := [s10]) (inner := fc s10) (ok := fun _ => True) (okp := fun _ => True) ?hr ?hp (fun _ hk => hk) trivial (Below.refl _ _) (Nat.le_refl _) (by simp) ?_; (case hd => rfl); (case hg => rfl); (case hr => first | (go_simp; done) | (go_simp; rfl)); (case hp => exact Reps.c4 (kF_mkM _ _ _ s10) (Reps.none _ _)); intro v38 w38 ho hb hg_ hnew_; obtain ⟨b38, hb38, _⟩ := hnew_; obtain ⟨g38, c38, rfl⟩ := own_form ho hb38; have n_ := Aside0.mk (HS.out.addR hb ho); clear HS ho hb hg_ hb38; have HS := n_; clear n_)
      | ((with_reducible refine gate_dst (N := 40) rfl ?_); refine Kd.R_lit kF _ 78 ?hg (N := 40) ?hd (xs := [s11]) (inner := fc s11) (ok := fun _ => True) (okp := fun _ => True) ?hr ?hp (fun _ hk => hk) trivial (Below.refl _ _) (Nat.le_refl _) (by simp) ?_; (case hd => rfl); (case hg => rfl); (case hr => first | (go_simp; done) | (go_simp; rfl)); (case hp => exact Reps.c4 (kF_mkM _ _ _ s11) (Reps.none _ _)); intro v40 w40 ho hb hg_ hnew_; obtain ⟨b40, hb40, _⟩ := hnew_; obtain ⟨g40, c40, rfl⟩ := own_form ho hb40; have n_ := Aside0.mk (HS.out.addR hb ho); clear HS ho hb hg_ hb40; have HS := n_; clear n_)
      | ((with_reducible refine gate_dst (N := 42) rfl ?_); refine Kd.R_lit kF _ 78 ?hg (N := 42) ?hd (xs := [s12]) (inner := fc s12) (ok := fun _ => True) (okp := fun _ => True) ?hr ?hp (fun _ hk => hk) trivial (Below.refl _ _) (Nat.le_refl _) (by simp) ?_; (case hd => rfl); (case hg => rfl); (case hr => first | (go_simp; done) | (go_simp; rfl)); (case hp => exact Reps.c4 (kF_mkM _ _ _ s12) (Reps.none _ _)); intro v42 w42 ho hb hg_ hnew_; obtain ⟨b42, hb42, _⟩ := hnew_; obtain ⟨g42, c42, rfl⟩ := own_form ho hb42; have n_ := Aside0.mk (HS.out.addR hb ho); clear HS ho hb hg_ hb42; have HS := n_; clear n_)
      | ((with_reducible refine gate_dst (N := 47) rfl ?_); refine look_event rfl _ _ kind rfl hwf rfl HS.out.m rfl ?_; intro v47 ps47 hv47; obtain ⟨xs, A, c, rfl, hl, hC, hF⟩ := look_row HS.out rfl (List.Mem.tail _ (List.Mem.tail _ (List.Mem.tail _ (List.Mem.head _)))) rfl (List.Mem.tail _ (List.Mem.tail _ (List.Mem.head _))) rfl (List.Mem.tail _ (List.Mem.head _)) rfl (List.Mem.head _) rfl (List.Mem.tail _ (List.Mem.tail _ (List.Mem.tail _ (List.Mem.tail _ (List.Mem.tail _ (List.Mem.tail _ (List.Mem.head _))))))) (List.Mem.tail _ (List.Mem.tail _ (List.Mem.tail _ (List.Mem.tail _ (List.Mem.tail _ (List.Mem.head _)))))) (List.Mem.tail _ (List.Mem.tail _ (List.Mem.tail _ (List.Mem.tail _ (List.Mem.head _))))) (List.Mem.tail _ (List.Mem.tail _ (List.Mem.tail _ (List.Mem.head _)))) (List.Mem.tail _ (List.Mem.tail _ (List.Mem.head _))) (List.Mem.tail _ (List.Mem.head _)) (List.Mem.head _) hv47; have HC := Aside0.mk hC; have HX := Aside0.mk hF; clear hv47 hC hF hl)
      | ((with_reducible refine gate_dst (N := 48) rfl ?_); refine Kd.R_append_rows kF (Rr := kF.K _) (w0 := w) w.heap.size rfl (.tmp 44) (.tmp 47) 70 78 (.agg #[.nilFunc, .nilFunc, .nilFunc, .nilFunc]) 32 rfl Try.underlying70 infoF rfl (by decide) (by decide) (.slice (some ⟨g5, 0, none⟩) 2 c5) [s1, s2] xs A xs.length c (fun k => k ≠ w5.heap.size) (fun _ => False) rfl rfl ?aO HC.out ?aK ?q3 ?aF HS.out.below (below_size HS.out.below) ?aL ?_; (case aO => exact HS.out.r _ (List.Mem.tail _ (List.Mem.tail _ (List.Mem.tail _ (List.Mem.tail _ (List.Mem.head _)))))); (case aK => exact fun x cs h => by rw [kF_open h]; exact kF_mkM _ _ _ x); (case q3 => exact fun _ h => h.elim); (case aF => exact fun k hk => by have := HS.out.m.lt; omega); (case aL => have h1 := moreS_len kind; have h2 := HX.out.len; simp only [List.length_cons, List.length_nil]; omega); intro v48 w48 ho hb hg hat; obtain ⟨inner5, ho5⟩ := Kd.R_own (HS.out.r _ (List.Mem.tail _ (List.Mem.tail _ (List.Mem.tail _ (List.Mem.tail _ (List.Mem.head _)))))); obtain ⟨cells5, hc5⟩ := own_typed ho5 g5 rfl; have htr : ∀ d s, FOk (fun k => w.heap.size ≤ k ∧ k ≠ w5.heap.size) _ d s → FOk (fun k => w.heap.size ≤ k) w48 d s := fun d s h => ((h.types hc5).keep (fun k ok hk => hg.block k hk (fun e => ok.2 (Option.some.inj e)))).mono (fun k ok _ => ok.1.1); have HZ := Aside0.mk (F2.append (l := [.int .circuit 0 47, .int .ref (leastS kind) 1099511627776]) (m := [s1, s2]) (.cons (htr _ _ (HS.out.f _ (List.Mem.tail _ (List.Mem.tail _ (List.Mem.tail _ (List.Mem.tail _ (List.Mem.tail _ (List.Mem.tail _ (List.Mem.tail _ (List.Mem.head _)))))))))) (.cons (htr _ _ (HS.out.f _ (List.Mem.tail _ (List.Mem.tail _ (List.Mem.tail _ (List.Mem.tail _ (List.Mem.tail _ (List.Mem.tail _ (List.Mem.tail _ (List.Mem.tail _ (List.Mem.head _))))))))))) .nil)) (HX.out.imp htr)); have HO := Aside0.mk ho; have HB := Aside0.mk hb; clear ho hb hg hat ho5 hc5 htr HS)
      | (refine ins_event rfl _ _ _ rfl (by decide) (by unfold maxLen; omega) rfl HS.out.m _ rfl (Rv_own _ _ _) ?_; intro wm hm hg; have n_ := Aside0.mk (HS.out.put hg hm); clear HS hg hm; have HS := n_; clear n_))
    exact bodyPost_ret (v := .tuple #[v48, .bool true]) (by simp [results, Try.results42, go_sem]) rfl ⟨v48, [s1, s2] ++ xs, rfl, Kd.R_mono HO.out (fun _ _ => trivial), HZ.out, HB.out⟩
end Go.Proofs.Ythemnajgdoambaa.Iq
/-
  isup.Check, by hand.
-/
namespace Go.Proofs.Ythemnajgdoambaa.Iq
open Go.RowKit Go.Shelf Go.Proofs.YthemnajgdoambaaW.PrintWords Go.Proofs.YthemnajgdoambaaW.PrintLast Go.Proofs.YthemnajgdoambaaW.PrintMore Go.Proofs.Ythemnajgdoambaa.Is
set_option linter.unusedVariables false
set_option linter.unusedSimpArgs false

theorem eqSig (d : Nat) (w : World) (x0 y0 : Int) (x1 y1 : Int) (x2 y2 : Int) (x3 y3 : Int) (x4 y4 : Int) (x5 y5 : ByteArray) (x6 y6 : ByteArray) (x7 y7 : ByteArray) (x8 y8 : Bool) (x9 y9 : Bool) :
    (Op.equalIn (d + 2) 46 (.agg #[.int .i64 x0, .int .i64 x1, .int .i64 x2, .int .i64 x3, .int .i64 x4, .string x5, .string x6, .string x7, .bool x8, .bool x9]) (.agg #[.int .i64 y0, .int .i64 y1, .int .i64 y2, .int .i64 y3, .int .i64 y4, .string y5, .string y6, .string y7, .bool y8, .bool y9])).run Try.prog w = .ok (x0 == y0 && (x1 == y1 && (x2 == y2 && (x3 == y3 && (x4 == y4 && (x5.toList == y5.toList && (x6.toList == y6.toList && (x7.toList == y7.toList && (x8 == y8 && (x9 == y9)))))))))) w := by
  refine eqA_of Try.underlying46 (by kernel_rfl) ?_
  refine eqf_cons (by rfl) (by go_simp; rfl) (by go_simp; rfl) (by go_simp) ?_
  refine eqf_cons (by rfl) (by go_simp; rfl) (by go_simp; rfl) (by go_simp) ?_
  refine eqf_cons (by rfl) (by go_simp; rfl) (by go_simp; rfl) (by go_simp) ?_
  refine eqf_cons (by rfl) (by go_simp; rfl) (by go_simp; rfl) (by go_simp) ?_
  refine eqf_cons (by rfl) (by go_simp; rfl) (by go_simp; rfl) (by go_simp) ?_
  refine eqf_cons (by rfl) (by go_simp; rfl) (by go_simp; rfl) (by go_simp) ?_
  refine eqf_cons (by rfl) (by go_simp; rfl) (by go_simp; rfl) (by go_simp) ?_
  refine eqf_cons (by rfl) (by go_simp; rfl) (by go_simp; rfl) (by go_simp) ?_
  refine eqf_cons (by rfl) (by go_simp; rfl) (by go_simp; rfl) (by go_simp) ?_
  exact eqf_last (by rfl) (by go_simp; rfl) (by go_simp; rfl) (by go_simp)
attribute [local go_sem high] eqSig

/-! ### what Check computes -/
def clrAll (l : List Fd) (s : Sig) : Sig := l.foldl (fun s d => d.clr s) s
/-- Nothing is left but the kind. -/
def bare (s : Sig) : Bool := s.kind == s.kind && (s.circuit == 0 && (s.ref == 0 && (s.hops == 0 && (s.cause == 0 && (s.called.toList == noStr.toList && (s.calling.toList == noStr.toList && (s.digits.toList == noStr.toList && (s.emergency == false && (s.reverse == false)))))))))
def validS_ (s : Sig) : Bool := known s.kind && ((fieldsS s.kind).all (Fd.ok s) && bare (clrAll (fieldsS s.kind) s))
def checkS (s : Sig) : Int := if validS_ s then 0 else 110

theorem fields_calls (kind : Int) (w : World) (h : known kind = true) : Calls Try.prog 42 #[.int .i64 kind] w fun e w' => Fo w e w' (fieldsS kind) := by
  unfold known at h
  simp only [Bool.and_eq_true, decide_eq_true_eq] at h
  by_cases h8 : kind ≤ 8
  · exact fields_many kind w h.1 h8
  · exact fields_one kind w (by omega) h.2
theorem fields_pos (kind : Int) : 0 < (fieldsS kind).length := by unfold fieldsS; split <;> simp
theorem fields_le (kind : Int) : (fieldsS kind).length ≤ 6 := by
  unfold fieldsS
  split
  · simp
  · have := moreS_len kind; simp only [List.length_append, List.length_cons, List.length_nil]; omega

/-! ### the closures of a field, whichever it is -/
variable {w : World} {S : Nat} {s : Sig} {ok : Nat → Prop} {d : Fd} {x : SFd}
theorem fd_valid (hs : At w S s) (hf : FOk ok w d x) : Calls Try.prog x.f0.fn (#[pt S] ++ x.f0.cap) w fun e w' => e = .returned (.bool (d.ok s)) ∧ Below w.heap.size w w' := by
  cases d with
  | int f lo hi => obtain ⟨bo, bf, bt, h1, h2, h3, rfl⟩ := hf; exact int_valid f lo hi S bo bf bt ok s w hs h1 h2 h3
  | addr f e => obtain ⟨bo, be, h1, h2, rfl⟩ := hf; exact addr_valid f e S bo be ok s w hs h1 h2
  | bool f => obtain ⟨bo, h1, rfl⟩ := hf; exact (bool_valid S w).mono (by rintro e w' ⟨rfl, rfl⟩; exact ⟨rfl, Below.refl _ _⟩)
theorem fd_enters0 (hf : FOk ok w d x) : ∀ args W, (callFunc x.f0.fn args).run Try.prog W = .ok (.enter x.f0.fn args) W := by
  cases d with
  | int f lo hi => obtain ⟨bo, bf, bt, h1, h2, h3, rfl⟩ := hf; exact enters_of Try.func74 (by kernel_rfl) rfl
  | addr f e => obtain ⟨bo, be, h1, h2, rfl⟩ := hf; exact enters_of Try.func80 (by kernel_rfl) rfl
  | bool f => obtain ⟨bo, h1, rfl⟩ := hf; exact enters_of Try.func87 (by kernel_rfl) rfl
/-- What a clear leaves. -/
structure Cl (S : Nat) (w w' : World) (t : Sig) : Prop where
  at_ : At w' S t
  size : w'.heap.size = w.heap.size
  blk : ∀ k, k ≠ S → w'.heap[k]? = w.heap[k]?
  below : ∀ B, B ≤ S → Below B w w'
theorem cl_set {v : Value} {o : Nat} {t : Sig} (h : At (w.setCell ⟨S, o, none⟩ v) S t) : Cl S w (w.setCell ⟨S, o, none⟩ v) t :=
  ⟨h, by simp, fun k hk => Below.heap_setCell w ⟨S, o, none⟩ v k hk, fun B hB => Below.setCell (p := ⟨S, o, none⟩) (Below.refl B w) hB v⟩
theorem fd_clear (hs : At w S s) (hf : FOk ok w d x) : Calls Try.prog x.f3.fn (#[pt S] ++ x.f3.cap) w fun e w' => e = .returned (.tuple #[]) ∧ Cl S w w' (d.clr s) := by
  cases d with
  | int f lo hi => obtain ⟨bo, bf, bt, h1, h2, h3, rfl⟩ := hf; exact (int_clear f S bo ok s w hs h1).mono (by rintro e w' ⟨rfl, rfl⟩; exact ⟨rfl, cl_set (hs.setI f 0)⟩)
  | addr f e => obtain ⟨bo, be, h1, h2, rfl⟩ := hf; exact (addr_clear f S bo ok s w hs h1).mono (by rintro e w' ⟨rfl, rfl⟩; exact ⟨rfl, cl_set (hs.setS f noStr)⟩)
  | bool f => obtain ⟨bo, h1, rfl⟩ := hf; exact (bool_clear f S bo ok s w hs h1).mono (by rintro e w' ⟨rfl, rfl⟩; exact ⟨rfl, cl_set (hs.setB f false)⟩)
theorem fd_enters3 (hf : FOk ok w d x) : ∀ args W, (callFunc x.f3.fn args).run Try.prog W = .ok (.enter x.f3.fn args) W := by
  cases d with
  | int f lo hi => obtain ⟨bo, bf, bt, h1, h2, h3, rfl⟩ := hf; exact enters_of Try.func79 (by kernel_rfl) rfl
  | addr f e => obtain ⟨bo, be, h1, h2, rfl⟩ := hf; exact enters_of Try.func86 (by kernel_rfl) rfl
  | bool f => obtain ⟨bo, h1, rfl⟩ := hf; exact enters_of Try.func91 (by kernel_rfl) rfl

/-! ### a list of fields while the message's block S is written -/
def zF : SFd := ⟨⟨0, #[]⟩, ⟨0, #[]⟩, ⟨0, #[]⟩, ⟨0, #[]⟩⟩
structure Ls (S : Nat) (w : World) (A : Option Addr) (c : Nat) (l : List Fd) (xs : List SFd) : Prop where
  r : Kd.R kF 78 w 0 (fun k => k ≠ S) (.slice A xs.length c) xs
  f : F2 (FOk (fun k => k ≠ S) w) l xs
theorem Ls.keep {w' : World} {A : Option Addr} {c : Nat} {l : List Fd} {xs : List SFd} (h : Ls S w A c l xs) (hk : ∀ k, k ≠ S → k < w.heap.size → w'.heap[k]? = w.heap[k]?) : Ls S w' A c l xs :=
  ⟨Kd.R_step h.r hk, h.f.imp (fun _ _ hf => hf.keep hk)⟩
theorem Ls.cell {A : Option Addr} {c : Nat} {l : List Fd} {xs : List SFd} (h : Ls S w A c l xs) (i : Int) (h0 : 0 ≤ i) (h1 : i < (xs.length : Int)) :
    ∃ ad, A = some ad ∧ w.cell? (ad.add (i.toNat * 4)) = some (.func (.func (xs.getD i.toNat zF).f0.fn) #[] (xs.getD i.toNat zF).f0.cap) ∧ w.cell? ⟨(ad.add (i.toNat * 4)).block, (ad.add (i.toNat * 4)).off + 1, none⟩ = some (.func (.func (xs.getD i.toNat zF).f1.fn) #[] (xs.getD i.toNat zF).f1.cap) ∧ w.cell? ⟨(ad.add (i.toNat * 4)).block, (ad.add (i.toNat * 4)).off + 2, none⟩ = some (.func (.func (xs.getD i.toNat zF).f2.fn) #[] (xs.getD i.toNat zF).f2.cap) ∧ w.cell? ⟨(ad.add (i.toNat * 4)).block, (ad.add (i.toNat * 4)).off + 3, none⟩ = some (.func (.func (xs.getD i.toNat zF).f3.fn) #[] (xs.getD i.toNat zF).f3.cap) := by
  obtain ⟨_, _, hC⟩ := Kd.R_reads' h.r
  obtain ⟨ad, c, e, _, hK, hc0⟩ := Kd.C_get hC zF i h0 h1
  have hc : ∀ j u, c[j]? = some u → w.cell? (ad.add (i.toNat * 4 + j)) = some u := hc0
  obtain rfl := kF_open hK
  exact ⟨ad, e, hc 0 _ rfl, by rw [← add_field _ _ 1 (by omega)]; exact hc 1 _ rfl, by rw [← add_field _ _ 2 (by omega)]; exact hc 2 _ rfl, by rw [← add_field _ _ 3 (by omega)]; exact hc 3 _ rfl⟩
theorem Ls.get {A : Option Addr} {c : Nat} {l : List Fd} {xs : List SFd} (h : Ls S w A c l xs) {i : Nat} (hi : i < xs.length) : ∃ d, l[i]? = some d ∧ FOk (fun k => k ≠ S) w d (xs.getD i zF) := by
  have hl : i < l.length := by rw [h.f.len]; exact hi
  obtain ⟨b, hb, hf⟩ := h.f.get i l[i] (List.getElem?_eq_getElem hl)
  refine ⟨l[i], List.getElem?_eq_getElem hl, ?_⟩
  rw [List.getD_eq_getElem?_getD, hb]
  exact hf
theorem all_take {l : List Fd} {i : Nat} {d : Fd} (h : l[i]? = some d) (p : Fd → Bool) : (l.take (i + 1)).all p = ((l.take i).all p && p d) := by
  rw [List.take_add_one, h]
  simp
theorem clr_take {l : List Fd} {i : Nat} {d : Fd} (h : l[i]? = some d) (s : Sig) : clrAll (l.take (i + 1)) s = d.clr (clrAll (l.take i) s) := by
  unfold clrAll
  rw [List.take_add_one, h]
  simp
theorem clr_kind (d : Fd) (s : Sig) : (d.clr s).kind = s.kind := by
  cases d with
  | int f _ _ => cases f <;> rfl
  | addr f _ => cases f <;> rfl
  | bool f => cases f <;> rfl
theorem clrAll_kind (l : List Fd) (s : Sig) : (clrAll l s).kind = s.kind := by
  induction l generalizing s with
  | nil => rfl
  | cons d l ih => exact (ih (d.clr s)).trans (clr_kind d s)

set_option maxHeartbeats 4000000 in
theorem check_bad (s : Sig) (w : World) (h : known s.kind = false) : Calls Try.prog 41 #[.agg s.cells] w fun e w' => e = .returned (.int .i64 110) ∧ Below w.heap.size w w' := by
  unfold Sig.cells
  have HK := Aside0.mk h
  clear h
  go_enter Try.func41, Try.ntmps41
  go_wp2_with (go_at_call 42; refine (fields_bad _ _ HK.out).mono ?_; rintro e w1 ⟨rfl, hb⟩; have HB := Aside0.mk (below_step (below_alloc (Below.refl _ _) _) hb); clear hb)
  go_ret
  exact ⟨rfl, HB.out⟩

set_option maxHeartbeats 8000000 in
set_option maxRecDepth 100000 in
theorem check_good (s : Sig) (w : World) (h : known s.kind = true) : Calls Try.prog 41 #[.agg s.cells] w fun e w' => e = .returned (.int .i64 (checkS s)) ∧ Below w.heap.size w w' := by
  have HK := Aside0.mk h
  clear h
  have hcells : s.cells = #[.int .i64 s.kind, .int .i64 s.circuit, .int .i64 s.ref, .int .i64 s.hops, .int .i64 s.cause, .string s.called, .string s.calling, .string s.digits, .bool s.emergency, .bool s.reverse] := rfl
  rw [hcells]
  clear hcells
  go_enter Try.func41, Try.ntmps41
  go_wp2_with (go_at_call 42; refine (fields_calls _ _ HK.out).mono ?_; rintro e w1 ⟨v, xs, rfl, hr, hf, hb⟩; have hp := fields_pos s.kind; rw [hf.len] at hp; obtain ⟨ad, c, rfl⟩ := Kd.R_slice1 hr hp; have HR := Aside0.mk hr; have HF := Aside0.mk hf; have HB := Aside0.mk hb; clear hr hf hb hp)
  have HS := Aside0.mk (At.below (S := w.heap.size) (s := s) (w := w.alloc (.cells s.cells 46)) (hp_new rfl) HB.out)
  have HL := Aside0.mk (show Ls w.heap.size w1 (some ad) c (fieldsS s.kind) xs from ⟨Kd.R_lower (Kd.R_mono (Kd.R_bound HR.out) (fun k hk => by have := hk.2.1; rw [World.size_alloc] at this; omega)) (Nat.zero_le _), HF.out.imp (fun _ _ hf => hf.mono (fun k hk _ => by rw [World.size_alloc] at hk; omega))⟩)
  have HW := Aside0.mk (below_step (below_alloc (Below.refl _ _) _) HB.out)
  have HN := Aside0.mk (show xs.length ≤ 6 from by rw [← HF.out.len]; exact fields_le _)
  clear HR HF HB
  go_loopg [4, 19] xs.length (fun kq v4 v19 w' => ∃ i : Nat, i + kq = xs.length ∧ v19 = .int .i64 (i : Int) ∧ v4 = .bool (((fieldsS s.kind).take i).all (Fd.ok s)) ∧ Aside0 (Below w1.heap.size w1 w'))
  case atStart => exact ⟨0, by omega, rfl, rfl, ⟨Below.refl _ _⟩⟩
  case round =>
    obtain ⟨i, hi, rfl, rfl, HB1⟩ := hrel
    cases gk with
    | zero =>
      have hall : (fieldsS s.kind).take i = fieldsS s.kind := List.take_of_length_le (by rw [HL.out.f.len]; omega)
      rw [hall]
      clear hall
      have hlt : decide ((i : Int) < (xs.length : Int)) = false := decide_eq_false (by omega)
      have hlu : decide (i < xs.length) = false := decide_eq_false (by omega)
      have HS3 := Aside0.mk (HS.out.below HB1.out)
      have HL3 := Aside0.mk (HL.out.keep (fun k _ hk => HB1.out.block k hk))
      have HW3 := Aside0.mk (below_step HW.out HB1.out)
      clear HS HL HW HB1
      go_wp2
      clear hi hlt hlu
      go_loopg [32] xs.length (fun kq v32 w' => ∃ j : Nat, j + kq = xs.length ∧ v32 = .int .i64 (j : Int) ∧ Aside0 (At w' w.heap.size (clrAll ((fieldsS s.kind).take j) s)) ∧ Aside0 (Ls w.heap.size w' (some ad) c (fieldsS s.kind) xs) ∧ Aside0 (Below w.heap.size w w'))
      case atStart => exact ⟨0, by omega, rfl, HS3, HL3, HW3⟩
      case round =>
        obtain ⟨j, hj, rfl, HS2, HL2, HB2⟩ := hrel
        cases gk with
        | zero =>
          have hall : (fieldsS s.kind).take j = fieldsS s.kind := List.take_of_length_le (by rw [HL2.out.f.len]; omega)
          rw [hall] at HS2
          clear hall
          have hlt : decide ((j : Int) < (xs.length : Int)) = false := decide_eq_false (by omega)
          have hlu : decide (j < xs.length) = false := decide_eq_false (by omega)
          obtain ⟨t, ht⟩ : ∃ t, t = clrAll (fieldsS s.kind) s := ⟨_, rfl⟩
          rw [← ht] at HS2
          have HT := Aside0.mk ht
          clear ht
          obtain ⟨b, hb⟩ : ∃ b, b = (fieldsS s.kind).all (Fd.ok s) := ⟨_, rfl⟩
          rw [← hb]
          have HBB := Aside0.mk hb
          clear hb
          have q0 := HS2.out.kind
          have q1 := HS2.out.int .circuit
          have q2 := HS2.out.int .ref
          have q3 := HS2.out.int .hops
          have q4 := HS2.out.int .cause
          have q5 := HS2.out.str .called
          have q6 := HS2.out.str .calling
          have q7 := HS2.out.str .digits
          have q8 := HS2.out.bool .emergency
          have q9 := HS2.out.bool .reverse
          simp only [IF.off, IF.get, SF.off, SF.get, BF.off, BF.get] at q1 q2 q3 q4 q5 q6 q7 q8 q9
          cases b
          · go_wp2
            go_ret
            refine ⟨?_, HB2.out⟩
            unfold checkS validS_
            rw [← HBB.out]
            simp
          · go_wp2
            · rename_i hh
              go_ret
              refine ⟨?_, HB2.out⟩
              have hb : bare t = false := by
                have hn : noStr.toList = [] := toList_nil.2 rfl
                unfold bare
                rw [hn]
                simp at hh ⊢
                intro a b c d e f g h
                simpa [a, b, c, d, e, f, g, h] using hh
              unfold checkS validS_
              rw [← HT.out, hb]
              simp
            · rename_i hh
              go_ret
              refine ⟨?_, HB2.out⟩
              have hb : bare t = true := by
                have hn : noStr.toList = [] := toList_nil.2 rfl
                unfold bare
                rw [hn]
                simp at hh ⊢
                exact hh
              unfold checkS validS_
              rw [← HT.out, ← HBB.out, HK.out, hb]
              rfl
        | succ k2 =>
          obtain ⟨d, hd, hf⟩ := HL2.out.get (i := j) (by omega)
          obtain ⟨ad', e, c0, c1, c2, c3⟩ := HL2.out.cell (j : Int) (by omega) (by omega)
          cases e
          rw [Int.toNat_natCast] at c0 c1 c2 c3
          have eg := fd_enters3 hf
          generalize xs.getD j zF = x at hf c0 c1 c2 c3 eg
          have HF2 := Aside0.mk hf
          have HD := Aside0.mk hd
          clear hf hd
          have hq : (j : Int) < (xs.length : Int) := by omega
          have hlt := decide_eq_true hq
          go_wp2_with (refine (fd_clear (HS2.out.below (below_alloc (Below.refl _ _) _)) (HF2.out.below (below_alloc (Below.refl _ _) _))).mono ?_; rintro e w3 ⟨rfl, hcl⟩; have HC := Aside0.mk hcl; clear hcl)
          go_roundg k2
          case measure => omega
          case rel =>
            exact ⟨j + 1, by omega, by have e1 : wrap64 ((j : Int) + 1) = ((j + 1 : Nat) : Int) := (by have := HN.out; unfold wrap64; omega); rw [e1], ⟨by rw [clr_take HD.out]; exact HC.out.at_⟩, ⟨(HL2.out.keep (fun k _ hk => Below.heap_alloc _ _ k hk)).keep (fun k hk _ => HC.out.blk k hk)⟩, ⟨(below_step HB2.out (below_alloc (Below.refl _ _) _)).trans (HC.out.below _ (Nat.le_refl _))⟩⟩
    | succ k1 =>
      have hL2 := HL.out.keep (fun k _ hk => HB1.out.block k hk)
      have HS2 := Aside0.mk (HS.out.below HB1.out)
      obtain ⟨d, hd, hf⟩ := hL2.get (i := i) (by omega)
      obtain ⟨ad', e, c0, c1, c2, c3⟩ := hL2.cell (i : Int) (by omega) (by omega)
      cases e
      rw [Int.toNat_natCast] at c0 c1 c2 c3
      have eg := fd_enters0 hf
      generalize xs.getD i zF = x at hf c0 c1 c2 c3 eg
      have HF2 := Aside0.mk hf
      have HD := Aside0.mk hd
      clear hL2 hf hd
      have hq : (i : Int) < (xs.length : Int) := by omega
      have hlt := decide_eq_true hq
      by_cases hb : ((fieldsS s.kind).take i).all (Fd.ok s) = true
      · rw [hb]
        have HA := Aside0.mk hb
        clear hb
        go_wp2_with (refine (fd_valid (HS2.out.below (below_alloc (Below.refl _ _) _)) (HF2.out.below (below_alloc (Below.refl _ _) _))).mono ?_; rintro e w3 ⟨rfl, hb⟩; have HB3 := Aside0.mk hb; clear hb)
        go_roundg k1
        case measure => omega
        case rel =>
          have e1 : wrap64 ((i : Int) + 1) = ((i + 1 : Nat) : Int) := by have := HN.out; unfold wrap64; omega
          exact ⟨i + 1, by omega, by rw [e1], by rw [all_take HD.out, HA.out, Bool.true_and], ⟨below_step (below_step HB1.out (below_alloc (Below.refl _ _) _)) HB3.out⟩⟩
      · have hb := Bool.eq_false_iff.2 hb
        rw [hb]
        have HA := Aside0.mk hb
        clear hb
        go_wp2
        go_roundg k1
        case measure => omega
        case rel =>
          have e1 : wrap64 ((i : Int) + 1) = ((i + 1 : Nat) : Int) := by have := HN.out; unfold wrap64; omega
          exact ⟨i + 1, by omega, by rw [e1], by rw [all_take HD.out, HA.out, Bool.false_and], ⟨below_step HB1.out (below_alloc (Below.refl _ _) _)⟩⟩

theorem check_calls (s : Sig) (w : World) : Calls Try.prog 41 #[.agg s.cells] w fun e w' => e = .returned (.int .i64 (checkS s)) ∧ Below w.heap.size w w' := by
  cases h : known s.kind
  · have e : checkS s = 110 := by unfold checkS validS_; rw [h]; rfl
    rw [e]
    exact check_bad s w h
  · exact check_good s w h
end Go.Proofs.Ythemnajgdoambaa.Iq
/-
  isup.Encode, by hand: what a field's put appends.
-/
namespace Go.Proofs.Ythemnajgdoambaa.Iq
open Go.RowKit Go.Shelf Go.Proofs.YthemnajgdoambaaW.PrintWords Go.Proofs.YthemnajgdoambaaW.PrintLast Go.Proofs.YthemnajgdoambaaW.PrintMore Go.Proofs.Ythemnajgdoambaa.Is Go.Proofs.Ythemnajgdoambaa.Vm Go.Proofs.Ythemnajgdoambaa.Iv
set_option linter.unusedVariables false
set_option linter.unusedSimpArgs false

def Fd.bytes (s : Sig) : Fd → List Int
  | .int f _ _ => enc (f.get s).toNat
  | .addr f _ => enc (f.get s).size ++ bytesOf (f.get s)
  | .bool f => [if f.get s then 1 else 0]
/-- The fields' numbers are small. -/
def Fd.low : Fd → Prop
  | .int _ lo hi => 0 ≤ lo ∧ hi ≤ 1099511627776
  | .addr _ _ => True
  | .bool _ => True

def By (w : World) (base : Nat) (v : Value) (l : List Int) : Prop := Kd.R (Kd.int .u8) 5 w base (fun _ => True) v l
/-- What a put leaves. -/
def Pu (base : Nat) (w : World) (e : Ending) (w' : World) (l : List Int) : Prop := ∃ v', e = .returned v' ∧ By w' base v' l ∧ Below base w w'

theorem wrap_u64 (n : Nat) (h : n < 18446744073709551616) : IntKind.u64.wrap (n : Int) = (n : Int) := by rw [u64w]; omega

set_option maxHeartbeats 4000000 in
theorem int_put (f : IF) (S bo : Nat) (ok : Nat → Prop) (s : Sig) (w : World) (hs : At w S s) (ho : Bx ok w bo (.func (.func f.fn) #[] #[]) 98) (h0 : 0 ≤ f.get s) (h1 : f.get s ≤ 1099511627776)
    (base : Nat) (v : Value) (l : List Int) (hr : By w base v l) (hb : base ≤ w.heap.size) (hl : l.length ≤ 10000) :
    Calls Try.prog 75 #[v, pt S, pt bo] w fun e w' => Pu base w e w' (l ++ enc (f.get s).toNat) := by
  have ho := ho.cell
  have hx := hs.int f
  have eg := ienters f
  obtain ⟨n, hn⟩ : ∃ n : Nat, f.get s = (n : Int) := ⟨(f.get s).toNat, by omega⟩
  rw [hn] at hx h1 ⊢
  rw [Int.toNat_natCast]
  have hnb : n < 18446744073709551616 := by omega
  have HW := Aside0.mk (wrap_u64 n hnb)
  have HR := Aside0.mk hr
  obtain ⟨A, c, rfl⟩ := Kd.R_slice hr
  obtain ⟨_, hc, hC⟩ := Kd.R_reads' hr
  have HA := Aside0.mk (varint_AppendUint.calls 10 A c l (n : Int) _ w hC hc (appendUint_eq 10 l n (Nat.le_refl _) (by omega) hnb))
  have HZ := Aside0.mk hb
  unfold pt
  clear hr hc hC hn h0 h1 hnb hb hl
  go_enter Try.func75, Try.ntmps75
  go_wp2_with (first | (go_at_call 76; rw [HW.out]; refine HA.out.mono ?_; rintro e w1 ⟨v1, rfl, hr1, hb1⟩; have HR1 := Aside0.mk hr1; have HB1 := Aside0.mk hb1; clear hr1 hb1) | ((with_reducible refine (igetter f S _).mono ?_); rintro e w' ⟨rfl, rfl⟩))
  go_ret
  exact ⟨v1, rfl, Kd.R_lower HR1.out HZ.out, HB1.out.mono HZ.out⟩

theorem bytesOf_ok (s : ByteArray) : Bytes (bytesOf s) := by
  intro c hc
  unfold bytesOf at hc
  obtain ⟨b, _, rfl⟩ := List.mem_map.1 hc
  have := b.toNat_lt
  omega
theorem str_bytes (s : ByteArray) : strOfNums (bytesOf s) = s := by
  have h : (strOfNums (bytesOf s)).data.toList = s.data.toList := by
    rw [strOfNums_data]
    unfold bytesOf
    rw [List.map_map]
    conv => rhs; rw [← List.map_id s.data.toList]
    refine List.map_congr_left (fun b _ => ?_)
    simp
  have h2 : (strOfNums (bytesOf s)).data = s.data := Array.toList_inj.1 h
  exact ByteArray.ext h2

set_option maxHeartbeats 4000000 in
theorem addr_put (f : SF) (S bo : Nat) (ok : Nat → Prop) (s : Sig) (w : World) (hs : At w S s) (ho : Bx ok w bo (.func (.func f.fn) #[] #[]) 101) (h1 : (f.get s).size ≤ 15)
    (base : Nat) (v : Value) (l : List Int) (hr : By w base v l) (hb : base ≤ w.heap.size) (hl : l.length ≤ 10000) :
    Calls Try.prog 82 #[v, pt S, pt bo] w fun e w' => Pu base w e w' (l ++ (enc (f.get s).size ++ bytesOf (f.get s))) := by
  have ho := ho.cell
  have hx := hs.str f
  have eg := senters f
  have HR := Aside0.mk hr
  obtain ⟨A, c, rfl⟩ := Kd.R_slice hr
  obtain ⟨_, hc, hC⟩ := Kd.R_reads' hr
  have e1 := appendString_eq 10 l (bytesOf (f.get s)) (Nat.le_refl _) (bytesOf_ok _) (by rw [bytesOf_length]; omega)
  rw [str_bytes, bytesOf_length] at e1
  have HA := Aside0.mk (varint_AppendString.calls 10 A c l (f.get s) _ w hC hc e1)
  have HZ := Aside0.mk hb
  unfold pt
  clear hr hc hC h1 hb hl e1
  go_enter Try.func82, Try.ntmps82
  go_wp2_with (first | (go_at_call 83; refine HA.out.mono ?_; rintro e w1 ⟨v1, rfl, hr1, hb1⟩; have HR1 := Aside0.mk hr1; have HB1 := Aside0.mk hb1; clear hr1 hb1) | ((with_reducible refine (sgetter f S _).mono ?_); rintro e w' ⟨rfl, rfl⟩))
  go_ret
  exact ⟨v1, rfl, Kd.R_lower HR1.out HZ.out, HB1.out.mono HZ.out⟩

set_option maxHeartbeats 4000000 in
theorem bool_put (f : BF) (S bo : Nat) (ok : Nat → Prop) (s : Sig) (w : World) (hs : At w S s) (ho : Bx ok w bo (.func (.func f.fn) #[] #[]) 104)
    (base : Nat) (v : Value) (l : List Int) (hr : By w base v l) (hb : base ≤ w.heap.size) (hl : l.length ≤ 10000) :
    Calls Try.prog 88 #[v, pt S, pt bo] w fun e w' => Pu base w e w' (l ++ [if f.get s then 1 else 0]) := by
  have ho := ho.cell
  have hx := hs.bool f
  have eg := benters f
  have HR := Aside0.mk hr
  have HZ := Aside0.mk hb
  have HL := Aside0.mk hl
  unfold pt
  clear hr hb hl
  cases hv : f.get s
  · rw [hv] at hx
    go_enter Try.func88, Try.ntmps88
    go_wp2_with (first | ((with_reducible refine gate_dst (N := 16) rfl ?_); go_loud (refine Kd.R_append (Kd.int .u8) (w0 := w) base rfl (.tmp 14) (.tmp 15) 42 5 (.int .u8 0) 1 rfl Try.underlying42 info5 rfl (by decide) (by omega) v l 0 [.int .u8 0] (fun _ => True) (fun _ => False) rfl rfl rfl (fun _ hk => hk.elim) (fun _ _ => trivial) HR.out (Below.refl _ _) HZ.out (by have := HL.out; omega) ?_; intro v1 w1 ho1 hb1 hg hat; have HO := Aside0.mk ho1; have HB1 := Aside0.mk hb1; clear ho1 hb1 hg hat)) | ((with_reducible refine (bgetter f S _).mono ?_); rintro e w' ⟨rfl, hw⟩; replace hw := hw.symm; subst hw))
    go_ret
    exact ⟨v1, rfl, HO.out, HB1.out⟩
  · rw [hv] at hx
    go_enter Try.func88, Try.ntmps88
    go_wp2_with (first | ((with_reducible refine gate_dst (N := 13) rfl ?_); go_loud (refine Kd.R_append (Kd.int .u8) (w0 := w) base rfl (.tmp 11) (.tmp 12) 42 5 (.int .u8 0) 1 rfl Try.underlying42 info5 rfl (by decide) (by omega) v l 1 [.int .u8 1] (fun _ => True) (fun _ => False) rfl rfl rfl (fun _ hk => hk.elim) (fun _ _ => trivial) HR.out (Below.refl _ _) HZ.out (by have := HL.out; omega) ?_; intro v1 w1 ho1 hb1 hg hat; have HO := Aside0.mk ho1; have HB1 := Aside0.mk hb1; clear ho1 hb1 hg hat)) | ((with_reducible refine (bgetter f S _).mono ?_); rintro e w' ⟨rfl, hw⟩; replace hw := hw.symm; subst hw))
    go_ret
    exact ⟨v1, rfl, HO.out, HB1.out⟩

variable {w : World} {S : Nat} {s : Sig} {ok : Nat → Prop} {d : Fd} {x : SFd}
theorem ok_size {f : SF} {e : EF} (h : Fd.ok s (.addr f e) = true) : (f.get s).size ≤ 15 := by
  unfold Fd.ok validS at h
  simp only [Bool.or_eq_true, Bool.and_eq_true, decide_eq_true_eq] at h
  rcases h with h | h
  · have := h.1.2; omega
  · rw [h.1]; decide
theorem ok_num {f : IF} {lo hi : Int} (h : Fd.ok s (.int f lo hi) = true) (hl : Fd.low (.int f lo hi)) : 0 ≤ f.get s ∧ f.get s ≤ 1099511627776 := by
  unfold Fd.ok at h
  unfold Fd.low at hl
  simp only [Bool.and_eq_true, decide_eq_true_eq] at h
  omega
theorem bytes_len (h : d.ok s = true) (hl : d.low) : (d.bytes s).length ≤ 26 := by
  cases d with
  | int f lo hi =>
    obtain ⟨h0, h1⟩ := ok_num h hl
    have := enc_len10 (v := (f.get s).toNat) (by omega)
    show (enc _).length ≤ 26
    omega
  | addr f e =>
    have h1 := ok_size h
    have := enc_len10 (v := (f.get s).size) (by omega)
    show (enc _ ++ bytesOf _).length ≤ 26
    rw [List.length_append, bytesOf_length]
    omega
  | bool f => simp [Fd.bytes]
theorem fd_put (hs : At w S s) (hf : FOk ok w d x) (hd : d.ok s = true) (hl : d.low) (base : Nat) (v : Value) (l : List Int) (hr : By w base v l) (hb : base ≤ w.heap.size) (hn : l.length ≤ 10000) :
    Calls Try.prog x.f1.fn (#[v, pt S] ++ x.f1.cap) w fun e w' => Pu base w e w' (l ++ d.bytes s) := by
  cases d with
  | int f lo hi => obtain ⟨bo, bf, bt, h1, h2, h3, rfl⟩ := hf; obtain ⟨q0, q1⟩ := ok_num hd hl; exact int_put f S bo ok s w hs h1 q0 q1 base v l hr hb hn
  | addr f e => obtain ⟨bo, be, h1, h2, rfl⟩ := hf; exact addr_put f S bo ok s w hs h1 (ok_size hd) base v l hr hb hn
  | bool f => obtain ⟨bo, h1, rfl⟩ := hf; exact bool_put f S bo ok s w hs h1 base v l hr hb hn
theorem fd_enters1 (hf : FOk ok w d x) : ∀ args W, (callFunc x.f1.fn args).run Try.prog W = .ok (.enter x.f1.fn args) W := by
  cases d with
  | int f lo hi => obtain ⟨bo, bf, bt, h1, h2, h3, rfl⟩ := hf; exact enters_of Try.func75 (by kernel_rfl) rfl
  | addr f e => obtain ⟨bo, be, h1, h2, rfl⟩ := hf; exact enters_of Try.func82 (by kernel_rfl) rfl
  | bool f => obtain ⟨bo, h1, rfl⟩ := hf; exact enters_of Try.func88 (by kernel_rfl) rfl
theorem more_low (kind : Int) : ∀ d ∈ moreS kind, d.low := by
  unfold moreS
  split
  · intro d hd; simp at hd; rcases hd with rfl | rfl | rfl | rfl <;> simp [Fd.low]
  split
  · intro d hd; simp at hd; subst hd; simp [Fd.low]
  split
  · intro d hd; simp at hd; subst hd; simp [Fd.low]
  split
  · intro d hd; simp at hd; subst hd; simp [Fd.low]
  · intro d hd; simp at hd
theorem fields_low (kind : Int) : ∀ d ∈ fieldsS kind, d.low := by
  unfold fieldsS
  split
  · intro d hd; simp at hd; subst hd; simp [Fd.low]
  · intro d hd
    simp only [List.cons_append, List.nil_append, List.mem_cons] at hd
    rcases hd with rfl | rfl | hd
    · simp [Fd.low]
    · simp only [Fd.low, leastS]; split <;> omega
    · exact more_low kind d hd
def encS (s : Sig) : List Int := if validS_ s then s.kind :: (fieldsS s.kind).flatMap (Fd.bytes s) else []
theorem flat_take {l : List Fd} {i : Nat} {d : Fd} (h : l[i]? = some d) (s : Sig) : (l.take (i + 1)).flatMap (Fd.bytes s) = (l.take i).flatMap (Fd.bytes s) ++ d.bytes s := by
  rw [List.take_add_one, h]
  simp
end Go.Proofs.Ythemnajgdoambaa.Iq
/-
  isup.Encode, by hand: its contract.
-/
namespace Go.Proofs.Ythemnajgdoambaa.Iq
open Go.RowKit Go.Shelf Go.Proofs.YthemnajgdoambaaW.PrintWords Go.Proofs.YthemnajgdoambaaW.PrintLast Go.Proofs.YthemnajgdoambaaW.PrintMore Go.Proofs.Ythemnajgdoambaa.Is Go.Proofs.Ythemnajgdoambaa.Vm Go.Proofs.Ythemnajgdoambaa.Iv
set_option linter.unusedVariables false
set_option linter.unusedSimpArgs false

/-- What Encode leaves. -/
def En (w : World) (e : Ending) (w' : World) (s : Sig) : Prop := ∃ v, e = .returned (.tuple #[v, .int .i64 (checkS s)]) ∧ By w' w.heap.size v (encS s) ∧ Below w.heap.size w w'

set_option maxHeartbeats 4000000 in
theorem encode_bad (s : Sig) (w : World) (h : validS_ s = false) : Calls Try.prog 20 #[.agg s.cells] w fun e w' => En w e w' s := by
  have e1 : checkS s = 110 := by unfold checkS; rw [h]; rfl
  have e2 : encS s = [] := by unfold encS; rw [h]; rfl
  unfold En
  rw [e1, e2]
  have HC := Aside0.mk (check_calls s)
  rw [e1] at HC
  unfold Sig.cells at HC ⊢
  clear h e1 e2
  go_enter Try.func20, Try.ntmps20
  go_wp2_with (go_at_call 41; refine (HC.out _).mono ?_; rintro e w1 ⟨rfl, hb⟩; have HB := Aside0.mk (below_step (below_alloc (Below.refl _ _) _) hb); clear hb)
  exact bodyPost_ret (v := .tuple #[.slice none 0 0, .int .i64 110]) (by simp [results, Try.results20, go_sem]) rfl ⟨_, rfl, Kd.R_nil _ _ _ _ _, HB.out⟩

set_option maxHeartbeats 8000000 in
set_option maxRecDepth 100000 in
theorem encode_good (s : Sig) (w : World) (h : validS_ s = true) : Calls Try.prog 20 #[.agg s.cells] w fun e w' => En w e w' s := by
  have e1 : checkS s = 0 := by unfold checkS; rw [h]; rfl
  have e2 : encS s = s.kind :: (fieldsS s.kind).flatMap (Fd.bytes s) := by unfold encS; rw [h]; rfl
  have hv := h
  unfold validS_ at hv
  simp only [Bool.and_eq_true] at hv
  obtain ⟨hk, hok, _⟩ := hv
  have HK := Aside0.mk hk
  have HOK := Aside0.mk (List.all_eq_true.1 hok)
  unfold En
  rw [e1, e2]
  have HC := Aside0.mk (check_calls s)
  rw [e1] at HC
  have hwr : IntKind.u8.wrap s.kind = s.kind := by
    unfold known at hk
    simp only [Bool.and_eq_true, decide_eq_true_eq] at hk
    simp [IntKind.wrap, IntKind.bits, IntKind.signed]
    omega
  unfold Sig.cells at HC
  have hcells : s.cells = #[.int .i64 s.kind, .int .i64 s.circuit, .int .i64 s.ref, .int .i64 s.hops, .int .i64 s.cause, .string s.called, .string s.calling, .string s.digits, .bool s.emergency, .bool s.reverse] := rfl
  rw [hcells]
  clear hcells h hk hok e1 e2
  go_enter Try.func20, Try.ntmps20
  go_wp2_with (first
    | (go_at_call 41; refine (HC.out _).mono ?_; rintro e w1 ⟨rfl, hb⟩; have HS := Aside0.mk (At.below (S := w.heap.size) (s := s) (w := w.alloc (.cells s.cells 46)) (hp_new rfl) hb); have HW := Aside0.mk (below_step (below_alloc (Below.refl _ _) _) hb); have hkc := HS.out.kind; clear hb)
    | (go_at_call 42; refine (fields_calls _ _ HK.out).mono ?_; rintro e w2 ⟨v, xs, rfl, hr, hf, hb⟩; have hp := fields_pos s.kind; rw [hf.len] at hp; obtain ⟨ad, c, rfl⟩ := Kd.R_slice1 hr hp; have n1 := Aside0.mk (HS.out.below hb); have n2 := Aside0.mk (below_step HW.out hb); have hS := HS.out.lt; have HL := Aside0.mk (show Ls w.heap.size w2 (some ad) c (fieldsS s.kind) xs from ⟨Kd.R_lower (Kd.R_mono (Kd.R_bound hr) (fun k hk => by have := hk.2.1; omega)) (Nat.zero_le _), hf.imp (fun _ _ hf => hf.mono (fun k hk _ => by have h3 : w1.heap.size ≤ k := hk; omega))⟩); have HN := Aside0.mk (show xs.length ≤ 6 from by rw [← hf.len]; exact fields_le _); clear HS HW hr hf hb hp hS hkc; have HS := n1; have HW := n2; have hkc := HS.out.kind; clear n1 n2)
    | ((with_reducible refine gate_dst (N := 24) rfl ?_); refine Kd.R_lit (Kd.int .u8) _ 5 ?hg (N := 24) ?hd (xs := [s.kind]) (inner := [.int .u8 s.kind]) (ok := fun _ => True) (okp := fun _ => True) ?hr ?hp (fun _ hk => hk) trivial (Below.refl _ _) (Nat.le_refl _) (by simp) ?_; (case hd => rfl); (case hg => rfl); (case hr => first | (go_simp; done) | (go_simp; rfl)); (case hp => exact Reps.one rfl (Reps.none _ _)); intro v3 w3 ho hb hg_ hnew_; have HO := Aside0.mk ho; have HB := Aside0.mk hb; clear ho hb hg_ hnew_))
  go_loopg [7, 27] xs.length (fun kq v7 v27 w' => ∃ i : Nat, i + kq = xs.length ∧ v27 = .int .i64 (i : Int) ∧ Aside0 (By w' w2.heap.size v7 (s.kind :: ((fieldsS s.kind).take i).flatMap (Fd.bytes s))) ∧ Aside0 (Below w2.heap.size w2 w') ∧ Aside0 ((((fieldsS s.kind).take i).flatMap (Fd.bytes s)).length ≤ 26 * i))
  case atStart => exact ⟨0, by omega, rfl, HO, HB, ⟨by simp⟩⟩
  case round =>
    clear HO HB
    obtain ⟨i, hi, rfl, HY, HB1, HLe⟩ := hrel
    cases gk with
    | zero =>
      have hall : (fieldsS s.kind).take i = fieldsS s.kind := List.take_of_length_le (by rw [HL.out.f.len]; omega)
      rw [hall] at HY
      clear hall
      have hlt : decide ((i : Int) < (xs.length : Int)) = false := decide_eq_false (by omega)
      have hlu : decide (i < xs.length) = false := decide_eq_false (by omega)
      go_wp2
      exact bodyPost_ret (v := .tuple #[u7, .int .i64 0]) (by simp [results, Try.results20, go_sem]) rfl ⟨_, rfl, Kd.R_lower HY.out (below_size HW.out), below_step HW.out HB1.out⟩
    | succ k1 =>
      have hL2 := HL.out.keep (fun k _ hk => HB1.out.block k hk)
      have HS2 := Aside0.mk (HS.out.below HB1.out)
      obtain ⟨d, hd, hf⟩ := hL2.get (i := i) (by omega)
      obtain ⟨ad', e, c0, c1, c2, c3⟩ := hL2.cell (i : Int) (by omega) (by omega)
      cases e
      rw [Int.toNat_natCast] at c0 c1 c2 c3
      have eg := fd_enters1 hf
      generalize xs.getD i zF = x at hf c0 c1 c2 c3 eg
      have HF2 := Aside0.mk hf
      have HD := Aside0.mk hd
      have hm := List.mem_of_getElem? hd
      have HDo := Aside0.mk (HOK.out d hm)
      have HDl := Aside0.mk (fields_low _ d hm)
      clear hL2 hf hd hm
      have hq : (i : Int) < (xs.length : Int) := by omega
      have hlt := decide_eq_true hq
      go_wp2_with (refine (fd_put (HS2.out.below (below_alloc (Below.refl _ _) _)) (HF2.out.below (below_alloc (Below.refl _ _) _)) HDo.out HDl.out w2.heap.size _ _ (Kd.R_alloc HY.out _) ?hb ?hn).mono ?_; (case hb => rw [World.size_alloc]; have := HB1.out.size; omega); (case hn => have := HLe.out; have := HN.out; simp only [List.length_cons]; omega); rintro e w4 ⟨v4, rfl, hy, hb⟩; have HY4 := Aside0.mk hy; have HB4 := Aside0.mk hb; clear hy hb)
      go_roundg k1
      case measure => omega
      case rel =>
        have e1 : wrap64 ((i : Int) + 1) = ((i + 1 : Nat) : Int) := by have := HN.out; unfold wrap64; omega
        exact ⟨i + 1, by omega, by rw [e1], ⟨by rw [flat_take HD.out]; exact HY4.out⟩, ⟨(HB1.out.alloc HB1.out.size _).trans HB4.out⟩, ⟨by rw [flat_take HD.out, List.length_append]; have := bytes_len HDo.out HDl.out; have := HLe.out; omega⟩⟩

theorem encode_calls (s : Sig) (w : World) : Calls Try.prog 20 #[.agg s.cells] w fun e w' => En w e w' s := by
  cases h : validS_ s
  · exact encode_bad s w h
  · exact encode_good s w h
end Go.Proofs.Ythemnajgdoambaa.Iq
/-
  isup.Decode, by hand: the reader's methods and what a field's get does.
-/
namespace Go.Proofs.Ythemnajgdoambaa.Iq
open Go.RowKit Go.Shelf Go.Proofs.YthemnajgdoambaaW.PrintWords Go.Proofs.YthemnajgdoambaaW.PrintLast Go.Proofs.YthemnajgdoambaaW.PrintMore Go.Proofs.Ythemnajgdoambaa.Is Go.Proofs.Ythemnajgdoambaa.Vm Go.Proofs.Ythemnajgdoambaa.Iv
set_option linter.unusedVariables false
set_option linter.unusedSimpArgs false

/-- The panic of a decoding error. -/
def fail (er : Int) : Ending := .panicked [{ v := .iface 81 (.agg #[.int .i64 er]), recovered := false }]
theorem must_ok (w : World) : Calls Try.prog 96 #[.int .i64 0] w fun e w' => e = .returned (.tuple #[]) ∧ w' = w := by
  go_enter Try.func96, Try.ntmps96
  go_wp2
  go_end0
  exact ⟨rfl, rfl⟩
theorem must_fail (er : Int) (w : World) (h : er ≠ 0) : Calls Try.prog 96 #[.int .i64 er] w fun e w' => e = fail er ∧ w' = w := by
  have h1 : (er != 0) = true := bne_iff_ne.mpr h
  have h2 : (er == 0) = false := beq_eq_false_iff_ne.mpr h
  go_enter Try.func96, Try.ntmps96
  go_wp2
  exact ⟨rfl, rfl, rfl⟩

/-- The reader in memory. -/
def Rd (w : World) (rb : Nat) (A : Option Addr) (c n : Nat) (at_ : Int) (lg : Bool) : Prop := w.heap[rb]? = some (.cells #[.slice A n c, .int .i64 at_, .bool lg] 84 (0, 0))
theorem Rd.cells {w : World} {rb : Nat} {A : Option Addr} {c n : Nat} {at_ : Int} {lg : Bool} (h : Rd w rb A c n at_ lg) :
    w.cell? ⟨rb, 0, none⟩ = some (.slice A n c) ∧ w.cell? ⟨rb, 1, none⟩ = some (.int .i64 at_) ∧ w.cell? ⟨rb, 2, none⟩ = some (.bool lg) ∧ ∀ j, w.frozen? ⟨rb, j, none⟩ = false := by
  unfold Rd at h
  refine ⟨?_, ?_, ?_, fun j => ?_⟩
  · simp [World.cell?, h]
  · simp [World.cell?, h]
  · simp [World.cell?, h]
  · simp [World.frozen?, h]
theorem Rd.setAt {w : World} {rb : Nat} {A : Option Addr} {c n : Nat} {at_ : Int} {lg : Bool} (h : Rd w rb A c n at_ lg) (x : Int) : Rd (w.setCell ⟨rb, 1, none⟩ (.int .i64 x)) rb A c n x lg := by
  unfold Rd at h ⊢
  have hlt := (Array.getElem?_eq_some_iff.1 h).1
  simp [World.setCell, Array.getElem?_modify, h]
theorem Rd.setLg {w : World} {rb : Nat} {A : Option Addr} {c n : Nat} {at_ : Int} {lg : Bool} (h : Rd w rb A c n at_ lg) (x : Bool) : Rd (w.setCell ⟨rb, 2, none⟩ (.bool x)) rb A c n at_ x := by
  unfold Rd at h ⊢
  have hlt := (Array.getElem?_eq_some_iff.1 h).1
  simp [World.setCell, Array.getElem?_modify, h]
/-- Besides block b all of w lies in w'. -/
structure Ch (b : Nat) (w w' : World) : Prop where
  keep : ∀ k, k ≠ b → k < w.heap.size → w'.heap[k]? = w.heap[k]?
  below : Below b w w'
theorem Ch.refl (b : Nat) (w : World) : Ch b w w := ⟨fun _ _ _ => rfl, Below.refl _ _⟩
theorem Ch.set {b : Nat} {w w' : World} (h : Ch b w w') (o : Nat) (v : Value) : Ch b w (w'.setCell ⟨b, o, none⟩ v) :=
  ⟨fun k hk hlt => (Below.heap_setCell w' ⟨b, o, none⟩ v k hk).trans (h.keep k hk hlt), Below.setCell (p := ⟨b, o, none⟩) h.below (Nat.le_refl _) v⟩
theorem Ch.step {b : Nat} {w w' w2 : World} (h : Ch b w w') (hb : Below w'.heap.size w' w2) (hlt : b ≤ w'.heap.size) : Ch b w w2 :=
  ⟨fun k hk hl => (hb.block k (by have := h.below.size; omega)).trans (h.keep k hk hl), h.below.trans (hb.mono hlt)⟩

theorem Ch.drewN (b : Nat) (w : World) (n : Nat) : Ch b w (w.drewN n) :=
  ⟨fun k _ hk => (pw_below_drewN (Below.refl w.heap.size w) n).block k hk, pw_below_drewN (Below.refl b w) n⟩
theorem uint_quiet (A : Option Addr) (c : Nat) (l : List Int) (at_ : Int) (w : World) (hC : Kd.C (Kd.int .u8) w A l.length l) (hc : l.length ≤ c) (hb : Bytes l) (hl : l.length ≤ 140737488351232) (v nx er : Int) (hu : uintS l at_ = (v, nx, er)) (n : Nat) :
    Calls Try.prog 95 #[.slice A l.length c, .int .i64 at_] (w.drewN n) fun e w'' => e = .returned (.tuple #[.int .u64 v, .int .i64 nx, .int .i64 er]) ∧ ∃ m, w'' = w.drewN m :=
  Calls.quiet_of ((varint_Uint.calls 30 A c l at_ v nx er (w.drewN n) (Kd.C_drewN hC n) hc (by rw [uint_eq 30 l at_ (Nat.le_refl _) hb hl, hu])).mono (by rintro e w' ⟨rfl, m, rfl⟩; exact ⟨rfl, m, rfl⟩))
set_option maxHeartbeats 4000000 in
theorem rint_ok (rb : Nat) (A : Option Addr) (c : Nat) (l : List Int) (at_ : Int) (lg : Bool) (w : World) (h : Rd w rb A c l.length at_ lg) (hC : Kd.C (Kd.int .u8) w A l.length l) (hc : l.length ≤ c) (hb : Bytes l) (hl : l.length ≤ 140737488351232)
    (v nx : Int) (hu : uintS l at_ = (v, nx, 0)) (h0 : 0 ≤ v) (h1 : v ≤ 1099511627776) :
    Calls Try.prog 78 #[pt rb] w fun e w' => e = .returned (.int .i64 v) ∧ Rd w' rb A c l.length nx lg ∧ Ch rb w w' := by
  have HR := Aside0.mk h
  have HQ := Aside0.mk (uint_quiet A c l at_ w hC hc hb hl v nx 0 hu)
  obtain ⟨r0, r1, r2, rf⟩ := h.cells
  have hv : decide (v > 1099511627776) = false := decide_eq_false (by omega)
  have hw : wrap64 v = v := by unfold wrap64; omega
  clear h hC hc hb hl hu h0 h1
  unfold pt
  go_enter Try.func78, Try.ntmps78
  go_wp2
  go_quiet ((go_at_call 95; exact HQ.out _))
  go_wp2_with (go_at_call 96; refine (must_ok _).mono ?_; rintro e w' ⟨rfl, rfl⟩)
  go_ret
  exact ⟨by rw [hw]; rfl, Rd.setAt (show Rd (w.drewN nq) rb A c l.length at_ lg from blk_drewN HR.out _) nx, (Ch.drewN rb w nq).set _ _⟩

set_option maxHeartbeats 4000000 in
theorem rint_big (rb : Nat) (A : Option Addr) (c : Nat) (l : List Int) (at_ : Int) (lg : Bool) (w : World) (h : Rd w rb A c l.length at_ lg) (hC : Kd.C (Kd.int .u8) w A l.length l) (hc : l.length ≤ c) (hb : Bytes l) (hl : l.length ≤ 140737488351232)
    (v nx : Int) (hu : uintS l at_ = (v, nx, 0)) (h1 : v > 1099511627776) :
    Calls Try.prog 78 #[pt rb] w fun e w' => e = .returned (.int .i64 0) ∧ Rd w' rb A c l.length nx true ∧ Ch rb w w' := by
  have HR := Aside0.mk h
  have HQ := Aside0.mk (uint_quiet A c l at_ w hC hc hb hl v nx 0 hu)
  obtain ⟨r0, r1, r2, rf⟩ := h.cells
  have hv : decide (v > 1099511627776) = true := decide_eq_true (by omega)
  clear h hC hc hb hl hu h1
  unfold pt
  go_enter Try.func78, Try.ntmps78
  go_wp2
  go_quiet ((go_at_call 95; exact HQ.out _))
  go_wp2_with (go_at_call 96; refine (must_ok _).mono ?_; rintro e w' ⟨rfl, rfl⟩)
  go_ret
  exact ⟨rfl, (Rd.setAt (show Rd (w.drewN nq) rb A c l.length at_ lg from blk_drewN HR.out _) nx).setLg true, ((Ch.drewN rb w nq).set _ _).set _ _⟩

set_option maxHeartbeats 4000000 in
theorem rint_err (rb : Nat) (A : Option Addr) (c : Nat) (l : List Int) (at_ : Int) (lg : Bool) (w : World) (h : Rd w rb A c l.length at_ lg) (hC : Kd.C (Kd.int .u8) w A l.length l) (hc : l.length ≤ c) (hb : Bytes l) (hl : l.length ≤ 140737488351232)
    (v nx er : Int) (hu : uintS l at_ = (v, nx, er)) (h1 : er ≠ 0) :
    Calls Try.prog 78 #[pt rb] w fun e w' => e = fail er ∧ Below w.heap.size w w' := by
  have HR := Aside0.mk h
  have HQ := Aside0.mk (uint_quiet A c l at_ w hC hc hb hl v nx er hu)
  have HE := Aside0.mk h1
  obtain ⟨r0, r1, r2, rf⟩ := h.cells
  clear h hC hc hb hl hu h1
  unfold pt
  go_enter Try.func78, Try.ntmps78
  go_wp2
  go_quiet ((go_at_call 95; exact HQ.out _))
  go_wp2_with (go_at_call 96; refine (must_fail er _ HE.out).mono ?_; rintro e w' ⟨rfl, rfl⟩; unfold fail)
  exact ⟨rfl, rfl, pw_below_drewN (Below.refl _ _) _⟩

set_option maxHeartbeats 4000000 in
theorem rtext_ok (rb : Nat) (A : Option Addr) (c : Nat) (l : List Int) (at_ : Int) (lg : Bool) (w : World) (h : Rd w rb A c l.length at_ lg) (hC : Kd.C (Kd.int .u8) w A l.length l) (hc : l.length ≤ c) (hb : Bytes l) (hl : l.length ≤ 140737488351232)
    (t : List Int) (nx : Int) (hu : seqS l at_ 15 = (t, nx, 0)) :
    Calls Try.prog 85 #[pt rb] w fun e w' => e = .returned (.string (strOfNums t)) ∧ Rd w' rb A c l.length nx lg ∧ Ch rb w w' := by
  have HR := Aside0.mk h
  have HS := Aside0.mk (show varint_String.f 30 l at_ 15 = some (strOfNums t, nx, 0) from by rw [string_eq 30 l at_ 15 (Nat.le_refl _) hb hl (by decide), hu])
  have HC := Aside0.mk hC
  have HL := Aside0.mk hc
  obtain ⟨r0, r1, r2, rf⟩ := h.cells
  clear h hC hc hb hl hu
  unfold pt
  go_enter Try.func85, Try.ntmps85
  go_wp2
  go_region_held3 (fun w' => w'.cell? ⟨rb, 0, none⟩ = some (.slice A l.length c) ∧ w'.cell? ⟨rb, 1, none⟩ = some (.int .i64 at_)) (first | exact ⟨t0, t1⟩ | exact ⟨r0, r1⟩) (first | (go_at_call 99; refine (varint_String.calls 30 A c l at_ 15 (strOfNums t) nx 0 _ (Kd.C_drew HC.out) HL.out HS.out).mono ?_; rintro e w1 ⟨rfl, hb⟩; have t0 := pw_cell_below hb r0; have t1 := pw_cell_below hb r1; have HB := Aside0.mk (below_step (below_drew1 (Below.refl w.heap.size w)) hb); clear hb))
  have HR1 := Aside0.mk (show Rd w1 rb A c l.length at_ lg from (HB.out.block rb (Array.getElem?_eq_some_iff.1 HR.out).1).trans HR.out)
  clear t0 t1 r0 r1 r2 rf
  obtain ⟨r0, r1, r2, rf⟩ := HR1.out.cells
  go_wp2_with (go_at_call 96; refine (must_ok _).mono ?_; rintro e w' ⟨rfl, rfl⟩)
  go_ret
  exact ⟨rfl, HR1.out.setAt nx, ((Ch.refl rb w).step HB.out (Nat.le_of_lt (Array.getElem?_eq_some_iff.1 HR.out).1)).set _ _⟩

set_option maxHeartbeats 4000000 in
theorem rtext_err (rb : Nat) (A : Option Addr) (c : Nat) (l : List Int) (at_ : Int) (lg : Bool) (w : World) (h : Rd w rb A c l.length at_ lg) (hC : Kd.C (Kd.int .u8) w A l.length l) (hc : l.length ≤ c) (hb : Bytes l) (hl : l.length ≤ 140737488351232)
    (t : List Int) (nx er : Int) (hu : seqS l at_ 15 = (t, nx, er)) (h1 : er ≠ 0) :
    Calls Try.prog 85 #[pt rb] w fun e w' => e = fail er ∧ Below w.heap.size w w' := by
  have HR := Aside0.mk h
  have HS := Aside0.mk (show varint_String.f 30 l at_ 15 = some (strOfNums t, nx, er) from by rw [string_eq 30 l at_ 15 (Nat.le_refl _) hb hl (by decide), hu])
  have HC := Aside0.mk hC
  have HL := Aside0.mk hc
  have HE := Aside0.mk h1
  obtain ⟨r0, r1, r2, rf⟩ := h.cells
  clear h hC hc hb hl hu h1
  unfold pt
  go_enter Try.func85, Try.ntmps85
  go_wp2
  go_region_held3 (fun w' => w'.cell? ⟨rb, 0, none⟩ = some (.slice A l.length c) ∧ w'.cell? ⟨rb, 1, none⟩ = some (.int .i64 at_)) (first | exact ⟨t0, t1⟩ | exact ⟨r0, r1⟩) (first | (go_at_call 99; refine (varint_String.calls 30 A c l at_ 15 (strOfNums t) nx er _ (Kd.C_drew HC.out) HL.out HS.out).mono ?_; rintro e w1 ⟨rfl, hb⟩; have t0 := pw_cell_below hb r0; have t1 := pw_cell_below hb r1; have HB := Aside0.mk (below_step (below_drew1 (Below.refl w.heap.size w)) hb); clear hb))
  clear t0 t1 r0 r1 r2 rf
  go_wp2_with (go_at_call 96; refine (must_fail er _ HE.out).mono ?_; rintro e w' ⟨rfl, rfl⟩; unfold fail)
  exact ⟨rfl, rfl, HB.out⟩

set_option maxHeartbeats 4000000 in
theorem rbool_end (rb : Nat) (A : Option Addr) (c n : Nat) (at_ : Int) (lg : Bool) (w : World) (h : Rd w rb A c n at_ lg) (h1 : at_ ≥ (n : Int)) :
    Calls Try.prog 90 #[pt rb] w fun e w' => e = fail 10 ∧ Below w.heap.size w w' := by
  obtain ⟨r0, r1, r2, rf⟩ := h.cells
  have hd : decide (at_ ≥ (n : Int)) = true := decide_eq_true h1
  clear h h1
  unfold pt
  go_enter Try.func90, Try.ntmps90
  go_wp2
  go_quiet (fail)
  go_wp2
  exact ⟨rfl, rfl, pw_below_drewN (Below.refl _ _) _⟩

set_option maxHeartbeats 4000000 in
theorem rbool_ok (rb : Nat) (A : Option Addr) (c : Nat) (l : List Int) (at_ : Int) (lg : Bool) (w : World) (h : Rd w rb A c l.length at_ lg) (hC : Kd.C (Kd.int .u8) w A l.length l) (h0 : 0 ≤ at_) (h1 : at_ < (l.length : Int)) (hl : l.length ≤ 140737488351232) (h2 : rd l at_ ≤ 1) :
    Calls Try.prog 90 #[pt rb] w fun e w' => e = .returned (.bool (rd l at_ == 1)) ∧ Rd w' rb A c l.length (at_ + 1) lg ∧ Ch rb w w' := by
  have HR := Aside0.mk h
  obtain ⟨r0, r1, r2, rf⟩ := h.cells
  have hd : decide (at_ ≥ (l.length : Int)) = false := decide_eq_false (by omega)
  have hg : decide (rd l at_ > 1) = false := decide_eq_false (by omega)
  have hw : wrap64 (at_ + 1) = at_ + 1 := by unfold wrap64; omega
  obtain ⟨ad, cs, e, _, hK, hx⟩ := Kd.C_get hC (0 : Int) at_ h0 h1
  cases e
  have hx0 : w.cell? (ad.add at_.toNat) = some (.int .u8 (rd l at_)) := by
    have hq := hx 0 _ (by rw [show cs = [.int .u8 (l.getD at_.toNat 0)] from hK]; rfl)
    simpa [Kd.int, Kd.scalar, rd] using hq
  have hp := h0
  clear h hC hl h2 hK hx
  unfold pt
  go_enter Try.func90, Try.ntmps90
  go_wp2
  go_quiet (fail)
  go_wp2
  go_quiet (fail)
  go_wp2
  go_ret
  exact ⟨rfl, Rd.setAt (blk_drewN HR.out _) _, (Ch.drewN rb w _).set _ _⟩

set_option maxHeartbeats 4000000 in
theorem rbool_big (rb : Nat) (A : Option Addr) (c : Nat) (l : List Int) (at_ : Int) (lg : Bool) (w : World) (h : Rd w rb A c l.length at_ lg) (hC : Kd.C (Kd.int .u8) w A l.length l) (h0 : 0 ≤ at_) (h1 : at_ < (l.length : Int)) (hl : l.length ≤ 140737488351232) (h2 : rd l at_ > 1) :
    Calls Try.prog 90 #[pt rb] w fun e w' => e = fail 110 ∧ Below rb w w' := by
  have HR := Aside0.mk h
  obtain ⟨r0, r1, r2, rf⟩ := h.cells
  have hd : decide (at_ ≥ (l.length : Int)) = false := decide_eq_false (by omega)
  have hg : decide (rd l at_ > 1) = true := decide_eq_true (by omega)
  obtain ⟨ad, cs, e, _, hK, hx⟩ := Kd.C_get hC (0 : Int) at_ h0 h1
  cases e
  have hx0 : w.cell? (ad.add at_.toNat) = some (.int .u8 (rd l at_)) := by
    have hq := hx 0 _ (by rw [show cs = [.int .u8 (l.getD at_.toNat 0)] from hK]; rfl)
    simpa [Kd.int, Kd.scalar, rd] using hq
  have hp := h0
  clear h hC hl h2 hK hx
  unfold pt
  go_enter Try.func90, Try.ntmps90
  go_wp2
  go_quiet (fail)
  go_wp2
  go_quiet (fail)
  go_wp2
  exact ⟨rfl, rfl, ((Ch.drewN rb w _).set _ _).below⟩

/-! ### get -/
/-- What a field's get makes of the bytes: an error, or the message, the offset and whether a number was too large. -/
def Fd.read (l : List Int) (at_ : Int) (lg : Bool) (s : Sig) : Fd → Int ⊕ (Sig × Int × Bool)
  | .int f _ _ => if (uintS l at_).2.2 = 0 then (if (uintS l at_).1 > 1099511627776 then .inr (f.set s 0, (uintS l at_).2.1, true) else .inr (f.set s (uintS l at_).1, (uintS l at_).2.1, lg)) else .inl (uintS l at_).2.2
  | .addr f _ => if (seqS l at_ 15).2.2 = 0 then .inr (f.set s (strOfNums (seqS l at_ 15).1), (seqS l at_ 15).2.1, lg) else .inl (seqS l at_ 15).2.2
  | .bool f => if at_ ≥ (l.length : Int) then .inl 10 else if rd l at_ > 1 then .inl 110 else .inr (f.set s (rd l at_ == 1), at_ + 1, lg)
def Gt (rb X : Nat) (A : Option Addr) (c n : Nat) (w : World) (e : Ending) (w' : World) : Int ⊕ (Sig × Int × Bool) → Prop
  | .inl er => e = fail er ∧ Below rb w w'
  | .inr (s, at_, lg) => e = .returned (.tuple #[]) ∧ Rd w' rb A c n at_ lg ∧ At w' X s ∧ Below rb w w'

theorem Rd.far {w : World} {rb X : Nat} {A : Option Addr} {c n : Nat} {at_ : Int} {lg : Bool} (h : Rd w rb A c n at_ lg) (hn : rb ≠ X) (o : Nat) (v : Value) : Rd (w.setCell ⟨X, o, none⟩ v) rb A c n at_ lg := (Below.heap_setCell w ⟨X, o, none⟩ v rb hn).trans h
theorem At.ch {w w' : World} {b X : Nat} {s : Sig} (h : At w X s) (hc : Ch b w w') (hn : X ≠ b) : At w' X s := h.blk (hc.keep X hn h.lt)
theorem Ch.far {b X : Nat} {w w' : World} (h : Ch b w w') (hx : b ≤ X) (o : Nat) (v : Value) : Below b w (w'.setCell ⟨X, o, none⟩ v) := Below.setCell (p := ⟨X, o, none⟩) h.below hx v
theorem uint_pos {l : List Int} {at_ v nx : Int} (hb : Bytes l) (h : uintS l at_ = (v, nx, 0)) : 0 ≤ v := by
  obtain ⟨n, _, rfl, _⟩ := uint_canon hb h
  omega

section
variable (rb X bo : Nat) (ok : Nat → Prop) (A : Option Addr) (c : Nat) (l : List Int) (at_ : Int) (lg : Bool) (s : Sig) (w : World)
  (h : Rd w rb A c l.length at_ lg) (hX : At w X s) (hlt : rb < X) (hC : Kd.C (Kd.int .u8) w A l.length l) (hc : l.length ≤ c) (hb : Bytes l) (hl : l.length ≤ 140737488351232)
include h hX hlt hC hc hb hl
set_option maxHeartbeats 4000000 in
theorem int_get (f : IF) (lo hi : Int) (ho : Bx ok w bo (.func (.func f.fn) #[] #[]) 98) :
    Calls Try.prog 77 #[pt rb, pt X, pt bo] w fun e w' => Gt rb X A c l.length w e w' (Fd.read l at_ lg s (.int f lo hi)) := by
  have ho := ho.cell
  have eg := ienters f
  have HX := Aside0.mk hX
  have HT := Aside0.mk hlt
  obtain ⟨v, nx, er, hu⟩ : ∃ v nx er, uintS l at_ = (v, nx, er) := ⟨_, _, _, rfl⟩
  unfold Fd.read
  rw [hu]
  dsimp only
  by_cases he : er = 0
  · subst he
    by_cases hv : v > 1099511627776
    · have HI := Aside0.mk (rint_big rb A c l at_ lg w h hC hc hb hl v nx hu hv)
      rw [if_pos rfl, if_pos hv]
      unfold pt at HI ⊢
      clear h hX hlt hC hc hb hl hu hv
      go_enter Try.func77, Try.ntmps77
      go_wp2_with (first | (go_at_call 78; refine HI.out.mono ?_; rintro e w1 ⟨rfl, hr, hch⟩; have HR1 := Aside0.mk hr; have HC1 := Aside0.mk hch; have HX1 := Aside0.mk (HX.out.ch hch (by have := HT.out; omega)); have q1 := HX1.out.int f; have q2 := HX1.out.frozen; clear hr hch) | ((with_reducible refine (igetter f X _).mono ?_); rintro e w' ⟨rfl, hw⟩; replace hw := hw.symm; subst hw))
      go_end0
      exact ⟨rfl, HR1.out.far (by have := HT.out; omega) _ _, HX1.out.setI f 0, HC1.out.far (Nat.le_of_lt HT.out) _ _⟩
    · have HI := Aside0.mk (rint_ok rb A c l at_ lg w h hC hc hb hl v nx hu (uint_pos hb hu) (by omega))
      rw [if_pos rfl, if_neg hv]
      unfold pt at HI ⊢
      clear h hX hlt hC hc hb hl hu hv
      go_enter Try.func77, Try.ntmps77
      go_wp2_with (first | (go_at_call 78; refine HI.out.mono ?_; rintro e w1 ⟨rfl, hr, hch⟩; have HR1 := Aside0.mk hr; have HC1 := Aside0.mk hch; have HX1 := Aside0.mk (HX.out.ch hch (by have := HT.out; omega)); have q1 := HX1.out.int f; have q2 := HX1.out.frozen; clear hr hch) | ((with_reducible refine (igetter f X _).mono ?_); rintro e w' ⟨rfl, hw⟩; replace hw := hw.symm; subst hw))
      go_end0
      exact ⟨rfl, HR1.out.far (by have := HT.out; omega) _ _, HX1.out.setI f v, HC1.out.far (Nat.le_of_lt HT.out) _ _⟩
  · have HI := Aside0.mk (rint_err rb A c l at_ lg w h hC hc hb hl v nx er hu he)
    have hrb := (Array.getElem?_eq_some_iff.1 h).1
    have HB := Aside0.mk hrb
    rw [if_neg he]
    unfold pt at HI ⊢
    unfold fail at HI
    clear h hX hlt hC hc hb hl hu he hrb
    go_enter Try.func77, Try.ntmps77
    go_wp2_with (first | (go_at_call 78; refine HI.out.mono ?_; rintro e w1 ⟨rfl, hb⟩; have HB1 := Aside0.mk hb; clear hb) | ((with_reducible refine (igetter f X _).mono ?_); rintro e w' ⟨rfl, hw⟩; replace hw := hw.symm; subst hw))
    exact ⟨rfl, rfl, HB1.out.mono (Nat.le_of_lt HB.out)⟩

set_option maxHeartbeats 4000000 in
theorem addr_get (f : SF) (g : EF) (ho : Bx ok w bo (.func (.func f.fn) #[] #[]) 101) :
    Calls Try.prog 84 #[pt rb, pt X, pt bo] w fun e w' => Gt rb X A c l.length w e w' (Fd.read l at_ lg s (.addr f g)) := by
  have ho := ho.cell
  have eg := senters f
  have HX := Aside0.mk hX
  have HT := Aside0.mk hlt
  obtain ⟨v, nx, er, hu⟩ : ∃ v nx er, seqS l at_ 15 = (v, nx, er) := ⟨_, _, _, rfl⟩
  unfold Fd.read
  rw [hu]
  dsimp only
  by_cases he : er = 0
  · subst he
    have HI := Aside0.mk (rtext_ok rb A c l at_ lg w h hC hc hb hl v nx hu)
    rw [if_pos rfl]
    unfold pt at HI ⊢
    clear h hX hlt hC hc hb hl hu
    go_enter Try.func84, Try.ntmps84
    go_wp2_with (first | (go_at_call 85; refine HI.out.mono ?_; rintro e w1 ⟨rfl, hr, hch⟩; have HR1 := Aside0.mk hr; have HC1 := Aside0.mk hch; have HX1 := Aside0.mk (HX.out.ch hch (by have := HT.out; omega)); have q1 := HX1.out.str f; have q2 := HX1.out.frozen; clear hr hch) | ((with_reducible refine (sgetter f X _).mono ?_); rintro e w' ⟨rfl, hw⟩; replace hw := hw.symm; subst hw))
    go_end0
    exact ⟨rfl, HR1.out.far (by have := HT.out; omega) _ _, HX1.out.setS f _, HC1.out.far (Nat.le_of_lt HT.out) _ _⟩
  · have HI := Aside0.mk (rtext_err rb A c l at_ lg w h hC hc hb hl v nx er hu he)
    have hrb := (Array.getElem?_eq_some_iff.1 h).1
    have HB := Aside0.mk hrb
    rw [if_neg he]
    unfold pt at HI ⊢
    unfold fail at HI
    clear h hX hlt hC hc hb hl hu he hrb
    go_enter Try.func84, Try.ntmps84
    go_wp2_with (first | (go_at_call 85; refine HI.out.mono ?_; rintro e w1 ⟨rfl, hb⟩; have HB1 := Aside0.mk hb; clear hb) | ((with_reducible refine (sgetter f X _).mono ?_); rintro e w' ⟨rfl, hw⟩; replace hw := hw.symm; subst hw))
    exact ⟨rfl, rfl, HB1.out.mono (Nat.le_of_lt HB.out)⟩

set_option maxHeartbeats 4000000 in
theorem bool_get (f : BF) (ho : Bx ok w bo (.func (.func f.fn) #[] #[]) 104) (h0 : 0 ≤ at_) :
    Calls Try.prog 89 #[pt rb, pt X, pt bo] w fun e w' => Gt rb X A c l.length w e w' (Fd.read l at_ lg s (.bool f)) := by
  have _ := hc
  have _ := hb
  have ho := ho.cell
  have eg := benters f
  have HX := Aside0.mk hX
  have HT := Aside0.mk hlt
  have hrb := (Array.getElem?_eq_some_iff.1 h).1
  have HB := Aside0.mk hrb
  unfold Fd.read
  dsimp only
  by_cases he : at_ ≥ (l.length : Int)
  · have HI := Aside0.mk (rbool_end rb A c l.length at_ lg w h he)
    rw [if_pos he]
    unfold pt at HI ⊢
    unfold fail at HI
    clear h hX hlt hC hc hb hl he hrb h0
    go_enter Try.func89, Try.ntmps89
    go_wp2_with (first | (go_at_call 90; refine HI.out.mono ?_; rintro e w1 ⟨rfl, hb⟩; have HB1 := Aside0.mk hb; clear hb) | ((with_reducible refine (bgetter f X _).mono ?_); rintro e w' ⟨rfl, hw⟩; replace hw := hw.symm; subst hw))
    exact ⟨rfl, rfl, HB1.out.mono (Nat.le_of_lt HB.out)⟩
  · rw [if_neg he]
    by_cases h2 : rd l at_ > 1
    · have HI := Aside0.mk (rbool_big rb A c l at_ lg w h hC h0 (by omega) hl h2)
      rw [if_pos h2]
      unfold pt at HI ⊢
      unfold fail at HI
      clear h hX hlt hC hc hb hl he hrb h0 h2
      go_enter Try.func89, Try.ntmps89
      go_wp2_with (first | (go_at_call 90; refine HI.out.mono ?_; rintro e w1 ⟨rfl, hb⟩; have HB1 := Aside0.mk hb; clear hb) | ((with_reducible refine (bgetter f X _).mono ?_); rintro e w' ⟨rfl, hw⟩; replace hw := hw.symm; subst hw))
      exact ⟨rfl, rfl, HB1.out⟩
    · have HI := Aside0.mk (rbool_ok rb A c l at_ lg w h hC h0 (by omega) hl (by omega))
      rw [if_neg h2]
      unfold pt at HI ⊢
      clear h hX hlt hC hc hb hl he hrb h0 h2
      go_enter Try.func89, Try.ntmps89
      go_wp2_with (first | (go_at_call 90; refine HI.out.mono ?_; rintro e w1 ⟨rfl, hr, hch⟩; have HR1 := Aside0.mk hr; have HC1 := Aside0.mk hch; have HX1 := Aside0.mk (HX.out.ch hch (by have := HT.out; omega)); have q1 := HX1.out.bool f; have q2 := HX1.out.frozen; clear hr hch) | ((with_reducible refine (bgetter f X _).mono ?_); rintro e w' ⟨rfl, hw⟩; replace hw := hw.symm; subst hw))
      go_end0
      exact ⟨rfl, HR1.out.far (by have := HT.out; omega) _ _, HX1.out.setB f _, HC1.out.far (Nat.le_of_lt HT.out) _ _⟩

theorem fd_get {d : Fd} {x : SFd} (hf : FOk ok w d x) (h0 : 0 ≤ at_) : Calls Try.prog x.f2.fn (#[pt rb, pt X] ++ x.f2.cap) w fun e w' => Gt rb X A c l.length w e w' (d.read l at_ lg s) := by
  cases d with
  | int f lo hi => obtain ⟨bo, bf, bt, h1, h2, h3, rfl⟩ := hf; exact int_get rb X bo ok A c l at_ lg s w h hX hlt hC hc hb hl f lo hi h1
  | addr f e => obtain ⟨bo, be, h1, h2, rfl⟩ := hf; exact addr_get rb X bo ok A c l at_ lg s w h hX hlt hC hc hb hl f e h1
  | bool f => obtain ⟨bo, h1, rfl⟩ := hf; exact bool_get rb X bo ok A c l at_ lg s w h hX hlt hC hc hb hl f h1 h0
end
theorem fd_enters2 {w : World} {ok : Nat → Prop} {d : Fd} {x : SFd} (hf : FOk ok w d x) : ∀ args W, (callFunc x.f2.fn args).run Try.prog W = .ok (.enter x.f2.fn args) W := by
  cases d with
  | int f lo hi => obtain ⟨bo, bf, bt, h1, h2, h3, rfl⟩ := hf; exact enters_of Try.func77 (by kernel_rfl) rfl
  | addr f e => obtain ⟨bo, be, h1, h2, rfl⟩ := hf; exact enters_of Try.func84 (by kernel_rfl) rfl
  | bool f => obtain ⟨bo, h1, rfl⟩ := hf; exact enters_of Try.func89 (by kernel_rfl) rfl
end Go.Proofs.Ythemnajgdoambaa.Iq
/-
  isup.Decode, by hand: the deferred closure.
-/
namespace Go.Proofs.Ythemnajgdoambaa.Iq
open Go.RowKit Go.Shelf Go.Proofs.YthemnajgdoambaaW.PrintWords Go.Proofs.YthemnajgdoambaaW.PrintLast Go.Proofs.YthemnajgdoambaaW.PrintMore Go.Proofs.Ythemnajgdoambaa.Is Go.Proofs.Ythemnajgdoambaa.Vm Go.Proofs.Ythemnajgdoambaa.Iv
set_option linter.unusedVariables false
set_option linter.unusedSimpArgs false

theorem catch_idle (k2 k3 : Nat) (w : World) : CallsD Try.prog 43 #[pt k2, pt k3] .returning w fun e u' w' => e = .returned (.tuple #[]) ∧ u' = .returning ∧ w' = w := by
  unfold pt
  refine callsD_of_wpS Try.func43 rfl fun c₀ cs hu => ?_
  apply wpS_seq
  apply wpS_region
  simp [wpOpsS, go_sem, recoverD, hu, Try.ntmps43, Exit.thenS]
  refine wpS_of_wp ?_
  simp only [Array.replicate_succ, Array.replicate_zero, List.push_toArray, List.append_toArray, List.nil_append, List.cons_append, List.setIfInBounds_toArray, List.set_cons_succ, List.set_cons_zero]
  go_wp2
  cases c₀
  simp_all [bodyPostS, results, Try.results43]

def pv (er : Int) : Value := .iface 81 (.agg #[.int .i64 er])
theorem blk_set {V : World} {k : Nat} {v u : Value} {t : TypeId} (h : V.heap[k]? = some (.cells #[v] t (0, 0))) : (V.setCell ⟨k, 0, none⟩ u).heap[k]? = some (.cells #[u] t (0, 0)) := by
  have hlt := (Array.getElem?_eq_some_iff.1 h).1
  simp [World.setCell, Array.getElem?_modify, h]
theorem set_at {W : World} {k j : Nat} {a : Array Value} {t : TypeId} {v : Value} (h : W.heap[k]? = some (.cells a t (0, 0))) : (W.setCell ⟨k, j, none⟩ v).heap[k]? = some (.cells (a.setIfInBounds j v) t (0, 0)) := by
  have hlt := (Array.getElem?_eq_some_iff.1 h).1
  simp [World.setCell, Array.getElem?_modify, h]
/-- The message's ten cells are written. -/
structure Zd (w W : World) (k : Nat) : Prop where
  at_ : At W k zSig
  below : ∀ B, B ≤ k → Below B w W
  far : ∀ j, j ≠ k → W.heap[j]? = w.heap[j]?
theorem zero10 {w : World} {k : Nat} {s0 : Sig} (h : At w k s0) : Zd w ((((((((((w.setCell ⟨k, 0, none⟩ (.int .i64 0)).setCell ⟨k, 1, none⟩ (.int .i64 0)).setCell ⟨k, 2, none⟩ (.int .i64 0)).setCell ⟨k, 3, none⟩ (.int .i64 0)).setCell ⟨k, 4, none⟩ (.int .i64 0)).setCell ⟨k, 5, none⟩ (.string ⟨#[]⟩)).setCell ⟨k, 6, none⟩ (.string ⟨#[]⟩)).setCell ⟨k, 7, none⟩ (.string ⟨#[]⟩)).setCell ⟨k, 8, none⟩ (.bool false)).setCell ⟨k, 9, none⟩ (.bool false)) k := by
  refine ⟨?_, fun B hB => ?_, fun j hj => ?_⟩
  · unfold At at h ⊢
    unfold Sig.cells at h
    have h0 := set_at (j := 0) (v := .int .i64 0) h
    simp only [List.setIfInBounds_toArray, List.set_cons_zero, List.set_cons_succ] at h0
    have h1 := set_at (j := 1) (v := .int .i64 0) h0
    simp only [List.setIfInBounds_toArray, List.set_cons_zero, List.set_cons_succ] at h1
    have h2 := set_at (j := 2) (v := .int .i64 0) h1
    simp only [List.setIfInBounds_toArray, List.set_cons_zero, List.set_cons_succ] at h2
    have h3 := set_at (j := 3) (v := .int .i64 0) h2
    simp only [List.setIfInBounds_toArray, List.set_cons_zero, List.set_cons_succ] at h3
    have h4 := set_at (j := 4) (v := .int .i64 0) h3
    simp only [List.setIfInBounds_toArray, List.set_cons_zero, List.set_cons_succ] at h4
    have h5 := set_at (j := 5) (v := .string ⟨#[]⟩) h4
    simp only [List.setIfInBounds_toArray, List.set_cons_zero, List.set_cons_succ] at h5
    have h6 := set_at (j := 6) (v := .string ⟨#[]⟩) h5
    simp only [List.setIfInBounds_toArray, List.set_cons_zero, List.set_cons_succ] at h6
    have h7 := set_at (j := 7) (v := .string ⟨#[]⟩) h6
    simp only [List.setIfInBounds_toArray, List.set_cons_zero, List.set_cons_succ] at h7
    have h8 := set_at (j := 8) (v := .bool false) h7
    simp only [List.setIfInBounds_toArray, List.set_cons_zero, List.set_cons_succ] at h8
    have h9 := set_at (j := 9) (v := .bool false) h8
    simp only [List.setIfInBounds_toArray, List.set_cons_zero, List.set_cons_succ] at h9
    rw [h9]
    rfl
  · have st : ∀ (W : World) (o : Nat) (v : Value), Below B w W → Below B w (W.setCell ⟨k, o, none⟩ v) := fun W o v h => Below.setCell (p := ⟨k, o, none⟩) h hB v
    exact st _ _ _ (st _ _ _ (st _ _ _ (st _ _ _ (st _ _ _ (st _ _ _ (st _ _ _ (st _ _ _ (st _ _ _ (st _ _ _ (Below.refl _ _))))))))))
  · have st : ∀ (W : World) (o : Nat) (v : Value), W.heap[j]? = w.heap[j]? → (W.setCell ⟨k, o, none⟩ v).heap[j]? = w.heap[j]? := fun W o v h => (Below.heap_setCell W ⟨k, o, none⟩ v j hj).trans h
    exact st _ _ _ (st _ _ _ (st _ _ _ (st _ _ _ (st _ _ _ (st _ _ _ (st _ _ _ (st _ _ _ (st _ _ _ (st _ _ _ rfl)))))))))
set_option maxHeartbeats 4000000 in
theorem catch_panic (k2 k3 : Nat) (er e0 : Int) (s0 : Sig) (w : World) (h2 : At w k2 s0) (h3 : w.heap[k3]? = some (.cells #[.int .i64 e0] 27 (0, 0))) (hn : k2 < k3) :
    CallsD Try.prog 43 #[pt k2, pt k3] (.panicking [{ v := pv er, recovered := false }]) w fun e u' w' => e = .returned (.tuple #[]) ∧ u' = .panicking [{ v := pv er, recovered := true }] ∧ At w' k2 zSig ∧ w'.cell? ⟨k3, 0, none⟩ = some (.int .i64 er) ∧ Below k2 w w' := by
  unfold pt pv
  have H2 := Aside0.mk h2
  have H3 := Aside0.mk h3
  have hta : ∀ (v : Value) (w : World), (Instr.typeAssert (.iface 81 v) 20 81 true).run Try.prog w = .ok (.tuple #[v, .bool true]) w := fun v w => by kernel_rfl
  have q0 := h2.kind
  have q1 := h2.int .circuit
  have q2 := h2.int .ref
  have q3 := h2.int .hops
  have q4 := h2.int .cause
  have q5 := h2.str .called
  have q6 := h2.str .calling
  have q7 := h2.str .digits
  have q8 := h2.bool .emergency
  have q9 := h2.bool .reverse
  simp only [IF.off, IF.get, SF.off, SF.get, BF.off, BF.get] at q1 q2 q3 q4 q5 q6 q7 q8 q9
  have q10 : w.cell? ⟨k3, 0, none⟩ = some (.int .i64 e0) := by simp [World.cell?, h3]
  have f2 := h2.frozen
  have f3 : ∀ j, w.frozen? ⟨k3, j, none⟩ = false := fun j => by simp [World.frozen?, h3]
  have l2 := h2.lt
  have l3 := (Array.getElem?_eq_some_iff.1 h3).1
  have n2 : k2 ≠ k3 := Nat.ne_of_lt hn
  have n3 : k3 ≠ k2 := Nat.ne_of_gt hn
  have l23 := Nat.le_of_lt hn
  clear h2 h3 hn
  refine callsD_of_wpS Try.func43 rfl fun c₀ cs hu => ?_
  apply wpS_seq
  apply wpS_region
  simp [wpOpsS, go_sem, recoverD, hu, Try.ntmps43, Exit.thenS]
  refine wpS_of_wp ?_
  simp only [Array.replicate_succ, Array.replicate_zero, List.push_toArray, List.append_toArray, List.nil_append, List.cons_append, List.setIfInBounds_toArray, List.set_cons_succ, List.set_cons_zero]
  go_wp2
  go_region
  have HZ := zero10 H2.out
  generalize (((((((((w.setCell ⟨k2, 0, none⟩ (.int .i64 0)).setCell ⟨k2, 1, none⟩ (.int .i64 0)).setCell ⟨k2, 2, none⟩ (.int .i64 0)).setCell ⟨k2, 3, none⟩ (.int .i64 0)).setCell ⟨k2, 4, none⟩ (.int .i64 0)).setCell ⟨k2, 5, none⟩ (.string ⟨#[]⟩)).setCell ⟨k2, 6, none⟩ (.string ⟨#[]⟩)).setCell ⟨k2, 7, none⟩ (.string ⟨#[]⟩)).setCell ⟨k2, 8, none⟩ (.bool false)).setCell ⟨k2, 9, none⟩ (.bool false) = W at HZ ⊢
  have hC := (HZ.far k3 n3).trans H3.out
  have hA := HZ.at_
  have hB := HZ.below k2 (Nat.le_refl _)
  clear HZ
  have hA1 := hp_set (p := ⟨k3, 0, none⟩) (u := .int .i64 er) hA n2
  have hC1 := blk_set (u := .int .i64 er) hC
  have hB1 : Below k2 w (W.setCell ⟨k3, 0, none⟩ (.int .i64 er)) := Below.setCell (p := ⟨k3, 0, none⟩) hB l23 _
  clear hA hC hB
  generalize W.setCell ⟨k3, 0, none⟩ (.int .i64 er) = W1 at hA1 hC1 hB1 ⊢
  have hA2 := hp_alloc (o' := .cells #[.int .i64 er] 81) hA1
  have hC2 := hp_alloc (o' := .cells #[.int .i64 er] 81) hC1
  have hB2 := hB1.alloc (by have := hB1.size; omega) (.cells #[.int .i64 er] 81)
  clear hA1 hC1 hB1
  generalize W1.alloc (.cells #[.int .i64 er] 81) = W2 at hA2 hC2 hB2 ⊢
  have hB3 := below_drew1 hB2
  have hD : W2.drew.cell? ⟨k3, 0, none⟩ = some (.int .i64 er) := by
    have : W2.drew.heap[k3]? = some (.cells #[.int .i64 er] 27 (0, 0)) := hC2
    simp [World.cell?, this]
  have hA3 : At W2.drew k2 zSig := hA2
  generalize W2.drew = W3 at hB3 hD hA3 ⊢
  clear hA2 hC2 hB2 q0 q1 q2 q3 q4 q5 q6 q7 q8 q9 q10 f2 f3 hta
  go_wp2
  simp [bodyPostS, results, Try.results43, hA3, hD, hB3]
end Go.Proofs.Ythemnajgdoambaa.Iq
/-
  isup.Decode, by hand: its contract.
-/
namespace Go.Proofs.Ythemnajgdoambaa.Iq
open Go.RowKit Go.Shelf Go.Proofs.YthemnajgdoambaaW.PrintWords Go.Proofs.YthemnajgdoambaaW.PrintLast Go.Proofs.YthemnajgdoambaaW.PrintMore Go.Proofs.Ythemnajgdoambaa.Is Go.Proofs.Ythemnajgdoambaa.Vm Go.Proofs.Ythemnajgdoambaa.Iv
set_option linter.unusedVariables false
set_option linter.unusedSimpArgs false

def readAll (l : List Int) : List Fd → Sig → Int → Bool → Int ⊕ (Sig × Int × Bool)
  | [], s, at_, lg => .inr (s, at_, lg)
  | d :: ds, s, at_, lg => match d.read l at_ lg s with
    | .inl er => .inl er
    | .inr (s', at', lg') => readAll l ds s' at' lg'
def decS (l : List Int) : Sig × Int :=
  if l.length = 0 then (zSig, 10)
  else if known (rd l 0) = false then (zSig, 110)
  else match readAll l (fieldsS (rd l 0)) { zSig with kind := rd l 0 } 1 false with
    | .inl er => (zSig, er)
    | .inr (s, at_, lg) => if at_ = (l.length : Int) ∧ lg = false ∧ checkS s = 0 then (s, 0) else (zSig, 110)
/-- What Decode leaves. -/
def De (w : World) (e : Ending) (w' : World) (r : Sig × Int) : Prop := e = .returned (.tuple #[.agg r.1.cells, .int .i64 r.2]) ∧ Below w.heap.size w w'

theorem add_zero (ad : Addr) : ad.add 0 = ad := by
  unfold Addr.add
  split <;> simp_all
/-- The two named results (the message, all zero, in block k; the error behind it) in a later world. -/
structure Tw (W : World) (k : Nat) : Prop where
  q0 : W.cell? ⟨k, 0, none⟩ = some (.int .i64 0)
  q1 : W.cell? ⟨k, 1, none⟩ = some (.int .i64 0)
  q2 : W.cell? ⟨k, 2, none⟩ = some (.int .i64 0)
  q3 : W.cell? ⟨k, 3, none⟩ = some (.int .i64 0)
  q4 : W.cell? ⟨k, 4, none⟩ = some (.int .i64 0)
  q5 : W.cell? ⟨k, 5, none⟩ = some (.string ⟨#[]⟩)
  q6 : W.cell? ⟨k, 6, none⟩ = some (.string ⟨#[]⟩)
  q7 : W.cell? ⟨k, 7, none⟩ = some (.string ⟨#[]⟩)
  q8 : W.cell? ⟨k, 8, none⟩ = some (.bool false)
  q9 : W.cell? ⟨k, 9, none⟩ = some (.bool false)
  q10 : W.cell? ⟨k + 1, 0, none⟩ = some (.int .i64 0)
  f2 : ∀ j, W.frozen? ⟨k, j, none⟩ = false
  f3 : ∀ j, W.frozen? ⟨k + 1, j, none⟩ = false
  l2 : k < W.heap.size
  l3 : k + 1 < W.heap.size
theorem tw_of {W : World} {k : Nat} (h : At W k zSig) (h3 : W.heap[k + 1]? = some (.cells #[.int .i64 0] 27 (0, 0))) : Tw W k :=
  ⟨h.kind, h.int .circuit, h.int .ref, h.int .hops, h.int .cause, h.str .called, h.str .calling, h.str .digits, h.bool .emergency, h.bool .reverse, by simp [World.cell?, h3], h.frozen, fun j => by simp [World.frozen?, h3], h.lt, (Array.getElem?_eq_some_iff.1 h3).1⟩
theorem two_at {w w1 : World} (hb : Below ((w.alloc (.cells zSig.cells 46)).alloc (.cells #[.int .i64 0] 27)).heap.size ((w.alloc (.cells zSig.cells 46)).alloc (.cells #[.int .i64 0] 27)) w1) :
    At w1 w.heap.size zSig ∧ w1.heap[w.heap.size + 1]? = some (.cells #[.int .i64 0] 27 (0, 0)) := by
  have s0 : w.heap.size < ((w.alloc (.cells zSig.cells 46)).alloc (.cells #[.int .i64 0] 27)).heap.size := by rw [World.size_alloc, World.size_alloc]; omega
  have s1 : w.heap.size + 1 < ((w.alloc (.cells zSig.cells 46)).alloc (.cells #[.int .i64 0] 27)).heap.size := by rw [World.size_alloc, World.size_alloc]; omega
  exact ⟨(hb.block _ s0).trans (hp_alloc (hp_new rfl)), (hb.block _ s1).trans (hp_new (by rw [World.size_alloc]))⟩
theorem two_blk2 {w w1 : World} (hb : Below ((w.alloc (.cells zSig.cells 46)).alloc (.cells #[.int .i64 0] 27)).heap.size ((w.alloc (.cells zSig.cells 46)).alloc (.cells #[.int .i64 0] 27)) w1) : Tw w1 w.heap.size :=
  tw_of (two_at hb).1 (two_at hb).2

theorem At.ten {w : World} {k : Nat} {s : Sig} (h : At w k s) : w.cell? ⟨k, 0, none⟩ = some (.int .i64 s.kind) ∧ w.cell? ⟨k, 1, none⟩ = some (.int .i64 s.circuit) ∧ w.cell? ⟨k, 2, none⟩ = some (.int .i64 s.ref) ∧ w.cell? ⟨k, 3, none⟩ = some (.int .i64 s.hops) ∧ w.cell? ⟨k, 4, none⟩ = some (.int .i64 s.cause) ∧ w.cell? ⟨k, 5, none⟩ = some (.string s.called) ∧ w.cell? ⟨k, 6, none⟩ = some (.string s.calling) ∧ w.cell? ⟨k, 7, none⟩ = some (.string s.digits) ∧ w.cell? ⟨k, 8, none⟩ = some (.bool s.emergency) ∧ w.cell? ⟨k, 9, none⟩ = some (.bool s.reverse) :=
  ⟨h.kind, h.int .circuit, h.int .ref, h.int .hops, h.int .cause, h.str .called, h.str .calling, h.str .digits, h.bool .emergency, h.bool .reverse⟩
/-- The message's ten cells are written. -/
structure Td (w W : World) (k : Nat) (s : Sig) : Prop where
  at_ : At W k s
  below : ∀ B, B ≤ k → Below B w W
  far : ∀ j, j ≠ k → W.heap[j]? = w.heap[j]?
theorem ten10 {w : World} {k : Nat} {s0 : Sig} (h : At w k s0) (s : Sig) : Td w ((((((((((w.setCell ⟨k, 0, none⟩ (.int .i64 s.kind)).setCell ⟨k, 1, none⟩ (.int .i64 s.circuit)).setCell ⟨k, 2, none⟩ (.int .i64 s.ref)).setCell ⟨k, 3, none⟩ (.int .i64 s.hops)).setCell ⟨k, 4, none⟩ (.int .i64 s.cause)).setCell ⟨k, 5, none⟩ (.string s.called)).setCell ⟨k, 6, none⟩ (.string s.calling)).setCell ⟨k, 7, none⟩ (.string s.digits)).setCell ⟨k, 8, none⟩ (.bool s.emergency)).setCell ⟨k, 9, none⟩ (.bool s.reverse)) k s := by
  refine ⟨?_, fun B hB => ?_, fun j hj => ?_⟩
  · unfold At at h ⊢
    unfold Sig.cells at h
    have h0 := set_at (j := 0) (v := .int .i64 s.kind) h
    simp only [List.setIfInBounds_toArray, List.set_cons_zero, List.set_cons_succ] at h0
    have h1 := set_at (j := 1) (v := .int .i64 s.circuit) h0
    simp only [List.setIfInBounds_toArray, List.set_cons_zero, List.set_cons_succ] at h1
    have h2 := set_at (j := 2) (v := .int .i64 s.ref) h1
    simp only [List.setIfInBounds_toArray, List.set_cons_zero, List.set_cons_succ] at h2
    have h3 := set_at (j := 3) (v := .int .i64 s.hops) h2
    simp only [List.setIfInBounds_toArray, List.set_cons_zero, List.set_cons_succ] at h3
    have h4 := set_at (j := 4) (v := .int .i64 s.cause) h3
    simp only [List.setIfInBounds_toArray, List.set_cons_zero, List.set_cons_succ] at h4
    have h5 := set_at (j := 5) (v := .string s.called) h4
    simp only [List.setIfInBounds_toArray, List.set_cons_zero, List.set_cons_succ] at h5
    have h6 := set_at (j := 6) (v := .string s.calling) h5
    simp only [List.setIfInBounds_toArray, List.set_cons_zero, List.set_cons_succ] at h6
    have h7 := set_at (j := 7) (v := .string s.digits) h6
    simp only [List.setIfInBounds_toArray, List.set_cons_zero, List.set_cons_succ] at h7
    have h8 := set_at (j := 8) (v := .bool s.emergency) h7
    simp only [List.setIfInBounds_toArray, List.set_cons_zero, List.set_cons_succ] at h8
    have h9 := set_at (j := 9) (v := .bool s.reverse) h8
    simp only [List.setIfInBounds_toArray, List.set_cons_zero, List.set_cons_succ] at h9
    rw [h9]
    rfl
  · have st : ∀ (W : World) (o : Nat) (v : Value), Below B w W → Below B w (W.setCell ⟨k, o, none⟩ v) := fun W o v h => Below.setCell (p := ⟨k, o, none⟩) h hB v
    exact st _ _ _ (st _ _ _ (st _ _ _ (st _ _ _ (st _ _ _ (st _ _ _ (st _ _ _ (st _ _ _ (st _ _ _ (st _ _ _ (Below.refl _ _))))))))))
  · have st : ∀ (W : World) (o : Nat) (v : Value), W.heap[j]? = w.heap[j]? → (W.setCell ⟨k, o, none⟩ v).heap[j]? = w.heap[j]? := fun W o v h => (Below.heap_setCell W ⟨k, o, none⟩ v j hj).trans h
    exact st _ _ _ (st _ _ _ (st _ _ _ (st _ _ _ (st _ _ _ (st _ _ _ (st _ _ _ (st _ _ _ (st _ _ _ (st _ _ _ rfl)))))))))
/-- The way out: both named results are written, the deferred call finds nothing to recover. -/
theorem fin10 {w : World} {k : Nat} {s0 : Sig} {e0 : Int} (h : At w k s0) (h3 : w.heap[k + 1]? = some (.cells #[.int .i64 e0] 27 (0, 0))) (s : Sig) (er : Int) :
    At (((((((((((w.setCell ⟨k, 0, none⟩ (.int .i64 s.kind)).setCell ⟨k, 1, none⟩ (.int .i64 s.circuit)).setCell ⟨k, 2, none⟩ (.int .i64 s.ref)).setCell ⟨k, 3, none⟩ (.int .i64 s.hops)).setCell ⟨k, 4, none⟩ (.int .i64 s.cause)).setCell ⟨k, 5, none⟩ (.string s.called)).setCell ⟨k, 6, none⟩ (.string s.calling)).setCell ⟨k, 7, none⟩ (.string s.digits)).setCell ⟨k, 8, none⟩ (.bool s.emergency)).setCell ⟨k, 9, none⟩ (.bool s.reverse)).setCell ⟨k + 1, 0, none⟩ (.int .i64 er)) k s ∧ (((((((((((w.setCell ⟨k, 0, none⟩ (.int .i64 s.kind)).setCell ⟨k, 1, none⟩ (.int .i64 s.circuit)).setCell ⟨k, 2, none⟩ (.int .i64 s.ref)).setCell ⟨k, 3, none⟩ (.int .i64 s.hops)).setCell ⟨k, 4, none⟩ (.int .i64 s.cause)).setCell ⟨k, 5, none⟩ (.string s.called)).setCell ⟨k, 6, none⟩ (.string s.calling)).setCell ⟨k, 7, none⟩ (.string s.digits)).setCell ⟨k, 8, none⟩ (.bool s.emergency)).setCell ⟨k, 9, none⟩ (.bool s.reverse)).setCell ⟨k + 1, 0, none⟩ (.int .i64 er)).heap[k + 1]? = some (.cells #[.int .i64 er] 27 (0, 0)) ∧ ∀ B, B ≤ k → Below B w (((((((((((w.setCell ⟨k, 0, none⟩ (.int .i64 s.kind)).setCell ⟨k, 1, none⟩ (.int .i64 s.circuit)).setCell ⟨k, 2, none⟩ (.int .i64 s.ref)).setCell ⟨k, 3, none⟩ (.int .i64 s.hops)).setCell ⟨k, 4, none⟩ (.int .i64 s.cause)).setCell ⟨k, 5, none⟩ (.string s.called)).setCell ⟨k, 6, none⟩ (.string s.calling)).setCell ⟨k, 7, none⟩ (.string s.digits)).setCell ⟨k, 8, none⟩ (.bool s.emergency)).setCell ⟨k, 9, none⟩ (.bool s.reverse)).setCell ⟨k + 1, 0, none⟩ (.int .i64 er)) := by
  have ht := ten10 h s
  generalize (((((((((w.setCell ⟨k, 0, none⟩ (.int .i64 s.kind)).setCell ⟨k, 1, none⟩ (.int .i64 s.circuit)).setCell ⟨k, 2, none⟩ (.int .i64 s.ref)).setCell ⟨k, 3, none⟩ (.int .i64 s.hops)).setCell ⟨k, 4, none⟩ (.int .i64 s.cause)).setCell ⟨k, 5, none⟩ (.string s.called)).setCell ⟨k, 6, none⟩ (.string s.calling)).setCell ⟨k, 7, none⟩ (.string s.digits)).setCell ⟨k, 8, none⟩ (.bool s.emergency)).setCell ⟨k, 9, none⟩ (.bool s.reverse) = W at ht ⊢
  exact ⟨hp_set (p := ⟨k + 1, 0, none⟩) ht.at_ (by simp), blk_set ((ht.far (k + 1) (by omega)).trans h3), fun B hB => Below.setCell (p := ⟨k + 1, 0, none⟩) (ht.below B hB) (by show B ≤ k + 1; omega) _⟩
theorem At.res {W : World} {k : Nat} {s : Sig} {er : Int} {t : Array Value} (h2 : t.getD 2 undef = pt k) (h3 : t.getD 3 undef = pt (k + 1)) (hA : At W k s) (q10 : W.cell? ⟨k + 1, 0, none⟩ = some (.int .i64 er)) :
    (results Try.f21 t).run Try.prog W = .ok (.tuple #[.agg s.cells, .int .i64 er]) W := by
  have q0 := hA.kind
  have q1 := hA.int .circuit
  have q2 := hA.int .ref
  have q3 := hA.int .hops
  have q4 := hA.int .cause
  have q5 := hA.str .called
  have q6 := hA.str .calling
  have q7 := hA.str .digits
  have q8 := hA.bool .emergency
  have q9 := hA.bool .reverse
  simp only [IF.off, IF.get, SF.off, SF.get, BF.off, BF.get] at q1 q2 q3 q4 q5 q6 q7 q8 q9
  unfold pt at h2 h3
  simp only [Array.getD_eq_getD_getElem?] at h2 h3
  simp [results, Try.results21, go_sem, h2, h3, q0, q1, q2, q3, q4, q5, q6, q7, q8, q9, q10, Sig.cells]
theorem door_idle {W : World} {k : Nat} {s : Sig} {er : Int} {t : Array Value} {R : Ending → World → Prop} (h2 : t.getD 2 undef = pt k) (h3 : t.getD 3 undef = pt (k + 1)) (hA : At W k s) (hE : W.heap[k + 1]? = some (.cells #[.int .i64 er] 27 (0, 0)))
    (hR : R (.returned (.tuple #[.agg s.cells, .int .i64 er])) W) : Leaves Try.prog Try.f21 t R [{ target := .fn (.func 43) #[pt k, pt (k + 1)], args := #[] }] .returning W := by
  refine leaves_cons (f := 43) (args := #[pt k, pt (k + 1)]) (by simp) (by simp [go_sem]) ?_
  refine (catch_idle _ _ _).mono ?_
  rintro e u' w'' ⟨rfl, rfl, rfl⟩
  exact ⟨_, At.res h2 h3 hA (by simp [World.cell?, hE]), hR⟩
theorem door_panic {W : World} {k : Nat} {s : Sig} {er e0 : Int} {t : Array Value} {R : Ending → World → Prop} (h2 : t.getD 2 undef = pt k) (h3 : t.getD 3 undef = pt (k + 1)) (hA : At W k s) (hE : W.heap[k + 1]? = some (.cells #[.int .i64 e0] 27 (0, 0)))
    (hR : ∀ W', Below k W W' → R (.returned (.tuple #[.agg zSig.cells, .int .i64 er])) W') : Leaves Try.prog Try.f21 t R [{ target := .fn (.func 43) #[pt k, pt (k + 1)], args := #[] }] (.panicking [{ v := .iface 81 (.agg #[.int .i64 er]), recovered := false }]) W := by
  refine leaves_cons (f := 43) (args := #[pt k, pt (k + 1)]) (by simp) (by simp [go_sem]) ?_
  refine (catch_panic k (k + 1) er e0 s W hA hE (by omega)).mono ?_
  rintro e u' w'' ⟨rfl, rfl, hA', hE', hB⟩
  exact ⟨_, At.res h2 h3 hA' hE', hR _ hB⟩

theorem read_pos {l : List Int} {d : Fd} {at_ at' : Int} {lg lg' : Bool} {s s' : Sig} (hb : Bytes l) (h0 : 0 ≤ at_) (h : d.read l at_ lg s = .inr (s', at', lg')) : 0 ≤ at' := by
  cases d with
  | int f lo hi =>
    unfold Fd.read at h
    dsimp only at h
    obtain ⟨v, nx, er, hu⟩ : ∃ v nx er, uintS l at_ = (v, nx, er) := ⟨_, _, _, rfl⟩
    rw [hu] at h
    dsimp only at h
    split at h
    · rename_i he
      subst he
      obtain ⟨n, _, _, _, hnx, _⟩ := uint_canon hb hu
      split at h <;> (simp only [Sum.inr.injEq, Prod.mk.injEq] at h; omega)
    · simp at h
  | addr f e =>
    unfold Fd.read at h
    dsimp only at h
    obtain ⟨v, nx, er, hu⟩ : ∃ v nx er, seqS l at_ 15 = (v, nx, er) := ⟨_, _, _, rfl⟩
    rw [hu] at h
    dsimp only at h
    split at h
    · rename_i he
      subst he
      obtain ⟨_, hnx, _⟩ := seq_canon hb hu
      simp only [Sum.inr.injEq, Prod.mk.injEq] at h
      omega
    · simp at h
  | bool f =>
    unfold Fd.read at h
    dsimp only at h
    split at h
    · simp at h
    · split at h
      · simp at h
      · simp only [Sum.inr.injEq, Prod.mk.injEq] at h
        omega
section
variable (A : Option Addr) (c : Nat) (l : List Int) (w : World) (hC : Kd.C (Kd.int .u8) w A l.length l) (hc : l.length ≤ c) (hb : Bytes l) (hl : l.length ≤ 140737488351232)
set_option maxHeartbeats 4000000 in
theorem decode_empty (h : l.length = 0) : Calls Try.prog 21 #[.slice A l.length c] w fun e w' => De w e w' (zSig, 10) := by
  have hmf : ∀ (fn : Fn) (first cap : Array Value) (w : World), (Instr.makeFunc fn first cap).run Try.prog w = .ok (.func fn first cap) w := fun _ _ _ _ => rfl
  rw [h]
  go_enter_defers Try.func21, Try.ntmps21
  go_wp2
  refine leaves_cons (f := 43) (args := #[pt w.heap.size, pt (w.heap.size + 1)]) (by simp) (by simp [go_sem, pt]) ?_
  refine (catch_idle _ _ _).mono ?_
  rintro e u' w'' ⟨rfl, rfl, rfl⟩
  simp [Leaves, settle, results, Try.results21, go_sem]
  exact ⟨rfl, below_alloc (below_alloc (Below.refl _ _) _) _⟩
set_option maxHeartbeats 4000000 in
include hC hb in
theorem decode_unknown (h0 : 0 < l.length) (h : known (rd l 0) = false) : Calls Try.prog 21 #[.slice A l.length c] w fun e w' => De w e w' (zSig, 110) := by
  have hmf : ∀ (fn : Fn) (first cap : Array Value) (w : World), (Instr.makeFunc fn first cap).run Try.prog w = .ok (.func fn first cap) w := fun _ _ _ _ => rfl
  have hz : ((l.length : Int) == 0) = false := beq_eq_false_iff_ne.mpr (by omega)
  obtain ⟨ad, e, hx⟩ := Kd.at_int hC 0 (Int.le_refl _) (by omega)
  cases e
  have hx0 : w.cell? ad = some (.int .u8 (rd l 0)) := by rw [← add_zero ad]; simpa using hx
  have hx1 : ((w.alloc (.cells #[.int .i64 0, .int .i64 0, .int .i64 0, .int .i64 0, .int .i64 0, .string ⟨#[]⟩, .string ⟨#[]⟩, .string ⟨#[]⟩, .bool false, .bool false] 46)).alloc (.cells #[.int .i64 0] 27)).cell? ad = some (.int .u8 (rd l 0)) := pw_cell_below (below_alloc (below_alloc (Below.refl _ _) _) _) hx0
  clear hx0
  have hq : (0 : Int) < (l.length : Int) := by omega
  have hw : wrap64 (rd l 0) = rd l 0 := by have := rd_byte hb (j := 0) h0; simp only [Int.natCast_zero] at this; unfold wrap64; omega
  have HK := Aside0.mk h
  clear hC h0 h hx hb
  go_enter_defers Try.func21, Try.ntmps21
  go_wp2_with (go_at_call 42; (with_reducible refine (fields_bad (rd l 0) _ HK.out).mono ?_); rintro e w1 ⟨rfl, hb⟩; have HA := Aside0.mk (two_at hb); obtain ⟨q0, q1, q2, q3, q4, q5, q6, q7, q8, q9, q10, f2, f3, l2, l3⟩ := two_blk2 hb; have HB := Aside0.mk (below_step (below_alloc (below_alloc (Below.refl _ _) _) _) hb); clear hb)
  have hf := fin10 HA.out.1 HA.out.2 zSig 110
  exact door_idle (k := w.heap.size) rfl rfl hf.1 hf.2.1 ⟨rfl, HB.out.trans (hf.2.2 _ (Nat.le_refl _))⟩

set_option maxHeartbeats 16000000 in
set_option maxRecDepth 100000 in
include hC hc hb hl in
theorem decode_known (h0 : 0 < l.length) (h : known (rd l 0) = true) : Calls Try.prog 21 #[.slice A l.length c] w fun e w' => De w e w' (decS l) := by
  have hmf : ∀ (fn : Fn) (first cap : Array Value) (w : World), (Instr.makeFunc fn first cap).run Try.prog w = .ok (.func fn first cap) w := fun _ _ _ _ => rfl
  have hz : ((l.length : Int) == 0) = false := beq_eq_false_iff_ne.mpr (by omega)
  obtain ⟨kind, hkd⟩ : ∃ kind, kind = rd l 0 := ⟨_, rfl⟩
  have hdec : decS l = match readAll l (fieldsS kind) { zSig with kind := kind } 1 false with
    | .inl er => (zSig, er)
    | .inr (s, at_, lg) => if at_ = (l.length : Int) ∧ lg = false ∧ checkS s = 0 then (s, 0) else (zSig, 110) := by
    unfold decS
    rw [if_neg (by omega), ← hkd, if_neg (by rw [hkd, h]; decide)]
  have HDEC := Aside0.mk hdec
  rw [← hkd] at h
  obtain ⟨ad, e, hx⟩ := Kd.at_int hC 0 (Int.le_refl _) (by omega)
  cases e
  rw [← hkd] at hx
  have hx0 : w.cell? ad = some (.int .u8 kind) := by rw [← add_zero ad]; simpa using hx
  have HX0 := Aside0.mk hx0
  have hx1 : ((w.alloc (.cells #[.int .i64 0, .int .i64 0, .int .i64 0, .int .i64 0, .int .i64 0, .string ⟨#[]⟩, .string ⟨#[]⟩, .string ⟨#[]⟩, .bool false, .bool false] 46)).alloc (.cells #[.int .i64 0] 27)).cell? ad = some (.int .u8 kind) := pw_cell_below (below_alloc (below_alloc (Below.refl _ _) _) _) hx0
  have hq : (0 : Int) < (l.length : Int) := by omega
  have hw : wrap64 kind = kind := by
    unfold known at h
    simp only [Bool.and_eq_true, decide_eq_true_eq] at h
    unfold wrap64
    omega
  have HK := Aside0.mk h
  have HC := Aside0.mk hC
  have HCc := Aside0.mk hc
  have HBy := Aside0.mk hb
  have HLn := Aside0.mk hl
  clear hC hc hb hl h0 h hx hx0 hdec hkd
  go_enter_defers Try.func21, Try.ntmps21
  go_wp2_with (go_at_call 42; (with_reducible refine (fields_calls kind _ HK.out).mono ?_); rintro e w1 ⟨v, xs, rfl, hr, hf, hb⟩; have hp := fields_pos kind; rw [hf.len] at hp; obtain ⟨adl, cl, rfl⟩ := Kd.R_slice1 hr hp; have HA := Aside0.mk (two_at hb); have hBW := below_step (below_alloc (below_alloc (Below.refl _ _) _) _) hb; have HB := Aside0.mk hBW; have hx2 := pw_cell_below hBW HX0.out; have hx3 := pw_cell_below (below_alloc (Below.refl _ _) (.cells #[.slice (some ad) l.length c, .int .i64 1, .bool false] 84)) hx2; have HR := Aside0.mk hr; have HF := Aside0.mk hf; have HN := Aside0.mk (show xs.length ≤ 6 from by rw [← hf.len]; exact fields_le _); clear hb hr hf hp hBW)
  have HL := Aside0.mk (show Ls w.heap.size w1 (some adl) cl (fieldsS kind) xs from ⟨Kd.R_lower (Kd.R_mono (Kd.R_bound HR.out) (fun k hk => by have := hk.2.1; rw [World.size_alloc, World.size_alloc] at this; omega)) (Nat.zero_le _), HF.out.imp (fun _ _ hf => hf.mono (fun k hk _ => by rw [World.size_alloc, World.size_alloc] at hk; omega))⟩)
  have hk2 := HA.out.1.lt
  have HK2 := Aside0.mk hk2
  clear HR HF hx1 hx2 hx3 hk2 hw
  go_loopg [36] xs.length (fun kq v36 w' => ∃ (i : Nat) (s : Sig) (at_ : Int) (lg : Bool), i + kq = xs.length ∧ v36 = .int .i64 (i : Int) ∧ Aside0 (Rd w' w1.heap.size (some ad) c l.length at_ lg) ∧ Aside0 (At w' (w1.heap.size + 1) s) ∧ Aside0 (Below w1.heap.size w1 w') ∧ Aside0 (0 ≤ at_) ∧ Aside0 (readAll l ((fieldsS kind).drop i) s at_ lg = readAll l (fieldsS kind) { zSig with kind := kind } 1 false))
  case atStart => exact ⟨0, { zSig with kind := kind }, 1, false, by omega, rfl, ⟨hp_alloc (hp_new rfl)⟩, ⟨hp_new (by rw [World.size_alloc])⟩, ⟨below_alloc (below_alloc (Below.refl _ _) _) _⟩, ⟨by omega⟩, ⟨rfl⟩⟩
  case round =>
    obtain ⟨i, s, at_, lg, hi, rfl, HRd, HX, HB1, HP, HQ⟩ := hrel
    have hA1 := HA.out.1.below HB1.out
    have hE1 := (HB1.out.block _ (Array.getElem?_eq_some_iff.1 HA.out.2).1).trans HA.out.2
    have HA1 := Aside0.mk hA1
    have HE1 := Aside0.mk hE1
    clear hA1 hE1
    cases gk with
    | zero =>
      have hall : (fieldsS kind).drop i = [] := List.drop_eq_nil_of_le (by rw [HL.out.f.len]; omega)
      have hQ := HQ.out
      rw [hall] at hQ
      have hdec2 : decS l = if at_ = (l.length : Int) ∧ lg = false ∧ checkS s = 0 then (s, 0) else (zSig, 110) := by rw [HDEC.out, ← hQ]; rfl
      have HD2 := Aside0.mk hdec2
      clear hall hQ hdec2 HQ HDEC
      have hlt : decide ((i : Int) < (xs.length : Int)) = false := decide_eq_false (by omega)
      have hlu : decide (i < xs.length) = false := decide_eq_false (by omega)
      have HWr := Aside0.mk (HB.out.trans (HB1.out.mono (Nat.le_of_lt HK2.out)))
      obtain ⟨q0, q1, q2, q3, q4, q5, q6, q7, q8, q9, q10, f2, f3, l2, l3⟩ := tw_of HA1.out HE1.out
      obtain ⟨r0, r1, r2, rf⟩ := HRd.out.cells
      by_cases ha : at_ = (l.length : Int)
      · have ha1 : (at_ != (l.length : Int)) = false := bne_eq_false_iff_eq.mpr ha
        have HA0 := Aside0.mk ha
        clear ha
        cases lg
        · obtain ⟨x0, x1, x2, x3, x4, x5, x6, x7, x8, x9⟩ := HX.out.ten
          by_cases hcs : checkS s = 0
          · have HCS := Aside0.mk hcs
            clear hcs
            go_wp2_with (go_at_call 41; refine (check_calls s _).mono ?_; rintro e w5 ⟨rfl, hb5⟩; rw [HCS.out]; have n1 := Aside0.mk (HA1.out.below hb5); have n2 := Aside0.mk ((hb5.block _ (Array.getElem?_eq_some_iff.1 HE1.out).1).trans HE1.out); have n3 := Aside0.mk (HX.out.below hb5); have n4 := Aside0.mk (below_step HWr.out hb5); clear q0 q1 q2 q3 q4 q5 q6 q7 q8 q9 q10 f2 f3 l2 l3 r0 r1 r2 rf x0 x1 x2 x3 x4 x5 x6 x7 x8 x9 hb5 HA1 HE1 HX HWr; obtain ⟨q0, q1, q2, q3, q4, q5, q6, q7, q8, q9, q10, f2, f3, l2, l3⟩ := tw_of n1.out n2.out; obtain ⟨x0, x1, x2, x3, x4, x5, x6, x7, x8, x9⟩ := n3.out.ten; have HA1 := n1; have HE1 := n2; have HX := n3; have HWr := n4; clear n1 n2 n3 n4)
            have hf := fin10 HA1.out HE1.out s 0
            refine door_idle (k := w.heap.size) rfl rfl hf.1 hf.2.1 ?_
            rw [HD2.out, if_pos ⟨HA0.out, (by trivial), HCS.out⟩]
            exact ⟨rfl, HWr.out.trans (hf.2.2 _ (Nat.le_refl _))⟩
          · have hcs1 : (checkS s != 0) = true := bne_iff_ne.mpr hcs
            have HCS := Aside0.mk hcs
            clear hcs
            go_wp2_with (go_at_call 41; refine (check_calls s _).mono ?_; rintro e w5 ⟨rfl, hb5⟩; have n1 := Aside0.mk (HA1.out.below hb5); have n2 := Aside0.mk ((hb5.block _ (Array.getElem?_eq_some_iff.1 HE1.out).1).trans HE1.out); have n4 := Aside0.mk (below_step HWr.out hb5); clear q0 q1 q2 q3 q4 q5 q6 q7 q8 q9 q10 f2 f3 l2 l3 r0 r1 r2 rf x0 x1 x2 x3 x4 x5 x6 x7 x8 x9 hb5 HA1 HE1 HX HWr; obtain ⟨q0, q1, q2, q3, q4, q5, q6, q7, q8, q9, q10, f2, f3, l2, l3⟩ := tw_of n1.out n2.out; have HA1 := n1; have HE1 := n2; have HWr := n4; clear n1 n2 n4)
            have hf := fin10 HA1.out HE1.out zSig 110
            refine door_idle (k := w.heap.size) rfl rfl hf.1 hf.2.1 ?_
            rw [HD2.out, if_neg (fun h => HCS.out h.2.2)]
            exact ⟨rfl, HWr.out.trans (hf.2.2 _ (Nat.le_refl _))⟩
        · go_wp2
          have hf := fin10 HA1.out HE1.out zSig 110
          refine door_idle (k := w.heap.size) rfl rfl hf.1 hf.2.1 ?_
          rw [HD2.out, if_neg (fun h => by cases h.2.1)]
          exact ⟨rfl, HWr.out.trans (hf.2.2 _ (Nat.le_refl _))⟩
      · have ha1 : (at_ != (l.length : Int)) = true := bne_iff_ne.mpr ha
        have HA0 := Aside0.mk ha
        clear ha
        go_wp2
        have hf := fin10 HA1.out HE1.out zSig 110
        refine door_idle (k := w.heap.size) rfl rfl hf.1 hf.2.1 ?_
        rw [HD2.out, if_neg (fun h => HA0.out h.1)]
        exact ⟨rfl, HWr.out.trans (hf.2.2 _ (Nat.le_refl _))⟩
    | succ k1 =>
      have hL2 := HL.out.keep (fun k _ hk => HB1.out.block k hk)
      obtain ⟨d, hd, hf⟩ := hL2.get (i := i) (by omega)
      obtain ⟨ad', e, c0, c1, c2, c3⟩ := hL2.cell (i : Int) (by omega) (by omega)
      cases e
      rw [Int.toNat_natCast] at c0 c1 c2 c3
      have eg := fd_enters2 hf
      generalize xs.getD i zF = x at hf c0 c1 c2 c3 eg
      have hcd : (fieldsS kind).drop i = d :: (fieldsS kind).drop (i + 1) := by
        have hlt : i < (fieldsS kind).length := by rw [HL.out.f.len]; omega
        rw [List.drop_eq_getElem_cons hlt]
        rw [List.getElem?_eq_getElem hlt] at hd
        rw [Option.some.inj hd]
      have hrall : readAll l ((fieldsS kind).drop i) s at_ lg = (match d.read l at_ lg s with
        | .inl er => .inl er
        | .inr (s', at', lg') => readAll l ((fieldsS kind).drop (i + 1)) s' at' lg') := by rw [hcd, readAll]
      have HG := Aside0.mk (fd_get w1.heap.size (w1.heap.size + 1) (fun k => k ≠ w.heap.size) (some ad) c l at_ lg s (wr.alloc (.cells (fc x).toArray 78)) (hp_alloc HRd.out) (hp_alloc HX.out) (by omega) (Kd.C_below HC.out (below_step (below_step HB.out HB1.out) (below_alloc (Below.refl _ _) _))) HCc.out HBy.out HLn.out (hf.below (below_alloc (Below.refl _ _) _)) HP.out)
      unfold fc at HG
      have HS1 := Aside0.mk HRd.out
      have HRA := Aside0.mk hrall
      clear hL2 hf hd hcd hrall
      have hqi : (i : Int) < (xs.length : Int) := by omega
      have hlt := decide_eq_true hqi
      cases hrd : d.read l at_ lg s with
      | inl er =>
        have HRD := Aside0.mk hrd
        clear hrd
        rw [HRD.out] at HRA HG
        go_wp2_with (refine HG.out.mono ?_; rintro e w4 ⟨rfl, hb4⟩; unfold fail; have HB4 := Aside0.mk hb4; clear hb4)
        have hB4 := (HB1.out.alloc HB1.out.size (.cells #[.func (.func x.f0.fn) #[] x.f0.cap, .func (.func x.f1.fn) #[] x.f1.cap, .func (.func x.f2.fn) #[] x.f2.cap, .func (.func x.f3.fn) #[] x.f3.cap] 78)).trans HB4.out
        refine door_panic (k := w.heap.size) rfl rfl (HA.out.1.below hB4) ((hB4.block _ (Array.getElem?_eq_some_iff.1 HA.out.2).1).trans HA.out.2) (fun W' hB => ?_)
        rw [HDEC.out, ← HQ.out, HRA.out]
        exact ⟨rfl, (HB.out.trans (hB4.mono (Nat.le_of_lt HK2.out))).trans hB⟩
      | inr r =>
        obtain ⟨s', at', lg'⟩ := r
        have HRD := Aside0.mk hrd
        clear hrd
        rw [HRD.out] at HRA HG
        go_wp2_with (refine HG.out.mono ?_; rintro e w4 ⟨rfl, hr4, hx4, hb4⟩; have HR4 := Aside0.mk hr4; have HX4 := Aside0.mk hx4; have HB4 := Aside0.mk hb4; clear hr4 hx4 hb4)
        go_roundg k1
        case measure => omega
        case rel =>
          have e1 : wrap64 ((i : Int) + 1) = ((i + 1 : Nat) : Int) := by have := HN.out; unfold wrap64; omega
          exact ⟨i + 1, s', at', lg', by omega, by rw [e1], HR4, HX4, ⟨(HB1.out.alloc HB1.out.size _).trans HB4.out⟩, ⟨read_pos HBy.out HP.out HRD.out⟩, ⟨HRA.out.symm.trans HQ.out⟩⟩
include hC hc hb hl in
theorem decode_calls : Calls Try.prog 21 #[.slice A l.length c] w fun e w' => De w e w' (decS l) := by
  by_cases h0 : l.length = 0
  · have e : decS l = (zSig, 10) := by unfold decS; rw [if_pos h0]
    rw [e]
    exact decode_empty A c l w h0
  · cases hk : known (rd l 0)
    · have e : decS l = (zSig, 110) := by unfold decS; rw [if_neg h0, if_pos hk]
      rw [e]
      exact decode_unknown A c l w hC hb (by omega) hk
    · exact decode_known A c l w hC hc hb hl (by omega) hk
end
end Go.Proofs.Ythemnajgdoambaa.Iq
/-
  isup, plain Lean: Decode undoes Encode, Encode undoes Decode, prefixes are truncated, foreign fields are refused, replies are valid.
-/
namespace Go.Proofs.Ythemnajgdoambaa.Iq
open Go.RowKit Go.Shelf Go.Proofs.YthemnajgdoambaaW.PrintWords Go.Proofs.YthemnajgdoambaaW.PrintLast Go.Proofs.YthemnajgdoambaaW.PrintMore Go.Proofs.Ythemnajgdoambaa.Is Go.Proofs.Ythemnajgdoambaa.Vm Go.Proofs.Ythemnajgdoambaa.Iv
set_option linter.unusedVariables false
set_option linter.unusedSimpArgs false

/-! ### what is left where a message is valid -/
theorem noStr_iff {x : ByteArray} : x.toList = noStr.toList ↔ x = noStr := by
  rw [toList_nil.2 (rfl : noStr = noStr)]
  exact toList_nil

structure Clean (s : Sig) : Prop where
  iam : s.kind ≠ 1 → s.hops = 0 ∧ s.called = noStr ∧ s.calling = noStr ∧ s.emergency = false
  sam : s.kind ≠ 2 → s.digits = noStr
  anm : s.kind ≠ 4 → s.reverse = false
  rel : s.kind ≠ 7 → s.cause = 0
  big : 8 < s.kind → s.ref = 0

/-- A field's value, from one message into another. -/
def Fd.cpy (s t : Sig) : Fd → Sig
  | .int f _ _ => f.set t (f.get s)
  | .addr f _ => f.set t (f.get s)
  | .bool f => f.set t (f.get s)
def cpyAll (l : List Fd) (s t : Sig) : Sig := l.foldl (fun t d => d.cpy s t) t

theorem fields_cases (k : Int) : (8 < k ∧ fieldsS k = [.int .circuit 0 47]) ∨
    (k = 1 ∧ fieldsS k = [.int .circuit 0 47, .int .ref 1 1099511627776, .int .hops 0 8, .addr .called .emergency, .addr .calling .always, .bool .emergency]) ∨
    (k = 2 ∧ fieldsS k = [.int .circuit 0 47, .int .ref 1 1099511627776, .addr .digits .never]) ∨
    (k = 4 ∧ fieldsS k = [.int .circuit 0 47, .int .ref 1 1099511627776, .bool .reverse]) ∨
    (k = 7 ∧ fieldsS k = [.int .circuit 0 47, .int .ref 1 1099511627776, .int .cause 1 127]) ∨
    (k ≤ 8 ∧ k ≠ 1 ∧ k ≠ 2 ∧ k ≠ 4 ∧ k ≠ 7 ∧ fieldsS k = [.int .circuit 0 47, .int .ref (leastS k) 1099511627776]) := by
  by_cases h8 : k > 8
  · exact .inl ⟨by omega, by unfold fieldsS; rw [if_pos h8]⟩
  have e : fieldsS k = [.int .circuit 0 47, .int .ref (leastS k) 1099511627776] ++ moreS k := by unfold fieldsS; rw [if_neg h8]
  by_cases h1 : k = 1
  · subst h1; exact .inr (.inl ⟨rfl, by rw [e]; rfl⟩)
  by_cases h2 : k = 2
  · subst h2; exact .inr (.inr (.inl ⟨rfl, by rw [e]; rfl⟩))
  by_cases h4 : k = 4
  · subst h4; exact .inr (.inr (.inr (.inl ⟨rfl, by rw [e]; rfl⟩)))
  by_cases h7 : k = 7
  · subst h7; exact .inr (.inr (.inr (.inr (.inl ⟨rfl, by rw [e]; rfl⟩))))
  refine .inr (.inr (.inr (.inr (.inr ⟨by omega, h1, h2, h4, h7, ?_⟩))))
  rw [e]
  unfold moreS
  rw [if_neg h1, if_neg h2, if_neg h4, if_neg h7]
  rfl

theorem bare_iff (s : Sig) : bare (clrAll (fieldsS s.kind) s) = true ↔ Clean s := by
  obtain ⟨k, c, r, h, ca, s5, s6, s7, b8, b9⟩ := s
  dsimp only
  rcases fields_cases k with ⟨hk, e⟩ | ⟨hk, e⟩ | ⟨hk, e⟩ | ⟨hk, e⟩ | ⟨hk, e⟩ | ⟨hk, n1, n2, n4, n7, e⟩ <;> rw [e] <;>
    simp only [clrAll, List.foldl, Fd.clr, IF.set, SF.set, BF.set, bare, Bool.and_eq_true, beq_iff_eq, noStr_iff, true_and, and_true]
  · exact ⟨fun ⟨a, b, c, d, e, f, g, h⟩ => ⟨fun _ => ⟨b, d, e, g⟩, fun _ => f, fun _ => h, fun _ => c, fun _ => a⟩, fun h => ⟨h.big hk, (h.iam (by simp only; omega)).1, h.rel (by simp only; omega), (h.iam (by simp only; omega)).2.1, (h.iam (by simp only; omega)).2.2.1, h.sam (by simp only; omega), (h.iam (by simp only; omega)).2.2.2, h.anm (by simp only; omega)⟩⟩
  · exact ⟨fun ⟨a, b, c⟩ => ⟨fun n => absurd hk n, fun _ => b, fun _ => c, fun _ => a, fun h => by simp only at h; omega⟩, fun h => ⟨h.rel (by simp only; omega), h.sam (by simp only; omega), h.anm (by simp only; omega)⟩⟩
  · exact ⟨fun ⟨a, b, c, d, e, f⟩ => ⟨fun _ => ⟨a, c, d, e⟩, fun n => absurd hk n, fun _ => f, fun _ => b, fun h => by simp only at h; omega⟩, fun h => ⟨(h.iam (by simp only; omega)).1, h.rel (by simp only; omega), (h.iam (by simp only; omega)).2.1, (h.iam (by simp only; omega)).2.2.1, (h.iam (by simp only; omega)).2.2.2, h.anm (by simp only; omega)⟩⟩
  · exact ⟨fun ⟨a, b, c, d, e, f⟩ => ⟨fun _ => ⟨a, c, d, f⟩, fun _ => e, fun n => absurd hk n, fun _ => b, fun h => by simp only at h; omega⟩, fun h => ⟨(h.iam (by simp only; omega)).1, h.rel (by simp only; omega), (h.iam (by simp only; omega)).2.1, (h.iam (by simp only; omega)).2.2.1, h.sam (by simp only; omega), (h.iam (by simp only; omega)).2.2.2⟩⟩
  · exact ⟨fun ⟨a, c, d, e, f, g⟩ => ⟨fun _ => ⟨a, c, d, f⟩, fun _ => e, fun _ => g, fun n => absurd hk n, fun h => by simp only at h; omega⟩, fun h => ⟨(h.iam (by simp only; omega)).1, (h.iam (by simp only; omega)).2.1, (h.iam (by simp only; omega)).2.2.1, h.sam (by simp only; omega), (h.iam (by simp only; omega)).2.2.2, h.anm (by simp only; omega)⟩⟩
  · exact ⟨fun ⟨a, b, c, d, e, f, g⟩ => ⟨fun _ => ⟨a, c, d, f⟩, fun _ => e, fun _ => g, fun _ => b, fun h => by simp only at h; omega⟩, fun h => ⟨(h.iam (by simp only; omega)).1, h.rel (by simp only; omega), (h.iam (by simp only; omega)).2.1, (h.iam (by simp only; omega)).2.2.1, h.sam (by simp only; omega), (h.iam (by simp only; omega)).2.2.2, h.anm (by simp only; omega)⟩⟩

theorem valid_iff (s : Sig) : validS_ s = true ↔ (1 ≤ s.kind ∧ s.kind ≤ 13) ∧ (∀ d ∈ fieldsS s.kind, d.ok s = true) ∧ Clean s := by
  unfold validS_ known
  simp only [Bool.and_eq_true, decide_eq_true_eq, List.all_eq_true, bare_iff]

/-- A valid message is its fields upon nothing but its kind. -/
theorem cpy_clean {s : Sig} (h : Clean s) : cpyAll (fieldsS s.kind) s { zSig with kind := s.kind } = s := by
  obtain ⟨k, c, r, hh, ca, s5, s6, s7, b8, b9⟩ := s
  obtain ⟨q1, q2, q3, q4, q5⟩ := h
  dsimp only at q1 q2 q3 q4 q5 ⊢
  rcases fields_cases k with ⟨hk, e⟩ | ⟨hk, e⟩ | ⟨hk, e⟩ | ⟨hk, e⟩ | ⟨hk, e⟩ | ⟨hk, n1, n2, n4, n7, e⟩ <;> rw [e] <;>
    simp only [cpyAll, List.foldl, Fd.cpy, IF.set, SF.set, BF.set, IF.get, SF.get, BF.get, zSig, Sig.mk.injEq, true_and, and_true]
  · have := q1 (by omega); have := q2 (by omega); have := q3 (by omega); have := q4 (by omega); have := q5 hk; simp [*]
  · have := q2 (by omega); have := q3 (by omega); have := q4 (by omega); simp [*]
  · have := q1 (by omega); have := q3 (by omega); have := q4 (by omega); simp [*]
  · have := q1 (by omega); have := q2 (by omega); have := q4 (by omega); simp [*]
  · have := q1 (by omega); have := q2 (by omega); have := q3 (by omega); simp [*]
  · have := q1 (by omega); have := q2 (by omega); have := q3 (by omega); have := q4 (by omega); simp [*]
end Go.Proofs.Ythemnajgdoambaa.Iq
/-
  isup, plain Lean: Decode undoes Encode; every proper prefix is truncated; what Decode takes, Encode writes.
-/
namespace Go.Proofs.Ythemnajgdoambaa.Iq
open Go.RowKit Go.Shelf Go.Proofs.YthemnajgdoambaaW.PrintWords Go.Proofs.YthemnajgdoambaaW.PrintLast Go.Proofs.YthemnajgdoambaaW.PrintMore Go.Proofs.Ythemnajgdoambaa.Is Go.Proofs.Ythemnajgdoambaa.Vm Go.Proofs.Ythemnajgdoambaa.Iv
set_option linter.unusedVariables false
set_option linter.unusedSimpArgs false

theorem rd_at (p q : List Int) (x : Int) : rd (p ++ x :: q) (p.length : Int) = x := by
  unfold rd
  simp [List.getD_eq_getElem?_getD]

/-! ### reading what was written -/
theorem read_bytes {s : Sig} {d : Fd} (h : d.ok s = true) (hl : d.low) (p q : List Int) (t : Sig) : d.read (p ++ (d.bytes s ++ q)) (p.length : Int) false t = .inr (d.cpy s t, (p.length : Int) + ((d.bytes s).length : Int), false) := by
  cases d with
  | int f lo hi =>
    obtain ⟨h0, h1⟩ := ok_num h hl
    have hu : uintS (p ++ ((Fd.int f lo hi).bytes s ++ q)) (p.length : Int) = (f.get s, (p.length : Int) + (((Fd.int f lo hi).bytes s).length : Int), 0) := by
      have := uint_at p q (v := (f.get s).toNat) (by omega)
      rw [Int.toNat_of_nonneg h0] at this
      exact this
    simp only [Fd.read, hu, if_true, Fd.cpy]
    rw [if_neg (by omega)]
  | addr f e =>
    have h1 := ok_size h
    have hb : (bytesOf (f.get s)).length = (f.get s).size := bytesOf_length _
    have hu : seqS (p ++ ((Fd.addr f e).bytes s ++ q)) (p.length : Int) 15 = (bytesOf (f.get s), (p.length : Int) + (((Fd.addr f e).bytes s).length : Int), 0) := by
      have := seq_at p (bytesOf (f.get s)) q 15 (by omega) (by omega)
      rw [hb] at this
      have e1 : p ++ ((Fd.addr f e).bytes s ++ q) = p ++ (enc (f.get s).size ++ (bytesOf (f.get s) ++ q)) := by simp [Fd.bytes]
      have e2 : (((Fd.addr f e).bytes s).length : Int) = ((enc (f.get s).size).length : Int) + ((f.get s).size : Int) := by simp [Fd.bytes, hb]
      rw [e1, this, e2, Int.add_assoc]
    simp only [Fd.read, hu, if_true, Fd.cpy, str_bytes]
  | bool f =>
    have hr : rd (p ++ ((Fd.bool f).bytes s ++ q)) (p.length : Int) = if f.get s = true then 1 else 0 := by
      simp only [Fd.bytes, List.singleton_append, rd_at]
    have hn : (p ++ ((Fd.bool f).bytes s ++ q)).length = p.length + 1 + q.length := by simp [Fd.bytes]; omega
    simp only [Fd.read, hr]
    rw [if_neg (by omega), if_neg (by split <;> decide)]
    cases hf : f.get s <;> simp [Fd.cpy, Fd.bytes, hf]

theorem readAll_bytes {s : Sig} : ∀ (ds : List Fd) (p q : List Int) (t : Sig), (∀ d ∈ ds, d.ok s = true) → (∀ d ∈ ds, d.low) →
    readAll (p ++ (ds.flatMap (Fd.bytes s) ++ q)) ds t (p.length : Int) false = .inr (cpyAll ds s t, (p.length : Int) + ((ds.flatMap (Fd.bytes s)).length : Int), false)
  | [], p, q, t, _, _ => by simp [readAll, cpyAll]
  | d :: ds, p, q, t, ho, hl => by
    have h1 := read_bytes (ho d List.mem_cons_self) (hl d List.mem_cons_self) p (ds.flatMap (Fd.bytes s) ++ q) t
    have e : p ++ ((d :: ds).flatMap (Fd.bytes s) ++ q) = p ++ (d.bytes s ++ (ds.flatMap (Fd.bytes s) ++ q)) := by simp
    rw [e, readAll, h1]
    dsimp only
    have ih := readAll_bytes ds (p ++ d.bytes s) q (d.cpy s t) (fun x hx => ho x (List.mem_cons_of_mem _ hx)) (fun x hx => hl x (List.mem_cons_of_mem _ hx))
    rw [List.length_append, List.append_assoc] at ih
    have e2 : ((p.length : Int) + ((d.bytes s).length : Int)) = ((p.length + (d.bytes s).length : Nat) : Int) := by omega
    rw [e2, ih]
    simp only [cpyAll, List.foldl_cons, List.flatMap_cons, List.length_append, Sum.inr.injEq, Prod.mk.injEq, true_and, and_true]
    omega

theorem enc_head {s : Sig} (h : validS_ s = true) : encS s = s.kind :: (fieldsS s.kind).flatMap (Fd.bytes s) := by unfold encS; rw [if_pos h]

theorem dec_parts {s : Sig} (h : validS_ s = true) (q : List Int) :
    decS (encS s ++ q) = if q = [] then (s, 0) else (zSig, 110) := by
  obtain ⟨hk, ho, hc⟩ := (valid_iff s).1 h
  have hr : rd (encS s ++ q) 0 = s.kind := by
    have := rd_at [] ((fieldsS s.kind).flatMap (Fd.bytes s) ++ q) s.kind
    rw [enc_head h]
    simpa using this
  have hkn : known s.kind = true := by unfold known; simp [hk.1, hk.2]
  have hra := readAll_bytes (s := s) (fieldsS s.kind) [s.kind] q { zSig with kind := s.kind } ho (fields_low _)
  rw [cpy_clean hc] at hra
  have e : [s.kind] ++ ((fieldsS s.kind).flatMap (Fd.bytes s) ++ q) = encS s ++ q := by rw [enc_head h]; rfl
  rw [e] at hra
  have e1 : (([s.kind] : List Int).length : Int) = 1 := rfl
  rw [e1] at hra
  have hn : (encS s ++ q).length = 1 + ((fieldsS s.kind).flatMap (Fd.bytes s)).length + q.length := by rw [enc_head h, List.length_append, List.length_cons]; omega
  unfold decS
  rw [if_neg (by omega), hr, hkn, if_neg (by decide), hra]
  dsimp only
  have hs : checkS s = 0 := by unfold checkS; rw [if_pos h]
  by_cases hq : q = []
  · subst hq
    rw [if_pos rfl, if_pos ⟨by rw [hn]; simp, rfl, hs⟩]
  · rw [if_neg hq, if_neg]
    rintro ⟨h1, _⟩
    have : 0 < q.length := List.length_pos_iff.2 hq
    omega
theorem dec_enc {s : Sig} (h : validS_ s = true) : decS (encS s) = (s, 0) := by
  have := dec_parts h []
  simpa using this
theorem dec_more {s : Sig} (h : validS_ s = true) (x : Int) : decS (encS s ++ [x]) = (zSig, 110) := by
  rw [dec_parts h [x], if_neg (by simp)]

/-! ### a proper prefix -/
theorem uint_cut (p : List Int) {v j : Nat} (hv : v < 18446744073709551616) (hj : j < (enc v).length) : uintS (p ++ (enc v).take j) (p.length : Int) = (0, 0, 10) := by
  unfold uintS
  rw [if_neg (by simp; omega)]
  have e : (p ++ (enc v).take j).drop ((p.length : Int)).toNat = (enc v).take j := by simp
  rw [e]
  exact scan_take 9 v j false 0 1 _ (by omega) hj
theorem seq_cut_at (pre p : List Int) (j : Nat) (m : Int) (hp : p.length < 18446744073709551616) (h2 : j < (enc p.length ++ p).length) (hm : (p.length : Int) ≤ m) :
    (seqS (pre ++ (enc p.length ++ p).take j) (pre.length : Int) m).2.2 = 10 := by
  rw [List.length_append] at h2
  by_cases h1 : (enc p.length).length ≤ j
  · have e : (enc p.length ++ p).take j = enc p.length ++ p.take (j - (enc p.length).length) := by
      rw [List.take_append, List.take_of_length_le h1]
    unfold seqS
    rw [e, uint_at pre (p.take (j - (enc p.length).length)) hp]
    dsimp only
    rw [if_neg (by omega), if_pos rfl, if_neg (by omega), if_pos (by simp; omega)]
  · have e : (enc p.length ++ p).take j = (enc p.length).take j := by
      rw [List.take_append, Nat.sub_eq_zero_of_le (by omega)]
      simp
    unfold seqS
    rw [e, uint_cut pre hp (by omega)]
    rw [if_neg (by omega), if_neg (by decide)]
theorem read_cut {s : Sig} {d : Fd} (h : d.ok s = true) (hl : d.low) (p : List Int) (j : Nat) (hj : j < (d.bytes s).length) (t : Sig) : d.read (p ++ (d.bytes s).take j) (p.length : Int) false t = .inl 10 := by
  cases d with
  | int f lo hi =>
    obtain ⟨h0, h1⟩ := ok_num h hl
    have hu : uintS (p ++ ((Fd.int f lo hi).bytes s).take j) (p.length : Int) = (0, 0, 10) := uint_cut p (v := (f.get s).toNat) (by omega) hj
    simp only [Fd.read, hu]
    rw [if_neg (by decide)]
  | addr f e =>
    have h1 := ok_size h
    have hb : (bytesOf (f.get s)).length = (f.get s).size := bytesOf_length _
    have hj' : j < (enc (bytesOf (f.get s)).length ++ bytesOf (f.get s)).length := by rw [hb]; exact hj
    have hc := seq_cut_at p (bytesOf (f.get s)) j 15 (by omega) hj' (by omega)
    rw [hb] at hc
    have hc' : (seqS (p ++ ((Fd.addr f e).bytes s).take j) (p.length : Int) 15).2.2 = 10 := hc
    simp only [Fd.read, hc']
    rw [if_neg (by decide)]
  | bool f =>
    have h0 : j = 0 := by simp [Fd.bytes] at hj; exact hj
    subst h0
    show (if _ then _ else _) = _
    rw [if_pos (by simp)]
theorem readAll_cut {s : Sig} : ∀ (ds : List Fd) (p : List Int) (j : Nat) (t : Sig), (∀ d ∈ ds, d.ok s = true) → (∀ d ∈ ds, d.low) → j < (ds.flatMap (Fd.bytes s)).length →
    readAll (p ++ (ds.flatMap (Fd.bytes s)).take j) ds t (p.length : Int) false = .inl 10
  | [], p, j, t, _, _, hj => by simp at hj
  | d :: ds, p, j, t, ho, hl, hj => by
    have o1 := ho d List.mem_cons_self
    have l1 := hl d List.mem_cons_self
    rw [List.flatMap_cons, List.length_append] at hj
    by_cases h : j < (d.bytes s).length
    · have e : ((d :: ds).flatMap (Fd.bytes s)).take j = (d.bytes s).take j := by
        rw [List.flatMap_cons, List.take_append, Nat.sub_eq_zero_of_le (by omega)]
        simp
      rw [e, readAll, read_cut o1 l1 p j h t]
    · have e : p ++ ((d :: ds).flatMap (Fd.bytes s)).take j = p ++ (d.bytes s ++ (ds.flatMap (Fd.bytes s)).take (j - (d.bytes s).length)) := by
        rw [List.flatMap_cons, List.take_append, List.take_of_length_le (by omega)]
      rw [e, readAll, read_bytes o1 l1 p _ t]
      dsimp only
      have ih := readAll_cut ds (p ++ d.bytes s) (j - (d.bytes s).length) (d.cpy s t) (fun x hx => ho x (List.mem_cons_of_mem _ hx)) (fun x hx => hl x (List.mem_cons_of_mem _ hx)) (by omega)
      rw [List.length_append, List.append_assoc] at ih
      have e2 : ((p.length : Int) + ((d.bytes s).length : Int)) = ((p.length + (d.bytes s).length : Nat) : Int) := by omega
      rw [e2, ih]
theorem dec_cut {s : Sig} (h : validS_ s = true) (j : Nat) (hj : j < (encS s).length) : decS ((encS s).take j) = (zSig, 10) := by
  obtain ⟨hk, ho, hc⟩ := (valid_iff s).1 h
  have hkn : known s.kind = true := by unfold known; simp [hk.1, hk.2]
  rw [enc_head h, List.length_cons] at hj
  cases j with
  | zero => rw [List.take_zero]; rfl
  | succ j =>
    have hra := readAll_cut (s := s) (fieldsS s.kind) [s.kind] j { zSig with kind := s.kind } ho (fields_low _) (by omega)
    have e : [s.kind] ++ ((fieldsS s.kind).flatMap (Fd.bytes s)).take j = (encS s).take (j + 1) := by rw [enc_head h]; rfl
    rw [e] at hra
    have e1 : (([s.kind] : List Int).length : Int) = 1 := rfl
    rw [e1] at hra
    have hr : rd ((encS s).take (j + 1)) 0 = s.kind := by
      rw [← e]
      have := rd_at [] (((fieldsS s.kind).flatMap (Fd.bytes s)).take j) s.kind
      simpa using this
    have hn : ((encS s).take (j + 1)).length ≠ 0 := by rw [← e]; simp
    unfold decS
    rw [if_neg hn, hr, hkn, if_neg (by decide), hra]
end Go.Proofs.Ythemnajgdoambaa.Iq
/-
  isup, plain Lean: what Decode takes, Encode writes again.
-/
namespace Go.Proofs.Ythemnajgdoambaa.Iq
open Go.RowKit Go.Shelf Go.Proofs.YthemnajgdoambaaW.PrintWords Go.Proofs.YthemnajgdoambaaW.PrintLast Go.Proofs.YthemnajgdoambaaW.PrintMore Go.Proofs.Ythemnajgdoambaa.Is Go.Proofs.Ythemnajgdoambaa.Vm Go.Proofs.Ythemnajgdoambaa.Iv
set_option linter.unusedVariables false
set_option linter.unusedSimpArgs false

theorem strOfNums_size (l : List Int) : (strOfNums l).size = l.length := by
  show (strOfNums l).data.size = _
  rw [← Array.length_toList, strOfNums_data, List.length_map]
theorem cut_split (l : List Int) {a b c : Nat} (h1 : a ≤ b) (h2 : b ≤ c) : (l.take c).drop a = (l.take b).drop a ++ (l.take c).drop b := by
  have e : l.take c = l.take b ++ (l.take c).drop b := by
    have := (List.take_append_drop b (l.take c)).symm
    rw [List.take_take, Nat.min_eq_left h2] at this
    exact this
  by_cases hb : b ≤ l.length
  · conv => lhs; rw [e]
    rw [List.drop_append_of_le_length (by rw [List.length_take]; omega)]
  · rw [List.take_of_length_le (by omega), List.take_of_length_le (by omega), List.drop_of_length_le (l := l) (i := b) (by omega), List.append_nil]

/-! ### a field's place -/
def Fd.slot : Fd → Nat
  | .int f _ _ => f.off
  | .addr f _ => f.off
  | .bool f => f.off
def Fd.look (s : Sig) : Fd → Int × ByteArray × Bool
  | .int f _ _ => (f.get s, noStr, false)
  | .addr f _ => (0, f.get s, false)
  | .bool f => (0, noStr, f.get s)
theorem look_bytes {d : Fd} {s t : Sig} (h : d.look s = d.look t) : d.bytes s = d.bytes t := by
  cases d <;> simp only [Fd.look, Prod.mk.injEq, true_and, and_true] at h <;> simp only [Fd.bytes, h]
theorem look_far {d e : Fd} (a t : Sig) (h : d.slot ≠ e.slot) : d.look (e.cpy a t) = d.look t := by
  cases d with
  | int f _ _ => cases e with
    | int g _ _ => cases f <;> cases g <;> first | rfl | exact absurd rfl h
    | addr g _ => cases f <;> cases g <;> rfl
    | bool g => cases f <;> cases g <;> rfl
  | addr f _ => cases e with
    | int g _ _ => cases f <;> cases g <;> rfl
    | addr g _ => cases f <;> cases g <;> first | rfl | exact absurd rfl h
    | bool g => cases f <;> cases g <;> rfl
  | bool f => cases e with
    | int g _ _ => cases f <;> cases g <;> rfl
    | addr g _ => cases f <;> cases g <;> rfl
    | bool g => cases f <;> cases g <;> first | rfl | exact absurd rfl h
theorem cpy_kind (d : Fd) (a t : Sig) : (d.cpy a t).kind = t.kind := by
  cases d with
  | int f _ _ => cases f <;> rfl
  | addr f _ => cases f <;> rfl
  | bool f => cases f <;> rfl

/-- What one read says. -/
theorem read_back {l : List Int} {d : Fd} {at_ at' : Int} {lg lg' : Bool} {s s' : Sig} (hb : Bytes l) (h0 : 0 ≤ at_) (hle : at_ ≤ (l.length : Int)) (h : d.read l at_ lg s = .inr (s', at', lg')) :
    at_ ≤ at' ∧ at' ≤ (l.length : Int) ∧ s' = d.cpy s' s ∧ (lg' = false → lg = false ∧ (l.take at'.toNat).drop at_.toNat = d.bytes s') := by
  cases d with
  | int f lo hi =>
    unfold Fd.read at h
    dsimp only at h
    obtain ⟨v, nx, er, hu⟩ : ∃ v nx er, uintS l at_ = (v, nx, er) := ⟨_, _, _, rfl⟩
    rw [hu] at h
    dsimp only at h
    split at h
    · rename_i he
      subst he
      obtain ⟨n, hn, rfl, _, hnx, hnl, hcut, _⟩ := uint_canon hb hu
      split at h
      · simp only [Sum.inr.injEq, Prod.mk.injEq] at h
        obtain ⟨rfl, rfl, rfl⟩ := h
        exact ⟨by omega, hnl, by cases f <;> rfl, fun h => by cases h⟩
      · simp only [Sum.inr.injEq, Prod.mk.injEq] at h
        obtain ⟨rfl, rfl, rfl⟩ := h
        refine ⟨by omega, hnl, by cases f <;> rfl, fun h => ⟨h, ?_⟩⟩
        rw [hcut]
        cases f <;> simp [Fd.bytes, IF.get, IF.set]
    · simp at h
  | addr f e =>
    unfold Fd.read at h
    dsimp only at h
    obtain ⟨v, nx, er, hu⟩ : ∃ v nx er, seqS l at_ 15 = (v, nx, er) := ⟨_, _, _, rfl⟩
    rw [hu] at h
    dsimp only at h
    split at h
    · rename_i he
      subst he
      obtain ⟨_, hlt, hnl, hm, hcut⟩ := seq_canon hb hu
      simp only [Sum.inr.injEq, Prod.mk.injEq] at h
      obtain ⟨rfl, rfl, rfl⟩ := h
      have hv : Bytes v := by
        have := bytes_drop (bytes_take hb nx.toNat) at_.toNat
        rw [hcut] at this
        exact fun c hc => this c (List.mem_append_right _ hc)
      have e : (Fd.addr f e).bytes (f.set s (strOfNums v)) = enc v.length ++ v := by
        cases f <;> simp [Fd.bytes, SF.get, SF.set, strOfNums_size, bytesOf_strOfNums hv]
      exact ⟨by omega, hnl, by cases f <;> rfl, fun h => ⟨h, by rw [hcut, e]⟩⟩
    · simp at h
  | bool f =>
    unfold Fd.read at h
    dsimp only at h
    split at h
    · simp at h
    · rename_i h1
      split at h
      · simp at h
      · rename_i h2
        simp only [Sum.inr.injEq, Prod.mk.injEq] at h
        obtain ⟨rfl, rfl, rfl⟩ := h
        refine ⟨by omega, by omega, by cases f <;> rfl, fun h => ⟨h, ?_⟩⟩
        obtain ⟨j, rfl⟩ := Int.eq_ofNat_of_zero_le h0
        have hj : j < l.length := by omega
        obtain ⟨b0, b1⟩ := rd_byte hb hj
        have e1 : ((j : Int) + 1).toNat = j + 1 := by omega
        rw [e1, Int.toNat_natCast, List.drop_take, rd_of_drop hj, Nat.add_sub_cancel_left, List.take_succ_cons, List.take_zero]
        by_cases hz : rd l (j : Int) = 1
        · rw [hz]; cases f <;> rfl
        · have : rd l (j : Int) = 0 := by omega
          rw [this]; cases f <;> rfl
theorem read_err {l : List Int} {d : Fd} {at_ er : Int} {lg : Bool} {s : Sig} (h : d.read l at_ lg s = .inl er) : er ≠ 0 := by
  cases d with
  | int f lo hi =>
    simp only [Fd.read] at h
    split at h
    · split at h <;> simp at h
    · rename_i hn; simp only [Sum.inl.injEq] at h; omega
  | addr f e =>
    simp only [Fd.read] at h
    split at h
    · simp at h
    · rename_i hn; simp only [Sum.inl.injEq] at h; omega
  | bool f =>
    simp only [Fd.read] at h
    split at h
    · simp only [Sum.inl.injEq] at h; omega
    · split at h
      · simp only [Sum.inl.injEq] at h; omega
      · simp at h
theorem readAll_err {l : List Int} : ∀ (ds : List Fd) {at_ er : Int} {lg : Bool} {s : Sig}, readAll l ds s at_ lg = .inl er → er ≠ 0
  | [], at_, er, lg, s, h => by simp [readAll] at h
  | d :: ds, at_, er, lg, s, h => by
    rw [readAll] at h
    split at h
    · rename_i hr; simp only [Sum.inl.injEq] at h; subst h; exact read_err hr
    · exact readAll_err ds h

theorem readAll_back {l : List Int} (hb : Bytes l) : ∀ (ds : List Fd) {at_ at' : Int} {lg lg' : Bool} {s s' : Sig}, (ds.map Fd.slot).Nodup → 0 ≤ at_ → at_ ≤ (l.length : Int) → readAll l ds s at_ lg = .inr (s', at', lg') →
    at_ ≤ at' ∧ at' ≤ (l.length : Int) ∧ s'.kind = s.kind ∧ (∀ e : Fd, e.slot ∉ ds.map Fd.slot → e.look s' = e.look s) ∧ (lg' = false → lg = false ∧ (l.take at'.toNat).drop at_.toNat = ds.flatMap (Fd.bytes s'))
  | [], at_, at', lg, lg', s, s', _, h0, hle, h => by
    simp only [readAll, Sum.inr.injEq, Prod.mk.injEq] at h
    obtain ⟨rfl, rfl, rfl⟩ := h
    refine ⟨Int.le_refl _, hle, rfl, fun _ _ => rfl, fun h => ⟨h, ?_⟩⟩
    rw [List.drop_of_length_le (by rw [List.length_take]; omega)]
    rfl
  | d :: ds, at_, at', lg, lg', s, s', hn, h0, hle, h => by
    rw [List.map_cons, List.nodup_cons] at hn
    rw [readAll] at h
    split at h
    · simp at h
    · rename_i s1 at1 lg1 hr
      obtain ⟨r1, r2, r3, r4⟩ := read_back hb h0 hle hr
      obtain ⟨i1, i2, i3, i4, i5⟩ := readAll_back hb ds hn.2 (by omega) r2 h
      refine ⟨by omega, i2, ?_, fun e he => ?_, fun hl => ?_⟩
      · rw [i3, r3]; exact cpy_kind _ _ _
      · rw [List.map_cons, List.mem_cons, not_or] at he
        rw [i4 e he.2, r3]
        exact look_far _ _ he.1
      · obtain ⟨j1, j2⟩ := i5 hl
        obtain ⟨k1, k2⟩ := r4 j1
        refine ⟨k1, ?_⟩
        rw [cut_split l (b := at1.toNat) (by omega) (by omega), k2, j2, List.flatMap_cons, look_bytes (i4 d hn.1)]

theorem fields_nodup (k : Int) : ((fieldsS k).map Fd.slot).Nodup := by
  rcases fields_cases k with ⟨_, e⟩ | ⟨_, e⟩ | ⟨_, e⟩ | ⟨_, e⟩ | ⟨_, e⟩ | ⟨_, _, _, _, _, e⟩ <;> rw [e] <;> simp [Fd.slot, IF.off, SF.off, BF.off]

theorem dec_back {l : List Int} (hb : Bytes l) (h : (decS l).2 = 0) : validS_ (decS l).1 = true ∧ encS (decS l).1 = l := by
  unfold decS at h ⊢
  split at h
  · simp at h
  · rename_i h0
    rw [if_neg h0]
    split at h
    · simp at h
    · rename_i hk
      rw [if_neg hk]
      split at h
      · rename_i er hr
        exact absurd h (readAll_err _ hr)
      · rename_i s at_ lg hr
        split at h
        · rename_i hc
          rw [if_pos hc]
          dsimp only
          have hv : validS_ s = true := by
            have := hc.2.2
            unfold checkS at this
            cases hv : validS_ s
            · rw [hv] at this; simp at this
            · rfl
          refine ⟨hv, ?_⟩
          obtain ⟨_, _, i3, _, i5⟩ := readAll_back hb _ (fields_nodup _) (by decide) (by omega) hr
          obtain ⟨_, j2⟩ := i5 hc.2.1
          have i3' : s.kind = rd l 0 := i3
          have hp : 0 < l.length := by omega
          rw [enc_head hv, i3', ← j2, hc.1, Int.toNat_natCast, List.take_length]
          have := rd_of_drop hp
          simpa using this.symm
        · simp at h
theorem dec_err {l : List Int} (h : (decS l).2 ≠ 0) : (decS l).1 = zSig := by
  unfold decS at h ⊢
  split
  · rfl
  · rename_i h0
    rw [if_neg h0] at h
    split
    · rfl
    · rename_i hk
      rw [if_neg hk] at h
      split
      · rfl
      · rename_i s at_ lg hr
        rw [hr] at h
        dsimp only at h
        split
        · rename_i hc
          rw [if_pos hc] at h
          exact absurd rfl h
        · rfl
theorem enc_bytes_all {s : Sig} (h : validS_ s = true) : Bytes (encS s) := by
  obtain ⟨hk, ho, hc⟩ := (valid_iff s).1 h
  rw [enc_head h]
  intro c hc
  rcases List.mem_cons.1 hc with rfl | hc
  · omega
  · obtain ⟨d, hd, hc⟩ := List.mem_flatMap.1 hc
    cases d with
    | int f lo hi => exact enc_bytes _ c hc
    | addr f e =>
      rcases List.mem_append.1 hc with hc | hc
      · exact enc_bytes _ c hc
      · unfold bytesOf at hc
        obtain ⟨b, _, rfl⟩ := List.mem_map.1 hc
        have := b.toNat_lt
        omega
    | bool f =>
      have : c = if f.get s = true then 1 else 0 := List.mem_singleton.1 hc
      split at this <;> omega
theorem enc_len {s : Sig} (h : validS_ s = true) : (encS s).length ≤ 1 + 26 * 6 := by
  obtain ⟨hk, ho, hc⟩ := (valid_iff s).1 h
  have hl : ∀ ds : List Fd, (∀ d ∈ ds, d.ok s = true) → (∀ d ∈ ds, d.low) → (ds.flatMap (Fd.bytes s)).length ≤ 26 * ds.length := by
    intro ds
    induction ds with
    | nil => intro _ _; simp
    | cons d ds ih =>
      intro ho hl
      have := ih (fun x hx => ho x (List.mem_cons_of_mem _ hx)) (fun x hx => hl x (List.mem_cons_of_mem _ hx))
      have := bytes_len (ho d List.mem_cons_self) (hl d List.mem_cons_self)
      rw [List.flatMap_cons, List.length_append, List.length_cons]
      omega
  have := hl _ ho (fields_low _)
  have := fields_le s.kind
  rw [enc_head h, List.length_cons]
  omega
theorem enc_none {s : Sig} (h : validS_ s = false) : encS s = [] := by unfold encS; rw [h]; rfl
theorem enc_dec_all (s : Sig) : Bytes (encS s) ∧ (encS s).length ≤ 1 + 26 * 6 := by
  cases h : validS_ s
  · rw [enc_none h]; exact ⟨fun c hc => by simp at hc, by simp⟩
  · exact ⟨enc_bytes_all h, enc_len h⟩
end Go.Proofs.Ythemnajgdoambaa.Iq
