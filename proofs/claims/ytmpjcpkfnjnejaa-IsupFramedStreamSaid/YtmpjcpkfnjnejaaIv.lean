/-
  The printed functions of the package varint are the plain ones of Vm and Vn: AppendUint, Uint, AppendString, String. (Written by wip/tools/emit_iv.py out of our own varint texts.)
-/
import Derived.Test.YtmpjcpkfnjnejaaIa
import Derived.Test.YtmpjcpkfnjnejaaVn
set_option linter.unusedVariables false
namespace Go.Proofs.Ytmpjcpkfnjnejaa.Iv
open Go.RowKit Go.Proofs.Ytmpjcpkfnjnejaa.Is Go.Proofs.YtmpjcpkfnjnejaaW.PrintWords Go.Proofs.YtmpjcpkfnjnejaaW.PrintLast Go.Proofs.YtmpjcpkfnjnejaaW.PrintMore Go.Proofs.Ytmpjcpkfnjnejaa.Vm

theorem w64 {x : Int} (h0 : -9223372036854775808 ≤ x) (h1 : x ≤ 9223372036854775807) : wrap64 x = x := by unfold wrap64; omega
theorem u64w (n : Int) : IntKind.u64.wrap n = n % 18446744073709551616 := by simp [IntKind.wrap, IntKind.bits, IntKind.signed]

theorem wf_u64 {x : Int} (h : (Lit.int .u64 x).wf = true) : 0 ≤ x ∧ x ≤ 18446744073709551615 := by
  simp only [Lit.wf, IntKind.min, IntKind.max, IntKind.signed, IntKind.bits, Bool.and_eq_true, decide_eq_true_eq, Bool.false_eq_true, if_false] at h; omega
theorem wf_i64 {x : Int} (h : (Lit.int .i64 x).wf = true) : -9223372036854775808 ≤ x ∧ x ≤ 9223372036854775807 := by
  simp only [Lit.wf, IntKind.min, IntKind.max, IntKind.signed, IntKind.bits, Bool.and_eq_true, decide_eq_true_eq, if_true] at h; omega
theorem wf_u8 {x : Int} (h : (Lit.int .u8 x).wf = true) : 0 ≤ x ∧ x ≤ 255 := by
  simp only [Lit.wf, IntKind.min, IntKind.max, IntKind.signed, IntKind.bits, Bool.and_eq_true, decide_eq_true_eq, Bool.false_eq_true, if_false] at h; omega
theorem wf_bytes {l : List Int} (h : ∀ x ∈ l, (Lit.int .u8 x).wf = true) : Bytes l := fun c hc => wf_u8 (h c hc)
theorem clone_eq (l : List Int) (h : l.length < 140737488355328) : slices_Clone_byte_byte.f l = some l := by
  unfold slices_Clone_byte_byte.f
  simp only [Option.bind_some, List.nil_append, List.length_nil, Nat.zero_add]
  rw [if_pos h]

theorem append_loop : ∀ (n v k : Nat) (xs : List Int), v < 2 * 128 ^ n → n < k → xs.length + n < 140737488355328 →
    varint_AppendUint.l0 k (v : Int) xs = some (xs ++ enc v) := by
  intro n
  induction n with
  | zero =>
    intro v k xs hv hk hx
    obtain ⟨k, rfl⟩ : ∃ m, k = m + 1 := ⟨k - 1, by omega⟩
    have hv2 : v < 2 := by simpa using hv
    rw [enc_small (by omega)]
    simp only [varint_AppendUint.l0]
    rw [if_neg (by omega), if_pos (by omega), Int.emod_eq_of_lt (by omega) (by omega)]
  | succ n ih =>
    intro v k xs hv hk hx
    obtain ⟨k, rfl⟩ : ∃ m, k = m + 1 := ⟨k - 1, by omega⟩
    simp only [varint_AppendUint.l0]
    by_cases h : v < 128
    · rw [if_neg (by omega), if_pos (by omega), Int.emod_eq_of_lt (by omega) (by omega), enc_small h]
    · rw [if_pos (by omega), if_pos (by omega), or128 (by omega) (by omega)]
      have e : ((v : Int) / 128) = ((v / 128 : Nat) : Int) := by omega
      have e2 : ((v : Int) % 256 % 128 + 128) = ((v % 128 + 128 : Nat) : Int) := by omega
      rw [e, e2, ih (v / 128) k _ (by rw [Nat.pow_succ] at hv; omega) (by omega) (by simp; omega), enc_big h]
      simp

theorem appendUint_eq (k : Nat) (l : List Int) (v : Nat) (hk : 10 ≤ k) (hl : l.length ≤ 140737488351232) (hv : v < 18446744073709551616) :
    varint_AppendUint.f k l (v : Int) = some (l ++ enc v) := by
  unfold varint_AppendUint.f
  rw [clone_eq l (by omega)]
  exact append_loop 9 v k l (by omega) (by omega) (by omega)

theorem rd_of_drop {l : List Int} {j : Nat} (h : j < l.length) : l.drop j = rd l (j : Int) :: l.drop (j + 1) := by
  rw [List.drop_eq_getElem_cons h]
  congr 1
  unfold rd
  simp [List.getD_eq_getElem?_getD, h]
theorem rd_byte {l : List Int} (hl : Bytes l) {j : Nat} (h : j < l.length) : 0 ≤ rd l (j : Int) ∧ rd l (j : Int) ≤ 255 := by
  refine hl _ ?_
  unfold rd
  simp only [Int.toNat_natCast, List.getD_eq_getElem?_getD, List.getElem?_eq_getElem h, Option.getD_some]
  exact List.getElem_mem h

theorem uint_full (K : Nat) (l : List Int) (a acc : Int) : varint_Uint.l0 (K + 1) l a acc 10 = some (0, 0, 11) := by
  simp only [varint_Uint.l0]
  rw [if_neg (by omega)]

theorem shl_eq {x y : Int} {i : Nat} (hi : i ≤ 9) (hy : y = 7 * (i : Int)) (hx0 : 0 ≤ x) (hx : x * 2 ^ (7 * i) < 18446744073709551616) : shl .u64 x y = x * 2 ^ (7 * i) := by
  have e : y.toNat = 7 * i := by omega
  unfold shl
  rw [e, Nat.min_eq_left (by simp [IntKind.bits]; omega), u64w, Int.emod_eq_of_lt (Int.mul_nonneg hx0 (Int.pow_nonneg (by decide))) hx]

theorem pow7 (i : Nat) : (2 : Int) ^ (7 * (i + 1)) = 2 ^ (7 * i) * 128 := by
  rw [Nat.mul_add, Int.pow_add]
  rfl

theorem pow_le {i : Nat} (hi : i ≤ 8) : (2 : Int) ^ (7 * i) ≤ 72057594037927936 := by
  have h : (2 : Nat) ^ (7 * i) ≤ 2 ^ 56 := Nat.pow_le_pow_right (by decide) (by omega)
  have e : (2 : Int) ^ (7 * i) = ((2 ^ (7 * i) : Nat) : Int) := by rw [Int.natCast_pow]; rfl
  rw [e]
  have : (2 : Nat) ^ 56 = 72057594037927936 := by decide
  omega

theorem uint_loop (l : List Int) (hl : Bytes l) (hlen : l.length ≤ 140737488351232) (a : Nat) : ∀ (n i K : Nat) (acc : Int), n + i = 10 → a + i ≤ l.length → 0 ≤ acc → acc < 2 ^ (7 * i) → 2 * n + 2 ≤ K →
    varint_Uint.l0 K l (a : Int) acc (i : Int) = some (scan n (l.drop (a + i)) (decide (0 < i)) acc (2 ^ (7 * i)) ((a : Int) + i)) := by
  intro n
  induction n with
  | zero =>
    intro i K acc hni hai h0 h1 hK
    obtain ⟨K, rfl⟩ : ∃ m, K = m + 1 := ⟨K - 1, by omega⟩
    obtain rfl : i = 10 := by omega
    exact uint_full K l a acc
  | succ n ih =>
    intro i K acc hni hai h0 h1 hK
    obtain ⟨K, rfl⟩ : ∃ m, K = m + 1 := ⟨K - 1, by omega⟩
    simp only [varint_Uint.l0]
    rw [w64 (x := (a : Int) + (i : Int)) (by omega) (by omega), w64 (x := 7 * (i : Int)) (by omega) (by omega), w64 (x := (i : Int) + 1) (by omega) (by omega), if_pos (by omega)]
    by_cases he : a + i = l.length
    · rw [if_pos (by omega), he, List.drop_length]
      rfl
    · have hlt : a + i < l.length := by omega
      have hc := rd_byte hl hlt
      have ec : (a : Int) + (i : Int) = ((a + i : Nat) : Int) := by omega
      rw [if_neg (by omega), if_pos (by omega), if_pos (by omega), if_pos (by omega), rd_of_drop hlt, ec]
      generalize rd l ((a + i : Nat) : Int) = c at hc ⊢
      rw [andNot128 hc.1 hc.2, u64w, Int.emod_eq_of_lt (show 0 ≤ c % 128 by omega) (by omega)]
      rw [scan]
      by_cases hb : c ≥ 128
      · rw [if_neg (fun h => by have := (and128 hc.1 hc.2).1 h; omega), if_pos hb]
        by_cases h9 : i = 9
        · obtain rfl : n = 0 := by omega
          subst h9
          obtain ⟨K, rfl⟩ : ∃ m, K = m + 1 := ⟨K - 1, by omega⟩
          rw [show ((9 : Nat) : Int) + 1 = 10 by decide, uint_full]
          rfl
        · have hp := pow_le (i := i) (by omega)
          have hpos : (0 : Int) < 2 ^ (7 * i) := Int.pow_pos (by decide)
          have hmul : c % 128 * 2 ^ (7 * i) ≤ 127 * 2 ^ (7 * i) := Int.mul_le_mul_of_nonneg_right (by omega) (by omega)
          have hmul0 : 0 ≤ c % 128 * 2 ^ (7 * i) := Int.mul_nonneg (by omega) (by omega)
          rw [shl_eq (i := i) (by omega) rfl (by omega) (by omega), or_join (i := 7 * i) (by omega) h0 h1 (by omega) (by omega)]
          have e1 : c % 128 = c - 128 := by omega
          have e2 : (i : Int) + 1 = ((i + 1 : Nat) : Int) := by omega
          rw [e2, ih (i + 1) K _ (by omega) (by omega) (by omega) (by rw [pow7]; omega) (by omega), pow7, e1]
          simp only [Nat.zero_lt_succ, decide_true, Int.natCast_add]
          congr 2
      · rw [if_pos ((and128 hc.1 hc.2).2 (by omega)), if_neg hb]
        obtain ⟨K, rfl⟩ : ∃ m, K = m + 1 := ⟨K - 1, by omega⟩
        have e1 : c % 128 = c := by omega
        rw [e1]
        by_cases h9 : i = 9
        · subst h9
          obtain rfl : n = 0 := by omega
          rw [if_pos (show ((9 : Nat) : Int) = 9 from rfl)]
          simp only [varint_Uint.j2]
          by_cases h2 : c > 1
          · rw [if_pos (show decide (c > 1) = true by simpa using h2), if_pos (show True ∧ c > 1 from ⟨trivial, h2⟩)]
          · rw [if_neg (show ¬ decide (c > 1) = true by simpa using h2), if_neg (show ¬ (True ∧ c > 1) from fun h => h2 h.2), if_pos (show ((9 : Nat) : Int) > 0 by decide)]
            by_cases h3 : c = 0
            · rw [if_pos h3, if_pos (show decide (0 < 9) = true ∧ c = 0 from ⟨by decide, h3⟩)]
            · rw [if_neg h3, if_neg (show ¬ (decide (0 < 9) = true ∧ c = 0) from fun h => h3 h.2)]
              obtain rfl : c = 1 := by omega
              rw [w64 (x := (a : Int) + ((9 : Nat) : Int)) (by omega) (by omega), w64 (x := (a : Int) + ((9 : Nat) : Int) + 1) (by omega) (by omega), shl_eq (i := 9) (by omega) rfl (by omega) (by decide), or_join (i := 7 * 9) (by omega) h0 h1 (by omega) (by decide)]
              rfl
        · rw [if_neg (by omega), if_neg (fun h => h9 (by omega))]
          simp only [varint_Uint.j2]
          rw [if_neg (by decide)]
          have hp := pow_le (i := i) (by omega)
          have hpos : (0 : Int) < 2 ^ (7 * i) := Int.pow_pos (by decide)
          have hmul : c * 2 ^ (7 * i) ≤ 127 * 2 ^ (7 * i) := Int.mul_le_mul_of_nonneg_right (by omega) (by omega)
          rw [shl_eq (i := i) (by omega) rfl (by omega) (by omega), or_join (i := 7 * i) (by omega) h0 h1 (by omega) (by omega)]
          rw [w64 (x := (a : Int) + (i : Int)) (by omega) (by omega), w64 (x := (a : Int) + (i : Int) + 1) (by omega) (by omega), ec]
          by_cases hi0 : 0 < i
          · rw [if_pos (by omega)]
            by_cases h3 : c = 0
            · rw [if_pos h3, if_pos ⟨by simpa using hi0, h3⟩]
            · rw [if_neg h3, if_neg (fun h => h3 h.2)]
          · rw [if_neg (by omega), if_neg (fun h => hi0 (by simpa using h.1))]

theorem uint_eq (k : Nat) (l : List Int) (a : Int) (hk : 30 ≤ k) (hl : Bytes l) (hlen : l.length ≤ 140737488351232) : varint_Uint.f k l a = some (uintS l a) := by
  obtain ⟨k, rfl⟩ : ∃ m, k = m + 1 := ⟨k - 1, by omega⟩
  unfold varint_Uint.f uintS
  simp only [varint_Uint.j0]
  by_cases h : a < 0
  · rw [if_pos h, if_pos trivial, if_pos (.inl h)]
  · rw [if_neg h]
    by_cases h2 : a > (l.length : Int)
    · rw [if_pos (by simpa using h2), if_pos (.inr h2)]
    · rw [if_neg (by simpa using h2), if_neg (by omega)]
      obtain ⟨A, rfl⟩ := Int.eq_ofNat_of_zero_le (show 0 ≤ a by omega)
      have := uint_loop l hl hlen A 10 0 k 0 (by omega) (by omega) (by omega) (by decide) (by omega)
      simpa using this

def seqS (l : List Int) (a m : Int) : List Int × Int × Int :=
  if m < 0 then ([], 0, 1)
  else if (uintS l a).2.2 = 0 then
    if (uintS l a).1 > m then ([], 0, 2)
    else if (uintS l a).1 > (l.length : Int) - (uintS l a).2.1 then ([], 0, 10)
    else ((l.take ((uintS l a).2.1 + (uintS l a).1).toNat).drop ((uintS l a).2.1).toNat, (uintS l a).2.1 + (uintS l a).1, 0)
  else ([], 0, (uintS l a).2.2)

theorem seq_at (pre p q : List Int) (m : Int) (hp : p.length < 18446744073709551616) (hm : (p.length : Int) ≤ m) :
    seqS (pre ++ (enc p.length ++ (p ++ q))) (pre.length : Int) m = (p, (pre.length : Int) + ((enc p.length).length : Int) + (p.length : Int), 0) := by
  unfold seqS
  rw [uint_at pre (p ++ q) hp]
  dsimp only
  rw [if_neg (by omega), if_pos rfl, if_neg (by omega), if_neg (by simp; omega)]
  have e1 : ((pre.length : Int) + ((enc p.length).length : Int)).toNat = pre.length + (enc p.length).length := by omega
  have e2 : ((pre.length : Int) + ((enc p.length).length : Int) + (p.length : Int)).toNat = pre.length + (enc p.length).length + p.length := by omega
  rw [e1, e2, List.drop_take]
  have e3 : (pre ++ (enc p.length ++ (p ++ q))).drop (pre.length + (enc p.length).length) = p ++ q := by
    rw [← List.append_assoc, List.drop_left' (by simp)]
  rw [e3, Nat.add_sub_cancel_left]
  simp

theorem seq_zero (p q : List Int) (m : Int) (hp : p.length < 18446744073709551616) (hm : (p.length : Int) ≤ m) :
    seqS (enc p.length ++ (p ++ q)) 0 m = (p, ((enc p.length).length : Int) + (p.length : Int), 0) := by
  have := seq_at [] p q m hp hm
  simpa using this

/-- At a cut behind the length: the limit decides first, then what is missing. -/
theorem seq_cut (p : List Int) (j : Nat) (m : Int) (hp : p.length < 18446744073709551616) (h1 : (enc p.length).length ≤ j) (h2 : j < (enc p.length).length + p.length) (hm0 : 0 ≤ m) :
    seqS ((enc p.length ++ p).take j) 0 m = if (p.length : Int) > m then ([], 0, 2) else ([], 0, 10) := by
  have e : (enc p.length ++ p).take j = enc p.length ++ p.take (j - (enc p.length).length) := by
    rw [List.take_append, List.take_of_length_le h1]
  unfold seqS
  rw [e, uint_zero (p.take (j - (enc p.length).length)) hp]
  dsimp only
  rw [if_neg (by omega), if_pos rfl]
  by_cases hm : (p.length : Int) > m
  · rw [if_pos hm, if_pos hm]
  · rw [if_neg hm, if_neg hm, if_pos (by simp; omega)]

theorem seq_trunc (p : List Int) (j : Nat) (m : Int) (hp : p.length < 18446744073709551616) (h2 : j < (enc p.length ++ p).length) (hm : (p.length : Int) ≤ m) :
    (seqS ((enc p.length ++ p).take j) 0 m).2.2 = 10 := by
  rw [List.length_append] at h2
  by_cases h1 : (enc p.length).length ≤ j
  · rw [seq_cut p j m hp h1 h2 (by omega), if_neg (by omega)]
  · have e : (enc p.length ++ p).take j = (enc p.length).take j := by
      rw [List.take_append, Nat.sub_eq_zero_of_le (by omega)]
      simp
    unfold seqS
    rw [e, uint_take hp (by omega)]
    rw [if_neg (by omega), if_neg (by decide)]

theorem seq_err (l : List Int) (a m : Int) (h : (seqS l a m).2.2 ≠ 0) : (seqS l a m).1 = [] ∧ (seqS l a m).2.1 = 0 := by
  unfold seqS at h ⊢
  split
  · exact ⟨rfl, rfl⟩
  · rename_i h0
    rw [if_neg h0] at h
    split
    · rename_i h1
      rw [if_pos h1] at h
      split
      · exact ⟨rfl, rfl⟩
      · rename_i h2
        rw [if_neg h2] at h
        split
        · exact ⟨rfl, rfl⟩
        · rename_i h3
          rw [if_neg h3] at h
          exact absurd rfl h
    · exact ⟨rfl, rfl⟩

theorem seq_canon {l p : List Int} {a m i : Int} (hl : Bytes l) (h : seqS l a m = (p, i, 0)) :
    0 ≤ a ∧ a < i ∧ i ≤ (l.length : Int) ∧ (p.length : Int) ≤ m ∧ (l.take i.toNat).drop a.toNat = enc p.length ++ p := by
  unfold seqS at h
  split at h
  · simp at h
  · rename_i h0
    split at h
    · rename_i h1
      generalize hu : uintS l a = t at *
      obtain ⟨n, nx, e⟩ := t
      dsimp only at *
      subst h1
      obtain ⟨v, hv, rfl, ha, hi, hle, hcut, q, hq⟩ := uint_canon hl hu
      split at h
      · simp at h
      · split at h
        · simp at h
        · rename_i h2 h3
          simp only [Prod.mk.injEq, and_true] at h
          obtain ⟨rfl, rfl⟩ := h
          have hpos := enc_pos v
          have hpl : ((l.take (nx + (v : Int)).toNat).drop nx.toNat).length = v := by
            rw [List.length_drop, List.length_take]; omega
          refine ⟨ha, by omega, by omega, by omega, ?_⟩
          rw [hpl]
          have e1 : (nx + (v : Int)).toNat = a.toNat + ((enc v).length + v) := by omega
          have e2 : nx.toNat = a.toNat + (enc v).length := by omega
          rw [e1, e2, List.drop_take, List.drop_take, Nat.add_sub_cancel_left, ← Nat.add_assoc, Nat.add_sub_cancel_left, hq, List.take_append, List.take_of_length_le (by omega), Nat.add_sub_cancel_left]
          congr 1
          rw [← List.drop_drop, hq, List.drop_left]
    · rename_i h1
      simp only [Prod.mk.injEq] at h
      exact absurd h.2.2 h1

theorem bytes_take {l : List Int} (h : Bytes l) (n : Nat) : Bytes (l.take n) := fun c hc => h c (List.mem_of_mem_take hc)
theorem bytes_drop {l : List Int} (h : Bytes l) (n : Nat) : Bytes (l.drop n) := fun c hc => h c (List.mem_of_mem_drop hc)
theorem bytes_append {l m : List Int} (h : Bytes l) (k : Bytes m) : Bytes (l ++ m) := fun c hc => (List.mem_append.1 hc).elim (h c) (k c)

theorem str_nil : strOfNums [] = (⟨#[]⟩ : ByteArray) := rfl

theorem bytesOf_strOfNums {l : List Int} (h : Bytes l) : bytesOf (strOfNums l) = l := by
  unfold bytesOf
  rw [strOfNums_data, List.map_map]
  conv => rhs; rw [← List.map_id l]
  apply List.map_congr_left
  intro c hc
  have := h c hc
  simp only [Function.comp_apply, id_eq]
  rw [UInt8.toNat_ofNat']
  omega

theorem seqString_eq (k : Nat) (l : List Int) (a m : Int) (hk : 30 ≤ k) (hl : Bytes l) (hlen : l.length ≤ 140737488351232) (hm : m ≤ 9223372036854775807) : varint_seq_string.f k l a m = some (strOfNums (seqS l a m).1, (seqS l a m).2.1, (seqS l a m).2.2) := by
  unfold varint_seq_string.f seqS
  by_cases h0 : m < 0
  · rw [if_pos h0, if_pos h0]
    rfl
  · rw [if_neg h0, if_neg h0, uint_eq k l a hk hl hlen]
    simp only [Option.bind_some]
    generalize hu : uintS l a = t
    obtain ⟨n, nx, e⟩ := t
    dsimp only
    by_cases he : e = 0
    · subst he
      obtain ⟨v, hv, rfl, ha, hi, hle, hcut, _⟩ := uint_canon hl hu
      rw [if_pos rfl, if_pos rfl, u64w, u64w, w64 (x := (l.length : Int) - nx) (by omega) (by omega), Int.emod_eq_of_lt (by omega) (by omega), Int.emod_eq_of_lt (by omega) (by omega)]
      by_cases h1 : (v : Int) > m
      · rw [if_pos h1, if_pos h1]
        rfl
      · rw [if_neg h1, if_neg h1]
        by_cases h2 : (v : Int) > (l.length : Int) - nx
        · rw [if_pos h2, if_pos h2]
          rfl
        · rw [if_neg h2, if_neg h2, w64 (x := (v : Int)) (by omega) (by omega), w64 (x := nx + (v : Int)) (by omega) (by omega), if_pos (by omega), if_pos (by omega), if_pos (by omega), clone_eq _ (by simp; omega)]
          rfl
    · rw [if_neg he, if_neg he]
      rfl

theorem string_eq (k : Nat) (l : List Int) (a m : Int) (hk : 30 ≤ k) (hl : Bytes l) (hlen : l.length ≤ 140737488351232) (hm : m ≤ 9223372036854775807) : varint_String.f k l a m = some (strOfNums (seqS l a m).1, (seqS l a m).2.1, (seqS l a m).2.2) := by
  unfold varint_String.f
  rw [seqString_eq k l a m hk hl hlen hm]
  rfl

theorem appendString_eq (k : Nat) (l p : List Int) (hk : 10 ≤ k) (hp : Bytes p) (hl : l.length + p.length ≤ 140737488351232) : varint_AppendString.f k l (strOfNums p) = some (l ++ (enc p.length ++ p)) := by
  unfold varint_AppendString.f varint_appendSeq_string.f
  have h10 := enc_len10 (v := p.length) (by omega)
  rw [strOfNums_size, u64w, Int.emod_eq_of_lt (by omega) (by omega), appendUint_eq k l p.length hk (by omega) (by omega), bytesOf_strOfNums hp]
  simp only [Option.bind_some]
  rw [if_pos (by simp; omega)]
  simp
end Go.Proofs.Ytmpjcpkfnjnejaa.Iv
