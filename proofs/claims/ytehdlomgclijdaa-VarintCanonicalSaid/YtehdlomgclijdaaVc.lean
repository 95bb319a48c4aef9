/-
  Byte strings: AppendBytes and Bytes of the package varint are the plain functions 'enc p.length ++ p' and seqS; what seqS gives at whole, cut and bounded inputs.
-/
import Derived.Test.YtehdlomgclijdaaVix5
import Derived.Test.YtehdlomgclijdaaVb
set_option linter.unusedVariables false
namespace Go.Proofs.Ytehdlomgclijdaa.Vc
open Go.RowKit Go.Proofs.Ytehdlomgclijdaa.Vi Go.Proofs.YtehdlomgclijdaaW.PrintWords Go.Proofs.YtehdlomgclijdaaW.PrintLast Go.Proofs.YtehdlomgclijdaaW.PrintMore Go.Proofs.Ytehdlomgclijdaa.Vm Go.Proofs.Ytehdlomgclijdaa.Vb

def seqS (l : List Int) (a m : Int) : List Int × Int × Int :=
  if m < 0 then ([], 0, 1)
  else if (uintS l a).2.2 = 0 then
    if (uintS l a).1 > m then ([], 0, 2)
    else if (uintS l a).1 > (l.length : Int) - (uintS l a).2.1 then ([], 0, 10)
    else ((l.take ((uintS l a).2.1 + (uintS l a).1).toNat).drop ((uintS l a).2.1).toNat, (uintS l a).2.1 + (uintS l a).1, 0)
  else ([], 0, (uintS l a).2.2)

theorem seqBytes_eq (k : Nat) (l : List Int) (a m : Int) (hk : 30 ≤ k) (hl : Bytes l) (hlen : l.length ≤ 140737488351232) (hm : m ≤ 9223372036854775807) : varint_seq_byte.f k l a m = some (seqS l a m) := by
  unfold varint_seq_byte.f seqS
  by_cases h0 : m < 0
  · rw [if_pos h0, if_pos h0]
  · rw [if_neg h0, if_neg h0, uint_eq k l a hk hl hlen]
    simp only [Option.bind_some]
    generalize hu : uintS l a = t
    obtain ⟨n, nx, e⟩ := t
    dsimp only
    by_cases he : e = 0
    · subst he
      obtain ⟨v, hv, rfl, ha, hi, hle, hcut, _⟩ := uint_canon hl hu
      rw [if_pos rfl, if_pos rfl, u64w, u64w, w64 (x := (l.length : Int) - nx) (by omega) (by omega), Int.emod_eq_of_lt (by omega) (by omega), Int.emod_eq_of_lt (by omega) (by omega)]
      by_cases h1 : (v : Int) > m
      · rw [if_pos h1, if_pos h1]
      · rw [if_neg h1, if_neg h1]
        by_cases h2 : (v : Int) > (l.length : Int) - nx
        · rw [if_pos h2, if_pos h2]
        · rw [if_neg h2, if_neg h2, w64 (x := (v : Int)) (by omega) (by omega), w64 (x := nx + (v : Int)) (by omega) (by omega), if_pos (by omega), if_pos (by omega), if_pos (by omega), clone_eq _ (by simp; omega)]
          rfl
    · rw [if_neg he, if_neg he]

theorem bytes_eq (k : Nat) (l : List Int) (a m : Int) (hk : 30 ≤ k) (hl : Bytes l) (hlen : l.length ≤ 140737488351232) (hm : m ≤ 9223372036854775807) : varint_Bytes.f k l a m = some (seqS l a m) := by
  unfold varint_Bytes.f
  rw [seqBytes_eq k l a m hk hl hlen hm]
  rfl

theorem appendBytes_eq (k : Nat) (l p : List Int) (hk : 10 ≤ k) (hl : l.length + p.length ≤ 140737488351232) : varint_AppendBytes.f k l p = some (l ++ (enc p.length ++ p)) := by
  unfold varint_AppendBytes.f varint_appendSeq_byte.f
  have h10 := enc_len10 (v := p.length) (by omega)
  rw [u64w, Int.emod_eq_of_lt (by omega) (by omega), appendUint_eq k l p.length hk (by omega) (by omega)]
  simp only [Option.bind_some]
  rw [if_pos (by simp; omega)]
  simp

theorem seq_at (pre p q : List Int) (m : Int) (hp : p.length < 18446744073709551616) (hm : (p.length : Int) ≤ m) :
    seqS (pre ++ (enc p.length ++ (p ++ q))) (pre.length : Int) m = (p, (pre.length : Int) + ((enc p.length).length : Int) + (p.length : Int), 0) := by
  unfold seqS
  rw [uint_at pre (p ++ q) hp]
  dsimp only
  rw [if_neg (by omega), if_pos rfl, if_neg (by omega), if_neg (by simp; omega)]
  have e1 : ((pre.length : Int) + ((enc p.length).length : Int)).toNat = pre.length + (enc p.length).length := by omega
  have e2 : ((pre.length : Int) + ((enc p.length).length : Int) + (p.length : Int)).toNat = pre.length + (enc p.length).length + p.length := by omega
  rw [e1, e2, List.drop_take]
  have e3 : (pre ++ (enc p.length ++ (p ++ q))).drop (pre.length + (enc p.length).length) = p ++ q := by
    rw [← List.append_assoc, List.drop_left' (by simp)]
  rw [e3, Nat.add_sub_cancel_left]
  simp

theorem seq_zero (p q : List Int) (m : Int) (hp : p.length < 18446744073709551616) (hm : (p.length : Int) ≤ m) :
    seqS (enc p.length ++ (p ++ q)) 0 m = (p, ((enc p.length).length : Int) + (p.length : Int), 0) := by
  have := seq_at [] p q m hp hm
  simpa using this

/-- At a cut behind the length: the limit decides first, then what is missing. -/
theorem seq_cut (p : List Int) (j : Nat) (m : Int) (hp : p.length < 18446744073709551616) (h1 : (enc p.length).length ≤ j) (h2 : j < (enc p.length).length + p.length) (hm0 : 0 ≤ m) :
    seqS ((enc p.length ++ p).take j) 0 m = if (p.length : Int) > m then ([], 0, 2) else ([], 0, 10) := by
  have e : (enc p.length ++ p).take j = enc p.length ++ p.take (j - (enc p.length).length) := by
    rw [List.take_append, List.take_of_length_le h1]
  unfold seqS
  rw [e, uint_zero (p.take (j - (enc p.length).length)) hp]
  dsimp only
  rw [if_neg (by omega), if_pos rfl]
  by_cases hm : (p.length : Int) > m
  · rw [if_pos hm, if_pos hm]
  · rw [if_neg hm, if_neg hm, if_pos (by simp; omega)]

theorem seq_trunc (p : List Int) (j : Nat) (m : Int) (hp : p.length < 18446744073709551616) (h2 : j < (enc p.length ++ p).length) (hm : (p.length : Int) ≤ m) :
    (seqS ((enc p.length ++ p).take j) 0 m).2.2 = 10 := by
  rw [List.length_append] at h2
  by_cases h1 : (enc p.length).length ≤ j
  · rw [seq_cut p j m hp h1 h2 (by omega), if_neg (by omega)]
  · have e : (enc p.length ++ p).take j = (enc p.length).take j := by
      rw [List.take_append, Nat.sub_eq_zero_of_le (by omega)]
      simp
    unfold seqS
    rw [e, uint_take hp (by omega)]
    rw [if_neg (by omega), if_neg (by decide)]

theorem seq_err (l : List Int) (a m : Int) (h : (seqS l a m).2.2 ≠ 0) : (seqS l a m).1 = [] ∧ (seqS l a m).2.1 = 0 := by
  unfold seqS at h ⊢
  split
  · exact ⟨rfl, rfl⟩
  · rename_i h0
    rw [if_neg h0] at h
    split
    · rename_i h1
      rw [if_pos h1] at h
      split
      · exact ⟨rfl, rfl⟩
      · rename_i h2
        rw [if_neg h2] at h
        split
        · exact ⟨rfl, rfl⟩
        · rename_i h3
          rw [if_neg h3] at h
          exact absurd rfl h
    · exact ⟨rfl, rfl⟩

theorem seq_canon {l p : List Int} {a m i : Int} (hl : Bytes l) (h : seqS l a m = (p, i, 0)) :
    0 ≤ a ∧ a < i ∧ i ≤ (l.length : Int) ∧ (p.length : Int) ≤ m ∧ (l.take i.toNat).drop a.toNat = enc p.length ++ p := by
  unfold seqS at h
  split at h
  · simp at h
  · rename_i h0
    split at h
    · rename_i h1
      generalize hu : uintS l a = t at *
      obtain ⟨n, nx, e⟩ := t
      dsimp only at *
      subst h1
      obtain ⟨v, hv, rfl, ha, hi, hle, hcut, q, hq⟩ := uint_canon hl hu
      split at h
      · simp at h
      · split at h
        · simp at h
        · rename_i h2 h3
          simp only [Prod.mk.injEq, and_true] at h
          obtain ⟨rfl, rfl⟩ := h
          have hpos := enc_pos v
          have hpl : ((l.take (nx + (v : Int)).toNat).drop nx.toNat).length = v := by
            rw [List.length_drop, List.length_take]; omega
          refine ⟨ha, by omega, by omega, by omega, ?_⟩
          rw [hpl]
          have e1 : (nx + (v : Int)).toNat = a.toNat + ((enc v).length + v) := by omega
          have e2 : nx.toNat = a.toNat + (enc v).length := by omega
          rw [e1, e2, List.drop_take, List.drop_take, Nat.add_sub_cancel_left, ← Nat.add_assoc, Nat.add_sub_cancel_left, hq, List.take_append, List.take_of_length_le (by omega), Nat.add_sub_cancel_left]
          congr 1
          rw [← List.drop_drop, hq, List.drop_left]
    · rename_i h1
      simp only [Prod.mk.injEq] at h
      exact absurd h.2.2 h1

theorem and_ffff (x : Int) : 0 ≤ bits .and .i64 x 65535 ∧ bits .and .i64 x 65535 ≤ 65535 := by
  have h : (BitVec.ofInt 64 x &&& BitVec.ofInt 64 65535).toNat ≤ 65535 := by
    rw [BitVec.toNat_and]
    exact Nat.le_trans Nat.and_le_right (by decide)
  have e : bits .and .i64 x 65535 = IntKind.i64.wrap ((BitVec.ofInt 64 x &&& BitVec.ofInt 64 65535).toNat : Int) := rfl
  rw [e, IntKind.wrap_i64]
  omega
theorem cut_range (x : Int) (n : Nat) (hn : 0 < n) : 0 ≤ Int.tmod (bits .and .i64 x 65535) (n : Int) ∧ Int.tmod (bits .and .i64 x 65535) (n : Int) < (n : Int) := by
  rw [Int.tmod_eq_emod_of_nonneg (and_ffff x).1]
  exact ⟨Int.emod_nonneg _ (by omega), Int.emod_lt_of_pos _ (by omega)⟩

theorem bytes_take {l : List Int} (h : Bytes l) (n : Nat) : Bytes (l.take n) := fun c hc => h c (List.mem_of_mem_take hc)
theorem bytes_drop {l : List Int} (h : Bytes l) (n : Nat) : Bytes (l.drop n) := fun c hc => h c (List.mem_of_mem_drop hc)
theorem bytes_append {l m : List Int} (h : Bytes l) (k : Bytes m) : Bytes (l ++ m) := fun c hc => (List.mem_append.1 hc).elim (h c) (k c)

end Go.Proofs.Ytehdlomgclijdaa.Vc
