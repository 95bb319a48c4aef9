/-
  Strings: AppendString and String of the package varint, and the reference's AppendBytes and Bytes, are the plain functions of Vc.
-/
import Derived.Test.YtehdlomgclijdaaVix6
import Derived.Test.YtehdlomgclijdaaVc
import Derived.Test.YtehdlomgclijdaaVd
set_option linter.unusedVariables false
namespace Go.Proofs.Ytehdlomgclijdaa.Ve
open Go.RowKit Go.Proofs.Ytehdlomgclijdaa.Vi Go.Proofs.YtehdlomgclijdaaW.PrintWords Go.Proofs.YtehdlomgclijdaaW.PrintLast Go.Proofs.YtehdlomgclijdaaW.PrintMore Go.Proofs.Ytehdlomgclijdaa.Vm Go.Proofs.Ytehdlomgclijdaa.Vb Go.Proofs.Ytehdlomgclijdaa.Vc Go.Proofs.Ytehdlomgclijdaa.Vd

theorem str_nil : strOfNums [] = (⟨#[]⟩ : ByteArray) := rfl

theorem bytesOf_strOfNums {l : List Int} (h : Bytes l) : bytesOf (strOfNums l) = l := by
  unfold bytesOf
  rw [strOfNums_data, List.map_map]
  conv => rhs; rw [← List.map_id l]
  apply List.map_congr_left
  intro c hc
  have := h c hc
  simp only [Function.comp_apply, id_eq]
  rw [UInt8.toNat_ofNat']
  omega

theorem seqString_eq (k : Nat) (l : List Int) (a m : Int) (hk : 30 ≤ k) (hl : Bytes l) (hlen : l.length ≤ 140737488351232) (hm : m ≤ 9223372036854775807) : varint_seq_string.f k l a m = some (strOfNums (seqS l a m).1, (seqS l a m).2.1, (seqS l a m).2.2) := by
  unfold varint_seq_string.f seqS
  by_cases h0 : m < 0
  · rw [if_pos h0, if_pos h0]
    rfl
  · rw [if_neg h0, if_neg h0, uint_eq k l a hk hl hlen]
    simp only [Option.bind_some]
    generalize hu : uintS l a = t
    obtain ⟨n, nx, e⟩ := t
    dsimp only
    by_cases he : e = 0
    · subst he
      obtain ⟨v, hv, rfl, ha, hi, hle, hcut, _⟩ := uint_canon hl hu
      rw [if_pos rfl, if_pos rfl, u64w, u64w, w64 (x := (l.length : Int) - nx) (by omega) (by omega), Int.emod_eq_of_lt (by omega) (by omega), Int.emod_eq_of_lt (by omega) (by omega)]
      by_cases h1 : (v : Int) > m
      · rw [if_pos h1, if_pos h1]
        rfl
      · rw [if_neg h1, if_neg h1]
        by_cases h2 : (v : Int) > (l.length : Int) - nx
        · rw [if_pos h2, if_pos h2]
          rfl
        · rw [if_neg h2, if_neg h2, w64 (x := (v : Int)) (by omega) (by omega), w64 (x := nx + (v : Int)) (by omega) (by omega), if_pos (by omega), if_pos (by omega), if_pos (by omega), clone_eq _ (by simp; omega)]
          rfl
    · rw [if_neg he, if_neg he]
      rfl

theorem string_eq (k : Nat) (l : List Int) (a m : Int) (hk : 30 ≤ k) (hl : Bytes l) (hlen : l.length ≤ 140737488351232) (hm : m ≤ 9223372036854775807) : varint_String.f k l a m = some (strOfNums (seqS l a m).1, (seqS l a m).2.1, (seqS l a m).2.2) := by
  unfold varint_String.f
  rw [seqString_eq k l a m hk hl hlen hm]
  rfl

theorem appendString_eq (k : Nat) (l p : List Int) (hk : 10 ≤ k) (hp : Bytes p) (hl : l.length + p.length ≤ 140737488351232) : varint_AppendString.f k l (strOfNums p) = some (l ++ (enc p.length ++ p)) := by
  unfold varint_AppendString.f varint_appendSeq_string.f
  have h10 := enc_len10 (v := p.length) (by omega)
  rw [strOfNums_size, u64w, Int.emod_eq_of_lt (by omega) (by omega), appendUint_eq k l p.length hk (by omega) (by omega), bytesOf_strOfNums hp]
  simp only [Option.bind_some]
  rw [if_pos (by simp; omega)]
  simp

theorem refBytes_eq (k : Nat) (l : List Int) (a m : Int) (hk : 30 ≤ k) (hl : Bytes l) (hlen : l.length ≤ 140737488351232) (hm : m ≤ 9223372036854775807) : crossbarref01_Bytes.f k l a m = some (seqS l a m) := by
  unfold crossbarref01_Bytes.f seqS
  by_cases h0 : m < 0
  · rw [if_pos h0, if_pos h0]
  · rw [if_neg h0, if_neg h0, refUint_eq k l a hk hl hlen]
    simp only [Option.bind_some]
    generalize hu : uintS l a = t
    obtain ⟨n, nx, e⟩ := t
    dsimp only
    by_cases he : e = 0
    · subst he
      obtain ⟨v, hv, rfl, ha, hi, hle, hcut, _⟩ := uint_canon hl hu
      rw [if_pos rfl, if_pos rfl, u64w, u64w, w64 (x := (l.length : Int) - nx) (by omega) (by omega), Int.emod_eq_of_lt (by omega) (by omega), Int.emod_eq_of_lt (by omega) (by omega)]
      by_cases h1 : (v : Int) > m
      · rw [if_pos h1, if_pos h1]
      · rw [if_neg h1, if_neg h1]
        by_cases h2 : (v : Int) > (l.length : Int) - nx
        · rw [if_pos h2, if_pos h2]
        · rw [if_neg h2, if_neg h2, w64 (x := (v : Int)) (by omega) (by omega), w64 (x := nx + (v : Int)) (by omega) (by omega), if_pos (by omega), if_pos (by omega), if_pos (by omega), if_pos (by simp; omega)]
          simp
    · rw [if_neg he, if_neg he]

theorem refAppendBytes_eq (k : Nat) (l p : List Int) (hk : 10 ≤ k) (hl : l.length + p.length ≤ 140737488351232) : crossbarref01_AppendBytes.f k l p = some (l ++ (enc p.length ++ p)) := by
  unfold crossbarref01_AppendBytes.f
  have h10 := enc_len10 (v := p.length) (by omega)
  rw [u64w, Int.emod_eq_of_lt (by omega) (by omega), refAppendUint_eq k l p.length hk (by omega) (by omega)]
  simp only [Option.bind_some]
  rw [if_pos (by simp; omega)]
  simp

end Go.Proofs.Ytehdlomgclijdaa.Ve
