/- VarintRoundTrip: an unsigned integer, a signed integer, a byte string and a string that are appended to any prefix (prefix and strings of at most 4000 bytes) are decoded to the same values, one after the other, up to the end; the prefix is unchanged. -/
import Derived.Test.YtehdlomgclijdaaVix7
import Derived.Test.YtehdlomgclijdaaVe
set_option linter.unusedVariables false
namespace Go.Proofs.Ytehdlomgclijdaa.Pure
open Go.RowKit Go.Proofs.Ytehdlomgclijdaa.Vi Go.Proofs.YtehdlomgclijdaaW.PrintWords Go.Proofs.YtehdlomgclijdaaW.PrintLast Go.Proofs.Ytehdlomgclijdaa.Vm Go.Proofs.Ytehdlomgclijdaa.Vb Go.Proofs.Ytehdlomgclijdaa.Vc Go.Proofs.Ytehdlomgclijdaa.Vd Go.Proofs.Ytehdlomgclijdaa.Ve

theorem VarintRoundTrip : crossbarlaw01_VarintRoundTrip.Pure := by
  intro l0 a1 a2 l3 _ hlen0 wl0 w1 w2 _ hlen3 wl3
  have hb0 := wf_bytes wl0
  have hb3 := wf_bytes wl3
  have h1 := wf_u64 w1
  have h2 := wf_i64 w2
  obtain ⟨v, rfl⟩ := Int.eq_ofNat_of_zero_le h1.1
  have hv : v < 18446744073709551616 := by omega
  have hz := zz_lt h2.1 h2.2
  have e1 := enc_len10 hv
  have e2 := enc_len10 hz
  refine ⟨100, ?_⟩
  unfold crossbarlaw01_VarintRoundTrip.f crossbarlaw01_few.f
  rw [sane_eq 100 (by decide)]
  simp only [Option.bind_some, if_true]
  by_cases hf : (l0.length : Int) ≤ 4000
  · rw [if_pos hf]
    simp only [Option.bind_some]
    by_cases hg : (l3.length : Int) ≤ 4000
    · have e3 := enc_len10 (v := l3.length) (by omega)
      rw [if_pos (decide_eq_true hg), appendUint_eq 100 l0 v (by decide) (by omega) hv]
      simp only [Option.bind_some]
      rw [appendInt_eq 100 _ a2 (by decide) (by simp; omega) h2.1 h2.2]
      simp only [Option.bind_some]
      rw [appendBytes_eq 100 _ l3 (by decide) (by simp; omega)]
      simp only [Option.bind_some]
      rw [appendString_eq 100 _ l3 (by decide) hb3 (by simp; omega)]
      simp only [Option.bind_some]
      have hB : Bytes (l0 ++ enc v ++ enc (zz a2) ++ (enc l3.length ++ l3) ++ (enc l3.length ++ l3)) :=
        bytes_append (bytes_append (bytes_append (bytes_append hb0 (enc_bytes _)) (enc_bytes _)) (bytes_append (enc_bytes _) hb3)) (bytes_append (enc_bytes _) hb3)
      have hL : (l0 ++ enc v ++ enc (zz a2) ++ (enc l3.length ++ l3) ++ (enc l3.length ++ l3)).length = l0.length + (enc v).length + (enc (zz a2)).length + ((enc l3.length).length + l3.length) + ((enc l3.length).length + l3.length) := by simp only [List.length_append]
      have hT : (l0 ++ enc v ++ enc (zz a2) ++ (enc l3.length ++ l3) ++ (enc l3.length ++ l3)).take ((l0.length : Int)).toNat = l0 := by simp
      have d1 := uint_at l0 (enc (zz a2) ++ (enc l3.length ++ (l3 ++ (enc l3.length ++ l3)))) hv
      have d2 := uint_at (l0 ++ enc v) (enc l3.length ++ (l3 ++ (enc l3.length ++ l3))) hz
      have d3 := seq_at (l0 ++ enc v ++ enc (zz a2)) l3 (enc l3.length ++ l3) (l3.length : Int) (by omega) (by omega)
      have d4 := seq_at (l0 ++ enc v ++ enc (zz a2) ++ (enc l3.length ++ l3)) l3 [] (l3.length : Int) (by omega) (by omega)
      have n1 : l0 ++ (enc v ++ (enc (zz a2) ++ (enc l3.length ++ (l3 ++ (enc l3.length ++ l3))))) = l0 ++ enc v ++ enc (zz a2) ++ (enc l3.length ++ l3) ++ (enc l3.length ++ l3) := by simp
      have n2 : l0 ++ enc v ++ (enc (zz a2) ++ (enc l3.length ++ (l3 ++ (enc l3.length ++ l3)))) = l0 ++ enc v ++ enc (zz a2) ++ (enc l3.length ++ l3) ++ (enc l3.length ++ l3) := by simp
      have n3 : l0 ++ enc v ++ enc (zz a2) ++ (enc l3.length ++ (l3 ++ (enc l3.length ++ l3))) = l0 ++ enc v ++ enc (zz a2) ++ (enc l3.length ++ l3) ++ (enc l3.length ++ l3) := by simp
      have n4 : l0 ++ enc v ++ enc (zz a2) ++ (enc l3.length ++ l3) ++ (enc l3.length ++ (l3 ++ [])) = l0 ++ enc v ++ enc (zz a2) ++ (enc l3.length ++ l3) ++ (enc l3.length ++ l3) := by simp
      rw [n1] at d1
      rw [n2] at d2
      rw [n3] at d3
      rw [n4] at d4
      rw [hT]
      generalize l0 ++ enc v ++ enc (zz a2) ++ (enc l3.length ++ l3) ++ (enc l3.length ++ l3) = b at *
      rw [if_neg (by omega), if_pos (by omega), if_pos (by omega)]
      simp only [crossbarlaw01_VarintRoundTrip.j0]
      rw [if_neg (by simp), uint_eq 99 b _ (by decide) hB (by omega), d1]
      simp only [Option.bind_some]
      have p1 : (l0.length : Int) + ((enc v).length : Int) = ((l0 ++ enc v).length : Int) := by simp
      have d2' : intS b ((l0 ++ enc v).length : Int) = (a2, ((l0 ++ enc v).length : Int) + ((enc (zz a2)).length : Int), 0) := by
        unfold intS
        rw [d2]
        dsimp only
        rw [if_pos rfl, unzz_zz]
      rw [p1, int_eq 99 b _ (by decide) hB (by omega), d2']
      simp only [Option.bind_some]
      have p2 : ((l0 ++ enc v).length : Int) + ((enc (zz a2)).length : Int) = ((l0 ++ enc v ++ enc (zz a2)).length : Int) := by simp; omega
      rw [p2, bytes_eq 99 b _ _ (by decide) hB (by omega) (by omega), d3]
      simp only [Option.bind_some]
      have p3 : ((l0 ++ enc v ++ enc (zz a2)).length : Int) + ((enc l3.length).length : Int) + (l3.length : Int) = ((l0 ++ enc v ++ enc (zz a2) ++ (enc l3.length ++ l3)).length : Int) := by simp; omega
      rw [p3, string_eq 99 b _ _ (by decide) hB (by omega) (by omega), d4]
      simp only [Option.bind_some, if_true]
      congr 1
      rw [beq_iff_eq, hL]
      simp
      omega
    · rw [if_neg (by simpa using hg)]
  · rw [if_neg hf]
    simp only [Option.bind_some]
    rw [if_neg (by decide)]

end Go.Proofs.Ytehdlomgclijdaa.Pure
