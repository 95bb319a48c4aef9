/-
  isup, plain Lean: Decode undoes Encode; every proper prefix is truncated; what Decode takes, Encode writes.
-/
import Derived.Test.YtmpjcpkfnjnejaaIq13
namespace Go.Proofs.Ytmpjcpkfnjnejaa.Iq
open Go.RowKit Go.Shelf Go.Proofs.YtmpjcpkfnjnejaaW.PrintWords Go.Proofs.YtmpjcpkfnjnejaaW.PrintLast Go.Proofs.YtmpjcpkfnjnejaaW.PrintMore Go.Proofs.Ytmpjcpkfnjnejaa.Is Go.Proofs.Ytmpjcpkfnjnejaa.Vm Go.Proofs.Ytmpjcpkfnjnejaa.Iv
set_option linter.unusedVariables false
set_option linter.unusedSimpArgs false

theorem rd_at (p q : List Int) (x : Int) : rd (p ++ x :: q) (p.length : Int) = x := by
  unfold rd
  simp [List.getD_eq_getElem?_getD]

/-! ### reading what was written -/
theorem read_bytes {s : Sig} {d : Fd} (h : d.ok s = true) (hl : d.low) (p q : List Int) (t : Sig) : d.read (p ++ (d.bytes s ++ q)) (p.length : Int) false t = .inr (d.cpy s t, (p.length : Int) + ((d.bytes s).length : Int), false) := by
  cases d with
  | int f lo hi =>
    obtain ⟨h0, h1⟩ := ok_num h hl
    have hu : uintS (p ++ ((Fd.int f lo hi).bytes s ++ q)) (p.length : Int) = (f.get s, (p.length : Int) + (((Fd.int f lo hi).bytes s).length : Int), 0) := by
      have := uint_at p q (v := (f.get s).toNat) (by omega)
      rw [Int.toNat_of_nonneg h0] at this
      exact this
    simp only [Fd.read, hu, if_true, Fd.cpy]
    rw [if_neg (by omega)]
  | addr f e =>
    have h1 := ok_size h
    have hb : (bytesOf (f.get s)).length = (f.get s).size := bytesOf_length _
    have hu : seqS (p ++ ((Fd.addr f e).bytes s ++ q)) (p.length : Int) 15 = (bytesOf (f.get s), (p.length : Int) + (((Fd.addr f e).bytes s).length : Int), 0) := by
      have := seq_at p (bytesOf (f.get s)) q 15 (by omega) (by omega)
      rw [hb] at this
      have e1 : p ++ ((Fd.addr f e).bytes s ++ q) = p ++ (enc (f.get s).size ++ (bytesOf (f.get s) ++ q)) := by simp [Fd.bytes]
      have e2 : (((Fd.addr f e).bytes s).length : Int) = ((enc (f.get s).size).length : Int) + ((f.get s).size : Int) := by simp [Fd.bytes, hb]
      rw [e1, this, e2, Int.add_assoc]
    simp only [Fd.read, hu, if_true, Fd.cpy, str_bytes]
  | bool f =>
    have hr : rd (p ++ ((Fd.bool f).bytes s ++ q)) (p.length : Int) = if f.get s = true then 1 else 0 := by
      simp only [Fd.bytes, List.singleton_append, rd_at]
    have hn : (p ++ ((Fd.bool f).bytes s ++ q)).length = p.length + 1 + q.length := by simp [Fd.bytes]; omega
    simp only [Fd.read, hr]
    rw [if_neg (by omega), if_neg (by split <;> decide)]
    cases hf : f.get s <;> simp [Fd.cpy, Fd.bytes, hf]

theorem readAll_bytes {s : Sig} : ∀ (ds : List Fd) (p q : List Int) (t : Sig), (∀ d ∈ ds, d.ok s = true) → (∀ d ∈ ds, d.low) →
    readAll (p ++ (ds.flatMap (Fd.bytes s) ++ q)) ds t (p.length : Int) false = .inr (cpyAll ds s t, (p.length : Int) + ((ds.flatMap (Fd.bytes s)).length : Int), false)
  | [], p, q, t, _, _ => by simp [readAll, cpyAll]
  | d :: ds, p, q, t, ho, hl => by
    have h1 := read_bytes (ho d List.mem_cons_self) (hl d List.mem_cons_self) p (ds.flatMap (Fd.bytes s) ++ q) t
    have e : p ++ ((d :: ds).flatMap (Fd.bytes s) ++ q) = p ++ (d.bytes s ++ (ds.flatMap (Fd.bytes s) ++ q)) := by simp
    rw [e, readAll, h1]
    dsimp only
    have ih := readAll_bytes ds (p ++ d.bytes s) q (d.cpy s t) (fun x hx => ho x (List.mem_cons_of_mem _ hx)) (fun x hx => hl x (List.mem_cons_of_mem _ hx))
    rw [List.length_append, List.append_assoc] at ih
    have e2 : ((p.length : Int) + ((d.bytes s).length : Int)) = ((p.length + (d.bytes s).length : Nat) : Int) := by omega
    rw [e2, ih]
    simp only [cpyAll, List.foldl_cons, List.flatMap_cons, List.length_append, Sum.inr.injEq, Prod.mk.injEq, true_and, and_true]
    omega

theorem enc_head {s : Sig} (h : validS_ s = true) : encS s = s.kind :: (fieldsS s.kind).flatMap (Fd.bytes s) := by unfold encS; rw [if_pos h]

theorem dec_parts {s : Sig} (h : validS_ s = true) (q : List Int) :
    decS (encS s ++ q) = if q = [] then (s, 0) else (zSig, 110) := by
  obtain ⟨hk, ho, hc⟩ := (valid_iff s).1 h
  have hr : rd (encS s ++ q) 0 = s.kind := by
    have := rd_at [] ((fieldsS s.kind).flatMap (Fd.bytes s) ++ q) s.kind
    rw [enc_head h]
    simpa using this
  have hkn : known s.kind = true := by unfold known; simp [hk.1, hk.2]
  have hra := readAll_bytes (s := s) (fieldsS s.kind) [s.kind] q { zSig with kind := s.kind } ho (fields_low _)
  rw [cpy_clean hc] at hra
  have e : [s.kind] ++ ((fieldsS s.kind).flatMap (Fd.bytes s) ++ q) = encS s ++ q := by rw [enc_head h]; rfl
  rw [e] at hra
  have e1 : (([s.kind] : List Int).length : Int) = 1 := rfl
  rw [e1] at hra
  have hn : (encS s ++ q).length = 1 + ((fieldsS s.kind).flatMap (Fd.bytes s)).length + q.length := by rw [enc_head h, List.length_append, List.length_cons]; omega
  unfold decS
  rw [if_neg (by omega), hr, hkn, if_neg (by decide), hra]
  dsimp only
  have hs : checkS s = 0 := by unfold checkS; rw [if_pos h]
  by_cases hq : q = []
  · subst hq
    rw [if_pos rfl, if_pos ⟨by rw [hn]; simp, rfl, hs⟩]
  · rw [if_neg hq, if_neg]
    rintro ⟨h1, _⟩
    have : 0 < q.length := List.length_pos_iff.2 hq
    omega
theorem dec_enc {s : Sig} (h : validS_ s = true) : decS (encS s) = (s, 0) := by
  have := dec_parts h []
  simpa using this
theorem dec_more {s : Sig} (h : validS_ s = true) (x : Int) : decS (encS s ++ [x]) = (zSig, 110) := by
  rw [dec_parts h [x], if_neg (by simp)]

/-! ### a proper prefix -/
theorem uint_cut (p : List Int) {v j : Nat} (hv : v < 18446744073709551616) (hj : j < (enc v).length) : uintS (p ++ (enc v).take j) (p.length : Int) = (0, 0, 10) := by
  unfold uintS
  rw [if_neg (by simp; omega)]
  have e : (p ++ (enc v).take j).drop ((p.length : Int)).toNat = (enc v).take j := by simp
  rw [e]
  exact scan_take 9 v j false 0 1 _ (by omega) hj
theorem seq_cut_at (pre p : List Int) (j : Nat) (m : Int) (hp : p.length < 18446744073709551616) (h2 : j < (enc p.length ++ p).length) (hm : (p.length : Int) ≤ m) :
    (seqS (pre ++ (enc p.length ++ p).take j) (pre.length : Int) m).2.2 = 10 := by
  rw [List.length_append] at h2
  by_cases h1 : (enc p.length).length ≤ j
  · have e : (enc p.length ++ p).take j = enc p.length ++ p.take (j - (enc p.length).length) := by
      rw [List.take_append, List.take_of_length_le h1]
    unfold seqS
    rw [e, uint_at pre (p.take (j - (enc p.length).length)) hp]
    dsimp only
    rw [if_neg (by omega), if_pos rfl, if_neg (by omega), if_pos (by simp; omega)]
  · have e : (enc p.length ++ p).take j = (enc p.length).take j := by
      rw [List.take_append, Nat.sub_eq_zero_of_le (by omega)]
      simp
    unfold seqS
    rw [e, uint_cut pre hp (by omega)]
    rw [if_neg (by omega), if_neg (by decide)]
theorem read_cut {s : Sig} {d : Fd} (h : d.ok s = true) (hl : d.low) (p : List Int) (j : Nat) (hj : j < (d.bytes s).length) (t : Sig) : d.read (p ++ (d.bytes s).take j) (p.length : Int) false t = .inl 10 := by
  cases d with
  | int f lo hi =>
    obtain ⟨h0, h1⟩ := ok_num h hl
    have hu : uintS (p ++ ((Fd.int f lo hi).bytes s).take j) (p.length : Int) = (0, 0, 10) := uint_cut p (v := (f.get s).toNat) (by omega) hj
    simp only [Fd.read, hu]
    rw [if_neg (by decide)]
  | addr f e =>
    have h1 := ok_size h
    have hb : (bytesOf (f.get s)).length = (f.get s).size := bytesOf_length _
    have hj' : j < (enc (bytesOf (f.get s)).length ++ bytesOf (f.get s)).length := by rw [hb]; exact hj
    have hc := seq_cut_at p (bytesOf (f.get s)) j 15 (by omega) hj' (by omega)
    rw [hb] at hc
    have hc' : (seqS (p ++ ((Fd.addr f e).bytes s).take j) (p.length : Int) 15).2.2 = 10 := hc
    simp only [Fd.read, hc']
    rw [if_neg (by decide)]
  | bool f =>
    have h0 : j = 0 := by simp [Fd.bytes] at hj; exact hj
    subst h0
    show (if _ then _ else _) = _
    rw [if_pos (by simp)]
theorem readAll_cut {s : Sig} : ∀ (ds : List Fd) (p : List Int) (j : Nat) (t : Sig), (∀ d ∈ ds, d.ok s = true) → (∀ d ∈ ds, d.low) → j < (ds.flatMap (Fd.bytes s)).length →
    readAll (p ++ (ds.flatMap (Fd.bytes s)).take j) ds t (p.length : Int) false = .inl 10
  | [], p, j, t, _, _, hj => by simp at hj
  | d :: ds, p, j, t, ho, hl, hj => by
    have o1 := ho d List.mem_cons_self
    have l1 := hl d List.mem_cons_self
    rw [List.flatMap_cons, List.length_append] at hj
    by_cases h : j < (d.bytes s).length
    · have e : ((d :: ds).flatMap (Fd.bytes s)).take j = (d.bytes s).take j := by
        rw [List.flatMap_cons, List.take_append, Nat.sub_eq_zero_of_le (by omega)]
        simp
      rw [e, readAll, read_cut o1 l1 p j h t]
    · have e : p ++ ((d :: ds).flatMap (Fd.bytes s)).take j = p ++ (d.bytes s ++ (ds.flatMap (Fd.bytes s)).take (j - (d.bytes s).length)) := by
        rw [List.flatMap_cons, List.take_append, List.take_of_length_le (by omega)]
      rw [e, readAll, read_bytes o1 l1 p _ t]
      dsimp only
      have ih := readAll_cut ds (p ++ d.bytes s) (j - (d.bytes s).length) (d.cpy s t) (fun x hx => ho x (List.mem_cons_of_mem _ hx)) (fun x hx => hl x (List.mem_cons_of_mem _ hx)) (by omega)
      rw [List.length_append, List.append_assoc] at ih
      have e2 : ((p.length : Int) + ((d.bytes s).length : Int)) = ((p.length + (d.bytes s).length : Nat) : Int) := by omega
      rw [e2, ih]
theorem dec_cut {s : Sig} (h : validS_ s = true) (j : Nat) (hj : j < (encS s).length) : decS ((encS s).take j) = (zSig, 10) := by
  obtain ⟨hk, ho, hc⟩ := (valid_iff s).1 h
  have hkn : known s.kind = true := by unfold known; simp [hk.1, hk.2]
  rw [enc_head h, List.length_cons] at hj
  cases j with
  | zero => rw [List.take_zero]; rfl
  | succ j =>
    have hra := readAll_cut (s := s) (fieldsS s.kind) [s.kind] j { zSig with kind := s.kind } ho (fields_low _) (by omega)
    have e : [s.kind] ++ ((fieldsS s.kind).flatMap (Fd.bytes s)).take j = (encS s).take (j + 1) := by rw [enc_head h]; rfl
    rw [e] at hra
    have e1 : (([s.kind] : List Int).length : Int) = 1 := rfl
    rw [e1] at hra
    have hr : rd ((encS s).take (j + 1)) 0 = s.kind := by
      rw [← e]
      have := rd_at [] (((fieldsS s.kind).flatMap (Fd.bytes s)).take j) s.kind
      simpa using this
    have hn : ((encS s).take (j + 1)).length ≠ 0 := by rw [← e]; simp
    unfold decS
    rw [if_neg hn, hr, hkn, if_neg (by decide), hra]
end Go.Proofs.Ytmpjcpkfnjnejaa.Iq
