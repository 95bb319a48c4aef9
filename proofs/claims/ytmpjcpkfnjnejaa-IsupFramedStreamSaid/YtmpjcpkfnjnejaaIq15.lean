/-
  isup, plain Lean: what Decode takes, Encode writes again.
-/
import Derived.Test.YtmpjcpkfnjnejaaIq14
namespace Go.Proofs.Ytmpjcpkfnjnejaa.Iq
open Go.RowKit Go.Shelf Go.Proofs.YtmpjcpkfnjnejaaW.PrintWords Go.Proofs.YtmpjcpkfnjnejaaW.PrintLast Go.Proofs.YtmpjcpkfnjnejaaW.PrintMore Go.Proofs.Ytmpjcpkfnjnejaa.Is Go.Proofs.Ytmpjcpkfnjnejaa.Vm Go.Proofs.Ytmpjcpkfnjnejaa.Iv
set_option linter.unusedVariables false
set_option linter.unusedSimpArgs false

theorem strOfNums_size (l : List Int) : (strOfNums l).size = l.length := by
  show (strOfNums l).data.size = _
  rw [← Array.length_toList, strOfNums_data, List.length_map]
theorem cut_split (l : List Int) {a b c : Nat} (h1 : a ≤ b) (h2 : b ≤ c) : (l.take c).drop a = (l.take b).drop a ++ (l.take c).drop b := by
  have e : l.take c = l.take b ++ (l.take c).drop b := by
    have := (List.take_append_drop b (l.take c)).symm
    rw [List.take_take, Nat.min_eq_left h2] at this
    exact this
  by_cases hb : b ≤ l.length
  · conv => lhs; rw [e]
    rw [List.drop_append_of_le_length (by rw [List.length_take]; omega)]
  · rw [List.take_of_length_le (by omega), List.take_of_length_le (by omega), List.drop_of_length_le (l := l) (i := b) (by omega), List.append_nil]

/-! ### a field's place -/
def Fd.slot : Fd → Nat
  | .int f _ _ => f.off
  | .addr f _ => f.off
  | .bool f => f.off
def Fd.look (s : Sig) : Fd → Int × ByteArray × Bool
  | .int f _ _ => (f.get s, noStr, false)
  | .addr f _ => (0, f.get s, false)
  | .bool f => (0, noStr, f.get s)
theorem look_bytes {d : Fd} {s t : Sig} (h : d.look s = d.look t) : d.bytes s = d.bytes t := by
  cases d <;> simp only [Fd.look, Prod.mk.injEq, true_and, and_true] at h <;> simp only [Fd.bytes, h]
theorem look_far {d e : Fd} (a t : Sig) (h : d.slot ≠ e.slot) : d.look (e.cpy a t) = d.look t := by
  cases d with
  | int f _ _ => cases e with
    | int g _ _ => cases f <;> cases g <;> first | rfl | exact absurd rfl h
    | addr g _ => cases f <;> cases g <;> rfl
    | bool g => cases f <;> cases g <;> rfl
  | addr f _ => cases e with
    | int g _ _ => cases f <;> cases g <;> rfl
    | addr g _ => cases f <;> cases g <;> first | rfl | exact absurd rfl h
    | bool g => cases f <;> cases g <;> rfl
  | bool f => cases e with
    | int g _ _ => cases f <;> cases g <;> rfl
    | addr g _ => cases f <;> cases g <;> rfl
    | bool g => cases f <;> cases g <;> first | rfl | exact absurd rfl h
theorem cpy_kind (d : Fd) (a t : Sig) : (d.cpy a t).kind = t.kind := by
  cases d with
  | int f _ _ => cases f <;> rfl
  | addr f _ => cases f <;> rfl
  | bool f => cases f <;> rfl

/-- What one read says. -/
theorem read_back {l : List Int} {d : Fd} {at_ at' : Int} {lg lg' : Bool} {s s' : Sig} (hb : Bytes l) (h0 : 0 ≤ at_) (hle : at_ ≤ (l.length : Int)) (h : d.read l at_ lg s = .inr (s', at', lg')) :
    at_ ≤ at' ∧ at' ≤ (l.length : Int) ∧ s' = d.cpy s' s ∧ (lg' = false → lg = false ∧ (l.take at'.toNat).drop at_.toNat = d.bytes s') := by
  cases d with
  | int f lo hi =>
    unfold Fd.read at h
    dsimp only at h
    obtain ⟨v, nx, er, hu⟩ : ∃ v nx er, uintS l at_ = (v, nx, er) := ⟨_, _, _, rfl⟩
    rw [hu] at h
    dsimp only at h
    split at h
    · rename_i he
      subst he
      obtain ⟨n, hn, rfl, _, hnx, hnl, hcut, _⟩ := uint_canon hb hu
      split at h
      · simp only [Sum.inr.injEq, Prod.mk.injEq] at h
        obtain ⟨rfl, rfl, rfl⟩ := h
        exact ⟨by omega, hnl, by cases f <;> rfl, fun h => by cases h⟩
      · simp only [Sum.inr.injEq, Prod.mk.injEq] at h
        obtain ⟨rfl, rfl, rfl⟩ := h
        refine ⟨by omega, hnl, by cases f <;> rfl, fun h => ⟨h, ?_⟩⟩
        rw [hcut]
        cases f <;> simp [Fd.bytes, IF.get, IF.set]
    · simp at h
  | addr f e =>
    unfold Fd.read at h
    dsimp only at h
    obtain ⟨v, nx, er, hu⟩ : ∃ v nx er, seqS l at_ 15 = (v, nx, er) := ⟨_, _, _, rfl⟩
    rw [hu] at h
    dsimp only at h
    split at h
    · rename_i he
      subst he
      obtain ⟨_, hlt, hnl, hm, hcut⟩ := seq_canon hb hu
      simp only [Sum.inr.injEq, Prod.mk.injEq] at h
      obtain ⟨rfl, rfl, rfl⟩ := h
      have hv : Bytes v := by
        have := bytes_drop (bytes_take hb nx.toNat) at_.toNat
        rw [hcut] at this
        exact fun c hc => this c (List.mem_append_right _ hc)
      have e : (Fd.addr f e).bytes (f.set s (strOfNums v)) = enc v.length ++ v := by
        cases f <;> simp [Fd.bytes, SF.get, SF.set, strOfNums_size, bytesOf_strOfNums hv]
      exact ⟨by omega, hnl, by cases f <;> rfl, fun h => ⟨h, by rw [hcut, e]⟩⟩
    · simp at h
  | bool f =>
    unfold Fd.read at h
    dsimp only at h
    split at h
    · simp at h
    · rename_i h1
      split at h
      · simp at h
      · rename_i h2
        simp only [Sum.inr.injEq, Prod.mk.injEq] at h
        obtain ⟨rfl, rfl, rfl⟩ := h
        refine ⟨by omega, by omega, by cases f <;> rfl, fun h => ⟨h, ?_⟩⟩
        obtain ⟨j, rfl⟩ := Int.eq_ofNat_of_zero_le h0
        have hj : j < l.length := by omega
        obtain ⟨b0, b1⟩ := rd_byte hb hj
        have e1 : ((j : Int) + 1).toNat = j + 1 := by omega
        rw [e1, Int.toNat_natCast, List.drop_take, rd_of_drop hj, Nat.add_sub_cancel_left, List.take_succ_cons, List.take_zero]
        by_cases hz : rd l (j : Int) = 1
        · rw [hz]; cases f <;> rfl
        · have : rd l (j : Int) = 0 := by omega
          rw [this]; cases f <;> rfl
theorem read_err {l : List Int} {d : Fd} {at_ er : Int} {lg : Bool} {s : Sig} (h : d.read l at_ lg s = .inl er) : er ≠ 0 := by
  cases d with
  | int f lo hi =>
    simp only [Fd.read] at h
    split at h
    · split at h <;> simp at h
    · rename_i hn; simp only [Sum.inl.injEq] at h; omega
  | addr f e =>
    simp only [Fd.read] at h
    split at h
    · simp at h
    · rename_i hn; simp only [Sum.inl.injEq] at h; omega
  | bool f =>
    simp only [Fd.read] at h
    split at h
    · simp only [Sum.inl.injEq] at h; omega
    · split at h
      · simp only [Sum.inl.injEq] at h; omega
      · simp at h
theorem readAll_err {l : List Int} : ∀ (ds : List Fd) {at_ er : Int} {lg : Bool} {s : Sig}, readAll l ds s at_ lg = .inl er → er ≠ 0
  | [], at_, er, lg, s, h => by simp [readAll] at h
  | d :: ds, at_, er, lg, s, h => by
    rw [readAll] at h
    split at h
    · rename_i hr; simp only [Sum.inl.injEq] at h; subst h; exact read_err hr
    · exact readAll_err ds h

theorem readAll_back {l : List Int} (hb : Bytes l) : ∀ (ds : List Fd) {at_ at' : Int} {lg lg' : Bool} {s s' : Sig}, (ds.map Fd.slot).Nodup → 0 ≤ at_ → at_ ≤ (l.length : Int) → readAll l ds s at_ lg = .inr (s', at', lg') →
    at_ ≤ at' ∧ at' ≤ (l.length : Int) ∧ s'.kind = s.kind ∧ (∀ e : Fd, e.slot ∉ ds.map Fd.slot → e.look s' = e.look s) ∧ (lg' = false → lg = false ∧ (l.take at'.toNat).drop at_.toNat = ds.flatMap (Fd.bytes s'))
  | [], at_, at', lg, lg', s, s', _, h0, hle, h => by
    simp only [readAll, Sum.inr.injEq, Prod.mk.injEq] at h
    obtain ⟨rfl, rfl, rfl⟩ := h
    refine ⟨Int.le_refl _, hle, rfl, fun _ _ => rfl, fun h => ⟨h, ?_⟩⟩
    rw [List.drop_of_length_le (by rw [List.length_take]; omega)]
    rfl
  | d :: ds, at_, at', lg, lg', s, s', hn, h0, hle, h => by
    rw [List.map_cons, List.nodup_cons] at hn
    rw [readAll] at h
    split at h
    · simp at h
    · rename_i s1 at1 lg1 hr
      obtain ⟨r1, r2, r3, r4⟩ := read_back hb h0 hle hr
      obtain ⟨i1, i2, i3, i4, i5⟩ := readAll_back hb ds hn.2 (by omega) r2 h
      refine ⟨by omega, i2, ?_, fun e he => ?_, fun hl => ?_⟩
      · rw [i3, r3]; exact cpy_kind _ _ _
      · rw [List.map_cons, List.mem_cons, not_or] at he
        rw [i4 e he.2, r3]
        exact look_far _ _ he.1
      · obtain ⟨j1, j2⟩ := i5 hl
        obtain ⟨k1, k2⟩ := r4 j1
        refine ⟨k1, ?_⟩
        rw [cut_split l (b := at1.toNat) (by omega) (by omega), k2, j2, List.flatMap_cons, look_bytes (i4 d hn.1)]

theorem fields_nodup (k : Int) : ((fieldsS k).map Fd.slot).Nodup := by
  rcases fields_cases k with ⟨_, e⟩ | ⟨_, e⟩ | ⟨_, e⟩ | ⟨_, e⟩ | ⟨_, e⟩ | ⟨_, _, _, _, _, e⟩ <;> rw [e] <;> simp [Fd.slot, IF.off, SF.off, BF.off]

theorem dec_back {l : List Int} (hb : Bytes l) (h : (decS l).2 = 0) : validS_ (decS l).1 = true ∧ encS (decS l).1 = l := by
  unfold decS at h ⊢
  split at h
  · simp at h
  · rename_i h0
    rw [if_neg h0]
    split at h
    · simp at h
    · rename_i hk
      rw [if_neg hk]
      split at h
      · rename_i er hr
        exact absurd h (readAll_err _ hr)
      · rename_i s at_ lg hr
        split at h
        · rename_i hc
          rw [if_pos hc]
          dsimp only
          have hv : validS_ s = true := by
            have := hc.2.2
            unfold checkS at this
            cases hv : validS_ s
            · rw [hv] at this; simp at this
            · rfl
          refine ⟨hv, ?_⟩
          obtain ⟨_, _, i3, _, i5⟩ := readAll_back hb _ (fields_nodup _) (by decide) (by omega) hr
          obtain ⟨_, j2⟩ := i5 hc.2.1
          have i3' : s.kind = rd l 0 := i3
          have hp : 0 < l.length := by omega
          rw [enc_head hv, i3', ← j2, hc.1, Int.toNat_natCast, List.take_length]
          have := rd_of_drop hp
          simpa using this.symm
        · simp at h
theorem dec_err {l : List Int} (h : (decS l).2 ≠ 0) : (decS l).1 = zSig := by
  unfold decS at h ⊢
  split
  · rfl
  · rename_i h0
    rw [if_neg h0] at h
    split
    · rfl
    · rename_i hk
      rw [if_neg hk] at h
      split
      · rfl
      · rename_i s at_ lg hr
        rw [hr] at h
        dsimp only at h
        split
        · rename_i hc
          rw [if_pos hc] at h
          exact absurd rfl h
        · rfl
theorem enc_bytes_all {s : Sig} (h : validS_ s = true) : Bytes (encS s) := by
  obtain ⟨hk, ho, hc⟩ := (valid_iff s).1 h
  rw [enc_head h]
  intro c hc
  rcases List.mem_cons.1 hc with rfl | hc
  · omega
  · obtain ⟨d, hd, hc⟩ := List.mem_flatMap.1 hc
    cases d with
    | int f lo hi => exact enc_bytes _ c hc
    | addr f e =>
      rcases List.mem_append.1 hc with hc | hc
      · exact enc_bytes _ c hc
      · unfold bytesOf at hc
        obtain ⟨b, _, rfl⟩ := List.mem_map.1 hc
        have := b.toNat_lt
        omega
    | bool f =>
      have : c = if f.get s = true then 1 else 0 := List.mem_singleton.1 hc
      split at this <;> omega
theorem enc_len {s : Sig} (h : validS_ s = true) : (encS s).length ≤ 1 + 26 * 6 := by
  obtain ⟨hk, ho, hc⟩ := (valid_iff s).1 h
  have hl : ∀ ds : List Fd, (∀ d ∈ ds, d.ok s = true) → (∀ d ∈ ds, d.low) → (ds.flatMap (Fd.bytes s)).length ≤ 26 * ds.length := by
    intro ds
    induction ds with
    | nil => intro _ _; simp
    | cons d ds ih =>
      intro ho hl
      have := ih (fun x hx => ho x (List.mem_cons_of_mem _ hx)) (fun x hx => hl x (List.mem_cons_of_mem _ hx))
      have := bytes_len (ho d List.mem_cons_self) (hl d List.mem_cons_self)
      rw [List.flatMap_cons, List.length_append, List.length_cons]
      omega
  have := hl _ ho (fields_low _)
  have := fields_le s.kind
  rw [enc_head h, List.length_cons]
  omega
theorem enc_none {s : Sig} (h : validS_ s = false) : encS s = [] := by unfold encS; rw [h]; rfl
theorem enc_dec_all (s : Sig) : Bytes (encS s) ∧ (encS s).length ≤ 1 + 26 * 6 := by
  cases h : validS_ s
  · rw [enc_none h]; exact ⟨fun c hc => by simp at hc, by simp⟩
  · exact ⟨enc_bytes_all h, enc_len h⟩
end Go.Proofs.Ytmpjcpkfnjnejaa.Iq
