/-
  The changes of trunk, by hand: what each method makes of the circuit.
-/
import Derived.Test.YthemnajgdoambaaTh5
namespace Go.Proofs.Ythemnajgdoambaa.Th
open Go.RowKit Go.Proofs.YthemnajgdoambaaW.PrintWords Go.Proofs.YthemnajgdoambaaW.PrintLast Go.Proofs.YthemnajgdoambaaW.PrintMore Go.Proofs.Ythemnajgdoambaa.Tr
set_option linter.unusedVariables false
set_option linter.unusedSimpArgs false

theorem cls_inj {c d : S36} (h : ∀ (j : Nat) (u : Value), (cls c)[j]? = some u → (cls d)[j]? = some u) : c = d := by
  have h0 := h 0 _ rfl
  have h1 := h 1 _ rfl
  have h2 := h 2 _ rfl
  have h3 := h 3 _ rfl
  simp [cls] at h0 h1 h2 h3
  cases c; cases d
  simp_all

theorem Upd.start {W : World} {lb g i : Nat} {ctl : Bool} {vd : Int} {c : S36} (h : Ln W lb g (i * 4) ctl vd c) : Upd W W lb g i vd c := by
  refine ⟨fun B _ _ _ => Below.refl B W, fun _ _ _ _ => rfl, h.v, fun base n cap xs hi hr => ?_⟩
  have e : rd_T36 xs i = c := by
    refine cls_inj fun j u hj => ?_
    have hx := R_cls hr i hi j u hj
    match j, hj with
    | 0, hj => simp [cls] at hj; subst hj; rw [Nat.add_zero] at hx; have := hx.symm.trans h.c0; simp at this; simp [cls, this]
    | 1, hj => simp [cls] at hj; subst hj; have := hx.symm.trans h.c1; simp at this; simp [cls, this]
    | 2, hj => simp [cls] at hj; subst hj; have := hx.symm.trans h.c2; simp at this; simp [cls, this]
    | 3, hj => simp [cls] at hj; subst hj; have := hx.symm.trans h.c3; simp at this; simp [cls, this]
    | j + 4, hj => simp [cls] at hj
  have hn := (Kd.R_reads' hr).1
  have e2 : xs.set i c = xs := by
    rw [← e]
    unfold rd_T36
    refine List.ext_getElem (by simp) fun j h1 h2 => ?_
    rw [List.getElem_set]
    split
    · subst_vars; simp [List.getD_eq_getElem?_getD, h2]
    · rfl
  rw [e2]
  exact hr

theorem Upd.size {W W1 : World} {lb g i : Nat} {vd : Int} {c : S36} (h : Upd W W1 lb g i vd c) : W.heap.size ≤ W1.heap.size := (h.below 0 (by omega) (by omega) (by omega)).size

theorem Upd.step {W W1 W2 : World} {lb g i : Nat} {vd : Int} {c : S36} (h : Upd W W1 lb g i vd c) (hb : Below W1.heap.size W1 W2) : Upd W W2 lb g i vd c :=
  ⟨fun B b1 b2 b3 => (h.below B b1 b2 b3).trans (hb.mono (Nat.le_trans b3 h.size)), fun k hk k1 k2 => (hb.block k (Nat.lt_of_lt_of_le hk h.size)).trans (h.blk k hk k1 k2), pw_cell_below hb h.vd, fun base n cap xs hi hr => Kd.R_below (h.row base n cap xs hi hr) hb⟩

theorem Upd.put {W W1 : World} {lb g i : Nat} {vd : Int} {c : S36} (h : Upd W W1 lb g i vd c) (hne : lb ≠ g) (j : Nat) (hj : j < 4) (v : Value) (c' : S36) (hc : cls c' = (cls c).set j v) : Upd W (W1.setCell ⟨g, i * 4 + j, none⟩ v) lb g i vd c' := by
  refine ⟨fun B b1 b2 b3 => (h.below B b1 b2 b3).setCell (p := ⟨g, i * 4 + j, none⟩) b2 v, fun k hk k1 k2 => (Below.heap_setCell W1 ⟨g, i * 4 + j, none⟩ v k k2).trans (h.blk k hk k1 k2), ?_, fun base n cap xs hi hr => ?_⟩
  · rw [cell_blk (Below.heap_setCell W1 ⟨g, i * 4 + j, none⟩ v lb hne)]; exact h.vd
  · have hn := (Kd.R_reads' hr).1
    have q := R_put1 (h.row base n cap xs hi hr) i j hi hj v c' (by rw [rd_set (by omega)]; exact hc)
    rw [List.set_set] at q
    exact q

theorem Upd.say {W W1 : World} {lb g i : Nat} {vd : Int} {c : S36} (h : Upd W W1 lb g i vd c) (hne : lb ≠ g) (x : Int) : Upd W (W1.setCell ⟨lb, 2, none⟩ (.int .i64 x)) lb g i x c :=
  ⟨fun B b1 b2 b3 => (h.below B b1 b2 b3).setCell (p := ⟨lb, 2, none⟩) b1 _, fun k hk k1 k2 => (Below.heap_setCell W1 ⟨lb, 2, none⟩ _ k k1).trans (h.blk k hk k1 k2), World.cell?_setCell_same W1 _ _ h.vd, fun base n cap xs hi hr => Kd.R_far (p := ⟨lb, 2, none⟩) (h.row base n cap xs hi hr) (fun k hk => by subst hk; exact Ne.symm hne) _⟩

theorem Upd.drew {W W1 : World} {lb g i : Nat} {vd : Int} {c : S36} (h : Upd W W1 lb g i vd c) : Upd W W1.drew lb g i vd c := h.step (below_drew (Below.refl _ _))

/-! What the methods make of a circuit: none is ErrCircuit. -/
def seizeS (c : S36) (ref : Int) : Option (S36 × Int) := if av c then some (⟨1, ref, c.f2, c.f3⟩, 0) else none
def arriveS (ctl : Bool) (c : S36) (ref : Int) : Option (S36 × Int) :=
  if c.f2 = true ∨ c.f0 = 2 ∨ c.f0 = 3 then some (c, 4) else if c.f0 = 1 ∧ ctl = true then some (c, 2) else some (⟨2, ref, c.f2, false⟩, if c.f0 = 1 then 3 else 1)
def releaseS (c : S36) : Option (S36 × Int) := if c.f0 = 1 ∨ c.f0 = 2 then some (⟨3, c.f1, c.f2, c.f3⟩, 0) else none
def clearS (c : S36) : Option (S36 × Int) := if c.f0 = 0 then none else some (⟨0, 0, c.f2, c.f3⟩, 0)
def blockS (remote on : Bool) (c : S36) : Option (S36 × Int) := some (if remote then ⟨c.f0, c.f1, c.f2, on⟩ else ⟨c.f0, c.f1, on, c.f3⟩, 0)

theorem seize_upd {lb g i : Nat} {ctl : Bool} {ref : Int} {c c' : S36} {vd : Int} (W : World) (h : Ln W lb g (i * 4) ctl 0 c) (hs : seizeS c ref = some (c', vd)) :
    Calls Try.prog 36 #[.pointer (some ⟨lb, 0, none⟩), .int .i64 ref] W fun e W' => e = .returned (.int .i64 0) ∧ Upd W W' lb g i vd c' := by
  unfold seizeS at hs
  split at hs
  · simp at hs
    obtain ⟨rfl, rfl⟩ := hs
    refine (seizeM_yes lb g (i * 4) ctl 0 ref c W h (by assumption)).mono ?_
    rintro e W' ⟨rfl, w2, hb, rfl⟩
    have u := (((Upd.start h).step hb).put h.ne 0 (by omega) (.int .i64 1) ⟨1, c.f1, c.f2, c.f3⟩ rfl).put h.ne 1 (by omega) (.int .i64 ref) ⟨1, ref, c.f2, c.f3⟩ rfl
    exact ⟨rfl, u.drew⟩
  · simp at hs

theorem seize_none {lb g i : Nat} {ctl : Bool} {ref : Int} {c : S36} (W : World) (h : Ln W lb g (i * 4) ctl 0 c) (hs : seizeS c ref = none) :
    Calls Try.prog 36 #[.pointer (some ⟨lb, 0, none⟩), .int .i64 ref] W fun e W' => e = .returned (.int .i64 140) ∧ Below W.heap.size W W' := by
  unfold seizeS at hs
  split at hs
  · simp at hs
  · rename_i hq
    exact seizeM_no lb g (i * 4) ctl 0 ref c W h (by simpa using hq)

theorem release_upd {lb g i : Nat} {ctl : Bool} {ref : Int} {c c' : S36} {vd : Int} (W : World) (h : Ln W lb g (i * 4) ctl 0 c) (hs : releaseS c = some (c', vd)) :
    Calls Try.prog 46 #[.pointer (some ⟨lb, 0, none⟩), .int .i64 ref] W fun e W' => e = .returned (.int .i64 0) ∧ Upd W W' lb g i vd c' := by
  unfold releaseS at hs
  split at hs
  · simp at hs
    obtain ⟨rfl, rfl⟩ := hs
    refine (releaseM_yes lb g (i * 4) ctl 0 ref c W h (by assumption)).mono ?_
    rintro e W' ⟨rfl, rfl⟩
    exact ⟨rfl, (Upd.start h).put h.ne 0 (by omega) (.int .i64 3) ⟨3, c.f1, c.f2, c.f3⟩ rfl⟩
  · simp at hs

theorem release_none {lb g i : Nat} {ctl : Bool} {ref : Int} {c : S36} (W : World) (h : Ln W lb g (i * 4) ctl 0 c) (hs : releaseS c = none) :
    Calls Try.prog 46 #[.pointer (some ⟨lb, 0, none⟩), .int .i64 ref] W fun e W' => e = .returned (.int .i64 140) ∧ Below W.heap.size W W' := by
  unfold releaseS at hs
  split at hs
  · simp at hs
  · rename_i hn
    refine (releaseM_no lb g (i * 4) ctl 0 ref c W h (bne_iff_ne.mpr fun q => hn (.inl q)) (bne_iff_ne.mpr fun q => hn (.inr q))).mono ?_
    rintro e W' ⟨rfl, rfl⟩
    exact ⟨rfl, Below.refl _ _⟩

theorem clear_upd {lb g i : Nat} {ctl : Bool} {ref : Int} {c c' : S36} {vd : Int} (W : World) (h : Ln W lb g (i * 4) ctl 0 c) (hs : clearS c = some (c', vd)) :
    Calls Try.prog 47 #[.pointer (some ⟨lb, 0, none⟩), .int .i64 ref] W fun e W' => e = .returned (.int .i64 0) ∧ Upd W W' lb g i vd c' := by
  unfold clearS at hs
  split at hs
  · simp at hs
  · simp at hs
    obtain ⟨rfl, rfl⟩ := hs
    refine (clearM_yes lb g (i * 4) ctl 0 ref c W h (beq_eq_false_iff_ne.mpr (by assumption))).mono ?_
    rintro e W' ⟨rfl, rfl⟩
    have u := ((Upd.start h).put h.ne 0 (by omega) (.int .i64 0) ⟨0, c.f1, c.f2, c.f3⟩ rfl).put h.ne 1 (by omega) (.int .i64 0) ⟨0, 0, c.f2, c.f3⟩ rfl
    exact ⟨rfl, u.drew⟩

theorem clear_none {lb g i : Nat} {ctl : Bool} {ref : Int} {c : S36} (W : World) (h : Ln W lb g (i * 4) ctl 0 c) (hs : clearS c = none) :
    Calls Try.prog 47 #[.pointer (some ⟨lb, 0, none⟩), .int .i64 ref] W fun e W' => e = .returned (.int .i64 140) ∧ Below W.heap.size W W' := by
  unfold clearS at hs
  split at hs
  · refine (clearM_no lb g (i * 4) ctl 0 ref c W h (beq_iff_eq.mpr (by assumption))).mono ?_
    rintro e W' ⟨rfl, rfl⟩
    exact ⟨rfl, Below.refl _ _⟩
  · simp at hs

theorem block_upd {lb g i br bo : Nat} {ctl remote on : Bool} {ref : Int} {c c' : S36} {vd : Int} (W : World) (h : Ln W lb g (i * 4) ctl 0 c) (hr : W.cell? ⟨br, 0, none⟩ = some (.bool remote)) (ho : W.cell? ⟨bo, 0, none⟩ = some (.bool on)) (hs : blockS remote on c = some (c', vd)) :
    Calls Try.prog 44 #[.pointer (some ⟨lb, 0, none⟩), .int .i64 ref, .pointer (some ⟨br, 0, none⟩), .pointer (some ⟨bo, 0, none⟩)] W fun e W' => e = .returned (.int .i64 0) ∧ Upd W W' lb g i vd c' := by
  simp [blockS] at hs
  obtain ⟨rfl, rfl⟩ := hs
  refine (blockM lb g (i * 4) br bo ctl remote on 0 ref c W h hr ho).mono ?_
  rintro e W' ⟨rfl, rfl⟩
  cases remote
  · exact ⟨rfl, ((Upd.start h).put h.ne 2 (by omega) (.bool on) ⟨c.f0, c.f1, on, c.f3⟩ rfl).drew⟩
  · exact ⟨rfl, ((Upd.start h).put h.ne 3 (by omega) (.bool on) ⟨c.f0, c.f1, c.f2, on⟩ rfl).drew⟩

theorem arrive_upd {lb g i : Nat} {ctl : Bool} {ref : Int} {c c' : S36} {vd : Int} (W : World) (h : Ln W lb g (i * 4) ctl 0 c) (hv : inv c = false) (hs : arriveS ctl c ref = some (c', vd)) :
    Calls Try.prog 37 #[.pointer (some ⟨lb, 0, none⟩), .int .i64 ref] W fun e W' => e = .returned (.int .i64 0) ∧ Upd W W' lb g i vd c' := by
  unfold arriveS at hs
  split at hs
  · simp at hs
    obtain ⟨rfl, rfl⟩ := hs
    refine (arriveM_refuse lb g (i * 4) ctl 0 ref c W h (by assumption)).mono ?_
    rintro e W' ⟨rfl, rfl⟩
    exact ⟨rfl, (Upd.start h).say h.ne 4⟩
  · rename_i hn
    have hf : c.f2 = false := by
      cases hq : c.f2
      · rfl
      · exact absurd (.inl hq) hn
    split at hs
    · rename_i h1
      obtain ⟨h1, rfl⟩ := h1
      simp at hs
      obtain ⟨rfl, rfl⟩ := hs
      refine (arriveM_ignore lb g (i * 4) 0 ref c W h hf h1).mono ?_
      rintro e W' ⟨rfl, rfl⟩
      exact ⟨rfl, (Upd.start h).say h.ne 2⟩
    · rename_i hn1
      simp at hs
      obtain ⟨rfl, rfl⟩ := hs
      by_cases h1 : c.f0 = 1
      · have hc : ctl = false := by
          cases hq : ctl
          · rfl
          · exact absurd ⟨h1, hq⟩ hn1
        subst hc
        rw [if_pos h1]
        refine (arriveM_yield lb g (i * 4) 0 ref c W h hf h1).mono ?_
        rintro e W' ⟨rfl, rfl⟩
        have u := ((((Upd.start h).say h.ne 3).put h.ne 0 (by omega) (.int .i64 2) ⟨2, c.f1, c.f2, c.f3⟩ rfl).put h.ne 1 (by omega) (.int .i64 ref) ⟨2, ref, c.f2, c.f3⟩ rfl).put h.ne 3 (by omega) (.bool false) ⟨2, ref, c.f2, false⟩ rfl
        exact ⟨rfl, u.drew⟩
      · rw [if_neg h1]
        have h0 : c.f0 = 0 := by
          have h2 : c.f0 ≠ 2 := fun q => hn (.inr (.inl q))
          have h3 : c.f0 ≠ 3 := fun q => hn (.inr (.inr q))
          by_cases h0 : c.f0 = 0
          · exact h0
          · exfalso
            simp [inv, h0] at hv
            omega
        refine (arriveM_accept lb g (i * 4) ctl 0 ref c W h hf h0).mono ?_
        rintro e W' ⟨rfl, rfl⟩
        have u := ((((Upd.start h).say h.ne 1).put h.ne 0 (by omega) (.int .i64 2) ⟨2, c.f1, c.f2, c.f3⟩ rfl).put h.ne 1 (by omega) (.int .i64 ref) ⟨2, ref, c.f2, c.f3⟩ rfl).put h.ne 3 (by omega) (.bool false) ⟨2, ref, c.f2, false⟩ rfl
        exact ⟨rfl, u.drew⟩

end Go.Proofs.Ythemnajgdoambaa.Th
