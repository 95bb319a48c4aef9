/- The exported changes of trunk: their contracts; printed by a program of ours (wip/tools/emit_wrap.py). -/
import Derived.Test.YthemnajgdoambaaTh6
namespace Go.Proofs.Ythemnajgdoambaa.Th
open Go.RowKit Go.Proofs.YthemnajgdoambaaW.PrintWords Go.Proofs.YthemnajgdoambaaW.PrintLast Go.Proofs.YthemnajgdoambaaW.PrintMore Go.Proofs.Ythemnajgdoambaa.Tr
set_option linter.unusedVariables false
set_option linter.unusedSimpArgs false

def ctlS (a b i : Int) : Bool := (Int.tmod i 2 == 0) == decide (a > b)
/-- A change of circuit i of a group: own, peer, circuits, verdict, error. -/
def chgS (a b : Int) (l : List S36) (i ref : Int) (m : Bool → S36 → Option (S36 × Int)) : Int × Int × List S36 × Int × Int :=
  if checkS a b l = 0 ∧ 0 ≤ i ∧ i < (l.length : Int) ∧ 1 ≤ ref ∧ ref ≤ 1099511627776 then
    match m (ctlS a b i) (rd_T36 l i.toNat) with
    | some (c, vd) => (a, b, l.set i.toNat c, vd, 0)
    | none => (0, 0, [], 0, 140)
  else (0, 0, [], 0, 1)

theorem check_zero {a b : Int} {l : List S36} (h : checkS a b l = 0) : a ≠ b ∧ 1 ≤ l.length ∧ l.length ≤ 48 ∧ ∀ c ∈ l, inv c = false := by
  unfold checkS at h
  split at h
  · rename_i hs
    simp only [Bool.and_eq_true, shp, decide_eq_true_eq, bne_iff_ne, List.all_eq_true, Bool.not_eq_true'] at hs
    refine ⟨hs.1.1.2, ?_, ?_, hs.2⟩ <;> omega
  · simp at h
theorem check_or (a b : Int) (l : List S36) : checkS a b l = 0 ∨ checkS a b l = 1 := by unfold checkS; split <;> simp
theorem w64_len {n : Nat} (h1 : n ≤ 48) : wrap64 ((n : Int) - 1) = (n : Int) - 1 := by unfold wrap64; omega
theorem controls_eq {a b i : Int} {l : List S36} (hab : a ≠ b) (hl : l.length ≤ 48) (h0 : 0 ≤ i) (h1 : i < l.length) : trunk_Controls.f a b l i = some (ctlS a b i) := by
  unfold trunk_Controls.f ctlS
  rw [within_eq, w64_len hl]
  have e : (decide (0 ≤ i) && decide (i ≤ (l.length : Int) - 1)) = true := by simp; omega
  rw [e]
  simp [hab]
theorem rd_mem {l : List S36} {i : Int} (h0 : 0 ≤ i) (h1 : i < l.length) : rd_T36 l i.toNat ∈ l := by
  unfold rd_T36
  have : i.toNat < l.length := by omega
  rw [Int.toNat_natCast, List.getD_eq_getElem?_getD, List.getElem?_eq_getElem this]
  exact List.getElem_mem this

def ChgPost (r : Int × Int × List S36 × Int × Int) (w : World) : Ending → World → Prop := fun e w' => ∃ v, e = .returned (.tuple #[.agg #[.int .i64 r.1, .int .i64 r.2.1, v], .int .i64 r.2.2.2.1, .int .i64 r.2.2.2.2]) ∧ Kd.R k36 36 w' w.heap.size (fun _ => True) v r.2.2.1 ∧ Below w.heap.size w w'

theorem post_err {r : Int × Int × List S36 × Int × Int} {w : World} {F : Nat} {as_ : Array Value} {er : Int} (hr : r = (0, 0, [], 0, er)) (h : Calls Try.prog F as_ w fun e w' => e = .returned (.tuple #[noT, .int .i64 0, .int .i64 er]) ∧ Below w.heap.size w w') : Calls Try.prog F as_ w (ChgPost r w) := by
  subst hr
  refine h.mono ?_
  rintro e w' ⟨rfl, hb⟩
  exact ⟨_, rfl, Kd.R_nil _ _ _ _ _, hb⟩

set_option maxRecDepth 100000 in
theorem change_seize_spec (a b : Int) (A : Option Addr) (c : Nat) (l : List S36) (i ref : Int) (w : World) (hr : Kd.C k36 w A l.length l) (hc : l.length ≤ c) :
    Calls Try.prog 35 #[.agg #[.int .i64 a, .int .i64 b, .slice A l.length c], .int .i64 i, .int .i64 ref, .func (.func 36) #[] #[]] w (ChgPost (chgS a b l i ref (fun _ c => seizeS c ref)) w) := by
  unfold chgS
  rcases check_or a b l with hk | hk
  · obtain ⟨hab, hl1, hl, hin⟩ := check_zero hk
    by_cases hin2 : 0 ≤ i ∧ i < (l.length : Int) ∧ 1 ≤ ref ∧ ref ≤ 1099511627776
    · rw [if_pos ⟨hk, hin2⟩]
      obtain ⟨h0, h1, h2, h3⟩ := hin2
      have hi : (decide (0 ≤ i) && decide (i ≤ wrap64 ((l.length : Int) - 1))) = true := by rw [w64_len hl]; simp; omega
      have hx : (decide (1 ≤ ref) && decide (ref ≤ 1099511627776)) = true := by simp; omega
      have hct := controls_eq hab hl h0 h1
      split
      · rename_i c' vd hm
        refine (change_seize a b A c l i ref w hr hc hk hi hx _ hct h0 h1 (by omega) c' vd (fun W lb g hb hL => seize_upd W hL hm)).mono ?_
        rintro e w' ⟨v, rfl, hv, hb⟩
        exact ⟨v, rfl, hv, hb⟩
      · rename_i hm
        exact post_err rfl (change_seize_no a b A c l i ref w hr hc hk hi hx _ hct h0 h1 (by omega) (fun W lb g hb hL => seize_none W hL hm))
    · rw [if_neg (fun q => hin2 q.2)]
      refine post_err rfl (change_range a b A c l i ref _ w hr hk ?_)
      rw [w64_len hl]
      by_cases h0 : 0 ≤ i ∧ i < (l.length : Int)
      · right
        refine ⟨by simp; omega, ?_⟩
        have : ¬ (1 ≤ ref ∧ ref ≤ 1099511627776) := fun q => hin2 ⟨h0.1, h0.2, q⟩
        simp; omega
      · left
        simp; omega
  · rw [if_neg (fun q => by rw [hk] at q; simp at q)]
    exact post_err rfl (change_check a b A c l i ref _ w hr hk)

set_option maxRecDepth 100000 in
theorem change_release_spec (a b : Int) (A : Option Addr) (c : Nat) (l : List S36) (i ref : Int) (w : World) (hr : Kd.C k36 w A l.length l) (hc : l.length ≤ c) :
    Calls Try.prog 35 #[.agg #[.int .i64 a, .int .i64 b, .slice A l.length c], .int .i64 i, .int .i64 ref, .func (.func 46) #[] #[]] w (ChgPost (chgS a b l i ref (fun _ c => releaseS c)) w) := by
  unfold chgS
  rcases check_or a b l with hk | hk
  · obtain ⟨hab, hl1, hl, hin⟩ := check_zero hk
    by_cases hin2 : 0 ≤ i ∧ i < (l.length : Int) ∧ 1 ≤ ref ∧ ref ≤ 1099511627776
    · rw [if_pos ⟨hk, hin2⟩]
      obtain ⟨h0, h1, h2, h3⟩ := hin2
      have hi : (decide (0 ≤ i) && decide (i ≤ wrap64 ((l.length : Int) - 1))) = true := by rw [w64_len hl]; simp; omega
      have hx : (decide (1 ≤ ref) && decide (ref ≤ 1099511627776)) = true := by simp; omega
      have hct := controls_eq hab hl h0 h1
      split
      · rename_i c' vd hm
        refine (change_release a b A c l i ref w hr hc hk hi hx _ hct h0 h1 (by omega) c' vd (fun W lb g hb hL => release_upd W hL hm)).mono ?_
        rintro e w' ⟨v, rfl, hv, hb⟩
        exact ⟨v, rfl, hv, hb⟩
      · rename_i hm
        exact post_err rfl (change_release_no a b A c l i ref w hr hc hk hi hx _ hct h0 h1 (by omega) (fun W lb g hb hL => release_none W hL hm))
    · rw [if_neg (fun q => hin2 q.2)]
      refine post_err rfl (change_range a b A c l i ref _ w hr hk ?_)
      rw [w64_len hl]
      by_cases h0 : 0 ≤ i ∧ i < (l.length : Int)
      · right
        refine ⟨by simp; omega, ?_⟩
        have : ¬ (1 ≤ ref ∧ ref ≤ 1099511627776) := fun q => hin2 ⟨h0.1, h0.2, q⟩
        simp; omega
      · left
        simp; omega
  · rw [if_neg (fun q => by rw [hk] at q; simp at q)]
    exact post_err rfl (change_check a b A c l i ref _ w hr hk)

set_option maxRecDepth 100000 in
theorem change_clear_spec (a b : Int) (A : Option Addr) (c : Nat) (l : List S36) (i ref : Int) (w : World) (hr : Kd.C k36 w A l.length l) (hc : l.length ≤ c) :
    Calls Try.prog 35 #[.agg #[.int .i64 a, .int .i64 b, .slice A l.length c], .int .i64 i, .int .i64 ref, .func (.func 47) #[] #[]] w (ChgPost (chgS a b l i ref (fun _ c => clearS c)) w) := by
  unfold chgS
  rcases check_or a b l with hk | hk
  · obtain ⟨hab, hl1, hl, hin⟩ := check_zero hk
    by_cases hin2 : 0 ≤ i ∧ i < (l.length : Int) ∧ 1 ≤ ref ∧ ref ≤ 1099511627776
    · rw [if_pos ⟨hk, hin2⟩]
      obtain ⟨h0, h1, h2, h3⟩ := hin2
      have hi : (decide (0 ≤ i) && decide (i ≤ wrap64 ((l.length : Int) - 1))) = true := by rw [w64_len hl]; simp; omega
      have hx : (decide (1 ≤ ref) && decide (ref ≤ 1099511627776)) = true := by simp; omega
      have hct := controls_eq hab hl h0 h1
      split
      · rename_i c' vd hm
        refine (change_clear a b A c l i ref w hr hc hk hi hx _ hct h0 h1 (by omega) c' vd (fun W lb g hb hL => clear_upd W hL hm)).mono ?_
        rintro e w' ⟨v, rfl, hv, hb⟩
        exact ⟨v, rfl, hv, hb⟩
      · rename_i hm
        exact post_err rfl (change_clear_no a b A c l i ref w hr hc hk hi hx _ hct h0 h1 (by omega) (fun W lb g hb hL => clear_none W hL hm))
    · rw [if_neg (fun q => hin2 q.2)]
      refine post_err rfl (change_range a b A c l i ref _ w hr hk ?_)
      rw [w64_len hl]
      by_cases h0 : 0 ≤ i ∧ i < (l.length : Int)
      · right
        refine ⟨by simp; omega, ?_⟩
        have : ¬ (1 ≤ ref ∧ ref ≤ 1099511627776) := fun q => hin2 ⟨h0.1, h0.2, q⟩
        simp; omega
      · left
        simp; omega
  · rw [if_neg (fun q => by rw [hk] at q; simp at q)]
    exact post_err rfl (change_check a b A c l i ref _ w hr hk)

set_option maxRecDepth 100000 in
theorem change_arrive_spec (a b : Int) (A : Option Addr) (c : Nat) (l : List S36) (i ref : Int) (w : World) (hr : Kd.C k36 w A l.length l) (hc : l.length ≤ c) :
    Calls Try.prog 35 #[.agg #[.int .i64 a, .int .i64 b, .slice A l.length c], .int .i64 i, .int .i64 ref, .func (.func 37) #[] #[]] w (ChgPost (chgS a b l i ref (fun ctl c => arriveS ctl c ref)) w) := by
  unfold chgS
  rcases check_or a b l with hk | hk
  · obtain ⟨hab, hl1, hl, hin⟩ := check_zero hk
    by_cases hin2 : 0 ≤ i ∧ i < (l.length : Int) ∧ 1 ≤ ref ∧ ref ≤ 1099511627776
    · rw [if_pos ⟨hk, hin2⟩]
      obtain ⟨h0, h1, h2, h3⟩ := hin2
      have hi : (decide (0 ≤ i) && decide (i ≤ wrap64 ((l.length : Int) - 1))) = true := by rw [w64_len hl]; simp; omega
      have hx : (decide (1 ≤ ref) && decide (ref ≤ 1099511627776)) = true := by simp; omega
      have hct := controls_eq hab hl h0 h1
      split
      · rename_i c' vd hm
        refine (change_arrive a b A c l i ref w hr hc hk hi hx _ hct h0 h1 (by omega) c' vd (fun W lb g hb hL => arrive_upd W hL (hin _ (rd_mem h0 h1)) hm)).mono ?_
        rintro e w' ⟨v, rfl, hv, hb⟩
        exact ⟨v, rfl, hv, hb⟩
      · rename_i hm
        exact absurd hm (by simp [arriveS] <;> (try split) <;> (try split) <;> simp)
    · rw [if_neg (fun q => hin2 q.2)]
      refine post_err rfl (change_range a b A c l i ref _ w hr hk ?_)
      rw [w64_len hl]
      by_cases h0 : 0 ≤ i ∧ i < (l.length : Int)
      · right
        refine ⟨by simp; omega, ?_⟩
        have : ¬ (1 ≤ ref ∧ ref ≤ 1099511627776) := fun q => hin2 ⟨h0.1, h0.2, q⟩
        simp; omega
      · left
        simp; omega
  · rw [if_neg (fun q => by rw [hk] at q; simp at q)]
    exact post_err rfl (change_check a b A c l i ref _ w hr hk)

set_option maxRecDepth 100000 in
theorem change_block_spec (a b : Int) (A : Option Addr) (c : Nat) (l : List S36) (i ref : Int) (br bo : Nat) (remote on : Bool) (w : World) (hr : Kd.C k36 w A l.length l) (hc : l.length ≤ c) (hbr : w.cell? ⟨br, 0, none⟩ = some (.bool remote)) (hbo : w.cell? ⟨bo, 0, none⟩ = some (.bool on)) :
    Calls Try.prog 35 #[.agg #[.int .i64 a, .int .i64 b, .slice A l.length c], .int .i64 i, .int .i64 ref, .func (.func 44) #[] #[.pointer (some ⟨br, 0, none⟩), .pointer (some ⟨bo, 0, none⟩)]] w (ChgPost (chgS a b l i ref (fun _ c => blockS remote on c)) w) := by
  unfold chgS
  rcases check_or a b l with hk | hk
  · obtain ⟨hab, hl1, hl, hin⟩ := check_zero hk
    by_cases hin2 : 0 ≤ i ∧ i < (l.length : Int) ∧ 1 ≤ ref ∧ ref ≤ 1099511627776
    · rw [if_pos ⟨hk, hin2⟩]
      obtain ⟨h0, h1, h2, h3⟩ := hin2
      have hi : (decide (0 ≤ i) && decide (i ≤ wrap64 ((l.length : Int) - 1))) = true := by rw [w64_len hl]; simp; omega
      have hx : (decide (1 ≤ ref) && decide (ref ≤ 1099511627776)) = true := by simp; omega
      have hct := controls_eq hab hl h0 h1
      split
      · rename_i c' vd hm
        refine (change_block a b A c l i ref br bo w hr hc hk hi hx _ hct h0 h1 (by omega) c' vd (fun W lb g hb hL => block_upd W hL (pw_cell_below hb hbr) (pw_cell_below hb hbo) hm)).mono ?_
        rintro e w' ⟨v, rfl, hv, hb⟩
        exact ⟨v, rfl, hv, hb⟩
      · rename_i hm
        exact absurd hm (by simp [blockS] <;> (try split) <;> (try split) <;> simp)
    · rw [if_neg (fun q => hin2 q.2)]
      refine post_err rfl (change_range a b A c l i ref _ w hr hk ?_)
      rw [w64_len hl]
      by_cases h0 : 0 ≤ i ∧ i < (l.length : Int)
      · right
        refine ⟨by simp; omega, ?_⟩
        have : ¬ (1 ≤ ref ∧ ref ≤ 1099511627776) := fun q => hin2 ⟨h0.1, h0.2, q⟩
        simp; omega
      · left
        simp; omega
  · rw [if_neg (fun q => by rw [hk] at q; simp at q)]
    exact post_err rfl (change_check a b A c l i ref _ w hr hk)

end Go.Proofs.Ythemnajgdoambaa.Th
