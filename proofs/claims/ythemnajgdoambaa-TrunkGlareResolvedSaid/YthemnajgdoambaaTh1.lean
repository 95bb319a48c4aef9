/-
  Check of the package trunk, by hand: slices.IndexFunc and slices.ContainsFunc over 'invalid', and the contract of Check with the plain function checkS.
-/
import Derived.Test.YthemnajgdoambaaTa
import Derived.Lib.SliceRun
namespace Go.Proofs.Ythemnajgdoambaa.Th
open Go.RowKit Go.Proofs.YthemnajgdoambaaW.PrintWords Go.Proofs.YthemnajgdoambaaW.PrintLast Go.Proofs.YthemnajgdoambaaW.PrintMore Go.Proofs.Ythemnajgdoambaa.Tr
set_option linter.unusedVariables false
set_option linter.unusedSimpArgs false

/-! ### the plain functions -/
def inv (c : S36) : Bool := if c.f0 = 0 then c.f1 != 0 else !(decide (1 ≤ c.f0) && decide (c.f0 ≤ 3)) || !(decide (1 ≤ c.f1) && decide (c.f1 ≤ 1099511627776))
def shp (a b n : Int) : Bool := decide (0 ≤ a) && decide (a ≤ 5) && (decide (0 ≤ b) && decide (b ≤ 5)) && (a != b) && (decide (1 ≤ n) && decide (n ≤ 48))
def checkS (a b : Int) (l : List S36) : Int := if shp a b l.length && l.all (fun c => !inv c) then 0 else 1

theorem within_eq (a b c : Int) : trunk_within.f a b c = some (decide (b ≤ a) && decide (a ≤ c)) := by
  unfold trunk_within.f
  by_cases h : b ≤ a
  · rw [if_pos h, decide_eq_true h, Bool.true_and]
  · rw [if_neg h, decide_eq_false h, Bool.false_and]
theorem inv_eq (c : S36) : trunk_invalid.f c.f0 c.f1 c.f2 c.f3 = some (inv c) := by
  unfold trunk_invalid.f inv
  by_cases h : c.f0 = 0
  · rw [if_pos h, if_pos h]
  · rw [if_neg h, if_neg h, within_eq, within_eq]
    simp only [Option.bind_some]
    cases h2 : (decide (1 ≤ c.f0) && decide (c.f0 ≤ 3)) <;> simp
theorem shp_eq (a b n : Int) : trunk_shape.f a b n = some (shp a b n) := by
  unfold trunk_shape.f shp
  rw [within_eq, within_eq, within_eq]
  simp only [Option.bind_some]
  cases h1 : (decide (0 ≤ a) && decide (a ≤ 5)) <;> cases h2 : (decide (0 ≤ b) && decide (b ≤ 5)) <;> by_cases h3 : a = b <;> simp [h3]

/-! ### slices.IndexFunc over invalid -/
/-- The index of the first invalid circuit, or -1. -/
def idx : List S36 → Int → Int
  | [], _ => -1
  | c :: l, i => if inv c then i else idx l (i + 1)
theorem idx_neg : ∀ (l : List S36) (i : Int), 0 ≤ i → (decide (idx l i ≥ 0) = !(l.all fun c => !inv c)) := by
  intro l
  induction l with
  | nil => intro i h; rfl
  | cons c l ih =>
    intro i h
    unfold idx
    cases hc : inv c
    · simp only [Bool.false_eq_true, if_false, List.all_cons, hc, Bool.not_false, Bool.true_and]
      exact ih (i + 1) (by omega)
    · simp [hc, h]
theorem idx_drop {l : List S36} {k : Nat} (hk : k < l.length) : idx (l.drop k) k = if inv (rd_T36 l k) then (k : Int) else idx (l.drop (k + 1)) ((k + 1 : Nat) : Int) := by
  rw [List.drop_eq_getElem_cons hk]
  have e : rd_T36 l k = l[k] := by
    unfold rd_T36
    simp [List.getD_eq_getElem?_getD, hk]
  rw [e]
  simp only [idx]
  rfl

theorem ret_i {a b : Int} (h : a = b) : Ending.returned (.int .i64 a) = .returned (.int .i64 b) := by rw [h]

set_option maxHeartbeats 1000000 in
set_option maxRecDepth 100000 in
theorem indexFunc_calls (A : Option Addr) (c : Nat) (l : List S36) (w : World) (hr : Kd.C k36 w A l.length l) :
    Calls Try.prog 55 #[.slice A l.length c, .func (.func 40) #[] #[]] w fun e w' => e = .returned (.int .i64 (idx l 0)) ∧ Below w.heap.size w w' := by
  have hm : l.length ≤ 9223372036854775807 := hr.2.1
  have HR := Aside0.mk hr
  clear hr
  go_enter Try.func55, Try.ntmps55
  go_wp2
  go_loopw [5, 8] (fun _ i wr => ∃ k : Nat, k ≤ l.length ∧ i = .int .i64 k ∧ Aside0 (idx l 0 = idx (l.drop k) k) ∧ Aside0 (Below w.heap.size w wr)) (fun _ i _ => l.length - (intOf i).toNat)
  case atStart => exact ⟨0, Nat.zero_le _, rfl, ⟨rfl⟩, ⟨Below.refl _ _⟩⟩
  case round =>
    obtain ⟨k, hk, rfl, HI, HB⟩ := hrel
    by_cases hlt : k < l.length
    · have hC := Kd.C_below HR.out HB.out
      obtain ⟨ad, rfl, x0, x1, x2, x3⟩ := at_T36 hC (k : Int) (by omega) (by omega)
      clear hC
      have hd := idx_drop hlt
      rw [Int.toNat_natCast] at x0 x1 x2 x3
      have hinv := inv_eq (rd_T36 l (k : Int))
      generalize rd_T36 l (k : Int) = z at *
      have HV := Aside0.mk hinv
      have HD := Aside0.mk hd
      clear hinv hd
      cases hz : inv z
      all_goals
        have HZ := Aside0.mk hz
        clear hz
        go_wp2_with (go_at_call 40; refine (trunk_invalid.calls _ _ _ _ _ _ HV.out).mono ?_; rintro e w1 ⟨rfl, hb⟩; rw [HZ.out]; have HB1 := Aside0.mk (below_step HB.out hb); clear HB hb)
      · go_roundw
        case rel => exact ⟨k + 1, by omega, by go_num, ⟨by rw [HI.out, HD.out, HZ.out]; rfl⟩, HB1⟩
        case measure => simp [intOf]; omega
      · go_ret
        exact ⟨ret_i (by rw [HI.out, HD.out, HZ.out]; rfl), HB1.out⟩
    · go_wp2
      go_ret
      exact ⟨ret_i (by rw [HI.out, List.drop_of_length_le (by omega)]; rfl), HB.out⟩

set_option maxHeartbeats 1000000 in
theorem containsFunc_calls (A : Option Addr) (c : Nat) (l : List S36) (w : World) (hr : Kd.C k36 w A l.length l) :
    Calls Try.prog 39 #[.slice A l.length c, .func (.func 40) #[] #[]] w fun e w' => e = .returned (.bool (!(l.all fun c => !inv c))) ∧ Below w.heap.size w w' := by
  have HR := Aside0.mk hr
  clear hr
  have H := Aside0.mk (idx_neg l 0 (by omega))
  go_enter Try.func39, Try.ntmps39
  go_wp2_with (go_at_call 55; refine (indexFunc_calls _ _ _ _ HR.out).mono ?_; rintro e w1 ⟨rfl, hb⟩)
  go_ret
  exact ⟨by have := H.out; simp only [ge_iff_le] at this; rw [this]; rfl, hb⟩

set_option maxHeartbeats 2000000 in
set_option maxRecDepth 100000 in
theorem check_calls (a b : Int) (A : Option Addr) (c : Nat) (l : List S36) (w : World) (hr : Kd.C k36 w A l.length l) :
    Calls Try.prog 19 #[.agg #[.int .i64 a, .int .i64 b, .slice A l.length c]] w fun e w' => e = .returned (.int .i64 (checkS a b l)) ∧ Below w.heap.size w w' := by
  have HR := Aside0.mk hr
  clear hr
  have HS := Aside0.mk (shp_eq a b l.length)
  cases hs : shp a b l.length
  · have HZ := Aside0.mk hs
    clear hs
    go_enter Try.func19, Try.ntmps19
    go_wp2_with (go_at_call 34; refine (trunk_shape.calls _ _ _ _ _ HS.out).mono ?_; rintro e w1 ⟨rfl, hb⟩; rw [HZ.out]; have HB1 := Aside0.mk (below_step (below_alloc (Below.refl _ _) _) hb.below); clear hb)
    go_ret
    exact ⟨ret_i (by unfold checkS; rw [HZ.out]; rfl), HB1.out⟩
  · have HZ := Aside0.mk hs
    clear hs
    cases ha : l.all (fun c => !inv c)
    all_goals
      have HA := Aside0.mk ha
      clear ha
      go_enter Try.func19, Try.ntmps19
      go_wp2_with (first | (go_at_call 34; refine (trunk_shape.calls _ _ _ _ _ HS.out).mono ?_; rintro e w1 ⟨rfl, ⟨nd, rfl⟩⟩; rw [HZ.out]) | (go_at_call 39; refine (containsFunc_calls _ _ _ _ (by repeat (first | exact HR.out | (with_reducible refine Kd.C_alloc ?_ _) | (with_reducible refine Kd.C_drewN ?_ _) | (with_reducible refine Kd.C_drew ?_)))).mono ?_; rintro e w1 ⟨rfl, hb⟩; rw [HA.out]; have HB1 : Aside0 (Below w.heap.size w w1) := ⟨below_step (by repeat (first | exact Below.refl w.heap.size w | apply below_alloc | apply pw_below_drewN | apply below_drew1)) hb⟩; clear hb))
      go_ret
      exact ⟨ret_i (by unfold checkS; rw [HZ.out, HA.out]; rfl), HB1.out⟩

end Go.Proofs.Ythemnajgdoambaa.Th
