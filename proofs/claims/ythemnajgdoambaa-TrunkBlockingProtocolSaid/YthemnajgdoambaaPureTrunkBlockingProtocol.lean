/- TrunkBlockingProtocol: the walk's facts, computed: blocked circuits are not used by either exchange. -/
import Derived.Test.YthemnajgdoambaaWalkTrunkBlockingProtocol
namespace Go.Proofs.Ythemnajgdoambaa.Tr
open Go.RowKit Go.Proofs.YthemnajgdoambaaW.PrintWords Go.Proofs.YthemnajgdoambaaW.PrintLast Go.Proofs.YthemnajgdoambaaW.PrintMore Go.Proofs.Ythemnajgdoambaa.Th
set_option linter.unusedVariables false
set_option linter.unusedSimpArgs false

theorem reply_at {n r : Int} (h : isup_Reply.f 5 n = some r) (W : World) : Calls Try.prog 23 #[.int .i64 n] W fun e w' => e = .returned (.int .i64 r) ∧ Below W.heap.size W w' :=
  (isup_Reply.calls 5 n r W h).mono fun e w' ⟨he, ⟨k, hk⟩⟩ => ⟨he, by subst hk; exact pw_below_drewN (Below.refl _ _) k⟩
theorem same_at (a b : Int) (l : List S36) (hl : l.length ≤ 60) (B : Option Addr) (d : Nat) (B' : Option Addr) (d' : Nat) (W : World) (h : Kd.C k36 W B l.length l) (hd : l.length ≤ d) (h' : Kd.C k36 W B' l.length l) (hd' : l.length ≤ d') :
    Calls Try.prog 25 #[.agg #[.int .i64 a, .int .i64 b, .slice B l.length d], .agg #[.int .i64 a, .int .i64 b, .slice B' l.length d']] W fun e w' => e = .returned (.bool true) ∧ Below W.heap.size W w' :=
  crossbarref14_Same.calls 63 a b B d l a b B' d' l true W h hd h' hd' (same_refl a b l hl 63 (Nat.le_refl _))
theorem pick_not {a b i : Int} {l : List S36} {x : S36} (h0 : 0 ≤ i) (h1 : i < (l.length : Int)) (hx : av x = false) : (pickS a b (l.set i.toNat x)).isSome = false ∨ (pickS a b (l.set i.toNat x)).isSome = true ∧ (pickS a b (l.set i.toNat x)).getD 0 ≠ i := by
  cases hp : pickS a b (l.set i.toNat x) with
  | none => exact .inl rfl
  | some y =>
    refine .inr ⟨rfl, fun e => ?_⟩
    have e : y = i := e
    obtain ⟨_, _, ha⟩ := pick_some hp
    rw [e, rd_set_at h0 h1, hx] at ha
    exact absurd ha (by decide)

set_option maxHeartbeats 2000000 in
theorem crossbarlaw14_TrunkBlockingProtocol.walk (a b : Int) (A : Option Addr) (c : Nat) (l : List S36) (i : Int) (w : World) (hC : Kd.C k36 w A l.length l) (hc : l.length ≤ c) :
    Calls Try.prog 4 #[.agg #[.int .i64 a, .int .i64 b, .slice A l.length c], .int .i64 i] w fun e w' => e = .returned (.bool true) ∧ Below w.heap.size w w' := by
  by_cases h60 : l.length ≤ 60
  case neg => exact bp_few a b A c l i w hC hc h60
  rcases check_or a b l with hk | hk
  case inr => exact bp_bad a b A c l i w hC hc h60 hk
  by_cases h0 : i < 0
  · exact bp_neg a b A c l i w hC hc h60 hk h0
  have h0 : 0 ≤ i := by omega
  by_cases h1 : i < (l.length : Int)
  case neg => exact bp_big a b A c l i w hC hc h60 hk h0 (by omega)
  cases hr3 : (rd_T36 l i).f3 with
  | true => exact bp_rem a b A c l i w hC hc h60 hk h0 h1 hr3
  | false =>
    by_cases hr0 : (rd_T36 l i).f0 = 0
    case neg => exact bp_busy a b A c l i w hC hc h60 hk h0 h1 hr3 hr0
    have hin : ((i.toNat : Nat) : Int) = i := Int.toNat_of_nonneg h0
    obtain ⟨c0, hc0⟩ : ∃ x, rd_T36 l i = x := ⟨_, rfl⟩
    have hmem := rd_mem h0 h1
    rw [hin, hc0] at hmem
    have hinv : inv c0 = false := (check_zero hk).2.2.2 _ hmem
    have hl48 := (check_zero hk).2.2.1
    have hlen : ∀ x : S36, (l.set i.toNat x).length = l.length := fun x => List.length_set
    have hsame : l.set i.toNat c0 = l := by
      have := set_same (l := l) (i := i.toNat) (by omega) (c := c0) (by rw [hin, hc0])
      exact this
    have hr3' : c0.f3 = false := hc0 ▸ hr3
    have hr0' : c0.f0 = 0 := hc0 ▸ hr0
    have hku : checkS a b (l.set i.toNat ⟨c0.f0, c0.f1, c0.f2, true⟩) = 0 := checkS_set hk hinv
    have hkm : checkS a b (l.set i.toNat ⟨c0.f0, c0.f1, true, c0.f3⟩) = 0 := checkS_set hk hinv
    have ru := rd_set_at h0 h1 (⟨c0.f0, c0.f1, c0.f2, true⟩ : S36)
    have rm := rd_set_at h0 h1 (⟨c0.f0, c0.f1, true, c0.f3⟩ : S36)
    have avu : av ⟨c0.f0, c0.f1, c0.f2, true⟩ = false := by simp [av]
    have avm : av ⟨c0.f0, c0.f1, true, c0.f3⟩ = false := by simp [av]
    have hu1 : i < ((l.set i.toNat (⟨c0.f0, c0.f1, c0.f2, true⟩ : S36)).length : Int) := by rw [hlen]; exact h1
    have hm1 : i < ((l.set i.toNat (⟨c0.f0, c0.f1, true, c0.f3⟩ : S36)).length : Int) := by rw [hlen]; exact h1
    obtain ⟨lb, EB, DB⟩ := blo_enc i h0 (by omega)
    refine bp_free a b A c l i w hC hc h60 hk h0 h1 hr3 hr0 (l.set i.toNat ⟨c0.f0, c0.f1, c0.f2, true⟩) (l.set i.toNat ⟨c0.f0, c0.f1, true, c0.f3⟩) lb
      ((pickS a b (l.set i.toNat ⟨c0.f0, c0.f1, c0.f2, true⟩)).getD 0) ((pickS a b (l.set i.toNat ⟨c0.f0, c0.f1, true, c0.f3⟩)).getD 0)
      (pickS a b (l.set i.toNat ⟨c0.f0, c0.f1, c0.f2, true⟩)).isSome (pickS a b (l.set i.toNat ⟨c0.f0, c0.f1, true, c0.f3⟩)).isSome
      ?_ ?_ ?_ ?_ ?_ ?_ ?_ ?_ ?_ EB DB ?_ ?_ (pick_not h0 h1 avu) (pick_not h0 h1 avm)
    · intro W hr
      refine trunk_Block.calls a b A c l i true true a b _ 0 W hr hc ?_
      unfold trunk_Block.f
      rw [chg_in hk h0 h1 (by decide) (by decide), hin, hc0]
      rfl
    · intro W hr
      refine trunk_Block.calls a b A c l i false true a b _ 0 W hr hc ?_
      unfold trunk_Block.f
      rw [chg_in hk h0 h1 (by decide) (by decide), hin, hc0]
      rfl
    · intro B d W hr hd
      exact trunk_Pick.calls a b B d _ _ _ W hr hd (pick_eq (by rw [hlen]; exact h60))
    · intro B d W hr hd
      exact trunk_Pick.calls a b B d _ _ _ W hr hd (pick_eq (by rw [hlen]; exact h60))
    · intro B d W hr hd
      refine trunk_Seize.calls a b B d _ i 1 0 0 [] 140 W hr hd ?_
      rw [seize_eq, chg_in hku h0 hu1 (by decide) (by decide), hin, ru]
      simp [seizeS, avu]
    · intro B d W hr hd
      refine trunk_Arrive.calls a b B d _ i 1 a b _ 4 0 W hr hd ?_
      unfold trunk_Arrive.f
      rw [chg_in hkm h0 hm1 (by decide) (by decide), hin, rm]
      simp [arriveS, List.set_set]
    · intro B d W hr hd
      refine trunk_Block.calls a b B d _ i true false a b l 0 W hr hd ?_
      unfold trunk_Block.f
      rw [chg_in hku h0 hu1 (by decide) (by decide), hin, ru]
      have e : (⟨c0.f0, c0.f1, c0.f2, false⟩ : S36) = c0 := by rw [← hr3']
      simp only [blockS, if_true, List.set_set, e, hsame]
    · exact same_at a b _ (by rw [hlen]; exact h60)
    · exact same_at a b l h60
    · exact reply_at (by decide +kernel)
    · exact reply_at (by decide +kernel)
end Go.Proofs.Ythemnajgdoambaa.Tr
