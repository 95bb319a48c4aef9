/- TrunkGlareResolved: the walk's facts, computed: of the two exchanges one keeps the circuit, the other yields. -/
import Derived.Test.YthemnajgdoambaaWalkTrunkGlareResolved
namespace Go.Proofs.Ythemnajgdoambaa.Tr
open Go.RowKit Go.Proofs.YthemnajgdoambaaW.PrintWords Go.Proofs.YthemnajgdoambaaW.PrintLast Go.Proofs.YthemnajgdoambaaW.PrintMore Go.Proofs.Ythemnajgdoambaa.Th
set_option linter.unusedVariables false
set_option linter.unusedSimpArgs false

theorem shp_swap (a b n : Int) : shp b a n = shp a b n := by
  unfold shp
  rw [Bool.and_comm (decide (0 ≤ b) && decide (b ≤ 5)), show (b != a) = (a != b) from by rw [bne_comm]]
theorem new_eq (a b n : Int) : trunk_New.f a b n = if shp a b n = true then some (a, b, List.replicate n.toNat z36, 0) else some (0, 0, [], 1) := by
  unfold trunk_New.f
  rw [shp_eq]
  by_cases h : shp a b n = true
  · have hn : 1 ≤ n ∧ n ≤ 48 := by
      simp only [shp, Bool.and_eq_true, decide_eq_true_eq] at h
      exact h.2
    simp [h, show 0 ≤ n by omega, show n.toNat ≤ 11728124029610 by omega]
  · simp [h]
theorem check_new {a b n : Int} (h : shp a b n = true) : checkS a b (List.replicate n.toNat z36) = 0 := by
  have hn : 1 ≤ n ∧ n ≤ 48 := by
    simp only [shp, Bool.and_eq_true, decide_eq_true_eq] at h
    exact h.2
  have e : ((List.replicate n.toNat z36).length : Int) = n := by rw [List.length_replicate]; omega
  unfold checkS
  rw [e, h]
  have : (List.replicate n.toNat z36).all (fun c => !inv c) = true := by
    rw [List.all_eq_true]
    intro c hc
    rw [List.eq_of_mem_replicate hc]
    rfl
  rw [this]
  rfl
theorem rd_new {n i : Int} (h0 : 0 ≤ i) (h1 : i < n) : rd_T36 (List.replicate n.toNat z36) i = z36 := by
  unfold rd_T36
  rw [List.getD_eq_getElem?_getD, List.getElem?_replicate, if_pos (by omega)]
  rfl
theorem new_calls {a b n r1 r2 e : Int} {l : List S36} (h : trunk_New.f a b n = some (r1, r2, l, e)) (W : World) :
    Calls Try.prog 12 #[.int .i64 a, .int .i64 b, .int .i64 n] W fun e' w' => ∃ v, e' = .returned (.tuple #[.agg #[.int .i64 r1, .int .i64 r2, v], .int .i64 e]) ∧ Kd.R k36 36 w' W.heap.size (fun _ => True) v l ∧ Below W.heap.size W w' :=
  trunk_New.calls a b n r1 r2 l e W h

set_option maxHeartbeats 2000000 in
theorem crossbarlaw14_TrunkGlareResolved.walk (own peer n i o t : Int) (w : World) (ho : 0 ≤ o ∧ o ≤ 65535) (ht : 0 ≤ t ∧ t ≤ 65535) :
    Calls Try.prog 3 #[.int .i64 own, .int .i64 peer, .int .i64 n, .int .i64 i, .int .u16 o, .int .u16 t] w fun e w' => e = .returned (.bool true) ∧ Below w.heap.size w w' := by
  by_cases hs : shp own peer n = true
  case neg =>
    exact gl_off own peer n i o t w (fun W => new_calls (by rw [new_eq, if_neg hs]) W) (fun W => new_calls (by rw [new_eq, shp_swap, if_neg hs]) W)
  have hs' : shp peer own n = true := by rw [shp_swap]; exact hs
  have NA := fun W => new_calls (a := own) (b := peer) (n := n) (by rw [new_eq, if_pos hs]) W
  have NB := fun W => new_calls (a := peer) (b := own) (n := n) (by rw [new_eq, if_pos hs']) W
  by_cases h0 : i < 0
  · exact gl_neg own peer n i o t w _ h0 NA NB
  have h0 : 0 ≤ i := by omega
  by_cases h1 : i < n
  case neg => exact gl_big own peer n i o t w _ h0 (by omega) NA NB
  have hk := check_new hs
  have hk' := check_new hs'
  have hz := rd_new h0 h1
  have hn48 : n ≤ 48 := by
    simp only [shp, Bool.and_eq_true, decide_eq_true_eq] at hs
    exact hs.2.2
  have hl : ((List.replicate n.toNat z36).length : Int) = n := by rw [List.length_replicate]; omega
  obtain ⟨l, hle⟩ : ∃ l, l = List.replicate n.toNat z36 := ⟨_, rfl⟩
  rw [← hle] at hk hk' hz hl NA NB
  clear hle
  have hab : own ≠ peer := (check_zero hk).1
  have hin : ((i.toNat : Nat) : Int) = i := Int.toNat_of_nonneg h0
  have h1' : i < (l.length : Int) := by omega
  obtain ⟨x, hx⟩ : ∃ x, wrap64 (1 + wrap64 o) = x := ⟨_, rfl⟩
  obtain ⟨y, hy⟩ : ∃ y, wrap64 (1 + wrap64 t) = y := ⟨_, rfl⟩
  have hxv : 1 ≤ x ∧ x ≤ 65536 := by rw [← hx]; unfold wrap64; omega
  have hyv : 1 ≤ y ∧ y ≤ 65536 := by rw [← hy]; unfold wrap64; omega
  have ivo : ∀ {z : Int}, 1 ≤ z → z ≤ 65536 → inv ⟨1, z, false, false⟩ = false := by
    intro z a b
    simp [inv, a, show z ≤ 1099511627776 by omega]
  have sz : ∀ {z : Int}, seizeS z36 z = some (⟨1, z, false, false⟩, 0) := rfl
  have ka := checkS_set (i := i.toNat) hk (ivo hxv.1 hxv.2)
  have kb := checkS_set (i := i.toNat) hk' (ivo hyv.1 hyv.2)
  have ra := rd_set_at h0 h1' (⟨1, x, false, false⟩ : S36)
  have rb := rd_set_at h0 h1' (⟨1, y, false, false⟩ : S36)
  have la1 : i < ((l.set i.toNat (⟨1, x, false, false⟩ : S36)).length : Int) := by rw [List.length_set]; exact h1'
  have lb1 : i < ((l.set i.toNat (⟨1, y, false, false⟩ : S36)).length : Int) := by rw [List.length_set]; exact h1'
  have la60 : (l.set i.toNat (⟨1, x, false, false⟩ : S36)).length ≤ 60 := by rw [List.length_set]; omega
  have lb60 : (l.set i.toNat (⟨1, y, false, false⟩ : S36)).length ≤ 60 := by rw [List.length_set]; omega
  have SA : ∀ B d W, Kd.C k36 W B l.length l → l.length ≤ d → Calls Try.prog 13 #[.agg #[.int .i64 own, .int .i64 peer, .slice B l.length d], .int .i64 i, .int .i64 x] W fun e w' => ∃ v, e = .returned (.tuple #[.agg #[.int .i64 own, .int .i64 peer, v], .int .i64 0]) ∧ Kd.R k36 36 w' W.heap.size (fun _ => True) v (l.set i.toNat ⟨1, x, false, false⟩) ∧ Below W.heap.size W w' := by
    intro B d W hr hd
    refine trunk_Seize.calls own peer B d l i x own peer _ 0 W hr hd ?_
    rw [seize_eq, chg_in hk h0 h1' hxv.1 (by omega), hin, hz, sz]
  have SB : ∀ B d W, Kd.C k36 W B l.length l → l.length ≤ d → Calls Try.prog 13 #[.agg #[.int .i64 peer, .int .i64 own, .slice B l.length d], .int .i64 i, .int .i64 y] W fun e w' => ∃ v, e = .returned (.tuple #[.agg #[.int .i64 peer, .int .i64 own, v], .int .i64 0]) ∧ Kd.R k36 36 w' W.heap.size (fun _ => True) v (l.set i.toNat ⟨1, y, false, false⟩) ∧ Below W.heap.size W w' := by
    intro B d W hr hd
    refine trunk_Seize.calls peer own B d l i y peer own _ 0 W hr hd ?_
    rw [seize_eq, chg_in hk' h0 h1' hyv.1 (by omega), hin, hz, sz]
  have TX := fun W => sent_calls i x h0 (by omega) hxv.1 (by omega) W
  have TY := fun W => sent_calls i y h0 (by omega) hyv.1 (by omega) W
  have BUT : ∀ (a b : Int) (m : List S36) (c : S36), m.length ≤ 60 → ∀ B d B' d' W, Kd.C k36 W B (m.set i.toNat c).length (m.set i.toNat c) → (m.set i.toNat c).length ≤ d → Kd.C k36 W B' m.length m → m.length ≤ d' → Calls Try.prog 17 #[.agg #[.int .i64 a, .int .i64 b, .slice B (m.set i.toNat c).length d], .agg #[.int .i64 a, .int .i64 b, .slice B' m.length d'], .int .i64 i] W fun e w' => e = .returned (.bool true) ∧ Below W.heap.size W w' := by
    intro a b m c hm B d B' d' W h hd h' hd'
    exact crossbarref14_SameBut.calls 63 a b B d _ a b B' d' m i true W h hd h' hd' (but_set a b m i h0 c hm 63 (Nat.le_refl _))
  have CO : ∀ B d W, Kd.C k36 W B (l.set i.toNat (⟨1, x, false, false⟩ : S36)).length (l.set i.toNat ⟨1, x, false, false⟩) → (l.set i.toNat (⟨1, x, false, false⟩ : S36)).length ≤ d → Calls Try.prog 16 #[.agg #[.int .i64 own, .int .i64 peer, .slice B (l.set i.toNat (⟨1, x, false, false⟩ : S36)).length d], .int .i64 i] W fun e w' => e = .returned (.bool (ctlS own peer i)) ∧ Below W.heap.size W w' := by
    intro B d W hr hd
    exact trunk_Controls.calls own peer B d _ i _ W hr hd (controls_eq hab (by rw [List.length_set]; omega) h0 la1)
  have sw : ctlS peer own i = !ctlS own peer i := ctlS_swap hab
  cases hc : ctlS own peer i with
  | true =>
    rw [hc] at CO sw
    refine gl_ctl own peer n i o t w l _ _ ((l.set i.toNat ⟨1, x, false, false⟩).set i.toNat ⟨1, x, false, false⟩) ((l.set i.toNat ⟨1, y, false, false⟩).set i.toNat ⟨2, x, false, false⟩) x y h0 h1 hx hy (by rw [List.length_set, List.length_set]; exact hl) (by rw [List.length_set, List.length_set]; exact hl) (rd_set_at h0 la1 _) (rd_set_at h0 lb1 _) NA NB SA SB TX TY ?_ ?_ CO (BUT _ _ _ _ la60) (BUT _ _ _ _ lb60)
    · intro B d W hr hd
      refine trunk_Arrive.calls own peer B d _ i y own peer _ 2 0 W hr hd ?_
      unfold trunk_Arrive.f
      rw [chg_in ka h0 la1 hyv.1 (by omega), hin, ra, hc]
      rfl
    · intro B d W hr hd
      refine trunk_Arrive.calls peer own B d _ i x peer own _ 3 0 W hr hd ?_
      unfold trunk_Arrive.f
      rw [chg_in kb h0 lb1 hxv.1 (by omega), hin, rb, sw]
      rfl
  | false =>
    rw [hc] at CO sw
    refine gl_not own peer n i o t w l _ _ ((l.set i.toNat ⟨1, x, false, false⟩).set i.toNat ⟨2, y, false, false⟩) ((l.set i.toNat ⟨1, y, false, false⟩).set i.toNat ⟨1, y, false, false⟩) x y h0 h1 hx hy (by rw [List.length_set, List.length_set]; exact hl) (by rw [List.length_set, List.length_set]; exact hl) (rd_set_at h0 la1 _) (rd_set_at h0 lb1 _) NA NB SA SB TX TY ?_ ?_ CO (BUT _ _ _ _ la60) (BUT _ _ _ _ lb60)
    · intro B d W hr hd
      refine trunk_Arrive.calls own peer B d _ i y own peer _ 3 0 W hr hd ?_
      unfold trunk_Arrive.f
      rw [chg_in ka h0 la1 hyv.1 (by omega), hin, ra, hc]
      rfl
    · intro B d W hr hd
      refine trunk_Arrive.calls peer own B d _ i x peer own _ 2 0 W hr hd ?_
      unfold trunk_Arrive.f
      rw [chg_in kb h0 lb1 hxv.1 (by omega), hin, rb, sw]
      rfl
end Go.Proofs.Ythemnajgdoambaa.Tr
