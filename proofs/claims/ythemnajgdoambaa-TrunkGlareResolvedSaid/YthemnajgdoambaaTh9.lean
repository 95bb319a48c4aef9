/-
  Pick of the package trunk, by hand: slices.Backward at circuits (its iterator's contract).
-/
import Derived.Test.YthemnajgdoambaaTh7
import Derived.RangeFuncNested
import Derived.RangeFuncBound
import Derived.RangeFuncCalls
import Derived.RangeFuncLeaves
import Derived.Shelf.Abstract
import Derived.Shelf.RegionOpen
import Derived.WalkKit
import Derived.OwnWalkIn
import Derived.TacticsInMore
import Derived.LoopNIn
import Derived.LoopIn
namespace Go.Proofs.Ythemnajgdoambaa.Th
open Go.RowKit Go.Shelf Go.Proofs.YthemnajgdoambaaW.PrintWords Go.Proofs.YthemnajgdoambaaW.PrintLast Go.Proofs.YthemnajgdoambaaW.PrintMore Go.Proofs.Ythemnajgdoambaa.Tr
set_option linter.unusedVariables false
set_option linter.unusedSimpArgs false
attribute [local go_sem] Oper.semAt_some

/-- What slices.Backward still hands out when k are left. -/
def dn (l : List S36) : Nat → List (Int × S36)
  | 0 => []
  | k + 1 => ((k : Int), rd_T36 l (k : Int)) :: dn l k
theorem dn_length (l : List S36) : ∀ k, (dn l k).length = k
  | 0 => rfl
  | k + 1 => by simp [dn, dn_length l k]

def enc2 (x : Int × S36) : Array Value := #[.int .i64 x.1, .agg #[.int .i64 x.2.f0, .int .i64 x.2.f1, .bool x.2.f2, .bool x.2.f3]]

set_option maxRecDepth 100000 in
set_option maxHeartbeats 2000000 in
theorem bw_stops (n : Nat) (hn : 1 ≤ n) (Bs c : Nat) (A : Option Addr) (l : List S36) (hl : l.length ≤ 60) (w0 : World) (hC : Kd.C k36 w0 A l.length l) (hBs : w0.cell? ⟨Bs, 0, none⟩ = some (.slice A l.length c)) :
    SeqStopsK Fence.wide n Try.prog 92 #[.pointer (some ⟨Bs, 0, none⟩)] enc2 (Below w0.heap.size) (fun xs => xs = dn l l.length) (fun pre => pre <+: dn l l.length) l.length w0 := fun l1 J Jx W hW _ _ hY h0 => by
  have hro : Fence.wide.round = none := rfl
  have hcW := pw_cell_below hW hBs
  refine callsIn_of_wp Try.func92 rfl trivial ?_ hro
  simp only [Try.ntmps92, List.size_toArray, List.length_cons, List.length_nil, Nat.reduceAdd, Nat.reduceSub, Array.replicate_succ, Array.replicate_zero, List.push_toArray, List.append_toArray, List.nil_append, List.cons_append]
  gi_wp2
  gi_loopw [3] (fun i wr => ∃ (k : Nat) (pre : List (Int × S36)), k ≤ l.length ∧ i = .int .i64 ((k : Int) - 1) ∧ pre ++ dn l k = dn l l.length ∧ J pre wr ∧ Below w0.heap.size w0 wr)
    (fun i _ => (intOf i + 1).toNat)
  case atStart =>
    exact ⟨l.length, [], Nat.le_refl _, rfl, rfl, h0, hW⟩
  case round =>
    obtain ⟨k, pre, hk, rfl, hpre, hJ, hB⟩ := hrel
    have hcr := pw_cell_below hB hBs
    cases k with
    | zero =>
      gi_wp2
      go_end0
      exact ⟨⟨_, rfl⟩, .inl ⟨_, by simpa [dn] using hpre, hJ⟩⟩
    | succ k =>
      have hCr := Kd.C_below hC hB
      obtain ⟨ad, rfl, x0, x1, x2, x3⟩ := at_T36 hCr (k : Int) (by omega) (by omega)
      rw [Int.toNat_natCast] at x0 x1 x2 x3
      have hlen : pre.length < l.length := by
        have := congrArg List.length hpre
        rw [List.length_append, dn_length, dn_length] at this
        omega
      obtain ⟨fn, tmps, assign, body, hy, hR⟩ := hY pre ((k : Int), rd_T36 l (k : Int)) wr hJ hlen
      dsimp only [enc2] at hy
      have hp2 : (pre ++ [((k : Int), rd_T36 l (k : Int))]) ++ dn l k = dn l l.length := by rw [← hpre]; simp [dn]
      have e1 : ((k + 1 : Nat) : Int) - 1 = (k : Int) := by omega
      rw [e1]
      gi_wp2
      refine hR.mono ?_
      rintro e W3 (⟨rfl, hJ3, hk3⟩ | ⟨rfl, hJx3⟩)
      · gi_wp2
        go_roundw
        case rel => exact ⟨k, _, by omega, by go_num, hp2, hJ3, hB.trans hk3⟩
        case measure => simp [intOf]
      · gi_wp2
        refine bodyPost_ret (results_none rfl _ _ _) rfl ?_
        exact ⟨⟨_, rfl⟩, .inr ⟨_, ⟨_, hp2⟩, hJx3⟩⟩

theorem wide_depth {p : Prop} : Fence.wide.depth.isSome = true → p := fun h => by simp [Fence.wide] at h
theorem wide_in {l : Nat} {p : Prop} : (Fence.wide.inRound l).depth.isSome = true → p := fun h => by simp [Fence.wide] at h
theorem grown_of_below {W W' : World} (h : Below W.heap.size W W') : W.grownBy W' none := ⟨h.os, h.tape, h.output, h.size, fun k hk _ => h.block k hk⟩

def ctlB (a b n i : Int) : Bool := (decide (0 ≤ i) && decide (i ≤ wrap64 (n - 1))) && (a != b) && ctlS a b i
theorem ctlB_eq (a b : Int) (l : List S36) (i : Int) : trunk_Controls.f a b l i = some (ctlB a b l.length i) := by
  unfold trunk_Controls.f ctlB ctlS
  rw [within_eq]
  cases h : (decide (0 ≤ i) && decide (i ≤ wrap64 ((l.length : Int) - 1)))
  · simp
  · by_cases hab : a = b <;> simp [hab]
def fwP (a b : Int) (l : List S36) (j : Nat) : Bool := av (rd_T36 l (j : Int)) && ctlB a b l.length (j : Int)
def bwP (a b n : Int) (x : Int × S36) : Bool := av x.2 && !ctlB a b n x.1
/-- What Pick finds. -/
def pickS (a b : Int) (l : List S36) : Option Int :=
  match (List.range l.length).find? (fwP a b l) with
  | some j => some (j : Int)
  | none => ((dn l l.length).find? (bwP a b l.length)).map (·.1)

theorem keeps_below {B : Nat} {W W' : World} (h : Below W.heap.size W W') : KeepsFrom B W W' := ⟨h.size, fun k o _ hk _ => (h.block k (Array.getElem?_eq_some_iff.1 hk).1).trans hk⟩
theorem keeps_mono {B B' : Nat} {W W' : World} (h : KeepsFrom B W W') (hB : B ≤ B') : KeepsFrom B' W W' := ⟨h.size, fun k o hk => h.same k o (Nat.le_trans hB hk)⟩
theorem find_pre {α : Type} {p : α → Bool} {p0 : List α} {x : α} {xs : List α} (hpre : p0 ++ [x] <+: xs) (h0 : ∀ y ∈ p0, p y = false) (hx : p x = true) : xs.find? p = some x := by
  obtain ⟨t, rfl⟩ := hpre
  have e : p0.find? p = none := List.find?_eq_none.2 (fun y hy => by rw [h0 y hy]; simp)
  rw [List.append_assoc, List.find?_append, e]
  simp [hx]
theorem pick_fw {a b : Int} {l : List S36} {k : Nat} (hk : k < l.length) (h1 : fwP a b l k = true) (h0 : ∀ j, j < k → fwP a b l j = false) : pickS a b l = some (k : Int) := by
  unfold pickS
  have e : (List.range l.length).find? (fwP a b l) = some k := by
    rw [List.find?_range_eq_some]
    exact ⟨h1, List.mem_range.2 hk, fun j hj => by simp [h0 j hj]⟩
  rw [e]
theorem pick_no {a b : Int} {l : List S36} (h0 : ∀ j, j < l.length → fwP a b l j = false) : pickS a b l = ((dn l l.length).find? (bwP a b l.length)).map (·.1) := by
  unfold pickS
  have e : (List.range l.length).find? (fwP a b l) = none := by
    rw [List.find?_eq_none]
    intro j hj
    rw [h0 j (List.mem_range.1 hj)]
    simp
  rw [e]

theorem backward_calls (A : Option Addr) (n c : Nat) (w : World) :
    Calls Try.prog 72 #[.slice A n c] w fun e w' => e = .returned (.func (.func 92) #[] #[.pointer (some ⟨w.heap.size, 0, none⟩)]) ∧ w' = w.alloc (.cells #[.slice A n c] 24) := by
  go_enter Try.func72, Try.ntmps72
  go_wp2
  go_ret
  exact ⟨rfl, rfl⟩

set_option maxRecDepth 100000 in
set_option maxHeartbeats 4000000 in
theorem cand_in (n : Nat) (hn : 4 ≤ n) (l1 Bt c : Nat) (a b : Int) (A : Option Addr) (l : List S36) (hl : l.length ≤ 60) (hc : l.length ≤ c) (w0 : World) (hC : Kd.C k36 w0 A l.length l)
    (t0 : w0.cell? ⟨Bt, 0, none⟩ = some (.int .i64 a)) (t1 : w0.cell? ⟨Bt, 1, none⟩ = some (.int .i64 b)) (t2 : w0.cell? ⟨Bt, 2, none⟩ = some (.slice A l.length c))
    (J : Unit → World → Prop) (Jx : Int → World → Prop) (hJ : OwnFrom w0.heap.size J) (hJx : OwnFrom w0.heap.size Jx)
    (hY : ∀ (m : Nat) (i : Int) (W1 : World), J () W1 → YieldAt Fence.wide m Try.prog l1 #[.int .i64 i] W1 fun e W' => e = .returned (.bool false) ∧ Jx i W' ∧ KeepsFrom w0.heap.size W1 W')
    (W : World) (hW : Below w0.heap.size w0 W) (h0 : J () W) :
    CallsIn Fence.wide n Try.prog 71 #[.func (.yield l1) #[] #[], .pointer (some ⟨Bt, 0, none⟩)] W fun e W' => (∃ v, e = .returned v) ∧ ((pickS a b l = none ∧ J () W') ∨ (∃ i, pickS a b l = some i ∧ Jx i W')) := by
  have hro : Fence.wide.round = none := rfl
  have T0 := pw_cell_below hW t0
  have T1 := pw_cell_below hW t1
  have T2 := pw_cell_below hW t2
  refine callsIn_of_wp_marks Try.func71 rfl trivial ?_ hro
  simp only [Try.ntmps71, List.size_toArray, List.length_cons, List.length_nil, Nat.reduceAdd, Nat.reduceSub, Array.replicate_succ, Array.replicate_zero, List.push_toArray, List.append_toArray, List.nil_append, List.cons_append]
  have hBt : Bt < W.heap.size := World.block_lt_of_cell? _ ⟨Bt, 0, none⟩ T0
  gi_wp2
  gi_loopw [10] (fun i wr => ∃ k : Nat, k ≤ l.length ∧ i = .int .i64 k ∧ Aside0 (∀ j, j < k → fwP a b l j = false) ∧ Aside0 (Below W.heap.size W wr) ∧ W.heap.size < wr.heap.size ∧ wr.cell? ⟨W.heap.size, 0, none⟩ = some (.func (.yield l1) #[] #[]))
    (fun i _ => l.length - (intOf i).toNat)
  case atStart => exact ⟨0, Nat.zero_le _, rfl, ⟨fun j h => by omega⟩, ⟨(Below.refl _ W).alloc (Nat.le_refl _) _⟩, by simp, by go_simp⟩
  case round =>
    obtain ⟨k, hk, rfl, HP, HB, hYs, hYc⟩ := hrel
    by_cases hlt : k < l.length
    · have hCr := Kd.C_below (Kd.C_below hC hW) HB.out
      obtain ⟨ad, rfl, x0, x1, x2, x3⟩ := at_T36 hCr (k : Int) (by omega) (by omega)
      rw [Int.toNat_natCast] at x0 x1 x2 x3
      have HA := Aside0.mk (av_eq (rd_T36 l (k : Int)))
      have HT := Aside0.mk (ctlB_eq a b l (k : Int))
      have hbt : Bt < wr.heap.size := by omega
      have y0 := pw_cell_below HB.out T0
      have y1 := pw_cell_below HB.out T1
      have y2 := pw_cell_below HB.out T2
      cases hav : av (rd_T36 l (k : Int))
      · rw [hav] at HA
        gi_wp2_with (first | (refine ⟨trivial, wide_depth, ?_⟩; gi_at_call 54; refine (callsIn_wide.2 (trunk_available.calls _ _ _ _ _ _ HA.out)).mono ?_; rintro e w1 ⟨rfl, hb⟩; have HB1 := Aside0.mk (below_step (below_alloc HB.out _) hb); have hsz : wr.heap.size ≤ w1.heap.size := (by have q := hb.size; simp at q; omega); have z0 := pw_cell_below HB1.out T0; have z1 := pw_cell_below HB1.out T1; have z2 := pw_cell_below HB1.out T2; have zc := pw_cell_below (below_step (below_alloc (Below.refl _ _) _) hb) hYc; clear hb; dsimp only))
        repeat (first | (refine ⟨trivial, ?_⟩; gi_wp2) | (refine ⟨fun _ h => (by cases h), ?_⟩; gi_wp2))
        go_roundw
        case rel =>
          refine ⟨k + 1, by omega, by go_num, ⟨fun j hj => ?_⟩, HB1, by omega, zc⟩
          rcases Nat.lt_or_eq_of_le (Nat.lt_succ_iff.1 hj) with h | h
          · exact HP.out j h
          · subst h; simp [fwP, hav]
        case measure => simp [intOf]; omega
      · rw [hav] at HA
        cases hct : ctlB a b l.length (k : Int)
        · rw [hct] at HT
          gi_wp2_with (first | (refine ⟨trivial, wide_depth, ?_⟩; gi_at_call 54; refine (callsIn_wide.2 (trunk_available.calls _ _ _ _ _ _ HA.out)).mono ?_; rintro e w1 ⟨rfl, hb⟩; have HB1 := Aside0.mk (below_step (below_alloc HB.out _) hb); have hsz : wr.heap.size ≤ w1.heap.size := (by have q := hb.size; simp at q; omega); have z0 := pw_cell_below HB1.out T0; have z1 := pw_cell_below HB1.out T1; have z2 := pw_cell_below HB1.out T2; have zc := pw_cell_below (below_step (below_alloc (Below.refl _ _) _) hb) hYc; clear hb; dsimp only) | (refine ⟨trivial, wide_depth, ?_⟩; gi_at_call 16; refine (callsIn_wide.2 (trunk_Controls.calls _ _ _ _ _ _ _ _ ?s1 hc HT.out)).mono ?_; (case s1 => exact Kd.C_below (Kd.C_below hC hW) HB1.out); rintro e w2 ⟨rfl, hb⟩; have HB2 := Aside0.mk (below_step HB1.out hb); have zd := pw_cell_below hb zc; have hsz2 := hb.size; clear hb; dsimp only))
          repeat (first | (refine ⟨trivial, ?_⟩; gi_wp2) | (refine ⟨fun _ h => (by cases h), ?_⟩; gi_wp2))
          go_roundw
          case rel =>
            refine ⟨k + 1, by omega, by go_num, ⟨fun j hj => ?_⟩, HB2, by omega, zd⟩
            rcases Nat.lt_or_eq_of_le (Nat.lt_succ_iff.1 hj) with h | h
            · exact HP.out j h
            · subst h; simp [fwP, hav, hct]
          case measure => simp [intOf]; omega
        · rw [hct] at HT
          gi_wp2_with (first | (refine ⟨trivial, wide_depth, ?_⟩; gi_at_call 54; refine (callsIn_wide.2 (trunk_available.calls _ _ _ _ _ _ HA.out)).mono ?_; rintro e w1 ⟨rfl, hb⟩; have HB1 := Aside0.mk (below_step (below_alloc HB.out _) hb); have hsz : wr.heap.size ≤ w1.heap.size := (by have q := hb.size; simp at q; omega); have z0 := pw_cell_below HB1.out T0; have z1 := pw_cell_below HB1.out T1; have z2 := pw_cell_below HB1.out T2; have zc := pw_cell_below (below_step (below_alloc (Below.refl _ _) _) hb) hYc; clear hb; dsimp only) | (refine ⟨trivial, wide_depth, ?_⟩; gi_at_call 16; refine (callsIn_wide.2 (trunk_Controls.calls _ _ _ _ _ _ _ _ ?s1 hc HT.out)).mono ?_; (case s1 => exact Kd.C_below (Kd.C_below hC hW) HB1.out); rintro e w2 ⟨rfl, hb⟩; have HB2 := Aside0.mk (below_step HB1.out hb); have zd := pw_cell_below hb zc; have hsz2 := hb.size; clear hb; obtain ⟨fn, tmps, assign, body, hy, hR⟩ := hY (n - 1) (k : Int) w2 (hJ () W w2 none h0 (grown_of_below HB2.out) (fun r h => by cases h)); dsimp only))
          refine ⟨wide_depth, hR.mono ?_⟩
          rintro e W3 ⟨rfl, hx, hkf⟩
          gi_wp2
          exact ⟨_, results_none rfl _ _ _, ⟨_, rfl⟩, .inr ⟨_, pick_fw hlt (by simp [fwP, hav, hct]) HP.out, hx⟩⟩
    · obtain rfl : k = l.length := by omega
      have hbt : Bt < wr.heap.size := by omega
      have y0 := pw_cell_below HB.out T0
      have y1 := pw_cell_below HB.out T1
      have y2 := pw_cell_below HB.out T2
      gi_wp2_with (refine ⟨trivial, wide_depth, ?_⟩; gi_at_call 72; refine (callsIn_wide.2 (backward_calls _ _ _ _)).mono ?_; rintro e w1 ⟨rfl, rfl⟩)
      have hbx : (wr.alloc (.cells #[.slice A l.length c] 24)).cell? ⟨wr.heap.size, 0, none⟩ = some (.slice A l.length c) := by go_simp
      have hB1 : Below W.heap.size W (wr.alloc (.cells #[.slice A l.length c] 24)) := below_alloc HB.out _
      have hc1 : (wr.alloc (.cells #[.slice A l.length c] 24)).cell? ⟨W.heap.size, 0, none⟩ = some (.func (.yield l1) #[] #[]) := by go_simp
      obtain ⟨W1, hW1⟩ : ∃ W1, wr.alloc (.cells #[.slice A l.length c] 24) = W1 := ⟨_, rfl⟩
      rw [hW1] at hbx hB1 hc1 ⊢
      clear hW1
      have hC1 := Kd.C_below (Kd.C_below hC hW) hB1
      have r0 := pw_cell_below hB1 T0
      have r1 := pw_cell_below hB1 T1
      have r2 := pw_cell_below hB1 T2
      have hJ1 : J () W1 := hJ () W W1 none h0 (grown_of_below hB1) (fun r h => by cases h)
      have hle : w0.heap.size ≤ W1.heap.size := Nat.le_trans hW.size hB1.size
      refine wpIn_rangeFunc_ownH hro (by omega) (gf := 92) (lb := #[.pointer (some ⟨wr.heap.size, 0, none⟩)]) rfl trivial (enters_of Try.func92 (by kernel_rfl) rfl)
        (bw_stops (n - 1) (by omega) wr.heap.size c A l hl W1 hC1 hbx) belowK_t (belowK_b (Nat.le_refl _)) (Below.refl _ _) (fun _ => rfl)
        (fun pre V => ((∀ x ∈ pre, bwP a b l.length x = false) ∧ J () V) ∧ Below W1.heap.size W1 V)
        (fun cd pre V => (cd = .ret ∧ ∃ p0 x, pre = p0 ++ [x] ∧ (∀ y ∈ p0, bwP a b l.length y = false) ∧ bwP a b l.length x = true) ∧ ∃ x ∈ pre.getLast?, Jx x.1 V)
        (OwnFrom.and (OwnFrom.and (ownFrom_pure _ _) (fun s V V' row hs hg hr => hJ () V V' row hs hg (fun r e => ⟨Nat.le_trans hle (hr r e).1, (hr r e).2⟩))) (ownFrom_below (Nat.le_refl _) (Nat.le_refl _)))
        (fun cd => OwnFrom.and (ownFrom_pure _ _) (fun s V V' row hs hg hr => by obtain ⟨x, hx, hj⟩ := hs; exact ⟨x, hx, hJx x.1 V V' row hj hg (fun r e => ⟨Nat.le_trans hle (hr r e).1, (hr r e).2⟩)⟩))
        ⟨⟨by simp, hJ1⟩, Below.refl _ _⟩
        (fun x a' V => ∃ Bx, (W1.heap.size ≤ Bx ∧ V.cell? ⟨Bx, 0, none⟩ = some (.int .i64 x.2.f0) ∧ V.cell? ⟨Bx, 1, none⟩ = some (.int .i64 x.2.f1) ∧ V.cell? ⟨Bx, 2, none⟩ = some (.bool x.2.f2) ∧ V.cell? ⟨Bx, 3, none⟩ = some (.bool x.2.f3)) ∧ a' = { tmps := #[.func (.yield l1) #[] #[], .pointer (some ⟨Bt, 0, none⟩), .pointer (some ⟨W.heap.size, 0, none⟩), u3, u4, .int .i64 x.1, .pointer (some ⟨Bx, 0, none⟩), .pointer (some ⟨Bt, 2, none⟩), .slice A l.length c, .int .i64 l.length, .int .i64 l.length, .bool false, u12, u13, u14, u15, u16, u17, u18, u19, u20, u21, u22, u23, u24, u25, u26, u27, u28, .pointer (some ⟨Bt, 2, none⟩), .slice A l.length c, .func (.func 92) #[] #[.pointer (some ⟨wr.heap.size, 0, none⟩)], .int .i64 x.1, .agg #[.int .i64 x.2.f0, .int .i64 x.2.f1, .bool x.2.f2, .bool x.2.f3], undef, undef, undef, undef, undef, undef, undef, undef, undef, undef, undef, undef, undef, undef], defers := [] })
        (fun x a' _ X Y row hs hg hr => by
          obtain ⟨Bx, ⟨e0, e1, e2, e3, e4⟩, e5⟩ := hs
          exact ⟨Bx, ⟨e0, cell_kept e1 hg (fun r e => (hr r e).2), cell_kept e2 hg (fun r e => (hr r e).2), cell_kept e3 hg (fun r e => (hr r e).2), cell_kept e4 hg (fun r e => (hr r e).2)⟩, e5⟩)
        ?assign ?body ?done ?stop
      case assign =>
        rintro l2 pre x V K ⟨⟨hp, hjV⟩, hbV⟩ hK
        unfold enc2
        gi_wp2
        exact hK _ _ ((KeepsOthers.alloc _ _).from _) ((Below.refl _ V).alloc hbV.size _) ⟨⟨hp, hJ () V _ none hjV (World.grownBy_alloc V _ none) (fun r h => by cases h)⟩, hbV.alloc hbV.size _⟩ ⟨V.heap.size, ⟨hbV.size, by go_simp, by go_simp, by go_simp, by go_simp⟩, rfl⟩
      case body =>
        rintro l2 pre x a' V hl2 ⟨r, hr⟩ ⟨⟨hp, hJV⟩, hbV⟩ ⟨Bx, ⟨e0, e1, e2, e3, e4⟩, rfl⟩ hlt2
        have q0 := pw_cell_below hbV r0
        have q1 := pw_cell_below hbV r1
        have q2 := pw_cell_below hbV r2
        have qc := pw_cell_below hbV hc1
        have HA := Aside0.mk (av_eq x.2)
        have HT := Aside0.mk (ctlB_eq a b l x.1)
        cases hav : av x.2
        · rw [hav] at HA
          gi_wp2_with (first | (refine ⟨trivial, wide_depth, ?_⟩; gi_at_call 54; refine (CallsIn.inRound l2 (callsIn_wide.2 (trunk_available.calls _ _ _ _ _ _ HA.out))).mono ?_; rintro e v1 ⟨rfl, hb⟩; have HV1 := Aside0.mk hb; have z0 := pw_cell_below hb q0; have z1 := pw_cell_below hb q1; have z2 := pw_cell_below hb q2; have zc := pw_cell_below hb qc; clear hb; dsimp only))
          repeat (first | (refine ⟨trivial, ?_⟩; gi_wp2) | (refine ⟨fun _ h => (by cases h), ?_⟩; gi_wp2))
          exact ⟨keeps_below HV1.out, HV1.out.mono hbV.size, ⟨fun y hy => (List.mem_append.1 hy).elim (hp y) (fun e => by rw [List.mem_singleton.1 e]; simp [bwP, hav]), hJ () V _ none hJV (grown_of_below HV1.out) (fun r h => by cases h)⟩, hbV.trans (HV1.out.mono hbV.size)⟩
        · rw [hav] at HA
          cases hct : ctlB a b l.length x.1
          · rw [hct] at HT
            gi_wp2_with (first | (refine ⟨trivial, wide_depth, ?_⟩; gi_at_call 54; refine (CallsIn.inRound l2 (callsIn_wide.2 (trunk_available.calls _ _ _ _ _ _ HA.out))).mono ?_; rintro e v1 ⟨rfl, hb⟩; have HV1 := Aside0.mk hb; have z0 := pw_cell_below hb q0; have z1 := pw_cell_below hb q1; have z2 := pw_cell_below hb q2; have zc := pw_cell_below hb qc; clear hb; dsimp only) | (refine ⟨trivial, wide_depth, ?_⟩; gi_at_call 16; refine (CallsIn.inRound l2 (callsIn_wide.2 (trunk_Controls.calls _ _ _ _ _ _ _ _ ?s1 hc HT.out))).mono ?_; (case s1 => exact Kd.C_below (Kd.C_below hC1 hbV) HV1.out); rintro e v2 ⟨rfl, hb⟩; have HV2 := Aside0.mk (below_step HV1.out hb); have zd := pw_cell_below hb zc; clear hb; obtain ⟨fn, tmps, assign, body, hy, hR⟩ := hY (n - 1 - 1 - 1) x.1 v2 (hJ () V v2 none hJV (grown_of_below HV2.out) (fun r h => by cases h)); dsimp only))
            refine ⟨wide_depth, (show RoundIn (Fence.wide.inRound l2) _ _ _ _ _ _ _ _ _ from hR).mono ?_⟩
            rintro e V3 ⟨rfl, hx, hkf⟩
            gi_wp2
            exact ⟨(keeps_below HV2.out).trans (keeps_mono hkf hle), ⟨rfl, pre, x, rfl, hp, by simp [bwP, hav, hct]⟩, x, by simp, hx⟩
          · rw [hct] at HT
            gi_wp2_with (first | (refine ⟨trivial, wide_depth, ?_⟩; gi_at_call 54; refine (CallsIn.inRound l2 (callsIn_wide.2 (trunk_available.calls _ _ _ _ _ _ HA.out))).mono ?_; rintro e v1 ⟨rfl, hb⟩; have HV1 := Aside0.mk hb; have z0 := pw_cell_below hb q0; have z1 := pw_cell_below hb q1; have z2 := pw_cell_below hb q2; have zc := pw_cell_below hb qc; clear hb; dsimp only) | (refine ⟨trivial, wide_depth, ?_⟩; gi_at_call 16; refine (CallsIn.inRound l2 (callsIn_wide.2 (trunk_Controls.calls _ _ _ _ _ _ _ _ ?s1 hc HT.out))).mono ?_; (case s1 => exact Kd.C_below (Kd.C_below hC1 hbV) HV1.out); rintro e v2 ⟨rfl, hb⟩; have HV2 := Aside0.mk (below_step HV1.out hb); have zd := pw_cell_below hb zc; clear hb; dsimp only))
            repeat (first | (refine ⟨trivial, ?_⟩; gi_wp2) | (refine ⟨fun _ h => (by cases h), ?_⟩; gi_wp2))
            exact ⟨keeps_below HV2.out, HV2.out.mono hbV.size, ⟨fun y hy => (List.mem_append.1 hy).elim (hp y) (fun e => by rw [List.mem_singleton.1 e]; simp [bwP, hav, hct]), hJ () V _ none hJV (grown_of_below HV2.out) (fun r h => by cases h)⟩, hbV.trans (HV2.out.mono hbV.size)⟩
      case done =>
        rintro D xs V hD rfl ⟨⟨hp, hjV⟩, hbV⟩ hK
        gi_wp2
        refine ⟨by simp, .inl ⟨_, _, rfl, run_takeDeferred hK, ?_⟩⟩
        refine ⟨_, results_none rfl _ _ _, ⟨_, rfl⟩, .inl ⟨?_, hJ.putObj _ hjV (Nat.le_trans hle hD) hK rfl⟩⟩
        rw [pick_no HP.out, List.find?_eq_none.2 (fun x hx => by rw [hp x hx]; simp)]
        rfl
      case stop =>
        rintro D cd pre V hD hpre ⟨⟨rfl, p0, x, rfl, hp0, hx⟩, y, hy, hj⟩ hK
        gi_wp2
        refine ⟨by simp, .inl ⟨_, _, rfl, run_takeDeferred hK, ?_⟩⟩
        obtain rfl : x = y := by simpa using hy
        refine ⟨_, results_none rfl _ _ _, ⟨_, rfl⟩, .inr ⟨_, ?_, hJx.putObj _ hj (Nat.le_trans hle hD) hK rfl⟩⟩
        rw [pick_no HP.out, find_pre hpre hp0 hx]
        rfl


set_option maxHeartbeats 1000000 in
theorem candidates_calls (a b : Int) (v : Value) (w : World) :
    Calls Try.prog 45 #[.agg #[.int .i64 a, .int .i64 b, v]] w fun e w' => e = .returned (.func (.func 71) #[] #[.pointer (some ⟨w.heap.size, 0, none⟩)]) ∧ w' = w.alloc (.cells #[.int .i64 a, .int .i64 b, v] 26) := by
  go_enter Try.func45, Try.ntmps45
  go_wp2
  go_ret
  exact ⟨rfl, rfl⟩

end Go.Proofs.Ythemnajgdoambaa.Th
