/-
  TrunkStaysValid: what its walk and its law need: a change in memory, a group in a box, what a change leaves.
-/
import Derived.Test.YthemnajgdoambaaTk
import Derived.Test.YthemnajgdoambaaTh12
import Derived.Test.YthemnajgdoambaaTh13
import Derived.Test.YthemnajgdoambaaTh14
import Derived.Lib.SmallJoins
namespace Go.Proofs.Ythemnajgdoambaa.Th
open Go.RowKit Go.Proofs.YthemnajgdoambaaW.PrintWords Go.Proofs.YthemnajgdoambaaW.PrintLast Go.Proofs.YthemnajgdoambaaW.PrintMore Go.Proofs.Ythemnajgdoambaa.Tr
set_option linter.unusedVariables false
set_option linter.unusedSimpArgs false

/-! ### a change in memory -/
structure S59 where
  f0 : Int
  f1 : Int
  f2 : Int
  f3 : Bool
  f4 : Bool
def z59 : S59 := ⟨0, 0, 0, false, false⟩
def k59 : Kd S59 := Kd.iso (Kd.pair (Kd.int .i64) (Kd.pair (Kd.int .i64) (Kd.pair (Kd.int .i64) (Kd.pair Kd.bool Kd.bool)))) (fun x : S59 => (x.f0, x.f1, x.f2, x.f3, x.f4))
theorem k59_open {w : World} {x : S59} {cs : List Value} (h : k59.K w x cs) : cs = [.int .i64 x.f0, .int .i64 x.f1, .int .i64 x.f2, .bool x.f3, .bool x.f4] := by
  obtain ⟨_, _, rfl, rfl, ⟨_, _, rfl, rfl, ⟨_, _, rfl, rfl, ⟨_, _, rfl, rfl, rfl⟩⟩⟩⟩ := h
  exact rfl
theorem k59_mk (w : World) (x : S59) : k59.K w x [.int .i64 x.f0, .int .i64 x.f1, .int .i64 x.f2, .bool x.f3, .bool x.f4] := ⟨[.int .i64 x.f0], [.int .i64 x.f1, .int .i64 x.f2, .bool x.f3, .bool x.f4], rfl, rfl, ⟨[.int .i64 x.f1], [.int .i64 x.f2, .bool x.f3, .bool x.f4], rfl, rfl, ⟨[.int .i64 x.f2], [.bool x.f3, .bool x.f4], rfl, rfl, ⟨[.bool x.f3], [.bool x.f4], rfl, rfl, rfl⟩⟩⟩⟩
theorem at59 {w : World} {A : Option Addr} {n : Nat} {xs : List S59} (h : Kd.C k59 w A n xs) (i : Nat) (h1 : i < n) :
    ∃ ad, A = some ad ∧ w.cell? (ad.add (i * 5)) = some (.int .i64 (xs.getD i z59).f0) ∧ w.cell? ⟨(ad.add (i * 5)).block, (ad.add (i * 5)).off + 1, none⟩ = some (.int .i64 (xs.getD i z59).f1) ∧ w.cell? ⟨(ad.add (i * 5)).block, (ad.add (i * 5)).off + 2, none⟩ = some (.int .i64 (xs.getD i z59).f2) ∧
      w.cell? ⟨(ad.add (i * 5)).block, (ad.add (i * 5)).off + 3, none⟩ = some (.bool (xs.getD i z59).f3) ∧ w.cell? ⟨(ad.add (i * 5)).block, (ad.add (i * 5)).off + 4, none⟩ = some (.bool (xs.getD i z59).f4) := by
  obtain ⟨ad, c, e, _, hK, hc0⟩ := Kd.C_get h z59 (i : Int) (by omega) (by omega)
  rw [Int.toNat_natCast] at hK hc0
  have hc : ∀ j u, c[j]? = some u → w.cell? (ad.add (i * 5 + j)) = some u := hc0
  obtain rfl := k59_open hK
  exact ⟨ad, e, hc 0 _ rfl, by rw [← add_field _ _ 1 (by omega)]; exact hc 1 _ rfl, by rw [← add_field _ _ 2 (by omega)]; exact hc 2 _ rfl, by rw [← add_field _ _ 3 (by omega)]; exact hc 3 _ rfl, by rw [← add_field _ _ 4 (by omega)]; exact hc 4 _ rfl⟩

/-! ### a group whose header lies in block g -/
structure Gp (w : World) (g : Nat) (a b : Int) (A : Option Addr) (c : Nat) (l : List S36) : Prop where
  blk : w.heap[g]? = some (.cells #[.int .i64 a, .int .i64 b, .slice A l.length c] 26 (0, 0))
  row : Kd.C k36 w A l.length l
  far : ∀ x, A = some x → x.block ≠ g
  le : l.length ≤ c
variable {w w' : World} {g : Nat} {a b : Int} {A : Option Addr} {c : Nat} {l : List S36}
theorem Gp.lt (h : Gp w g a b A c l) : g < w.heap.size := (Array.getElem?_eq_some_iff.1 h.blk).1
theorem Gp.below (h : Gp w g a b A c l) (hb : Below w.heap.size w w') : Gp w' g a b A c l := ⟨(hb.block g h.lt).trans h.blk, Kd.C_below h.row hb, h.far, h.le⟩
theorem Gp.cells (h : Gp w g a b A c l) : w.cell? ⟨g, 0, none⟩ = some (.int .i64 a) ∧ w.cell? ⟨g, 1, none⟩ = some (.int .i64 b) ∧ w.cell? ⟨g, 2, none⟩ = some (.slice A l.length c) := by
  refine ⟨?_, ?_, ?_⟩ <;> simp [World.cell?, h.blk]
theorem Gp.frozen (h : Gp w g a b A c l) (j : Nat) : w.frozen? ⟨g, j, none⟩ = false := by simp only [World.frozen?]; rw [h.blk]; simp
theorem k36_K {w w' : World} {p : S36} {cs : List Value} (h : k36.K w p cs) : k36.K w' p cs := by
  obtain rfl := k36_open h
  exact k36_mk w' p
theorem C_far {B : Option Addr} {m : List S36} (h : Kd.C k36 w B m.length m) (hn : ∀ x, B = some x → x.block ≠ g) (hk : ∀ k, k ≠ g → w'.heap[k]? = w.heap[k]?) : Kd.C k36 w' B m.length m := by
  obtain ⟨h1, h2, h3⟩ := h
  refine ⟨h1, h2, fun hp => ?_⟩
  obtain ⟨x, rfl, hc⟩ := h3 hp
  refine ⟨x, rfl, fun j p hj => ?_⟩
  obtain ⟨cs, hn', hK, hcell⟩ := hc j p hj
  refine ⟨cs, hn', k36_K hK, fun i u hu => ?_⟩
  have e := hcell i u hu
  have eb : (x.add (j * k36.sz + i)).block = x.block := by unfold Addr.add; split <;> rfl
  unfold World.cell? at e ⊢
  rw [hk _ (by rw [eb]; exact hn x rfl)]
  exact e
/-- The header is written: the group becomes another that lies far from it. -/
theorem Gp.store {a' b' : Int} {B : Option Addr} {d : Nat} {m : List S36} (h : Gp w g a b A c l) (hC : Kd.C k36 w B m.length m) (hn : ∀ x, B = some x → x.block ≠ g) (hd : m.length ≤ d) :
    Gp (((w.setCell ⟨g, 0, none⟩ (.int .i64 a')).setCell ⟨g, 1, none⟩ (.int .i64 b')).setCell ⟨g, 2, none⟩ (.slice B m.length d)) g a' b' B d m := by
  have hb := h.blk
  refine ⟨?_, ?_, hn, hd⟩
  · simp [World.setCell, Array.getElem?_modify, hb]
  · exact C_far hC hn (fun k hk => by
      rw [Below.heap_setCell _ ⟨g, 2, none⟩ _ k hk, Below.heap_setCell _ ⟨g, 1, none⟩ _ k hk, Below.heap_setCell _ ⟨g, 0, none⟩ _ k hk])

/-! ### what a change leaves -/
theorem inv_seize {c c' : S36} {ref vd : Int} (hr : 1 ≤ ref ∧ ref ≤ 1099511627776) (h : seizeS c ref = some (c', vd)) : inv c' = false := by
  unfold seizeS at h
  split at h
  · simp only [Option.some.injEq, Prod.mk.injEq] at h
    obtain ⟨rfl, _⟩ := h
    simp [inv, hr.1, hr.2]
  · simp at h
theorem inv_arrive {c c' : S36} {ctl : Bool} {ref vd : Int} (hi : inv c = false) (hr : 1 ≤ ref ∧ ref ≤ 1099511627776) (h : arriveS ctl c ref = some (c', vd)) : inv c' = false := by
  unfold arriveS at h
  split at h
  · simp only [Option.some.injEq, Prod.mk.injEq] at h
    obtain ⟨rfl, _⟩ := h
    exact hi
  · split at h
    · simp only [Option.some.injEq, Prod.mk.injEq] at h
      obtain ⟨rfl, _⟩ := h
      exact hi
    · simp only [Option.some.injEq, Prod.mk.injEq] at h
      obtain ⟨rfl, _⟩ := h
      simp [inv, hr.1, hr.2]
theorem inv_release {c c' : S36} {vd : Int} (hi : inv c = false) (h : releaseS c = some (c', vd)) : inv c' = false := by
  unfold releaseS at h
  split at h
  · rename_i h0
    simp only [Option.some.injEq, Prod.mk.injEq] at h
    obtain ⟨rfl, _⟩ := h
    have h1 : ¬ c.f0 = 0 := by omega
    simp only [inv, if_neg h1] at hi
    simp only [inv]
    rw [if_neg (by decide)]
    simp only [Bool.or_eq_false_iff] at hi ⊢
    exact ⟨rfl, hi.2⟩
  · simp at h
theorem inv_clear {c c' : S36} {vd : Int} (h : clearS c = some (c', vd)) : inv c' = false := by
  unfold clearS at h
  split at h
  · simp at h
  · simp only [Option.some.injEq, Prod.mk.injEq] at h
    obtain ⟨rfl, _⟩ := h
    rfl
theorem inv_block {c c' : S36} {remote on : Bool} {vd : Int} (hi : inv c = false) (h : blockS remote on c = some (c', vd)) : inv c' = false := by
  unfold blockS at h
  simp only [Option.some.injEq, Prod.mk.injEq] at h
  obtain ⟨rfl, _⟩ := h
  cases remote <;> exact hi
/-- A change of a valid group: an error and no group, or a valid group that differs in one circuit. -/
def Chd (a b : Int) (l : List S36) (i : Int) (r : Int × Int × List S36 × Int) : Prop :=
  (r.2.2.2 ≠ 0 ∧ r.1 = 0 ∧ r.2.1 = 0 ∧ r.2.2.1 = []) ∨ (r.2.2.2 = 0 ∧ r.1 = a ∧ r.2.1 = b ∧ ∃ c', r.2.2.1 = l.set i.toNat c' ∧ 0 ≤ i ∧ checkS a b (l.set i.toNat c') = 0)
theorem chg_chd {a b i ref : Int} {l : List S36} {m : Bool → S36 → Option (S36 × Int)} (hk : checkS a b l = 0) (hm : ∀ ctl c c' vd, 1 ≤ ref ∧ ref ≤ 1099511627776 → inv c = false → m ctl c = some (c', vd) → inv c' = false) :
    Chd a b l i ((chgS a b l i ref m).1, (chgS a b l i ref m).2.1, (chgS a b l i ref m).2.2.1, (chgS a b l i ref m).2.2.2.2) := by
  by_cases h : 0 ≤ i ∧ i < (l.length : Int) ∧ 1 ≤ ref ∧ ref ≤ 1099511627776
  · obtain ⟨h0, h1, h2, h3⟩ := h
    rw [chg_in hk h0 h1 h2 h3]
    cases hx : m (ctlS a b i) (rd_T36 l i.toNat) with
    | none => exact .inl ⟨(by decide : (140 : Int) ≠ 0), rfl, rfl, rfl⟩
    | some p =>
      obtain ⟨c', vd⟩ := p
      have hmem := rd_mem h0 h1
      exact .inr ⟨rfl, rfl, rfl, c', rfl, h0, checkS_set hk (hm _ _ _ _ ⟨h2, h3⟩ ((check_zero hk).2.2.2 _ hmem) hx)⟩
  · rw [chg_out (fun hh => h hh.2)]
    exact .inl ⟨(by decide : (1 : Int) ≠ 0), rfl, rfl, rfl⟩
theorem applied_chd (a b : Int) (l : List S36) (k i ref : Int) (rm on : Bool) (hk : checkS a b l = 0) : ∃ r1 r2 r3 r4, crossbarlaw14_applied.f a b l k i ref rm on = some (r1, r2, r3, r4) ∧ Chd a b l i (r1, r2, r3, r4) := by
  unfold crossbarlaw14_applied.f
  split
  · exact ⟨_, _, _, _, rfl, chg_chd hk (fun _ _ _ _ hr _ h => inv_seize hr h)⟩
  split
  · exact ⟨_, _, _, _, rfl, chg_chd hk (fun _ _ _ _ hr hi h => inv_arrive hi hr h)⟩
  split
  · exact ⟨_, _, _, _, rfl, chg_chd hk (fun _ _ _ _ _ hi h => inv_release hi h)⟩
  split
  · exact ⟨_, _, _, _, rfl, chg_chd hk (fun _ _ _ _ _ _ h => inv_clear h)⟩
  · exact ⟨_, _, _, _, rfl, chg_chd hk (fun _ _ _ _ _ hi h => inv_block hi h)⟩
theorem same_nil : crossbarref14_Same.f 63 0 0 [] 0 0 [] = some true := same_refl 0 0 [] (by simp) 63 (Nat.le_refl _)
end Go.Proofs.Ythemnajgdoambaa.Th
