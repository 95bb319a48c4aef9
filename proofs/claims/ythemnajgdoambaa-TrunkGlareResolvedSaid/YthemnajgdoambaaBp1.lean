/-
  What the two laws need that reach both the trunk group and the messages: a group's header in memory, a message that is encoded and decoded again.
-/
import Derived.Test.YthemnajgdoambaaIqm
import Derived.Test.YthemnajgdoambaaTh13
import Derived.Test.YthemnajgdoambaaTh14
namespace Go.Proofs.Ythemnajgdoambaa.Th
open Go.RowKit Go.Proofs.YthemnajgdoambaaW.PrintWords Go.Proofs.YthemnajgdoambaaW.PrintLast Go.Proofs.YthemnajgdoambaaW.PrintMore Go.Proofs.Ythemnajgdoambaa.Tr
set_option linter.unusedVariables false
set_option linter.unusedSimpArgs false

/-! ### a group's header -/
structure Hd (w : World) (g : Nat) (a b : Int) (A : Option Addr) (c : Nat) (l : List S36) : Prop where
  blk : w.heap[g]? = some (.cells #[.int .i64 a, .int .i64 b, .slice A l.length c] 26 (0, 0))
  row : Kd.C k36 w A l.length l
  le : l.length ≤ c
variable {w w' : World} {g : Nat} {a b : Int} {A : Option Addr} {c : Nat} {l : List S36}
theorem Hd.lt (h : Hd w g a b A c l) : g < w.heap.size := (Array.getElem?_eq_some_iff.1 h.blk).1
theorem Hd.below (h : Hd w g a b A c l) (hb : Below w.heap.size w w') : Hd w' g a b A c l := ⟨(hb.block g h.lt).trans h.blk, Kd.C_below h.row hb, h.le⟩
theorem Hd.alloc (h : Hd w g a b A c l) (o : Obj) : Hd (w.alloc o) g a b A c l := h.below (below_alloc (Below.refl _ _) o)
theorem Hd.cells (h : Hd w g a b A c l) : w.cell? ⟨g, 0, none⟩ = some (.int .i64 a) ∧ w.cell? ⟨g, 1, none⟩ = some (.int .i64 b) ∧ w.cell? ⟨g, 2, none⟩ = some (.slice A l.length c) := by
  refine ⟨?_, ?_, ?_⟩ <;> simp [World.cell?, h.blk]
theorem Hd.frozen (h : Hd w g a b A c l) (j : Nat) : w.frozen? ⟨g, j, none⟩ = false := by simp only [World.frozen?]; rw [h.blk]; simp
theorem Hd.new (hC : Kd.C k36 w A l.length l) (hc : l.length ≤ c) (a b : Int) : Hd (w.alloc (.cells #[.int .i64 a, .int .i64 b, .slice A l.length c] 26)) w.heap.size a b A c l :=
  ⟨World.alloc_heap_new _ _, Kd.C_below hC (below_alloc (Below.refl _ _) _), hc⟩
theorem k36_K' {w w' : World} {p : S36} {cs : List Value} (h : k36.K w p cs) : k36.K w' p cs := by
  obtain rfl := k36_open h
  exact k36_mk w' p
theorem C_far' {B : Option Addr} {m : List S36} (h : Kd.C k36 w B m.length m) (hn : ∀ x, B = some x → x.block ≠ g) (hk : ∀ k, k ≠ g → w'.heap[k]? = w.heap[k]?) : Kd.C k36 w' B m.length m := by
  obtain ⟨h1, h2, h3⟩ := h
  refine ⟨h1, h2, fun hp => ?_⟩
  obtain ⟨x, rfl, hc⟩ := h3 hp
  refine ⟨x, rfl, fun j p hj => ?_⟩
  obtain ⟨cs, hn', hK, hcell⟩ := hc j p hj
  refine ⟨cs, hn', k36_K' hK, fun i u hu => ?_⟩
  have e := hcell i u hu
  have eb : (x.add (j * k36.sz + i)).block = x.block := by unfold Addr.add; split <;> rfl
  unfold World.cell? at e ⊢
  rw [hk _ (by rw [eb]; exact hn x rfl)]
  exact e
/-- A header is written anew. -/
def hdSet (w : World) (g : Nat) (a b : Int) (v : Value) : World := ((w.setCell ⟨g, 0, none⟩ (.int .i64 a)).setCell ⟨g, 1, none⟩ (.int .i64 b)).setCell ⟨g, 2, none⟩ v
theorem hdSet_far (v : Value) : ∀ k, k ≠ g → (hdSet w g a b v).heap[k]? = w.heap[k]? := fun k hk => by
  unfold hdSet
  rw [Below.heap_setCell _ ⟨g, 2, none⟩ _ k hk, Below.heap_setCell _ ⟨g, 1, none⟩ _ k hk, Below.heap_setCell _ ⟨g, 0, none⟩ _ k hk]
theorem Hd.store {a' b' : Int} {B : Option Addr} {d : Nat} {m : List S36} (h : Hd w g a b A c l) (hC : Kd.C k36 w B m.length m) (hn : ∀ x, B = some x → x.block ≠ g) (hd : m.length ≤ d) : Hd (hdSet w g a' b' (.slice B m.length d)) g a' b' B d m := by
  have hb := h.blk
  refine ⟨?_, C_far' hC hn (hdSet_far _), hd⟩
  simp [hdSet, World.setCell, Array.getElem?_modify, hb]
theorem Hd.far {k : Nat} {a' b' : Int} {v : Value} (h : Hd w g a b A c l) (hg : g ≠ k) (hn : ∀ x, A = some x → x.block ≠ k) : Hd (hdSet w k a' b' v) g a b A c l :=
  ⟨(hdSet_far v g hg).trans h.blk, C_far' h.row hn (hdSet_far v), h.le⟩
theorem hdSet_below {k : Nat} {a' b' : Int} {v : Value} {w0 : World} {B : Nat} (h : Below B w0 w) (hk : B ≤ k) : Below B w0 (hdSet w k a' b' v) :=
  ((h.setCell (p := ⟨k, 0, none⟩) hk _).setCell (p := ⟨k, 1, none⟩) hk _).setCell (p := ⟨k, 2, none⟩) hk _

/-! ### a message there and back -/

theorem blo_enc (i : Int) (h0 : 0 ≤ i) (h1 : i ≤ 47) : ∃ lb : List Int,
    (∀ W, Calls Try.prog 20 #[.agg #[.int .i64 9, .int .i64 i, .int .i64 0, .int .i64 0, .int .i64 0, .string ⟨#[]⟩, .string ⟨#[]⟩, .string ⟨#[]⟩, .bool false, .bool false]] W fun e w' => ∃ v, e = .returned (.tuple #[v, .int .i64 0]) ∧ Iq.By w' W.heap.size v lb ∧ Below W.heap.size W w') ∧
    (∀ A c W, Kd.C (Kd.int .u8) W A lb.length lb → lb.length ≤ c → Calls Try.prog 21 #[.slice A lb.length c] W fun e w' => e = .returned (.tuple #[.agg #[.int .i64 9, .int .i64 i, .int .i64 0, .int .i64 0, .int .i64 0, .string ⟨#[]⟩, .string ⟨#[]⟩, .string ⟨#[]⟩, .bool false, .bool false], .int .i64 0]) ∧ Below W.heap.size W w') := by
  have hv : Iq.validS_ ⟨9, i, 0, 0, 0, Iq.noStr, Iq.noStr, Iq.noStr, false, false⟩ = true := by
    rw [Iq.valid_iff]
    refine ⟨(by decide : (1 : Int) ≤ 9 ∧ (9 : Int) ≤ 13), fun d hd => ?_, ⟨fun _ => ⟨rfl, rfl, rfl, rfl⟩, fun _ => rfl, fun _ => rfl, fun _ => rfl, fun _ => rfl⟩⟩
    have e : Iq.fieldsS 9 = [.int .circuit 0 47] := rfl
    dsimp only at hd
    rw [e] at hd
    obtain rfl := List.mem_singleton.1 hd
    show (decide (0 ≤ i) && decide (i ≤ 47)) = true
    rw [decide_eq_true h0, decide_eq_true h1]
    rfl
  have hc : Iq.checkS ⟨9, i, 0, 0, 0, Iq.noStr, Iq.noStr, Iq.noStr, false, false⟩ = 0 := by unfold Iq.checkS; rw [hv]; rfl
  refine ⟨Iq.encS ⟨9, i, 0, 0, 0, Iq.noStr, Iq.noStr, Iq.noStr, false, false⟩, fun W => ?_, fun A c W hC hl => ?_⟩
  · have h := Iq.encode_calls ⟨9, i, 0, 0, 0, Iq.noStr, Iq.noStr, Iq.noStr, false, false⟩ W
    unfold Iq.En at h
    rw [hc] at h
    exact h
  · have h := Iq.decode_calls A c (Iq.encS ⟨9, i, 0, 0, 0, Iq.noStr, Iq.noStr, Iq.noStr, false, false⟩) W hC hl (Iq.enc_bytes_all hv) (by have := Iq.enc_len hv; omega)
    unfold Iq.De at h
    rw [Iq.dec_enc hv] at h
    exact h
theorem iam_enc (i r : Int) (h0 : 0 ≤ i) (h1 : i ≤ 47) (r0 : 1 ≤ r) (r1 : r ≤ 1099511627776) : ∃ lb : List Int,
    (∀ W, Calls Try.prog 20 #[.agg #[.int .i64 1, .int .i64 i, .int .i64 r, .int .i64 0, .int .i64 0, .string ⟨#[49]⟩, .string ⟨#[]⟩, .string ⟨#[]⟩, .bool false, .bool false]] W fun e w' => ∃ v, e = .returned (.tuple #[v, .int .i64 0]) ∧ Iq.By w' W.heap.size v lb ∧ Below W.heap.size W w') ∧
    (∀ A c W, Kd.C (Kd.int .u8) W A lb.length lb → lb.length ≤ c → Calls Try.prog 21 #[.slice A lb.length c] W fun e w' => e = .returned (.tuple #[.agg #[.int .i64 1, .int .i64 i, .int .i64 r, .int .i64 0, .int .i64 0, .string ⟨#[49]⟩, .string ⟨#[]⟩, .string ⟨#[]⟩, .bool false, .bool false], .int .i64 0]) ∧ Below W.heap.size W w') := by
  have hv : Iq.validS_ ⟨1, i, r, 0, 0, ⟨#[49]⟩, Iq.noStr, Iq.noStr, false, false⟩ = true := by
    rw [Iq.valid_iff]
    refine ⟨(by decide : (1 : Int) ≤ 1 ∧ (1 : Int) ≤ 13), fun d hd => ?_, ⟨fun h => absurd rfl h, fun _ => rfl, fun _ => rfl, fun _ => rfl, fun h => absurd (show (8 : Int) < 1 from h) (by decide)⟩⟩
    have e : Iq.fieldsS 1 = [.int .circuit 0 47, .int .ref 1 1099511627776, .int .hops 0 8, .addr .called .emergency, .addr .calling .always, .bool .emergency] := rfl
    dsimp only at hd
    rw [e] at hd
    simp only [List.mem_cons, List.not_mem_nil, or_false] at hd
    rcases hd with rfl | rfl | rfl | rfl | rfl | rfl
    · show (decide (0 ≤ i) && decide (i ≤ 47)) = true
      rw [decide_eq_true h0, decide_eq_true h1]
      rfl
    · show (decide (1 ≤ r) && decide (r ≤ 1099511627776)) = true
      rw [decide_eq_true r0, decide_eq_true r1]
      rfl
    · rfl
    · simp only [Iq.Fd.ok, Iq.SF.get]
      rw [show Iq.validS ⟨#[49]⟩ = true from by decide +kernel]
      rfl
    · show (Iq.validS Iq.noStr || (decide (Iq.noStr = Iq.noStr) && true)) = true
      simp
    · rfl
  have hc : Iq.checkS ⟨1, i, r, 0, 0, ⟨#[49]⟩, Iq.noStr, Iq.noStr, false, false⟩ = 0 := by unfold Iq.checkS; rw [hv]; rfl
  refine ⟨Iq.encS ⟨1, i, r, 0, 0, ⟨#[49]⟩, Iq.noStr, Iq.noStr, false, false⟩, fun W => ?_, fun A c W hC hl => ?_⟩
  · have h := Iq.encode_calls ⟨1, i, r, 0, 0, ⟨#[49]⟩, Iq.noStr, Iq.noStr, false, false⟩ W
    unfold Iq.En at h
    rw [hc] at h
    exact h
  · have h := Iq.decode_calls A c (Iq.encS ⟨1, i, r, 0, 0, ⟨#[49]⟩, Iq.noStr, Iq.noStr, false, false⟩) W hC hl (Iq.enc_bytes_all hv) (by have := Iq.enc_len hv; omega)
    unfold Iq.De at h
    rw [Iq.dec_enc hv] at h
    exact h

/-! ### the two sides' changes, blocked and seized -/
theorem C_bytes {w : World} {v : Value} {l : List Int} {base : Nat} (h : Iq.By w base v l) : ∃ A c, v = .slice A l.length c ∧ l.length ≤ c ∧ Kd.C (Kd.int .u8) w A l.length l := by
  obtain ⟨A, c, rfl⟩ := Kd.R_slice h
  obtain ⟨_, hc, hC⟩ := Kd.R_reads' h
  exact ⟨A, c, rfl, hc, hC⟩
theorem rd_set_at {l : List S36} {i : Int} (h0 : 0 ≤ i) (h1 : i < (l.length : Int)) (c : S36) : rd_T36 (l.set i.toNat c) i = c := by
  have := rd_set (xs := l) (i := i.toNat) (by omega) c
  rwa [Int.toNat_of_nonneg h0] at this
end Go.Proofs.Ythemnajgdoambaa.Th
