/-
  What TrunkGlareResolved needs beside Bp1: a header that is written anew, the message that is sent, and the two groups' changes.
-/
import Derived.Test.YthemnajgdoambaaBp1
namespace Go.Proofs.Ythemnajgdoambaa.Th
open Go.RowKit Go.Proofs.YthemnajgdoambaaW.PrintWords Go.Proofs.YthemnajgdoambaaW.PrintLast Go.Proofs.YthemnajgdoambaaW.PrintMore Go.Proofs.Ythemnajgdoambaa.Tr
set_option linter.unusedVariables false
set_option linter.unusedSimpArgs false

variable {w w' : World} {g : Nat} {a b : Int} {A : Option Addr} {c : Nat} {l : List S36}
theorem Hd.store' {a' b' : Int} {B : Option Addr} {d : Nat} {m : List S36} (h : Hd w g a b A c l) (hC : Kd.C k36 w B m.length m) (hn : ∀ x, B = some x → x.block ≠ g) (hd : m.length ≤ d) : Hd (((w.setCell ⟨g, 0, none⟩ (.int .i64 a')).setCell ⟨g, 1, none⟩ (.int .i64 b')).setCell ⟨g, 2, none⟩ (.slice B m.length d)) g a' b' B d m := Hd.store h hC hn hd
theorem Hd.far' {k : Nat} {a' b' : Int} {v : Value} (h : Hd w g a b A c l) (hg : g ≠ k) (hn : ∀ x, A = some x → x.block ≠ k) : Hd (((w.setCell ⟨k, 0, none⟩ (.int .i64 a')).setCell ⟨k, 1, none⟩ (.int .i64 b')).setCell ⟨k, 2, none⟩ v) g a b A c l := Hd.far h hg hn
theorem hdSet_below' {k : Nat} {a' b' : Int} {v : Value} {w0 : World} {B : Nat} (h : Below B w0 w) (hk : B ≤ k) : Below B w0 (((w.setCell ⟨k, 0, none⟩ (.int .i64 a')).setCell ⟨k, 1, none⟩ (.int .i64 b')).setCell ⟨k, 2, none⟩ v) := hdSet_below h hk
/-- A new row lies apart from what was there. -/
theorem R_apart {base n c : Nat} (h : Kd.R k36 36 w base (fun _ => True) (.slice A n c) l) (hg : g < base) : ∀ x, A = some x → x.block ≠ g := by
  rintro x rfl
  obtain ⟨inner, ho⟩ := Kd.R_own h
  have h1 := Kd.R_base h x.block
  have : (Value.slice (some x) n c).ownBlock = some x.block := by
    rcases ho with ⟨_, ⟨hv, _⟩ | ⟨g', cap, cs, hv, _⟩⟩
    · cases hv
    · cases hv; rfl
  have := h1 this
  omega
theorem R_apart_lt {base n c : Nat} (h : Kd.R k36 36 w base (fun _ => True) (.slice A n c) l) : ∀ x, A = some x → x.block < w.heap.size := by
  rintro x rfl
  obtain ⟨inner, ho⟩ := Kd.R_own h
  have h1 := Kd.R_lt h x.block
  have : (Value.slice (some x) n c).ownBlock = some x.block := by
    rcases ho with ⟨_, ⟨hv, _⟩ | ⟨g', cap, cs, hv, _⟩⟩
    · cases hv
    · cases hv; rfl
  exact h1 this

/-- A cell is kept. -/
theorem cell_keep {a : Addr} {v : Value} (h : w.cell? a = some v) (hb : Below w.heap.size w w') : w'.cell? a = some v := by
  have hlt : a.block < w.heap.size := by
    unfold World.cell? at h
    cases e : w.heap[a.block]? with
    | none => rw [e] at h; simp at h
    | some o => exact (Array.getElem?_eq_some_iff.1 e).1
  unfold World.cell? at h ⊢
  rw [hb.block _ hlt]
  exact h

/-! ### the message that is sent -/
set_option maxHeartbeats 4000000 in
set_option maxRecDepth 100000 in
theorem sent_calls (i r : Int) (h0 : 0 ≤ i) (h1 : i ≤ 47) (r0 : 1 ≤ r) (r1 : r ≤ 1099511627776) (w : World) :
    Calls Try.prog 14 #[.int .i64 i, .int .i64 r] w fun e w' => e = .returned (.tuple #[.int .i64 i, .int .i64 r, .bool true]) ∧ Below w.heap.size w w' := by
  obtain ⟨lb, EB0, DB0⟩ := iam_enc i r h0 h1 r0 r1
  have EB := Aside0.mk EB0
  have DB := Aside0.mk DB0
  clear EB0 DB0 h0 h1 r0 r1
  go_enter Try.func14, Try.ntmps14
  go_wp2_with (first
    | (go_at_call 20; (with_reducible refine (EB.out _).mono ?_); rintro e w1 ⟨v, rfl, hy, hb⟩; obtain ⟨A1, c1, rfl, hl1, hC1⟩ := C_bytes hy; have HC1 := Aside0.mk hC1; have HL1 := Aside0.mk hl1; have HB1 := Aside0.mk hb; clear hy hl1 hC1 hb)
    | (go_at_call 21; (with_reducible refine (DB.out _ _ _ HC1.out HL1.out).mono ?_); rintro e w2 ⟨rfl, hb⟩; have HB2 := Aside0.mk (below_alloc (below_step HB1.out hb) (.cells #[.int .i64 1, .int .i64 i, .int .i64 r, .int .i64 0, .int .i64 0, .string ⟨#[49]⟩, .string ⟨#[]⟩, .string ⟨#[]⟩, .bool false, .bool false] 46)); have BS := Aside0.mk (World.alloc_heap_new w2 (.cells #[.int .i64 1, .int .i64 i, .int .i64 r, .int .i64 0, .int .i64 0, .string ⟨#[49]⟩, .string ⟨#[]⟩, .string ⟨#[]⟩, .bool false, .bool false] 46)); have x1 := blk_cell BS.out 1; have x2 := blk_cell BS.out 2; simp only [List.getElem?_toArray, List.getElem?_cons_zero, List.getElem?_cons_succ] at x1 x2; clear hb))
  go_big_quiet (fail)
  go_wp2
  refine bodyPost_ret (v := .tuple #[.int .i64 i, .int .i64 r, .bool true]) ?_ rfl ⟨rfl, ?_⟩
  · simp [results, Try.results14, go_sem]
  · first | exact HB2.out | exact below_drew1 HB2.out | exact pw_below_drewN HB2.out _
end Go.Proofs.Ythemnajgdoambaa.Th
