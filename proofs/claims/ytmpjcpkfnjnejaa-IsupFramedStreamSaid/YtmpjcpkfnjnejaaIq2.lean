/-
  isup's closures, by hand: which values are valid, clearing a field, digits.Valid.
-/
import Derived.Test.YtmpjcpkfnjnejaaIq1
import Derived.Shelf.GgClosure.StringsIndexFuncTop
import Derived.Shelf.Lay
import Derived.Ground.GgwProg
namespace Go.Proofs
shelf_lay LaysGw.n17 Ggw 17 at Try as Ytmpjcpkfnjnejaa.Iq.lay17
end Go.Proofs
namespace Go.Proofs.Ytmpjcpkfnjnejaa.Iq
open Go.RowKit Go.Shelf Go.Proofs.YtmpjcpkfnjnejaaW.PrintWords Go.Proofs.YtmpjcpkfnjnejaaW.PrintLast Go.Proofs.YtmpjcpkfnjnejaaW.PrintMore Go.Proofs.Ytmpjcpkfnjnejaa.Is
set_option linter.unusedVariables false
set_option linter.unusedSimpArgs false

/-! ### digits.Valid -/
def notDigit (x : Nat) : Bool := decide ((x : Int) < 48) || decide ((x : Int) > 57)
def validS (s : ByteArray) : Bool := decide ((s.size : Int) ≥ 1) && decide ((s.size : Int) ≤ 15) && !decide (0 ≤ Lib.idxFunc notDigit true s)

theorem notDigit_at (w : World) : PredAt Try.prog 66 #[] encR notDigit w := fun W r _ => by
  unfold FnGives encR notDigit
  by_cases h1 : (r : Int) < 48
  · have h1b := decide_eq_true h1
    go_enter Try.func66, Try.ntmps66
    go_wp2
    go_ret
    rw [h1b]
    exact ⟨rfl, 0, rfl⟩
  · have h1b := decide_eq_false h1
    go_enter Try.func66, Try.ntmps66
    go_wp2
    go_ret
    exact ⟨rfl, 0, rfl⟩

set_option maxHeartbeats 2000000 in
theorem only_calls (s : ByteArray) (w : World) : Calls Try.prog 63 #[.string s, .int .i64 1, .int .i64 15] w fun e w' => e = .returned (.bool (validS s)) ∧ Below w.heap.size w w' := by
  have hC := Any.strings_ContainsFunc lay17 66 #[] (enters_of Try.func66 (by kernel_rfl) rfl) notDigit s w (notDigit_at w)
  change Calls Try.prog 67 #[_, .func (.func 66) #[] #[]] _ _ at hC
  unfold validS
  by_cases h1 : (s.size : Int) ≥ 1
  · have h1b := decide_eq_true h1
    by_cases h2 : (s.size : Int) ≤ 15
    · have h2b := decide_eq_true h2
      go_enter Try.func63, Try.ntmps63
      go_wp2_with (go_at_call 67; refine hC.mono ?_; rintro e w' ⟨rfl, hb⟩)
      go_ret
      rw [h1b, h2b]
      exact ⟨rfl, hb⟩
    · have h2b := decide_eq_false h2
      go_enter Try.func63, Try.ntmps63
      go_wp2
      go_ret
      exact ⟨rfl, Below.refl _ _⟩
  · have h1b := decide_eq_false h1
    go_enter Try.func63, Try.ntmps63
    go_wp2
    go_ret
    exact ⟨rfl, Below.refl _ _⟩

set_option maxHeartbeats 2000000 in
theorem dvalid_calls (s : ByteArray) (w : World) : Calls Try.prog 49 #[.string s] w fun e w' => e = .returned (.bool (validS s)) ∧ Below w.heap.size w w' := by
  go_enter Try.func49, Try.ntmps49
  go_wp2_with (go_at_call 63; refine (only_calls s _).mono ?_; rintro e w' ⟨rfl, hb⟩)
  go_ret
  exact ⟨rfl, hb⟩

/-! ### valid -/
def Fd.ok (s : Sig) : Fd → Bool
  | .int f lo hi => decide (lo ≤ f.get s) && decide (f.get s ≤ hi)
  | .addr f e => validS (f.get s) || (decide (f.get s = noStr) && e.get s)
  | .bool f => true

set_option maxHeartbeats 4000000 in
theorem int_valid (f : IF) (lo hi : Int) (S bo bf bt : Nat) (ok : Nat → Prop) (s : Sig) (w : World) (hs : At w S s) (ho : Bx ok w bo (.func (.func f.fn) #[] #[]) 69) (hf : Bx ok w bf (.int .i64 lo) 3) (ht : Bx ok w bt (.int .i64 hi) 3) :
    Calls Try.prog 42 #[pt S, pt bf, pt bo, pt bt] w fun e w' => e = .returned (.bool (decide (lo ≤ f.get s) && decide (f.get s ≤ hi))) ∧ Below w.heap.size w w' := by
  have ho := ho.cell
  have hf := hf.cell
  have ht := ht.cell
  have hx := hs.int f
  have eg := ienters f
  unfold pt
  by_cases h1 : lo ≤ f.get s
  · have h1b := decide_eq_true h1
    go_enter Try.func42, Try.ntmps42
    go_wp2
    go_quiet (refine Calls.quiet_of_same (igetter f S _))
    go_wp2
    go_ret
    rw [h1b]
    exact ⟨rfl, pw_below_drewN (Below.refl _ _) _⟩
  · have h1b := decide_eq_false h1
    go_enter Try.func42, Try.ntmps42
    go_wp2
    go_quiet (refine Calls.quiet_of_same (igetter f S _))
    go_wp2
    go_ret
    rw [h1b]
    exact ⟨rfl, pw_below_drewN (Below.refl _ _) _⟩

set_option maxHeartbeats 4000000 in
theorem toList_nil {x : ByteArray} : x.toList = [] ↔ x = noStr := by
  rw [ByteArray.toList_eq]
  constructor
  · intro h
    cases x
    simp at h
    subst h
    rfl
  · rintro rfl
    rfl
set_option maxHeartbeats 4000000 in
theorem addr_valid (f : SF) (g : EF) (S bo be : Nat) (ok : Nat → Prop) (s : Sig) (w : World) (hs : At w S s) (ho : Bx ok w bo (.func (.func f.fn) #[] #[]) 72) (he : Bx ok w be (.func (.func g.fn) #[] #[]) 46) :
    Calls Try.prog 48 #[pt S, pt bo, pt be] w fun e w' => e = .returned (.bool (validS (f.get s) || (decide (f.get s = noStr) && g.get s))) ∧ Below w.heap.size w w' := by
  have ho := ho.cell
  have he := he.cell
  have hx := hs.str f
  have eg := senters f
  have eh := eenters g
  unfold pt
  by_cases h1 : validS (f.get s) = true
  · have H1 := Aside0.mk h1
    rw [h1]
    clear h1
    go_enter Try.func48, Try.ntmps48
    go_wp2_with (first | (go_at_call 49; refine (dvalid_calls _ _).mono ?_; rintro e w1 ⟨rfl, hb⟩; rw [H1.out]; have HB := Aside0.mk hb; clear hb) | ((with_reducible refine (sgetter f S _).mono ?_); rintro e w' ⟨rfl, rfl⟩))
    go_ret
    exact ⟨rfl, HB.out⟩
  · have H1 := Aside0.mk (Bool.eq_false_iff.2 h1)
    rw [H1.out]
    clear h1
    have HO := Aside0.mk ho
    have HE := Aside0.mk he
    have HS := Aside0.mk hs
    by_cases h2 : f.get s = noStr
    · have HX := Aside0.mk hx
      rw [decide_eq_true h2, Bool.true_and, Bool.false_or]
      have HZ := Aside0.mk h2
      clear h2
      go_enter Try.func48, Try.ntmps48
      go_wp2_with (first | (go_at_call 49; refine (dvalid_calls _ _).mono ?_; rintro e w1 ⟨rfl, hb⟩; rw [H1.out]; have HB := Aside0.mk hb; have ho1 := pw_cell_below hb HO.out; have he1 := pw_cell_below hb HE.out; have hx1 := pw_cell_below hb HX.out; rw [HZ.out] at hx1; unfold noStr at hx1; have HS1 := Aside0.mk (HS.out.below hb); clear hb) | ((with_reducible refine (sgetter f S _).mono ?_); rintro e w' ⟨rfl, rfl⟩) | ((with_reducible refine (egetter g S s _ HS1.out).mono ?_); rintro e w' ⟨rfl, rfl⟩))
      go_ret
      exact ⟨rfl, HB.out⟩
    · have HX := Aside0.mk hx
      rw [decide_eq_false h2, Bool.false_and, Bool.false_or]
      have hz : ¬ (f.get s).toList = [] := fun e => h2 (toList_nil.1 e)
      clear h2
      go_enter Try.func48, Try.ntmps48
      go_wp2_with (first | (go_at_call 49; refine (dvalid_calls _ _).mono ?_; rintro e w1 ⟨rfl, hb⟩; rw [H1.out]; have HB := Aside0.mk hb; have ho1 := pw_cell_below hb HO.out; have he1 := pw_cell_below hb HE.out; have hx1 := pw_cell_below hb HX.out; have HS1 := Aside0.mk (HS.out.below hb); clear hb) | ((with_reducible refine (sgetter f S _).mono ?_); rintro e w' ⟨rfl, rfl⟩) | ((with_reducible refine (egetter g S s _ HS1.out).mono ?_); rintro e w' ⟨rfl, rfl⟩))
      go_ret
      have e : (f.get s).toList.isEmpty = false := by rw [List.isEmpty_eq_false_iff]; exact hz
      refine ⟨by first | rfl | (simp [e]), HB.out⟩

set_option maxHeartbeats 2000000 in
theorem bool_valid (S : Nat) (w : World) : Calls Try.prog 55 #[pt S] w fun e w' => e = .returned (.bool true) ∧ w' = w := by
  unfold pt
  go_enter Try.func55, Try.ntmps55
  go_wp2
  go_ret
  exact ⟨rfl, rfl⟩

/-! ### clear -/
def Fd.clr (s : Sig) : Fd → Sig
  | .int f _ _ => f.set s 0
  | .addr f _ => f.set s noStr
  | .bool f => f.set s false

set_option maxHeartbeats 2000000 in
theorem int_clear (f : IF) (S bo : Nat) (ok : Nat → Prop) (s : Sig) (w : World) (hs : At w S s) (ho : Bx ok w bo (.func (.func f.fn) #[] #[]) 69) :
    Calls Try.prog 47 #[pt S, pt bo] w fun e w' => e = .returned (.tuple #[]) ∧ w' = w.setCell ⟨S, f.off, none⟩ (.int .i64 0) := by
  have ho := ho.cell
  have hx := hs.int f
  have hf := hs.frozen
  have eg := ienters f
  unfold pt
  go_enter Try.func47, Try.ntmps47
  go_wp2_with ((with_reducible refine (igetter f S _).mono ?_); rintro e w' ⟨rfl, rfl⟩)
  go_end0
  exact ⟨rfl, rfl⟩
set_option maxHeartbeats 2000000 in
theorem addr_clear (f : SF) (S bo : Nat) (ok : Nat → Prop) (s : Sig) (w : World) (hs : At w S s) (ho : Bx ok w bo (.func (.func f.fn) #[] #[]) 72) :
    Calls Try.prog 54 #[pt S, pt bo] w fun e w' => e = .returned (.tuple #[]) ∧ w' = w.setCell ⟨S, f.off, none⟩ (.string noStr) := by
  have ho := ho.cell
  have hx := hs.str f
  have hf := hs.frozen
  have eg := senters f
  unfold pt
  go_enter Try.func54, Try.ntmps54
  go_wp2_with ((with_reducible refine (sgetter f S _).mono ?_); rintro e w' ⟨rfl, rfl⟩)
  go_end0
  exact ⟨rfl, rfl⟩
set_option maxHeartbeats 2000000 in
theorem bool_clear (f : BF) (S bo : Nat) (ok : Nat → Prop) (s : Sig) (w : World) (hs : At w S s) (ho : Bx ok w bo (.func (.func f.fn) #[] #[]) 75) :
    Calls Try.prog 59 #[pt S, pt bo] w fun e w' => e = .returned (.tuple #[]) ∧ w' = w.setCell ⟨S, f.off, none⟩ (.bool false) := by
  have ho := ho.cell
  have hx := hs.bool f
  have hf := hs.frozen
  have eg := benters f
  unfold pt
  go_enter Try.func59, Try.ntmps59
  go_wp2_with ((with_reducible refine (bgetter f S _).mono ?_); rintro e w' ⟨rfl, rfl⟩)
  go_end0
  exact ⟨rfl, rfl⟩

end Go.Proofs.Ytmpjcpkfnjnejaa.Iq
