-- Written by a program of this session (wip/tools/surro2.py) that calls the kit's printer.
import Derived.Test.YtmpjcpkfnjnejaaIs0
import Derived.Test.YtmpjcpkfnjnejaaIsh0
import Derived.Test.YtmpjcpkfnjnejaaHqm
namespace Go.Proofs.Ytmpjcpkfnjnejaa.Is
open Go.RowKit Go.Proofs.YtmpjcpkfnjnejaaW.PrintWords Go.Proofs.YtmpjcpkfnjnejaaW.PrintLast Go.Proofs.YtmpjcpkfnjnejaaW.PrintMore
attribute [local go_sem] max2_int min2_int max_two min_two max_three min_three max_four min_four   -- for this text's walks alone
set_option linter.unusedVariables false
set_option linter.unusedSimpArgs false
attribute [local go_sem high] eqA23


/-! ### hdlc_Encode: function 15 -/
def hdlc_Encode.f (l0 : List Int) : Option (List Int × Int) := some (Hq.encH l0)
set_option maxHeartbeats 8000000 in
set_option maxRecDepth 100000 in
theorem hdlc_Encode.calls (A0 : Option Addr) (c0 : Nat) (l0 : List Int) (r1 : List Int) (r2 : Int) (w : World) (hr0 : Kd.C (Kd.int .u8) w A0 l0.length l0) (hc0 : l0.length ≤ c0) (h : hdlc_Encode.f l0 = some (r1, r2)) :
    Calls Try.prog 15 #[.slice A0 l0.length c0] w fun e w' => ∃ v0_ : Value, e = .returned (.tuple #[v0_, .int .i64 r2]) ∧ Kd.R (Kd.int .u8) 5 w' w.heap.size (fun _ => True) v0_ r1 ∧ Below w.heap.size w w' := by
  have e := Option.some.inj h
  have e1 : (Hq.encH l0).1 = r1 := congrArg Prod.fst e
  have e2 : (Hq.encH l0).2 = r2 := congrArg Prod.snd e
  subst e1 e2
  exact Hq.Encode_calls A0 c0 l0 w hr0 hc0

/-! ### hdlc_Scan: function 16 -/
def hdlc_Scan.f (l0 : List Int) : Option ((List (List Int)) × Int) := if (∀ c ∈ l0, 0 ≤ c ∧ c ≤ 255) ∧ l0.length ≤ 4294967296 then some (Hq.scanH l0) else none
set_option maxHeartbeats 8000000 in
set_option maxRecDepth 100000 in
theorem hdlc_Scan.calls (P0_ : Nat → Prop) (A0 : Option Addr) (c0 : Nat) (l0 : List Int) (r1 : List (List Int)) (r2 : Int) (w : World) (hs0 : Kd.V (Kd.int .u8) 5 w w.heap.size (fun k_ => P0_ k_) (.slice A0 l0.length c0) l0) (h : hdlc_Scan.f l0 = some (r1, r2)) :
    Calls Try.prog 16 #[.slice A0 l0.length c0] w fun e w' => ∃ v0_ : Value, e = .returned (.tuple #[v0_, .int .i64 r2]) ∧ Kd.N (Kd.slice 5 (Kd.int .u8)) 24 w' w.heap.size (fun k_ => (P0_ k_ ∨ w.heap.size ≤ k_)) v0_ r1 ∧ Below w.heap.size w w' := by
  by_cases hl : (∀ c ∈ l0, 0 ≤ c ∧ c ≤ 255) ∧ l0.length ≤ 4294967296
  · rw [hdlc_Scan.f, if_pos hl] at h
    have e := Option.some.inj h
    have e1 : (Hq.scanH l0).1 = r1 := congrArg Prod.fst e
    have e2 : (Hq.scanH l0).2 = r2 := congrArg Prod.snd e
    subst e1 e2
    exact Hq.Scan_calls P0_ A0 c0 l0 w hs0 hl.1 hl.2
  · rw [hdlc_Scan.f, if_neg hl] at h
    cases h

end Go.Proofs.Ytmpjcpkfnjnejaa.Is
