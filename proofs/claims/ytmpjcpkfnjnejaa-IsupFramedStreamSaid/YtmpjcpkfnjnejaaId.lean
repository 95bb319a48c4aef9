-- Written by a program of this session (wip/tools/surro2.py) that calls the kit's printer.
import Derived.Test.YtmpjcpkfnjnejaaIs0
import Derived.Test.YtmpjcpkfnjnejaaIsh0
import Derived.Test.YtmpjcpkfnjnejaaIq11
namespace Go.Proofs.Ytmpjcpkfnjnejaa.Is
open Go.RowKit Go.Proofs.YtmpjcpkfnjnejaaW.PrintWords Go.Proofs.YtmpjcpkfnjnejaaW.PrintLast Go.Proofs.YtmpjcpkfnjnejaaW.PrintMore
attribute [local go_sem] max2_int min2_int max_two min_two max_three min_three max_four min_four   -- for this text's walks alone
set_option linter.unusedVariables false
set_option linter.unusedSimpArgs false
attribute [local go_sem high] eqA23


/-! ### crossbarlaw11_sane: function 9 -/
def crossbarlaw11_sane.f  : Option (Bool) := some true
set_option maxHeartbeats 8000000 in
set_option maxRecDepth 100000 in
theorem crossbarlaw11_sane.calls  (r : Bool) (w : World) (h : crossbarlaw11_sane.f  = some r) :
    Calls Try.prog 9 #[] w fun e w' => e = .returned (.bool r) ∧ Below w.heap.size w w' := by
  obtain rfl := Option.some.inj h
  exact Iq.sane_calls w

end Go.Proofs.Ytmpjcpkfnjnejaa.Is
