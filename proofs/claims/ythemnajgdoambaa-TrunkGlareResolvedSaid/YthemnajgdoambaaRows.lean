/-
  No cell of these rows narrows 'for every input' (looked for: loops, veiled, ifaces, maps, wideKeys, modest, calm, conditions, laid).
  DERIVED. THE GIVEN ROWS OF THIS SEAT. 8 by the template 'for every input the law returns true; each argument reads behind the call as it read before'; 0 by the template 'total and deterministic' (their statements: YthemnajgdoambaaTotals.lean).
  GIVEN WITH THE SEED: the statements are not yours to turn. If you find one false, say at which input.
  Laid BY PROGRAM, IN A SANDBOX (cutbox-rows.mjs): the forced cells as the released guide's own fill.sh prints them over the translation f00e3aba2ff103ef… (all of the seat's roots in one cut). By AI agents, Wed Nov 11 2026. No macro, syntax, notation, axiom, sorry.
-/
import Derived.Test.YthemnajgdoambaaChecked
import GoSem.Claim
import GoSem.ClaimJoined
import GoSem.ClaimMapViews
import Derived.JoinedTies
import Derived.KernelRfl
namespace Go.Proofs.Ythemnajgdoambaa
/- THE CELL 'sum', in the pinned program and in every row, IS THE sha256 OF THE DUMP (.gsa) THAT YthemnajgdoambaaProg.lean LOADS. Nothing in Lean hashes anything: it is a label: what it is worth is what the hold of that sum in a sandbox is worth. -/
noncomputable def Try.pinned : Pinned := { name := "ythemnajgdoambaa", sum := "f00e3aba2ff103efd4054f4928a80e6306644de0425052169ba4608d6c3251af", checked := Try.checked }
namespace Rows
def none {H : Type} : Left H := { results := [], args := [] }

/-- 'crossbarlaw14.TrunkGlareResolved': WHATEVER THE INPUT: true; the input reads as it did. -/
def trunkGlareResolvedSpec : ChangeSpec := { name := "trunkGlareResolved", fn := fun _ => fun
  | [d1, d2, d3, d4, d5, d6] => { results := [.lit (.bool true)], args := [d1, d2, d3, d4, d5, d6] }
  | _ => none }
def trunkGlareResolvedRow : OpenClaim := { program := "ythemnajgdoambaa", sum := "f00e3aba2ff103efd4054f4928a80e6306644de0425052169ba4608d6c3251af", func := "crossbar/crossbarlaw14.TrunkGlareResolved", spec := "trunkGlareResolved", unfollowed := true, recurses := true, apart := false }
def TrunkGlareResolvedSaid : Prop := trunkGlareResolvedRow.holds Try.pinned (OpenSpec.ofChange trunkGlareResolvedSpec)

/-- ITS FALSE NEIGHBOUR: 'it returns false'. Refute it at one input. -/
def trunkGlareResolvedWrong : ChangeSpec := { name := "trunkGlareResolved", fn := fun _ => fun
  | [d1, d2, d3, d4, d5, d6] => { results := [.lit (.bool false)], args := [d1, d2, d3, d4, d5, d6] }
  | _ => none }
def TrunkGlareResolvedWrongFalsely : Prop := trunkGlareResolvedRow.holds Try.pinned (OpenSpec.ofChange trunkGlareResolvedWrong)

/-- 'crossbarlaw14.TrunkBlockingProtocol': WHATEVER THE INPUT: true; the input reads as it did. -/
def trunkBlockingProtocolSpec : ChangeSpec := { name := "trunkBlockingProtocol", fn := fun _ => fun
  | [d1, d2] => { results := [.lit (.bool true)], args := [d1, d2] }
  | _ => none }
def trunkBlockingProtocolRow : OpenClaim := { program := "ythemnajgdoambaa", sum := "f00e3aba2ff103efd4054f4928a80e6306644de0425052169ba4608d6c3251af", func := "crossbar/crossbarlaw14.TrunkBlockingProtocol", spec := "trunkBlockingProtocol", unfollowed := true, recurses := true, apart := false }
def TrunkBlockingProtocolSaid : Prop := trunkBlockingProtocolRow.holds Try.pinned (OpenSpec.ofChange trunkBlockingProtocolSpec)

/-- ITS FALSE NEIGHBOUR: 'it returns false'. Refute it at one input. -/
def trunkBlockingProtocolWrong : ChangeSpec := { name := "trunkBlockingProtocol", fn := fun _ => fun
  | [d1, d2] => { results := [.lit (.bool false)], args := [d1, d2] }
  | _ => none }
def TrunkBlockingProtocolWrongFalsely : Prop := trunkBlockingProtocolRow.holds Try.pinned (OpenSpec.ofChange trunkBlockingProtocolWrong)

/-- 'crossbarlaw14.TrunkControlExclusive': WHATEVER THE INPUT: true; the input reads as it did. -/
def trunkControlExclusiveSpec : ChangeSpec := { name := "trunkControlExclusive", fn := fun _ => fun
  | [d1, d2] => { results := [.lit (.bool true)], args := [d1, d2] }
  | _ => none }
def trunkControlExclusiveRow : OpenClaim := { program := "ythemnajgdoambaa", sum := "f00e3aba2ff103efd4054f4928a80e6306644de0425052169ba4608d6c3251af", func := "crossbar/crossbarlaw14.TrunkControlExclusive", spec := "trunkControlExclusive", unfollowed := true, recurses := true, apart := false }
def TrunkControlExclusiveSaid : Prop := trunkControlExclusiveRow.holds Try.pinned (OpenSpec.ofChange trunkControlExclusiveSpec)

/-- ITS FALSE NEIGHBOUR: 'it returns false'. Refute it at one input. -/
def trunkControlExclusiveWrong : ChangeSpec := { name := "trunkControlExclusive", fn := fun _ => fun
  | [d1, d2] => { results := [.lit (.bool false)], args := [d1, d2] }
  | _ => none }
def TrunkControlExclusiveWrongFalsely : Prop := trunkControlExclusiveRow.holds Try.pinned (OpenSpec.ofChange trunkControlExclusiveWrong)

/-- 'crossbarlaw14.TrunkPickAvailable': WHATEVER THE INPUT: true; the input reads as it did. -/
def trunkPickAvailableSpec : ChangeSpec := { name := "trunkPickAvailable", fn := fun _ => fun
  | [d] => { results := [.lit (.bool true)], args := [d] }
  | _ => none }
def trunkPickAvailableRow : OpenClaim := { program := "ythemnajgdoambaa", sum := "f00e3aba2ff103efd4054f4928a80e6306644de0425052169ba4608d6c3251af", func := "crossbar/crossbarlaw14.TrunkPickAvailable", spec := "trunkPickAvailable", unfollowed := true, recurses := true, apart := false }
def TrunkPickAvailableSaid : Prop := trunkPickAvailableRow.holds Try.pinned (OpenSpec.ofChange trunkPickAvailableSpec)

/-- ITS FALSE NEIGHBOUR: 'it returns false'. Refute it at one input. -/
def trunkPickAvailableWrong : ChangeSpec := { name := "trunkPickAvailable", fn := fun _ => fun
  | [d] => { results := [.lit (.bool false)], args := [d] }
  | _ => none }
def TrunkPickAvailableWrongFalsely : Prop := trunkPickAvailableRow.holds Try.pinned (OpenSpec.ofChange trunkPickAvailableWrong)

/-- 'crossbarlaw14.TrunkPickAvoidsGlare': WHATEVER THE INPUT: true; the input reads as it did. -/
def trunkPickAvoidsGlareSpec : ChangeSpec := { name := "trunkPickAvoidsGlare", fn := fun _ => fun
  | [d] => { results := [.lit (.bool true)], args := [d] }
  | _ => none }
def trunkPickAvoidsGlareRow : OpenClaim := { program := "ythemnajgdoambaa", sum := "f00e3aba2ff103efd4054f4928a80e6306644de0425052169ba4608d6c3251af", func := "crossbar/crossbarlaw14.TrunkPickAvoidsGlare", spec := "trunkPickAvoidsGlare", unfollowed := true, recurses := true, apart := false }
def TrunkPickAvoidsGlareSaid : Prop := trunkPickAvoidsGlareRow.holds Try.pinned (OpenSpec.ofChange trunkPickAvoidsGlareSpec)

/-- ITS FALSE NEIGHBOUR: 'it returns false'. Refute it at one input. -/
def trunkPickAvoidsGlareWrong : ChangeSpec := { name := "trunkPickAvoidsGlare", fn := fun _ => fun
  | [d] => { results := [.lit (.bool false)], args := [d] }
  | _ => none }
def TrunkPickAvoidsGlareWrongFalsely : Prop := trunkPickAvoidsGlareRow.holds Try.pinned (OpenSpec.ofChange trunkPickAvoidsGlareWrong)

/-- 'crossbarlaw14.TrunkLifecycle': WHATEVER THE INPUT: true; the input reads as it did. -/
def trunkLifecycleSpec : ChangeSpec := { name := "trunkLifecycle", fn := fun _ => fun
  | [d1, d2, d3, d4] => { results := [.lit (.bool true)], args := [d1, d2, d3, d4] }
  | _ => none }
def trunkLifecycleRow : OpenClaim := { program := "ythemnajgdoambaa", sum := "f00e3aba2ff103efd4054f4928a80e6306644de0425052169ba4608d6c3251af", func := "crossbar/crossbarlaw14.TrunkLifecycle", spec := "trunkLifecycle", unfollowed := true, recurses := true, apart := false }
def TrunkLifecycleSaid : Prop := trunkLifecycleRow.holds Try.pinned (OpenSpec.ofChange trunkLifecycleSpec)

/-- ITS FALSE NEIGHBOUR: 'it returns false'. Refute it at one input. -/
def trunkLifecycleWrong : ChangeSpec := { name := "trunkLifecycle", fn := fun _ => fun
  | [d1, d2, d3, d4] => { results := [.lit (.bool false)], args := [d1, d2, d3, d4] }
  | _ => none }
def TrunkLifecycleWrongFalsely : Prop := trunkLifecycleRow.holds Try.pinned (OpenSpec.ofChange trunkLifecycleWrong)

/-- 'crossbarlaw14.TrunkChangeSpec': WHATEVER THE INPUT: true; the input reads as it did. -/
def trunkChangeSpecSpec : ChangeSpec := { name := "trunkChangeSpec", fn := fun _ => fun
  | [d1, d2, d3, d4, d5] => { results := [.lit (.bool true)], args := [d1, d2, d3, d4, d5] }
  | _ => none }
def trunkChangeSpecRow : OpenClaim := { program := "ythemnajgdoambaa", sum := "f00e3aba2ff103efd4054f4928a80e6306644de0425052169ba4608d6c3251af", func := "crossbar/crossbarlaw14.TrunkChangeSpec", spec := "trunkChangeSpec", unfollowed := true, recurses := true, apart := false }
def TrunkChangeSpecSaid : Prop := trunkChangeSpecRow.holds Try.pinned (OpenSpec.ofChange trunkChangeSpecSpec)

/-- ITS FALSE NEIGHBOUR: 'it returns false'. Refute it at one input. -/
def trunkChangeSpecWrong : ChangeSpec := { name := "trunkChangeSpec", fn := fun _ => fun
  | [d1, d2, d3, d4, d5] => { results := [.lit (.bool false)], args := [d1, d2, d3, d4, d5] }
  | _ => none }
def TrunkChangeSpecWrongFalsely : Prop := trunkChangeSpecRow.holds Try.pinned (OpenSpec.ofChange trunkChangeSpecWrong)

/-- 'crossbarlaw14.TrunkStaysValid': WHATEVER THE INPUT: true; the input reads as it did. -/
def trunkStaysValidSpec : ChangeSpec := { name := "trunkStaysValid", fn := fun _ => fun
  | [d1, d2] => { results := [.lit (.bool true)], args := [d1, d2] }
  | _ => none }
def trunkStaysValidRow : OpenClaim := { program := "ythemnajgdoambaa", sum := "f00e3aba2ff103efd4054f4928a80e6306644de0425052169ba4608d6c3251af", func := "crossbar/crossbarlaw14.TrunkStaysValid", spec := "trunkStaysValid", unfollowed := true, recurses := true, apart := false }
def TrunkStaysValidSaid : Prop := trunkStaysValidRow.holds Try.pinned (OpenSpec.ofChange trunkStaysValidSpec)

/-- ITS FALSE NEIGHBOUR: 'it returns false'. Refute it at one input. -/
def trunkStaysValidWrong : ChangeSpec := { name := "trunkStaysValid", fn := fun _ => fun
  | [d1, d2] => { results := [.lit (.bool false)], args := [d1, d2] }
  | _ => none }
def TrunkStaysValidWrongFalsely : Prop := trunkStaysValidRow.holds Try.pinned (OpenSpec.ofChange trunkStaysValidWrong)

/- THE SECOND FORM. 'bulk': how many values and letters a reading holds, each counted each time it is reached (what is shared counts as often as it is met; a slice's spare places count too). A statement '..UptoSaid' is the law's where the arguments, and the package variables that the reading takes, are together of bulk at most 1048576: NARROWER than '..Said'. Prove '..Said' where nothing that the law and all that it calls make is longer than what came in: it says more and counts as full. Else prove '..UptoSaid'. A law counts once. -/
mutual
def uptoBulk {H : Type} : DataW H → Nat
  | .lit (.string bytes) => bytes.length + 1
  | .lit _ => 1
  | .nil => 1
  | .ptr d => uptoBulk d + 1
  | .slice elems spare => uptoBulkAll elems + uptoBulkAll spare + 1
  | .agg parts => uptoBulkAll parts + 1
  | .iface _ d => uptoBulk d + 1
  | .map entries => uptoBulkEntries entries + 1
  | .held _ => 1
def uptoBulkAll {H : Type} : List (DataW H) → Nat
  | [] => 0
  | d :: r => uptoBulk d + uptoBulkAll r
def uptoBulkEntries {H : Type} : List (Lit × DataW H) → Nat
  | [] => 0
  | x :: r => uptoBulkEntry x + uptoBulkEntries r
def uptoBulkEntry {H : Type} : Lit × DataW H → Nat
  | (.string bytes, d) => bytes.length + uptoBulk d + 1
  | (_, d) => uptoBulk d + 1
 end
def uptoSmall : (H : Type) → List (DataW H) → Bool := fun _ ds => decide (uptoBulkAll ds ≤ 1048576)
def OpenSpec.upto (s : _root_.Go.ChangeSpec) : _root_.Go.OpenSpec := { _root_.Go.OpenSpec.ofChange s with cond := some uptoSmall }

/-- 'crossbarlaw14.TrunkGlareResolved', WHERE WHAT IT READS IS OF BULK AT MOST 1048576: true; the input reads as it did. -/
def trunkGlareResolvedUptoRow : OpenClaim := { program := "ythemnajgdoambaa", sum := "f00e3aba2ff103efd4054f4928a80e6306644de0425052169ba4608d6c3251af", func := "crossbar/crossbarlaw14.TrunkGlareResolved", spec := "trunkGlareResolved", unfollowed := true, recurses := true, apart := false, narrowed := true }
def TrunkGlareResolvedUptoSaid : Prop := trunkGlareResolvedUptoRow.holds Try.pinned (OpenSpec.upto trunkGlareResolvedSpec)

/-- 'crossbarlaw14.TrunkBlockingProtocol', WHERE WHAT IT READS IS OF BULK AT MOST 1048576: true; the input reads as it did. -/
def trunkBlockingProtocolUptoRow : OpenClaim := { program := "ythemnajgdoambaa", sum := "f00e3aba2ff103efd4054f4928a80e6306644de0425052169ba4608d6c3251af", func := "crossbar/crossbarlaw14.TrunkBlockingProtocol", spec := "trunkBlockingProtocol", unfollowed := true, recurses := true, apart := false, narrowed := true }
def TrunkBlockingProtocolUptoSaid : Prop := trunkBlockingProtocolUptoRow.holds Try.pinned (OpenSpec.upto trunkBlockingProtocolSpec)

/-- 'crossbarlaw14.TrunkControlExclusive', WHERE WHAT IT READS IS OF BULK AT MOST 1048576: true; the input reads as it did. -/
def trunkControlExclusiveUptoRow : OpenClaim := { program := "ythemnajgdoambaa", sum := "f00e3aba2ff103efd4054f4928a80e6306644de0425052169ba4608d6c3251af", func := "crossbar/crossbarlaw14.TrunkControlExclusive", spec := "trunkControlExclusive", unfollowed := true, recurses := true, apart := false, narrowed := true }
def TrunkControlExclusiveUptoSaid : Prop := trunkControlExclusiveUptoRow.holds Try.pinned (OpenSpec.upto trunkControlExclusiveSpec)

/-- 'crossbarlaw14.TrunkPickAvailable', WHERE WHAT IT READS IS OF BULK AT MOST 1048576: true; the input reads as it did. -/
def trunkPickAvailableUptoRow : OpenClaim := { program := "ythemnajgdoambaa", sum := "f00e3aba2ff103efd4054f4928a80e6306644de0425052169ba4608d6c3251af", func := "crossbar/crossbarlaw14.TrunkPickAvailable", spec := "trunkPickAvailable", unfollowed := true, recurses := true, apart := false, narrowed := true }
def TrunkPickAvailableUptoSaid : Prop := trunkPickAvailableUptoRow.holds Try.pinned (OpenSpec.upto trunkPickAvailableSpec)

/-- 'crossbarlaw14.TrunkPickAvoidsGlare', WHERE WHAT IT READS IS OF BULK AT MOST 1048576: true; the input reads as it did. -/
def trunkPickAvoidsGlareUptoRow : OpenClaim := { program := "ythemnajgdoambaa", sum := "f00e3aba2ff103efd4054f4928a80e6306644de0425052169ba4608d6c3251af", func := "crossbar/crossbarlaw14.TrunkPickAvoidsGlare", spec := "trunkPickAvoidsGlare", unfollowed := true, recurses := true, apart := false, narrowed := true }
def TrunkPickAvoidsGlareUptoSaid : Prop := trunkPickAvoidsGlareUptoRow.holds Try.pinned (OpenSpec.upto trunkPickAvoidsGlareSpec)

/-- 'crossbarlaw14.TrunkLifecycle', WHERE WHAT IT READS IS OF BULK AT MOST 1048576: true; the input reads as it did. -/
def trunkLifecycleUptoRow : OpenClaim := { program := "ythemnajgdoambaa", sum := "f00e3aba2ff103efd4054f4928a80e6306644de0425052169ba4608d6c3251af", func := "crossbar/crossbarlaw14.TrunkLifecycle", spec := "trunkLifecycle", unfollowed := true, recurses := true, apart := false, narrowed := true }
def TrunkLifecycleUptoSaid : Prop := trunkLifecycleUptoRow.holds Try.pinned (OpenSpec.upto trunkLifecycleSpec)

/-- 'crossbarlaw14.TrunkChangeSpec', WHERE WHAT IT READS IS OF BULK AT MOST 1048576: true; the input reads as it did. -/
def trunkChangeSpecUptoRow : OpenClaim := { program := "ythemnajgdoambaa", sum := "f00e3aba2ff103efd4054f4928a80e6306644de0425052169ba4608d6c3251af", func := "crossbar/crossbarlaw14.TrunkChangeSpec", spec := "trunkChangeSpec", unfollowed := true, recurses := true, apart := false, narrowed := true }
def TrunkChangeSpecUptoSaid : Prop := trunkChangeSpecUptoRow.holds Try.pinned (OpenSpec.upto trunkChangeSpecSpec)

/-- 'crossbarlaw14.TrunkStaysValid', WHERE WHAT IT READS IS OF BULK AT MOST 1048576: true; the input reads as it did. -/
def trunkStaysValidUptoRow : OpenClaim := { program := "ythemnajgdoambaa", sum := "f00e3aba2ff103efd4054f4928a80e6306644de0425052169ba4608d6c3251af", func := "crossbar/crossbarlaw14.TrunkStaysValid", spec := "trunkStaysValid", unfollowed := true, recurses := true, apart := false, narrowed := true }
def TrunkStaysValidUptoSaid : Prop := trunkStaysValidUptoRow.holds Try.pinned (OpenSpec.upto trunkStaysValidSpec)

end Rows
end Go.Proofs.Ythemnajgdoambaa
