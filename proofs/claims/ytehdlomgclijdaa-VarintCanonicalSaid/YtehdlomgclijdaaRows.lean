/-
  No cell of these rows narrows 'for every input' (looked for: loops, veiled, ifaces, maps, wideKeys, modest, calm, conditions, laid).
  DERIVED. THE GIVEN ROWS OF THIS SEAT. 8 by the template 'for every input the law returns true; each argument reads behind the call as it read before'; 0 by the template 'total and deterministic' (their statements: YtehdlomgclijdaaTotals.lean).
  GIVEN WITH THE SEED: the statements are not yours to turn. If you find one false, say at which input.
  Laid BY PROGRAM, IN A SANDBOX (cutbox-rows.mjs): the forced cells as the released guide's own fill.sh prints them over the translation 00ff13c5bbab7c54… (all of the seat's roots in one cut). By AI agents, Wed Nov 11 2026. No macro, syntax, notation, axiom, sorry.
-/
import Derived.Test.YtehdlomgclijdaaChecked
import GoSem.Claim
import GoSem.ClaimJoined
import GoSem.ClaimMapViews
import Derived.JoinedTies
import Derived.KernelRfl
namespace Go.Proofs.Ytehdlomgclijdaa
/- THE CELL 'sum', in the pinned program and in every row, IS THE sha256 OF THE DUMP (.gsa) THAT YtehdlomgclijdaaProg.lean LOADS. Nothing in Lean hashes anything: it is a label: what it is worth is what the hold of that sum in a sandbox is worth. -/
noncomputable def Try.pinned : Pinned := { name := "ytehdlomgclijdaa", sum := "00ff13c5bbab7c5490f83909be2353143010f603c95f826ed8a8fcbc832cb344", checked := Try.checked }
namespace Rows
def none {H : Type} : Left H := { results := [], args := [] }

/-- 'crossbarlaw01.VarintLength': WHATEVER THE INPUT: true; the input reads as it did. -/
def varintLengthSpec : ChangeSpec := { name := "varintLength", fn := fun _ => fun
  | [d] => { results := [.lit (.bool true)], args := [d] }
  | _ => none }
def varintLengthRow : OpenClaim := { program := "ytehdlomgclijdaa", sum := "00ff13c5bbab7c5490f83909be2353143010f603c95f826ed8a8fcbc832cb344", func := "crossbar/crossbarlaw01.VarintLength", spec := "varintLength", apart := false }
def VarintLengthSaid : Prop := varintLengthRow.holds Try.pinned (OpenSpec.ofChange varintLengthSpec)

/-- ITS FALSE NEIGHBOUR: 'it returns false'. Refute it at one input. -/
def varintLengthWrong : ChangeSpec := { name := "varintLength", fn := fun _ => fun
  | [d] => { results := [.lit (.bool false)], args := [d] }
  | _ => none }
def VarintLengthWrongFalsely : Prop := varintLengthRow.holds Try.pinned (OpenSpec.ofChange varintLengthWrong)

/-- 'crossbarlaw01.VarintZigzag': WHATEVER THE INPUT: true; the input reads as it did. -/
def varintZigzagSpec : ChangeSpec := { name := "varintZigzag", fn := fun _ => fun
  | [d1, d2] => { results := [.lit (.bool true)], args := [d1, d2] }
  | _ => none }
def varintZigzagRow : OpenClaim := { program := "ytehdlomgclijdaa", sum := "00ff13c5bbab7c5490f83909be2353143010f603c95f826ed8a8fcbc832cb344", func := "crossbar/crossbarlaw01.VarintZigzag", spec := "varintZigzag", apart := false }
def VarintZigzagSaid : Prop := varintZigzagRow.holds Try.pinned (OpenSpec.ofChange varintZigzagSpec)

/-- ITS FALSE NEIGHBOUR: 'it returns false'. Refute it at one input. -/
def varintZigzagWrong : ChangeSpec := { name := "varintZigzag", fn := fun _ => fun
  | [d1, d2] => { results := [.lit (.bool false)], args := [d1, d2] }
  | _ => none }
def VarintZigzagWrongFalsely : Prop := varintZigzagRow.holds Try.pinned (OpenSpec.ofChange varintZigzagWrong)

/-- 'crossbarlaw01.VarintMatchesIntegers': WHATEVER THE INPUT: true; the input reads as it did. -/
def varintMatchesIntegersSpec : ChangeSpec := { name := "varintMatchesIntegers", fn := fun _ => fun
  | [d1, d2, d3, d4] => { results := [.lit (.bool true)], args := [d1, d2, d3, d4] }
  | _ => none }
def varintMatchesIntegersRow : OpenClaim := { program := "ytehdlomgclijdaa", sum := "00ff13c5bbab7c5490f83909be2353143010f603c95f826ed8a8fcbc832cb344", func := "crossbar/crossbarlaw01.VarintMatchesIntegers", spec := "varintMatchesIntegers", apart := false }
def VarintMatchesIntegersSaid : Prop := varintMatchesIntegersRow.holds Try.pinned (OpenSpec.ofChange varintMatchesIntegersSpec)

/-- ITS FALSE NEIGHBOUR: 'it returns false'. Refute it at one input. -/
def varintMatchesIntegersWrong : ChangeSpec := { name := "varintMatchesIntegers", fn := fun _ => fun
  | [d1, d2, d3, d4] => { results := [.lit (.bool false)], args := [d1, d2, d3, d4] }
  | _ => none }
def VarintMatchesIntegersWrongFalsely : Prop := varintMatchesIntegersRow.holds Try.pinned (OpenSpec.ofChange varintMatchesIntegersWrong)

/-- 'crossbarlaw01.VarintTruncated': WHATEVER THE INPUT: true; the input reads as it did. -/
def varintTruncatedSpec : ChangeSpec := { name := "varintTruncated", fn := fun _ => fun
  | [d1, d2, d3] => { results := [.lit (.bool true)], args := [d1, d2, d3] }
  | _ => none }
def varintTruncatedRow : OpenClaim := { program := "ytehdlomgclijdaa", sum := "00ff13c5bbab7c5490f83909be2353143010f603c95f826ed8a8fcbc832cb344", func := "crossbar/crossbarlaw01.VarintTruncated", spec := "varintTruncated", apart := false }
def VarintTruncatedSaid : Prop := varintTruncatedRow.holds Try.pinned (OpenSpec.ofChange varintTruncatedSpec)

/-- ITS FALSE NEIGHBOUR: 'it returns false'. Refute it at one input. -/
def varintTruncatedWrong : ChangeSpec := { name := "varintTruncated", fn := fun _ => fun
  | [d1, d2, d3] => { results := [.lit (.bool false)], args := [d1, d2, d3] }
  | _ => none }
def VarintTruncatedWrongFalsely : Prop := varintTruncatedRow.holds Try.pinned (OpenSpec.ofChange varintTruncatedWrong)

/-- 'crossbarlaw01.VarintLimit': WHATEVER THE INPUT: true; the input reads as it did. -/
def varintLimitSpec : ChangeSpec := { name := "varintLimit", fn := fun _ => fun
  | [d1, d2, d3] => { results := [.lit (.bool true)], args := [d1, d2, d3] }
  | _ => none }
def varintLimitRow : OpenClaim := { program := "ytehdlomgclijdaa", sum := "00ff13c5bbab7c5490f83909be2353143010f603c95f826ed8a8fcbc832cb344", func := "crossbar/crossbarlaw01.VarintLimit", spec := "varintLimit", apart := false }
def VarintLimitSaid : Prop := varintLimitRow.holds Try.pinned (OpenSpec.ofChange varintLimitSpec)

/-- ITS FALSE NEIGHBOUR: 'it returns false'. Refute it at one input. -/
def varintLimitWrong : ChangeSpec := { name := "varintLimit", fn := fun _ => fun
  | [d1, d2, d3] => { results := [.lit (.bool false)], args := [d1, d2, d3] }
  | _ => none }
def VarintLimitWrongFalsely : Prop := varintLimitRow.holds Try.pinned (OpenSpec.ofChange varintLimitWrong)

/-- 'crossbarlaw01.VarintMatchesStrings': WHATEVER THE INPUT: true; the input reads as it did. -/
def varintMatchesStringsSpec : ChangeSpec := { name := "varintMatchesStrings", fn := fun _ => fun
  | [d1, d2, d3, d4] => { results := [.lit (.bool true)], args := [d1, d2, d3, d4] }
  | _ => none }
def varintMatchesStringsRow : OpenClaim := { program := "ytehdlomgclijdaa", sum := "00ff13c5bbab7c5490f83909be2353143010f603c95f826ed8a8fcbc832cb344", func := "crossbar/crossbarlaw01.VarintMatchesStrings", spec := "varintMatchesStrings", apart := false }
def VarintMatchesStringsSaid : Prop := varintMatchesStringsRow.holds Try.pinned (OpenSpec.ofChange varintMatchesStringsSpec)

/-- ITS FALSE NEIGHBOUR: 'it returns false'. Refute it at one input. -/
def varintMatchesStringsWrong : ChangeSpec := { name := "varintMatchesStrings", fn := fun _ => fun
  | [d1, d2, d3, d4] => { results := [.lit (.bool false)], args := [d1, d2, d3, d4] }
  | _ => none }
def VarintMatchesStringsWrongFalsely : Prop := varintMatchesStringsRow.holds Try.pinned (OpenSpec.ofChange varintMatchesStringsWrong)

/-- 'crossbarlaw01.VarintCanonical': WHATEVER THE INPUT: true; the input reads as it did. -/
def varintCanonicalSpec : ChangeSpec := { name := "varintCanonical", fn := fun _ => fun
  | [d1, d2, d3] => { results := [.lit (.bool true)], args := [d1, d2, d3] }
  | _ => none }
def varintCanonicalRow : OpenClaim := { program := "ytehdlomgclijdaa", sum := "00ff13c5bbab7c5490f83909be2353143010f603c95f826ed8a8fcbc832cb344", func := "crossbar/crossbarlaw01.VarintCanonical", spec := "varintCanonical", apart := false }
def VarintCanonicalSaid : Prop := varintCanonicalRow.holds Try.pinned (OpenSpec.ofChange varintCanonicalSpec)

/-- ITS FALSE NEIGHBOUR: 'it returns false'. Refute it at one input. -/
def varintCanonicalWrong : ChangeSpec := { name := "varintCanonical", fn := fun _ => fun
  | [d1, d2, d3] => { results := [.lit (.bool false)], args := [d1, d2, d3] }
  | _ => none }
def VarintCanonicalWrongFalsely : Prop := varintCanonicalRow.holds Try.pinned (OpenSpec.ofChange varintCanonicalWrong)

/-- 'crossbarlaw01.VarintRoundTrip': WHATEVER THE INPUT: true; the input reads as it did. -/
def varintRoundTripSpec : ChangeSpec := { name := "varintRoundTrip", fn := fun _ => fun
  | [d1, d2, d3, d4] => { results := [.lit (.bool true)], args := [d1, d2, d3, d4] }
  | _ => none }
def varintRoundTripRow : OpenClaim := { program := "ytehdlomgclijdaa", sum := "00ff13c5bbab7c5490f83909be2353143010f603c95f826ed8a8fcbc832cb344", func := "crossbar/crossbarlaw01.VarintRoundTrip", spec := "varintRoundTrip", apart := false }
def VarintRoundTripSaid : Prop := varintRoundTripRow.holds Try.pinned (OpenSpec.ofChange varintRoundTripSpec)

/-- ITS FALSE NEIGHBOUR: 'it returns false'. Refute it at one input. -/
def varintRoundTripWrong : ChangeSpec := { name := "varintRoundTrip", fn := fun _ => fun
  | [d1, d2, d3, d4] => { results := [.lit (.bool false)], args := [d1, d2, d3, d4] }
  | _ => none }
def VarintRoundTripWrongFalsely : Prop := varintRoundTripRow.holds Try.pinned (OpenSpec.ofChange varintRoundTripWrong)

/- THE SECOND FORM. 'bulk': how many values and letters a reading holds, each counted each time it is reached (what is shared counts as often as it is met; a slice's spare places count too). A statement '..UptoSaid' is the law's where the arguments, and the package variables that the reading takes, are together of bulk at most 1048576: NARROWER than '..Said'. Prove '..Said' where nothing that the law and all that it calls make is longer than what came in: it says more and counts as full. Else prove '..UptoSaid'. A law counts once. -/
mutual
def uptoBulk {H : Type} : DataW H → Nat
  | .lit (.string bytes) => bytes.length + 1
  | .lit _ => 1
  | .nil => 1
  | .ptr d => uptoBulk d + 1
  | .slice elems spare => uptoBulkAll elems + uptoBulkAll spare + 1
  | .agg parts => uptoBulkAll parts + 1
  | .iface _ d => uptoBulk d + 1
  | .map entries => uptoBulkEntries entries + 1
  | .held _ => 1
def uptoBulkAll {H : Type} : List (DataW H) → Nat
  | [] => 0
  | d :: r => uptoBulk d + uptoBulkAll r
def uptoBulkEntries {H : Type} : List (Lit × DataW H) → Nat
  | [] => 0
  | x :: r => uptoBulkEntry x + uptoBulkEntries r
def uptoBulkEntry {H : Type} : Lit × DataW H → Nat
  | (.string bytes, d) => bytes.length + uptoBulk d + 1
  | (_, d) => uptoBulk d + 1
 end
def uptoSmall : (H : Type) → List (DataW H) → Bool := fun _ ds => decide (uptoBulkAll ds ≤ 1048576)
def OpenSpec.upto (s : _root_.Go.ChangeSpec) : _root_.Go.OpenSpec := { _root_.Go.OpenSpec.ofChange s with cond := some uptoSmall }

/-- 'crossbarlaw01.VarintLength', WHERE WHAT IT READS IS OF BULK AT MOST 1048576: true; the input reads as it did. -/
def varintLengthUptoRow : OpenClaim := { program := "ytehdlomgclijdaa", sum := "00ff13c5bbab7c5490f83909be2353143010f603c95f826ed8a8fcbc832cb344", func := "crossbar/crossbarlaw01.VarintLength", spec := "varintLength", apart := false, narrowed := true }
def VarintLengthUptoSaid : Prop := varintLengthUptoRow.holds Try.pinned (OpenSpec.upto varintLengthSpec)

/-- 'crossbarlaw01.VarintZigzag', WHERE WHAT IT READS IS OF BULK AT MOST 1048576: true; the input reads as it did. -/
def varintZigzagUptoRow : OpenClaim := { program := "ytehdlomgclijdaa", sum := "00ff13c5bbab7c5490f83909be2353143010f603c95f826ed8a8fcbc832cb344", func := "crossbar/crossbarlaw01.VarintZigzag", spec := "varintZigzag", apart := false, narrowed := true }
def VarintZigzagUptoSaid : Prop := varintZigzagUptoRow.holds Try.pinned (OpenSpec.upto varintZigzagSpec)

/-- 'crossbarlaw01.VarintMatchesIntegers', WHERE WHAT IT READS IS OF BULK AT MOST 1048576: true; the input reads as it did. -/
def varintMatchesIntegersUptoRow : OpenClaim := { program := "ytehdlomgclijdaa", sum := "00ff13c5bbab7c5490f83909be2353143010f603c95f826ed8a8fcbc832cb344", func := "crossbar/crossbarlaw01.VarintMatchesIntegers", spec := "varintMatchesIntegers", apart := false, narrowed := true }
def VarintMatchesIntegersUptoSaid : Prop := varintMatchesIntegersUptoRow.holds Try.pinned (OpenSpec.upto varintMatchesIntegersSpec)

/-- 'crossbarlaw01.VarintTruncated', WHERE WHAT IT READS IS OF BULK AT MOST 1048576: true; the input reads as it did. -/
def varintTruncatedUptoRow : OpenClaim := { program := "ytehdlomgclijdaa", sum := "00ff13c5bbab7c5490f83909be2353143010f603c95f826ed8a8fcbc832cb344", func := "crossbar/crossbarlaw01.VarintTruncated", spec := "varintTruncated", apart := false, narrowed := true }
def VarintTruncatedUptoSaid : Prop := varintTruncatedUptoRow.holds Try.pinned (OpenSpec.upto varintTruncatedSpec)

/-- 'crossbarlaw01.VarintLimit', WHERE WHAT IT READS IS OF BULK AT MOST 1048576: true; the input reads as it did. -/
def varintLimitUptoRow : OpenClaim := { program := "ytehdlomgclijdaa", sum := "00ff13c5bbab7c5490f83909be2353143010f603c95f826ed8a8fcbc832cb344", func := "crossbar/crossbarlaw01.VarintLimit", spec := "varintLimit", apart := false, narrowed := true }
def VarintLimitUptoSaid : Prop := varintLimitUptoRow.holds Try.pinned (OpenSpec.upto varintLimitSpec)

/-- 'crossbarlaw01.VarintMatchesStrings', WHERE WHAT IT READS IS OF BULK AT MOST 1048576: true; the input reads as it did. -/
def varintMatchesStringsUptoRow : OpenClaim := { program := "ytehdlomgclijdaa", sum := "00ff13c5bbab7c5490f83909be2353143010f603c95f826ed8a8fcbc832cb344", func := "crossbar/crossbarlaw01.VarintMatchesStrings", spec := "varintMatchesStrings", apart := false, narrowed := true }
def VarintMatchesStringsUptoSaid : Prop := varintMatchesStringsUptoRow.holds Try.pinned (OpenSpec.upto varintMatchesStringsSpec)

/-- 'crossbarlaw01.VarintCanonical', WHERE WHAT IT READS IS OF BULK AT MOST 1048576: true; the input reads as it did. -/
def varintCanonicalUptoRow : OpenClaim := { program := "ytehdlomgclijdaa", sum := "00ff13c5bbab7c5490f83909be2353143010f603c95f826ed8a8fcbc832cb344", func := "crossbar/crossbarlaw01.VarintCanonical", spec := "varintCanonical", apart := false, narrowed := true }
def VarintCanonicalUptoSaid : Prop := varintCanonicalUptoRow.holds Try.pinned (OpenSpec.upto varintCanonicalSpec)

/-- 'crossbarlaw01.VarintRoundTrip', WHERE WHAT IT READS IS OF BULK AT MOST 1048576: true; the input reads as it did. -/
def varintRoundTripUptoRow : OpenClaim := { program := "ytehdlomgclijdaa", sum := "00ff13c5bbab7c5490f83909be2353143010f603c95f826ed8a8fcbc832cb344", func := "crossbar/crossbarlaw01.VarintRoundTrip", spec := "varintRoundTrip", apart := false, narrowed := true }
def VarintRoundTripUptoSaid : Prop := varintRoundTripUptoRow.holds Try.pinned (OpenSpec.upto varintRoundTripSpec)

end Rows
end Go.Proofs.Ytehdlomgclijdaa
