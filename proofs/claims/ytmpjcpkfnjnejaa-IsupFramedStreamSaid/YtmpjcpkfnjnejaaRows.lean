/-
  No cell of these rows narrows 'for every input' (looked for: loops, veiled, ifaces, maps, wideKeys, modest, calm, conditions, laid).
  DERIVED. THE GIVEN ROWS OF THIS SEAT. 6 by the template 'for every input the law returns true; each argument reads behind the call as it read before'; 0 by the template 'total and deterministic' (their statements: YtmpjcpkfnjnejaaTotals.lean).
  GIVEN WITH THE SEED: the statements are not yours to turn. If you find one false, say at which input.
  Laid BY PROGRAM, IN A SANDBOX (cutbox-rows.mjs): the forced cells as the released guide's own fill.sh prints them over the translation f052e362b6bba1b9… (all of the seat's roots in one cut). By AI agents, Wed Nov 11 2026. No macro, syntax, notation, axiom, sorry.
-/
import Derived.Test.YtmpjcpkfnjnejaaChecked
import GoSem.Claim
import GoSem.ClaimJoined
import GoSem.ClaimMapViews
import Derived.JoinedTies
import Derived.KernelRfl
namespace Go.Proofs.Ytmpjcpkfnjnejaa
/- THE CELL 'sum', in the pinned program and in every row, IS THE sha256 OF THE DUMP (.gsa) THAT YtmpjcpkfnjnejaaProg.lean LOADS. Nothing in Lean hashes anything: it is a label: what it is worth is what the hold of that sum in a sandbox is worth. -/
noncomputable def Try.pinned : Pinned := { name := "ytmpjcpkfnjnejaa", sum := "f052e362b6bba1b96dcca86aeb6567d3a281cec14bfb1c62020315727f0b655c", checked := Try.checked }
namespace Rows
def none {H : Type} : Left H := { results := [], args := [] }

/-- 'crossbarlaw11.IsupRoundTrip': WHATEVER THE INPUT: true; the input reads as it did. -/
def isupRoundTripSpec : ChangeSpec := { name := "isupRoundTrip", fn := fun _ => fun
  | [d1, d2] => { results := [.lit (.bool true)], args := [d1, d2] }
  | _ => none }
def isupRoundTripRow : OpenClaim := { program := "ytmpjcpkfnjnejaa", sum := "f052e362b6bba1b96dcca86aeb6567d3a281cec14bfb1c62020315727f0b655c", func := "crossbar/crossbarlaw11.IsupRoundTrip", spec := "isupRoundTrip", unfollowed := true, recurses := true, apart := false }
def IsupRoundTripSaid : Prop := isupRoundTripRow.holds Try.pinned (OpenSpec.ofChange isupRoundTripSpec)

/-- ITS FALSE NEIGHBOUR: 'it returns false'. Refute it at one input. -/
def isupRoundTripWrong : ChangeSpec := { name := "isupRoundTrip", fn := fun _ => fun
  | [d1, d2] => { results := [.lit (.bool false)], args := [d1, d2] }
  | _ => none }
def IsupRoundTripWrongFalsely : Prop := isupRoundTripRow.holds Try.pinned (OpenSpec.ofChange isupRoundTripWrong)

/-- 'crossbarlaw11.IsupRecognizesTruncation': WHATEVER THE INPUT: true; the input reads as it did. -/
def isupRecognizesTruncationSpec : ChangeSpec := { name := "isupRecognizesTruncation", fn := fun _ => fun
  | [d1, d2, d3] => { results := [.lit (.bool true)], args := [d1, d2, d3] }
  | _ => none }
def isupRecognizesTruncationRow : OpenClaim := { program := "ytmpjcpkfnjnejaa", sum := "f052e362b6bba1b96dcca86aeb6567d3a281cec14bfb1c62020315727f0b655c", func := "crossbar/crossbarlaw11.IsupRecognizesTruncation", spec := "isupRecognizesTruncation", unfollowed := true, recurses := true, apart := false }
def IsupRecognizesTruncationSaid : Prop := isupRecognizesTruncationRow.holds Try.pinned (OpenSpec.ofChange isupRecognizesTruncationSpec)

/-- ITS FALSE NEIGHBOUR: 'it returns false'. Refute it at one input. -/
def isupRecognizesTruncationWrong : ChangeSpec := { name := "isupRecognizesTruncation", fn := fun _ => fun
  | [d1, d2, d3] => { results := [.lit (.bool false)], args := [d1, d2, d3] }
  | _ => none }
def IsupRecognizesTruncationWrongFalsely : Prop := isupRecognizesTruncationRow.holds Try.pinned (OpenSpec.ofChange isupRecognizesTruncationWrong)

/-- 'crossbarlaw11.IsupInjective': WHATEVER THE INPUT: true; the input reads as it did. -/
def isupInjectiveSpec : ChangeSpec := { name := "isupInjective", fn := fun _ => fun
  | [d1, d2] => { results := [.lit (.bool true)], args := [d1, d2] }
  | _ => none }
def isupInjectiveRow : OpenClaim := { program := "ytmpjcpkfnjnejaa", sum := "f052e362b6bba1b96dcca86aeb6567d3a281cec14bfb1c62020315727f0b655c", func := "crossbar/crossbarlaw11.IsupInjective", spec := "isupInjective", unfollowed := true, recurses := true, apart := false }
def IsupInjectiveSaid : Prop := isupInjectiveRow.holds Try.pinned (OpenSpec.ofChange isupInjectiveSpec)

/-- ITS FALSE NEIGHBOUR: 'it returns false'. Refute it at one input. -/
def isupInjectiveWrong : ChangeSpec := { name := "isupInjective", fn := fun _ => fun
  | [d1, d2] => { results := [.lit (.bool false)], args := [d1, d2] }
  | _ => none }
def IsupInjectiveWrongFalsely : Prop := isupInjectiveRow.holds Try.pinned (OpenSpec.ofChange isupInjectiveWrong)

/-- 'crossbarlaw11.IsupAcknowledgementValid': WHATEVER THE INPUT: true; the input reads as it did. -/
def isupAcknowledgementValidSpec : ChangeSpec := { name := "isupAcknowledgementValid", fn := fun _ => fun
  | [d] => { results := [.lit (.bool true)], args := [d] }
  | _ => none }
def isupAcknowledgementValidRow : OpenClaim := { program := "ytmpjcpkfnjnejaa", sum := "f052e362b6bba1b96dcca86aeb6567d3a281cec14bfb1c62020315727f0b655c", func := "crossbar/crossbarlaw11.IsupAcknowledgementValid", spec := "isupAcknowledgementValid", unfollowed := true, recurses := true, apart := false }
def IsupAcknowledgementValidSaid : Prop := isupAcknowledgementValidRow.holds Try.pinned (OpenSpec.ofChange isupAcknowledgementValidSpec)

/-- ITS FALSE NEIGHBOUR: 'it returns false'. Refute it at one input. -/
def isupAcknowledgementValidWrong : ChangeSpec := { name := "isupAcknowledgementValid", fn := fun _ => fun
  | [d] => { results := [.lit (.bool false)], args := [d] }
  | _ => none }
def IsupAcknowledgementValidWrongFalsely : Prop := isupAcknowledgementValidRow.holds Try.pinned (OpenSpec.ofChange isupAcknowledgementValidWrong)

/-- 'crossbarlaw11.IsupRejectsForeignFields': WHATEVER THE INPUT: true; the input reads as it did. -/
def isupRejectsForeignFieldsSpec : ChangeSpec := { name := "isupRejectsForeignFields", fn := fun _ => fun
  | [d] => { results := [.lit (.bool true)], args := [d] }
  | _ => none }
def isupRejectsForeignFieldsRow : OpenClaim := { program := "ytmpjcpkfnjnejaa", sum := "f052e362b6bba1b96dcca86aeb6567d3a281cec14bfb1c62020315727f0b655c", func := "crossbar/crossbarlaw11.IsupRejectsForeignFields", spec := "isupRejectsForeignFields", unfollowed := true, recurses := true, apart := false }
def IsupRejectsForeignFieldsSaid : Prop := isupRejectsForeignFieldsRow.holds Try.pinned (OpenSpec.ofChange isupRejectsForeignFieldsSpec)

/-- ITS FALSE NEIGHBOUR: 'it returns false'. Refute it at one input. -/
def isupRejectsForeignFieldsWrong : ChangeSpec := { name := "isupRejectsForeignFields", fn := fun _ => fun
  | [d] => { results := [.lit (.bool false)], args := [d] }
  | _ => none }
def IsupRejectsForeignFieldsWrongFalsely : Prop := isupRejectsForeignFieldsRow.holds Try.pinned (OpenSpec.ofChange isupRejectsForeignFieldsWrong)

/-- 'crossbarlaw11.IsupFramedStream': WHATEVER THE INPUT: true; the input reads as it did. -/
def isupFramedStreamSpec : ChangeSpec := { name := "isupFramedStream", fn := fun _ => fun
  | [d] => { results := [.lit (.bool true)], args := [d] }
  | _ => none }
def isupFramedStreamRow : OpenClaim := { program := "ytmpjcpkfnjnejaa", sum := "f052e362b6bba1b96dcca86aeb6567d3a281cec14bfb1c62020315727f0b655c", func := "crossbar/crossbarlaw11.IsupFramedStream", spec := "isupFramedStream", inPlace := ["internal/bytealg.IndexByte"], unfollowed := true, recurses := true, apart := false }
def IsupFramedStreamSaid : Prop := isupFramedStreamRow.holds Try.pinned (OpenSpec.ofChange isupFramedStreamSpec)

/-- ITS FALSE NEIGHBOUR: 'it returns false'. Refute it at one input. -/
def isupFramedStreamWrong : ChangeSpec := { name := "isupFramedStream", fn := fun _ => fun
  | [d] => { results := [.lit (.bool false)], args := [d] }
  | _ => none }
def IsupFramedStreamWrongFalsely : Prop := isupFramedStreamRow.holds Try.pinned (OpenSpec.ofChange isupFramedStreamWrong)

/- THE SECOND FORM. 'bulk': how many values and letters a reading holds, each counted each time it is reached (what is shared counts as often as it is met; a slice's spare places count too). A statement '..UptoSaid' is the law's where the arguments, and the package variables that the reading takes, are together of bulk at most 1048576: NARROWER than '..Said'. Prove '..Said' where nothing that the law and all that it calls make is longer than what came in: it says more and counts as full. Else prove '..UptoSaid'. A law counts once. -/
mutual
def uptoBulk {H : Type} : DataW H → Nat
  | .lit (.string bytes) => bytes.length + 1
  | .lit _ => 1
  | .nil => 1
  | .ptr d => uptoBulk d + 1
  | .slice elems spare => uptoBulkAll elems + uptoBulkAll spare + 1
  | .agg parts => uptoBulkAll parts + 1
  | .iface _ d => uptoBulk d + 1
  | .map entries => uptoBulkEntries entries + 1
  | .held _ => 1
def uptoBulkAll {H : Type} : List (DataW H) → Nat
  | [] => 0
  | d :: r => uptoBulk d + uptoBulkAll r
def uptoBulkEntries {H : Type} : List (Lit × DataW H) → Nat
  | [] => 0
  | x :: r => uptoBulkEntry x + uptoBulkEntries r
def uptoBulkEntry {H : Type} : Lit × DataW H → Nat
  | (.string bytes, d) => bytes.length + uptoBulk d + 1
  | (_, d) => uptoBulk d + 1
 end
def uptoSmall : (H : Type) → List (DataW H) → Bool := fun _ ds => decide (uptoBulkAll ds ≤ 1048576)
def OpenSpec.upto (s : _root_.Go.ChangeSpec) : _root_.Go.OpenSpec := { _root_.Go.OpenSpec.ofChange s with cond := some uptoSmall }

/-- 'crossbarlaw11.IsupRoundTrip', WHERE WHAT IT READS IS OF BULK AT MOST 1048576: true; the input reads as it did. -/
def isupRoundTripUptoRow : OpenClaim := { program := "ytmpjcpkfnjnejaa", sum := "f052e362b6bba1b96dcca86aeb6567d3a281cec14bfb1c62020315727f0b655c", func := "crossbar/crossbarlaw11.IsupRoundTrip", spec := "isupRoundTrip", unfollowed := true, recurses := true, apart := false, narrowed := true }
def IsupRoundTripUptoSaid : Prop := isupRoundTripUptoRow.holds Try.pinned (OpenSpec.upto isupRoundTripSpec)

/-- 'crossbarlaw11.IsupRecognizesTruncation', WHERE WHAT IT READS IS OF BULK AT MOST 1048576: true; the input reads as it did. -/
def isupRecognizesTruncationUptoRow : OpenClaim := { program := "ytmpjcpkfnjnejaa", sum := "f052e362b6bba1b96dcca86aeb6567d3a281cec14bfb1c62020315727f0b655c", func := "crossbar/crossbarlaw11.IsupRecognizesTruncation", spec := "isupRecognizesTruncation", unfollowed := true, recurses := true, apart := false, narrowed := true }
def IsupRecognizesTruncationUptoSaid : Prop := isupRecognizesTruncationUptoRow.holds Try.pinned (OpenSpec.upto isupRecognizesTruncationSpec)

/-- 'crossbarlaw11.IsupInjective', WHERE WHAT IT READS IS OF BULK AT MOST 1048576: true; the input reads as it did. -/
def isupInjectiveUptoRow : OpenClaim := { program := "ytmpjcpkfnjnejaa", sum := "f052e362b6bba1b96dcca86aeb6567d3a281cec14bfb1c62020315727f0b655c", func := "crossbar/crossbarlaw11.IsupInjective", spec := "isupInjective", unfollowed := true, recurses := true, apart := false, narrowed := true }
def IsupInjectiveUptoSaid : Prop := isupInjectiveUptoRow.holds Try.pinned (OpenSpec.upto isupInjectiveSpec)

/-- 'crossbarlaw11.IsupAcknowledgementValid', WHERE WHAT IT READS IS OF BULK AT MOST 1048576: true; the input reads as it did. -/
def isupAcknowledgementValidUptoRow : OpenClaim := { program := "ytmpjcpkfnjnejaa", sum := "f052e362b6bba1b96dcca86aeb6567d3a281cec14bfb1c62020315727f0b655c", func := "crossbar/crossbarlaw11.IsupAcknowledgementValid", spec := "isupAcknowledgementValid", unfollowed := true, recurses := true, apart := false, narrowed := true }
def IsupAcknowledgementValidUptoSaid : Prop := isupAcknowledgementValidUptoRow.holds Try.pinned (OpenSpec.upto isupAcknowledgementValidSpec)

/-- 'crossbarlaw11.IsupRejectsForeignFields', WHERE WHAT IT READS IS OF BULK AT MOST 1048576: true; the input reads as it did. -/
def isupRejectsForeignFieldsUptoRow : OpenClaim := { program := "ytmpjcpkfnjnejaa", sum := "f052e362b6bba1b96dcca86aeb6567d3a281cec14bfb1c62020315727f0b655c", func := "crossbar/crossbarlaw11.IsupRejectsForeignFields", spec := "isupRejectsForeignFields", unfollowed := true, recurses := true, apart := false, narrowed := true }
def IsupRejectsForeignFieldsUptoSaid : Prop := isupRejectsForeignFieldsUptoRow.holds Try.pinned (OpenSpec.upto isupRejectsForeignFieldsSpec)

/-- 'crossbarlaw11.IsupFramedStream', WHERE WHAT IT READS IS OF BULK AT MOST 1048576: true; the input reads as it did. -/
def isupFramedStreamUptoRow : OpenClaim := { program := "ytmpjcpkfnjnejaa", sum := "f052e362b6bba1b96dcca86aeb6567d3a281cec14bfb1c62020315727f0b655c", func := "crossbar/crossbarlaw11.IsupFramedStream", spec := "isupFramedStream", inPlace := ["internal/bytealg.IndexByte"], unfollowed := true, recurses := true, apart := false, narrowed := true }
def IsupFramedStreamUptoSaid : Prop := isupFramedStreamUptoRow.holds Try.pinned (OpenSpec.upto isupFramedStreamSpec)

end Rows
end Go.Proofs.Ytmpjcpkfnjnejaa
