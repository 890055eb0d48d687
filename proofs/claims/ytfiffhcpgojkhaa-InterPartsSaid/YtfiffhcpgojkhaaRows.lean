/-
  No cell of these rows narrows 'for every input' (looked for: loops, veiled, ifaces, maps, wideKeys, modest, calm, conditions, laid).
  DERIVED. THE GIVEN ROWS OF THIS SEAT. 10 by the template 'for every input the law returns true; each argument reads behind the call as it read before'; 0 by the template 'total and deterministic' (their statements: YtfiffhcpgojkhaaTotals.lean).
  GIVEN WITH THE SEED: the statements are not yours to turn. If you find one false, say at which input.
  Laid BY PROGRAM, IN A SANDBOX (cutbox-rows.mjs): the forced cells as the released guide's own fill.sh prints them over the translation 7cc77c47218a6499… (all of the seat's roots in one cut). By AI agents, Wed Nov 11 2026. No macro, syntax, notation, axiom, sorry.
-/
import Derived.Test.YtfiffhcpgojkhaaChecked
import GoSem.Claim
import GoSem.ClaimJoined
import GoSem.ClaimMapViews
import Derived.JoinedTies
import Derived.KernelRfl
namespace Go.Proofs.Ytfiffhcpgojkhaa
/- THE CELL 'sum', in the pinned program and in every row, IS THE sha256 OF THE DUMP (.gsa) THAT YtfiffhcpgojkhaaProg.lean LOADS. Nothing in Lean hashes anything: it is a label: what it is worth is what the hold of that sum in a sandbox is worth. -/
noncomputable def Try.pinned : Pinned := { name := "ytfiffhcpgojkhaa", sum := "7cc77c47218a649910bd779a543dd67df5204d47369391384033ade1d5761fdd", checked := Try.checked }
namespace Rows
def none {H : Type} : Left H := { results := [], args := [] }

/-- 'ladderbacklaw32.PdomNext': WHATEVER THE INPUT: true; the input reads as it did. -/
def pdomNextSpec : ChangeSpec := { name := "pdomNext", fn := fun _ => fun
  | [d1, d2] => { results := [.lit (.bool true)], args := [d1, d2] }
  | _ => none }
def pdomNextRow : OpenClaim := { program := "ytfiffhcpgojkhaa", sum := "7cc77c47218a649910bd779a543dd67df5204d47369391384033ade1d5761fdd", func := "ladderback/ladderbacklaw32.PdomNext", spec := "pdomNext", unfollowed := true, recurses := true, apart := false }
def PdomNextSaid : Prop := pdomNextRow.holds Try.pinned (OpenSpec.ofChange pdomNextSpec)

/-- ITS FALSE NEIGHBOUR: 'it returns false'. Refute it at one input. -/
def pdomNextWrong : ChangeSpec := { name := "pdomNext", fn := fun _ => fun
  | [d1, d2] => { results := [.lit (.bool false)], args := [d1, d2] }
  | _ => none }
def PdomNextWrongFalsely : Prop := pdomNextRow.holds Try.pinned (OpenSpec.ofChange pdomNextWrong)

/-- 'ladderbacklaw30.FlowMeets': WHATEVER THE INPUT: true; the input reads as it did. -/
def flowMeetsSpec : ChangeSpec := { name := "flowMeets", fn := fun _ => fun
  | [d1, d2] => { results := [.lit (.bool true)], args := [d1, d2] }
  | _ => none }
def flowMeetsRow : OpenClaim := { program := "ytfiffhcpgojkhaa", sum := "7cc77c47218a649910bd779a543dd67df5204d47369391384033ade1d5761fdd", func := "ladderback/ladderbacklaw30.FlowMeets", spec := "flowMeets", recurses := true, apart := false }
def FlowMeetsSaid : Prop := flowMeetsRow.holds Try.pinned (OpenSpec.ofChange flowMeetsSpec)

/-- ITS FALSE NEIGHBOUR: 'it returns false'. Refute it at one input. -/
def flowMeetsWrong : ChangeSpec := { name := "flowMeets", fn := fun _ => fun
  | [d1, d2] => { results := [.lit (.bool false)], args := [d1, d2] }
  | _ => none }
def FlowMeetsWrongFalsely : Prop := flowMeetsRow.holds Try.pinned (OpenSpec.ofChange flowMeetsWrong)

/-- 'ladderbacklaw30.FlowCovers': WHATEVER THE INPUT: true; the input reads as it did. -/
def flowCoversSpec : ChangeSpec := { name := "flowCovers", fn := fun _ => fun
  | [d] => { results := [.lit (.bool true)], args := [d] }
  | _ => none }
def flowCoversRow : OpenClaim := { program := "ytfiffhcpgojkhaa", sum := "7cc77c47218a649910bd779a543dd67df5204d47369391384033ade1d5761fdd", func := "ladderback/ladderbacklaw30.FlowCovers", spec := "flowCovers", recurses := true, apart := false }
def FlowCoversSaid : Prop := flowCoversRow.holds Try.pinned (OpenSpec.ofChange flowCoversSpec)

/-- ITS FALSE NEIGHBOUR: 'it returns false'. Refute it at one input. -/
def flowCoversWrong : ChangeSpec := { name := "flowCovers", fn := fun _ => fun
  | [d] => { results := [.lit (.bool false)], args := [d] }
  | _ => none }
def FlowCoversWrongFalsely : Prop := flowCoversRow.holds Try.pinned (OpenSpec.ofChange flowCoversWrong)

/-- 'ladderbacklaw30.FlowBlocks': WHATEVER THE INPUT: true; the input reads as it did. -/
def flowBlocksSpec : ChangeSpec := { name := "flowBlocks", fn := fun _ => fun
  | [d] => { results := [.lit (.bool true)], args := [d] }
  | _ => none }
def flowBlocksRow : OpenClaim := { program := "ytfiffhcpgojkhaa", sum := "7cc77c47218a649910bd779a543dd67df5204d47369391384033ade1d5761fdd", func := "ladderback/ladderbacklaw30.FlowBlocks", spec := "flowBlocks", recurses := true, apart := false }
def FlowBlocksSaid : Prop := flowBlocksRow.holds Try.pinned (OpenSpec.ofChange flowBlocksSpec)

/-- ITS FALSE NEIGHBOUR: 'it returns false'. Refute it at one input. -/
def flowBlocksWrong : ChangeSpec := { name := "flowBlocks", fn := fun _ => fun
  | [d] => { results := [.lit (.bool false)], args := [d] }
  | _ => none }
def FlowBlocksWrongFalsely : Prop := flowBlocksRow.holds Try.pinned (OpenSpec.ofChange flowBlocksWrong)

/-- 'ladderbacklaw20.TypingBehind': WHATEVER THE INPUT: true; the input reads as it did. -/
def typingBehindSpec : ChangeSpec := { name := "typingBehind", fn := fun _ => fun
  | [d1, d2] => { results := [.lit (.bool true)], args := [d1, d2] }
  | _ => none }
def typingBehindRow : OpenClaim := { program := "ytfiffhcpgojkhaa", sum := "7cc77c47218a649910bd779a543dd67df5204d47369391384033ade1d5761fdd", func := "ladderback/ladderbacklaw20.TypingBehind", spec := "typingBehind", recurses := true, apart := false }
def TypingBehindSaid : Prop := typingBehindRow.holds Try.pinned (OpenSpec.ofChange typingBehindSpec)

/-- ITS FALSE NEIGHBOUR: 'it returns false'. Refute it at one input. -/
def typingBehindWrong : ChangeSpec := { name := "typingBehind", fn := fun _ => fun
  | [d1, d2] => { results := [.lit (.bool false)], args := [d1, d2] }
  | _ => none }
def TypingBehindWrongFalsely : Prop := typingBehindRow.holds Try.pinned (OpenSpec.ofChange typingBehindWrong)

/-- 'ladderbacklaw21.CallsTell': WHATEVER THE INPUT: true; the input reads as it did. -/
def callsTellSpec : ChangeSpec := { name := "callsTell", fn := fun _ => fun
  | [d1, d2] => { results := [.lit (.bool true)], args := [d1, d2] }
  | _ => none }
def callsTellRow : OpenClaim := { program := "ytfiffhcpgojkhaa", sum := "7cc77c47218a649910bd779a543dd67df5204d47369391384033ade1d5761fdd", func := "ladderback/ladderbacklaw21.CallsTell", spec := "callsTell", recurses := true, apart := false }
def CallsTellSaid : Prop := callsTellRow.holds Try.pinned (OpenSpec.ofChange callsTellSpec)

/-- ITS FALSE NEIGHBOUR: 'it returns false'. Refute it at one input. -/
def callsTellWrong : ChangeSpec := { name := "callsTell", fn := fun _ => fun
  | [d1, d2] => { results := [.lit (.bool false)], args := [d1, d2] }
  | _ => none }
def CallsTellWrongFalsely : Prop := callsTellRow.holds Try.pinned (OpenSpec.ofChange callsTellWrong)

/-- 'ladderbacklaw21.CallsCircle': WHATEVER THE INPUT: true; the input reads as it did. -/
def callsCircleSpec : ChangeSpec := { name := "callsCircle", fn := fun _ => fun
  | [d] => { results := [.lit (.bool true)], args := [d] }
  | _ => none }
def callsCircleRow : OpenClaim := { program := "ytfiffhcpgojkhaa", sum := "7cc77c47218a649910bd779a543dd67df5204d47369391384033ade1d5761fdd", func := "ladderback/ladderbacklaw21.CallsCircle", spec := "callsCircle", recurses := true, apart := false }
def CallsCircleSaid : Prop := callsCircleRow.holds Try.pinned (OpenSpec.ofChange callsCircleSpec)

/-- ITS FALSE NEIGHBOUR: 'it returns false'. Refute it at one input. -/
def callsCircleWrong : ChangeSpec := { name := "callsCircle", fn := fun _ => fun
  | [d] => { results := [.lit (.bool false)], args := [d] }
  | _ => none }
def CallsCircleWrongFalsely : Prop := callsCircleRow.holds Try.pinned (OpenSpec.ofChange callsCircleWrong)

/-- 'ladderbacklaw34.InterParts': WHATEVER THE INPUT: true; the input reads as it did. -/
def interPartsSpec : ChangeSpec := { name := "interParts", fn := fun _ => fun
  | [d] => { results := [.lit (.bool true)], args := [d] }
  | _ => none }
def interPartsRow : OpenClaim := { program := "ytfiffhcpgojkhaa", sum := "7cc77c47218a649910bd779a543dd67df5204d47369391384033ade1d5761fdd", func := "ladderback/ladderbacklaw34.InterParts", spec := "interParts", unfollowed := true, recurses := true, apart := false }
def InterPartsSaid : Prop := interPartsRow.holds Try.pinned (OpenSpec.ofChange interPartsSpec)

/-- ITS FALSE NEIGHBOUR: 'it returns false'. Refute it at one input. -/
def interPartsWrong : ChangeSpec := { name := "interParts", fn := fun _ => fun
  | [d] => { results := [.lit (.bool false)], args := [d] }
  | _ => none }
def InterPartsWrongFalsely : Prop := interPartsRow.holds Try.pinned (OpenSpec.ofChange interPartsWrong)

/-- 'ladderbacklaw34.InterReduces': WHATEVER THE INPUT: true; the input reads as it did. -/
def interReducesSpec : ChangeSpec := { name := "interReduces", fn := fun _ => fun
  | [d] => { results := [.lit (.bool true)], args := [d] }
  | _ => none }
def interReducesRow : OpenClaim := { program := "ytfiffhcpgojkhaa", sum := "7cc77c47218a649910bd779a543dd67df5204d47369391384033ade1d5761fdd", func := "ladderback/ladderbacklaw34.InterReduces", spec := "interReduces", unfollowed := true, recurses := true, apart := false }
def InterReducesSaid : Prop := interReducesRow.holds Try.pinned (OpenSpec.ofChange interReducesSpec)

/-- ITS FALSE NEIGHBOUR: 'it returns false'. Refute it at one input. -/
def interReducesWrong : ChangeSpec := { name := "interReduces", fn := fun _ => fun
  | [d] => { results := [.lit (.bool false)], args := [d] }
  | _ => none }
def InterReducesWrongFalsely : Prop := interReducesRow.holds Try.pinned (OpenSpec.ofChange interReducesWrong)

/-- 'ladderbacklaw34.InterOnce': WHATEVER THE INPUT: true; the input reads as it did. -/
def interOnceSpec : ChangeSpec := { name := "interOnce", fn := fun _ => fun
  | [d] => { results := [.lit (.bool true)], args := [d] }
  | _ => none }
def interOnceRow : OpenClaim := { program := "ytfiffhcpgojkhaa", sum := "7cc77c47218a649910bd779a543dd67df5204d47369391384033ade1d5761fdd", func := "ladderback/ladderbacklaw34.InterOnce", spec := "interOnce", unfollowed := true, recurses := true, apart := false }
def InterOnceSaid : Prop := interOnceRow.holds Try.pinned (OpenSpec.ofChange interOnceSpec)

/-- ITS FALSE NEIGHBOUR: 'it returns false'. Refute it at one input. -/
def interOnceWrong : ChangeSpec := { name := "interOnce", fn := fun _ => fun
  | [d] => { results := [.lit (.bool false)], args := [d] }
  | _ => none }
def InterOnceWrongFalsely : Prop := interOnceRow.holds Try.pinned (OpenSpec.ofChange interOnceWrong)

/- THE SECOND FORM. 'bulk': how many values and letters a reading holds, each counted each time it is reached (what is shared counts as often as it is met; a slice's spare places count too). A statement '..UptoSaid' is the law's where the arguments, and the package variables that the reading takes, are together of bulk at most 1048576: NARROWER than '..Said'. Prove '..Said' where nothing that the law and all that it calls make is longer than what came in: it says more and counts as full. Else prove '..UptoSaid'. A law counts once. -/
mutual
def uptoBulk {H : Type} : DataW H → Nat
  | .lit (.string bytes) => bytes.length + 1
  | .lit _ => 1
  | .nil => 1
  | .ptr d => uptoBulk d + 1
  | .slice elems spare => uptoBulkAll elems + uptoBulkAll spare + 1
  | .agg parts => uptoBulkAll parts + 1
  | .iface _ d => uptoBulk d + 1
  | .map entries => uptoBulkEntries entries + 1
  | .held _ => 1
def uptoBulkAll {H : Type} : List (DataW H) → Nat
  | [] => 0
  | d :: r => uptoBulk d + uptoBulkAll r
def uptoBulkEntries {H : Type} : List (Lit × DataW H) → Nat
  | [] => 0
  | x :: r => uptoBulkEntry x + uptoBulkEntries r
def uptoBulkEntry {H : Type} : Lit × DataW H → Nat
  | (.string bytes, d) => bytes.length + uptoBulk d + 1
  | (_, d) => uptoBulk d + 1
 end
def uptoSmall : (H : Type) → List (DataW H) → Bool := fun _ ds => decide (uptoBulkAll ds ≤ 1048576)
def OpenSpec.upto (s : _root_.Go.ChangeSpec) : _root_.Go.OpenSpec := { _root_.Go.OpenSpec.ofChange s with cond := some uptoSmall }

/-- 'ladderbacklaw32.PdomNext', WHERE WHAT IT READS IS OF BULK AT MOST 1048576: true; the input reads as it did. -/
def pdomNextUptoRow : OpenClaim := { program := "ytfiffhcpgojkhaa", sum := "7cc77c47218a649910bd779a543dd67df5204d47369391384033ade1d5761fdd", func := "ladderback/ladderbacklaw32.PdomNext", spec := "pdomNext", unfollowed := true, recurses := true, apart := false, narrowed := true }
def PdomNextUptoSaid : Prop := pdomNextUptoRow.holds Try.pinned (OpenSpec.upto pdomNextSpec)

/-- 'ladderbacklaw30.FlowMeets', WHERE WHAT IT READS IS OF BULK AT MOST 1048576: true; the input reads as it did. -/
def flowMeetsUptoRow : OpenClaim := { program := "ytfiffhcpgojkhaa", sum := "7cc77c47218a649910bd779a543dd67df5204d47369391384033ade1d5761fdd", func := "ladderback/ladderbacklaw30.FlowMeets", spec := "flowMeets", recurses := true, apart := false, narrowed := true }
def FlowMeetsUptoSaid : Prop := flowMeetsUptoRow.holds Try.pinned (OpenSpec.upto flowMeetsSpec)

/-- 'ladderbacklaw30.FlowCovers', WHERE WHAT IT READS IS OF BULK AT MOST 1048576: true; the input reads as it did. -/
def flowCoversUptoRow : OpenClaim := { program := "ytfiffhcpgojkhaa", sum := "7cc77c47218a649910bd779a543dd67df5204d47369391384033ade1d5761fdd", func := "ladderback/ladderbacklaw30.FlowCovers", spec := "flowCovers", recurses := true, apart := false, narrowed := true }
def FlowCoversUptoSaid : Prop := flowCoversUptoRow.holds Try.pinned (OpenSpec.upto flowCoversSpec)

/-- 'ladderbacklaw30.FlowBlocks', WHERE WHAT IT READS IS OF BULK AT MOST 1048576: true; the input reads as it did. -/
def flowBlocksUptoRow : OpenClaim := { program := "ytfiffhcpgojkhaa", sum := "7cc77c47218a649910bd779a543dd67df5204d47369391384033ade1d5761fdd", func := "ladderback/ladderbacklaw30.FlowBlocks", spec := "flowBlocks", recurses := true, apart := false, narrowed := true }
def FlowBlocksUptoSaid : Prop := flowBlocksUptoRow.holds Try.pinned (OpenSpec.upto flowBlocksSpec)

/-- 'ladderbacklaw20.TypingBehind', WHERE WHAT IT READS IS OF BULK AT MOST 1048576: true; the input reads as it did. -/
def typingBehindUptoRow : OpenClaim := { program := "ytfiffhcpgojkhaa", sum := "7cc77c47218a649910bd779a543dd67df5204d47369391384033ade1d5761fdd", func := "ladderback/ladderbacklaw20.TypingBehind", spec := "typingBehind", recurses := true, apart := false, narrowed := true }
def TypingBehindUptoSaid : Prop := typingBehindUptoRow.holds Try.pinned (OpenSpec.upto typingBehindSpec)

/-- 'ladderbacklaw21.CallsTell', WHERE WHAT IT READS IS OF BULK AT MOST 1048576: true; the input reads as it did. -/
def callsTellUptoRow : OpenClaim := { program := "ytfiffhcpgojkhaa", sum := "7cc77c47218a649910bd779a543dd67df5204d47369391384033ade1d5761fdd", func := "ladderback/ladderbacklaw21.CallsTell", spec := "callsTell", recurses := true, apart := false, narrowed := true }
def CallsTellUptoSaid : Prop := callsTellUptoRow.holds Try.pinned (OpenSpec.upto callsTellSpec)

/-- 'ladderbacklaw21.CallsCircle', WHERE WHAT IT READS IS OF BULK AT MOST 1048576: true; the input reads as it did. -/
def callsCircleUptoRow : OpenClaim := { program := "ytfiffhcpgojkhaa", sum := "7cc77c47218a649910bd779a543dd67df5204d47369391384033ade1d5761fdd", func := "ladderback/ladderbacklaw21.CallsCircle", spec := "callsCircle", recurses := true, apart := false, narrowed := true }
def CallsCircleUptoSaid : Prop := callsCircleUptoRow.holds Try.pinned (OpenSpec.upto callsCircleSpec)

/-- 'ladderbacklaw34.InterParts', WHERE WHAT IT READS IS OF BULK AT MOST 1048576: true; the input reads as it did. -/
def interPartsUptoRow : OpenClaim := { program := "ytfiffhcpgojkhaa", sum := "7cc77c47218a649910bd779a543dd67df5204d47369391384033ade1d5761fdd", func := "ladderback/ladderbacklaw34.InterParts", spec := "interParts", unfollowed := true, recurses := true, apart := false, narrowed := true }
def InterPartsUptoSaid : Prop := interPartsUptoRow.holds Try.pinned (OpenSpec.upto interPartsSpec)

/-- 'ladderbacklaw34.InterReduces', WHERE WHAT IT READS IS OF BULK AT MOST 1048576: true; the input reads as it did. -/
def interReducesUptoRow : OpenClaim := { program := "ytfiffhcpgojkhaa", sum := "7cc77c47218a649910bd779a543dd67df5204d47369391384033ade1d5761fdd", func := "ladderback/ladderbacklaw34.InterReduces", spec := "interReduces", unfollowed := true, recurses := true, apart := false, narrowed := true }
def InterReducesUptoSaid : Prop := interReducesUptoRow.holds Try.pinned (OpenSpec.upto interReducesSpec)

/-- 'ladderbacklaw34.InterOnce', WHERE WHAT IT READS IS OF BULK AT MOST 1048576: true; the input reads as it did. -/
def interOnceUptoRow : OpenClaim := { program := "ytfiffhcpgojkhaa", sum := "7cc77c47218a649910bd779a543dd67df5204d47369391384033ade1d5761fdd", func := "ladderback/ladderbacklaw34.InterOnce", spec := "interOnce", unfollowed := true, recurses := true, apart := false, narrowed := true }
def InterOnceUptoSaid : Prop := interOnceUptoRow.holds Try.pinned (OpenSpec.upto interOnceSpec)

end Rows
end Go.Proofs.Ytfiffhcpgojkhaa
