/-
  NARROWER THAN 'FOR EVERY INPUT', by the rows' own cells (each row's printed sentence says how): MergeTakes: loops.
  DERIVED. THE GIVEN ROWS OF THIS SEAT. 6 by the template 'for every input the law returns true; each argument reads behind the call as it read before'; 0 by the template 'total and deterministic' (their statements: YthldpihpjekleaaTotals.lean).
  GIVEN WITH THE SEED: the statements are not yours to turn. If you find one false, say at which input.
  Laid BY PROGRAM, IN A SANDBOX (cutbox-rows.mjs): the forced cells as the released guide's own fill.sh prints them over the translation af6462e574a9ef3f… (all of the seat's roots in one cut). By AI agents, Wed Nov 11 2026. No macro, syntax, notation, axiom, sorry.
-/
import Derived.Test.YthldpihpjekleaaChecked
import GoSem.Claim
import GoSem.ClaimJoined
import GoSem.ClaimMapViews
import Derived.JoinedTies
import Derived.KernelRfl
namespace Go.Proofs.Ythldpihpjekleaa
/- THE CELL 'sum', in the pinned program and in every row, IS THE sha256 OF THE DUMP (.gsa) THAT YthldpihpjekleaaProg.lean LOADS. Nothing in Lean hashes anything: it is a label: what it is worth is what the hold of that sum in a sandbox is worth. -/
noncomputable def Try.pinned : Pinned := { name := "ythldpihpjekleaa", sum := "af6462e574a9ef3f2b7da4b2e4eb3415a52ceadb5eba81cb6e4a7d53621038a7", checked := Try.checked }
namespace Rows
def none {H : Type} : Left H := { results := [], args := [] }

/-- 'ladderbacklaw09.CountRises': WHATEVER THE INPUT: true; the input reads as it did. -/
def countRisesSpec : ChangeSpec := { name := "countRises", fn := fun _ => fun
  | [d] => { results := [.lit (.bool true)], args := [d] }
  | _ => none }
def countRisesRow : OpenClaim := { program := "ythldpihpjekleaa", sum := "af6462e574a9ef3f2b7da4b2e4eb3415a52ceadb5eba81cb6e4a7d53621038a7", func := "ladderback/ladderbacklaw09.CountRises", spec := "countRises", unfollowed := true, recurses := true, apart := false }
def CountRisesSaid : Prop := countRisesRow.holds Try.pinned (OpenSpec.ofChange countRisesSpec)

/-- ITS FALSE NEIGHBOUR: 'it returns false'. Refute it at one input. -/
def countRisesWrong : ChangeSpec := { name := "countRises", fn := fun _ => fun
  | [d] => { results := [.lit (.bool false)], args := [d] }
  | _ => none }
def CountRisesWrongFalsely : Prop := countRisesRow.holds Try.pinned (OpenSpec.ofChange countRisesWrong)

/-- 'ladderbacklaw09.CountHolds': WHATEVER THE INPUT: true; the input reads as it did. -/
def countHoldsSpec : ChangeSpec := { name := "countHolds", fn := fun _ => fun
  | [d] => { results := [.lit (.bool true)], args := [d] }
  | _ => none }
def countHoldsRow : OpenClaim := { program := "ythldpihpjekleaa", sum := "af6462e574a9ef3f2b7da4b2e4eb3415a52ceadb5eba81cb6e4a7d53621038a7", func := "ladderback/ladderbacklaw09.CountHolds", spec := "countHolds", unfollowed := true, recurses := true, apart := false }
def CountHoldsSaid : Prop := countHoldsRow.holds Try.pinned (OpenSpec.ofChange countHoldsSpec)

/-- ITS FALSE NEIGHBOUR: 'it returns false'. Refute it at one input. -/
def countHoldsWrong : ChangeSpec := { name := "countHolds", fn := fun _ => fun
  | [d] => { results := [.lit (.bool false)], args := [d] }
  | _ => none }
def CountHoldsWrongFalsely : Prop := countHoldsRow.holds Try.pinned (OpenSpec.ofChange countHoldsWrong)

/-- 'ladderbacklaw08.TimerDelays': WHATEVER THE INPUT: true; the input reads as it did. -/
def timerDelaysSpec : ChangeSpec := { name := "timerDelays", fn := fun _ => fun
  | [d1, d2] => { results := [.lit (.bool true)], args := [d1, d2] }
  | _ => none }
def timerDelaysRow : OpenClaim := { program := "ythldpihpjekleaa", sum := "af6462e574a9ef3f2b7da4b2e4eb3415a52ceadb5eba81cb6e4a7d53621038a7", func := "ladderback/ladderbacklaw08.TimerDelays", spec := "timerDelays", apart := false }
def TimerDelaysSaid : Prop := timerDelaysRow.holds Try.pinned (OpenSpec.ofChange timerDelaysSpec)

/-- ITS FALSE NEIGHBOUR: 'it returns false'. Refute it at one input. -/
def timerDelaysWrong : ChangeSpec := { name := "timerDelays", fn := fun _ => fun
  | [d1, d2] => { results := [.lit (.bool false)], args := [d1, d2] }
  | _ => none }
def TimerDelaysWrongFalsely : Prop := timerDelaysRow.holds Try.pinned (OpenSpec.ofChange timerDelaysWrong)

/-- 'ladderbacklaw08.TimerPulses': WHATEVER THE INPUT: true; the input reads as it did. -/
def timerPulsesSpec : ChangeSpec := { name := "timerPulses", fn := fun _ => fun
  | [d1, d2] => { results := [.lit (.bool true)], args := [d1, d2] }
  | _ => none }
def timerPulsesRow : OpenClaim := { program := "ythldpihpjekleaa", sum := "af6462e574a9ef3f2b7da4b2e4eb3415a52ceadb5eba81cb6e4a7d53621038a7", func := "ladderback/ladderbacklaw08.TimerPulses", spec := "timerPulses", apart := false }
def TimerPulsesSaid : Prop := timerPulsesRow.holds Try.pinned (OpenSpec.ofChange timerPulsesSpec)

/-- ITS FALSE NEIGHBOUR: 'it returns false'. Refute it at one input. -/
def timerPulsesWrong : ChangeSpec := { name := "timerPulses", fn := fun _ => fun
  | [d1, d2] => { results := [.lit (.bool false)], args := [d1, d2] }
  | _ => none }
def TimerPulsesWrongFalsely : Prop := timerPulsesRow.holds Try.pinned (OpenSpec.ofChange timerPulsesWrong)

/-- 'ladderbacklaw36.MergeTakes': WHATEVER THE INPUT: true; the input reads as it did. -/
def mergeTakesSpec : ChangeSpec := { name := "mergeTakes", fn := fun _ => fun
  | [d] => { results := [.lit (.bool true)], args := [d] }
  | _ => none }
def mergeTakesRow : OpenClaim := { program := "ythldpihpjekleaa", sum := "af6462e574a9ef3f2b7da4b2e4eb3415a52ceadb5eba81cb6e4a7d53621038a7", func := "ladderback/ladderbacklaw36.MergeTakes", spec := "mergeTakes", unfollowed := true, recurses := true, loops := true, apart := false }
def MergeTakesSaid : Prop := mergeTakesRow.holds Try.pinned (OpenSpec.ofChange mergeTakesSpec)

/-- ITS FALSE NEIGHBOUR: 'it returns false'. Refute it at one input. -/
def mergeTakesWrong : ChangeSpec := { name := "mergeTakes", fn := fun _ => fun
  | [d] => { results := [.lit (.bool false)], args := [d] }
  | _ => none }
def MergeTakesWrongFalsely : Prop := mergeTakesRow.holds Try.pinned (OpenSpec.ofChange mergeTakesWrong)

/-- 'ladderbacklaw31.DomWalks': WHATEVER THE INPUT: true; the input reads as it did. -/
def domWalksSpec : ChangeSpec := { name := "domWalks", fn := fun _ => fun
  | [d1, d2, d3] => { results := [.lit (.bool true)], args := [d1, d2, d3] }
  | _ => none }
def domWalksRow : OpenClaim := { program := "ythldpihpjekleaa", sum := "af6462e574a9ef3f2b7da4b2e4eb3415a52ceadb5eba81cb6e4a7d53621038a7", func := "ladderback/ladderbacklaw31.DomWalks", spec := "domWalks", unfollowed := true, recurses := true, apart := false }
def DomWalksSaid : Prop := domWalksRow.holds Try.pinned (OpenSpec.ofChange domWalksSpec)

/-- ITS FALSE NEIGHBOUR: 'it returns false'. Refute it at one input. -/
def domWalksWrong : ChangeSpec := { name := "domWalks", fn := fun _ => fun
  | [d1, d2, d3] => { results := [.lit (.bool false)], args := [d1, d2, d3] }
  | _ => none }
def DomWalksWrongFalsely : Prop := domWalksRow.holds Try.pinned (OpenSpec.ofChange domWalksWrong)

/- THE SECOND FORM. 'bulk': how many values and letters a reading holds, each counted each time it is reached (what is shared counts as often as it is met; a slice's spare places count too). A statement '..UptoSaid' is the law's where the arguments, and the package variables that the reading takes, are together of bulk at most 1048576: NARROWER than '..Said'. Prove '..Said' where nothing that the law and all that it calls make is longer than what came in: it says more and counts as full. Else prove '..UptoSaid'. A law counts once. -/
mutual
def uptoBulk {H : Type} : DataW H → Nat
  | .lit (.string bytes) => bytes.length + 1
  | .lit _ => 1
  | .nil => 1
  | .ptr d => uptoBulk d + 1
  | .slice elems spare => uptoBulkAll elems + uptoBulkAll spare + 1
  | .agg parts => uptoBulkAll parts + 1
  | .iface _ d => uptoBulk d + 1
  | .map entries => uptoBulkEntries entries + 1
  | .held _ => 1
def uptoBulkAll {H : Type} : List (DataW H) → Nat
  | [] => 0
  | d :: r => uptoBulk d + uptoBulkAll r
def uptoBulkEntries {H : Type} : List (Lit × DataW H) → Nat
  | [] => 0
  | x :: r => uptoBulkEntry x + uptoBulkEntries r
def uptoBulkEntry {H : Type} : Lit × DataW H → Nat
  | (.string bytes, d) => bytes.length + uptoBulk d + 1
  | (_, d) => uptoBulk d + 1
 end
def uptoSmall : (H : Type) → List (DataW H) → Bool := fun _ ds => decide (uptoBulkAll ds ≤ 1048576)
def OpenSpec.upto (s : _root_.Go.ChangeSpec) : _root_.Go.OpenSpec := { _root_.Go.OpenSpec.ofChange s with cond := some uptoSmall }

/-- 'ladderbacklaw09.CountRises', WHERE WHAT IT READS IS OF BULK AT MOST 1048576: true; the input reads as it did. -/
def countRisesUptoRow : OpenClaim := { program := "ythldpihpjekleaa", sum := "af6462e574a9ef3f2b7da4b2e4eb3415a52ceadb5eba81cb6e4a7d53621038a7", func := "ladderback/ladderbacklaw09.CountRises", spec := "countRises", unfollowed := true, recurses := true, apart := false, narrowed := true }
def CountRisesUptoSaid : Prop := countRisesUptoRow.holds Try.pinned (OpenSpec.upto countRisesSpec)

/-- 'ladderbacklaw09.CountHolds', WHERE WHAT IT READS IS OF BULK AT MOST 1048576: true; the input reads as it did. -/
def countHoldsUptoRow : OpenClaim := { program := "ythldpihpjekleaa", sum := "af6462e574a9ef3f2b7da4b2e4eb3415a52ceadb5eba81cb6e4a7d53621038a7", func := "ladderback/ladderbacklaw09.CountHolds", spec := "countHolds", unfollowed := true, recurses := true, apart := false, narrowed := true }
def CountHoldsUptoSaid : Prop := countHoldsUptoRow.holds Try.pinned (OpenSpec.upto countHoldsSpec)

/-- 'ladderbacklaw08.TimerDelays', WHERE WHAT IT READS IS OF BULK AT MOST 1048576: true; the input reads as it did. -/
def timerDelaysUptoRow : OpenClaim := { program := "ythldpihpjekleaa", sum := "af6462e574a9ef3f2b7da4b2e4eb3415a52ceadb5eba81cb6e4a7d53621038a7", func := "ladderback/ladderbacklaw08.TimerDelays", spec := "timerDelays", apart := false, narrowed := true }
def TimerDelaysUptoSaid : Prop := timerDelaysUptoRow.holds Try.pinned (OpenSpec.upto timerDelaysSpec)

/-- 'ladderbacklaw08.TimerPulses', WHERE WHAT IT READS IS OF BULK AT MOST 1048576: true; the input reads as it did. -/
def timerPulsesUptoRow : OpenClaim := { program := "ythldpihpjekleaa", sum := "af6462e574a9ef3f2b7da4b2e4eb3415a52ceadb5eba81cb6e4a7d53621038a7", func := "ladderback/ladderbacklaw08.TimerPulses", spec := "timerPulses", apart := false, narrowed := true }
def TimerPulsesUptoSaid : Prop := timerPulsesUptoRow.holds Try.pinned (OpenSpec.upto timerPulsesSpec)

/-- 'ladderbacklaw36.MergeTakes', WHERE WHAT IT READS IS OF BULK AT MOST 1048576: true; the input reads as it did. -/
def mergeTakesUptoRow : OpenClaim := { program := "ythldpihpjekleaa", sum := "af6462e574a9ef3f2b7da4b2e4eb3415a52ceadb5eba81cb6e4a7d53621038a7", func := "ladderback/ladderbacklaw36.MergeTakes", spec := "mergeTakes", unfollowed := true, recurses := true, loops := true, apart := false, narrowed := true }
def MergeTakesUptoSaid : Prop := mergeTakesUptoRow.holds Try.pinned (OpenSpec.upto mergeTakesSpec)

/-- 'ladderbacklaw31.DomWalks', WHERE WHAT IT READS IS OF BULK AT MOST 1048576: true; the input reads as it did. -/
def domWalksUptoRow : OpenClaim := { program := "ythldpihpjekleaa", sum := "af6462e574a9ef3f2b7da4b2e4eb3415a52ceadb5eba81cb6e4a7d53621038a7", func := "ladderback/ladderbacklaw31.DomWalks", spec := "domWalks", unfollowed := true, recurses := true, apart := false, narrowed := true }
def DomWalksUptoSaid : Prop := domWalksUptoRow.holds Try.pinned (OpenSpec.upto domWalksSpec)

end Rows
end Go.Proofs.Ythldpihpjekleaa
