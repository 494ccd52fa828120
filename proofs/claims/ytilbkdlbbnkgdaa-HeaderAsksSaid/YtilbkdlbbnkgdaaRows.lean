/-
  No cell of these rows narrows 'for every input' (looked for: loops, veiled, ifaces, maps, wideKeys, modest, calm, conditions, laid).
  DERIVED. THE GIVEN ROWS OF THIS SEAT. 12 by the template 'for every input the law returns true; each argument reads behind the call as it read before'; 0 by the template 'total and deterministic' (their statements: YtilbkdlbbnkgdaaTotals.lean).
  GIVEN WITH THE SEED: the statements are not yours to turn. If you find one false, say at which input.
  Laid BY PROGRAM, IN A SANDBOX (cutbox-rows.mjs): the forced cells as the released guide's own fill.sh prints them over the translation d9328f089f6b95b0… (all of the seat's roots in one cut). By AI agents, Wed Nov 11 2026. No macro, syntax, notation, axiom, sorry.
-/
import Derived.Test.YtilbkdlbbnkgdaaChecked
import GoSem.Claim
import GoSem.ClaimJoined
import GoSem.ClaimMapViews
import Derived.JoinedTies
import Derived.KernelRfl
namespace Go.Proofs.Ytilbkdlbbnkgdaa
/- THE CELL 'sum', in the pinned program and in every row, IS THE sha256 OF THE DUMP (.gsa) THAT YtilbkdlbbnkgdaaProg.lean LOADS. Nothing in Lean hashes anything: it is a label: what it is worth is what the hold of that sum in a sandbox is worth. -/
noncomputable def Try.pinned : Pinned := { name := "ytilbkdlbbnkgdaa", sum := "d9328f089f6b95b03c6e084c4b0038d8bb9558df2f111aefcff4b3b7061384f0", checked := Try.checked }
namespace Rows
def none {H : Type} : Left H := { results := [], args := [] }

/-- 'analemmalaw04.EraShort': WHATEVER THE INPUT: true; the input reads as it did. -/
def eraShortSpec : ChangeSpec := { name := "eraShort", fn := fun _ => fun
  | [d1, d2] => { results := [.lit (.bool true)], args := [d1, d2] }
  | _ => none }
def eraShortRow : OpenClaim := { program := "ytilbkdlbbnkgdaa", sum := "d9328f089f6b95b03c6e084c4b0038d8bb9558df2f111aefcff4b3b7061384f0", func := "analemma/analemmalaw04.EraShort", spec := "eraShort", apart := false }
def EraShortSaid : Prop := eraShortRow.holds Try.pinned (OpenSpec.ofChange eraShortSpec)

/-- ITS FALSE NEIGHBOUR: 'it returns false'. Refute it at one input. -/
def eraShortWrong : ChangeSpec := { name := "eraShort", fn := fun _ => fun
  | [d1, d2] => { results := [.lit (.bool false)], args := [d1, d2] }
  | _ => none }
def EraShortWrongFalsely : Prop := eraShortRow.holds Try.pinned (OpenSpec.ofChange eraShortWrong)

/-- 'analemmalaw04.EraBack': WHATEVER THE INPUT: true; the input reads as it did. -/
def eraBackSpec : ChangeSpec := { name := "eraBack", fn := fun _ => fun
  | [d1, d2, d3] => { results := [.lit (.bool true)], args := [d1, d2, d3] }
  | _ => none }
def eraBackRow : OpenClaim := { program := "ytilbkdlbbnkgdaa", sum := "d9328f089f6b95b03c6e084c4b0038d8bb9558df2f111aefcff4b3b7061384f0", func := "analemma/analemmalaw04.EraBack", spec := "eraBack", apart := false }
def EraBackSaid : Prop := eraBackRow.holds Try.pinned (OpenSpec.ofChange eraBackSpec)

/-- ITS FALSE NEIGHBOUR: 'it returns false'. Refute it at one input. -/
def eraBackWrong : ChangeSpec := { name := "eraBack", fn := fun _ => fun
  | [d1, d2, d3] => { results := [.lit (.bool false)], args := [d1, d2, d3] }
  | _ => none }
def EraBackWrongFalsely : Prop := eraBackRow.holds Try.pinned (OpenSpec.ofChange eraBackWrong)

/-- 'analemmalaw04.EraTells': WHATEVER THE INPUT: true; the input reads as it did. -/
def eraTellsSpec : ChangeSpec := { name := "eraTells", fn := fun _ => fun
  | [d1, d2, d3, d4] => { results := [.lit (.bool true)], args := [d1, d2, d3, d4] }
  | _ => none }
def eraTellsRow : OpenClaim := { program := "ytilbkdlbbnkgdaa", sum := "d9328f089f6b95b03c6e084c4b0038d8bb9558df2f111aefcff4b3b7061384f0", func := "analemma/analemmalaw04.EraTells", spec := "eraTells", apart := false }
def EraTellsSaid : Prop := eraTellsRow.holds Try.pinned (OpenSpec.ofChange eraTellsSpec)

/-- ITS FALSE NEIGHBOUR: 'it returns false'. Refute it at one input. -/
def eraTellsWrong : ChangeSpec := { name := "eraTells", fn := fun _ => fun
  | [d1, d2, d3, d4] => { results := [.lit (.bool false)], args := [d1, d2, d3, d4] }
  | _ => none }
def EraTellsWrongFalsely : Prop := eraTellsRow.holds Try.pinned (OpenSpec.ofChange eraTellsWrong)

/-- 'analemmalaw04.EraSteps': WHATEVER THE INPUT: true; the input reads as it did. -/
def eraStepsSpec : ChangeSpec := { name := "eraSteps", fn := fun _ => fun
  | [d1, d2, d3] => { results := [.lit (.bool true)], args := [d1, d2, d3] }
  | _ => none }
def eraStepsRow : OpenClaim := { program := "ytilbkdlbbnkgdaa", sum := "d9328f089f6b95b03c6e084c4b0038d8bb9558df2f111aefcff4b3b7061384f0", func := "analemma/analemmalaw04.EraSteps", spec := "eraSteps", apart := false }
def EraStepsSaid : Prop := eraStepsRow.holds Try.pinned (OpenSpec.ofChange eraStepsSpec)

/-- ITS FALSE NEIGHBOUR: 'it returns false'. Refute it at one input. -/
def eraStepsWrong : ChangeSpec := { name := "eraSteps", fn := fun _ => fun
  | [d1, d2, d3] => { results := [.lit (.bool false)], args := [d1, d2, d3] }
  | _ => none }
def EraStepsWrongFalsely : Prop := eraStepsRow.holds Try.pinned (OpenSpec.ofChange eraStepsWrong)

/-- 'analemmalaw04.EraNearest': WHATEVER THE INPUT: true; the input reads as it did. -/
def eraNearestSpec : ChangeSpec := { name := "eraNearest", fn := fun _ => fun
  | [d1, d2] => { results := [.lit (.bool true)], args := [d1, d2] }
  | _ => none }
def eraNearestRow : OpenClaim := { program := "ytilbkdlbbnkgdaa", sum := "d9328f089f6b95b03c6e084c4b0038d8bb9558df2f111aefcff4b3b7061384f0", func := "analemma/analemmalaw04.EraNearest", spec := "eraNearest", apart := false }
def EraNearestSaid : Prop := eraNearestRow.holds Try.pinned (OpenSpec.ofChange eraNearestSpec)

/-- ITS FALSE NEIGHBOUR: 'it returns false'. Refute it at one input. -/
def eraNearestWrong : ChangeSpec := { name := "eraNearest", fn := fun _ => fun
  | [d1, d2] => { results := [.lit (.bool false)], args := [d1, d2] }
  | _ => none }
def EraNearestWrongFalsely : Prop := eraNearestRow.holds Try.pinned (OpenSpec.ofChange eraNearestWrong)

/-- 'analemmalaw04.EraPrecise': WHATEVER THE INPUT: true; the input reads as it did. -/
def eraPreciseSpec : ChangeSpec := { name := "eraPrecise", fn := fun _ => fun
  | [d] => { results := [.lit (.bool true)], args := [d] }
  | _ => none }
def eraPreciseRow : OpenClaim := { program := "ytilbkdlbbnkgdaa", sum := "d9328f089f6b95b03c6e084c4b0038d8bb9558df2f111aefcff4b3b7061384f0", func := "analemma/analemmalaw04.EraPrecise", spec := "eraPrecise", apart := false }
def EraPreciseSaid : Prop := eraPreciseRow.holds Try.pinned (OpenSpec.ofChange eraPreciseSpec)

/-- ITS FALSE NEIGHBOUR: 'it returns false'. Refute it at one input. -/
def eraPreciseWrong : ChangeSpec := { name := "eraPrecise", fn := fun _ => fun
  | [d] => { results := [.lit (.bool false)], args := [d] }
  | _ => none }
def EraPreciseWrongFalsely : Prop := eraPreciseRow.holds Try.pinned (OpenSpec.ofChange eraPreciseWrong)

/-- 'analemmalaw05.HeaderEncodes': WHATEVER THE INPUT: true; the input reads as it did. -/
def headerEncodesSpec : ChangeSpec := { name := "headerEncodes", fn := fun _ => fun
  | [d] => { results := [.lit (.bool true)], args := [d] }
  | _ => none }
def headerEncodesRow : OpenClaim := { program := "ytilbkdlbbnkgdaa", sum := "d9328f089f6b95b03c6e084c4b0038d8bb9558df2f111aefcff4b3b7061384f0", func := "analemma/analemmalaw05.HeaderEncodes", spec := "headerEncodes", unfollowed := true, recurses := true, apart := false }
def HeaderEncodesSaid : Prop := headerEncodesRow.holds Try.pinned (OpenSpec.ofChange headerEncodesSpec)

/-- ITS FALSE NEIGHBOUR: 'it returns false'. Refute it at one input. -/
def headerEncodesWrong : ChangeSpec := { name := "headerEncodes", fn := fun _ => fun
  | [d] => { results := [.lit (.bool false)], args := [d] }
  | _ => none }
def HeaderEncodesWrongFalsely : Prop := headerEncodesRow.holds Try.pinned (OpenSpec.ofChange headerEncodesWrong)

/-- 'analemmalaw05.HeaderDecodes': WHATEVER THE INPUT: true; the input reads as it did. -/
def headerDecodesSpec : ChangeSpec := { name := "headerDecodes", fn := fun _ => fun
  | [d] => { results := [.lit (.bool true)], args := [d] }
  | _ => none }
def headerDecodesRow : OpenClaim := { program := "ytilbkdlbbnkgdaa", sum := "d9328f089f6b95b03c6e084c4b0038d8bb9558df2f111aefcff4b3b7061384f0", func := "analemma/analemmalaw05.HeaderDecodes", spec := "headerDecodes", unfollowed := true, recurses := true, apart := false }
def HeaderDecodesSaid : Prop := headerDecodesRow.holds Try.pinned (OpenSpec.ofChange headerDecodesSpec)

/-- ITS FALSE NEIGHBOUR: 'it returns false'. Refute it at one input. -/
def headerDecodesWrong : ChangeSpec := { name := "headerDecodes", fn := fun _ => fun
  | [d] => { results := [.lit (.bool false)], args := [d] }
  | _ => none }
def HeaderDecodesWrongFalsely : Prop := headerDecodesRow.holds Try.pinned (OpenSpec.ofChange headerDecodesWrong)

/-- 'analemmalaw05.HeaderApart': WHATEVER THE INPUT: true; the input reads as it did. -/
def headerApartSpec : ChangeSpec := { name := "headerApart", fn := fun _ => fun
  | [d1, d2, d3, d4] => { results := [.lit (.bool true)], args := [d1, d2, d3, d4] }
  | _ => none }
def headerApartRow : OpenClaim := { program := "ytilbkdlbbnkgdaa", sum := "d9328f089f6b95b03c6e084c4b0038d8bb9558df2f111aefcff4b3b7061384f0", func := "analemma/analemmalaw05.HeaderApart", spec := "headerApart", unfollowed := true, recurses := true, apart := false }
def HeaderApartSaid : Prop := headerApartRow.holds Try.pinned (OpenSpec.ofChange headerApartSpec)

/-- ITS FALSE NEIGHBOUR: 'it returns false'. Refute it at one input. -/
def headerApartWrong : ChangeSpec := { name := "headerApart", fn := fun _ => fun
  | [d1, d2, d3, d4] => { results := [.lit (.bool false)], args := [d1, d2, d3, d4] }
  | _ => none }
def HeaderApartWrongFalsely : Prop := headerApartRow.holds Try.pinned (OpenSpec.ofChange headerApartWrong)

/-- 'analemmalaw05.HeaderFirst': WHATEVER THE INPUT: true; the input reads as it did. -/
def headerFirstSpec : ChangeSpec := { name := "headerFirst", fn := fun _ => fun
  | [d1, d2] => { results := [.lit (.bool true)], args := [d1, d2] }
  | _ => none }
def headerFirstRow : OpenClaim := { program := "ytilbkdlbbnkgdaa", sum := "d9328f089f6b95b03c6e084c4b0038d8bb9558df2f111aefcff4b3b7061384f0", func := "analemma/analemmalaw05.HeaderFirst", spec := "headerFirst", unfollowed := true, recurses := true, apart := false }
def HeaderFirstSaid : Prop := headerFirstRow.holds Try.pinned (OpenSpec.ofChange headerFirstSpec)

/-- ITS FALSE NEIGHBOUR: 'it returns false'. Refute it at one input. -/
def headerFirstWrong : ChangeSpec := { name := "headerFirst", fn := fun _ => fun
  | [d1, d2] => { results := [.lit (.bool false)], args := [d1, d2] }
  | _ => none }
def HeaderFirstWrongFalsely : Prop := headerFirstRow.holds Try.pinned (OpenSpec.ofChange headerFirstWrong)

/-- 'analemmalaw05.HeaderAsks': WHATEVER THE INPUT: true; the input reads as it did. -/
def headerAsksSpec : ChangeSpec := { name := "headerAsks", fn := fun _ => fun
  | [d1, d2, d3, d4] => { results := [.lit (.bool true)], args := [d1, d2, d3, d4] }
  | _ => none }
def headerAsksRow : OpenClaim := { program := "ytilbkdlbbnkgdaa", sum := "d9328f089f6b95b03c6e084c4b0038d8bb9558df2f111aefcff4b3b7061384f0", func := "analemma/analemmalaw05.HeaderAsks", spec := "headerAsks", unfollowed := true, recurses := true, apart := false }
def HeaderAsksSaid : Prop := headerAsksRow.holds Try.pinned (OpenSpec.ofChange headerAsksSpec)

/-- ITS FALSE NEIGHBOUR: 'it returns false'. Refute it at one input. -/
def headerAsksWrong : ChangeSpec := { name := "headerAsks", fn := fun _ => fun
  | [d1, d2, d3, d4] => { results := [.lit (.bool false)], args := [d1, d2, d3, d4] }
  | _ => none }
def HeaderAsksWrongFalsely : Prop := headerAsksRow.holds Try.pinned (OpenSpec.ofChange headerAsksWrong)

/-- 'analemmalaw04.EraNears': WHATEVER THE INPUT: true; the input reads as it did. -/
def eraNearsSpec : ChangeSpec := { name := "eraNears", fn := fun _ => fun
  | [d1, d2, d3] => { results := [.lit (.bool true)], args := [d1, d2, d3] }
  | _ => none }
def eraNearsRow : OpenClaim := { program := "ytilbkdlbbnkgdaa", sum := "d9328f089f6b95b03c6e084c4b0038d8bb9558df2f111aefcff4b3b7061384f0", func := "analemma/analemmalaw04.EraNears", spec := "eraNears", apart := false }
def EraNearsSaid : Prop := eraNearsRow.holds Try.pinned (OpenSpec.ofChange eraNearsSpec)

/-- ITS FALSE NEIGHBOUR: 'it returns false'. Refute it at one input. -/
def eraNearsWrong : ChangeSpec := { name := "eraNears", fn := fun _ => fun
  | [d1, d2, d3] => { results := [.lit (.bool false)], args := [d1, d2, d3] }
  | _ => none }
def EraNearsWrongFalsely : Prop := eraNearsRow.holds Try.pinned (OpenSpec.ofChange eraNearsWrong)

/- THE SECOND FORM. 'bulk': how many values and letters a reading holds, each counted each time it is reached (what is shared counts as often as it is met; a slice's spare places count too). A statement '..UptoSaid' is the law's where the arguments, and the package variables that the reading takes, are together of bulk at most 1048576: NARROWER than '..Said'. Prove '..Said' where nothing that the law and all that it calls make is longer than what came in: it says more and counts as full. Else prove '..UptoSaid'. A law counts once. -/
mutual
def uptoBulk {H : Type} : DataW H → Nat
  | .lit (.string bytes) => bytes.length + 1
  | .lit _ => 1
  | .nil => 1
  | .ptr d => uptoBulk d + 1
  | .slice elems spare => uptoBulkAll elems + uptoBulkAll spare + 1
  | .agg parts => uptoBulkAll parts + 1
  | .iface _ d => uptoBulk d + 1
  | .map entries => uptoBulkEntries entries + 1
  | .held _ => 1
def uptoBulkAll {H : Type} : List (DataW H) → Nat
  | [] => 0
  | d :: r => uptoBulk d + uptoBulkAll r
def uptoBulkEntries {H : Type} : List (Lit × DataW H) → Nat
  | [] => 0
  | x :: r => uptoBulkEntry x + uptoBulkEntries r
def uptoBulkEntry {H : Type} : Lit × DataW H → Nat
  | (.string bytes, d) => bytes.length + uptoBulk d + 1
  | (_, d) => uptoBulk d + 1
 end
def uptoSmall : (H : Type) → List (DataW H) → Bool := fun _ ds => decide (uptoBulkAll ds ≤ 1048576)
def OpenSpec.upto (s : _root_.Go.ChangeSpec) : _root_.Go.OpenSpec := { _root_.Go.OpenSpec.ofChange s with cond := some uptoSmall }

/-- 'analemmalaw04.EraShort', WHERE WHAT IT READS IS OF BULK AT MOST 1048576: true; the input reads as it did. -/
def eraShortUptoRow : OpenClaim := { program := "ytilbkdlbbnkgdaa", sum := "d9328f089f6b95b03c6e084c4b0038d8bb9558df2f111aefcff4b3b7061384f0", func := "analemma/analemmalaw04.EraShort", spec := "eraShort", apart := false, narrowed := true }
def EraShortUptoSaid : Prop := eraShortUptoRow.holds Try.pinned (OpenSpec.upto eraShortSpec)

/-- 'analemmalaw04.EraBack', WHERE WHAT IT READS IS OF BULK AT MOST 1048576: true; the input reads as it did. -/
def eraBackUptoRow : OpenClaim := { program := "ytilbkdlbbnkgdaa", sum := "d9328f089f6b95b03c6e084c4b0038d8bb9558df2f111aefcff4b3b7061384f0", func := "analemma/analemmalaw04.EraBack", spec := "eraBack", apart := false, narrowed := true }
def EraBackUptoSaid : Prop := eraBackUptoRow.holds Try.pinned (OpenSpec.upto eraBackSpec)

/-- 'analemmalaw04.EraTells', WHERE WHAT IT READS IS OF BULK AT MOST 1048576: true; the input reads as it did. -/
def eraTellsUptoRow : OpenClaim := { program := "ytilbkdlbbnkgdaa", sum := "d9328f089f6b95b03c6e084c4b0038d8bb9558df2f111aefcff4b3b7061384f0", func := "analemma/analemmalaw04.EraTells", spec := "eraTells", apart := false, narrowed := true }
def EraTellsUptoSaid : Prop := eraTellsUptoRow.holds Try.pinned (OpenSpec.upto eraTellsSpec)

/-- 'analemmalaw04.EraSteps', WHERE WHAT IT READS IS OF BULK AT MOST 1048576: true; the input reads as it did. -/
def eraStepsUptoRow : OpenClaim := { program := "ytilbkdlbbnkgdaa", sum := "d9328f089f6b95b03c6e084c4b0038d8bb9558df2f111aefcff4b3b7061384f0", func := "analemma/analemmalaw04.EraSteps", spec := "eraSteps", apart := false, narrowed := true }
def EraStepsUptoSaid : Prop := eraStepsUptoRow.holds Try.pinned (OpenSpec.upto eraStepsSpec)

/-- 'analemmalaw04.EraNearest', WHERE WHAT IT READS IS OF BULK AT MOST 1048576: true; the input reads as it did. -/
def eraNearestUptoRow : OpenClaim := { program := "ytilbkdlbbnkgdaa", sum := "d9328f089f6b95b03c6e084c4b0038d8bb9558df2f111aefcff4b3b7061384f0", func := "analemma/analemmalaw04.EraNearest", spec := "eraNearest", apart := false, narrowed := true }
def EraNearestUptoSaid : Prop := eraNearestUptoRow.holds Try.pinned (OpenSpec.upto eraNearestSpec)

/-- 'analemmalaw04.EraPrecise', WHERE WHAT IT READS IS OF BULK AT MOST 1048576: true; the input reads as it did. -/
def eraPreciseUptoRow : OpenClaim := { program := "ytilbkdlbbnkgdaa", sum := "d9328f089f6b95b03c6e084c4b0038d8bb9558df2f111aefcff4b3b7061384f0", func := "analemma/analemmalaw04.EraPrecise", spec := "eraPrecise", apart := false, narrowed := true }
def EraPreciseUptoSaid : Prop := eraPreciseUptoRow.holds Try.pinned (OpenSpec.upto eraPreciseSpec)

/-- 'analemmalaw05.HeaderEncodes', WHERE WHAT IT READS IS OF BULK AT MOST 1048576: true; the input reads as it did. -/
def headerEncodesUptoRow : OpenClaim := { program := "ytilbkdlbbnkgdaa", sum := "d9328f089f6b95b03c6e084c4b0038d8bb9558df2f111aefcff4b3b7061384f0", func := "analemma/analemmalaw05.HeaderEncodes", spec := "headerEncodes", unfollowed := true, recurses := true, apart := false, narrowed := true }
def HeaderEncodesUptoSaid : Prop := headerEncodesUptoRow.holds Try.pinned (OpenSpec.upto headerEncodesSpec)

/-- 'analemmalaw05.HeaderDecodes', WHERE WHAT IT READS IS OF BULK AT MOST 1048576: true; the input reads as it did. -/
def headerDecodesUptoRow : OpenClaim := { program := "ytilbkdlbbnkgdaa", sum := "d9328f089f6b95b03c6e084c4b0038d8bb9558df2f111aefcff4b3b7061384f0", func := "analemma/analemmalaw05.HeaderDecodes", spec := "headerDecodes", unfollowed := true, recurses := true, apart := false, narrowed := true }
def HeaderDecodesUptoSaid : Prop := headerDecodesUptoRow.holds Try.pinned (OpenSpec.upto headerDecodesSpec)

/-- 'analemmalaw05.HeaderApart', WHERE WHAT IT READS IS OF BULK AT MOST 1048576: true; the input reads as it did. -/
def headerApartUptoRow : OpenClaim := { program := "ytilbkdlbbnkgdaa", sum := "d9328f089f6b95b03c6e084c4b0038d8bb9558df2f111aefcff4b3b7061384f0", func := "analemma/analemmalaw05.HeaderApart", spec := "headerApart", unfollowed := true, recurses := true, apart := false, narrowed := true }
def HeaderApartUptoSaid : Prop := headerApartUptoRow.holds Try.pinned (OpenSpec.upto headerApartSpec)

/-- 'analemmalaw05.HeaderFirst', WHERE WHAT IT READS IS OF BULK AT MOST 1048576: true; the input reads as it did. -/
def headerFirstUptoRow : OpenClaim := { program := "ytilbkdlbbnkgdaa", sum := "d9328f089f6b95b03c6e084c4b0038d8bb9558df2f111aefcff4b3b7061384f0", func := "analemma/analemmalaw05.HeaderFirst", spec := "headerFirst", unfollowed := true, recurses := true, apart := false, narrowed := true }
def HeaderFirstUptoSaid : Prop := headerFirstUptoRow.holds Try.pinned (OpenSpec.upto headerFirstSpec)

/-- 'analemmalaw05.HeaderAsks', WHERE WHAT IT READS IS OF BULK AT MOST 1048576: true; the input reads as it did. -/
def headerAsksUptoRow : OpenClaim := { program := "ytilbkdlbbnkgdaa", sum := "d9328f089f6b95b03c6e084c4b0038d8bb9558df2f111aefcff4b3b7061384f0", func := "analemma/analemmalaw05.HeaderAsks", spec := "headerAsks", unfollowed := true, recurses := true, apart := false, narrowed := true }
def HeaderAsksUptoSaid : Prop := headerAsksUptoRow.holds Try.pinned (OpenSpec.upto headerAsksSpec)

/-- 'analemmalaw04.EraNears', WHERE WHAT IT READS IS OF BULK AT MOST 1048576: true; the input reads as it did. -/
def eraNearsUptoRow : OpenClaim := { program := "ytilbkdlbbnkgdaa", sum := "d9328f089f6b95b03c6e084c4b0038d8bb9558df2f111aefcff4b3b7061384f0", func := "analemma/analemmalaw04.EraNears", spec := "eraNears", apart := false, narrowed := true }
def EraNearsUptoSaid : Prop := eraNearsUptoRow.holds Try.pinned (OpenSpec.upto eraNearsSpec)

end Rows
end Go.Proofs.Ytilbkdlbbnkgdaa
