/-
  No cell of these rows narrows 'for every input' (looked for: loops, veiled, ifaces, maps, wideKeys, modest, calm, conditions, laid).
  DERIVED. THE GIVEN ROWS OF THIS SEAT. 9 by the template 'for every input the law returns true; each argument reads behind the call as it read before'; 0 by the template 'total and deterministic' (their statements: YtomjongnjfodmaaTotals.lean).
  GIVEN WITH THE SEED: the statements are not yours to turn. If you find one false, say at which input.
  Laid BY PROGRAM, IN A SANDBOX (cutbox-rows.mjs): the forced cells as the released guide's own fill.sh prints them over the translation 36e51617206103ca… (all of the seat's roots in one cut). By AI agents, Wed Nov 11 2026. No macro, syntax, notation, axiom, sorry.
-/
import Derived.Test.YtomjongnjfodmaaChecked
import GoSem.Claim
import GoSem.ClaimJoined
import GoSem.ClaimMapViews
import Derived.JoinedTies
import Derived.KernelRfl
namespace Go.Proofs.Ytomjongnjfodmaa
/- THE CELL 'sum', in the pinned program and in every row, IS THE sha256 OF THE DUMP (.gsa) THAT YtomjongnjfodmaaProg.lean LOADS. Nothing in Lean hashes anything: it is a label: what it is worth is what the hold of that sum in a sandbox is worth. -/
noncomputable def Try.pinned : Pinned := { name := "ytomjongnjfodmaa", sum := "36e51617206103ca22d8833a496fdaca23272df4dd0ea9219346e716e02ba885", checked := Try.checked }
namespace Rows
def none {H : Type} : Left H := { results := [], args := [] }

/-- 'analemmalaw02.FixRoots': WHATEVER THE INPUT: true; the input reads as it did. -/
def fixRootsSpec : ChangeSpec := { name := "fixRoots", fn := fun _ => fun
  | [d1, d2] => { results := [.lit (.bool true)], args := [d1, d2] }
  | _ => none }
def fixRootsRow : OpenClaim := { program := "ytomjongnjfodmaa", sum := "36e51617206103ca22d8833a496fdaca23272df4dd0ea9219346e716e02ba885", func := "analemma/analemmalaw02.FixRoots", spec := "fixRoots", apart := false }
def FixRootsSaid : Prop := fixRootsRow.holds Try.pinned (OpenSpec.ofChange fixRootsSpec)

/-- ITS FALSE NEIGHBOUR: 'it returns false'. Refute it at one input. -/
def fixRootsWrong : ChangeSpec := { name := "fixRoots", fn := fun _ => fun
  | [d1, d2] => { results := [.lit (.bool false)], args := [d1, d2] }
  | _ => none }
def FixRootsWrongFalsely : Prop := fixRootsRow.holds Try.pinned (OpenSpec.ofChange fixRootsWrong)

/-- 'analemmalaw02.FixShifts': WHATEVER THE INPUT: true; the input reads as it did. -/
def fixShiftsSpec : ChangeSpec := { name := "fixShifts", fn := fun _ => fun
  | [d1, d2] => { results := [.lit (.bool true)], args := [d1, d2] }
  | _ => none }
def fixShiftsRow : OpenClaim := { program := "ytomjongnjfodmaa", sum := "36e51617206103ca22d8833a496fdaca23272df4dd0ea9219346e716e02ba885", func := "analemma/analemmalaw02.FixShifts", spec := "fixShifts", apart := false }
def FixShiftsSaid : Prop := fixShiftsRow.holds Try.pinned (OpenSpec.ofChange fixShiftsSpec)

/-- ITS FALSE NEIGHBOUR: 'it returns false'. Refute it at one input. -/
def fixShiftsWrong : ChangeSpec := { name := "fixShifts", fn := fun _ => fun
  | [d1, d2] => { results := [.lit (.bool false)], args := [d1, d2] }
  | _ => none }
def FixShiftsWrongFalsely : Prop := fixShiftsRow.holds Try.pinned (OpenSpec.ofChange fixShiftsWrong)

/-- 'analemmalaw02.FixShares': WHATEVER THE INPUT: true; the input reads as it did. -/
def fixSharesSpec : ChangeSpec := { name := "fixShares", fn := fun _ => fun
  | [d1, d2] => { results := [.lit (.bool true)], args := [d1, d2] }
  | _ => none }
def fixSharesRow : OpenClaim := { program := "ytomjongnjfodmaa", sum := "36e51617206103ca22d8833a496fdaca23272df4dd0ea9219346e716e02ba885", func := "analemma/analemmalaw02.FixShares", spec := "fixShares", apart := false }
def FixSharesSaid : Prop := fixSharesRow.holds Try.pinned (OpenSpec.ofChange fixSharesSpec)

/-- ITS FALSE NEIGHBOUR: 'it returns false'. Refute it at one input. -/
def fixSharesWrong : ChangeSpec := { name := "fixShares", fn := fun _ => fun
  | [d1, d2] => { results := [.lit (.bool false)], args := [d1, d2] }
  | _ => none }
def FixSharesWrongFalsely : Prop := fixSharesRow.holds Try.pinned (OpenSpec.ofChange fixSharesWrong)

/-- 'analemmalaw02.FixBack': WHATEVER THE INPUT: true; the input reads as it did. -/
def fixBackSpec : ChangeSpec := { name := "fixBack", fn := fun _ => fun
  | [d1, d2] => { results := [.lit (.bool true)], args := [d1, d2] }
  | _ => none }
def fixBackRow : OpenClaim := { program := "ytomjongnjfodmaa", sum := "36e51617206103ca22d8833a496fdaca23272df4dd0ea9219346e716e02ba885", func := "analemma/analemmalaw02.FixBack", spec := "fixBack", apart := false }
def FixBackSaid : Prop := fixBackRow.holds Try.pinned (OpenSpec.ofChange fixBackSpec)

/-- ITS FALSE NEIGHBOUR: 'it returns false'. Refute it at one input. -/
def fixBackWrong : ChangeSpec := { name := "fixBack", fn := fun _ => fun
  | [d1, d2] => { results := [.lit (.bool false)], args := [d1, d2] }
  | _ => none }
def FixBackWrongFalsely : Prop := fixBackRow.holds Try.pinned (OpenSpec.ofChange fixBackWrong)

/-- 'analemmalaw02.FixRises': WHATEVER THE INPUT: true; the input reads as it did. -/
def fixRisesSpec : ChangeSpec := { name := "fixRises", fn := fun _ => fun
  | [d1, d2, d3, d4] => { results := [.lit (.bool true)], args := [d1, d2, d3, d4] }
  | _ => none }
def fixRisesRow : OpenClaim := { program := "ytomjongnjfodmaa", sum := "36e51617206103ca22d8833a496fdaca23272df4dd0ea9219346e716e02ba885", func := "analemma/analemmalaw02.FixRises", spec := "fixRises", apart := false }
def FixRisesSaid : Prop := fixRisesRow.holds Try.pinned (OpenSpec.ofChange fixRisesSpec)

/-- ITS FALSE NEIGHBOUR: 'it returns false'. Refute it at one input. -/
def fixRisesWrong : ChangeSpec := { name := "fixRises", fn := fun _ => fun
  | [d1, d2, d3, d4] => { results := [.lit (.bool false)], args := [d1, d2, d3, d4] }
  | _ => none }
def FixRisesWrongFalsely : Prop := fixRisesRow.holds Try.pinned (OpenSpec.ofChange fixRisesWrong)

/-- 'analemmalaw02.FixMiddle': WHATEVER THE INPUT: true; the input reads as it did. -/
def fixMiddleSpec : ChangeSpec := { name := "fixMiddle", fn := fun _ => fun
  | [d1, d2, d3] => { results := [.lit (.bool true)], args := [d1, d2, d3] }
  | _ => none }
def fixMiddleRow : OpenClaim := { program := "ytomjongnjfodmaa", sum := "36e51617206103ca22d8833a496fdaca23272df4dd0ea9219346e716e02ba885", func := "analemma/analemmalaw02.FixMiddle", spec := "fixMiddle", apart := false }
def FixMiddleSaid : Prop := fixMiddleRow.holds Try.pinned (OpenSpec.ofChange fixMiddleSpec)

/-- ITS FALSE NEIGHBOUR: 'it returns false'. Refute it at one input. -/
def fixMiddleWrong : ChangeSpec := { name := "fixMiddle", fn := fun _ => fun
  | [d1, d2, d3] => { results := [.lit (.bool false)], args := [d1, d2, d3] }
  | _ => none }
def FixMiddleWrongFalsely : Prop := fixMiddleRow.holds Try.pinned (OpenSpec.ofChange fixMiddleWrong)

/-- 'analemmalaw02.FixMeans': WHATEVER THE INPUT: true; the input reads as it did. -/
def fixMeansSpec : ChangeSpec := { name := "fixMeans", fn := fun _ => fun
  | [d] => { results := [.lit (.bool true)], args := [d] }
  | _ => none }
def fixMeansRow : OpenClaim := { program := "ytomjongnjfodmaa", sum := "36e51617206103ca22d8833a496fdaca23272df4dd0ea9219346e716e02ba885", func := "analemma/analemmalaw02.FixMeans", spec := "fixMeans", unfollowed := true, recurses := true, apart := false }
def FixMeansSaid : Prop := fixMeansRow.holds Try.pinned (OpenSpec.ofChange fixMeansSpec)

/-- ITS FALSE NEIGHBOUR: 'it returns false'. Refute it at one input. -/
def fixMeansWrong : ChangeSpec := { name := "fixMeans", fn := fun _ => fun
  | [d] => { results := [.lit (.bool false)], args := [d] }
  | _ => none }
def FixMeansWrongFalsely : Prop := fixMeansRow.holds Try.pinned (OpenSpec.ofChange fixMeansWrong)

/-- 'analemmalaw02.FixTells': WHATEVER THE INPUT: true; the input reads as it did. -/
def fixTellsSpec : ChangeSpec := { name := "fixTells", fn := fun _ => fun
  | [d1, d2, d3, d4] => { results := [.lit (.bool true)], args := [d1, d2, d3, d4] }
  | _ => none }
def fixTellsRow : OpenClaim := { program := "ytomjongnjfodmaa", sum := "36e51617206103ca22d8833a496fdaca23272df4dd0ea9219346e716e02ba885", func := "analemma/analemmalaw02.FixTells", spec := "fixTells", apart := false }
def FixTellsSaid : Prop := fixTellsRow.holds Try.pinned (OpenSpec.ofChange fixTellsSpec)

/-- ITS FALSE NEIGHBOUR: 'it returns false'. Refute it at one input. -/
def fixTellsWrong : ChangeSpec := { name := "fixTells", fn := fun _ => fun
  | [d1, d2, d3, d4] => { results := [.lit (.bool false)], args := [d1, d2, d3, d4] }
  | _ => none }
def FixTellsWrongFalsely : Prop := fixTellsRow.holds Try.pinned (OpenSpec.ofChange fixTellsWrong)

/-- 'analemmalaw02.FixLeast': WHATEVER THE INPUT: true; the input reads as it did. -/
def fixLeastSpec : ChangeSpec := { name := "fixLeast", fn := fun _ => fun
  | [d1, d2, d3] => { results := [.lit (.bool true)], args := [d1, d2, d3] }
  | _ => none }
def fixLeastRow : OpenClaim := { program := "ytomjongnjfodmaa", sum := "36e51617206103ca22d8833a496fdaca23272df4dd0ea9219346e716e02ba885", func := "analemma/analemmalaw02.FixLeast", spec := "fixLeast", unfollowed := true, recurses := true, apart := false }
def FixLeastSaid : Prop := fixLeastRow.holds Try.pinned (OpenSpec.ofChange fixLeastSpec)

/-- ITS FALSE NEIGHBOUR: 'it returns false'. Refute it at one input. -/
def fixLeastWrong : ChangeSpec := { name := "fixLeast", fn := fun _ => fun
  | [d1, d2, d3] => { results := [.lit (.bool false)], args := [d1, d2, d3] }
  | _ => none }
def FixLeastWrongFalsely : Prop := fixLeastRow.holds Try.pinned (OpenSpec.ofChange fixLeastWrong)

/- THE SECOND FORM. 'bulk': how many values and letters a reading holds, each counted each time it is reached (what is shared counts as often as it is met; a slice's spare places count too). A statement '..UptoSaid' is the law's where the arguments, and the package variables that the reading takes, are together of bulk at most 1048576: NARROWER than '..Said'. Prove '..Said' where nothing that the law and all that it calls make is longer than what came in: it says more and counts as full. Else prove '..UptoSaid'. A law counts once. -/
mutual
def uptoBulk {H : Type} : DataW H → Nat
  | .lit (.string bytes) => bytes.length + 1
  | .lit _ => 1
  | .nil => 1
  | .ptr d => uptoBulk d + 1
  | .slice elems spare => uptoBulkAll elems + uptoBulkAll spare + 1
  | .agg parts => uptoBulkAll parts + 1
  | .iface _ d => uptoBulk d + 1
  | .map entries => uptoBulkEntries entries + 1
  | .held _ => 1
def uptoBulkAll {H : Type} : List (DataW H) → Nat
  | [] => 0
  | d :: r => uptoBulk d + uptoBulkAll r
def uptoBulkEntries {H : Type} : List (Lit × DataW H) → Nat
  | [] => 0
  | x :: r => uptoBulkEntry x + uptoBulkEntries r
def uptoBulkEntry {H : Type} : Lit × DataW H → Nat
  | (.string bytes, d) => bytes.length + uptoBulk d + 1
  | (_, d) => uptoBulk d + 1
 end
def uptoSmall : (H : Type) → List (DataW H) → Bool := fun _ ds => decide (uptoBulkAll ds ≤ 1048576)
def OpenSpec.upto (s : _root_.Go.ChangeSpec) : _root_.Go.OpenSpec := { _root_.Go.OpenSpec.ofChange s with cond := some uptoSmall }

/-- 'analemmalaw02.FixRoots', WHERE WHAT IT READS IS OF BULK AT MOST 1048576: true; the input reads as it did. -/
def fixRootsUptoRow : OpenClaim := { program := "ytomjongnjfodmaa", sum := "36e51617206103ca22d8833a496fdaca23272df4dd0ea9219346e716e02ba885", func := "analemma/analemmalaw02.FixRoots", spec := "fixRoots", apart := false, narrowed := true }
def FixRootsUptoSaid : Prop := fixRootsUptoRow.holds Try.pinned (OpenSpec.upto fixRootsSpec)

/-- 'analemmalaw02.FixShifts', WHERE WHAT IT READS IS OF BULK AT MOST 1048576: true; the input reads as it did. -/
def fixShiftsUptoRow : OpenClaim := { program := "ytomjongnjfodmaa", sum := "36e51617206103ca22d8833a496fdaca23272df4dd0ea9219346e716e02ba885", func := "analemma/analemmalaw02.FixShifts", spec := "fixShifts", apart := false, narrowed := true }
def FixShiftsUptoSaid : Prop := fixShiftsUptoRow.holds Try.pinned (OpenSpec.upto fixShiftsSpec)

/-- 'analemmalaw02.FixShares', WHERE WHAT IT READS IS OF BULK AT MOST 1048576: true; the input reads as it did. -/
def fixSharesUptoRow : OpenClaim := { program := "ytomjongnjfodmaa", sum := "36e51617206103ca22d8833a496fdaca23272df4dd0ea9219346e716e02ba885", func := "analemma/analemmalaw02.FixShares", spec := "fixShares", apart := false, narrowed := true }
def FixSharesUptoSaid : Prop := fixSharesUptoRow.holds Try.pinned (OpenSpec.upto fixSharesSpec)

/-- 'analemmalaw02.FixBack', WHERE WHAT IT READS IS OF BULK AT MOST 1048576: true; the input reads as it did. -/
def fixBackUptoRow : OpenClaim := { program := "ytomjongnjfodmaa", sum := "36e51617206103ca22d8833a496fdaca23272df4dd0ea9219346e716e02ba885", func := "analemma/analemmalaw02.FixBack", spec := "fixBack", apart := false, narrowed := true }
def FixBackUptoSaid : Prop := fixBackUptoRow.holds Try.pinned (OpenSpec.upto fixBackSpec)

/-- 'analemmalaw02.FixRises', WHERE WHAT IT READS IS OF BULK AT MOST 1048576: true; the input reads as it did. -/
def fixRisesUptoRow : OpenClaim := { program := "ytomjongnjfodmaa", sum := "36e51617206103ca22d8833a496fdaca23272df4dd0ea9219346e716e02ba885", func := "analemma/analemmalaw02.FixRises", spec := "fixRises", apart := false, narrowed := true }
def FixRisesUptoSaid : Prop := fixRisesUptoRow.holds Try.pinned (OpenSpec.upto fixRisesSpec)

/-- 'analemmalaw02.FixMiddle', WHERE WHAT IT READS IS OF BULK AT MOST 1048576: true; the input reads as it did. -/
def fixMiddleUptoRow : OpenClaim := { program := "ytomjongnjfodmaa", sum := "36e51617206103ca22d8833a496fdaca23272df4dd0ea9219346e716e02ba885", func := "analemma/analemmalaw02.FixMiddle", spec := "fixMiddle", apart := false, narrowed := true }
def FixMiddleUptoSaid : Prop := fixMiddleUptoRow.holds Try.pinned (OpenSpec.upto fixMiddleSpec)

/-- 'analemmalaw02.FixMeans', WHERE WHAT IT READS IS OF BULK AT MOST 1048576: true; the input reads as it did. -/
def fixMeansUptoRow : OpenClaim := { program := "ytomjongnjfodmaa", sum := "36e51617206103ca22d8833a496fdaca23272df4dd0ea9219346e716e02ba885", func := "analemma/analemmalaw02.FixMeans", spec := "fixMeans", unfollowed := true, recurses := true, apart := false, narrowed := true }
def FixMeansUptoSaid : Prop := fixMeansUptoRow.holds Try.pinned (OpenSpec.upto fixMeansSpec)

/-- 'analemmalaw02.FixTells', WHERE WHAT IT READS IS OF BULK AT MOST 1048576: true; the input reads as it did. -/
def fixTellsUptoRow : OpenClaim := { program := "ytomjongnjfodmaa", sum := "36e51617206103ca22d8833a496fdaca23272df4dd0ea9219346e716e02ba885", func := "analemma/analemmalaw02.FixTells", spec := "fixTells", apart := false, narrowed := true }
def FixTellsUptoSaid : Prop := fixTellsUptoRow.holds Try.pinned (OpenSpec.upto fixTellsSpec)

/-- 'analemmalaw02.FixLeast', WHERE WHAT IT READS IS OF BULK AT MOST 1048576: true; the input reads as it did. -/
def fixLeastUptoRow : OpenClaim := { program := "ytomjongnjfodmaa", sum := "36e51617206103ca22d8833a496fdaca23272df4dd0ea9219346e716e02ba885", func := "analemma/analemmalaw02.FixLeast", spec := "fixLeast", unfollowed := true, recurses := true, apart := false, narrowed := true }
def FixLeastUptoSaid : Prop := fixLeastUptoRow.holds Try.pinned (OpenSpec.upto fixLeastSpec)

end Rows
end Go.Proofs.Ytomjongnjfodmaa
