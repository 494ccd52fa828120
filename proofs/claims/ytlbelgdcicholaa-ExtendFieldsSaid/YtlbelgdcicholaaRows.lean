/-
  No cell of these rows narrows 'for every input' (looked for: loops, veiled, ifaces, maps, wideKeys, modest, calm, conditions, laid).
  DERIVED. THE GIVEN ROWS OF THIS SEAT. 11 by the template 'for every input the law returns true; each argument reads behind the call as it read before'; 0 by the template 'total and deterministic' (their statements: YtlbelgdcicholaaTotals.lean).
  GIVEN WITH THE SEED: the statements are not yours to turn. If you find one false, say at which input.
  Laid BY PROGRAM, IN A SANDBOX (cutbox-rows.mjs): the forced cells as the released guide's own fill.sh prints them over the translation 1a0cb04de08d635f… (all of the seat's roots in one cut). By AI agents, Wed Nov 11 2026. No macro, syntax, notation, axiom, sorry.
-/
import Derived.Test.YtlbelgdcicholaaChecked
import GoSem.Claim
import GoSem.ClaimJoined
import GoSem.ClaimMapViews
import Derived.JoinedTies
import Derived.KernelRfl
namespace Go.Proofs.Ytlbelgdcicholaa
/- THE CELL 'sum', in the pinned program and in every row, IS THE sha256 OF THE DUMP (.gsa) THAT YtlbelgdcicholaaProg.lean LOADS. Nothing in Lean hashes anything: it is a label: what it is worth is what the hold of that sum in a sandbox is worth. -/
noncomputable def Try.pinned : Pinned := { name := "ytlbelgdcicholaa", sum := "1a0cb04de08d635ff6b62b884a7ba6cb1335fe8bfd1855c9700e46ba0cb05bb9", checked := Try.checked }
namespace Rows
def none {H : Type} : Left H := { results := [], args := [] }

/-- 'analemmalaw03.FloatyKinds': WHATEVER THE INPUT: true; the input reads as it did. -/
def floatyKindsSpec : ChangeSpec := { name := "floatyKinds", fn := fun _ => fun
  | [d] => { results := [.lit (.bool true)], args := [d] }
  | _ => none }
def floatyKindsRow : OpenClaim := { program := "ytlbelgdcicholaa", sum := "1a0cb04de08d635ff6b62b884a7ba6cb1335fe8bfd1855c9700e46ba0cb05bb9", func := "analemma/analemmalaw03.FloatyKinds", spec := "floatyKinds", inPlace := ["math.Float64bits", "math.Float64frombits"], apart := false }
def FloatyKindsSaid : Prop := floatyKindsRow.holds Try.pinned (OpenSpec.ofChange floatyKindsSpec)

/-- ITS FALSE NEIGHBOUR: 'it returns false'. Refute it at one input. -/
def floatyKindsWrong : ChangeSpec := { name := "floatyKinds", fn := fun _ => fun
  | [d] => { results := [.lit (.bool false)], args := [d] }
  | _ => none }
def FloatyKindsWrongFalsely : Prop := floatyKindsRow.holds Try.pinned (OpenSpec.ofChange floatyKindsWrong)

/-- 'analemmalaw06.ExtendKisses': WHATEVER THE INPUT: true; the input reads as it did. -/
def extendKissesSpec : ChangeSpec := { name := "extendKisses", fn := fun _ => fun
  | [d1, d2] => { results := [.lit (.bool true)], args := [d1, d2] }
  | _ => none }
def extendKissesRow : OpenClaim := { program := "ytlbelgdcicholaa", sum := "1a0cb04de08d635ff6b62b884a7ba6cb1335fe8bfd1855c9700e46ba0cb05bb9", func := "analemma/analemmalaw06.ExtendKisses", spec := "extendKisses", unfollowed := true, recurses := true, apart := false }
def ExtendKissesSaid : Prop := extendKissesRow.holds Try.pinned (OpenSpec.ofChange extendKissesSpec)

/-- ITS FALSE NEIGHBOUR: 'it returns false'. Refute it at one input. -/
def extendKissesWrong : ChangeSpec := { name := "extendKisses", fn := fun _ => fun
  | [d1, d2] => { results := [.lit (.bool false)], args := [d1, d2] }
  | _ => none }
def ExtendKissesWrongFalsely : Prop := extendKissesRow.holds Try.pinned (OpenSpec.ofChange extendKissesWrong)

/-- 'analemmalaw06.ExtendMacs': WHATEVER THE INPUT: true; the input reads as it did. -/
def extendMacsSpec : ChangeSpec := { name := "extendMacs", fn := fun _ => fun
  | [d] => { results := [.lit (.bool true)], args := [d] }
  | _ => none }
def extendMacsRow : OpenClaim := { program := "ytlbelgdcicholaa", sum := "1a0cb04de08d635ff6b62b884a7ba6cb1335fe8bfd1855c9700e46ba0cb05bb9", func := "analemma/analemmalaw06.ExtendMacs", spec := "extendMacs", unfollowed := true, recurses := true, apart := false }
def ExtendMacsSaid : Prop := extendMacsRow.holds Try.pinned (OpenSpec.ofChange extendMacsSpec)

/-- ITS FALSE NEIGHBOUR: 'it returns false'. Refute it at one input. -/
def extendMacsWrong : ChangeSpec := { name := "extendMacs", fn := fun _ => fun
  | [d] => { results := [.lit (.bool false)], args := [d] }
  | _ => none }
def ExtendMacsWrongFalsely : Prop := extendMacsRow.holds Try.pinned (OpenSpec.ofChange extendMacsWrong)

/-- 'analemmalaw03.FloatyWithin': WHATEVER THE INPUT: true; the input reads as it did. -/
def floatyWithinSpec : ChangeSpec := { name := "floatyWithin", fn := fun _ => fun
  | [d1, d2, d3, d4] => { results := [.lit (.bool true)], args := [d1, d2, d3, d4] }
  | _ => none }
def floatyWithinRow : OpenClaim := { program := "ytlbelgdcicholaa", sum := "1a0cb04de08d635ff6b62b884a7ba6cb1335fe8bfd1855c9700e46ba0cb05bb9", func := "analemma/analemmalaw03.FloatyWithin", spec := "floatyWithin", inPlace := ["math.Float64bits", "math.Float64frombits"], apart := false }
def FloatyWithinSaid : Prop := floatyWithinRow.holds Try.pinned (OpenSpec.ofChange floatyWithinSpec)

/-- ITS FALSE NEIGHBOUR: 'it returns false'. Refute it at one input. -/
def floatyWithinWrong : ChangeSpec := { name := "floatyWithin", fn := fun _ => fun
  | [d1, d2, d3, d4] => { results := [.lit (.bool false)], args := [d1, d2, d3, d4] }
  | _ => none }
def FloatyWithinWrongFalsely : Prop := floatyWithinRow.holds Try.pinned (OpenSpec.ofChange floatyWithinWrong)

/-- 'analemmalaw03.FloatyMax': WHATEVER THE INPUT: true; the input reads as it did. -/
def floatyMaxSpec : ChangeSpec := { name := "floatyMax", fn := fun _ => fun
  | [d] => { results := [.lit (.bool true)], args := [d] }
  | _ => none }
def floatyMaxRow : OpenClaim := { program := "ytlbelgdcicholaa", sum := "1a0cb04de08d635ff6b62b884a7ba6cb1335fe8bfd1855c9700e46ba0cb05bb9", func := "analemma/analemmalaw03.FloatyMax", spec := "floatyMax", inPlace := ["math.Float64bits", "math.Float64frombits", "math.archMax"], apart := false }
def FloatyMaxSaid : Prop := floatyMaxRow.holds Try.pinned (OpenSpec.ofChange floatyMaxSpec)

/-- ITS FALSE NEIGHBOUR: 'it returns false'. Refute it at one input. -/
def floatyMaxWrong : ChangeSpec := { name := "floatyMax", fn := fun _ => fun
  | [d] => { results := [.lit (.bool false)], args := [d] }
  | _ => none }
def FloatyMaxWrongFalsely : Prop := floatyMaxRow.holds Try.pinned (OpenSpec.ofChange floatyMaxWrong)

/-- 'analemmalaw03.FloatyRises': WHATEVER THE INPUT: true; the input reads as it did. -/
def floatyRisesSpec : ChangeSpec := { name := "floatyRises", fn := fun _ => fun
  | [d1, d2] => { results := [.lit (.bool true)], args := [d1, d2] }
  | _ => none }
def floatyRisesRow : OpenClaim := { program := "ytlbelgdcicholaa", sum := "1a0cb04de08d635ff6b62b884a7ba6cb1335fe8bfd1855c9700e46ba0cb05bb9", func := "analemma/analemmalaw03.FloatyRises", spec := "floatyRises", inPlace := ["math.Float64bits", "math.Float64frombits"], apart := false }
def FloatyRisesSaid : Prop := floatyRisesRow.holds Try.pinned (OpenSpec.ofChange floatyRisesSpec)

/-- ITS FALSE NEIGHBOUR: 'it returns false'. Refute it at one input. -/
def floatyRisesWrong : ChangeSpec := { name := "floatyRises", fn := fun _ => fun
  | [d1, d2] => { results := [.lit (.bool false)], args := [d1, d2] }
  | _ => none }
def FloatyRisesWrongFalsely : Prop := floatyRisesRow.holds Try.pinned (OpenSpec.ofChange floatyRisesWrong)

/-- 'analemmalaw03.FloatyBack': WHATEVER THE INPUT: true; the input reads as it did. -/
def floatyBackSpec : ChangeSpec := { name := "floatyBack", fn := fun _ => fun
  | [d1, d2] => { results := [.lit (.bool true)], args := [d1, d2] }
  | _ => none }
def floatyBackRow : OpenClaim := { program := "ytlbelgdcicholaa", sum := "1a0cb04de08d635ff6b62b884a7ba6cb1335fe8bfd1855c9700e46ba0cb05bb9", func := "analemma/analemmalaw03.FloatyBack", spec := "floatyBack", inPlace := ["math.Float64bits", "math.Float64frombits"], apart := false }
def FloatyBackSaid : Prop := floatyBackRow.holds Try.pinned (OpenSpec.ofChange floatyBackSpec)

/-- ITS FALSE NEIGHBOUR: 'it returns false'. Refute it at one input. -/
def floatyBackWrong : ChangeSpec := { name := "floatyBack", fn := fun _ => fun
  | [d1, d2] => { results := [.lit (.bool false)], args := [d1, d2] }
  | _ => none }
def FloatyBackWrongFalsely : Prop := floatyBackRow.holds Try.pinned (OpenSpec.ofChange floatyBackWrong)

/-- 'analemmalaw06.ExtendWalks': WHATEVER THE INPUT: true; the input reads as it did. -/
def extendWalksSpec : ChangeSpec := { name := "extendWalks", fn := fun _ => fun
  | [d] => { results := [.lit (.bool true)], args := [d] }
  | _ => none }
def extendWalksRow : OpenClaim := { program := "ytlbelgdcicholaa", sum := "1a0cb04de08d635ff6b62b884a7ba6cb1335fe8bfd1855c9700e46ba0cb05bb9", func := "analemma/analemmalaw06.ExtendWalks", spec := "extendWalks", inPlace := ["internal/abi.NoEscape"], unfollowed := true, recurses := true, apart := false }
def ExtendWalksSaid : Prop := extendWalksRow.holds Try.pinned (OpenSpec.ofChange extendWalksSpec)

/-- ITS FALSE NEIGHBOUR: 'it returns false'. Refute it at one input. -/
def extendWalksWrong : ChangeSpec := { name := "extendWalks", fn := fun _ => fun
  | [d] => { results := [.lit (.bool false)], args := [d] }
  | _ => none }
def ExtendWalksWrongFalsely : Prop := extendWalksRow.holds Try.pinned (OpenSpec.ofChange extendWalksWrong)

/-- 'analemmalaw06.ExtendJoins': WHATEVER THE INPUT: true; the input reads as it did. -/
def extendJoinsSpec : ChangeSpec := { name := "extendJoins", fn := fun _ => fun
  | [d1, d2] => { results := [.lit (.bool true)], args := [d1, d2] }
  | _ => none }
def extendJoinsRow : OpenClaim := { program := "ytlbelgdcicholaa", sum := "1a0cb04de08d635ff6b62b884a7ba6cb1335fe8bfd1855c9700e46ba0cb05bb9", func := "analemma/analemmalaw06.ExtendJoins", spec := "extendJoins", inPlace := ["internal/abi.NoEscape"], unfollowed := true, recurses := true, apart := false }
def ExtendJoinsSaid : Prop := extendJoinsRow.holds Try.pinned (OpenSpec.ofChange extendJoinsSpec)

/-- ITS FALSE NEIGHBOUR: 'it returns false'. Refute it at one input. -/
def extendJoinsWrong : ChangeSpec := { name := "extendJoins", fn := fun _ => fun
  | [d1, d2] => { results := [.lit (.bool false)], args := [d1, d2] }
  | _ => none }
def ExtendJoinsWrongFalsely : Prop := extendJoinsRow.holds Try.pinned (OpenSpec.ofChange extendJoinsWrong)

/-- 'analemmalaw06.ExtendFields': WHATEVER THE INPUT: true; the input reads as it did. -/
def extendFieldsSpec : ChangeSpec := { name := "extendFields", fn := fun _ => fun
  | [d1, d2, d3, d4] => { results := [.lit (.bool true)], args := [d1, d2, d3, d4] }
  | _ => none }
def extendFieldsRow : OpenClaim := { program := "ytlbelgdcicholaa", sum := "1a0cb04de08d635ff6b62b884a7ba6cb1335fe8bfd1855c9700e46ba0cb05bb9", func := "analemma/analemmalaw06.ExtendFields", spec := "extendFields", inPlace := ["internal/abi.NoEscape"], unfollowed := true, recurses := true, apart := false }
def ExtendFieldsSaid : Prop := extendFieldsRow.holds Try.pinned (OpenSpec.ofChange extendFieldsSpec)

/-- ITS FALSE NEIGHBOUR: 'it returns false'. Refute it at one input. -/
def extendFieldsWrong : ChangeSpec := { name := "extendFields", fn := fun _ => fun
  | [d1, d2, d3, d4] => { results := [.lit (.bool false)], args := [d1, d2, d3, d4] }
  | _ => none }
def ExtendFieldsWrongFalsely : Prop := extendFieldsRow.holds Try.pinned (OpenSpec.ofChange extendFieldsWrong)

/-- 'analemmalaw03.FloatyTells': WHATEVER THE INPUT: true; the input reads as it did. -/
def floatyTellsSpec : ChangeSpec := { name := "floatyTells", fn := fun _ => fun
  | [d1, d2, d3, d4] => { results := [.lit (.bool true)], args := [d1, d2, d3, d4] }
  | _ => none }
def floatyTellsRow : OpenClaim := { program := "ytlbelgdcicholaa", sum := "1a0cb04de08d635ff6b62b884a7ba6cb1335fe8bfd1855c9700e46ba0cb05bb9", func := "analemma/analemmalaw03.FloatyTells", spec := "floatyTells", inPlace := ["math.Float64bits", "math.Float64frombits"], apart := false }
def FloatyTellsSaid : Prop := floatyTellsRow.holds Try.pinned (OpenSpec.ofChange floatyTellsSpec)

/-- ITS FALSE NEIGHBOUR: 'it returns false'. Refute it at one input. -/
def floatyTellsWrong : ChangeSpec := { name := "floatyTells", fn := fun _ => fun
  | [d1, d2, d3, d4] => { results := [.lit (.bool false)], args := [d1, d2, d3, d4] }
  | _ => none }
def FloatyTellsWrongFalsely : Prop := floatyTellsRow.holds Try.pinned (OpenSpec.ofChange floatyTellsWrong)

/- THE SECOND FORM. 'bulk': how many values and letters a reading holds, each counted each time it is reached (what is shared counts as often as it is met; a slice's spare places count too). A statement '..UptoSaid' is the law's where the arguments, and the package variables that the reading takes, are together of bulk at most 1048576: NARROWER than '..Said'. Prove '..Said' where nothing that the law and all that it calls make is longer than what came in: it says more and counts as full. Else prove '..UptoSaid'. A law counts once. -/
mutual
def uptoBulk {H : Type} : DataW H → Nat
  | .lit (.string bytes) => bytes.length + 1
  | .lit _ => 1
  | .nil => 1
  | .ptr d => uptoBulk d + 1
  | .slice elems spare => uptoBulkAll elems + uptoBulkAll spare + 1
  | .agg parts => uptoBulkAll parts + 1
  | .iface _ d => uptoBulk d + 1
  | .map entries => uptoBulkEntries entries + 1
  | .held _ => 1
def uptoBulkAll {H : Type} : List (DataW H) → Nat
  | [] => 0
  | d :: r => uptoBulk d + uptoBulkAll r
def uptoBulkEntries {H : Type} : List (Lit × DataW H) → Nat
  | [] => 0
  | x :: r => uptoBulkEntry x + uptoBulkEntries r
def uptoBulkEntry {H : Type} : Lit × DataW H → Nat
  | (.string bytes, d) => bytes.length + uptoBulk d + 1
  | (_, d) => uptoBulk d + 1
 end
def uptoSmall : (H : Type) → List (DataW H) → Bool := fun _ ds => decide (uptoBulkAll ds ≤ 1048576)
def OpenSpec.upto (s : _root_.Go.ChangeSpec) : _root_.Go.OpenSpec := { _root_.Go.OpenSpec.ofChange s with cond := some uptoSmall }

/-- 'analemmalaw03.FloatyKinds', WHERE WHAT IT READS IS OF BULK AT MOST 1048576: true; the input reads as it did. -/
def floatyKindsUptoRow : OpenClaim := { program := "ytlbelgdcicholaa", sum := "1a0cb04de08d635ff6b62b884a7ba6cb1335fe8bfd1855c9700e46ba0cb05bb9", func := "analemma/analemmalaw03.FloatyKinds", spec := "floatyKinds", inPlace := ["math.Float64bits", "math.Float64frombits"], apart := false, narrowed := true }
def FloatyKindsUptoSaid : Prop := floatyKindsUptoRow.holds Try.pinned (OpenSpec.upto floatyKindsSpec)

/-- 'analemmalaw06.ExtendKisses', WHERE WHAT IT READS IS OF BULK AT MOST 1048576: true; the input reads as it did. -/
def extendKissesUptoRow : OpenClaim := { program := "ytlbelgdcicholaa", sum := "1a0cb04de08d635ff6b62b884a7ba6cb1335fe8bfd1855c9700e46ba0cb05bb9", func := "analemma/analemmalaw06.ExtendKisses", spec := "extendKisses", unfollowed := true, recurses := true, apart := false, narrowed := true }
def ExtendKissesUptoSaid : Prop := extendKissesUptoRow.holds Try.pinned (OpenSpec.upto extendKissesSpec)

/-- 'analemmalaw06.ExtendMacs', WHERE WHAT IT READS IS OF BULK AT MOST 1048576: true; the input reads as it did. -/
def extendMacsUptoRow : OpenClaim := { program := "ytlbelgdcicholaa", sum := "1a0cb04de08d635ff6b62b884a7ba6cb1335fe8bfd1855c9700e46ba0cb05bb9", func := "analemma/analemmalaw06.ExtendMacs", spec := "extendMacs", unfollowed := true, recurses := true, apart := false, narrowed := true }
def ExtendMacsUptoSaid : Prop := extendMacsUptoRow.holds Try.pinned (OpenSpec.upto extendMacsSpec)

/-- 'analemmalaw03.FloatyWithin', WHERE WHAT IT READS IS OF BULK AT MOST 1048576: true; the input reads as it did. -/
def floatyWithinUptoRow : OpenClaim := { program := "ytlbelgdcicholaa", sum := "1a0cb04de08d635ff6b62b884a7ba6cb1335fe8bfd1855c9700e46ba0cb05bb9", func := "analemma/analemmalaw03.FloatyWithin", spec := "floatyWithin", inPlace := ["math.Float64bits", "math.Float64frombits"], apart := false, narrowed := true }
def FloatyWithinUptoSaid : Prop := floatyWithinUptoRow.holds Try.pinned (OpenSpec.upto floatyWithinSpec)

/-- 'analemmalaw03.FloatyMax', WHERE WHAT IT READS IS OF BULK AT MOST 1048576: true; the input reads as it did. -/
def floatyMaxUptoRow : OpenClaim := { program := "ytlbelgdcicholaa", sum := "1a0cb04de08d635ff6b62b884a7ba6cb1335fe8bfd1855c9700e46ba0cb05bb9", func := "analemma/analemmalaw03.FloatyMax", spec := "floatyMax", inPlace := ["math.Float64bits", "math.Float64frombits", "math.archMax"], apart := false, narrowed := true }
def FloatyMaxUptoSaid : Prop := floatyMaxUptoRow.holds Try.pinned (OpenSpec.upto floatyMaxSpec)

/-- 'analemmalaw03.FloatyRises', WHERE WHAT IT READS IS OF BULK AT MOST 1048576: true; the input reads as it did. -/
def floatyRisesUptoRow : OpenClaim := { program := "ytlbelgdcicholaa", sum := "1a0cb04de08d635ff6b62b884a7ba6cb1335fe8bfd1855c9700e46ba0cb05bb9", func := "analemma/analemmalaw03.FloatyRises", spec := "floatyRises", inPlace := ["math.Float64bits", "math.Float64frombits"], apart := false, narrowed := true }
def FloatyRisesUptoSaid : Prop := floatyRisesUptoRow.holds Try.pinned (OpenSpec.upto floatyRisesSpec)

/-- 'analemmalaw03.FloatyBack', WHERE WHAT IT READS IS OF BULK AT MOST 1048576: true; the input reads as it did. -/
def floatyBackUptoRow : OpenClaim := { program := "ytlbelgdcicholaa", sum := "1a0cb04de08d635ff6b62b884a7ba6cb1335fe8bfd1855c9700e46ba0cb05bb9", func := "analemma/analemmalaw03.FloatyBack", spec := "floatyBack", inPlace := ["math.Float64bits", "math.Float64frombits"], apart := false, narrowed := true }
def FloatyBackUptoSaid : Prop := floatyBackUptoRow.holds Try.pinned (OpenSpec.upto floatyBackSpec)

/-- 'analemmalaw06.ExtendWalks', WHERE WHAT IT READS IS OF BULK AT MOST 1048576: true; the input reads as it did. -/
def extendWalksUptoRow : OpenClaim := { program := "ytlbelgdcicholaa", sum := "1a0cb04de08d635ff6b62b884a7ba6cb1335fe8bfd1855c9700e46ba0cb05bb9", func := "analemma/analemmalaw06.ExtendWalks", spec := "extendWalks", inPlace := ["internal/abi.NoEscape"], unfollowed := true, recurses := true, apart := false, narrowed := true }
def ExtendWalksUptoSaid : Prop := extendWalksUptoRow.holds Try.pinned (OpenSpec.upto extendWalksSpec)

/-- 'analemmalaw06.ExtendJoins', WHERE WHAT IT READS IS OF BULK AT MOST 1048576: true; the input reads as it did. -/
def extendJoinsUptoRow : OpenClaim := { program := "ytlbelgdcicholaa", sum := "1a0cb04de08d635ff6b62b884a7ba6cb1335fe8bfd1855c9700e46ba0cb05bb9", func := "analemma/analemmalaw06.ExtendJoins", spec := "extendJoins", inPlace := ["internal/abi.NoEscape"], unfollowed := true, recurses := true, apart := false, narrowed := true }
def ExtendJoinsUptoSaid : Prop := extendJoinsUptoRow.holds Try.pinned (OpenSpec.upto extendJoinsSpec)

/-- 'analemmalaw06.ExtendFields', WHERE WHAT IT READS IS OF BULK AT MOST 1048576: true; the input reads as it did. -/
def extendFieldsUptoRow : OpenClaim := { program := "ytlbelgdcicholaa", sum := "1a0cb04de08d635ff6b62b884a7ba6cb1335fe8bfd1855c9700e46ba0cb05bb9", func := "analemma/analemmalaw06.ExtendFields", spec := "extendFields", inPlace := ["internal/abi.NoEscape"], unfollowed := true, recurses := true, apart := false, narrowed := true }
def ExtendFieldsUptoSaid : Prop := extendFieldsUptoRow.holds Try.pinned (OpenSpec.upto extendFieldsSpec)

/-- 'analemmalaw03.FloatyTells', WHERE WHAT IT READS IS OF BULK AT MOST 1048576: true; the input reads as it did. -/
def floatyTellsUptoRow : OpenClaim := { program := "ytlbelgdcicholaa", sum := "1a0cb04de08d635ff6b62b884a7ba6cb1335fe8bfd1855c9700e46ba0cb05bb9", func := "analemma/analemmalaw03.FloatyTells", spec := "floatyTells", inPlace := ["math.Float64bits", "math.Float64frombits"], apart := false, narrowed := true }
def FloatyTellsUptoSaid : Prop := floatyTellsUptoRow.holds Try.pinned (OpenSpec.upto floatyTellsSpec)

end Rows
end Go.Proofs.Ytlbelgdcicholaa
