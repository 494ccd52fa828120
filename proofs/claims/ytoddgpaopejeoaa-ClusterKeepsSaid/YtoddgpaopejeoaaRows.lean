/-
  No cell of these rows narrows 'for every input' (looked for: loops, veiled, ifaces, maps, wideKeys, modest, calm, conditions, laid).
  DERIVED. THE GIVEN ROWS OF THIS SEAT. 9 by the template 'for every input the law returns true; each argument reads behind the call as it read before'; 0 by the template 'total and deterministic' (their statements: YtoddgpaopejeoaaTotals.lean).
  GIVEN WITH THE SEED: the statements are not yours to turn. If you find one false, say at which input.
  Laid BY PROGRAM, IN A SANDBOX (cutbox-rows.mjs): the forced cells as the released guide's own fill.sh prints them over the translation a9f31a56029c13f7… (all of the seat's roots in one cut). By AI agents, Wed Nov 11 2026. No macro, syntax, notation, axiom, sorry.
-/
import Derived.Test.YtoddgpaopejeoaaChecked
import GoSem.Claim
import GoSem.ClaimJoined
import GoSem.ClaimMapViews
import Derived.JoinedTies
import Derived.KernelRfl
namespace Go.Proofs.Ytoddgpaopejeoaa
/- THE CELL 'sum', in the pinned program and in every row, IS THE sha256 OF THE DUMP (.gsa) THAT YtoddgpaopejeoaaProg.lean LOADS. Nothing in Lean hashes anything: it is a label: what it is worth is what the hold of that sum in a sandbox is worth. -/
noncomputable def Try.pinned : Pinned := { name := "ytoddgpaopejeoaa", sum := "a9f31a56029c13f7063c12e6c90f83ba198056789790d1562a16d89321ff78a5", checked := Try.checked }
namespace Rows
def none {H : Type} : Left H := { results := [], args := [] }

/-- 'analemmalaw07.LedgerForward': WHATEVER THE INPUT: true; the input reads as it did. -/
def ledgerForwardSpec : ChangeSpec := { name := "ledgerForward", fn := fun _ => fun
  | [d1, d2, d3, d4] => { results := [.lit (.bool true)], args := [d1, d2, d3, d4] }
  | _ => none }
def ledgerForwardRow : OpenClaim := { program := "ytoddgpaopejeoaa", sum := "a9f31a56029c13f7063c12e6c90f83ba198056789790d1562a16d89321ff78a5", func := "analemma/analemmalaw07.LedgerForward", spec := "ledgerForward", unfollowed := true, recurses := true, apart := false }
def LedgerForwardSaid : Prop := ledgerForwardRow.holds Try.pinned (OpenSpec.ofChange ledgerForwardSpec)

/-- ITS FALSE NEIGHBOUR: 'it returns false'. Refute it at one input. -/
def ledgerForwardWrong : ChangeSpec := { name := "ledgerForward", fn := fun _ => fun
  | [d1, d2, d3, d4] => { results := [.lit (.bool false)], args := [d1, d2, d3, d4] }
  | _ => none }
def LedgerForwardWrongFalsely : Prop := ledgerForwardRow.holds Try.pinned (OpenSpec.ofChange ledgerForwardWrong)

/-- 'analemmalaw07.LedgerSince': WHATEVER THE INPUT: true; the input reads as it did. -/
def ledgerSinceSpec : ChangeSpec := { name := "ledgerSince", fn := fun _ => fun
  | [d1, d2, d3, d4] => { results := [.lit (.bool true)], args := [d1, d2, d3, d4] }
  | _ => none }
def ledgerSinceRow : OpenClaim := { program := "ytoddgpaopejeoaa", sum := "a9f31a56029c13f7063c12e6c90f83ba198056789790d1562a16d89321ff78a5", func := "analemma/analemmalaw07.LedgerSince", spec := "ledgerSince", unfollowed := true, recurses := true, apart := false }
def LedgerSinceSaid : Prop := ledgerSinceRow.holds Try.pinned (OpenSpec.ofChange ledgerSinceSpec)

/-- ITS FALSE NEIGHBOUR: 'it returns false'. Refute it at one input. -/
def ledgerSinceWrong : ChangeSpec := { name := "ledgerSince", fn := fun _ => fun
  | [d1, d2, d3, d4] => { results := [.lit (.bool false)], args := [d1, d2, d3, d4] }
  | _ => none }
def LedgerSinceWrongFalsely : Prop := ledgerSinceRow.holds Try.pinned (OpenSpec.ofChange ledgerSinceWrong)

/-- 'analemmalaw07.LedgerOld': WHATEVER THE INPUT: true; the input reads as it did. -/
def ledgerOldSpec : ChangeSpec := { name := "ledgerOld", fn := fun _ => fun
  | [d1, d2, d3, d4] => { results := [.lit (.bool true)], args := [d1, d2, d3, d4] }
  | _ => none }
def ledgerOldRow : OpenClaim := { program := "ytoddgpaopejeoaa", sum := "a9f31a56029c13f7063c12e6c90f83ba198056789790d1562a16d89321ff78a5", func := "analemma/analemmalaw07.LedgerOld", spec := "ledgerOld", unfollowed := true, recurses := true, apart := false }
def LedgerOldSaid : Prop := ledgerOldRow.holds Try.pinned (OpenSpec.ofChange ledgerOldSpec)

/-- ITS FALSE NEIGHBOUR: 'it returns false'. Refute it at one input. -/
def ledgerOldWrong : ChangeSpec := { name := "ledgerOld", fn := fun _ => fun
  | [d1, d2, d3, d4] => { results := [.lit (.bool false)], args := [d1, d2, d3, d4] }
  | _ => none }
def LedgerOldWrongFalsely : Prop := ledgerOldRow.holds Try.pinned (OpenSpec.ofChange ledgerOldWrong)

/-- 'analemmalaw07.LedgerActs': WHATEVER THE INPUT: true; the input reads as it did. -/
def ledgerActsSpec : ChangeSpec := { name := "ledgerActs", fn := fun _ => fun
  | [d1, d2, d3] => { results := [.lit (.bool true)], args := [d1, d2, d3] }
  | _ => none }
def ledgerActsRow : OpenClaim := { program := "ytoddgpaopejeoaa", sum := "a9f31a56029c13f7063c12e6c90f83ba198056789790d1562a16d89321ff78a5", func := "analemma/analemmalaw07.LedgerActs", spec := "ledgerActs", unfollowed := true, recurses := true, apart := false }
def LedgerActsSaid : Prop := ledgerActsRow.holds Try.pinned (OpenSpec.ofChange ledgerActsSpec)

/-- ITS FALSE NEIGHBOUR: 'it returns false'. Refute it at one input. -/
def ledgerActsWrong : ChangeSpec := { name := "ledgerActs", fn := fun _ => fun
  | [d1, d2, d3] => { results := [.lit (.bool false)], args := [d1, d2, d3] }
  | _ => none }
def LedgerActsWrongFalsely : Prop := ledgerActsRow.holds Try.pinned (OpenSpec.ofChange ledgerActsWrong)

/-- 'analemmalaw17.ClusterTells': WHATEVER THE INPUT: true; the input reads as it did. -/
def clusterTellsSpec : ChangeSpec := { name := "clusterTells", fn := fun _ => fun
  | [d1, d2, d3] => { results := [.lit (.bool true)], args := [d1, d2, d3] }
  | _ => none }
def clusterTellsRow : OpenClaim := { program := "ytoddgpaopejeoaa", sum := "a9f31a56029c13f7063c12e6c90f83ba198056789790d1562a16d89321ff78a5", func := "analemma/analemmalaw17.ClusterTells", spec := "clusterTells", unfollowed := true, recurses := true, apart := false }
def ClusterTellsSaid : Prop := clusterTellsRow.holds Try.pinned (OpenSpec.ofChange clusterTellsSpec)

/-- ITS FALSE NEIGHBOUR: 'it returns false'. Refute it at one input. -/
def clusterTellsWrong : ChangeSpec := { name := "clusterTells", fn := fun _ => fun
  | [d1, d2, d3] => { results := [.lit (.bool false)], args := [d1, d2, d3] }
  | _ => none }
def ClusterTellsWrongFalsely : Prop := clusterTellsRow.holds Try.pinned (OpenSpec.ofChange clusterTellsWrong)

/-- 'analemmalaw17.ClusterKeeps': WHATEVER THE INPUT: true; the input reads as it did. -/
def clusterKeepsSpec : ChangeSpec := { name := "clusterKeeps", fn := fun _ => fun
  | [d1, d2] => { results := [.lit (.bool true)], args := [d1, d2] }
  | _ => none }
def clusterKeepsRow : OpenClaim := { program := "ytoddgpaopejeoaa", sum := "a9f31a56029c13f7063c12e6c90f83ba198056789790d1562a16d89321ff78a5", func := "analemma/analemmalaw17.ClusterKeeps", spec := "clusterKeeps", unfollowed := true, recurses := true, apart := false }
def ClusterKeepsSaid : Prop := clusterKeepsRow.holds Try.pinned (OpenSpec.ofChange clusterKeepsSpec)

/-- ITS FALSE NEIGHBOUR: 'it returns false'. Refute it at one input. -/
def clusterKeepsWrong : ChangeSpec := { name := "clusterKeeps", fn := fun _ => fun
  | [d1, d2] => { results := [.lit (.bool false)], args := [d1, d2] }
  | _ => none }
def ClusterKeepsWrongFalsely : Prop := clusterKeepsRow.holds Try.pinned (OpenSpec.ofChange clusterKeepsWrong)

/-- 'analemmalaw17.ClusterAgrees': WHATEVER THE INPUT: true; the input reads as it did. -/
def clusterAgreesSpec : ChangeSpec := { name := "clusterAgrees", fn := fun _ => fun
  | [d1, d2, d3, d4, d5] => { results := [.lit (.bool true)], args := [d1, d2, d3, d4, d5] }
  | _ => none }
def clusterAgreesRow : OpenClaim := { program := "ytoddgpaopejeoaa", sum := "a9f31a56029c13f7063c12e6c90f83ba198056789790d1562a16d89321ff78a5", func := "analemma/analemmalaw17.ClusterAgrees", spec := "clusterAgrees", unfollowed := true, recurses := true, apart := false }
def ClusterAgreesSaid : Prop := clusterAgreesRow.holds Try.pinned (OpenSpec.ofChange clusterAgreesSpec)

/-- ITS FALSE NEIGHBOUR: 'it returns false'. Refute it at one input. -/
def clusterAgreesWrong : ChangeSpec := { name := "clusterAgrees", fn := fun _ => fun
  | [d1, d2, d3, d4, d5] => { results := [.lit (.bool false)], args := [d1, d2, d3, d4, d5] }
  | _ => none }
def ClusterAgreesWrongFalsely : Prop := clusterAgreesRow.holds Try.pinned (OpenSpec.ofChange clusterAgreesWrong)

/-- 'analemmalaw17.ClusterMoves': WHATEVER THE INPUT: true; the input reads as it did. -/
def clusterMovesSpec : ChangeSpec := { name := "clusterMoves", fn := fun _ => fun
  | [d1, d2, d3, d4] => { results := [.lit (.bool true)], args := [d1, d2, d3, d4] }
  | _ => none }
def clusterMovesRow : OpenClaim := { program := "ytoddgpaopejeoaa", sum := "a9f31a56029c13f7063c12e6c90f83ba198056789790d1562a16d89321ff78a5", func := "analemma/analemmalaw17.ClusterMoves", spec := "clusterMoves", unfollowed := true, recurses := true, apart := false }
def ClusterMovesSaid : Prop := clusterMovesRow.holds Try.pinned (OpenSpec.ofChange clusterMovesSpec)

/-- ITS FALSE NEIGHBOUR: 'it returns false'. Refute it at one input. -/
def clusterMovesWrong : ChangeSpec := { name := "clusterMoves", fn := fun _ => fun
  | [d1, d2, d3, d4] => { results := [.lit (.bool false)], args := [d1, d2, d3, d4] }
  | _ => none }
def ClusterMovesWrongFalsely : Prop := clusterMovesRow.holds Try.pinned (OpenSpec.ofChange clusterMovesWrong)

/-- 'analemmalaw17.ClusterFar': WHATEVER THE INPUT: true; the input reads as it did. -/
def clusterFarSpec : ChangeSpec := { name := "clusterFar", fn := fun _ => fun
  | [d1, d2, d3] => { results := [.lit (.bool true)], args := [d1, d2, d3] }
  | _ => none }
def clusterFarRow : OpenClaim := { program := "ytoddgpaopejeoaa", sum := "a9f31a56029c13f7063c12e6c90f83ba198056789790d1562a16d89321ff78a5", func := "analemma/analemmalaw17.ClusterFar", spec := "clusterFar", unfollowed := true, recurses := true, apart := false }
def ClusterFarSaid : Prop := clusterFarRow.holds Try.pinned (OpenSpec.ofChange clusterFarSpec)

/-- ITS FALSE NEIGHBOUR: 'it returns false'. Refute it at one input. -/
def clusterFarWrong : ChangeSpec := { name := "clusterFar", fn := fun _ => fun
  | [d1, d2, d3] => { results := [.lit (.bool false)], args := [d1, d2, d3] }
  | _ => none }
def ClusterFarWrongFalsely : Prop := clusterFarRow.holds Try.pinned (OpenSpec.ofChange clusterFarWrong)

/- THE SECOND FORM. 'bulk': how many values and letters a reading holds, each counted each time it is reached (what is shared counts as often as it is met; a slice's spare places count too). A statement '..UptoSaid' is the law's where the arguments, and the package variables that the reading takes, are together of bulk at most 1048576: NARROWER than '..Said'. Prove '..Said' where nothing that the law and all that it calls make is longer than what came in: it says more and counts as full. Else prove '..UptoSaid'. A law counts once. -/
mutual
def uptoBulk {H : Type} : DataW H → Nat
  | .lit (.string bytes) => bytes.length + 1
  | .lit _ => 1
  | .nil => 1
  | .ptr d => uptoBulk d + 1
  | .slice elems spare => uptoBulkAll elems + uptoBulkAll spare + 1
  | .agg parts => uptoBulkAll parts + 1
  | .iface _ d => uptoBulk d + 1
  | .map entries => uptoBulkEntries entries + 1
  | .held _ => 1
def uptoBulkAll {H : Type} : List (DataW H) → Nat
  | [] => 0
  | d :: r => uptoBulk d + uptoBulkAll r
def uptoBulkEntries {H : Type} : List (Lit × DataW H) → Nat
  | [] => 0
  | x :: r => uptoBulkEntry x + uptoBulkEntries r
def uptoBulkEntry {H : Type} : Lit × DataW H → Nat
  | (.string bytes, d) => bytes.length + uptoBulk d + 1
  | (_, d) => uptoBulk d + 1
 end
def uptoSmall : (H : Type) → List (DataW H) → Bool := fun _ ds => decide (uptoBulkAll ds ≤ 1048576)
def OpenSpec.upto (s : _root_.Go.ChangeSpec) : _root_.Go.OpenSpec := { _root_.Go.OpenSpec.ofChange s with cond := some uptoSmall }

/-- 'analemmalaw07.LedgerForward', WHERE WHAT IT READS IS OF BULK AT MOST 1048576: true; the input reads as it did. -/
def ledgerForwardUptoRow : OpenClaim := { program := "ytoddgpaopejeoaa", sum := "a9f31a56029c13f7063c12e6c90f83ba198056789790d1562a16d89321ff78a5", func := "analemma/analemmalaw07.LedgerForward", spec := "ledgerForward", unfollowed := true, recurses := true, apart := false, narrowed := true }
def LedgerForwardUptoSaid : Prop := ledgerForwardUptoRow.holds Try.pinned (OpenSpec.upto ledgerForwardSpec)

/-- 'analemmalaw07.LedgerSince', WHERE WHAT IT READS IS OF BULK AT MOST 1048576: true; the input reads as it did. -/
def ledgerSinceUptoRow : OpenClaim := { program := "ytoddgpaopejeoaa", sum := "a9f31a56029c13f7063c12e6c90f83ba198056789790d1562a16d89321ff78a5", func := "analemma/analemmalaw07.LedgerSince", spec := "ledgerSince", unfollowed := true, recurses := true, apart := false, narrowed := true }
def LedgerSinceUptoSaid : Prop := ledgerSinceUptoRow.holds Try.pinned (OpenSpec.upto ledgerSinceSpec)

/-- 'analemmalaw07.LedgerOld', WHERE WHAT IT READS IS OF BULK AT MOST 1048576: true; the input reads as it did. -/
def ledgerOldUptoRow : OpenClaim := { program := "ytoddgpaopejeoaa", sum := "a9f31a56029c13f7063c12e6c90f83ba198056789790d1562a16d89321ff78a5", func := "analemma/analemmalaw07.LedgerOld", spec := "ledgerOld", unfollowed := true, recurses := true, apart := false, narrowed := true }
def LedgerOldUptoSaid : Prop := ledgerOldUptoRow.holds Try.pinned (OpenSpec.upto ledgerOldSpec)

/-- 'analemmalaw07.LedgerActs', WHERE WHAT IT READS IS OF BULK AT MOST 1048576: true; the input reads as it did. -/
def ledgerActsUptoRow : OpenClaim := { program := "ytoddgpaopejeoaa", sum := "a9f31a56029c13f7063c12e6c90f83ba198056789790d1562a16d89321ff78a5", func := "analemma/analemmalaw07.LedgerActs", spec := "ledgerActs", unfollowed := true, recurses := true, apart := false, narrowed := true }
def LedgerActsUptoSaid : Prop := ledgerActsUptoRow.holds Try.pinned (OpenSpec.upto ledgerActsSpec)

/-- 'analemmalaw17.ClusterTells', WHERE WHAT IT READS IS OF BULK AT MOST 1048576: true; the input reads as it did. -/
def clusterTellsUptoRow : OpenClaim := { program := "ytoddgpaopejeoaa", sum := "a9f31a56029c13f7063c12e6c90f83ba198056789790d1562a16d89321ff78a5", func := "analemma/analemmalaw17.ClusterTells", spec := "clusterTells", unfollowed := true, recurses := true, apart := false, narrowed := true }
def ClusterTellsUptoSaid : Prop := clusterTellsUptoRow.holds Try.pinned (OpenSpec.upto clusterTellsSpec)

/-- 'analemmalaw17.ClusterKeeps', WHERE WHAT IT READS IS OF BULK AT MOST 1048576: true; the input reads as it did. -/
def clusterKeepsUptoRow : OpenClaim := { program := "ytoddgpaopejeoaa", sum := "a9f31a56029c13f7063c12e6c90f83ba198056789790d1562a16d89321ff78a5", func := "analemma/analemmalaw17.ClusterKeeps", spec := "clusterKeeps", unfollowed := true, recurses := true, apart := false, narrowed := true }
def ClusterKeepsUptoSaid : Prop := clusterKeepsUptoRow.holds Try.pinned (OpenSpec.upto clusterKeepsSpec)

/-- 'analemmalaw17.ClusterAgrees', WHERE WHAT IT READS IS OF BULK AT MOST 1048576: true; the input reads as it did. -/
def clusterAgreesUptoRow : OpenClaim := { program := "ytoddgpaopejeoaa", sum := "a9f31a56029c13f7063c12e6c90f83ba198056789790d1562a16d89321ff78a5", func := "analemma/analemmalaw17.ClusterAgrees", spec := "clusterAgrees", unfollowed := true, recurses := true, apart := false, narrowed := true }
def ClusterAgreesUptoSaid : Prop := clusterAgreesUptoRow.holds Try.pinned (OpenSpec.upto clusterAgreesSpec)

/-- 'analemmalaw17.ClusterMoves', WHERE WHAT IT READS IS OF BULK AT MOST 1048576: true; the input reads as it did. -/
def clusterMovesUptoRow : OpenClaim := { program := "ytoddgpaopejeoaa", sum := "a9f31a56029c13f7063c12e6c90f83ba198056789790d1562a16d89321ff78a5", func := "analemma/analemmalaw17.ClusterMoves", spec := "clusterMoves", unfollowed := true, recurses := true, apart := false, narrowed := true }
def ClusterMovesUptoSaid : Prop := clusterMovesUptoRow.holds Try.pinned (OpenSpec.upto clusterMovesSpec)

/-- 'analemmalaw17.ClusterFar', WHERE WHAT IT READS IS OF BULK AT MOST 1048576: true; the input reads as it did. -/
def clusterFarUptoRow : OpenClaim := { program := "ytoddgpaopejeoaa", sum := "a9f31a56029c13f7063c12e6c90f83ba198056789790d1562a16d89321ff78a5", func := "analemma/analemmalaw17.ClusterFar", spec := "clusterFar", unfollowed := true, recurses := true, apart := false, narrowed := true }
def ClusterFarUptoSaid : Prop := clusterFarUptoRow.holds Try.pinned (OpenSpec.upto clusterFarSpec)

end Rows
end Go.Proofs.Ytoddgpaopejeoaa
