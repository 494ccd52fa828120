/-
  No cell of these rows narrows 'for every input' (looked for: loops, veiled, ifaces, maps, wideKeys, modest, calm, conditions, laid).
  DERIVED. THE GIVEN ROWS OF THIS SEAT. 8 by the template 'for every input the law returns true; each argument reads behind the call as it read before'; 0 by the template 'total and deterministic' (their statements: YtanpjfejnlfpmaaTotals.lean).
  GIVEN WITH THE SEED: the statements are not yours to turn. If you find one false, say at which input.
  Laid BY PROGRAM, IN A SANDBOX (cutbox-rows.mjs): the forced cells as the released guide's own fill.sh prints them over the translation df6a94b4bd7da95c… (all of the seat's roots in one cut). By AI agents, Wed Nov 11 2026. No macro, syntax, notation, axiom, sorry.
-/
import Derived.Test.YtanpjfejnlfpmaaChecked
import GoSem.Claim
import GoSem.ClaimJoined
import GoSem.ClaimMapViews
import Derived.JoinedTies
import Derived.KernelRfl
namespace Go.Proofs.Ytanpjfejnlfpmaa
/- THE CELL 'sum', in the pinned program and in every row, IS THE sha256 OF THE DUMP (.gsa) THAT YtanpjfejnlfpmaaProg.lean LOADS. Nothing in Lean hashes anything: it is a label: what it is worth is what the hold of that sum in a sandbox is worth. -/
noncomputable def Try.pinned : Pinned := { name := "ytanpjfejnlfpmaa", sum := "df6a94b4bd7da95c169cab7e1be62c8f08f890e78b9823eee4716a9607777e9c", checked := Try.checked }
namespace Rows
def none {H : Type} : Left H := { results := [], args := [] }

/-- 'analemmalaw01.WideLogs': WHATEVER THE INPUT: true; the input reads as it did. -/
def wideLogsSpec : ChangeSpec := { name := "wideLogs", fn := fun _ => fun
  | [d1, d2] => { results := [.lit (.bool true)], args := [d1, d2] }
  | _ => none }
def wideLogsRow : OpenClaim := { program := "ytanpjfejnlfpmaa", sum := "df6a94b4bd7da95c169cab7e1be62c8f08f890e78b9823eee4716a9607777e9c", func := "analemma/analemmalaw01.WideLogs", spec := "wideLogs", apart := false }
def WideLogsSaid : Prop := wideLogsRow.holds Try.pinned (OpenSpec.ofChange wideLogsSpec)

/-- ITS FALSE NEIGHBOUR: 'it returns false'. Refute it at one input. -/
def wideLogsWrong : ChangeSpec := { name := "wideLogs", fn := fun _ => fun
  | [d1, d2] => { results := [.lit (.bool false)], args := [d1, d2] }
  | _ => none }
def WideLogsWrongFalsely : Prop := wideLogsRow.holds Try.pinned (OpenSpec.ofChange wideLogsWrong)

/-- 'analemmalaw01.WideBack': WHATEVER THE INPUT: true; the input reads as it did. -/
def wideBackSpec : ChangeSpec := { name := "wideBack", fn := fun _ => fun
  | [d1, d2, d3] => { results := [.lit (.bool true)], args := [d1, d2, d3] }
  | _ => none }
def wideBackRow : OpenClaim := { program := "ytanpjfejnlfpmaa", sum := "df6a94b4bd7da95c169cab7e1be62c8f08f890e78b9823eee4716a9607777e9c", func := "analemma/analemmalaw01.WideBack", spec := "wideBack", apart := false }
def WideBackSaid : Prop := wideBackRow.holds Try.pinned (OpenSpec.ofChange wideBackSpec)

/-- ITS FALSE NEIGHBOUR: 'it returns false'. Refute it at one input. -/
def wideBackWrong : ChangeSpec := { name := "wideBack", fn := fun _ => fun
  | [d1, d2, d3] => { results := [.lit (.bool false)], args := [d1, d2, d3] }
  | _ => none }
def WideBackWrongFalsely : Prop := wideBackRow.holds Try.pinned (OpenSpec.ofChange wideBackWrong)

/-- 'analemmalaw01.WideShares': WHATEVER THE INPUT: true; the input reads as it did. -/
def wideSharesSpec : ChangeSpec := { name := "wideShares", fn := fun _ => fun
  | [d1, d2, d3] => { results := [.lit (.bool true)], args := [d1, d2, d3] }
  | _ => none }
def wideSharesRow : OpenClaim := { program := "ytanpjfejnlfpmaa", sum := "df6a94b4bd7da95c169cab7e1be62c8f08f890e78b9823eee4716a9607777e9c", func := "analemma/analemmalaw01.WideShares", spec := "wideShares", apart := false }
def WideSharesSaid : Prop := wideSharesRow.holds Try.pinned (OpenSpec.ofChange wideSharesSpec)

/-- ITS FALSE NEIGHBOUR: 'it returns false'. Refute it at one input. -/
def wideSharesWrong : ChangeSpec := { name := "wideShares", fn := fun _ => fun
  | [d1, d2, d3] => { results := [.lit (.bool false)], args := [d1, d2, d3] }
  | _ => none }
def WideSharesWrongFalsely : Prop := wideSharesRow.holds Try.pinned (OpenSpec.ofChange wideSharesWrong)

/-- 'analemmalaw01.WideSums': WHATEVER THE INPUT: true; the input reads as it did. -/
def wideSumsSpec : ChangeSpec := { name := "wideSums", fn := fun _ => fun
  | [d1, d2, d3, d4] => { results := [.lit (.bool true)], args := [d1, d2, d3, d4] }
  | _ => none }
def wideSumsRow : OpenClaim := { program := "ytanpjfejnlfpmaa", sum := "df6a94b4bd7da95c169cab7e1be62c8f08f890e78b9823eee4716a9607777e9c", func := "analemma/analemmalaw01.WideSums", spec := "wideSums", apart := false }
def WideSumsSaid : Prop := wideSumsRow.holds Try.pinned (OpenSpec.ofChange wideSumsSpec)

/-- ITS FALSE NEIGHBOUR: 'it returns false'. Refute it at one input. -/
def wideSumsWrong : ChangeSpec := { name := "wideSums", fn := fun _ => fun
  | [d1, d2, d3, d4] => { results := [.lit (.bool false)], args := [d1, d2, d3, d4] }
  | _ => none }
def WideSumsWrongFalsely : Prop := wideSumsRow.holds Try.pinned (OpenSpec.ofChange wideSumsWrong)

/-- 'analemmalaw01.WideRoots': WHATEVER THE INPUT: true; the input reads as it did. -/
def wideRootsSpec : ChangeSpec := { name := "wideRoots", fn := fun _ => fun
  | [d1, d2] => { results := [.lit (.bool true)], args := [d1, d2] }
  | _ => none }
def wideRootsRow : OpenClaim := { program := "ytanpjfejnlfpmaa", sum := "df6a94b4bd7da95c169cab7e1be62c8f08f890e78b9823eee4716a9607777e9c", func := "analemma/analemmalaw01.WideRoots", spec := "wideRoots", apart := false }
def WideRootsSaid : Prop := wideRootsRow.holds Try.pinned (OpenSpec.ofChange wideRootsSpec)

/-- ITS FALSE NEIGHBOUR: 'it returns false'. Refute it at one input. -/
def wideRootsWrong : ChangeSpec := { name := "wideRoots", fn := fun _ => fun
  | [d1, d2] => { results := [.lit (.bool false)], args := [d1, d2] }
  | _ => none }
def WideRootsWrongFalsely : Prop := wideRootsRow.holds Try.pinned (OpenSpec.ofChange wideRootsWrong)

/-- 'analemmalaw01.WideRises': WHATEVER THE INPUT: true; the input reads as it did. -/
def wideRisesSpec : ChangeSpec := { name := "wideRises", fn := fun _ => fun
  | [d1, d2, d3, d4] => { results := [.lit (.bool true)], args := [d1, d2, d3, d4] }
  | _ => none }
def wideRisesRow : OpenClaim := { program := "ytanpjfejnlfpmaa", sum := "df6a94b4bd7da95c169cab7e1be62c8f08f890e78b9823eee4716a9607777e9c", func := "analemma/analemmalaw01.WideRises", spec := "wideRises", apart := false }
def WideRisesSaid : Prop := wideRisesRow.holds Try.pinned (OpenSpec.ofChange wideRisesSpec)

/-- ITS FALSE NEIGHBOUR: 'it returns false'. Refute it at one input. -/
def wideRisesWrong : ChangeSpec := { name := "wideRises", fn := fun _ => fun
  | [d1, d2, d3, d4] => { results := [.lit (.bool false)], args := [d1, d2, d3, d4] }
  | _ => none }
def WideRisesWrongFalsely : Prop := wideRisesRow.holds Try.pinned (OpenSpec.ofChange wideRisesWrong)

/-- 'analemmalaw01.WideSquares': WHATEVER THE INPUT: true; the input reads as it did. -/
def wideSquaresSpec : ChangeSpec := { name := "wideSquares", fn := fun _ => fun
  | [d1, d2] => { results := [.lit (.bool true)], args := [d1, d2] }
  | _ => none }
def wideSquaresRow : OpenClaim := { program := "ytanpjfejnlfpmaa", sum := "df6a94b4bd7da95c169cab7e1be62c8f08f890e78b9823eee4716a9607777e9c", func := "analemma/analemmalaw01.WideSquares", spec := "wideSquares", apart := false }
def WideSquaresSaid : Prop := wideSquaresRow.holds Try.pinned (OpenSpec.ofChange wideSquaresSpec)

/-- ITS FALSE NEIGHBOUR: 'it returns false'. Refute it at one input. -/
def wideSquaresWrong : ChangeSpec := { name := "wideSquares", fn := fun _ => fun
  | [d1, d2] => { results := [.lit (.bool false)], args := [d1, d2] }
  | _ => none }
def WideSquaresWrongFalsely : Prop := wideSquaresRow.holds Try.pinned (OpenSpec.ofChange wideSquaresWrong)

/-- 'analemmalaw01.WideTells': WHATEVER THE INPUT: true; the input reads as it did. -/
def wideTellsSpec : ChangeSpec := { name := "wideTells", fn := fun _ => fun
  | [d1, d2, d3, d4] => { results := [.lit (.bool true)], args := [d1, d2, d3, d4] }
  | _ => none }
def wideTellsRow : OpenClaim := { program := "ytanpjfejnlfpmaa", sum := "df6a94b4bd7da95c169cab7e1be62c8f08f890e78b9823eee4716a9607777e9c", func := "analemma/analemmalaw01.WideTells", spec := "wideTells", apart := false }
def WideTellsSaid : Prop := wideTellsRow.holds Try.pinned (OpenSpec.ofChange wideTellsSpec)

/-- ITS FALSE NEIGHBOUR: 'it returns false'. Refute it at one input. -/
def wideTellsWrong : ChangeSpec := { name := "wideTells", fn := fun _ => fun
  | [d1, d2, d3, d4] => { results := [.lit (.bool false)], args := [d1, d2, d3, d4] }
  | _ => none }
def WideTellsWrongFalsely : Prop := wideTellsRow.holds Try.pinned (OpenSpec.ofChange wideTellsWrong)

/- THE SECOND FORM. 'bulk': how many values and letters a reading holds, each counted each time it is reached (what is shared counts as often as it is met; a slice's spare places count too). A statement '..UptoSaid' is the law's where the arguments, and the package variables that the reading takes, are together of bulk at most 1048576: NARROWER than '..Said'. Prove '..Said' where nothing that the law and all that it calls make is longer than what came in: it says more and counts as full. Else prove '..UptoSaid'. A law counts once. -/
mutual
def uptoBulk {H : Type} : DataW H → Nat
  | .lit (.string bytes) => bytes.length + 1
  | .lit _ => 1
  | .nil => 1
  | .ptr d => uptoBulk d + 1
  | .slice elems spare => uptoBulkAll elems + uptoBulkAll spare + 1
  | .agg parts => uptoBulkAll parts + 1
  | .iface _ d => uptoBulk d + 1
  | .map entries => uptoBulkEntries entries + 1
  | .held _ => 1
def uptoBulkAll {H : Type} : List (DataW H) → Nat
  | [] => 0
  | d :: r => uptoBulk d + uptoBulkAll r
def uptoBulkEntries {H : Type} : List (Lit × DataW H) → Nat
  | [] => 0
  | x :: r => uptoBulkEntry x + uptoBulkEntries r
def uptoBulkEntry {H : Type} : Lit × DataW H → Nat
  | (.string bytes, d) => bytes.length + uptoBulk d + 1
  | (_, d) => uptoBulk d + 1
 end
def uptoSmall : (H : Type) → List (DataW H) → Bool := fun _ ds => decide (uptoBulkAll ds ≤ 1048576)
def OpenSpec.upto (s : _root_.Go.ChangeSpec) : _root_.Go.OpenSpec := { _root_.Go.OpenSpec.ofChange s with cond := some uptoSmall }

/-- 'analemmalaw01.WideLogs', WHERE WHAT IT READS IS OF BULK AT MOST 1048576: true; the input reads as it did. -/
def wideLogsUptoRow : OpenClaim := { program := "ytanpjfejnlfpmaa", sum := "df6a94b4bd7da95c169cab7e1be62c8f08f890e78b9823eee4716a9607777e9c", func := "analemma/analemmalaw01.WideLogs", spec := "wideLogs", apart := false, narrowed := true }
def WideLogsUptoSaid : Prop := wideLogsUptoRow.holds Try.pinned (OpenSpec.upto wideLogsSpec)

/-- 'analemmalaw01.WideBack', WHERE WHAT IT READS IS OF BULK AT MOST 1048576: true; the input reads as it did. -/
def wideBackUptoRow : OpenClaim := { program := "ytanpjfejnlfpmaa", sum := "df6a94b4bd7da95c169cab7e1be62c8f08f890e78b9823eee4716a9607777e9c", func := "analemma/analemmalaw01.WideBack", spec := "wideBack", apart := false, narrowed := true }
def WideBackUptoSaid : Prop := wideBackUptoRow.holds Try.pinned (OpenSpec.upto wideBackSpec)

/-- 'analemmalaw01.WideShares', WHERE WHAT IT READS IS OF BULK AT MOST 1048576: true; the input reads as it did. -/
def wideSharesUptoRow : OpenClaim := { program := "ytanpjfejnlfpmaa", sum := "df6a94b4bd7da95c169cab7e1be62c8f08f890e78b9823eee4716a9607777e9c", func := "analemma/analemmalaw01.WideShares", spec := "wideShares", apart := false, narrowed := true }
def WideSharesUptoSaid : Prop := wideSharesUptoRow.holds Try.pinned (OpenSpec.upto wideSharesSpec)

/-- 'analemmalaw01.WideSums', WHERE WHAT IT READS IS OF BULK AT MOST 1048576: true; the input reads as it did. -/
def wideSumsUptoRow : OpenClaim := { program := "ytanpjfejnlfpmaa", sum := "df6a94b4bd7da95c169cab7e1be62c8f08f890e78b9823eee4716a9607777e9c", func := "analemma/analemmalaw01.WideSums", spec := "wideSums", apart := false, narrowed := true }
def WideSumsUptoSaid : Prop := wideSumsUptoRow.holds Try.pinned (OpenSpec.upto wideSumsSpec)

/-- 'analemmalaw01.WideRoots', WHERE WHAT IT READS IS OF BULK AT MOST 1048576: true; the input reads as it did. -/
def wideRootsUptoRow : OpenClaim := { program := "ytanpjfejnlfpmaa", sum := "df6a94b4bd7da95c169cab7e1be62c8f08f890e78b9823eee4716a9607777e9c", func := "analemma/analemmalaw01.WideRoots", spec := "wideRoots", apart := false, narrowed := true }
def WideRootsUptoSaid : Prop := wideRootsUptoRow.holds Try.pinned (OpenSpec.upto wideRootsSpec)

/-- 'analemmalaw01.WideRises', WHERE WHAT IT READS IS OF BULK AT MOST 1048576: true; the input reads as it did. -/
def wideRisesUptoRow : OpenClaim := { program := "ytanpjfejnlfpmaa", sum := "df6a94b4bd7da95c169cab7e1be62c8f08f890e78b9823eee4716a9607777e9c", func := "analemma/analemmalaw01.WideRises", spec := "wideRises", apart := false, narrowed := true }
def WideRisesUptoSaid : Prop := wideRisesUptoRow.holds Try.pinned (OpenSpec.upto wideRisesSpec)

/-- 'analemmalaw01.WideSquares', WHERE WHAT IT READS IS OF BULK AT MOST 1048576: true; the input reads as it did. -/
def wideSquaresUptoRow : OpenClaim := { program := "ytanpjfejnlfpmaa", sum := "df6a94b4bd7da95c169cab7e1be62c8f08f890e78b9823eee4716a9607777e9c", func := "analemma/analemmalaw01.WideSquares", spec := "wideSquares", apart := false, narrowed := true }
def WideSquaresUptoSaid : Prop := wideSquaresUptoRow.holds Try.pinned (OpenSpec.upto wideSquaresSpec)

/-- 'analemmalaw01.WideTells', WHERE WHAT IT READS IS OF BULK AT MOST 1048576: true; the input reads as it did. -/
def wideTellsUptoRow : OpenClaim := { program := "ytanpjfejnlfpmaa", sum := "df6a94b4bd7da95c169cab7e1be62c8f08f890e78b9823eee4716a9607777e9c", func := "analemma/analemmalaw01.WideTells", spec := "wideTells", apart := false, narrowed := true }
def WideTellsUptoSaid : Prop := wideTellsUptoRow.holds Try.pinned (OpenSpec.upto wideTellsSpec)

end Rows
end Go.Proofs.Ytanpjfejnlfpmaa
