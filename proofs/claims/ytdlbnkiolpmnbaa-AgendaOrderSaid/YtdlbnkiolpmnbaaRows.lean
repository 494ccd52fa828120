/-
  No cell of these rows narrows 'for every input' (looked for: loops, veiled, ifaces, maps, wideKeys, modest, calm, conditions, laid).
  DERIVED. THE GIVEN ROWS OF THIS SEAT. 11 by the template 'for every input the law returns true; each argument reads behind the call as it read before'; 0 by the template 'total and deterministic' (their statements: YtdlbnkiolpmnbaaTotals.lean).
  GIVEN WITH THE SEED: the statements are not yours to turn. If you find one false, say at which input.
  Laid BY PROGRAM, IN A SANDBOX (cutbox-rows.mjs): the forced cells as the released guide's own fill.sh prints them over the translation 55cc1ab542640d03… (all of the seat's roots in one cut). By AI agents, Wed Nov 11 2026. No macro, syntax, notation, axiom, sorry.
-/
import Derived.Test.YtdlbnkiolpmnbaaChecked
import GoSem.Claim
import GoSem.ClaimJoined
import GoSem.ClaimMapViews
import Derived.JoinedTies
import Derived.KernelRfl
namespace Go.Proofs.Ytdlbnkiolpmnbaa
/- THE CELL 'sum', in the pinned program and in every row, IS THE sha256 OF THE DUMP (.gsa) THAT YtdlbnkiolpmnbaaProg.lean LOADS. Nothing in Lean hashes anything: it is a label: what it is worth is what the hold of that sum in a sandbox is worth. -/
noncomputable def Try.pinned : Pinned := { name := "ytdlbnkiolpmnbaa", sum := "55cc1ab542640d035d12edf59bb8f5fdb30c59f33a30649ba7f7c4cd4eb3197e", checked := Try.checked }
namespace Rows
def none {H : Type} : Left H := { results := [], args := [] }

/-- 'analemmalaw08.AgendaMoves': WHATEVER THE INPUT: true; the input reads as it did. -/
def agendaMovesSpec : ChangeSpec := { name := "agendaMoves", fn := fun _ => fun
  | [d1, d2, d3] => { results := [.lit (.bool true)], args := [d1, d2, d3] }
  | _ => none }
def agendaMovesRow : OpenClaim := { program := "ytdlbnkiolpmnbaa", sum := "55cc1ab542640d035d12edf59bb8f5fdb30c59f33a30649ba7f7c4cd4eb3197e", func := "analemma/analemmalaw08.AgendaMoves", spec := "agendaMoves", unfollowed := true, recurses := true, apart := false }
def AgendaMovesSaid : Prop := agendaMovesRow.holds Try.pinned (OpenSpec.ofChange agendaMovesSpec)

/-- ITS FALSE NEIGHBOUR: 'it returns false'. Refute it at one input. -/
def agendaMovesWrong : ChangeSpec := { name := "agendaMoves", fn := fun _ => fun
  | [d1, d2, d3] => { results := [.lit (.bool false)], args := [d1, d2, d3] }
  | _ => none }
def AgendaMovesWrongFalsely : Prop := agendaMovesRow.holds Try.pinned (OpenSpec.ofChange agendaMovesWrong)

/-- 'analemmalaw16.MeetOrder': WHATEVER THE INPUT: true; the input reads as it did. -/
def meetOrderSpec : ChangeSpec := { name := "meetOrder", fn := fun _ => fun
  | [d1, d2] => { results := [.lit (.bool true)], args := [d1, d2] }
  | _ => none }
def meetOrderRow : OpenClaim := { program := "ytdlbnkiolpmnbaa", sum := "55cc1ab542640d035d12edf59bb8f5fdb30c59f33a30649ba7f7c4cd4eb3197e", func := "analemma/analemmalaw16.MeetOrder", spec := "meetOrder", unfollowed := true, recurses := true, apart := false }
def MeetOrderSaid : Prop := meetOrderRow.holds Try.pinned (OpenSpec.ofChange meetOrderSpec)

/-- ITS FALSE NEIGHBOUR: 'it returns false'. Refute it at one input. -/
def meetOrderWrong : ChangeSpec := { name := "meetOrder", fn := fun _ => fun
  | [d1, d2] => { results := [.lit (.bool false)], args := [d1, d2] }
  | _ => none }
def MeetOrderWrongFalsely : Prop := meetOrderRow.holds Try.pinned (OpenSpec.ofChange meetOrderWrong)

/-- 'analemmalaw16.MeetGrows': WHATEVER THE INPUT: true; the input reads as it did. -/
def meetGrowsSpec : ChangeSpec := { name := "meetGrows", fn := fun _ => fun
  | [d1, d2, d3] => { results := [.lit (.bool true)], args := [d1, d2, d3] }
  | _ => none }
def meetGrowsRow : OpenClaim := { program := "ytdlbnkiolpmnbaa", sum := "55cc1ab542640d035d12edf59bb8f5fdb30c59f33a30649ba7f7c4cd4eb3197e", func := "analemma/analemmalaw16.MeetGrows", spec := "meetGrows", unfollowed := true, recurses := true, apart := false }
def MeetGrowsSaid : Prop := meetGrowsRow.holds Try.pinned (OpenSpec.ofChange meetGrowsSpec)

/-- ITS FALSE NEIGHBOUR: 'it returns false'. Refute it at one input. -/
def meetGrowsWrong : ChangeSpec := { name := "meetGrows", fn := fun _ => fun
  | [d1, d2, d3] => { results := [.lit (.bool false)], args := [d1, d2, d3] }
  | _ => none }
def MeetGrowsWrongFalsely : Prop := meetGrowsRow.holds Try.pinned (OpenSpec.ofChange meetGrowsWrong)

/-- 'analemmalaw08.AgendaFull': WHATEVER THE INPUT: true; the input reads as it did. -/
def agendaFullSpec : ChangeSpec := { name := "agendaFull", fn := fun _ => fun
  | [d1, d2] => { results := [.lit (.bool true)], args := [d1, d2] }
  | _ => none }
def agendaFullRow : OpenClaim := { program := "ytdlbnkiolpmnbaa", sum := "55cc1ab542640d035d12edf59bb8f5fdb30c59f33a30649ba7f7c4cd4eb3197e", func := "analemma/analemmalaw08.AgendaFull", spec := "agendaFull", unfollowed := true, recurses := true, apart := false }
def AgendaFullSaid : Prop := agendaFullRow.holds Try.pinned (OpenSpec.ofChange agendaFullSpec)

/-- ITS FALSE NEIGHBOUR: 'it returns false'. Refute it at one input. -/
def agendaFullWrong : ChangeSpec := { name := "agendaFull", fn := fun _ => fun
  | [d1, d2] => { results := [.lit (.bool false)], args := [d1, d2] }
  | _ => none }
def AgendaFullWrongFalsely : Prop := agendaFullRow.holds Try.pinned (OpenSpec.ofChange agendaFullWrong)

/-- 'analemmalaw08.AgendaTickets': WHATEVER THE INPUT: true; the input reads as it did. -/
def agendaTicketsSpec : ChangeSpec := { name := "agendaTickets", fn := fun _ => fun
  | [d1, d2, d3] => { results := [.lit (.bool true)], args := [d1, d2, d3] }
  | _ => none }
def agendaTicketsRow : OpenClaim := { program := "ytdlbnkiolpmnbaa", sum := "55cc1ab542640d035d12edf59bb8f5fdb30c59f33a30649ba7f7c4cd4eb3197e", func := "analemma/analemmalaw08.AgendaTickets", spec := "agendaTickets", unfollowed := true, recurses := true, apart := false }
def AgendaTicketsSaid : Prop := agendaTicketsRow.holds Try.pinned (OpenSpec.ofChange agendaTicketsSpec)

/-- ITS FALSE NEIGHBOUR: 'it returns false'. Refute it at one input. -/
def agendaTicketsWrong : ChangeSpec := { name := "agendaTickets", fn := fun _ => fun
  | [d1, d2, d3] => { results := [.lit (.bool false)], args := [d1, d2, d3] }
  | _ => none }
def AgendaTicketsWrongFalsely : Prop := agendaTicketsRow.holds Try.pinned (OpenSpec.ofChange agendaTicketsWrong)

/-- 'analemmalaw08.AgendaActs': WHATEVER THE INPUT: true; the input reads as it did. -/
def agendaActsSpec : ChangeSpec := { name := "agendaActs", fn := fun _ => fun
  | [d] => { results := [.lit (.bool true)], args := [d] }
  | _ => none }
def agendaActsRow : OpenClaim := { program := "ytdlbnkiolpmnbaa", sum := "55cc1ab542640d035d12edf59bb8f5fdb30c59f33a30649ba7f7c4cd4eb3197e", func := "analemma/analemmalaw08.AgendaActs", spec := "agendaActs", unfollowed := true, recurses := true, apart := false }
def AgendaActsSaid : Prop := agendaActsRow.holds Try.pinned (OpenSpec.ofChange agendaActsSpec)

/-- ITS FALSE NEIGHBOUR: 'it returns false'. Refute it at one input. -/
def agendaActsWrong : ChangeSpec := { name := "agendaActs", fn := fun _ => fun
  | [d] => { results := [.lit (.bool false)], args := [d] }
  | _ => none }
def AgendaActsWrongFalsely : Prop := agendaActsRow.holds Try.pinned (OpenSpec.ofChange agendaActsWrong)

/-- 'analemmalaw08.AgendaOrder': WHATEVER THE INPUT: true; the input reads as it did. -/
def agendaOrderSpec : ChangeSpec := { name := "agendaOrder", fn := fun _ => fun
  | [d1, d2] => { results := [.lit (.bool true)], args := [d1, d2] }
  | _ => none }
def agendaOrderRow : OpenClaim := { program := "ytdlbnkiolpmnbaa", sum := "55cc1ab542640d035d12edf59bb8f5fdb30c59f33a30649ba7f7c4cd4eb3197e", func := "analemma/analemmalaw08.AgendaOrder", spec := "agendaOrder", unfollowed := true, recurses := true, apart := false }
def AgendaOrderSaid : Prop := agendaOrderRow.holds Try.pinned (OpenSpec.ofChange agendaOrderSpec)

/-- ITS FALSE NEIGHBOUR: 'it returns false'. Refute it at one input. -/
def agendaOrderWrong : ChangeSpec := { name := "agendaOrder", fn := fun _ => fun
  | [d1, d2] => { results := [.lit (.bool false)], args := [d1, d2] }
  | _ => none }
def AgendaOrderWrongFalsely : Prop := agendaOrderRow.holds Try.pinned (OpenSpec.ofChange agendaOrderWrong)

/-- 'analemmalaw16.MeetSound': WHATEVER THE INPUT: true; the input reads as it did. -/
def meetSoundSpec : ChangeSpec := { name := "meetSound", fn := fun _ => fun
  | [d1, d2] => { results := [.lit (.bool true)], args := [d1, d2] }
  | _ => none }
def meetSoundRow : OpenClaim := { program := "ytdlbnkiolpmnbaa", sum := "55cc1ab542640d035d12edf59bb8f5fdb30c59f33a30649ba7f7c4cd4eb3197e", func := "analemma/analemmalaw16.MeetSound", spec := "meetSound", unfollowed := true, recurses := true, apart := false }
def MeetSoundSaid : Prop := meetSoundRow.holds Try.pinned (OpenSpec.ofChange meetSoundSpec)

/-- ITS FALSE NEIGHBOUR: 'it returns false'. Refute it at one input. -/
def meetSoundWrong : ChangeSpec := { name := "meetSound", fn := fun _ => fun
  | [d1, d2] => { results := [.lit (.bool false)], args := [d1, d2] }
  | _ => none }
def MeetSoundWrongFalsely : Prop := meetSoundRow.holds Try.pinned (OpenSpec.ofChange meetSoundWrong)

/-- 'analemmalaw16.MeetWithin': WHATEVER THE INPUT: true; the input reads as it did. -/
def meetWithinSpec : ChangeSpec := { name := "meetWithin", fn := fun _ => fun
  | [d] => { results := [.lit (.bool true)], args := [d] }
  | _ => none }
def meetWithinRow : OpenClaim := { program := "ytdlbnkiolpmnbaa", sum := "55cc1ab542640d035d12edf59bb8f5fdb30c59f33a30649ba7f7c4cd4eb3197e", func := "analemma/analemmalaw16.MeetWithin", spec := "meetWithin", unfollowed := true, recurses := true, apart := false }
def MeetWithinSaid : Prop := meetWithinRow.holds Try.pinned (OpenSpec.ofChange meetWithinSpec)

/-- ITS FALSE NEIGHBOUR: 'it returns false'. Refute it at one input. -/
def meetWithinWrong : ChangeSpec := { name := "meetWithin", fn := fun _ => fun
  | [d] => { results := [.lit (.bool false)], args := [d] }
  | _ => none }
def MeetWithinWrongFalsely : Prop := meetWithinRow.holds Try.pinned (OpenSpec.ofChange meetWithinWrong)

/-- 'analemmalaw16.MeetAll': WHATEVER THE INPUT: true; the input reads as it did. -/
def meetAllSpec : ChangeSpec := { name := "meetAll", fn := fun _ => fun
  | [d1, d2] => { results := [.lit (.bool true)], args := [d1, d2] }
  | _ => none }
def meetAllRow : OpenClaim := { program := "ytdlbnkiolpmnbaa", sum := "55cc1ab542640d035d12edf59bb8f5fdb30c59f33a30649ba7f7c4cd4eb3197e", func := "analemma/analemmalaw16.MeetAll", spec := "meetAll", unfollowed := true, recurses := true, apart := false }
def MeetAllSaid : Prop := meetAllRow.holds Try.pinned (OpenSpec.ofChange meetAllSpec)

/-- ITS FALSE NEIGHBOUR: 'it returns false'. Refute it at one input. -/
def meetAllWrong : ChangeSpec := { name := "meetAll", fn := fun _ => fun
  | [d1, d2] => { results := [.lit (.bool false)], args := [d1, d2] }
  | _ => none }
def MeetAllWrongFalsely : Prop := meetAllRow.holds Try.pinned (OpenSpec.ofChange meetAllWrong)

/-- 'analemmalaw16.MeetApart': WHATEVER THE INPUT: true; the input reads as it did. -/
def meetApartSpec : ChangeSpec := { name := "meetApart", fn := fun _ => fun
  | [d1, d2] => { results := [.lit (.bool true)], args := [d1, d2] }
  | _ => none }
def meetApartRow : OpenClaim := { program := "ytdlbnkiolpmnbaa", sum := "55cc1ab542640d035d12edf59bb8f5fdb30c59f33a30649ba7f7c4cd4eb3197e", func := "analemma/analemmalaw16.MeetApart", spec := "meetApart", unfollowed := true, recurses := true, apart := false }
def MeetApartSaid : Prop := meetApartRow.holds Try.pinned (OpenSpec.ofChange meetApartSpec)

/-- ITS FALSE NEIGHBOUR: 'it returns false'. Refute it at one input. -/
def meetApartWrong : ChangeSpec := { name := "meetApart", fn := fun _ => fun
  | [d1, d2] => { results := [.lit (.bool false)], args := [d1, d2] }
  | _ => none }
def MeetApartWrongFalsely : Prop := meetApartRow.holds Try.pinned (OpenSpec.ofChange meetApartWrong)

/- THE SECOND FORM. 'bulk': how many values and letters a reading holds, each counted each time it is reached (what is shared counts as often as it is met; a slice's spare places count too). A statement '..UptoSaid' is the law's where the arguments, and the package variables that the reading takes, are together of bulk at most 1048576: NARROWER than '..Said'. Prove '..Said' where nothing that the law and all that it calls make is longer than what came in: it says more and counts as full. Else prove '..UptoSaid'. A law counts once. -/
mutual
def uptoBulk {H : Type} : DataW H → Nat
  | .lit (.string bytes) => bytes.length + 1
  | .lit _ => 1
  | .nil => 1
  | .ptr d => uptoBulk d + 1
  | .slice elems spare => uptoBulkAll elems + uptoBulkAll spare + 1
  | .agg parts => uptoBulkAll parts + 1
  | .iface _ d => uptoBulk d + 1
  | .map entries => uptoBulkEntries entries + 1
  | .held _ => 1
def uptoBulkAll {H : Type} : List (DataW H) → Nat
  | [] => 0
  | d :: r => uptoBulk d + uptoBulkAll r
def uptoBulkEntries {H : Type} : List (Lit × DataW H) → Nat
  | [] => 0
  | x :: r => uptoBulkEntry x + uptoBulkEntries r
def uptoBulkEntry {H : Type} : Lit × DataW H → Nat
  | (.string bytes, d) => bytes.length + uptoBulk d + 1
  | (_, d) => uptoBulk d + 1
 end
def uptoSmall : (H : Type) → List (DataW H) → Bool := fun _ ds => decide (uptoBulkAll ds ≤ 1048576)
def OpenSpec.upto (s : _root_.Go.ChangeSpec) : _root_.Go.OpenSpec := { _root_.Go.OpenSpec.ofChange s with cond := some uptoSmall }

/-- 'analemmalaw08.AgendaMoves', WHERE WHAT IT READS IS OF BULK AT MOST 1048576: true; the input reads as it did. -/
def agendaMovesUptoRow : OpenClaim := { program := "ytdlbnkiolpmnbaa", sum := "55cc1ab542640d035d12edf59bb8f5fdb30c59f33a30649ba7f7c4cd4eb3197e", func := "analemma/analemmalaw08.AgendaMoves", spec := "agendaMoves", unfollowed := true, recurses := true, apart := false, narrowed := true }
def AgendaMovesUptoSaid : Prop := agendaMovesUptoRow.holds Try.pinned (OpenSpec.upto agendaMovesSpec)

/-- 'analemmalaw16.MeetOrder', WHERE WHAT IT READS IS OF BULK AT MOST 1048576: true; the input reads as it did. -/
def meetOrderUptoRow : OpenClaim := { program := "ytdlbnkiolpmnbaa", sum := "55cc1ab542640d035d12edf59bb8f5fdb30c59f33a30649ba7f7c4cd4eb3197e", func := "analemma/analemmalaw16.MeetOrder", spec := "meetOrder", unfollowed := true, recurses := true, apart := false, narrowed := true }
def MeetOrderUptoSaid : Prop := meetOrderUptoRow.holds Try.pinned (OpenSpec.upto meetOrderSpec)

/-- 'analemmalaw16.MeetGrows', WHERE WHAT IT READS IS OF BULK AT MOST 1048576: true; the input reads as it did. -/
def meetGrowsUptoRow : OpenClaim := { program := "ytdlbnkiolpmnbaa", sum := "55cc1ab542640d035d12edf59bb8f5fdb30c59f33a30649ba7f7c4cd4eb3197e", func := "analemma/analemmalaw16.MeetGrows", spec := "meetGrows", unfollowed := true, recurses := true, apart := false, narrowed := true }
def MeetGrowsUptoSaid : Prop := meetGrowsUptoRow.holds Try.pinned (OpenSpec.upto meetGrowsSpec)

/-- 'analemmalaw08.AgendaFull', WHERE WHAT IT READS IS OF BULK AT MOST 1048576: true; the input reads as it did. -/
def agendaFullUptoRow : OpenClaim := { program := "ytdlbnkiolpmnbaa", sum := "55cc1ab542640d035d12edf59bb8f5fdb30c59f33a30649ba7f7c4cd4eb3197e", func := "analemma/analemmalaw08.AgendaFull", spec := "agendaFull", unfollowed := true, recurses := true, apart := false, narrowed := true }
def AgendaFullUptoSaid : Prop := agendaFullUptoRow.holds Try.pinned (OpenSpec.upto agendaFullSpec)

/-- 'analemmalaw08.AgendaTickets', WHERE WHAT IT READS IS OF BULK AT MOST 1048576: true; the input reads as it did. -/
def agendaTicketsUptoRow : OpenClaim := { program := "ytdlbnkiolpmnbaa", sum := "55cc1ab542640d035d12edf59bb8f5fdb30c59f33a30649ba7f7c4cd4eb3197e", func := "analemma/analemmalaw08.AgendaTickets", spec := "agendaTickets", unfollowed := true, recurses := true, apart := false, narrowed := true }
def AgendaTicketsUptoSaid : Prop := agendaTicketsUptoRow.holds Try.pinned (OpenSpec.upto agendaTicketsSpec)

/-- 'analemmalaw08.AgendaActs', WHERE WHAT IT READS IS OF BULK AT MOST 1048576: true; the input reads as it did. -/
def agendaActsUptoRow : OpenClaim := { program := "ytdlbnkiolpmnbaa", sum := "55cc1ab542640d035d12edf59bb8f5fdb30c59f33a30649ba7f7c4cd4eb3197e", func := "analemma/analemmalaw08.AgendaActs", spec := "agendaActs", unfollowed := true, recurses := true, apart := false, narrowed := true }
def AgendaActsUptoSaid : Prop := agendaActsUptoRow.holds Try.pinned (OpenSpec.upto agendaActsSpec)

/-- 'analemmalaw08.AgendaOrder', WHERE WHAT IT READS IS OF BULK AT MOST 1048576: true; the input reads as it did. -/
def agendaOrderUptoRow : OpenClaim := { program := "ytdlbnkiolpmnbaa", sum := "55cc1ab542640d035d12edf59bb8f5fdb30c59f33a30649ba7f7c4cd4eb3197e", func := "analemma/analemmalaw08.AgendaOrder", spec := "agendaOrder", unfollowed := true, recurses := true, apart := false, narrowed := true }
def AgendaOrderUptoSaid : Prop := agendaOrderUptoRow.holds Try.pinned (OpenSpec.upto agendaOrderSpec)

/-- 'analemmalaw16.MeetSound', WHERE WHAT IT READS IS OF BULK AT MOST 1048576: true; the input reads as it did. -/
def meetSoundUptoRow : OpenClaim := { program := "ytdlbnkiolpmnbaa", sum := "55cc1ab542640d035d12edf59bb8f5fdb30c59f33a30649ba7f7c4cd4eb3197e", func := "analemma/analemmalaw16.MeetSound", spec := "meetSound", unfollowed := true, recurses := true, apart := false, narrowed := true }
def MeetSoundUptoSaid : Prop := meetSoundUptoRow.holds Try.pinned (OpenSpec.upto meetSoundSpec)

/-- 'analemmalaw16.MeetWithin', WHERE WHAT IT READS IS OF BULK AT MOST 1048576: true; the input reads as it did. -/
def meetWithinUptoRow : OpenClaim := { program := "ytdlbnkiolpmnbaa", sum := "55cc1ab542640d035d12edf59bb8f5fdb30c59f33a30649ba7f7c4cd4eb3197e", func := "analemma/analemmalaw16.MeetWithin", spec := "meetWithin", unfollowed := true, recurses := true, apart := false, narrowed := true }
def MeetWithinUptoSaid : Prop := meetWithinUptoRow.holds Try.pinned (OpenSpec.upto meetWithinSpec)

/-- 'analemmalaw16.MeetAll', WHERE WHAT IT READS IS OF BULK AT MOST 1048576: true; the input reads as it did. -/
def meetAllUptoRow : OpenClaim := { program := "ytdlbnkiolpmnbaa", sum := "55cc1ab542640d035d12edf59bb8f5fdb30c59f33a30649ba7f7c4cd4eb3197e", func := "analemma/analemmalaw16.MeetAll", spec := "meetAll", unfollowed := true, recurses := true, apart := false, narrowed := true }
def MeetAllUptoSaid : Prop := meetAllUptoRow.holds Try.pinned (OpenSpec.upto meetAllSpec)

/-- 'analemmalaw16.MeetApart', WHERE WHAT IT READS IS OF BULK AT MOST 1048576: true; the input reads as it did. -/
def meetApartUptoRow : OpenClaim := { program := "ytdlbnkiolpmnbaa", sum := "55cc1ab542640d035d12edf59bb8f5fdb30c59f33a30649ba7f7c4cd4eb3197e", func := "analemma/analemmalaw16.MeetApart", spec := "meetApart", unfollowed := true, recurses := true, apart := false, narrowed := true }
def MeetApartUptoSaid : Prop := meetApartUptoRow.holds Try.pinned (OpenSpec.upto meetApartSpec)

end Rows
end Go.Proofs.Ytdlbnkiolpmnbaa
