/- The walk of the statement FloatyMax: any float64s of 64 bits. -/
import Derived.Test.YtlbelgdcicholaaProg
import Derived.Below
import Derived.Deep.Draws
import Derived.Deep.AppendLies
import Derived.Maps.AppendAt
import Derived.OwnWalk
import Derived.Laws.BytesArg
import Derived.Laws.MakeOwn
import Derived.Laws.OwnMore
import Derived.Deep.OwnRows
import Derived.Tactics
import Derived.Lib.ConvBytes
import Derived.Laws.Slices
import Derived.WalkKit
import Derived.KernelRfl
import Derived.RowKit3
import Derived.Deep.LoopGhost
import Derived.Deep.QuietTactic
import Derived.BigQuiet
import Derived.WideLaws
import Derived.Deep.DeepCutAuto
import Derived.Deep.CutBlock
import Derived.Deep.RegionHeld3
import Derived.Laws.Rows
import Derived.Lib.AppendStr
import Derived.ArgAppend
import Derived.Laws.IdiomCopy
import Derived.OrdersHeld
import Derived.Laws.BitsLemmas
import Derived.RowKit
import Derived.Test.YtlbelgdcicholaaWWords
import Derived.Test.YtlbelgdcicholaaWLast
import Derived.Test.YtlbelgdcicholaaWTab
import Derived.Test.YtlbelgdcicholaaWFour
import Derived.Test.YtlbelgdcicholaaWQPut
import Derived.Test.YtlbelgdcicholaaWApart
import Derived.Test.YtlbelgdcicholaaWArr
import Derived.Test.YtlbelgdcicholaaWZeros
import Derived.Test.YtlbelgdcicholaaWFoot
import Derived.Test.YtlbelgdcicholaaWKept
import Derived.Test.YtlbelgdcicholaaWShare
import Derived.Test.YtlbelgdcicholaaWN
import Derived.Test.YtlbelgdcicholaaWFootNe
import Derived.Test.YtlbelgdcicholaaWAt
import Derived.Test.YtlbelgdcicholaaWEqStruct
import Derived.Test.YtlbelgdcicholaaWRepsOne
import Derived.Test.YtlbelgdcicholaaWInv
import Derived.Test.YtlbelgdcicholaaWInvWords
import Derived.Test.YtlbelgdcicholaaWGuard
import Derived.Test.YtlbelgdcicholaaWNEv
import Derived.Test.YtlbelgdcicholaaWMore
import Derived.WalkLawsBesides
import Derived.Outline
import Derived.Laws.Externs
import Derived.Test.YtlbelgdcicholaaFlMaxW
import Derived.Test.YtlbelgdcicholaaFlMax
import Derived.Test.YtlbelgdcicholaaFlRKind
import Derived.Test.YtlbelgdcicholaaFlTells
import Derived.Test.YtlbelgdcicholaaFlWithinL
namespace Go.Proofs.Ytlbelgdcicholaa.Fl
open Go.RowKit Go.Proofs.YtlbelgdcicholaaW.PrintWords Go.Proofs.YtlbelgdcicholaaW.PrintLast Go.Proofs.YtlbelgdcicholaaW.PrintMore
attribute [local go_sem] max2_int min2_int max_two min_two max_three min_three max_four min_four
set_option linter.unusedVariables false
set_option linter.unusedSimpArgs false
theorem mx_fin (l : List Nat) (hl : ∀ x ∈ l, x < 18446744073709551616) : (mx l).getD 0 < 18446744073709551616 ∧ ¬ isNan ((mx l).getD 0) := by
  have h := mx_ok l hl l.length
  rw [List.take_length] at h
  cases e : mx l with
  | none => exact ⟨by decide, by decide⟩
  | some b => exact h b e

set_option maxHeartbeats 8000000 in
theorem maxlaw_calls (A0 : Option Addr) (c0 n : Nat) (l : List Nat) (w : World) (hn : l.length = n) (hc : CellsF w A0 l) (hl : ∀ x ∈ l, x < 18446744073709551616) :
    Calls Try.prog 7 #[.slice A0 n c0] w fun e w' => e = .returned (.bool true) ∧ Below w.heap.size w w' := by
  subst hn
  have HC := Aside0.mk hc
  have HL := Aside0.mk hl
  have fin := mx_fin l hl
  clear hc hl
  by_cases c : 1024 < l.length
  · have d : decide ((1024 : Int) < (l.length : Int)) = true := decide_eq_true (by omega)
    replace d := eq_true (show (1024 : Int) < (l.length : Int) by omega)
    clear c fin
    go_enter Try.func7, Try.ntmps7
    go_wp2_with (first | (go_at_call 15; (with_reducible refine (shown_calls _).mono ?_); rintro e w1 ⟨rfl, rfl⟩))
    go_ret
    exact ⟨rfl, Below.refl _ _⟩
  · have d := eq_false (show ¬ (1024 : Int) < (l.length : Int) by omega)
    have HN := Aside0.mk (show l.length ≤ 1024 by omega)
    have he : (FloatKind.f64.format.order ((mx l).getD 0) ((mx l).getD 0) == some .eq) = true := by
      rw [show FloatKind.f64.format.order ((mx l).getD 0) ((mx l).getD 0) = some (compare (sr ((mx l).getD 0)) (sr ((mx l).getD 0))) from order_eq fin.2 fin.2, cmp_def, if_neg (by omega), if_pos rfl]
      rfl
    have FIN := Aside0.mk fin
    clear c fin
    obtain ⟨m, hm⟩ : ∃ m, (mx l).getD 0 = m := ⟨_, rfl⟩
    obtain ⟨s, hs⟩ : ∃ s, (mx l).isSome = s := ⟨_, rfl⟩
    have HM := Aside0.mk hm
    have HS := Aside0.mk hs
    rw [hm] at he FIN
    clear hm hs
    cases s
    all_goals
      go_enter Try.func7, Try.ntmps7
      go_wp2_with (first | (go_at_call 24; (with_reducible refine (gomax_calls A0 c0 l _ HC.out HL.out HN.out).mono ?_); rw [HM.out, HS.out]; rintro e w1 ⟨rfl, rfl⟩) | (go_at_call 25; (with_reducible refine (refmax_calls A0 c0 l _ HC.out HL.out HN.out).mono ?_); rw [HM.out, HS.out]; rintro e w1 ⟨rfl, rfl⟩) | (go_at_call 26; (with_reducible refine (same_calls m _ FIN.out.1 FIN.out.2).mono ?_); rintro e w1 ⟨rfl, rfl⟩) | (go_at_call 15; (with_reducible refine (shown_calls _).mono ?_); rintro e w1 ⟨rfl, rfl⟩))
      go_ret
      exact ⟨rfl, Below.refl _ _⟩

end Go.Proofs.Ytlbelgdcicholaa.Fl
