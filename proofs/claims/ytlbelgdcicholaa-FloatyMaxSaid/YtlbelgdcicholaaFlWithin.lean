/- The contract of floaty.Within: what a float64 comes to that lies within two others, or its error; its condition, three float64 of 64 bits. -/
import Derived.Test.YtlbelgdcicholaaProg
import Derived.Below
import Derived.Deep.Draws
import Derived.Deep.AppendLies
import Derived.Maps.AppendAt
import Derived.OwnWalk
import Derived.Laws.BytesArg
import Derived.Laws.MakeOwn
import Derived.Laws.OwnMore
import Derived.Deep.OwnRows
import Derived.Tactics
import Derived.Lib.ConvBytes
import Derived.Laws.Slices
import Derived.WalkKit
import Derived.KernelRfl
import Derived.RowKit3
import Derived.Deep.LoopGhost
import Derived.Deep.QuietTactic
import Derived.BigQuiet
import Derived.WideLaws
import Derived.Deep.DeepCutAuto
import Derived.Deep.CutBlock
import Derived.Deep.RegionHeld3
import Derived.Laws.Rows
import Derived.Lib.AppendStr
import Derived.ArgAppend
import Derived.Laws.IdiomCopy
import Derived.OrdersHeld
import Derived.Laws.BitsLemmas
import Derived.RowKit
import Derived.Test.YtlbelgdcicholaaWWords
import Derived.Test.YtlbelgdcicholaaWLast
import Derived.Test.YtlbelgdcicholaaWTab
import Derived.Test.YtlbelgdcicholaaWFour
import Derived.Test.YtlbelgdcicholaaWQPut
import Derived.Test.YtlbelgdcicholaaWApart
import Derived.Test.YtlbelgdcicholaaWArr
import Derived.Test.YtlbelgdcicholaaWZeros
import Derived.Test.YtlbelgdcicholaaWFoot
import Derived.Test.YtlbelgdcicholaaWKept
import Derived.Test.YtlbelgdcicholaaWShare
import Derived.Test.YtlbelgdcicholaaWN
import Derived.Test.YtlbelgdcicholaaWFootNe
import Derived.Test.YtlbelgdcicholaaWAt
import Derived.Test.YtlbelgdcicholaaWEqStruct
import Derived.Test.YtlbelgdcicholaaWRepsOne
import Derived.Test.YtlbelgdcicholaaWInv
import Derived.Test.YtlbelgdcicholaaWInvWords
import Derived.Test.YtlbelgdcicholaaWGuard
import Derived.Test.YtlbelgdcicholaaWNEv
import Derived.Test.YtlbelgdcicholaaWMore
import Derived.WalkLawsBesides
import Derived.Outline
import Derived.Laws.Externs
import Derived.Test.YtlbelgdcicholaaFlOrd
import Derived.Test.YtlbelgdcicholaaFlKind
import Derived.Test.YtlbelgdcicholaaFlOf
namespace Go.Proofs.Ytlbelgdcicholaa.Fl
open Go.RowKit Go.Proofs.YtlbelgdcicholaaW.PrintWords Go.Proofs.YtlbelgdcicholaaW.PrintLast Go.Proofs.YtlbelgdcicholaaW.PrintMore
attribute [local go_sem] max2_int min2_int max_two min_two max_three min_three max_four min_four
set_option linter.unusedVariables false
set_option linter.unusedSimpArgs false
def flt (a b : Nat) : Bool := FloatKind.f64.format.order a b == some .lt
def win (f lo hi : Nat) : Int × Int := if ofe f ≠ 0 then (0, ofe f) else if ofe lo ≠ 0 then (0, ofe lo) else if ofe hi ≠ 0 then (0, ofe hi) else if (flt f lo || flt hi f) = true then (0, 32) else (ofn f, 0)

set_option maxHeartbeats 8000000 in
theorem within_calls (f lo hi : Nat) (w : World) (hf64 : f < 18446744073709551616) (hl64 : lo < 18446744073709551616) (hh64 : hi < 18446744073709551616) :
    Calls Try.prog 22 #[.float .f64 f, .float .f64 lo, .float .f64 hi] w fun e w' => e = .returned (.tuple #[.int .i64 (win f lo hi).1, .int .i64 (win f lo hi).2]) ∧ Below w.heap.size w w' := by
  have HF := Aside0.mk hf64
  have HL := Aside0.mk hl64
  have HH := Aside0.mk hh64
  obtain ⟨r, hr⟩ : ∃ r, win f lo hi = r := ⟨_, rfl⟩
  rw [hr]
  have HR := Aside0.mk hr
  clear hr hf64 hl64 hh64
  have HB0 := Aside0.mk (below_alloc (Below.refl w.heap.size w) (.cells #[.float .f64 f, .float .f64 lo, .float .f64 hi] 22 (0, 0)))
  have HG0 := Aside0.mk (blk_new w (.cells #[.float .f64 f, .float .f64 lo, .float .f64 hi] 22 (0, 0)))
  go_enter Try.func22, Try.ntmps22
  go_wp2_with (fail)
  go_loopg [17] 3 (fun gk i wr => ∃ c : Int, (c = 0 ∧ gk = 3 ∨ c = 1 ∧ gk = 2 ∧ ofe f = 0 ∨ c = 2 ∧ gk = 1 ∧ ofe f = 0 ∧ ofe lo = 0 ∨ c = 3 ∧ gk = 0 ∧ ofe f = 0 ∧ ofe lo = 0 ∧ ofe hi = 0) ∧ i = .int .i64 c ∧ Aside0 (wr.heap[w.heap.size]? = some (.cells #[.float .f64 f, .float .f64 lo, .float .f64 hi] 22 (0, 0))) ∧ Aside0 (Below w.heap.size w wr))
  case atStart => exact ⟨0, .inl ⟨rfl, rfl⟩, rfl, HG0, HB0⟩
  case round =>
    obtain ⟨c, hc, rfl, HG, HB⟩ := hrel
    clear HG0 HB0
    obtain ⟨wo, hwo⟩ : ∃ wo : World, wo = wr := ⟨_, rfl⟩
    rcases hc with ⟨rfl, rfl⟩ | ⟨rfl, rfl, e1⟩ | ⟨rfl, rfl, e1, e2⟩ | ⟨rfl, rfl, e1, e2, e3⟩
    · have kp := (blk_cell HG.out 0).trans (show _ = some (Value.float .f64 f) from rfl)
      by_cases e1 : ofe f = 0
      · have d1 := e1
        go_wp2_with (first | (go_at_call 23; (with_reducible refine (of_calls f _ HF.out).mono ?_); rintro e w1 ⟨rfl, rfl⟩))
        go_roundg 2
        case measure => omega
        case rel => exact ⟨1, .inr (.inl ⟨rfl, rfl, e1⟩), rfl, HG, HB⟩
      · have d1 : (ofe f == 0) = false := beq_eq_false_iff_ne.mpr e1
        go_wp2_with (first | (go_at_call 23; (with_reducible refine (of_calls f _ HF.out).mono ?_); rintro e w1 ⟨rfl, rfl⟩))
        go_ret2
        have hr := HR.out
        unfold win at hr
        rw [if_pos e1] at hr
        subst hr
        exact ⟨rfl, HB.out⟩
    · have kp := (blk_cell HG.out 1).trans (show _ = some (Value.float .f64 lo) from rfl)
      by_cases e2 : ofe lo = 0
      · have d1 := e2
        go_wp2_with (first | (go_at_call 23; (with_reducible refine (of_calls lo _ HL.out).mono ?_); rintro e w1 ⟨rfl, rfl⟩))
        go_roundg 1
        case measure => omega
        case rel => exact ⟨2, .inr (.inr (.inl ⟨rfl, rfl, e1, e2⟩)), rfl, HG, HB⟩
      · have d1 : (ofe lo == 0) = false := beq_eq_false_iff_ne.mpr e2
        go_wp2_with (first | (go_at_call 23; (with_reducible refine (of_calls lo _ HL.out).mono ?_); rintro e w1 ⟨rfl, rfl⟩))
        go_ret2
        have hr := HR.out
        unfold win at hr
        rw [if_neg (not_not_intro e1), if_pos e2] at hr
        subst hr
        exact ⟨rfl, HB.out⟩
    · have kp := (blk_cell HG.out 2).trans (show _ = some (Value.float .f64 hi) from rfl)
      by_cases e3 : ofe hi = 0
      · have d1 := e3
        go_wp2_with (first | (go_at_call 23; (with_reducible refine (of_calls hi _ HH.out).mono ?_); rintro e w1 ⟨rfl, rfl⟩))
        go_roundg 0
        case measure => omega
        case rel => exact ⟨3, .inr (.inr (.inr (⟨rfl, rfl, e1, e2, e3⟩))), rfl, HG, HB⟩
      · have d1 : (ofe hi == 0) = false := beq_eq_false_iff_ne.mpr e3
        go_wp2_with (first | (go_at_call 23; (with_reducible refine (of_calls hi _ HH.out).mono ?_); rintro e w1 ⟨rfl, rfl⟩))
        go_ret2
        have hr := HR.out
        unfold win at hr
        rw [if_neg (not_not_intro e1), if_neg (not_not_intro e2), if_pos e3] at hr
        subst hr
        exact ⟨rfl, HB.out⟩
    · have hr := HR.out
      unfold win flt at hr
      rw [if_neg (not_not_intro e1), if_neg (not_not_intro e2), if_neg (not_not_intro e3)] at hr
      clear e2 e3 HR
      cases hd1 : FloatKind.f64.format.order f lo == some .lt
      · cases hd2 : FloatKind.f64.format.order hi f == some .lt
        · rw [hd1, hd2, if_neg (by simp)] at hr
          subst hr
          go_wp2_with (first | (go_at_call 23; (with_reducible refine (of_calls f _ HF.out).mono ?_); rintro e w1 ⟨rfl, rfl⟩))
          go_ret2
          exact ⟨rfl, HB.out⟩
        · rw [hd1, hd2, if_pos (by simp)] at hr
          subst hr
          go_wp2_with (first | (go_at_call 23; (with_reducible refine (of_calls f _ HF.out).mono ?_); rintro e w1 ⟨rfl, rfl⟩))
          go_ret2
          exact ⟨rfl, HB.out⟩
      · rw [hd1, if_pos (by simp)] at hr
        subst hr
        go_wp2_with (first | (go_at_call 23; (with_reducible refine (of_calls f _ HF.out).mono ?_); rintro e w1 ⟨rfl, rfl⟩))
        go_ret2
        exact ⟨rfl, HB.out⟩

end Go.Proofs.Ytlbelgdcicholaa.Fl
