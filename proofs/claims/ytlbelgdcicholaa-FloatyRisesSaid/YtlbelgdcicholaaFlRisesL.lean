/- The walk of the statement FloatyRises: each two float64 of 64 bits. -/
import Derived.Test.YtlbelgdcicholaaProg
import Derived.Below
import Derived.Deep.Draws
import Derived.Deep.AppendLies
import Derived.Maps.AppendAt
import Derived.OwnWalk
import Derived.Laws.BytesArg
import Derived.Laws.MakeOwn
import Derived.Laws.OwnMore
import Derived.Deep.OwnRows
import Derived.Tactics
import Derived.Lib.ConvBytes
import Derived.Laws.Slices
import Derived.WalkKit
import Derived.KernelRfl
import Derived.RowKit3
import Derived.Deep.LoopGhost
import Derived.Deep.QuietTactic
import Derived.BigQuiet
import Derived.WideLaws
import Derived.Deep.DeepCutAuto
import Derived.Deep.CutBlock
import Derived.Deep.RegionHeld3
import Derived.Laws.Rows
import Derived.Lib.AppendStr
import Derived.ArgAppend
import Derived.Laws.IdiomCopy
import Derived.OrdersHeld
import Derived.Laws.BitsLemmas
import Derived.RowKit
import Derived.Test.YtlbelgdcicholaaWWords
import Derived.Test.YtlbelgdcicholaaWLast
import Derived.Test.YtlbelgdcicholaaWTab
import Derived.Test.YtlbelgdcicholaaWFour
import Derived.Test.YtlbelgdcicholaaWQPut
import Derived.Test.YtlbelgdcicholaaWApart
import Derived.Test.YtlbelgdcicholaaWArr
import Derived.Test.YtlbelgdcicholaaWZeros
import Derived.Test.YtlbelgdcicholaaWFoot
import Derived.Test.YtlbelgdcicholaaWKept
import Derived.Test.YtlbelgdcicholaaWShare
import Derived.Test.YtlbelgdcicholaaWN
import Derived.Test.YtlbelgdcicholaaWFootNe
import Derived.Test.YtlbelgdcicholaaWAt
import Derived.Test.YtlbelgdcicholaaWEqStruct
import Derived.Test.YtlbelgdcicholaaWRepsOne
import Derived.Test.YtlbelgdcicholaaWInv
import Derived.Test.YtlbelgdcicholaaWInvWords
import Derived.Test.YtlbelgdcicholaaWGuard
import Derived.Test.YtlbelgdcicholaaWNEv
import Derived.Test.YtlbelgdcicholaaWMore
import Derived.WalkLawsBesides
import Derived.Outline
import Derived.Laws.Externs
import Derived.Test.YtlbelgdcicholaaFlRises
import Derived.Test.YtlbelgdcicholaaFlWithinL
namespace Go.Proofs.Ytlbelgdcicholaa.Fl
open Go.RowKit Go.Proofs.YtlbelgdcicholaaW.PrintWords Go.Proofs.YtlbelgdcicholaaW.PrintLast Go.Proofs.YtlbelgdcicholaaW.PrintMore
attribute [local go_sem] max2_int min2_int max_two min_two max_three min_three max_four min_four
set_option linter.unusedVariables false
set_option linter.unusedSimpArgs false
theorem le_true (x y : Nat) (hx : ¬ isNan x) (hy : ¬ isNan y) (h : SV x ≤ SV y) : (FloatKind.f64.format.order x y == some .lt || FloatKind.f64.format.order x y == some .eq) = true := by
  have := sr_le x y h
  rw [le_flip x y hx hy, flt_eq y x hy hx, decide_eq_false (by omega)]
  rfl

theorem ofe_ok (a : Nat) (h : ofe a = 0) : rung a < 4746794007248502784 := by
  unfold ofe at h
  by_cases n : isNan a
  · rw [if_pos n] at h
    omega
  · rw [if_neg n] at h
    by_cases i : rung a = 9218868437227405312
    · rw [if_pos i] at h
      omega
    · rw [if_neg i] at h
      by_cases c : rung a < 4746794007248502784
      · exact c
      · rw [if_neg c] at h
        omega

theorem ofe_bad (a : Nat) (h : ofe a ≠ 0) : ofn a = 0 ∧ (ofe a == 30) = decide (isNan a) := by
  unfold ofe at *
  by_cases n : isNan a
  · rw [if_pos n, decide_eq_true n]
    refine ⟨?_, rfl⟩
    unfold ofn
    unfold isNan at n
    rw [if_neg (by omega)]
  · rw [if_neg n] at h ⊢
    rw [decide_eq_false n]
    by_cases i : rung a = 9218868437227405312
    · rw [if_pos i]
      refine ⟨?_, rfl⟩
      unfold ofn
      rw [if_neg (by omega)]
    · rw [if_neg i] at h ⊢
      by_cases c : rung a < 4746794007248502784
      · rw [if_pos c] at h
        exact absurd rfl h
      · rw [if_neg c]
        refine ⟨?_, rfl⟩
        unfold ofn
        rw [if_neg c]

set_option maxHeartbeats 8000000 in
theorem rises_calls (a b : Nat) (w : World) (ha64 : a < 18446744073709551616) (hb64 : b < 18446744073709551616) :
    Calls Try.prog 8 #[.float .f64 a, .float .f64 b] w fun e w' => e = .returned (.bool true) ∧ Below w.heap.size w w' := by
  have HA := Aside0.mk ha64
  have HB := Aside0.mk hb64
  by_cases oa : ofe a = 0
  · have ra := ofe_ok a oa
    have na := ofe_nan a oa
    have bd := ofn_bd a ra
    have lo := below_it a ra
    have hi := above_it a ra
    have mono : ofe b = 0 → sr a ≤ sr b → ofn a ≤ ofn b := fun ob => ofn_mono a b ra (ofe_ok b ob)
    have leq : ofe b = 0 → (FloatKind.f64.format.order a b == some .lt || FloatKind.f64.format.order a b == some .eq) = decide (sr a ≤ sr b) := fun ob => by
      have nb := ofe_nan b ob
      rw [le_flip a b na nb, flt_eq b a nb na]
      by_cases c : sr a ≤ sr b
      · rw [decide_eq_true c, decide_eq_false (by omega)]
        rfl
      · rw [decide_eq_false c, decide_eq_true (by omega)]
        rfl
    obtain ⟨n, hn⟩ : ∃ n, ofn a = n := ⟨_, rfl⟩
    rw [hn] at bd lo hi mono
    have tn := tow_nan n (by omega) (by omega)
    have tm := tow_nan (n + 1) (by omega) (by omega)
    have g1 := le_true (tow n) a tn.2 na lo
    have g2 := le_true a (tow (n + 1)) na tm.2 hi
    have TN := Aside0.mk (fun w => to_calls n w (by omega) (by omega))
    have TM := Aside0.mk (fun w => to_calls (n + 1) w (by omega) (by omega))
    have ew : wrap64 (n + 1) = n + 1 := by unfold wrap64; omega
    clear lo hi tn tm na ra bd
    by_cases ob : ofe b = 0
    · have l := leq ob
      by_cases c : sr a ≤ sr b
      · have nm : (ofn b < n) = False := eq_false (by have := mono ob c; omega)
        rw [decide_eq_true c] at l
        clear leq mono c ha64 hb64
        go_enter Try.func8, Try.ntmps8
        go_wp2_with (first | (go_at_call 23; first | ((with_reducible refine (of_calls a _ HA.out).mono ?_); rintro e w1 ⟨rfl, rfl⟩) | ((with_reducible refine (of_calls b _ HB.out).mono ?_); rintro e w1 ⟨rfl, rfl⟩)) | (go_at_call 27; first | ((with_reducible refine (TN.out _).mono ?_); rintro e w1 ⟨rfl, rfl⟩) | ((with_reducible refine (TM.out _).mono ?_); rintro e w1 ⟨rfl, rfl⟩)) | (go_at_call 15; (with_reducible refine (shown_calls _).mono ?_); rintro e w1 ⟨rfl, rfl⟩))
        go_ret
        exact ⟨rfl, Below.refl _ _⟩
      · rw [decide_eq_false c] at l
        clear leq mono c ha64 hb64
        go_enter Try.func8, Try.ntmps8
        go_wp2_with (first | (go_at_call 23; first | ((with_reducible refine (of_calls a _ HA.out).mono ?_); rintro e w1 ⟨rfl, rfl⟩) | ((with_reducible refine (of_calls b _ HB.out).mono ?_); rintro e w1 ⟨rfl, rfl⟩)) | (go_at_call 27; first | ((with_reducible refine (TN.out _).mono ?_); rintro e w1 ⟨rfl, rfl⟩) | ((with_reducible refine (TM.out _).mono ?_); rintro e w1 ⟨rfl, rfl⟩)) | (go_at_call 15; (with_reducible refine (shown_calls _).mono ?_); rintro e w1 ⟨rfl, rfl⟩))
        go_ret
        exact ⟨rfl, Below.refl _ _⟩
    · have d1 : (ofe b == 0) = false := beq_eq_false_iff_ne.mpr ob
      clear leq mono ha64 hb64
      go_enter Try.func8, Try.ntmps8
      go_wp2_with (first | (go_at_call 23; first | ((with_reducible refine (of_calls a _ HA.out).mono ?_); rintro e w1 ⟨rfl, rfl⟩) | ((with_reducible refine (of_calls b _ HB.out).mono ?_); rintro e w1 ⟨rfl, rfl⟩)) | (go_at_call 27; first | ((with_reducible refine (TN.out _).mono ?_); rintro e w1 ⟨rfl, rfl⟩) | ((with_reducible refine (TM.out _).mono ?_); rintro e w1 ⟨rfl, rfl⟩)) | (go_at_call 15; (with_reducible refine (shown_calls _).mono ?_); rintro e w1 ⟨rfl, rfl⟩))
      go_ret
      exact ⟨rfl, Below.refl _ _⟩
  · have d1 : (ofe a == 0) = false := beq_eq_false_iff_ne.mpr oa
    obtain ⟨en, e3⟩ := ofe_bad a oa
    have hself : (FloatKind.f64.format.order a a != some .eq) = decide (isNan a) := self_nan a
    have hq : (decide (isNan a) == decide (isNan a)) = true := beq_self_eq_true _
    clear ha64 hb64
    go_enter Try.func8, Try.ntmps8
    go_wp2_with (first | (go_at_call 23; first | ((with_reducible refine (of_calls a _ HA.out).mono ?_); rintro e w1 ⟨rfl, rfl⟩) | ((with_reducible refine (of_calls b _ HB.out).mono ?_); rintro e w1 ⟨rfl, rfl⟩)) | (go_at_call 15; (with_reducible refine (shown_calls _).mono ?_); rintro e w1 ⟨rfl, rfl⟩))
    go_ret
    exact ⟨rfl, Below.refl _ _⟩

end Go.Proofs.Ytlbelgdcicholaa.Fl
