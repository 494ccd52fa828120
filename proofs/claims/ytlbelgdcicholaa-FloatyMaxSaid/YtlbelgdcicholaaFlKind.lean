/- Contracts of floaty.Kind, of the document's Kind and of what they call, and of floaty.Of: each says its own condition, a float64 of 64 bits. -/
import Derived.Test.YtlbelgdcicholaaProg
import Derived.Below
import Derived.Deep.Draws
import Derived.Deep.AppendLies
import Derived.Maps.AppendAt
import Derived.OwnWalk
import Derived.Laws.BytesArg
import Derived.Laws.MakeOwn
import Derived.Laws.OwnMore
import Derived.Deep.OwnRows
import Derived.Tactics
import Derived.Lib.ConvBytes
import Derived.Laws.Slices
import Derived.WalkKit
import Derived.KernelRfl
import Derived.RowKit3
import Derived.Deep.LoopGhost
import Derived.Deep.QuietTactic
import Derived.BigQuiet
import Derived.WideLaws
import Derived.Deep.DeepCutAuto
import Derived.Deep.CutBlock
import Derived.Deep.RegionHeld3
import Derived.Laws.Rows
import Derived.Lib.AppendStr
import Derived.ArgAppend
import Derived.Laws.IdiomCopy
import Derived.OrdersHeld
import Derived.Laws.BitsLemmas
import Derived.RowKit
import Derived.Test.YtlbelgdcicholaaWWords
import Derived.Test.YtlbelgdcicholaaWLast
import Derived.Test.YtlbelgdcicholaaWTab
import Derived.Test.YtlbelgdcicholaaWFour
import Derived.Test.YtlbelgdcicholaaWQPut
import Derived.Test.YtlbelgdcicholaaWApart
import Derived.Test.YtlbelgdcicholaaWArr
import Derived.Test.YtlbelgdcicholaaWZeros
import Derived.Test.YtlbelgdcicholaaWFoot
import Derived.Test.YtlbelgdcicholaaWKept
import Derived.Test.YtlbelgdcicholaaWShare
import Derived.Test.YtlbelgdcicholaaWN
import Derived.Test.YtlbelgdcicholaaWFootNe
import Derived.Test.YtlbelgdcicholaaWAt
import Derived.Test.YtlbelgdcicholaaWEqStruct
import Derived.Test.YtlbelgdcicholaaWRepsOne
import Derived.Test.YtlbelgdcicholaaWInv
import Derived.Test.YtlbelgdcicholaaWInvWords
import Derived.Test.YtlbelgdcicholaaWGuard
import Derived.Test.YtlbelgdcicholaaWNEv
import Derived.Test.YtlbelgdcicholaaWMore
import Derived.WalkLawsBesides
import Derived.Outline
import Derived.Laws.Externs
import Derived.Test.YtlbelgdcicholaaFlOrd
namespace Go.Proofs.Ytlbelgdcicholaa.Fl
open Go.RowKit Go.Proofs.YtlbelgdcicholaaW.PrintWords Go.Proofs.YtlbelgdcicholaaW.PrintLast Go.Proofs.YtlbelgdcicholaaW.PrintMore
attribute [local go_sem] max2_int min2_int max_two min_two max_three min_three max_four min_four
set_option linter.unusedVariables false
set_option linter.unusedSimpArgs false
theorem bits_run (b : Nat) (w : World) : (callFunc 47 #[.float .f64 b]).run Try.prog w = .ok (.value (.int .u64 b)) w :=
  (run_callFunc_extern (e := Extern.MathFloatBits.float64bits) Try.func47 (by kernel_rfl) (by kernel_rfl) (by kernel_rfl) (by rfl) _ w).trans rfl
theorem frombits_run (n : Int) (w : World) : (callFunc 60 #[.int .u64 n]).run Try.prog w = .ok (.value (.float .f64 n.toNat)) w :=
  (run_callFunc_extern (e := Extern.MathFloatBits.float64frombits) Try.func60 (by kernel_rfl) (by kernel_rfl) (by kernel_rfl) (by rfl) _ w).trans rfl

theorem wrap_neg (b : Nat) (hb : b < 18446744073709551616) : decide (wrap64 b < 0) = neg b := by
  unfold neg
  by_cases c : b < 9223372036854775808
  · have e : b / 9223372036854775808 % 2 = 0 := by omega
    rw [e, decide_eq_false (by unfold wrap64; omega)]
    rfl
  · have e : b / 9223372036854775808 % 2 = 1 := by omega
    rw [e, decide_eq_true (by unfold wrap64; omega)]
    rfl

theorem clear_sign (b : Nat) (hb : b < 18446744073709551616) : (Go.bits .andNot .u64 (b : Int) 9223372036854775808).toNat = rung b := by
  have h1 : (BitVec.ofInt 64 (b : Int)).toNat = b := by
    rw [BitVec.ofInt_natCast, BitVec.toNat_ofNat]; exact Nat.mod_eq_of_lt (by omega)
  have h2 : (~~~ BitVec.ofInt 64 (9223372036854775808 : Int)) = BitVec.ofNat 64 9223372036854775807 := by decide
  have h3 : (BitVec.ofInt 64 (b : Int) &&& ~~~ BitVec.ofInt 64 (9223372036854775808 : Int)).toNat = b % 9223372036854775808 := by
    rw [h2, BitVec.toNat_and, h1]
    exact Nat.and_two_pow_sub_one_eq_mod b 63
  have h4 : Go.bits .andNot .u64 (b : Int) 9223372036854775808 = IntKind.u64.wrap ((BitVec.ofInt 64 (b : Int) &&& ~~~ BitVec.ofInt 64 (9223372036854775808 : Int)).toNat : Int) := rfl
  rw [h4, h3, IntKind.wrap_u64]
  unfold rung
  omega

theorem signbit_calls (b : Nat) (w : World) (hb64 : b < 18446744073709551616) : Calls Try.prog 38 #[.float .f64 b] w fun e w' => e = .returned (.bool (neg b)) ∧ w' = w := by
  have hb := bits_run b
  have hn := wrap_neg b hb64
  go_enter Try.func38, Try.ntmps38
  go_wp2_with (fail)
  go_ret
  exact ⟨rfl, rfl⟩

theorem neg_rung (b : Nat) : rung (rung b) = rung b ∧ neg (rung b) = false := by
  unfold rung neg
  refine ⟨by omega, ?_⟩
  have e : b % 9223372036854775808 / 9223372036854775808 = 0 := by omega
  rw [e]
  rfl

theorem rung_lt (b : Nat) : rung b < 9223372036854775808 := by unfold rung; omega

theorem self_nan (b : Nat) : (Ieee.double.order b b != some .eq) = decide (isNan b) := by
  by_cases c : isNan b
  · rw [order_nan_l c, decide_eq_true c]
    rfl
  · rw [order_eq c c, decide_eq_false c, cmp_def, if_neg (by omega), if_pos rfl]
    rfl

theorem isNan_dec (b : Nat) : decide (isNan b) = decide (9218868437227405312 < rung b) := rfl

theorem big_inf (b : Nat) (hn : ¬ isNan b) : (Ieee.double.order (rung b) 9218868437227405311 == some .gt) = decide (rung b = 9218868437227405312) := by
  have nr := neg_rung b
  have h1 : ¬ isNan (rung b) := by unfold isNan at *; rw [nr.1]; exact hn
  have h2 : ¬ isNan 9218868437227405311 := by decide
  rw [order_eq h1 h2, cmp_def]
  have e1 : sr (rung b) = rung b := by unfold sr; rw [nr.2, nr.1]; rfl
  have e2 : sr 9218868437227405311 = 9218868437227405311 := by decide
  rw [e1, e2]
  unfold isNan at hn
  by_cases c : rung b = 9218868437227405312
  · rw [c]
    rfl
  · rw [decide_eq_false c]
    by_cases d : (rung b : Int) < 9218868437227405311
    · rw [if_pos d]
      rfl
    · rw [if_neg d, if_pos (by omega)]
      rfl

theorem is_zero (b : Nat) : (Ieee.double.order b 0 == some .eq) = decide (rung b = 0) := by
  by_cases c : isNan b
  · rw [order_nan_l c, decide_eq_false (by unfold isNan at c; omega)]
    rfl
  · rw [order_eq c (by decide), cmp_def]
    have e2 : sr 0 = 0 := by decide
    rw [e2]
    unfold sr
    by_cases z : rung b = 0
    · rw [z]
      cases neg b <;> rfl
    · rw [decide_eq_false z]
      cases neg b <;> simp only [Bool.false_eq_true, if_false, if_true] <;> (repeat' split) <;> first | rfl | omega

theorem isnan_calls (b : Nat) (w : World) : Calls Try.prog 39 #[.float .f64 b] w fun e w' => e = .returned (.bool (decide (isNan b))) ∧ w' = w := by
  go_enter Try.func39, Try.ntmps39
  go_wp2_with (fail)
  go_ret
  exact ⟨congrArg (fun x => Ending.returned (.bool x)) (self_nan b), rfl⟩

theorem abs_calls (b : Nat) (w : World) (hb64 : b < 18446744073709551616) : Calls Try.prog 46 #[.float .f64 b] w fun e w' => e = .returned (.float .f64 (rung b)) ∧ w' = w := by
  have hb := bits_run b
  have hf := frombits_run
  have hc := clear_sign b hb64
  go_enter Try.func46, Try.ntmps46
  go_wp2_with (fail)
  go_ret
  exact ⟨rfl, rfl⟩

theorem isinf_calls (b : Nat) (w : World) (hb64 : b < 18446744073709551616) (hn : ¬ isNan b) : Calls Try.prog 40 #[.float .f64 b, .int .i64 0] w fun e w' => e = .returned (.bool (decide (rung b = 9218868437227405312))) ∧ w' = w := by
  have HN := Aside0.mk hn
  clear hn
  go_enter Try.func40, Try.ntmps40
  go_wp2_with (first | (go_at_call 46; (with_reducible refine (abs_calls b w hb64).mono ?_); rintro e w1 ⟨rfl, rfl⟩))
  go_ret
  exact ⟨congrArg (fun x => Ending.returned (.bool x)) (big_inf b HN.out), rfl⟩

def sgn01 (b : Nat) : Int := if neg b then 1 else 0
def kindv (b : Nat) : Int := if isNan b then 0 else if rung b = 9218868437227405312 then 1 + sgn01 b else if rung b = 0 then 3 + sgn01 b else 5 + sgn01 b

set_option maxHeartbeats 4000000 in
theorem kind_calls (b : Nat) (w : World) (hb64 : b < 18446744073709551616) : Calls Try.prog 14 #[.float .f64 b] w fun e w' => e = .returned (.int .i64 (kindv b)) ∧ w' = w := by
  obtain ⟨k, hk⟩ : ∃ k, kindv b = k := ⟨_, rfl⟩
  rw [hk]
  unfold kindv sgn01 at hk
  have HB := Aside0.mk hb64
  clear hb64
  by_cases n : isNan b
  · rw [if_pos n] at hk
    subst hk
    have d1 : decide (isNan b) = true := decide_eq_true n
    have HN : Aside0 (¬ isNan b → True) := ⟨fun _ => trivial⟩
    clear n
    go_enter Try.func14, Try.ntmps14
    cases hg : neg b
    all_goals
      go_wp2_with (first | (go_at_call 38; (with_reducible refine (signbit_calls b w HB.out).mono ?_); rintro e w1 ⟨rfl, rfl⟩) | (go_at_call 39; (with_reducible refine (isnan_calls b _).mono ?_); rintro e w2 ⟨rfl, rfl⟩))
      go_ret
      exact ⟨rfl, rfl⟩
  · rw [if_neg n] at hk
    have d1 : decide (isNan b) = false := decide_eq_false n
    have HN := Aside0.mk n
    clear n
    have hz : (FloatKind.f64.format.order b 0 == some .eq) = decide (rung b = 0) := is_zero b
    by_cases i : rung b = 9218868437227405312
    · rw [if_pos i] at hk
      have d2 : decide (rung b = 9218868437227405312) = true := decide_eq_true i
      clear i hz
      go_enter Try.func14, Try.ntmps14
      cases hg : neg b
      all_goals
        rw [hg] at hk
        subst hk
        go_wp2_with (first | (go_at_call 38; (with_reducible refine (signbit_calls b w HB.out).mono ?_); rintro e w1 ⟨rfl, rfl⟩) | (go_at_call 39; (with_reducible refine (isnan_calls b _).mono ?_); rintro e w2 ⟨rfl, rfl⟩) | (go_at_call 40; (with_reducible refine (isinf_calls b _ HB.out HN.out).mono ?_); rintro e w3 ⟨rfl, rfl⟩))
        go_ret
        exact ⟨rfl, rfl⟩
    · rw [if_neg i] at hk
      have d2 : decide (rung b = 9218868437227405312) = false := decide_eq_false i
      clear i
      by_cases z : rung b = 0
      · rw [if_pos z] at hk
        rw [decide_eq_true z] at hz
        clear z
        go_enter Try.func14, Try.ntmps14
        cases hg : neg b
        all_goals
          rw [hg] at hk
          subst hk
          go_wp2_with (first | (go_at_call 38; (with_reducible refine (signbit_calls b w HB.out).mono ?_); rintro e w1 ⟨rfl, rfl⟩) | (go_at_call 39; (with_reducible refine (isnan_calls b _).mono ?_); rintro e w2 ⟨rfl, rfl⟩) | (go_at_call 40; (with_reducible refine (isinf_calls b _ HB.out HN.out).mono ?_); rintro e w3 ⟨rfl, rfl⟩))
          go_ret
          exact ⟨rfl, rfl⟩
      · rw [if_neg z] at hk
        rw [decide_eq_false z] at hz
        clear z
        go_enter Try.func14, Try.ntmps14
        cases hg : neg b
        all_goals
          rw [hg] at hk
          subst hk
          go_wp2_with (first | (go_at_call 38; (with_reducible refine (signbit_calls b w HB.out).mono ?_); rintro e w1 ⟨rfl, rfl⟩) | (go_at_call 39; (with_reducible refine (isnan_calls b _).mono ?_); rintro e w2 ⟨rfl, rfl⟩) | (go_at_call 40; (with_reducible refine (isinf_calls b _ HB.out HN.out).mono ?_); rintro e w3 ⟨rfl, rfl⟩))
          go_ret
          exact ⟨rfl, rfl⟩

end Go.Proofs.Ytlbelgdcicholaa.Fl
