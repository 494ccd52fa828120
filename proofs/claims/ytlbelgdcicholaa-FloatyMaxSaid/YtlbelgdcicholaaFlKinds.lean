/- The walk of the statement FloatyKinds: each float64 of 64 bits. -/
import Derived.Test.YtlbelgdcicholaaProg
import Derived.Below
import Derived.Deep.Draws
import Derived.Deep.AppendLies
import Derived.Maps.AppendAt
import Derived.OwnWalk
import Derived.Laws.BytesArg
import Derived.Laws.MakeOwn
import Derived.Laws.OwnMore
import Derived.Deep.OwnRows
import Derived.Tactics
import Derived.Lib.ConvBytes
import Derived.Laws.Slices
import Derived.WalkKit
import Derived.KernelRfl
import Derived.RowKit3
import Derived.Deep.LoopGhost
import Derived.Deep.QuietTactic
import Derived.BigQuiet
import Derived.WideLaws
import Derived.Deep.DeepCutAuto
import Derived.Deep.CutBlock
import Derived.Deep.RegionHeld3
import Derived.Laws.Rows
import Derived.Lib.AppendStr
import Derived.ArgAppend
import Derived.Laws.IdiomCopy
import Derived.OrdersHeld
import Derived.Laws.BitsLemmas
import Derived.RowKit
import Derived.Test.YtlbelgdcicholaaWWords
import Derived.Test.YtlbelgdcicholaaWLast
import Derived.Test.YtlbelgdcicholaaWTab
import Derived.Test.YtlbelgdcicholaaWFour
import Derived.Test.YtlbelgdcicholaaWQPut
import Derived.Test.YtlbelgdcicholaaWApart
import Derived.Test.YtlbelgdcicholaaWArr
import Derived.Test.YtlbelgdcicholaaWZeros
import Derived.Test.YtlbelgdcicholaaWFoot
import Derived.Test.YtlbelgdcicholaaWKept
import Derived.Test.YtlbelgdcicholaaWShare
import Derived.Test.YtlbelgdcicholaaWN
import Derived.Test.YtlbelgdcicholaaWFootNe
import Derived.Test.YtlbelgdcicholaaWAt
import Derived.Test.YtlbelgdcicholaaWEqStruct
import Derived.Test.YtlbelgdcicholaaWRepsOne
import Derived.Test.YtlbelgdcicholaaWInv
import Derived.Test.YtlbelgdcicholaaWInvWords
import Derived.Test.YtlbelgdcicholaaWGuard
import Derived.Test.YtlbelgdcicholaaWNEv
import Derived.Test.YtlbelgdcicholaaWMore
import Derived.WalkLawsBesides
import Derived.Outline
import Derived.Laws.Externs
import Derived.Test.YtlbelgdcicholaaFlOrd
import Derived.Test.YtlbelgdcicholaaFlKind
import Derived.Test.YtlbelgdcicholaaFlOf
namespace Go.Proofs.Ytlbelgdcicholaa.Fl
open Go.RowKit Go.Proofs.YtlbelgdcicholaaW.PrintWords Go.Proofs.YtlbelgdcicholaaW.PrintLast Go.Proofs.YtlbelgdcicholaaW.PrintMore
attribute [local go_sem] max2_int min2_int max_two min_two max_three min_three max_four min_four
set_option linter.unusedVariables false
set_option linter.unusedSimpArgs false
theorem xor_sign (x : Nat) (hx : x < 9223372036854775808) : x ^^^ 9223372036854775808 = 9223372036854775808 + x := by
  have h : x < 2 ^ 63 := hx
  show x ^^^ 2 ^ 63 = 2 ^ 63 + x
  apply Nat.eq_of_testBit_eq
  intro i
  rw [Nat.testBit_xor, Nat.testBit_two_pow]
  rcases Nat.lt_trichotomy i 63 with c | c | c
  · rw [Nat.testBit_two_pow_add_gt c, decide_eq_false (by omega), Bool.xor_false]
  · subst c
    rw [Nat.testBit_two_pow_add_eq]
    simp
  · rw [decide_eq_false (by omega), Bool.xor_false, Nat.testBit_lt_two_pow (Nat.lt_of_lt_of_le h (Nat.pow_le_pow_right (by decide) (by omega))), Nat.testBit_lt_two_pow]
    have : 2 ^ 64 ≤ 2 ^ i := Nat.pow_le_pow_right (by decide) (by omega)
    omega

theorem neg_bits (b : Nat) (hb : b < 18446744073709551616) : ∃ c, Op.negFloat .f64 b = c ∧ c < 18446744073709551616 ∧ rung c = rung b ∧ neg c = !neg b := by
  refine ⟨_, rfl, ?_⟩
  have e : Op.negFloat .f64 b = b ^^^ 9223372036854775808 := rfl
  rw [e]
  by_cases c : b < 9223372036854775808
  · rw [xor_sign b c]
    refine ⟨by omega, by unfold rung; omega, ?_⟩
    unfold neg
    have e1 : (9223372036854775808 + b) / 9223372036854775808 % 2 = 1 := by omega
    have e2 : b / 9223372036854775808 % 2 = 0 := by omega
    rw [e1, e2]
    rfl
  · obtain ⟨x, rfl⟩ : ∃ x, b = 9223372036854775808 + x := ⟨b - 9223372036854775808, by omega⟩
    rw [← xor_sign x (by omega), Nat.xor_assoc, Nat.xor_self, Nat.xor_zero, xor_sign x (by omega)]
    refine ⟨by omega, by unfold rung; omega, ?_⟩
    unfold neg
    have e1 : (9223372036854775808 + x) / 9223372036854775808 % 2 = 1 := by omega
    have e2 : x / 9223372036854775808 % 2 = 0 := by omega
    rw [e1, e2]
    rfl

theorem half_of : ofn 4602678819172646912 = 2147483648 := by
  have := ofn_shr 4602678819172646912 21 (by decide) (by decide) (by decide) (by decide)
  rw [this]
  decide

theorem shown_calls (w : World) : Calls Try.prog 15 #[] w fun e w' => e = .returned (.bool true) ∧ w' = w := by
  have e1 := half_of
  have e2 : ofe 4602678819172646912 = 0 := by decide
  have e3 : kindv 4607182418800017408 = 5 := by decide
  go_enter Try.func15, Try.ntmps15
  go_wp2_with (first | (go_at_call 23; (with_reducible refine (of_calls _ _ (by decide)).mono ?_); rintro e w1 ⟨rfl, rfl⟩) | (go_at_call 14; (with_reducible refine (kind_calls _ _ (by decide)).mono ?_); rintro e w1 ⟨rfl, rfl⟩))
  go_ret
  exact ⟨rfl, rfl⟩

theorem gt_zero (b : Nat) (hn : ¬ isNan b) : (FloatKind.f64.format.order b 0 == some .gt) = (decide (rung b ≠ 0) && !neg b) := by
  have e0 : FloatKind.f64.format.order b 0 = some (compare (sr b) (sr 0)) := order_eq hn (by decide)
  have e2 : sr 0 = 0 := by decide
  rw [e0, e2, cmp_def]
  unfold sr
  by_cases z : rung b = 0
  · rw [z]
    cases neg b <;> rfl
  · cases neg b <;> simp only [Bool.false_eq_true, if_false, if_true] <;> (repeat' split) <;> first | omega | simp [z]

theorem zero_two (b : Nat) (hb : b < 18446744073709551616) (h : rung b = 0) : b = 0 ∨ b = 9223372036854775808 := by
  unfold rung at h
  omega

set_option maxHeartbeats 8000000 in
theorem kinds_calls (b : Nat) (w : World) (hb64 : b < 18446744073709551616) : Calls Try.prog 3 #[.float .f64 b] w fun e w' => e = .returned (.bool true) ∧ Below w.heap.size w w' := by
  obtain ⟨c, hc, hc64, hcr, hcn⟩ := neg_bits b hb64
  have HB := Aside0.mk hb64
  have HC := Aside0.mk hc64
  have hself : (FloatKind.f64.format.order b b != some .eq) = decide (isNan b) := self_nan b
  have hng : ∀ w : World, (Op.unary .neg (.float .f64 b)).run Try.prog w = .ok (.float .f64 c) w := fun w => by rw [← hc]; rfl
  have ec : kindv c = if isNan b then 0 else if rung b = 9218868437227405312 then 1 + (if neg b = true then 0 else 1) else if rung b = 0 then 3 + (if neg b = true then 0 else 1) else 5 + (if neg b = true then 0 else 1) := by
    have hni : isNan c = isNan b := by unfold isNan; rw [hcr]
    simp only [kindv, sgn01, hcr, hcn, hni]
    cases neg b <;> rfl
  have eb : kindv b = if isNan b then 0 else if rung b = 9218868437227405312 then 1 + (if neg b = true then 1 else 0) else if rung b = 0 then 3 + (if neg b = true then 1 else 0) else 5 + (if neg b = true then 1 else 0) := rfl
  by_cases n : isNan b
  · rw [if_pos n] at eb ec
    rw [decide_eq_true n] at hself
    clear n hcr hcn hb64 hc64 hc
    go_enter Try.func3, Try.ntmps3
    go_wp2_with (first | (go_at_call 14; first | ((with_reducible refine (kind_calls b _ HB.out).mono ?_); rintro e w1 ⟨rfl, rfl⟩) | ((with_reducible refine (kind_calls c _ HC.out).mono ?_); rintro e w1 ⟨rfl, rfl⟩)) | (go_at_call 15; (with_reducible refine (shown_calls _).mono ?_); rintro e w1 ⟨rfl, rfl⟩))
    go_ret
    exact ⟨rfl, Below.refl _ _⟩
  · rw [if_neg n] at eb ec
    rw [decide_eq_false n] at hself
    have hz : (FloatKind.f64.format.order b 0 == some .eq) = decide (rung b = 0) := is_zero b
    have hgt := gt_zero b n
    by_cases i : rung b = 9218868437227405312
    · rw [if_pos i] at eb ec
      rw [decide_eq_false (by omega)] at hz
      rw [decide_eq_true (by omega)] at hgt
      clear n i hcr hcn hb64 hc64 hc
      cases hg : neg b
      all_goals
        rw [hg] at eb ec hgt
        go_enter Try.func3, Try.ntmps3
        go_wp2_with (first | (go_at_call 14; first | ((with_reducible refine (kind_calls b _ HB.out).mono ?_); rintro e w1 ⟨rfl, rfl⟩) | ((with_reducible refine (kind_calls c _ HC.out).mono ?_); rintro e w1 ⟨rfl, rfl⟩)) | (go_at_call 15; (with_reducible refine (shown_calls _).mono ?_); rintro e w1 ⟨rfl, rfl⟩))
        go_ret
        exact ⟨rfl, below_alloc (Below.refl _ _) _⟩
    · rw [if_neg i] at eb ec
      by_cases z : rung b = 0
      · rw [if_pos z] at eb ec
        rw [decide_eq_true z] at hz
        rw [decide_eq_false (by omega)] at hgt
        obtain ⟨q, hq, hqo⟩ : ∃ q, (∀ (t : TypeId) (w : World), (binOp .quo t (.float .f64 4607182418800017408) (.float .f64 b)).run Try.prog w = .ok (.float .f64 q) w) ∧ (FloatKind.f64.format.order q 0 == some .gt) = !neg b := by
          rcases zero_two b hb64 z with rfl | rfl
          · exact ⟨9218868437227405312, fun t w => run_float_arith _ .quo t .f64 _ _ _ (by decide +kernel), by decide +kernel⟩
          · exact ⟨18442240474082181120, fun t w => run_float_arith _ .quo t .f64 _ _ _ (by decide +kernel), by decide +kernel⟩
        clear n i z hcr hcn hb64 hc64 hc
        cases hg : neg b
        all_goals
          rw [hg] at eb ec hgt hqo
          go_enter Try.func3, Try.ntmps3
          go_wp2_with (first | (go_at_call 14; first | ((with_reducible refine (kind_calls b _ HB.out).mono ?_); rintro e w1 ⟨rfl, rfl⟩) | ((with_reducible refine (kind_calls c _ HC.out).mono ?_); rintro e w1 ⟨rfl, rfl⟩)) | (go_at_call 15; (with_reducible refine (shown_calls _).mono ?_); rintro e w1 ⟨rfl, rfl⟩))
          go_ret
          exact ⟨rfl, below_alloc (Below.refl _ _) _⟩
      · rw [if_neg z] at eb ec
        rw [decide_eq_false z] at hz
        rw [decide_eq_true z] at hgt
        clear n i z hcr hcn hb64 hc64 hc
        cases hg : neg b
        all_goals
          rw [hg] at eb ec hgt
          go_enter Try.func3, Try.ntmps3
          go_wp2_with (first | (go_at_call 14; first | ((with_reducible refine (kind_calls b _ HB.out).mono ?_); rintro e w1 ⟨rfl, rfl⟩) | ((with_reducible refine (kind_calls c _ HC.out).mono ?_); rintro e w1 ⟨rfl, rfl⟩)) | (go_at_call 15; (with_reducible refine (shown_calls _).mono ?_); rintro e w1 ⟨rfl, rfl⟩))
          go_ret
          exact ⟨rfl, below_alloc (Below.refl _ _) _⟩

end Go.Proofs.Ytlbelgdcicholaa.Fl
