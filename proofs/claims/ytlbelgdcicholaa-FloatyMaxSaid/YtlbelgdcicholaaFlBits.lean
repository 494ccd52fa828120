/- Plain laws of the bits of a float64: its exponent's field taken off and laid anew, and its product with one. Each says its own condition. -/
import Derived.Test.YtlbelgdcicholaaProg
import Derived.Below
import Derived.Deep.Draws
import Derived.Deep.AppendLies
import Derived.Maps.AppendAt
import Derived.OwnWalk
import Derived.Laws.BytesArg
import Derived.Laws.MakeOwn
import Derived.Laws.OwnMore
import Derived.Deep.OwnRows
import Derived.Tactics
import Derived.Lib.ConvBytes
import Derived.Laws.Slices
import Derived.WalkKit
import Derived.KernelRfl
import Derived.RowKit3
import Derived.Deep.LoopGhost
import Derived.Deep.QuietTactic
import Derived.BigQuiet
import Derived.WideLaws
import Derived.Deep.DeepCutAuto
import Derived.Deep.CutBlock
import Derived.Deep.RegionHeld3
import Derived.Laws.Rows
import Derived.Lib.AppendStr
import Derived.ArgAppend
import Derived.Laws.IdiomCopy
import Derived.OrdersHeld
import Derived.Laws.BitsLemmas
import Derived.RowKit
import Derived.Test.YtlbelgdcicholaaWWords
import Derived.Test.YtlbelgdcicholaaWLast
import Derived.Test.YtlbelgdcicholaaWTab
import Derived.Test.YtlbelgdcicholaaWFour
import Derived.Test.YtlbelgdcicholaaWQPut
import Derived.Test.YtlbelgdcicholaaWApart
import Derived.Test.YtlbelgdcicholaaWArr
import Derived.Test.YtlbelgdcicholaaWZeros
import Derived.Test.YtlbelgdcicholaaWFoot
import Derived.Test.YtlbelgdcicholaaWKept
import Derived.Test.YtlbelgdcicholaaWShare
import Derived.Test.YtlbelgdcicholaaWN
import Derived.Test.YtlbelgdcicholaaWFootNe
import Derived.Test.YtlbelgdcicholaaWAt
import Derived.Test.YtlbelgdcicholaaWEqStruct
import Derived.Test.YtlbelgdcicholaaWRepsOne
import Derived.Test.YtlbelgdcicholaaWInv
import Derived.Test.YtlbelgdcicholaaWInvWords
import Derived.Test.YtlbelgdcicholaaWGuard
import Derived.Test.YtlbelgdcicholaaWNEv
import Derived.Test.YtlbelgdcicholaaWMore
import Derived.WalkLawsBesides
import Derived.Outline
import Derived.Laws.Externs
import Derived.Test.YtlbelgdcicholaaFlExact
import Derived.Test.YtlbelgdcicholaaFlKind
namespace Go.Proofs.Ytlbelgdcicholaa.Fl
open Go.RowKit Go.Proofs.YtlbelgdcicholaaW.PrintWords Go.Proofs.YtlbelgdcicholaaW.PrintLast Go.Proofs.YtlbelgdcicholaaW.PrintMore
attribute [local go_sem] max2_int min2_int max_two min_two max_three min_three max_four min_four
set_option linter.unusedVariables false
set_option linter.unusedSimpArgs false
theorem u64_nat (x : Nat) (h : x < 18446744073709551616) : (BitVec.ofInt 64 (x : Int)).toNat = x := by
  rw [BitVec.ofInt_natCast, BitVec.toNat_ofNat]
  exact Nat.mod_eq_of_lt (by omega)

theorem sign_and (b : Nat) (hb : b < 18446744073709551616) : b &&& 9223372036854775808 = if neg b = true then 9223372036854775808 else 0 := by
  have e : b.testBit 63 = neg b := by
    unfold neg
    rw [Nat.testBit_eq_decide_div_mod_eq]
    show decide (b / 2 ^ 63 % 2 = 1) = (b / 2 ^ 63 % 2 == 1)
    by_cases q : b / 2 ^ 63 % 2 = 1
    · rw [decide_eq_true q, beq_iff_eq.mpr q]
    · rw [decide_eq_false q, beq_eq_false_iff_ne.mpr q]
  show b &&& 2 ^ 63 = if neg b = true then 2 ^ 63 else 0
  apply Nat.eq_of_testBit_eq
  intro i
  rw [Nat.testBit_and, Nat.testBit_two_pow]
  by_cases c : 63 = i
  · subst c
    rw [decide_eq_true rfl, Bool.and_true, e]
    cases neg b
    · simp
    · rw [if_pos rfl, Nat.testBit_two_pow, decide_eq_true rfl]
  · rw [decide_eq_false c, Bool.and_false]
    cases neg b
    · simp
    · rw [if_pos rfl, Nat.testBit_two_pow, decide_eq_false c]

theorem sign_or (s : Bool) (r : Nat) (h : r < 9223372036854775808) : ((if s = true then 9223372036854775808 else 0) ||| r) = Ieee.double.word s r := by
  have e1 : Ieee.double.signWeight = 9223372036854775808 := by decide
  unfold Ieee.Format.word
  rw [e1]
  cases s
  · simp
  · have h2 : (2 : Nat) ^ 63 * 1 + r = 2 ^ 63 * 1 ||| r := Nat.two_pow_add_eq_or_of_lt (i := 63) h 1
    rw [Nat.mul_one] at h2
    simp only [if_true]
    exact h2.symm

theorem clear_exp (b : Nat) (hb : b < 18446744073709551616) : Go.bits .andNot .u64 (b : Int) 9218868437227405312 = ((Ieee.double.word (neg b) (b % 4503599627370496) : Nat) : Int) := by
  have h2 : (~~~ BitVec.ofInt 64 (9218868437227405312 : Int)) = BitVec.ofNat 64 9227875636482146303 := by decide
  have h3 : (BitVec.ofInt 64 (b : Int) &&& ~~~ BitVec.ofInt 64 (9218868437227405312 : Int)).toNat = b &&& 9227875636482146303 := by
    rw [h2, BitVec.toNat_and, u64_nat b hb]
    rfl
  have h4 : Go.bits .andNot .u64 (b : Int) 9218868437227405312 = IntKind.u64.wrap ((BitVec.ofInt 64 (b : Int) &&& ~~~ BitVec.ofInt 64 (9218868437227405312 : Int)).toNat : Int) := rfl
  have h5 : (9227875636482146303 : Nat) = 9223372036854775808 ||| 4503599627370495 := by decide
  have h6 : b &&& 4503599627370495 = b % 4503599627370496 := Nat.and_two_pow_sub_one_eq_mod b 52
  have h7 : b % 4503599627370496 < 4503599627370496 := Nat.mod_lt _ (by decide)
  have w := word_parts (neg b) (b % 4503599627370496) (by omega)
  rw [h4, h3, h5, Nat.and_or_distrib_left, sign_and b hb, h6, sign_or _ _ (by omega), IntKind.wrap_u64]
  have := w.2.2
  omega

theorem lay_exp (s : Bool) (f e : Nat) (hf : f < 4503599627370496) (he : e < 2048) :
    Go.bits .or .u64 ((Ieee.double.word s f : Nat) : Int) ((e : Int) * 4503599627370496) = ((Ieee.double.word s (e * 4503599627370496 + f) : Nat) : Int) := by
  have w := word_parts s f (by omega)
  have w2 := word_parts s (e * 4503599627370496 + f) (by omega)
  have h1 : ((e : Int) * 4503599627370496) = ((e * 4503599627370496 : Nat) : Int) := by omega
  have h3 : (BitVec.ofInt 64 ((Ieee.double.word s f : Nat) : Int) ||| BitVec.ofInt 64 ((e * 4503599627370496 : Nat) : Int)).toNat = Ieee.double.word s f ||| e * 4503599627370496 := by
    rw [BitVec.toNat_or, u64_nat _ w.2.2, u64_nat _ (by omega)]
  have h4 : Go.bits .or .u64 ((Ieee.double.word s f : Nat) : Int) ((e * 4503599627370496 : Nat) : Int) = IntKind.u64.wrap ((BitVec.ofInt 64 ((Ieee.double.word s f : Nat) : Int) ||| BitVec.ofInt 64 ((e * 4503599627370496 : Nat) : Int)).toNat : Int) := rfl
  have h5 : f ||| e * 4503599627370496 = e * 4503599627370496 + f := by
    have := Nat.two_pow_add_eq_or_of_lt (i := 52) (b := f) hf e
    rw [Nat.or_comm, Nat.mul_comm e]
    exact this.symm
  rw [h1, h4, h3, ← sign_or s f (by omega), Nat.or_assoc, h5, sign_or s _ (by omega), IntKind.wrap_u64]
  have := w2.2.2
  omega

/-- One times a number is that number. -/
theorem one_mul (s : Bool) (r : Nat) (hr : r < 9218868437227405312) : floatBits .mul .f64 4607182418800017408 (Ieee.double.word s r) = some (Ieee.double.word s r) := by
  have w := word_parts s r (by omega)
  have e : floatBits .mul .f64 4607182418800017408 (Ieee.double.word s r) = ((Ieee.double.read 4607182418800017408).product (Ieee.double.read (Ieee.double.word s r))).map Ieee.double.write := rfl
  have e1 : Ieee.double.read 4607182418800017408 = .number false 4503599627370496 (-52) := by decide
  rw [e, e1, read_num (by rw [w.1]; exact hr), w.1, w.2.1]
  show some (Ieee.double.nearest (false ^^ s) (4503599627370496 * mag r) (-52 + ((up r : Int) - 1074))) = _
  have e2 : (4503599627370496 * mag r) = mag r * 2 ^ 52 := by rw [Nat.mul_comm]
  have e3 : (-52 + ((up r : Int) - 1074)) = ((up r : Int) - 1074) - ((52 : Nat) : Int) := by omega
  rw [e2, e3, near_shift, Bool.false_xor]
  have hm : mag r < 9007199254740992 := by unfold mag; split <;> omega
  have hu : up r ≤ 2045 := by unfold up; split <;> omega
  have ht : mag r = 0 ∨ ((up r : Int) - 1074) + ((mag r).log2 : Int) ≤ 1023 := by
    by_cases z : mag r = 0
    · exact .inl z
    · have := log_le (mag r) 52 z hm
      exact .inr (by omega)
  obtain ⟨q, _, hq, hV⟩ := near_V s (mag r) ((up r : Int) - 1074) hm (by omega) ht
  rw [show ((up r : Int) - 1074 + 1074).toNat = up r by omega, ← V_eq] at hV
  rw [hq, V_inj hV]

end Go.Proofs.Ytlbelgdcicholaa.Fl
