/- The contract of the document's Of: it is floaty's; its condition, a float64 of 64 bits. -/
import Derived.Test.YtlbelgdcicholaaProg
import Derived.Below
import Derived.Deep.Draws
import Derived.Deep.AppendLies
import Derived.Maps.AppendAt
import Derived.OwnWalk
import Derived.Laws.BytesArg
import Derived.Laws.MakeOwn
import Derived.Laws.OwnMore
import Derived.Deep.OwnRows
import Derived.Tactics
import Derived.Lib.ConvBytes
import Derived.Laws.Slices
import Derived.WalkKit
import Derived.KernelRfl
import Derived.RowKit3
import Derived.Deep.LoopGhost
import Derived.Deep.QuietTactic
import Derived.BigQuiet
import Derived.WideLaws
import Derived.Deep.DeepCutAuto
import Derived.Deep.CutBlock
import Derived.Deep.RegionHeld3
import Derived.Laws.Rows
import Derived.Lib.AppendStr
import Derived.ArgAppend
import Derived.Laws.IdiomCopy
import Derived.OrdersHeld
import Derived.Laws.BitsLemmas
import Derived.RowKit
import Derived.Test.YtlbelgdcicholaaWWords
import Derived.Test.YtlbelgdcicholaaWLast
import Derived.Test.YtlbelgdcicholaaWTab
import Derived.Test.YtlbelgdcicholaaWFour
import Derived.Test.YtlbelgdcicholaaWQPut
import Derived.Test.YtlbelgdcicholaaWApart
import Derived.Test.YtlbelgdcicholaaWArr
import Derived.Test.YtlbelgdcicholaaWZeros
import Derived.Test.YtlbelgdcicholaaWFoot
import Derived.Test.YtlbelgdcicholaaWKept
import Derived.Test.YtlbelgdcicholaaWShare
import Derived.Test.YtlbelgdcicholaaWN
import Derived.Test.YtlbelgdcicholaaWFootNe
import Derived.Test.YtlbelgdcicholaaWAt
import Derived.Test.YtlbelgdcicholaaWEqStruct
import Derived.Test.YtlbelgdcicholaaWRepsOne
import Derived.Test.YtlbelgdcicholaaWInv
import Derived.Test.YtlbelgdcicholaaWInvWords
import Derived.Test.YtlbelgdcicholaaWGuard
import Derived.Test.YtlbelgdcicholaaWNEv
import Derived.Test.YtlbelgdcicholaaWMore
import Derived.WalkLawsBesides
import Derived.Outline
import Derived.Laws.Externs
import Derived.Test.YtlbelgdcicholaaFlRKind
import Derived.Test.YtlbelgdcicholaaFlRises
import Derived.Test.YtlbelgdcicholaaFlBack
namespace Go.Proofs.Ytlbelgdcicholaa.Fl
open Go.RowKit Go.Proofs.YtlbelgdcicholaaW.PrintWords Go.Proofs.YtlbelgdcicholaaW.PrintLast Go.Proofs.YtlbelgdcicholaaW.PrintMore
attribute [local go_sem] max2_int min2_int max_two min_two max_three min_three max_four min_four
set_option linter.unusedVariables false
set_option linter.unusedSimpArgs false
theorem LL_val : LL = 1074 := rfl

theorem cut_z (s : Bool) (n d : Nat) : Ieee.Toward.zero.cut s n d = n / 2 ^ min d (n.log2 + 2) := by
  unfold Ieee.Toward.cut
  rw [Nat.one_shiftLeft]
  rfl

theorem trunc_V (s : Bool) (r : Nat) : (Ieee.Datum.number s (mag r) ((up r : Int) - 1074)).toInt .zero = some (sv s (V r / 2 ^ LL)) := by
  have e : (Ieee.Datum.number s (mag r) ((up r : Int) - 1074)).toInt .zero = some (Ieee.signed s (Ieee.Toward.zero.cut s (mag r <<< ((up r : Int) - 1074).toNat) (-((up r : Int) - 1074)).toNat) 0) := rfl
  have es (x : Nat) : Ieee.signed s x 0 = sv s x := by
    unfold Ieee.signed sv
    rw [Nat.shiftLeft_zero]
  rw [e, es, cut_z, Nat.shiftLeft_eq, V_eq]
  congr 2
  by_cases c : LL ≤ up r
  · rw [LL_val] at c
    obtain ⟨k, hk⟩ : ∃ k, up r = k + LL := ⟨up r - LL, by rw [LL_val]; omega⟩
    have a1 : ((up r : Int) - 1074).toNat = k := by rw [hk, LL_val]; omega
    have a2 : (-((up r : Int) - 1074)).toNat = 0 := by omega
    rw [a1, a2, Nat.zero_min, Nat.pow_zero, Nat.div_one, hk, Nat.pow_add, ← Nat.mul_assoc, Nat.mul_div_cancel _ (Nat.two_pow_pos LL)]
  · rw [LL_val] at c
    obtain ⟨d, hd⟩ : ∃ d, LL = up r + d := ⟨LL - up r, by rw [LL_val]; omega⟩
    have hdl : up r + d = 1074 := by rw [← hd]; rfl
    have a1 : ((up r : Int) - 1074).toNat = 0 := by omega
    have a2 : (-((up r : Int) - 1074)).toNat = d := by omega
    rw [a1, a2, Nat.pow_zero, Nat.mul_one, hd, Nat.pow_add, Nat.mul_comm (2 ^ up r) (2 ^ d), Nat.mul_div_mul_right _ _ (Nat.two_pow_pos _)]
    by_cases z : mag r = 0
    · rw [z, Nat.zero_div, Nat.zero_div]
    · by_cases q : d ≤ (mag r).log2 + 2
      · rw [Nat.min_eq_left q]
      · rw [Nat.min_eq_right (by omega)]
        have b := (log_bounds (mag r) z).2
        have h1 : 2 ^ ((mag r).log2 + 1) ≤ 2 ^ ((mag r).log2 + 2) := Nat.pow_le_pow_right (by decide) (by omega)
        have h2 : 2 ^ ((mag r).log2 + 1) ≤ 2 ^ d := Nat.pow_le_pow_right (by decide) (by omega)
        rw [Nat.div_eq_of_lt (by omega), Nat.div_eq_of_lt (by omega)]

theorem floor_fix (s : Bool) (v d : Nat) (hd : 0 < d) : (if sv s v < sv s (v / d) * (d : Int) then sv s (v / d) - 1 else sv s (v / d)) = sv s v / (d : Int) := by
  have h1 := Nat.div_add_mod v d
  have h2 := Nat.mod_lt v hd
  generalize v / d = q at *
  generalize v % d = t at *
  have hc : ((d * q : Nat) : Int) = (d : Int) * q := Int.natCast_mul d q
  cases s
  · have e1 : sv false q = (q : Int) := rfl
    have e2 : sv false v = (v : Int) := rfl
    rw [e1, e2, Int.mul_comm (q : Int), if_neg (by omega)]
    symm
    rw [Int.ediv_eq_iff_of_pos (by omega), Int.mul_comm (q : Int)]
    omega
  · have e1 : sv true q = -(q : Int) := rfl
    have e2 : sv true v = -(v : Int) := rfl
    have e3 : -(q : Int) * (d : Int) = -((d : Int) * q) := by rw [Int.neg_mul, Int.mul_comm]
    rw [e1, e2, e3]
    by_cases z : t = 0
    · rw [if_neg (by omega)]
      symm
      rw [Int.ediv_eq_iff_of_pos (by omega), e3]
      omega
    · rw [if_pos (by omega)]
      symm
      rw [Int.ediv_eq_iff_of_pos (by omega), Int.sub_mul, e3]
      omega

theorem le_low (x : Nat) (hn : ¬ isNan x) : (FloatKind.f64.format.order x 13970166044103278592 == some .lt || FloatKind.f64.format.order x 13970166044103278592 == some .eq) = (neg x && decide (4746794007248502784 ≤ rung x)) := by
  have e0 : FloatKind.f64.format.order x 13970166044103278592 = some (compare (sr x) (sr 13970166044103278592)) := order_eq hn (by decide)
  have e2 : sr 13970166044103278592 = -4746794007248502784 := by decide
  rw [e0, e2, cmp_def]
  unfold sr
  by_cases c : 4746794007248502784 ≤ rung x
  · rw [decide_eq_true c]
    cases neg x <;> simp only [Bool.false_eq_true, if_false, if_true] <;> (repeat' split) <;> first | rfl | omega
  · rw [decide_eq_false c]
    cases neg x <;> simp only [Bool.false_eq_true, if_false, if_true] <;> (repeat' split) <;> first | rfl | omega

theorem ge_high (x : Nat) (hn : ¬ isNan x) : (FloatKind.f64.format.order x 4746794007248502784 == some .gt || FloatKind.f64.format.order x 4746794007248502784 == some .eq) = (!neg x && decide (4746794007248502784 ≤ rung x)) := by
  have e0 : FloatKind.f64.format.order x 4746794007248502784 = some (compare (sr x) (sr 4746794007248502784)) := order_eq hn (by decide)
  have e2 : sr 4746794007248502784 = 4746794007248502784 := by decide
  rw [e0, e2, cmp_def]
  unfold sr
  by_cases c : 4746794007248502784 ≤ rung x
  · rw [decide_eq_true c]
    cases neg x <;> simp only [Bool.false_eq_true, if_false, if_true] <;> (repeat' split) <;> first | rfl | omega
  · rw [decide_eq_false c]
    cases neg x <;> simp only [Bool.false_eq_true, if_false, if_true] <;> (repeat' split) <;> first | rfl | omega

/-- By 2 ^ 32, exactly. -/
theorem mul_32 (f : Nat) (hf : rung f < 4746794007248502784) : ∃ r, r < 9218868437227405312 ∧ floatBits .mul .f64 f 4751297606875873280 = some (Ieee.double.word (neg f) r) ∧ V r = V (rung f) * 2 ^ 32 := by
  have e : floatBits .mul .f64 f 4751297606875873280 = ((Ieee.double.read f).product (Ieee.double.read 4751297606875873280)).map Ieee.double.write := rfl
  have e1 : Ieee.double.read 4751297606875873280 = .number false 4503599627370496 (-20) := by decide
  have hml := mag_lt (rung f)
  have hup : up (rung f) ≤ 1052 := by unfold up; split <;> omega
  have ht : mag (rung f) = 0 ∨ ((up (rung f) : Int) - 1042) + ((mag (rung f)).log2 : Int) ≤ 1023 := by
    by_cases z : mag (rung f) = 0
    · exact .inl z
    · have := log_le (mag (rung f)) 52 z hml
      exact .inr (by omega)
  obtain ⟨r, hr, hw, hV⟩ := near_V (neg f) (mag (rung f)) ((up (rung f) : Int) - 1042) hml (by omega) ht
  refine ⟨r, hr, ?_, ?_⟩
  · rw [e, e1, read_num (by omega)]
    show some (Ieee.double.nearest (neg f ^^ false) (mag (rung f) * 4503599627370496) ((up (rung f) : Int) - 1074 + -20)) = _
    have e3 : ((up (rung f) : Int) - 1074 + -20) = ((up (rung f) : Int) - 1042) - ((52 : Nat) : Int) := by omega
    have e4 : mag (rung f) * 4503599627370496 = mag (rung f) * 2 ^ 52 := rfl
    rw [e3, e4, near_shift, Bool.xor_false, hw]
  · rw [hV, V_eq, show ((up (rung f) : Int) - 1042 + 1074).toNat = up (rung f) + 32 by omega, Nat.pow_add, Nat.mul_assoc]

theorem int_SV (n : Int) (m k : Nat) (hn : n.natAbs = m * 2 ^ k) (hm : m < 9007199254740992) (hk : k ≤ 200) (hb : n.natAbs < 18446744073709551616) : SV (floatOfInt .f64 n) = n * 2 ^ LL ∧ ¬ isNan (floatOfInt .f64 n) := by
  have ef : floatOfInt .f64 n = Ieee.double.nearest (decide (n < 0)) n.natAbs 0 := rfl
  have hV := nrung_V m k hm hk (by omega)
  rw [← hn] at hV
  have hr : nrung n.natAbs < 9218868437227405312 := by
    by_cases z : n.natAbs = 0
    · unfold nrung
      rw [if_pos z]
      decide
    · obtain ⟨K, e, _, k1⟩ := nrung_bd _ z
      have hl : n.natAbs.log2 ≤ 63 := log_le _ 63 z hb
      omega
  have w := word_parts (decide (n < 0)) (nrung n.natAbs) (by omega)
  rw [ef, near_nrung _ _ hb]
  refine ⟨?_, by unfold isNan; rw [w.1]; omega⟩
  unfold SV
  rw [w.1, w.2.1, hV, sv_mul, sv_int]
  have ep : ((2 ^ LL : Nat) : Int) = 2 ^ LL := by rw [Int.natCast_pow]; rfl
  rw [ep]

/-- The whole number that is cut off, and the float of it. -/
theorem cut_int (f : Nat) (hf : rung f < 4746794007248502784) : ∃ (g : Nat) (T : Int), floatBits .mul .f64 f 4751297606875873280 = some g ∧ floatToIntVal .f64 g .i64 = some T ∧ -9223372036854775808 < T ∧ T ≤ 9223372036854775807 ∧
    (if (FloatKind.f64.format.order (floatOfInt .f64 T) g == some .gt) = true then T - 1 else T) = ofn f := by
  obtain ⟨r, hr, hg, hV⟩ := mul_32 f hf
  have w := word_parts (neg f) r (by omega)
  have hd : 0 < 2 ^ LL := Nat.two_pow_pos LL
  have ep : ((2 ^ LL : Nat) : Int) = 2 ^ LL := by rw [Int.natCast_pow]; rfl
  have fx := floor_fix (neg f) (V r) (2 ^ LL) hd
  have eo : sv (neg f) (V r) / ((2 ^ LL : Nat) : Int) = ofn f := by
    rw [ofn_SV f hf, hV, sv_mul, ep]
    unfold SV
    have e1 : (2 : Int) ^ LL = 2 ^ EE * ((2 ^ 32 : Nat) : Int) := by
      rw [LL_EE, Int.pow_add]
      rfl
    rw [e1, Int.mul_ediv_mul_of_pos_left _ _ (by decide)]
  rw [eo] at fx
  have bd := ofn_bd f hf
  obtain ⟨T, hT⟩ : ∃ T, sv (neg f) (V r / 2 ^ LL) = T := ⟨_, rfl⟩
  have hTa : T.natAbs = V r / 2 ^ LL := by rw [← hT, sv_abs]
  have hTb : T.natAbs ≤ 9223372036854774784 := by
    rw [hT] at fx
    by_cases c : sv (neg f) (V r) < T * ((2 ^ LL : Nat) : Int)
    · rw [if_pos c] at fx
      cases hs : neg f
      · rw [hs] at c hT
        have e1 : T = ((V r / 2 ^ LL : Nat) : Int) := hT.symm
        have h1 := Nat.div_mul_le_self (V r) (2 ^ LL)
        have e2 : sv false (V r) = ((V r : Nat) : Int) := rfl
        rw [e1, e2, ← Int.natCast_mul] at c
        omega
      · rw [hs] at hT
        have e1 : T = -((V r / 2 ^ LL : Nat) : Int) := hT.symm
        omega
    · rw [if_neg c] at fx
      rw [fx]
      exact bd
  refine ⟨_, T, hg, ?_, by omega, by omega, ?_⟩
  · unfold floatToIntVal
    have ed : FloatKind.f64.decode (Ieee.double.word (neg f) r) = .number (neg f) (mag r) ((up r : Int) - 1074) := by
      have := read_num (b := Ieee.double.word (neg f) r) (by rw [w.1]; exact hr)
      rw [w.1, w.2.1] at this
      exact this
    rw [ed, trunc_V, hT]
    have hmin : IntKind.i64.min = -9223372036854775808 := by decide
    have hmax : IntKind.i64.max = 9223372036854775807 := by decide
    simp only [hmin, hmax]
    rw [if_pos ⟨by omega, by omega⟩]
  · have ex : ∃ m k, T.natAbs = m * 2 ^ k ∧ m < 9007199254740992 ∧ k ≤ 200 := by
      by_cases c : T.natAbs < 9007199254740992
      · exact ⟨T.natAbs, 0, by rw [Nat.pow_zero, Nat.mul_one], c, by decide⟩
      · have hml := mag_lt r
        have hup : up r ≤ 2046 := by unfold up; split <;> omega
        have hle : LL ≤ up r := by
          refine Nat.not_lt.1 fun q => ?_
          have h1 : V r / 2 ^ LL ≤ mag r := by
            rw [V_eq]
            have h2 : 2 ^ up r ≤ 2 ^ LL := Nat.pow_le_pow_right (by decide) (by omega)
            have h3 : mag r * 2 ^ up r ≤ mag r * 2 ^ LL := Nat.mul_le_mul_left _ h2
            calc mag r * 2 ^ up r / 2 ^ LL ≤ mag r * 2 ^ LL / 2 ^ LL := Nat.div_le_div_right h3
              _ = mag r := Nat.mul_div_cancel _ hd
          omega
        obtain ⟨k, hk⟩ : ∃ k, up r = k + LL := ⟨up r - LL, by omega⟩
        have hv : V r / 2 ^ LL = mag r * 2 ^ k := by rw [V_eq, hk, Nat.pow_add, ← Nat.mul_assoc, Nat.mul_div_cancel _ hd]
        have hm0 : mag r ≠ 0 := by
          intro z
          rw [z, Nat.zero_mul] at hv
          omega
        have hk2 : k ≤ 200 := by
          refine Nat.not_lt.1 fun q => ?_
          have h1 : 2 ^ 200 ≤ 2 ^ k := Nat.pow_le_pow_right (by decide) (by omega)
          have h2 : 1 * 2 ^ k ≤ mag r * 2 ^ k := Nat.mul_le_mul_right _ (by omega)
          have h3 : (9223372036854774784 : Nat) < 2 ^ 200 := by decide
          omega
        exact ⟨mag r, k, by rw [hTa, hv], hml, hk2⟩
    obtain ⟨m, k, e1, e2, e3⟩ := ex
    obtain ⟨sF, nF⟩ := int_SV T m k e1 e2 e3 (by omega)
    have ng : ¬ isNan (Ieee.double.word (neg f) r) := by unfold isNan; rw [w.1]; omega
    have sg : SV (Ieee.double.word (neg f) r) = sv (neg f) (V r) := by unfold SV; rw [w.1, w.2.1]
    rw [gt_flip _ _ nF ng, flt_eq _ _ ng nF, ← fx, hT, ep]
    by_cases c : sr (Ieee.double.word (neg f) r) < sr (floatOfInt .f64 T)
    · have h1 : SV (Ieee.double.word (neg f) r) < SV (floatOfInt .f64 T) := by
        refine Int.not_le.1 fun q => ?_
        have := sr_le _ _ q
        omega
      rw [sF, sg] at h1
      rw [decide_eq_true c, if_pos rfl, if_pos h1]
    · have h1 : ¬ SV (Ieee.double.word (neg f) r) < SV (floatOfInt .f64 T) := by
        refine Int.not_lt.2 ?_
        exact SV_le _ _ (by omega)
      rw [sF, sg] at h1
      rw [decide_eq_false c, if_neg (by decide), if_neg h1]

set_option maxHeartbeats 8000000 in
theorem rof_calls (f : Nat) (w : World) (hb64 : f < 18446744073709551616) : Calls Try.prog 34 #[.float .f64 f] w fun e w' => e = .returned (.tuple #[.int .i64 (ofn f), .int .i64 (ofe f)]) ∧ w' = w := by
  have HB := Aside0.mk hb64
  have sg : sgn01 f = 0 ∨ sgn01 f = 1 := by unfold sgn01; cases neg f <;> simp
  by_cases n : isNan f
  · have en : ofn f = 0 := by unfold ofn; rw [if_neg (by unfold isNan at n; omega)]
    have ee : ofe f = 30 := by unfold ofe; rw [if_pos n]
    have ek : kindv f = 0 := by unfold kindv; rw [if_pos n]
    rw [en, ee]
    clear n hb64 en ee sg
    go_enter Try.func34, Try.ntmps34
    go_wp2_with (first | (go_at_call 36; (with_reducible refine (rkind_calls f _ HB.out).mono ?_); rintro e w1 ⟨rfl, rfl⟩))
    go_ret2
    exact ⟨rfl, rfl⟩
  by_cases i : rung f = 9218868437227405312
  · have en : ofn f = 0 := by unfold ofn; rw [if_neg (by omega)]
    have ee : ofe f = 31 := by unfold ofe; rw [if_neg n, if_pos i]
    have ek : kindv f = 1 + sgn01 f := by unfold kindv; rw [if_neg n, if_pos i]
    rw [en, ee]
    clear n hb64 en ee i
    rcases sg with e | e
    all_goals
      rw [e] at ek
      clear e
      go_enter Try.func34, Try.ntmps34
      go_wp2_with (first | (go_at_call 36; (with_reducible refine (rkind_calls f _ HB.out).mono ?_); rintro e w1 ⟨rfl, rfl⟩))
      go_ret2
      exact ⟨rfl, rfl⟩
  have ek : kindv f = 3 ∨ kindv f = 4 ∨ kindv f = 5 ∨ kindv f = 6 := by
    unfold kindv
    rw [if_neg n, if_neg i]
    split <;> omega
  have g1 := le_low f n
  have g2 := ge_high f n
  by_cases c : 4746794007248502784 ≤ rung f
  · have en : ofn f = 0 := by unfold ofn; rw [if_neg (by omega)]
    have ee : ofe f = 32 := by unfold ofe; rw [if_neg n, if_neg i, if_neg (by omega)]
    rw [decide_eq_true c, Bool.and_true] at g1 g2
    rw [en, ee]
    clear n hb64 en ee i c sg
    cases hs : neg f
    all_goals
      rw [hs] at g1 g2
      rcases ek with ek | ek | ek | ek
    all_goals
      go_enter Try.func34, Try.ntmps34
      go_wp2_with (first | (go_at_call 36; (with_reducible refine (rkind_calls f _ HB.out).mono ?_); rintro e w1 ⟨rfl, rfl⟩))
    all_goals
      go_ret2
      exact ⟨rfl, rfl⟩
  · have ee : ofe f = 0 := by unfold ofe; rw [if_neg n, if_neg i, if_pos (by omega)]
    rw [decide_eq_false c, Bool.and_false] at g1 g2
    obtain ⟨g, T, hg, hT, t0, t1, hv⟩ := cut_int f (by omega)
    have hmul : ∀ (t : TypeId) (w : World), (binOp .mul t (.float .f64 f) (.float .f64 4751297606875873280)).run Try.prog w = .ok (.float .f64 g) w := fun t w => run_float_arith _ .mul t .f64 _ _ _ hg
    have hconv : ∀ (w : World), (convert 22 2 (.float .f64 g)).run Try.prog w = .ok (.int .i64 T) w := fun w => run_convert_float_int _ 22 2 .f64 .i64 g T (by rw [Try.underlying22]; rfl) Try.underlying2 hT
    have ew : wrap64 (T - 1) = T - 1 := by unfold wrap64; omega
    rw [ee, ← hv]
    clear n hb64 ee i c sg hg hT t0 t1 hv
    cases hc : FloatKind.f64.format.order (floatOfInt .f64 T) g == some .gt
    all_goals
      rcases ek with ek | ek | ek | ek
    all_goals
      go_enter Try.func34, Try.ntmps34
      go_wp2_with (first | (go_at_call 36; (with_reducible refine (rkind_calls f _ HB.out).mono ?_); rintro e w1 ⟨rfl, rfl⟩))
    all_goals
      go_ret2
      exact ⟨rfl, rfl⟩

end Go.Proofs.Ytlbelgdcicholaa.Fl
