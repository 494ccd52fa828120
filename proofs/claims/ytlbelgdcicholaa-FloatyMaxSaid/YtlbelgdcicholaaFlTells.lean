/- The walk of the statement FloatyTells: each three float64 of 64 bits and each int64. -/
import Derived.Test.YtlbelgdcicholaaProg
import Derived.Below
import Derived.Deep.Draws
import Derived.Deep.AppendLies
import Derived.Maps.AppendAt
import Derived.OwnWalk
import Derived.Laws.BytesArg
import Derived.Laws.MakeOwn
import Derived.Laws.OwnMore
import Derived.Deep.OwnRows
import Derived.Tactics
import Derived.Lib.ConvBytes
import Derived.Laws.Slices
import Derived.WalkKit
import Derived.KernelRfl
import Derived.RowKit3
import Derived.Deep.LoopGhost
import Derived.Deep.QuietTactic
import Derived.BigQuiet
import Derived.WideLaws
import Derived.Deep.DeepCutAuto
import Derived.Deep.CutBlock
import Derived.Deep.RegionHeld3
import Derived.Laws.Rows
import Derived.Lib.AppendStr
import Derived.ArgAppend
import Derived.Laws.IdiomCopy
import Derived.OrdersHeld
import Derived.Laws.BitsLemmas
import Derived.RowKit
import Derived.Test.YtlbelgdcicholaaWWords
import Derived.Test.YtlbelgdcicholaaWLast
import Derived.Test.YtlbelgdcicholaaWTab
import Derived.Test.YtlbelgdcicholaaWFour
import Derived.Test.YtlbelgdcicholaaWQPut
import Derived.Test.YtlbelgdcicholaaWApart
import Derived.Test.YtlbelgdcicholaaWArr
import Derived.Test.YtlbelgdcicholaaWZeros
import Derived.Test.YtlbelgdcicholaaWFoot
import Derived.Test.YtlbelgdcicholaaWKept
import Derived.Test.YtlbelgdcicholaaWShare
import Derived.Test.YtlbelgdcicholaaWN
import Derived.Test.YtlbelgdcicholaaWFootNe
import Derived.Test.YtlbelgdcicholaaWAt
import Derived.Test.YtlbelgdcicholaaWEqStruct
import Derived.Test.YtlbelgdcicholaaWRepsOne
import Derived.Test.YtlbelgdcicholaaWInv
import Derived.Test.YtlbelgdcicholaaWInvWords
import Derived.Test.YtlbelgdcicholaaWGuard
import Derived.Test.YtlbelgdcicholaaWNEv
import Derived.Test.YtlbelgdcicholaaWMore
import Derived.WalkLawsBesides
import Derived.Outline
import Derived.Laws.Externs
import Derived.Test.YtlbelgdcicholaaFlROf
import Derived.Test.YtlbelgdcicholaaFlWithinL
namespace Go.Proofs.Ytlbelgdcicholaa.Fl
open Go.RowKit Go.Proofs.YtlbelgdcicholaaW.PrintWords Go.Proofs.YtlbelgdcicholaaW.PrintLast Go.Proofs.YtlbelgdcicholaaW.PrintMore
attribute [local go_sem] max2_int min2_int max_two min_two max_three min_three max_four min_four
set_option linter.unusedVariables false
set_option linter.unusedSimpArgs false
theorem quo_32 (s : Bool) (R : Nat) (h0 : 4607182418800017408 ≤ R) (h1 : R ≤ 4895412794951729152) : floatBits .quo .f64 (Ieee.double.word s R) 4751297606875873280 = some (Ieee.double.word s (R - 144115188075855872)) := by
  have w := word_parts s R (by omega)
  have e : floatBits .quo .f64 (Ieee.double.word s R) 4751297606875873280 = ((Ieee.double.read (Ieee.double.word s R)).quotient 54 (Ieee.double.read 4751297606875873280)).map Ieee.double.write := rfl
  have e1 : Ieee.double.read 4751297606875873280 = .number false 4503599627370496 (-20) := by decide
  have hm : 4503599627370496 ≤ mag R ∧ mag R < 9007199254740992 := by unfold mag; rw [if_neg (by omega)]; omega
  have hl : (mag R).log2 = 52 := (Nat.log2_eq_iff (by omega)).2 ⟨hm.1, hm.2⟩
  have hl2 : (4503599627370496 : Nat).log2 = 52 := (Nat.log2_eq_iff (by decide)).2 ⟨by decide, by decide⟩
  have hup : 1022 ≤ up R ∧ up R ≤ 1086 := by unfold up; rw [if_neg (by omega)]; omega
  obtain ⟨m, hmm⟩ : ∃ m, mag R = m := ⟨_, rfl⟩
  obtain ⟨i, hi⟩ : ∃ i : Int, (up R : Int) - 1074 = i := ⟨_, rfl⟩
  rw [hmm] at hm hl
  have eq : (Ieee.Datum.number s m i).quotient 54 (Ieee.Datum.number false 4503599627370496 (-20)) = some (.number (s ^^ false) (2 * (m <<< (54 + (4503599627370496 : Nat).log2 - m.log2) / 4503599627370496) + (m <<< (54 + (4503599627370496 : Nat).log2 - m.log2) % 4503599627370496 != 0).toNat) (i - -20 - ((54 + (4503599627370496 : Nat).log2 - m.log2 : Nat) : Int) - 1)) := by
    show (if (4503599627370496 : Nat) = 0 then (if m = 0 then none else some (Ieee.Datum.infinity (s ^^ false))) else some (.number (s ^^ false) (2 * (m <<< (54 + (4503599627370496 : Nat).log2 - m.log2) / 4503599627370496) + (m <<< (54 + (4503599627370496 : Nat).log2 - m.log2) % 4503599627370496 != 0).toNat) (i - -20 - ((54 + (4503599627370496 : Nat).log2 - m.log2 : Nat) : Int) - 1))) = _
    exact if_neg (by decide)
  rw [hl, hl2, Nat.shiftLeft_eq] at eq
  have d1 : m * 2 ^ (54 + 52 - 52) / 4503599627370496 = m * 4 := by omega
  have d2 : m * 2 ^ (54 + 52 - 52) % 4503599627370496 = 0 := by omega
  rw [d1, d2] at eq
  rw [e, e1, read_num (by rw [w.1]; omega), w.1, w.2.1, hmm, hi, eq]
  show some (Ieee.double.nearest (s ^^ false) (2 * (m * 4) + 0) (i - -20 - ((54 + 52 - 52 : Nat) : Int) - 1)) = _
  have e2 : 2 * (m * 4) + 0 = m * 2 ^ 3 := by omega
  have e3 : i - -20 - ((54 + 52 - 52 : Nat) : Int) - 1 = (i - 32) - ((3 : Nat) : Int) := by omega
  rw [e2, e3, near_shift, Bool.xor_false]
  obtain ⟨r, hr, hw, hV⟩ := near_V s m (i - 32) hm.2 (by omega) (.inr (by rw [hl]; omega))
  have hV2 : V r = V (R - 144115188075855872) := by
    have u : up (R - 144115188075855872) = (i - 32 + 1074).toNat := by
      have : up (R - 144115188075855872) + 32 = up R := by unfold up; rw [if_neg (by omega), if_neg (by omega)]; omega
      omega
    have g : mag (R - 144115188075855872) = m := by rw [← hmm]; unfold mag; rw [if_neg (by omega), if_neg (by omega)]; omega
    rw [hV, V_eq (R - 144115188075855872), u, g]
  rw [hw, V_inj hV2]

theorem rto_calls (a : Int) (w : World) (h0 : -9223372036854775808 ≤ a) (h1 : a ≤ 9223372036854775807) : Calls Try.prog 37 #[.int .i64 a] w fun e w' => e = .returned (.float .f64 (tow a)) ∧ w' = w := by
  have hq : floatBits .quo .f64 (floatOfInt .f64 a) 4751297606875873280 = some (tow a) := by
    by_cases z : a = 0
    · subst z
      have e1 : tow 0 = 0 := if_pos rfl
      rw [e1]
      decide +kernel
    · obtain ⟨R, e, er, r0, r1⟩ := int_float a z h0 h1
      have et : tow a = Ieee.double.word (decide (a < 0)) (R - 144115188075855872) := by unfold tow; rw [if_neg z, er]
      rw [et, e]
      exact quo_32 _ R r0 r1
  have hquo : ∀ (t : TypeId) (w : World), (binOp .quo t (.float .f64 (floatOfInt .f64 a)) (.float .f64 4751297606875873280)).run Try.prog w = .ok (.float .f64 (tow a)) w := fun t w => run_float_arith _ .quo t .f64 _ _ _ hq
  clear hq h0 h1
  go_enter Try.func37, Try.ntmps37
  go_wp2_with (fail)
  go_ret
  exact ⟨rfl, rfl⟩

theorem same_calls (x : Nat) (w : World) (hb64 : x < 18446744073709551616) (hn : ¬ isNan x) : Calls Try.prog 26 #[.float .f64 x, .float .f64 x] w fun e w' => e = .returned (.bool true) ∧ w' = w := by
  have HB := Aside0.mk hb64
  have he : (FloatKind.f64.format.order x x == some .eq) = true := by
    rw [show FloatKind.f64.format.order x x = some (compare (sr x) (sr x)) from order_eq hn hn, cmp_def, if_neg (by omega), if_pos rfl]
    rfl
  clear hb64 hn
  go_enter Try.func26, Try.ntmps26
  go_wp2_with (first | (go_at_call 36; (with_reducible refine (rkind_calls x _ HB.out).mono ?_); rintro e w1 ⟨rfl, rfl⟩))
  go_ret
  exact ⟨rfl, rfl⟩

set_option maxHeartbeats 8000000 in
theorem rwithin_calls (f lo hi : Nat) (w : World) (hf64 : f < 18446744073709551616) (hl64 : lo < 18446744073709551616) (hh64 : hi < 18446744073709551616) :
    Calls Try.prog 35 #[.float .f64 f, .float .f64 lo, .float .f64 hi] w fun e w' => e = .returned (.tuple #[.int .i64 (win f lo hi).1, .int .i64 (win f lo hi).2]) ∧ w' = w := by
  have HF := Aside0.mk hf64
  have HL := Aside0.mk hl64
  have HH := Aside0.mk hh64
  obtain ⟨r, hr⟩ : ∃ r, win f lo hi = r := ⟨_, rfl⟩
  rw [hr]
  unfold win at hr
  clear hf64 hl64 hh64
  by_cases e1 : ofe f = 0
  · rw [if_neg (not_not_intro e1)] at hr
    by_cases e2 : ofe lo = 0
    · rw [if_neg (not_not_intro e2)] at hr
      by_cases e3 : ofe hi = 0
      · rw [if_neg (not_not_intro e3)] at hr
        have g : (FloatKind.f64.format.order f hi == some .gt) = flt hi f := gt_flip f hi (ofe_nan f e1) (ofe_nan hi e3)
        have l : (FloatKind.f64.format.order f lo == some .lt) = flt f lo := rfl
        cases k1 : flt f lo
        all_goals
          cases k2 : flt hi f
        all_goals
          rw [k1, k2] at hr
          rw [k1] at l
          rw [k2] at g
          simp only [Bool.or_self, Bool.or_true, Bool.or_false, Bool.false_eq_true, if_true, if_false] at hr
          subst hr
          clear k1 k2
          go_enter Try.func35, Try.ntmps35
          go_wp2_with (first | (go_at_call 34; first | ((with_reducible refine (rof_calls f _ HF.out).mono ?_); rintro e w1 ⟨rfl, rfl⟩) | ((with_reducible refine (rof_calls lo _ HL.out).mono ?_); rintro e w1 ⟨rfl, rfl⟩) | ((with_reducible refine (rof_calls hi _ HH.out).mono ?_); rintro e w1 ⟨rfl, rfl⟩)))
          go_ret2
          exact ⟨rfl, rfl⟩
      · rw [if_pos e3] at hr
        subst hr
        have d3 : (ofe hi == 0) = false := beq_eq_false_iff_ne.mpr e3
        go_enter Try.func35, Try.ntmps35
        go_wp2_with (first | (go_at_call 34; first | ((with_reducible refine (rof_calls f _ HF.out).mono ?_); rintro e w1 ⟨rfl, rfl⟩) | ((with_reducible refine (rof_calls lo _ HL.out).mono ?_); rintro e w1 ⟨rfl, rfl⟩) | ((with_reducible refine (rof_calls hi _ HH.out).mono ?_); rintro e w1 ⟨rfl, rfl⟩)))
        go_ret2
        exact ⟨rfl, rfl⟩
    · rw [if_pos e2] at hr
      subst hr
      have d2 : (ofe lo == 0) = false := beq_eq_false_iff_ne.mpr e2
      go_enter Try.func35, Try.ntmps35
      go_wp2_with (first | (go_at_call 34; first | ((with_reducible refine (rof_calls f _ HF.out).mono ?_); rintro e w1 ⟨rfl, rfl⟩) | ((with_reducible refine (rof_calls lo _ HL.out).mono ?_); rintro e w1 ⟨rfl, rfl⟩) | ((with_reducible refine (rof_calls hi _ HH.out).mono ?_); rintro e w1 ⟨rfl, rfl⟩)))
      go_ret2
      exact ⟨rfl, rfl⟩
  · rw [if_pos e1] at hr
    subst hr
    have d1 : (ofe f == 0) = false := beq_eq_false_iff_ne.mpr e1
    go_enter Try.func35, Try.ntmps35
    go_wp2_with (first | (go_at_call 34; first | ((with_reducible refine (rof_calls f _ HF.out).mono ?_); rintro e w1 ⟨rfl, rfl⟩) | ((with_reducible refine (rof_calls lo _ HL.out).mono ?_); rintro e w1 ⟨rfl, rfl⟩) | ((with_reducible refine (rof_calls hi _ HH.out).mono ?_); rintro e w1 ⟨rfl, rfl⟩)))
    go_ret2
    exact ⟨rfl, rfl⟩

set_option maxHeartbeats 8000000 in
theorem tells_calls (f lo hi : Nat) (a : Int) (w : World) (hf64 : f < 18446744073709551616) (hl64 : lo < 18446744073709551616) (hh64 : hi < 18446744073709551616) (h0 : -9223372036854775808 ≤ a) (h1 : a ≤ 9223372036854775807) :
    Calls Try.prog 13 #[.float .f64 f, .float .f64 lo, .float .f64 hi, .int .i64 a] w fun e w' => e = .returned (.bool true) ∧ Below w.heap.size w w' := by
  have HF := Aside0.mk hf64
  have HL := Aside0.mk hl64
  have HH := Aside0.mk hh64
  have HA := Aside0.mk (show -9223372036854775808 ≤ a ∧ a ≤ 9223372036854775807 from ⟨h0, h1⟩)
  have tn := Aside0.mk (tow_nan a h0 h1)
  clear hf64 hl64 hh64 h0 h1
  go_enter Try.func13, Try.ntmps13
  go_wp2_with (first | (go_at_call 23; (with_reducible refine (of_calls f _ HF.out).mono ?_); rintro e w1 ⟨rfl, rfl⟩) | (go_at_call 34; (with_reducible refine (rof_calls f _ HF.out).mono ?_); rintro e w1 ⟨rfl, rfl⟩) | (go_at_call 22; (with_reducible refine (within_calls f lo hi _ HF.out HL.out HH.out).mono ?_); rintro e w1 ⟨rfl, b1⟩; have B1 := Aside0.mk b1; clear b1) | (go_at_call 35; (with_reducible refine (rwithin_calls f lo hi _ HF.out HL.out HH.out).mono ?_); rintro e w1 ⟨rfl, rfl⟩) | (go_at_call 14; (with_reducible refine (kind_calls f _ HF.out).mono ?_); rintro e w1 ⟨rfl, rfl⟩) | (go_at_call 36; (with_reducible refine (rkind_calls f _ HF.out).mono ?_); rintro e w1 ⟨rfl, rfl⟩) | (go_at_call 27; (with_reducible refine (to_calls a _ HA.out.1 HA.out.2).mono ?_); rintro e w1 ⟨rfl, rfl⟩) | (go_at_call 37; (with_reducible refine (rto_calls a _ HA.out.1 HA.out.2).mono ?_); rintro e w1 ⟨rfl, rfl⟩) | (go_at_call 26; (with_reducible refine (same_calls (tow a) _ tn.out.1 tn.out.2).mono ?_); rintro e w1 ⟨rfl, rfl⟩) | (go_at_call 15; (with_reducible refine (shown_calls _).mono ?_); rintro e w1 ⟨rfl, rfl⟩))
  go_ret
  exact ⟨rfl, B1.out⟩

end Go.Proofs.Ytlbelgdcicholaa.Fl
