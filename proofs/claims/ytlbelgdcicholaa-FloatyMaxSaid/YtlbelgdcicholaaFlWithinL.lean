/- The walk of the statement FloatyWithin: each float64 of 64 bits and each three uint16. -/
import Derived.Test.YtlbelgdcicholaaProg
import Derived.Below
import Derived.Deep.Draws
import Derived.Deep.AppendLies
import Derived.Maps.AppendAt
import Derived.OwnWalk
import Derived.Laws.BytesArg
import Derived.Laws.MakeOwn
import Derived.Laws.OwnMore
import Derived.Deep.OwnRows
import Derived.Tactics
import Derived.Lib.ConvBytes
import Derived.Laws.Slices
import Derived.WalkKit
import Derived.KernelRfl
import Derived.RowKit3
import Derived.Deep.LoopGhost
import Derived.Deep.QuietTactic
import Derived.BigQuiet
import Derived.WideLaws
import Derived.Deep.DeepCutAuto
import Derived.Deep.CutBlock
import Derived.Deep.RegionHeld3
import Derived.Laws.Rows
import Derived.Lib.AppendStr
import Derived.ArgAppend
import Derived.Laws.IdiomCopy
import Derived.OrdersHeld
import Derived.Laws.BitsLemmas
import Derived.RowKit
import Derived.Test.YtlbelgdcicholaaWWords
import Derived.Test.YtlbelgdcicholaaWLast
import Derived.Test.YtlbelgdcicholaaWTab
import Derived.Test.YtlbelgdcicholaaWFour
import Derived.Test.YtlbelgdcicholaaWQPut
import Derived.Test.YtlbelgdcicholaaWApart
import Derived.Test.YtlbelgdcicholaaWArr
import Derived.Test.YtlbelgdcicholaaWZeros
import Derived.Test.YtlbelgdcicholaaWFoot
import Derived.Test.YtlbelgdcicholaaWKept
import Derived.Test.YtlbelgdcicholaaWShare
import Derived.Test.YtlbelgdcicholaaWN
import Derived.Test.YtlbelgdcicholaaWFootNe
import Derived.Test.YtlbelgdcicholaaWAt
import Derived.Test.YtlbelgdcicholaaWEqStruct
import Derived.Test.YtlbelgdcicholaaWRepsOne
import Derived.Test.YtlbelgdcicholaaWInv
import Derived.Test.YtlbelgdcicholaaWInvWords
import Derived.Test.YtlbelgdcicholaaWGuard
import Derived.Test.YtlbelgdcicholaaWNEv
import Derived.Test.YtlbelgdcicholaaWMore
import Derived.WalkLawsBesides
import Derived.Outline
import Derived.Laws.Externs
import Derived.Test.YtlbelgdcicholaaFlNear
import Derived.Test.YtlbelgdcicholaaFlWithin
import Derived.Test.YtlbelgdcicholaaFlKinds
namespace Go.Proofs.Ytlbelgdcicholaa.Fl
open Go.RowKit Go.Proofs.YtlbelgdcicholaaW.PrintWords Go.Proofs.YtlbelgdcicholaaW.PrintLast Go.Proofs.YtlbelgdcicholaaW.PrintMore
attribute [local go_sem] max2_int min2_int max_two min_two max_three min_three max_four min_four
set_option linter.unusedVariables false
set_option linter.unusedSimpArgs false
theorem irung_small (m : Nat) (h : m < 65536) : irung m < 4746794007248502784 := by
  by_cases z : m = 0
  · rw [z, show irung 0 = 0 from if_pos rfl]
    decide
  · have p := irung_parts m z (by omega)
    have l := log_le m 15 z h
    omega

theorem fl_small (n : Int) (h0 : 0 ≤ n) (h1 : n ≤ 65535) : ∃ x, floatOfInt .f64 n = x ∧ x < 18446744073709551616 ∧ ¬ isNan x ∧ rung x < 4746794007248502784 := by
  have e : floatOfInt .f64 n = Ieee.double.nearest (decide (n < 0)) n.natAbs 0 := rfl
  have hm : n.natAbs < 65536 := by omega
  have b := irung_small n.natAbs hm
  have p := word_parts (decide (n < 0)) (irung n.natAbs) (by omega)
  refine ⟨_, rfl, ?_⟩
  rw [e, int_word _ _ (by omega)]
  exact ⟨p.2.2, by unfold isNan; rw [p.1]; omega, by rw [p.1]; exact b⟩

theorem ofe_small (x : Nat) (h : rung x < 4746794007248502784) : ofe x = 0 := by
  unfold ofe
  rw [if_neg (show ¬ isNan x by unfold isNan; omega), if_neg (by omega), if_pos h]

theorem nearest_word (s : Bool) (m : Nat) (p : Int) : ∃ r, r ≤ 9218868437227405312 ∧ Ieee.double.nearest s m p = Ieee.double.word s r := by
  have e3 : Ieee.double.infRung = 9218868437227405312 := by decide
  unfold Ieee.Format.nearest
  by_cases h : m = 0
  · rw [if_pos h]
    exact ⟨0, by decide, rfl⟩
  · rw [if_neg h, e3]
    exact ⟨_, Nat.min_le_right _ _, rfl⟩

theorem near_nn (s : Bool) (m : Nat) (p : Int) : Ieee.double.nearest s m p < 18446744073709551616 ∧ ¬ isNan (Ieee.double.nearest s m p) := by
  obtain ⟨r, hr, hw⟩ := nearest_word s m p
  have q := word_parts s r (by omega)
  rw [hw]
  exact ⟨q.2.2, by unfold isNan; rw [q.1]; omega⟩

theorem add_num (x y : Nat) (hx : rung x < 9218868437227405312) (hy : rung y < 9218868437227405312) : ∃ z, floatBits .add .f64 x y = some z ∧ z < 18446744073709551616 ∧ ¬ isNan z := by
  have e : floatBits .add .f64 x y = ((Ieee.double.read x).sum (Ieee.double.read y)).map Ieee.double.write := rfl
  rw [e, read_num hx, read_num hy]
  exact ⟨_, rfl, near_nn _ _ _⟩

theorem min_num (x y : Nat) (hx : ¬ isNan x) (hy : ¬ isNan y) : ∃ u, (∀ (w : World), (Builtin.min2 (.float .f64 x) (.float .f64 y)).run Try.prog w = .ok (.float .f64 u) w) ∧ (u = x ∨ u = y) ∧ sr u ≤ sr x := by
  have ho : FloatKind.f64.format.order x y = some (compare (sr x) (sr y)) := order_eq hx hy
  rw [cmp_def] at ho
  by_cases c : sr x < sr y
  · rw [if_pos c] at ho
    exact ⟨x, fun w => by simp [Builtin.min2, ho, go_sem], .inl rfl, Int.le_refl _⟩
  · rw [if_neg c] at ho
    by_cases d : sr x = sr y
    · rw [if_pos d] at ho
      by_cases s : (FloatKind.f64.decode x).neg = true
      · exact ⟨x, fun w => by simp [Builtin.min2, ho, s, go_sem], .inl rfl, Int.le_refl _⟩
      · exact ⟨y, fun w => by simp [Builtin.min2, ho, s, go_sem], .inr rfl, Int.le_of_eq d.symm⟩
    · rw [if_neg d] at ho
      exact ⟨y, fun w => by simp [Builtin.min2, ho, go_sem], .inr rfl, by omega⟩

theorem flt_eq (x y : Nat) (hx : ¬ isNan x) (hy : ¬ isNan y) : flt x y = decide (sr x < sr y) := by
  have ho : FloatKind.f64.format.order x y = some (compare (sr x) (sr y)) := order_eq hx hy
  unfold flt
  rw [ho, cmp_def]
  by_cases c : sr x < sr y
  · rw [if_pos c, decide_eq_true c]
    rfl
  · rw [if_neg c, decide_eq_false c]
    split <;> rfl

theorem ofe_nan (x : Nat) (h : ofe x = 0) : ¬ isNan x := by
  intro n
  unfold ofe at h
  rw [if_pos n] at h
  omega

theorem win_ok (f lo hi : Nat) (h : (win f lo hi).2 = 0) : ofe f = 0 ∧ ofe lo = 0 ∧ ofe hi = 0 ∧ flt f lo = false ∧ flt hi f = false ∧ (win f lo hi).1 = ofn f := by
  unfold win at *
  by_cases a : ofe f = 0
  · rw [if_neg (not_not_intro a)] at *
    by_cases b : ofe lo = 0
    · rw [if_neg (not_not_intro b)] at *
      by_cases c : ofe hi = 0
      · rw [if_neg (not_not_intro c)] at *
        by_cases d : (flt f lo || flt hi f) = true
        · rw [if_pos d] at h
          simp at h
        · rw [if_neg d]
          simp only [Bool.or_eq_true, not_or, Bool.not_eq_true] at d
          exact ⟨a, b, c, d.1, d.2, rfl⟩
      · rw [if_pos c] at h
        exact absurd h c
    · rw [if_pos b] at h
      exact absurd h b
  · rw [if_pos a] at h
    exact absurd h a

theorem win_is (f lo hi : Nat) (a : ofe f = 0) (b : ofe lo = 0) (c : ofe hi = 0) (d : flt f lo = false) (e : flt hi f = false) : win f lo hi = (ofn f, 0) := by
  unfold win
  rw [if_neg (not_not_intro a), if_neg (not_not_intro b), if_neg (not_not_intro c), d, e, if_neg (by simp)]

theorem win_no (f lo hi : Nat) (h : (win f lo hi).2 ≠ 0) : (win f lo hi).1 = 0 := by
  unfold win at *
  (repeat' split) <;> first | rfl | (simp_all)

theorem gt_flip (x y : Nat) (hx : ¬ isNan x) (hy : ¬ isNan y) : (FloatKind.f64.format.order x y == some .gt) = flt y x := by
  have ho : FloatKind.f64.format.order x y = some (compare (sr x) (sr y)) := order_eq hx hy
  rw [flt_eq y x hy hx, ho, cmp_def]
  by_cases c : sr y < sr x
  · rw [decide_eq_true c, if_neg (by omega), if_neg (by omega)]
    rfl
  · rw [decide_eq_false c]
    (repeat' split) <;> first | rfl | omega

theorem ge_flip (x y : Nat) (hx : ¬ isNan x) (hy : ¬ isNan y) : (FloatKind.f64.format.order x y == some .gt || FloatKind.f64.format.order x y == some .eq) = !flt x y := by
  have ho : FloatKind.f64.format.order x y = some (compare (sr x) (sr y)) := order_eq hx hy
  rw [flt_eq x y hx hy, ho, cmp_def]
  by_cases c : sr x < sr y
  · rw [decide_eq_true c, if_pos c]
    rfl
  · rw [decide_eq_false c, if_neg c]
    split <;> rfl

theorem le_flip (x y : Nat) (hx : ¬ isNan x) (hy : ¬ isNan y) : (FloatKind.f64.format.order x y == some .lt || FloatKind.f64.format.order x y == some .eq) = !flt y x := by
  have ho : FloatKind.f64.format.order x y = some (compare (sr x) (sr y)) := order_eq hx hy
  rw [flt_eq y x hy hx, ho, cmp_def]
  by_cases c : sr y < sr x
  · rw [decide_eq_true c, if_neg (by omega), if_neg (by omega)]
    rfl
  · rw [decide_eq_false c]
    (repeat' split) <;> first | rfl | omega

/-- What a narrower range takes, the wider one takes. -/
theorem win_less (f lo hi u : Nat) (hl : ofe lo = 0) (hh : ofe hi = 0) (hu : ¬ isNan u) (hs : sr u ≤ sr hi) (h : (win f lo u).2 = 0) : (win f lo hi).2 = 0 := by
  obtain ⟨a, _, _, d, e, _⟩ := win_ok f lo u h
  have nf := ofe_nan f a
  have nh := ofe_nan hi hh
  rw [flt_eq u f hu nf] at e
  have e2 := of_decide_eq_false e
  rw [win_is f lo hi a hl hh d (by rw [flt_eq hi f nh nf]; exact decide_eq_false (by omega))]

set_option maxHeartbeats 16000000 in
theorem withinL_calls (f : Nat) (a b c : Int) (w : World) (hf64 : f < 18446744073709551616) (ha : 0 ≤ a ∧ a ≤ 65535) (hb : 0 ≤ b ∧ b ≤ 65535) (hc : 0 ≤ c ∧ c ≤ 65535) :
    Calls Try.prog 6 #[.float .f64 f, .int .u16 a, .int .u16 b, .int .u16 c] w fun e w' => e = .returned (.bool true) ∧ Below w.heap.size w w' := by
  have HF := Aside0.mk hf64
  clear hf64
  obtain ⟨x, ex, hx64, hxn, hxs⟩ := fl_small c hc.1 hc.2
  obtain ⟨ya, eya, hya64, hyan, hyas⟩ := fl_small a ha.1 ha.2
  obtain ⟨yb, eyb, hyb64, hybn, hybs⟩ := fl_small b hb.1 hb.2
  have key : ∃ lo hi : Nat, ((b < a ∧ lo = yb ∧ hi = ya) ∨ (a < b ∧ lo = ya ∧ hi = yb) ∨ (a = b ∧ lo = ya ∧ hi = ya ∧ yb = ya)) := by
    rcases Int.lt_trichotomy a b with q | q | q
    · exact ⟨ya, yb, .inr (.inl ⟨q, rfl, rfl⟩)⟩
    · exact ⟨ya, ya, .inr (.inr ⟨q, rfl, rfl, by rw [← eya, ← eyb, q]⟩)⟩
    · exact ⟨yb, ya, .inl ⟨q, rfl, rfl⟩⟩
  obtain ⟨lo, hi, hlh⟩ := key
  have hlo : lo < 18446744073709551616 ∧ ¬ isNan lo ∧ rung lo < 4746794007248502784 := by
    rcases hlh with ⟨_, rfl, rfl⟩ | ⟨_, rfl, rfl⟩ | ⟨_, rfl, rfl, rfl⟩
    · exact ⟨hyb64, hybn, hybs⟩
    · exact ⟨hya64, hyan, hyas⟩
    · exact ⟨hyb64, hybn, hybs⟩
  have hhi : hi < 18446744073709551616 ∧ ¬ isNan hi ∧ rung hi < 4746794007248502784 := by
    rcases hlh with ⟨_, rfl, rfl⟩ | ⟨_, rfl, rfl⟩ | ⟨_, rfl, rfl, rfl⟩
    · exact ⟨hya64, hyan, hyas⟩
    · exact ⟨hyb64, hybn, hybs⟩
    · exact ⟨hyb64, hybn, hybs⟩
  obtain ⟨z, hz, hz64, hzn⟩ := add_num lo x (by omega) (by omega)
  have hadd : ∀ (t : TypeId) (w : World), (binOp .add t (.float .f64 lo) (.float .f64 x)).run Try.prog w = .ok (.float .f64 z) w := fun t w => run_float_arith _ .add t .f64 _ _ _ hz
  obtain ⟨u, hmin, huo, hus⟩ := min_num hi z hhi.2.1 hzn
  have hu : u < 18446744073709551616 ∧ ¬ isNan u := by
    rcases huo with rfl | rfl
    · exact ⟨hhi.1, hhi.2.1⟩
    · exact ⟨hz64, hzn⟩
  have HL := Aside0.mk hlo.1
  have HH := Aside0.mk hhi.1
  have HU := Aside0.mk hu.1
  have ol := ofe_small lo hlo.2.2
  have oh := ofe_small hi hhi.2.2
  have less := win_less f lo hi u ol oh hu.2 hus
  have nl := hlo.2.1
  have nh := hhi.2.1
  clear hz hz64 hzn hxs hxn hx64 huo hus hu hlo hhi hya64 hyan hyas hyb64 hybn hybs ha hb hc
  by_cases e0 : (win f lo hi).2 = 0
  · obtain ⟨o1, _, _, o4, o5, o6⟩ := win_ok f lo hi e0
    have nf := ofe_nan f o1
    have g1 : (FloatKind.f64.format.order f lo == some .lt) = false := o4
    have g2 : (FloatKind.f64.format.order f hi == some .gt) = false := by rw [gt_flip f hi nf nh]; exact o5
    clear less nf nl nh o4 o5 ol oh
    by_cases h0 : (win f lo u).2 = 0
    all_goals
      rcases hlh with ⟨q, rfl, rfl⟩ | ⟨q, rfl, rfl⟩ | ⟨q, rfl, rfl, rfl⟩
    all_goals
      have h0b := h0
      go_enter Try.func6, Try.ntmps6
      go_wp2_with (first | (go_at_call 22; first | ((with_reducible refine (within_calls f _ _ _ HF.out HL.out HH.out).mono ?_); rintro e w1 ⟨rfl, h1⟩; have H1 := Aside0.mk h1; clear h1) | ((with_reducible refine (within_calls f _ _ _ HF.out HL.out HU.out).mono ?_); rintro e w2 ⟨rfl, h2⟩; have H2 := Aside0.mk h2; clear h2)) | (go_at_call 23; (with_reducible refine (of_calls f _ HF.out).mono ?_); rintro e w1 ⟨rfl, rfl⟩) | (go_at_call 15; (with_reducible refine (shown_calls _).mono ?_); rintro e w1 ⟨rfl, rfl⟩))
    all_goals
      first | (exfalso; omega) | (go_ret; exact ⟨rfl, below_step H1.out H2.out⟩)
  · have n1 := win_no f lo hi e0
    have e2 : ¬ (win f lo u).2 = 0 := fun h => e0 (less h)
    have d0 : ((win f lo hi).2 == 0) = false := beq_eq_false_iff_ne.mpr e0
    have d2 : ((win f lo u).2 == 0) = false := beq_eq_false_iff_ne.mpr e2
    by_cases o1 : ofe f = 0
    · have nf := ofe_nan f o1
      have g1 := ge_flip f lo nf nl
      have g2 := le_flip f hi nf nh
      cases k1 : flt f lo
      · have k2 : flt hi f = true := by
          cases k2 : flt hi f
          · exact absurd (by rw [win_is f lo hi o1 ol oh k1 k2]) e0
          · rfl
        rw [k1] at g1
        rw [k2] at g2
        clear less nf nl nh ol oh k1 k2
        rcases hlh with ⟨q, rfl, rfl⟩ | ⟨q, rfl, rfl⟩ | ⟨q, rfl, rfl, rfl⟩
        all_goals
          go_enter Try.func6, Try.ntmps6
          go_wp2_with (first | (go_at_call 22; first | ((with_reducible refine (within_calls f _ _ _ HF.out HL.out HH.out).mono ?_); rintro e w1 ⟨rfl, h1⟩; have H1 := Aside0.mk h1; clear h1) | ((with_reducible refine (within_calls f _ _ _ HF.out HL.out HU.out).mono ?_); rintro e w2 ⟨rfl, h2⟩; have H2 := Aside0.mk h2; clear h2)) | (go_at_call 23; (with_reducible refine (of_calls f _ HF.out).mono ?_); rintro e w1 ⟨rfl, rfl⟩) | (go_at_call 15; (with_reducible refine (shown_calls _).mono ?_); rintro e w1 ⟨rfl, rfl⟩))
        all_goals
          first | (exfalso; omega) | (go_ret; exact ⟨rfl, below_step H1.out H2.out⟩)
      · rw [k1] at g1
        clear less nf nl nh ol oh k1
        rcases hlh with ⟨q, rfl, rfl⟩ | ⟨q, rfl, rfl⟩ | ⟨q, rfl, rfl, rfl⟩
        all_goals
          go_enter Try.func6, Try.ntmps6
          go_wp2_with (first | (go_at_call 22; first | ((with_reducible refine (within_calls f _ _ _ HF.out HL.out HH.out).mono ?_); rintro e w1 ⟨rfl, h1⟩; have H1 := Aside0.mk h1; clear h1) | ((with_reducible refine (within_calls f _ _ _ HF.out HL.out HU.out).mono ?_); rintro e w2 ⟨rfl, h2⟩; have H2 := Aside0.mk h2; clear h2)) | (go_at_call 23; (with_reducible refine (of_calls f _ HF.out).mono ?_); rintro e w1 ⟨rfl, rfl⟩) | (go_at_call 15; (with_reducible refine (shown_calls _).mono ?_); rintro e w1 ⟨rfl, rfl⟩))
        all_goals
          first | (exfalso; omega) | (go_ret; exact ⟨rfl, below_step H1.out H2.out⟩)
    · have d1 : (ofe f == 0) = false := beq_eq_false_iff_ne.mpr o1
      clear less nl nh ol oh
      rcases hlh with ⟨q, rfl, rfl⟩ | ⟨q, rfl, rfl⟩ | ⟨q, rfl, rfl, rfl⟩
      all_goals
        go_enter Try.func6, Try.ntmps6
        go_wp2_with (first | (go_at_call 22; first | ((with_reducible refine (within_calls f _ _ _ HF.out HL.out HH.out).mono ?_); rintro e w1 ⟨rfl, h1⟩; have H1 := Aside0.mk h1; clear h1) | ((with_reducible refine (within_calls f _ _ _ HF.out HL.out HU.out).mono ?_); rintro e w2 ⟨rfl, h2⟩; have H2 := Aside0.mk h2; clear h2)) | (go_at_call 23; (with_reducible refine (of_calls f _ HF.out).mono ?_); rintro e w1 ⟨rfl, rfl⟩) | (go_at_call 15; (with_reducible refine (shown_calls _).mono ?_); rintro e w1 ⟨rfl, rfl⟩))
      all_goals
        first | (exfalso; omega) | (go_ret; exact ⟨rfl, below_step H1.out H2.out⟩)

end Go.Proofs.Ytlbelgdcicholaa.Fl
