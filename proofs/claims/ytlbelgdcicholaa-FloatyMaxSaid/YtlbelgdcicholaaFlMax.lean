/- Contracts of floaty.Max and of the document's Max, over any float64 of 64 bits. -/
import Derived.Test.YtlbelgdcicholaaProg
import Derived.Below
import Derived.Deep.Draws
import Derived.Deep.AppendLies
import Derived.Maps.AppendAt
import Derived.OwnWalk
import Derived.Laws.BytesArg
import Derived.Laws.MakeOwn
import Derived.Laws.OwnMore
import Derived.Deep.OwnRows
import Derived.Tactics
import Derived.Lib.ConvBytes
import Derived.Laws.Slices
import Derived.WalkKit
import Derived.KernelRfl
import Derived.RowKit3
import Derived.Deep.LoopGhost
import Derived.Deep.QuietTactic
import Derived.BigQuiet
import Derived.WideLaws
import Derived.Deep.DeepCutAuto
import Derived.Deep.CutBlock
import Derived.Deep.RegionHeld3
import Derived.Laws.Rows
import Derived.Lib.AppendStr
import Derived.ArgAppend
import Derived.Laws.IdiomCopy
import Derived.OrdersHeld
import Derived.Laws.BitsLemmas
import Derived.RowKit
import Derived.Test.YtlbelgdcicholaaWWords
import Derived.Test.YtlbelgdcicholaaWLast
import Derived.Test.YtlbelgdcicholaaWTab
import Derived.Test.YtlbelgdcicholaaWFour
import Derived.Test.YtlbelgdcicholaaWQPut
import Derived.Test.YtlbelgdcicholaaWApart
import Derived.Test.YtlbelgdcicholaaWArr
import Derived.Test.YtlbelgdcicholaaWZeros
import Derived.Test.YtlbelgdcicholaaWFoot
import Derived.Test.YtlbelgdcicholaaWKept
import Derived.Test.YtlbelgdcicholaaWShare
import Derived.Test.YtlbelgdcicholaaWN
import Derived.Test.YtlbelgdcicholaaWFootNe
import Derived.Test.YtlbelgdcicholaaWAt
import Derived.Test.YtlbelgdcicholaaWEqStruct
import Derived.Test.YtlbelgdcicholaaWRepsOne
import Derived.Test.YtlbelgdcicholaaWInv
import Derived.Test.YtlbelgdcicholaaWInvWords
import Derived.Test.YtlbelgdcicholaaWGuard
import Derived.Test.YtlbelgdcicholaaWNEv
import Derived.Test.YtlbelgdcicholaaWMore
import Derived.WalkLawsBesides
import Derived.Outline
import Derived.Laws.Externs
import Derived.Test.YtlbelgdcicholaaFlRKind
import Derived.Test.YtlbelgdcicholaaFlWithinL
namespace Go.Proofs.Ytlbelgdcicholaa.Fl
open Go.RowKit Go.Proofs.YtlbelgdcicholaaW.PrintWords Go.Proofs.YtlbelgdcicholaaW.PrintLast Go.Proofs.YtlbelgdcicholaaW.PrintMore
attribute [local go_sem] max2_int min2_int max_two min_two max_three min_three max_four min_four
set_option linter.unusedVariables false
set_option linter.unusedSimpArgs false
def pickv (best f : Nat) : Nat := if (flt best f || (kindv f == 3 && kindv best == 4)) = true then f else best
def stepv (s : Option Nat) (f : Nat) : Option Nat := if isNan f then s else some (match s with | none => f | some b => pickv b f)
def ninf : Nat := 18442240474082181120

theorem inf_run (w : World) : Calls Try.prog 48 #[.int .i64 (-1)] w fun e w' => e = .returned (.float .f64 ninf) ∧ w' = w := by
  have hf := frombits_run 18442240474082181120
  go_enter Try.func48, Try.ntmps48
  go_wp2_with (fail)
  go_ret
  exact ⟨rfl, rfl⟩

theorem same_bits (x y : Nat) (hx : x < 18446744073709551616) (hy : y < 18446744073709551616) (h : sr x = sr y) (hz : rung x ≠ 0) : x = y := by
  have e1 := self_word x hx
  have e2 := self_word y hy
  unfold sr at h
  have k : neg x = neg y ∧ rung x = rung y := by
    cases a : neg x <;> cases b : neg y <;> rw [a, b] at h <;> simp at h <;> first | exact ⟨rfl, by omega⟩ | omega
  rw [← e1, ← e2, k.1, k.2]

theorem zero_bits (x : Nat) (hx : x < 18446744073709551616) (h : rung x = 0) : x = if neg x = true then 9223372036854775808 else 0 := by
  have e := self_word x hx
  rw [h] at e
  rw [← e]
  have e1 : Ieee.double.signWeight = 9223372036854775808 := by decide
  have w := word_parts (neg x) 0 (by decide)
  rw [w.2.1]
  unfold Ieee.Format.word
  rw [e1]

def archv (x y : Nat) : Nat :=
  if FloatKind.f64.decode x == .infinity false || FloatKind.f64.decode y == .infinity false then FloatKind.f64.encode (.infinity false)
  else if (FloatKind.f64.decode x).isNaN || (FloatKind.f64.decode y).isNaN then 0x7FF8000000000001
  else if (FloatKind.f64.decode x).isZero && (FloatKind.f64.decode y).isZero then (if (FloatKind.f64.decode x).neg == false then x else y)
  else if (FloatKind.f64.decode x).order (FloatKind.f64.decode y) == some .gt then x else y

theorem arch_run (x y : Nat) (w : World) : (callFunc 61 #[.float .f64 x, .float .f64 y]).run Try.prog w = .ok (.value (.float .f64 (archv x y))) w :=
  (run_callFunc_extern Try.func61 (by kernel_rfl) (by kernel_rfl) (by kernel_rfl) (by rfl) _ w).trans rfl

theorem kind_zero (x : Nat) (hn : ¬ isNan x) : (kindv x == 3) = (decide (rung x = 0) && !neg x) ∧ (kindv x == 4) = (decide (rung x = 0) && neg x) := by
  unfold kindv sgn01
  rw [if_neg hn]
  by_cases i : rung x = 9218868437227405312
  · rw [if_pos i, decide_eq_false (by omega)]
    cases neg x <;> exact ⟨rfl, rfl⟩
  · rw [if_neg i]
    by_cases z : rung x = 0
    · rw [if_pos z, decide_eq_true z]
      cases neg x <;> exact ⟨rfl, rfl⟩
    · rw [if_neg z, decide_eq_false z]
      cases neg x <;> exact ⟨rfl, rfl⟩

theorem dec_facts (x : Nat) (hn : ¬ isNan x) : (FloatKind.f64.decode x == .infinity false) = (decide (rung x = 9218868437227405312) && !neg x) ∧ (FloatKind.f64.decode x).isNaN = false ∧ (FloatKind.f64.decode x).isZero = decide (rung x = 0) ∧ (FloatKind.f64.decode x).neg = neg x := by
  by_cases i : rung x = 9218868437227405312
  · have e : FloatKind.f64.decode x = .infinity (neg x) := read_inf i
    rw [e, decide_eq_true i, decide_eq_false (by omega)]
    cases neg x <;> exact ⟨by decide, rfl, rfl, rfl⟩
  · have hf : rung x < 9218868437227405312 := by unfold isNan at hn; omega
    have e : FloatKind.f64.decode x = .number (neg x) (mag (rung x)) ((up (rung x) : Int) - 1074) := read_num hf
    rw [e, decide_eq_false i]
    refine ⟨rfl, rfl, ?_, rfl⟩
    by_cases z : rung x = 0
    · rw [decide_eq_true z, z]
      rfl
    · rw [decide_eq_false z]
      have hm : mag (rung x) ≠ 0 := by unfold mag; split <;> omega
      obtain ⟨m, hm2⟩ : ∃ m, mag (rung x) = m + 1 := ⟨mag (rung x) - 1, by omega⟩
      rw [hm2]
      rfl

theorem arch_pick (x y : Nat) (hx : x < 18446744073709551616) (hy : y < 18446744073709551616) (nx : ¬ isNan x) (ny : ¬ isNan y) : archv x y = pickv x y := by
  obtain ⟨x1, x2, x3, x4⟩ := dec_facts x nx
  obtain ⟨y1, y2, y3, y4⟩ := dec_facts y ny
  have ho : ((FloatKind.f64.decode x).order (FloatKind.f64.decode y) == some .gt) = flt y x := gt_flip x y nx ny
  have k1 := (kind_zero y ny).1
  have k2 := (kind_zero x nx).2
  have ei : FloatKind.f64.encode (.infinity false) = 9218868437227405312 := by decide
  unfold archv pickv
  rw [x1, y1, x2, y2, x3, y3, x4, ho, k1, k2, ei, flt_eq x y nx ny, flt_eq y x ny nx]
  have sx : sr x = if neg x = true then -(rung x : Int) else (rung x : Int) := rfl
  have sy : sr y = if neg y = true then -(rung y : Int) else (rung y : Int) := rfl
  have wx := self_word x hx
  have wy := self_word y hy
  unfold isNan at nx ny
  by_cases ix : rung x = 9218868437227405312 ∧ neg x = false
  · have e : x = 9218868437227405312 := by rw [← wx, ix.1, ix.2]; decide
    rw [decide_eq_true ix.1, ix.2]
    rw [ix.2, if_neg (by decide)] at sx
    have : ¬ sr x < sr y := by
      have r := ix.1
      clear ix wx wy e
      rw [sx, sy, r]
      cases neg y
      · rw [if_neg (by decide)]
        omega
      · rw [if_pos rfl]
        omega
    rw [decide_eq_false this, decide_eq_false (show ¬ rung x = 0 by omega)]
    simp [e]
  · by_cases iy : rung y = 9218868437227405312 ∧ neg y = false
    · have e : y = 9218868437227405312 := by rw [← wy, iy.1, iy.2]; decide
      rw [iy.2, if_neg (by decide)] at sy
      have lt : sr x < sr y := by
        have q : neg x = false → rung x ≠ 9218868437227405312 := fun h q => ix ⟨q, h⟩
        have r := iy.1
        clear ix iy wx wy e
        rw [sx, sy, r]
        cases h : neg x
        · have := q h
          simp
          omega
        · simp
          omega
      rw [decide_eq_true iy.1, iy.2, decide_eq_true lt]
      simp [e]
    · have bx : (decide (rung x = 9218868437227405312) && !neg x) = false := by
        cases h : neg x
        · simp
          exact fun q => ix ⟨q, h⟩
        · simp
      have bY : (decide (rung y = 9218868437227405312) && !neg y) = false := by
        cases h : neg y
        · simp
          exact fun q => iy ⟨q, h⟩
        · simp
      rw [bx, bY]
      simp only [Bool.or_self, Bool.false_eq_true, if_false]
      by_cases zx : rung x = 0
      · by_cases zy : rung y = 0
        · have lt : ¬ sr x < sr y := by rw [sx, sy, zx, zy]; cases neg x <;> cases neg y <;> simp
          rw [decide_eq_true zx, decide_eq_true zy, decide_eq_false lt]
          have ex := zero_bits x hx zx
          have ey := zero_bits y hy zy
          cases a : neg x <;> cases b : neg y <;> rw [a] at ex <;> rw [b] at ey <;> simp [ex, ey]
        · rw [decide_eq_true zx, decide_eq_false zy]
          by_cases lt : sr x < sr y
          · rw [decide_eq_true lt, decide_eq_false (show ¬ sr y < sr x by omega)]
            simp
          · have ne : sr y < sr x := by
              have s0 : sr x = 0 := by rw [sx, zx]; cases neg x <;> rfl
              rw [s0] at lt ⊢
              have s1 : sr y ≠ 0 := by
                rw [sy]
                cases neg y
                · rw [if_neg (by decide)]
                  omega
                · rw [if_pos rfl]
                  omega
              clear sx sy wx wy
              omega
            rw [decide_eq_false lt, decide_eq_true ne]
            simp
      · rw [decide_eq_false zx]
        by_cases lt : sr x < sr y
        · rw [decide_eq_true lt, decide_eq_false (show ¬ sr y < sr x by omega)]
          simp
        · by_cases gt : sr y < sr x
          · rw [decide_eq_false lt, decide_eq_true gt]
            simp
          · have e := same_bits x y hx hy (by omega) zx
            rw [decide_eq_false lt, decide_eq_false gt]
            simp [e]

theorem pick_first (f : Nat) (hf : f < 18446744073709551616) (nf : ¬ isNan f) : pickv ninf f = f := by
  have nn : ¬ isNan ninf := by decide
  have k2 : (kindv ninf == 4) = false := by decide
  unfold pickv
  rw [k2, Bool.and_false, Bool.or_false, flt_eq _ _ nn nf]
  by_cases c : sr ninf < sr f
  · rw [decide_eq_true c, if_pos rfl]
  · rw [decide_eq_false c, if_neg (by decide)]
    refine same_bits ninf f (by decide) hf ?_ (by decide)
    have e : sr ninf = -9218868437227405312 := by decide
    rw [e] at c ⊢
    unfold sr at c ⊢
    unfold isNan at nf
    generalize rung f = r at *
    cases h : neg f
    · rw [h, if_neg (by decide)] at c
      omega
    · rw [h, if_pos rfl] at c
      rw [if_pos rfl]
      omega

theorem pick_ok (b f : Nat) (hb : b < 18446744073709551616 ∧ ¬ isNan b) (hf : f < 18446744073709551616 ∧ ¬ isNan f) : pickv b f < 18446744073709551616 ∧ ¬ isNan (pickv b f) := by
  unfold pickv
  split
  · exact hf
  · exact hb

end Go.Proofs.Ytlbelgdcicholaa.Fl
