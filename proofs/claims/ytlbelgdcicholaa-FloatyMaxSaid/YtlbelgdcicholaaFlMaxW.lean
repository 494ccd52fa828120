/- The walks of floaty.Max and of the document's Max, over any float64s of 64 bits that lie in cells. -/
import Derived.Test.YtlbelgdcicholaaProg
import Derived.Below
import Derived.Deep.Draws
import Derived.Deep.AppendLies
import Derived.Maps.AppendAt
import Derived.OwnWalk
import Derived.Laws.BytesArg
import Derived.Laws.MakeOwn
import Derived.Laws.OwnMore
import Derived.Deep.OwnRows
import Derived.Tactics
import Derived.Lib.ConvBytes
import Derived.Laws.Slices
import Derived.WalkKit
import Derived.KernelRfl
import Derived.RowKit3
import Derived.Deep.LoopGhost
import Derived.Deep.QuietTactic
import Derived.BigQuiet
import Derived.WideLaws
import Derived.Deep.DeepCutAuto
import Derived.Deep.CutBlock
import Derived.Deep.RegionHeld3
import Derived.Laws.Rows
import Derived.Lib.AppendStr
import Derived.ArgAppend
import Derived.Laws.IdiomCopy
import Derived.OrdersHeld
import Derived.Laws.BitsLemmas
import Derived.RowKit
import Derived.Test.YtlbelgdcicholaaWWords
import Derived.Test.YtlbelgdcicholaaWLast
import Derived.Test.YtlbelgdcicholaaWTab
import Derived.Test.YtlbelgdcicholaaWFour
import Derived.Test.YtlbelgdcicholaaWQPut
import Derived.Test.YtlbelgdcicholaaWApart
import Derived.Test.YtlbelgdcicholaaWArr
import Derived.Test.YtlbelgdcicholaaWZeros
import Derived.Test.YtlbelgdcicholaaWFoot
import Derived.Test.YtlbelgdcicholaaWKept
import Derived.Test.YtlbelgdcicholaaWShare
import Derived.Test.YtlbelgdcicholaaWN
import Derived.Test.YtlbelgdcicholaaWFootNe
import Derived.Test.YtlbelgdcicholaaWAt
import Derived.Test.YtlbelgdcicholaaWEqStruct
import Derived.Test.YtlbelgdcicholaaWRepsOne
import Derived.Test.YtlbelgdcicholaaWInv
import Derived.Test.YtlbelgdcicholaaWInvWords
import Derived.Test.YtlbelgdcicholaaWGuard
import Derived.Test.YtlbelgdcicholaaWNEv
import Derived.Test.YtlbelgdcicholaaWMore
import Derived.WalkLawsBesides
import Derived.Outline
import Derived.Laws.Externs
import Derived.Test.YtlbelgdcicholaaFlMax
import Derived.Test.YtlbelgdcicholaaFlRKind
import Derived.Test.YtlbelgdcicholaaFlWithinL
namespace Go.Proofs.Ytlbelgdcicholaa.Fl
open Go.RowKit Go.Proofs.YtlbelgdcicholaaW.PrintWords Go.Proofs.YtlbelgdcicholaaW.PrintLast Go.Proofs.YtlbelgdcicholaaW.PrintMore
attribute [local go_sem] max2_int min2_int max_two min_two max_three min_three max_four min_four
set_option linter.unusedVariables false
set_option linter.unusedSimpArgs false
theorem max_calls (x y : Nat) (w : World) (hx : x < 18446744073709551616 ∧ ¬ isNan x) (hy : y < 18446744073709551616 ∧ ¬ isNan y) : Calls Try.prog 49 #[.float .f64 x, .float .f64 y] w fun e w' => e = .returned (.float .f64 (pickv x y)) ∧ w' = w := by
  have ha := arch_run x y
  rw [arch_pick x y hx.1 hy.1 hx.2 hy.2] at ha
  clear hx hy
  go_enter Try.func49, Try.ntmps49
  go_wp2_with (fail)
  go_ret
  exact ⟨rfl, rfl⟩

def CellsF (w : World) (A : Option Addr) (l : List Nat) : Prop := ∀ j, j < l.length → ∃ ad, A = some ad ∧ w.cell? (ad.add j) = some (.float .f64 (l.getD j 0))
def mx (l : List Nat) : Option Nat := l.foldl stepv none

theorem mx_snoc (l : List Nat) (j : Nat) (h : j < l.length) : mx (l.take (j + 1)) = stepv (mx (l.take j)) (l.getD j 0) := by
  unfold mx
  rw [List.take_succ_eq_append_getElem h, List.foldl_append]
  simp [h]

theorem step_ok (s : Option Nat) (f : Nat) (hs : ∀ b, s = some b → b < 18446744073709551616 ∧ ¬ isNan b) (hf : f < 18446744073709551616) : ∀ b, stepv s f = some b → b < 18446744073709551616 ∧ ¬ isNan b := by
  intro b hb
  unfold stepv at hb
  by_cases n : isNan f
  · rw [if_pos n] at hb
    exact hs b hb
  · rw [if_neg n] at hb
    cases s with
    | none => cases hb; exact ⟨hf, n⟩
    | some c => cases hb; exact pick_ok c f (hs c rfl) ⟨hf, n⟩

theorem mx_ok (l : List Nat) (hl : ∀ x ∈ l, x < 18446744073709551616) : ∀ j, ∀ b, mx (l.take j) = some b → b < 18446744073709551616 ∧ ¬ isNan b := by
  intro j
  induction j with
  | zero => intro b hb; simp [mx] at hb
  | succ j ih =>
    by_cases h : j < l.length
    · rw [mx_snoc l j h]
      refine step_ok _ _ ih ?_
      have : l.getD j 0 = l[j] := by simp [h]
      rw [this]
      exact hl _ (List.getElem_mem h)
    · rw [List.take_of_length_le (by omega)]
      rw [List.take_of_length_le (by omega)] at ih
      exact ih

set_option maxHeartbeats 4000000 in
theorem gomax_calls (A0 : Option Addr) (c0 : Nat) (l : List Nat) (w : World) (hc : CellsF w A0 l) (hl : ∀ x ∈ l, x < 18446744073709551616) (hn : l.length ≤ 1024) :
    Calls Try.prog 24 #[.slice A0 l.length c0] w fun e w' => e = .returned (.tuple #[.float .f64 ((mx l).getD 0), .bool (mx l).isSome]) ∧ w' = w := by
  have HC := Aside0.mk hc
  have HL := Aside0.mk hl
  have HN := Aside0.mk hn
  clear hc hl hn
  go_enter Try.func24, Try.ntmps24
  go_wp2_with (first | (go_at_call 48; (with_reducible refine (inf_run _).mono ?_); rintro e w1 ⟨rfl, rfl⟩))
  go_loopg [4, 5, 11] l.length (fun g b is i wr => ∃ (j : Nat) (s : Option Nat), j ≤ l.length ∧ g = l.length - j ∧ i = .int .i64 j ∧ wr = w1 ∧ Aside0 (mx (l.take j) = s) ∧ b = .float .f64 (s.getD ninf) ∧ is = .bool s.isSome)
  case atStart => exact ⟨0, none, by omega, by omega, rfl, rfl, ⟨rfl⟩, rfl, rfl⟩
  case round =>
    obtain ⟨j, s, hj, hg, rfl, rfl, HM, rfl, rfl⟩ := hrel
    have HG := Aside0.mk hg
    clear hg
    by_cases hlt : j < l.length
    · obtain ⟨ad, ead, hx⟩ := HC.out j hlt
      cases ead
      have HS := Aside0.mk (mx_snoc l j hlt)
      have HW : Aside0 (wrap64 ((j : Int) + 1) = (j : Int) + 1) := ⟨by have := HN.out; unfold wrap64; omega⟩
      have HO := Aside0.mk (mx_ok l HL.out j)
      have HF : Aside0 (l.getD j 0 < 18446744073709551616) := ⟨by
        have : l.getD j 0 = l[j] := by simp [hlt]
        rw [this]
        exact HL.out _ (List.getElem_mem hlt)⟩
      obtain ⟨f, hf⟩ : ∃ f, l.getD j 0 = f := ⟨_, rfl⟩
      rw [hf] at hx HF HS
      clear hf
      by_cases n : isNan f
      · have d1 : decide (isNan f) = true := decide_eq_true n
        have hs : mx (l.take (j + 1)) = s := by rw [HS.out, HM.out]; unfold stepv; rw [if_pos n]
        have HS2 := Aside0.mk hs
        clear hs n
        cases s
        all_goals
          go_wp2_with (first | (go_at_call 39; (with_reducible refine (isnan_calls f _).mono ?_); rintro e w2 ⟨rfl, rfl⟩))
          have hg := HG.out
          go_roundg (l.length - (j + 1))
          case measure => omega
          case rel => exact ⟨j + 1, _, by omega, rfl, by rw [HW.out]; rfl, rfl, HS2, rfl, rfl⟩
      · have d1 : decide (isNan f) = false := decide_eq_false n
        have HNF := Aside0.mk n
        have hs : mx (l.take (j + 1)) = stepv s f := by rw [HS.out, HM.out]
        unfold stepv at hs
        rw [if_neg n] at hs
        have HS2 := Aside0.mk hs
        clear hs n
        cases s with
        | none =>
          go_wp2_with (first | (go_at_call 39; (with_reducible refine (isnan_calls f _).mono ?_); rintro e w2 ⟨rfl, rfl⟩) | (go_at_call 49; (with_reducible refine (max_calls ninf f _ ⟨by decide, by decide⟩ ⟨HF.out, HNF.out⟩).mono ?_); rintro e w2 ⟨rfl, rfl⟩))
          have hg := HG.out
          go_roundg (l.length - (j + 1))
          case measure => omega
          case rel => exact ⟨j + 1, _, by omega, rfl, by rw [HW.out]; rfl, rfl, HS2, by rw [pick_first f HF.out HNF.out]; rfl, rfl⟩
        | some b =>
          have hb := HO.out b HM.out
          have HB := Aside0.mk hb
          clear hb
          go_wp2_with (first | (go_at_call 39; (with_reducible refine (isnan_calls f _).mono ?_); rintro e w2 ⟨rfl, rfl⟩) | (go_at_call 49; (with_reducible refine (max_calls b f _ HB.out ⟨HF.out, HNF.out⟩).mono ?_); rintro e w2 ⟨rfl, rfl⟩))
          have hg := HG.out
          go_roundg (l.length - (j + 1))
          case measure => omega
          case rel => exact ⟨j + 1, _, by omega, rfl, by rw [HW.out]; rfl, rfl, HS2, rfl, rfl⟩
    · have e : l.take j = l := List.take_of_length_le (by omega)
      have hm := HM.out
      rw [e] at hm
      have HM2 := Aside0.mk hm
      obtain rfl : j = l.length := by omega
      clear hm e HM
      cases s
      all_goals
        go_wp2_with (fail)
        go_ret2
        rw [HM2.out]
        exact ⟨rfl, rfl⟩

theorem gt_eq (x y : Nat) (nx : ¬ isNan x) (ny : ¬ isNan y) : (FloatKind.f64.format.order x y == some .gt) = flt y x := gt_flip x y nx ny

def kind4 (b : Nat) : Bool := kindv b == 4

set_option maxHeartbeats 8000000 in
theorem refmax_calls (A0 : Option Addr) (c0 : Nat) (l : List Nat) (w : World) (hc : CellsF w A0 l) (hl : ∀ x ∈ l, x < 18446744073709551616) (hn : l.length ≤ 1024) :
    Calls Try.prog 25 #[.slice A0 l.length c0] w fun e w' => e = .returned (.tuple #[.float .f64 ((mx l).getD 0), .bool (mx l).isSome]) ∧ w' = w := by
  have HC := Aside0.mk hc
  have HL := Aside0.mk hl
  have HN := Aside0.mk hn
  clear hc hl hn
  go_enter Try.func25, Try.ntmps25
  go_wp2_with (fail)
  go_loopg [4, 5, 6] l.length (fun g b is i wr => ∃ (j : Nat) (s : Option Nat), j ≤ l.length ∧ g = l.length - j ∧ i = .int .i64 j ∧ wr = w ∧ Aside0 (mx (l.take j) = s) ∧ b = .float .f64 (s.getD 0) ∧ is = .bool s.isSome)
  case atStart => exact ⟨0, none, by omega, by omega, rfl, rfl, ⟨rfl⟩, rfl, rfl⟩
  case round =>
    obtain ⟨j, s, hj, hg, rfl, rfl, HM, rfl, rfl⟩ := hrel
    have HG := Aside0.mk hg
    clear hg
    by_cases hlt : j < l.length
    · obtain ⟨ad, ead, hx⟩ := HC.out j hlt
      cases ead
      have HS := Aside0.mk (mx_snoc l j hlt)
      have HW : Aside0 (wrap64 ((j : Int) + 1) = (j : Int) + 1) := ⟨by have := HN.out; unfold wrap64; omega⟩
      have HO := Aside0.mk (mx_ok l HL.out j)
      have HF : Aside0 (l.getD j 0 < 18446744073709551616) := ⟨by
        have : l.getD j 0 = l[j] := by simp [hlt]
        rw [this]
        exact HL.out _ (List.getElem_mem hlt)⟩
      obtain ⟨f, hf⟩ : ∃ f, l.getD j 0 = f := ⟨_, rfl⟩
      rw [hf] at hx HF HS
      clear hf
      have hlt2 : ((j : Int) < (l.length : Int)) = True := eq_true (by omega)
      obtain ⟨kf, hkf⟩ : ∃ kf, kindv f = kf := ⟨_, rfl⟩
      by_cases n : isNan f
      · have d1 : kindv f = 0 := by unfold kindv; rw [if_pos n]
        have hs : mx (l.take (j + 1)) = s := by rw [HS.out, HM.out]; unfold stepv; rw [if_pos n]
        have HS2 := Aside0.mk hs
        clear hs n
        rw [d1] at hkf
        subst hkf
        cases s
        all_goals
          go_wp2_with (first | (go_at_call 36; (with_reducible refine (rkind_calls f _ HF.out).mono ?_); rw [d1]; rintro e w2 ⟨rfl, rfl⟩))
          have hg := HG.out
          go_roundg (l.length - (j + 1))
          case measure => omega
          case rel => exact ⟨j + 1, _, by omega, rfl, by rw [HW.out]; rfl, rfl, HS2, rfl, rfl⟩
      · have d1 : (kf == 0) = false := by
          rw [beq_eq_false_iff_ne, ← hkf]
          unfold kindv sgn01
          rw [if_neg n]
          split
          · split <;> omega
          · split
            · split <;> omega
            · split <;> omega
        have HNF := Aside0.mk n
        have HK := Aside0.mk hkf
        have hs : mx (l.take (j + 1)) = stepv s f := by rw [HS.out, HM.out]
        unfold stepv at hs
        rw [if_neg n] at hs
        have HS2 := Aside0.mk hs
        clear hs n hkf
        cases s with
        | none =>
          obtain ⟨k3, hk3⟩ : ∃ k3, (kf == 3) = k3 := ⟨_, rfl⟩
          go_wp2_with (first | (go_at_call 36; (with_reducible refine (rkind_calls f _ HF.out).mono ?_); rw [HK.out]; rintro e w2 ⟨rfl, rfl⟩))
          have hg := HG.out
          go_roundg (l.length - (j + 1))
          case measure => omega
          case rel => exact ⟨j + 1, _, by omega, rfl, by rw [HW.out]; rfl, rfl, HS2, rfl, rfl⟩
        | some b =>
          have hb := HO.out b HM.out
          have HB := Aside0.mk hb
          have hgt := gt_eq f b HNF.out hb.2
          clear hb
          obtain ⟨g, hgg⟩ : ∃ g, flt b f = g := ⟨_, rfl⟩
          rw [hgg] at hgt
          obtain ⟨kb, hkb⟩ : ∃ kb, kindv b = kb := ⟨_, rfl⟩
          have HKB := Aside0.mk hkb
          obtain ⟨k3, hk3⟩ : ∃ k3, (kf == 3) = k3 := ⟨_, rfl⟩
          obtain ⟨k4, hk4⟩ : ∃ k4, (kb == 4) = k4 := ⟨_, rfl⟩
          have hp : pickv b f = if (g || (k3 && k4)) = true then f else b := by
            unfold pickv
            rw [hgg, HK.out, hkb, hk3, hk4]
          have HP := Aside0.mk hp
          clear hp hkb hgg
          cases g <;> cases k3 <;> cases k4
          all_goals
            go_wp2_with (first | (go_at_call 36; (with_reducible refine (rkind_calls f _ HF.out).mono ?_); rw [HK.out]; rintro e w2 ⟨rfl, rfl⟩) | (go_at_call 36; (with_reducible refine (rkind_calls b _ HB.out.1).mono ?_); rw [HKB.out]; rintro e w2 ⟨rfl, rfl⟩))
            have hg := HG.out
            go_roundg (l.length - (j + 1))
            case measure => omega
            case rel => exact ⟨j + 1, _, by omega, rfl, by rw [HW.out]; rfl, rfl, HS2, by rw [HP.out]; rfl, rfl⟩
    · have e : l.take j = l := List.take_of_length_le (by omega)
      have hm := HM.out
      rw [e] at hm
      have HM2 := Aside0.mk hm
      obtain rfl : j = l.length := by omega
      clear hm e HM
      cases s
      all_goals
        go_wp2_with (fail)
        go_ret2
        rw [HM2.out]
        exact ⟨rfl, rfl⟩

end Go.Proofs.Ytlbelgdcicholaa.Fl
