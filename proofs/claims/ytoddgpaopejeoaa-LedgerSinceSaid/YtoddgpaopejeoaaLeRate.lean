/- Contracts of the clock's Rate, of its Correct at every input, of New, Speed; each says its own conditions. -/
import Derived.Test.YtoddgpaopejeoaaBLed
import Derived.Test.YtoddgpaopejeoaaMLedx0
import Derived.Test.YtoddgpaopejeoaaMLedx1
import Derived.Test.YtoddgpaopejeoaaMLedx2
import Derived.Test.YtoddgpaopejeoaaMLedx3
import Derived.Test.YtoddgpaopejeoaaMLedx4
import Derived.WalkKit
import Derived.Deep.RegionLaw
import Derived.Deep.RegionWith
import Derived.Deep.RegionHeld3
import Derived.BigRegion
import Derived.BigQuiet
import Derived.StillTailTactics
import Derived.Test.YtoddgpaopejeoaaLeAt
import Derived.Test.YtoddgpaopejeoaaLeRead
import Derived.Test.YtoddgpaopejeoaaLeCor
namespace Go.Proofs.Ytoddgpaopejeoaa.Le
open Go.RowKit Go.Proofs.Ytoddgpaopejeoaa.MLed Go.Proofs.Ytoddgpaopejeoaa.Pure Go.Proofs.YtoddgpaopejeoaaW.PrintWords Go.Proofs.YtoddgpaopejeoaaW.PrintLast Go.Proofs.YtoddgpaopejeoaaW.PrintMore
attribute [local go_sem] max2_int min2_int max_two min_two max_three min_three max_four min_four
set_option linter.unusedVariables false
set_option linter.unusedSimpArgs false
def rateErr (raw0 raw r : Int) : Int := if err raw0 raw ≠ 0 then err raw0 raw else if r < -2147483648 ∨ 2147483648 < r then 1 else 0

set_option maxHeartbeats 4000000 in
theorem rate_ok (g : Nat) (raw0 sum rate raw r : Int) (v : Value) (xs : List S87) (base : Nat) (w0 w : World) (hc : Clk w g 82 raw0 sum rate v) (ho : Kd.R k87 87 w base (fun _ => True) v xs) (hB : Below base w0 w) (hg : base ≤ g) (hG : Good raw0 sum rate) (hw : Bd raw) (hok : rateErr raw0 raw r = 0) :
    Calls Try.prog 21 #[.pointer (some ⟨g, 0, none⟩), .int .i64 raw, .int .i64 r] w fun e w' => e = .returned (.int .i64 0) ∧ Clk w' g 82 raw (tot raw0 sum rate raw) r v ∧ Kd.R k87 87 w' base (fun _ => True) v xs ∧ Below base w0 w' ∧ Kept w w' (Touch w g 87) := by
  have hcor : err raw0 raw = 0 ∧ -2147483648 ≤ r ∧ r ≤ 2147483648 := by
    unfold rateErr at hok
    by_cases a : err raw0 raw = 0
    · rw [if_neg (by omega)] at hok
      split at hok <;> omega
    · rw [if_pos a] at hok
      exact absurd hok a
  have HA := total_calls g raw0 sum rate raw v w hc hG hw
  unfold totE at HA
  rw [if_pos hcor.1, hcor.1] at HA
  replace HA := Aside0.mk HA
  obtain ⟨y, hy⟩ : ∃ y, tot raw0 sum rate raw = y := ⟨_, rfl⟩
  rw [hy] at HA ⊢
  clear hy
  have d1 : decide (r < -2147483648) = false := decide_eq_false (by omega)
  have d2 : decide (2147483648 < r) = false := decide_eq_false (by omega)
  have HO := Aside0.mk ho
  have HB := Aside0.mk hB
  have HG := Aside0.mk hg
  have HS := Aside0.mk (Nat.le_trans hg (Nat.le_of_lt (blk_lt hc)))
  have HC := Aside0.mk hc
  clear hok hcor hG hw ho hB hg hc
  go_enter Try.func21, Try.ntmps21
  go_wp2_with (first | (go_at_call 17; (with_reducible refine (HA.out).mono ?_); rintro e w1 ⟨rfl, b1⟩; have B1 := Aside0.mk b1; have HC1 := Aside0.mk (blk_below HC.out b1); have k0 := (blk_cell HC1.out 0).trans (show _ = some (Value.int .i64 raw0) from rfl); have k1 := (blk_cell HC1.out 1).trans (show _ = some (Value.int .i64 sum) from rfl); have k2 := (blk_cell HC1.out 2).trans (show _ = some (Value.int .i64 rate) from rfl); have f0 := blk_frozen HC1.out 0; have f1 := blk_frozen HC1.out 1; have f2 := blk_frozen HC1.out 2; clear b1))
  have s1 := blk_put HC1.out 0 (.int .i64 raw) rfl
  have s2 := blk_put s1 1 (.int .i64 y) rfl
  have HC2 := blk_put s2 2 (.int .i64 r) rfl
  have HO2 := Kd.R_set (Kd.R_set (Kd.R_set (Kd.R_below HO.out B1.out) HC1.out (by decide) 0 (.int .i64 raw)) s1 (by decide) 1 (.int .i64 y)) s2 (by decide) 2 (.int .i64 r)
  have HB2 := (((below_then HB.out HS.out B1.out).setCell (p := ⟨g, 0, none⟩) HG.out (.int .i64 raw)).setCell (p := ⟨g, 1, none⟩) HG.out (.int .i64 y)).setCell (p := ⟨g, 2, none⟩) HG.out (.int .i64 r)
  have HK2 := (((Kept.of_below B1.out (Touch w g 87)).setCell (p := ⟨g, 0, none⟩) (.inl (.inl rfl)) (.int .i64 raw)).setCell (p := ⟨g, 1, none⟩) (.inl (.inl rfl)) (.int .i64 y)).setCell (p := ⟨g, 2, none⟩) (.inl (.inl rfl)) (.int .i64 r)
  go_ret
  exact ⟨rfl, HC2, HO2, HB2, HK2⟩

theorem rate_no (g : Nat) (raw0 sum rate raw r : Int) (v : Value) (w : World) (hc : Clk w g 82 raw0 sum rate v) (hG : Good raw0 sum rate) (hw : Bd raw) (hok : rateErr raw0 raw r ≠ 0) :
    Calls Try.prog 21 #[.pointer (some ⟨g, 0, none⟩), .int .i64 raw, .int .i64 r] w fun e w' => e = .returned (.int .i64 (rateErr raw0 raw r)) ∧ Below w.heap.size w w' := by
  have HA := total_calls g raw0 sum rate raw v w hc hG hw
  unfold totE at HA
  unfold rateErr at hok ⊢
  clear hG hw hc
  by_cases he : err raw0 raw = 0
  · rw [if_neg (by omega)] at hok ⊢
    rw [he] at HA
    replace HA := Aside0.mk HA
    by_cases q : r < -2147483648
    · rw [if_pos (.inl q)]
      have d1 : decide (r < -2147483648) = true := decide_eq_true q
      clear q hok he
      go_enter Try.func21, Try.ntmps21
      go_wp2_with (first | (go_at_call 17; (with_reducible refine (HA.out).mono ?_); rintro e w1 ⟨rfl, b1⟩; have B1 := Aside0.mk b1; clear b1))
      go_ret
      exact ⟨rfl, B1.out⟩
    · by_cases q2 : 2147483648 < r
      · rw [if_pos (.inr q2)]
        have d1 : decide (r < -2147483648) = false := decide_eq_false q
        have d2 : decide (2147483648 < r) = true := decide_eq_true q2
        clear q q2 hok he
        go_enter Try.func21, Try.ntmps21
        go_wp2_with (first | (go_at_call 17; (with_reducible refine (HA.out).mono ?_); rintro e w1 ⟨rfl, b1⟩; have B1 := Aside0.mk b1; clear b1))
        go_ret
        exact ⟨rfl, B1.out⟩
      · rw [if_neg (by omega)] at hok
        exact absurd rfl hok
  · rw [if_pos he]
    have hb : (err raw0 raw == 0) = false := beq_eq_false_iff_ne.mpr he
    rw [if_neg he] at HA
    obtain ⟨q, hq⟩ : ∃ q, err raw0 raw = q := ⟨_, rfl⟩
    rw [hq] at HA hb ⊢
    replace HA := Aside0.mk HA
    clear hok he hq
    go_enter Try.func21, Try.ntmps21
    go_wp2_with (first | (go_at_call 17; (with_reducible refine (HA.out).mono ?_); rintro e w1 ⟨rfl, b1⟩; have B1 := Aside0.mk b1; clear b1))
    go_ret
    exact ⟨rfl, B1.out⟩

theorem speed_calls (g : Nat) (raw0 sum rate : Int) (v : Value) (w : World) (hc : Clk w g 82 raw0 sum rate v) :
    Calls Try.prog 22 #[.pointer (some ⟨g, 0, none⟩)] w fun e w' => e = .returned (.int .i64 rate) ∧ Below w.heap.size w w' := by
  have k2 := (blk_cell hc 2).trans (show _ = some (Value.int .i64 rate) from rfl)
  clear hc
  go_enter Try.func22, Try.ntmps22
  go_wp2_with (fail)
  go_ret
  exact ⟨rfl, Below.refl _ _⟩

def begun (raw : Int) : Int := if raw < 0 then 0 else if 4611686018427387904 < raw then 4611686018427387904 else raw
theorem clamp_eq (raw : Int) : fix_Clamp.f raw 0 4611686018427387904 = some (begun raw) := by
  unfold fix_Clamp.f begun
  by_cases h : raw < 0
  · simp [h, mx]
  · by_cases h2 : 4611686018427387904 < raw
    · simp [h, h2, mx]
    · simp only [h, h2, if_neg, not_false_eq_true, mx, if_false, Option.some.injEq]
      simp
      omega
theorem new_calls (raw : Int) (w : World) :
    Calls Try.prog 13 #[.int .i64 raw] w fun e w' => ∃ g, e = .returned (.pointer (some ⟨g, 0, none⟩)) ∧ w.heap.size ≤ g ∧ Clk w' g 82 (begun raw) 0 0 (.slice none 0 0) ∧ Below w.heap.size w w' := by
  have HA := Aside0.mk (fun W => fix_Clamp.calls raw 0 4611686018427387904 _ W (clamp_eq raw))
  go_enter Try.func13, Try.ntmps13
  go_wp2_with (first | (go_at_call 37; (with_reducible refine (HA.out _).mono ?_); rintro e w1 ⟨rfl, b1⟩; have B1 := Aside0.mk b1; clear b1))
  go_ret
  exact ⟨_, rfl, B1.out.size, blk_new _ _, below_alloc B1.out _⟩

end Go.Proofs.Ytoddgpaopejeoaa.Le
