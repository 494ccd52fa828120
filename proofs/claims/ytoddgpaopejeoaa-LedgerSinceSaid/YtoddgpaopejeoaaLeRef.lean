/- Contracts of the document's Total, Read and Since; each says its own conditions. -/
import Derived.Test.YtoddgpaopejeoaaBLed
import Derived.Test.YtoddgpaopejeoaaMLedx0
import Derived.Test.YtoddgpaopejeoaaMLedx1
import Derived.Test.YtoddgpaopejeoaaMLedx2
import Derived.Test.YtoddgpaopejeoaaMLedx3
import Derived.Test.YtoddgpaopejeoaaMLedx4
import Derived.WalkKit
import Derived.Deep.RegionLaw
import Derived.Deep.RegionWith
import Derived.Deep.RegionHeld3
import Derived.BigRegion
import Derived.BigQuiet
import Derived.StillTailTactics
import Derived.Test.YtoddgpaopejeoaaLeAt
import Derived.Test.YtoddgpaopejeoaaLeRead
namespace Go.Proofs.Ytoddgpaopejeoaa.Le
open Go.RowKit Go.Proofs.Ytoddgpaopejeoaa.MLed Go.Proofs.Ytoddgpaopejeoaa.Pure Go.Proofs.YtoddgpaopejeoaaW.PrintWords Go.Proofs.YtoddgpaopejeoaaW.PrintLast Go.Proofs.YtoddgpaopejeoaaW.PrintMore
attribute [local go_sem] max2_int min2_int max_two min_two max_three min_three max_four min_four
set_option linter.unusedVariables false
set_option linter.unusedSimpArgs false
set_option maxHeartbeats 4000000 in
theorem rtotal_ok (g : Nat) (raw0 sum rate raw : Int) (v : Value) (w : World) (hc : Clk w g 47 raw0 sum rate v) (hG : Good raw0 sum rate) (hw : Bd raw) (he : err raw0 raw = 0) :
    Calls Try.prog 23 #[.pointer (some ⟨g, 0, none⟩), .int .i64 raw] w fun e w' => e = .returned (.tuple #[.int .i64 (tot raw0 sum rate raw), .int .i64 0]) ∧ Below w.heap.size w w' := by
  obtain ⟨h0, hs, hr⟩ := hG
  have hcase : 0 ≤ raw ∧ raw ≤ 4611686018427387904 ∧ raw0 ≤ raw := by
    rcases err_cases raw0 raw with h | h | h | h
    · omega
    · omega
    · omega
    · exact ⟨h.1, h.2.1, h.2.2.1⟩
  have e1 : decide (raw < 0) = false := decide_eq_false (by omega)
  have e2 : decide (4611686018427387904 < raw) = false := decide_eq_false (by omega)
  have e3 : decide (raw < raw0) = false := decide_eq_false (by omega)
  have HWR : Aside0 (IntKind.i64.wrap (raw - raw0) = raw - raw0) := ⟨by rw [IntKind.wrap_i64]; omega⟩
  have k0 := (blk_cell hc 0).trans (show _ = some (Value.int .i64 raw0) from rfl)
  have k1 := (blk_cell hc 1).trans (show _ = some (Value.int .i64 sum) from rfl)
  have k2 := (blk_cell hc 2).trans (show _ = some (Value.int .i64 rate) from rfl)
  have HC := Aside0.mk hc
  have HB := Aside0.mk (show (-9223372036854775808 ≤ raw - raw0 ∧ raw - raw0 ≤ 9223372036854775807) ∧ (-9223372036854775808 ≤ rate ∧ rate ≤ 9223372036854775807) ∧ (-9223372036854775808 ≤ sum ∧ sum ≤ 9223372036854775807) by omega)
  have HM := Aside0.mk (mulv_bd rate (raw - raw0))
  clear hc h0 hs hr hw he hcase
  go_enter Try.func23, Try.ntmps23
  go_wp2_with (fail)
  go_region_with (first | (go_at_call 50; rw [HWR.out]; (with_reducible refine (rmul_calls rate (raw - raw0) _ HB.out.2.1 HB.out.1).mono ?_); rintro e w1 ⟨rfl, b1⟩; have HC1 := Aside0.mk (blk_below (blk_drew HC.out) b1); have B1 := Aside0.mk b1; have k1' := (blk_cell HC1.out 1).trans (show _ = some (Value.int .i64 sum) from rfl); clear b1) | (go_at_call 49; (with_reducible refine (radd_calls sum (mulv rate (raw - raw0)) _ HB.out.2.2 ⟨by have := HM.out; omega, HM.out.2⟩).mono ?_); rintro e w2 ⟨rfl, b2⟩; have B2 := Aside0.mk b2; clear b2))
  all_goals
    go_wp2_with (fail)
    go_ret2
    exact ⟨rfl, below_step (below_step (w := w) (below_drew1 (Below.refl _ _)) B1.out) B2.out⟩

theorem rtotal_err (g : Nat) (raw0 sum rate raw : Int) (v : Value) (w : World) (hc : Clk w g 47 raw0 sum rate v) (he : err raw0 raw ≠ 0) :
    Calls Try.prog 23 #[.pointer (some ⟨g, 0, none⟩), .int .i64 raw] w fun e w' => e = .returned (.tuple #[.int .i64 0, .int .i64 (err raw0 raw)]) ∧ w' = w := by
  have k0 := (blk_cell hc 0).trans (show _ = some (Value.int .i64 raw0) from rfl)
  clear hc
  rcases err_cases raw0 raw with ⟨a, e⟩ | ⟨a, b, e⟩ | ⟨a, b, c, e⟩ | ⟨a, b, c, e⟩
  · rw [e]
    have d1 : decide (raw < 0) = true := decide_eq_true a
    clear a e he
    go_enter Try.func23, Try.ntmps23
    go_wp2_with (fail)
    go_ret2
    exact ⟨rfl, rfl⟩
  · rw [e]
    have d1 : decide (raw < 0) = false := decide_eq_false (by omega)
    have d2 : decide (4611686018427387904 < raw) = true := decide_eq_true b
    clear a b e he
    go_enter Try.func23, Try.ntmps23
    go_wp2_with (fail)
    go_ret2
    exact ⟨rfl, rfl⟩
  · rw [e]
    have d1 : decide (raw < 0) = false := decide_eq_false (by omega)
    have d2 : decide (4611686018427387904 < raw) = false := decide_eq_false (by omega)
    have d3 : decide (raw < raw0) = true := decide_eq_true c
    clear a b c e he
    go_enter Try.func23, Try.ntmps23
    go_wp2_with (fail)
    go_ret2
    exact ⟨rfl, rfl⟩
  · exact absurd e he

theorem rtotal_calls (g : Nat) (raw0 sum rate raw : Int) (v : Value) (w : World) (hc : Clk w g 47 raw0 sum rate v) (hG : Good raw0 sum rate) (hw : Bd raw) :
    Calls Try.prog 23 #[.pointer (some ⟨g, 0, none⟩), .int .i64 raw] w fun e w' => e = .returned (.tuple #[.int .i64 (totE raw0 sum rate raw), .int .i64 (err raw0 raw)]) ∧ Below w.heap.size w w' := by
  unfold totE
  by_cases he : err raw0 raw = 0
  · rw [if_pos he, he]
    exact rtotal_ok g raw0 sum rate raw v w hc hG hw he
  · rw [if_neg he]
    exact (rtotal_err g raw0 sum rate raw v w hc he).mono fun e w' h => ⟨h.1, h.2 ▸ Below.refl _ _⟩

theorem rread_calls (g : Nat) (raw0 sum rate raw : Int) (v : Value) (w : World) (hc : Clk w g 47 raw0 sum rate v) (hG : Good raw0 sum rate) (hw : Bd raw) :
    Calls Try.prog 40 #[.pointer (some ⟨g, 0, none⟩), .int .i64 raw] w fun e w' => e = .returned (.tuple #[.int .i64 (rdE raw0 sum rate raw), .int .i64 (err raw0 raw)]) ∧ Below w.heap.size w w' := by
  have HA := rtotal_calls g raw0 sum rate raw v w hc hG hw
  unfold totE at HA
  unfold rdE
  have HT := Aside0.mk (tot_bd raw0 sum rate raw)
  have HW := Aside0.mk hw
  by_cases he : err raw0 raw = 0
  · rw [if_pos he, he] at HA
    rw [if_pos he, he]
    replace HA := Aside0.mk HA
    clear he hc hG hw
    go_enter Try.func40, Try.ntmps40
    go_wp2_with (first | (go_at_call 23; (with_reducible refine (HA.out).mono ?_); rintro e w1 ⟨rfl, b1⟩; have B1 := Aside0.mk b1; clear b1) | (go_at_call 49; (with_reducible refine (radd_calls raw (tot raw0 sum rate raw) _ HW.out HT.out).mono ?_); rintro e w2 ⟨rfl, b2⟩; have B2 := Aside0.mk b2; clear b2))
    go_ret2
    exact ⟨rfl, below_step B1.out B2.out⟩
  · rw [if_neg he] at HA
    rw [if_neg he]
    replace HA := Aside0.mk HA
    have hb : (err raw0 raw == 0) = false := beq_eq_false_iff_ne.mpr he
    clear he hc hG hw
    go_enter Try.func40, Try.ntmps40
    go_wp2_with (first | (go_at_call 23; (with_reducible refine (HA.out).mono ?_); rintro e w1 ⟨rfl, b1⟩; have B1 := Aside0.mk b1; clear b1))
    go_ret2
    exact ⟨rfl, B1.out⟩

theorem rsince_calls (g : Nat) (raw0 sum rate raw total : Int) (v : Value) (w : World) (hc : Clk w g 47 raw0 sum rate v) (hG : Good raw0 sum rate) (hw : Bd raw) (ht : Bd total) :
    Calls Try.prog 41 #[.pointer (some ⟨g, 0, none⟩), .int .i64 raw, .int .i64 total] w fun e w' => e = .returned (.tuple #[.int .i64 (sinceE raw0 sum rate raw total), .int .i64 (err raw0 raw)]) ∧ Below w.heap.size w w' := by
  have HA := rtotal_calls g raw0 sum rate raw v w hc hG hw
  unfold totE at HA
  unfold sinceE
  have HT := Aside0.mk (tot_bd raw0 sum rate raw)
  have HW := Aside0.mk ht
  by_cases he : err raw0 raw = 0
  · rw [if_pos he, he] at HA
    rw [if_pos he, he]
    replace HA := Aside0.mk HA
    clear he hc hG hw ht
    go_enter Try.func41, Try.ntmps41
    go_wp2_with (first | (go_at_call 23; (with_reducible refine (HA.out).mono ?_); rintro e w1 ⟨rfl, b1⟩; have B1 := Aside0.mk b1; clear b1) | (go_at_call 63; (with_reducible refine (rsub_calls (tot raw0 sum rate raw) total _ HT.out HW.out).mono ?_); rintro e w2 ⟨rfl, b2⟩; have B2 := Aside0.mk b2; clear b2))
    go_ret2
    exact ⟨rfl, below_step B1.out B2.out⟩
  · rw [if_neg he] at HA
    rw [if_neg he]
    replace HA := Aside0.mk HA
    have hb : (err raw0 raw == 0) = false := beq_eq_false_iff_ne.mpr he
    clear he hc hG hw ht
    go_enter Try.func41, Try.ntmps41
    go_wp2_with (first | (go_at_call 23; (with_reducible refine (HA.out).mono ?_); rintro e w1 ⟨rfl, b1⟩; have B1 := Aside0.mk b1; clear b1))
    go_ret2
    exact ⟨rfl, B1.out⟩

end Go.Proofs.Ytoddgpaopejeoaa.Le
