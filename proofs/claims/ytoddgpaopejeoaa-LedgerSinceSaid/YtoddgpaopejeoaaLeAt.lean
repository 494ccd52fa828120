/- Contracts of the clock's Total, Read and Since, and of the document's; each says its own conditions. -/
import Derived.Test.YtoddgpaopejeoaaBLed
import Derived.Test.YtoddgpaopejeoaaMLedx0
import Derived.Test.YtoddgpaopejeoaaMLedx1
import Derived.Test.YtoddgpaopejeoaaMLedx2
import Derived.Test.YtoddgpaopejeoaaMLedx3
import Derived.Test.YtoddgpaopejeoaaMLedx4
import Derived.WalkKit
import Derived.Deep.RegionLaw
import Derived.Deep.RegionWith
import Derived.Deep.RegionHeld3
import Derived.BigRegion
import Derived.BigQuiet
import Derived.StillTailTactics
namespace Go.Proofs.Ytoddgpaopejeoaa.Le
open Go.RowKit Go.Proofs.Ytoddgpaopejeoaa.MLed Go.Proofs.Ytoddgpaopejeoaa.Pure Go.Proofs.YtoddgpaopejeoaaW.PrintWords Go.Proofs.YtoddgpaopejeoaaW.PrintLast Go.Proofs.YtoddgpaopejeoaaW.PrintMore
attribute [local go_sem] max2_int min2_int max_two min_two max_three min_three max_four min_four
set_option linter.unusedVariables false
set_option linter.unusedSimpArgs false
def tot (raw0 sum rate raw : Int) : Int := cutv (sum + mulv rate (raw - raw0))
def err (raw0 raw : Int) : Int := if raw < 0 ∨ raw > 4611686018427387904 then 1 else if raw < raw0 then 5 else 0
/-- A clock's four cells. -/
def Clk (w : World) (g t : Nat) (a b c : Int) (v : Value) : Prop := w.heap[g]? = some (.cells #[.int .i64 a, .int .i64 b, .int .i64 c, v] t (0, 0))

theorem add_calls (a b : Int) (w : World) (h0 : -9223372036854775808 ≤ a ∧ a ≤ 9223372036854775807) (h1 : -9223372036854775808 ≤ b ∧ b ≤ 9223372036854775807) :
    Calls Try.prog 44 #[.int .i64 a, .int .i64 b] w fun e w' => e = .returned (.int .i64 (cutv (a + b))) ∧ Below w.heap.size w w' := fix_Add.calls 2 a b _ w (add_eq 2 a b h0.1 h0.2 h1.1 h1.2 (by omega))
theorem sub_calls (a b : Int) (w : World) (h0 : -9223372036854775808 ≤ a ∧ a ≤ 9223372036854775807) (h1 : -9223372036854775808 ≤ b ∧ b ≤ 9223372036854775807) :
    Calls Try.prog 48 #[.int .i64 a, .int .i64 b] w fun e w' => e = .returned (.int .i64 (cutv (a - b))) ∧ Below w.heap.size w w' := fix_Sub.calls 2 a b _ w (sub_eq 2 a b h0.1 h0.2 h1.1 h1.2 (by omega))
theorem mul_calls (a b : Int) (w : World) (h0 : -9223372036854775808 ≤ a ∧ a ≤ 9223372036854775807) (h1 : -9223372036854775808 ≤ b ∧ b ≤ 9223372036854775807) :
    Calls Try.prog 66 #[.int .i64 a, .int .i64 b] w fun e w' => e = .returned (.int .i64 (mulv a b)) ∧ Below w.heap.size w w' := fix_Mul.calls a b _ w (mulf_eq a b h0.1 h0.2 h1.1 h1.2)
theorem radd_calls (a b : Int) (w : World) (h0 : -9223372036854775808 ≤ a ∧ a ≤ 9223372036854775807) (h1 : -9223372036854775808 ≤ b ∧ b ≤ 9223372036854775807) :
    Calls Try.prog 49 #[.int .i64 a, .int .i64 b] w fun e w' => e = .returned (.int .i64 (cutv (a + b))) ∧ Below w.heap.size w w' := analemmaref02_Add.calls 2 a b _ w (radd_eq 2 a b h0.1 h0.2 h1.1 h1.2 (by omega))
theorem rsub_calls (a b : Int) (w : World) (h0 : -9223372036854775808 ≤ a ∧ a ≤ 9223372036854775807) (h1 : -9223372036854775808 ≤ b ∧ b ≤ 9223372036854775807) :
    Calls Try.prog 63 #[.int .i64 a, .int .i64 b] w fun e w' => e = .returned (.int .i64 (cutv (a - b))) ∧ Below w.heap.size w w' := analemmaref02_Sub.calls 2 a b _ w (rsubf_eq 2 a b h0.1 h0.2 h1.1 h1.2 (by omega))
theorem rmul_calls (a b : Int) (w : World) (h0 : -9223372036854775808 ≤ a ∧ a ≤ 9223372036854775807) (h1 : -9223372036854775808 ≤ b ∧ b ≤ 9223372036854775807) :
    Calls Try.prog 50 #[.int .i64 a, .int .i64 b] w fun e w' => e = .returned (.int .i64 (mulv a b)) ∧ Below w.heap.size w w' := (analemmaref02_Mul.calls 65 a b _ w (rmulf_eq 65 a b h0.1 h0.2 h1.1 h1.2 (by omega))).mono fun e w' h => ⟨h.1, by obtain ⟨m, rfl⟩ := h.2; exact pw_below_drewN (Below.refl _ _) m⟩

set_option maxHeartbeats 4000000 in
theorem at_ok (F : Nat) (caps : Array Value) (y : Int) (hcf : ∀ (a : Array Value) (w : World), (callFunc F a).run Try.prog w = .ok (.enter F a) w) (g : Nat) (raw0 sum rate raw : Int) (v : Value) (w : World) (hc : Clk w g 82 raw0 sum rate v) (h0 : 0 ≤ raw0 ∧ raw0 ≤ 4611686018427387904) (hs : -9223372036854775807 ≤ sum ∧ sum ≤ 9223372036854775807) (hr : -2147483648 ≤ rate ∧ rate ≤ 2147483648) (hw : -9223372036854775808 ≤ raw ∧ raw ≤ 9223372036854775807) (he : err raw0 raw = 0) (ht : ∀ w', Below w.heap.size w w' → Calls Try.prog F (#[.int .i64 (tot raw0 sum rate raw)] ++ caps) w' fun e w2 => e = .returned (.int .i64 y) ∧ Below w'.heap.size w' w2) :
    Calls Try.prog 42 #[.pointer (some ⟨g, 0, none⟩), .int .i64 raw, .func (.func F) #[] caps] w fun e w' => e = .returned (.tuple #[.int .i64 y, .int .i64 0]) ∧ Below w.heap.size w w' := by
  have e1 : decide (raw < 0) = false := by unfold err at he; refine decide_eq_false ?_; intro q; rw [if_pos (.inl q)] at he; omega
  have e2 : decide (4611686018427387904 < raw) = false := by unfold err at he; refine decide_eq_false ?_; intro q; rw [if_pos (.inr q)] at he; omega
  have e3 : decide (raw < raw0) = false := by
    unfold err at he
    refine decide_eq_false ?_
    intro q
    split at he
    · omega
    · first | omega | (rw [if_pos q] at he; omega)
  have p1 := of_decide_eq_false e1
  have p2 := of_decide_eq_false e2
  have p3 := of_decide_eq_false e3
  have HWR : Aside0 (IntKind.i64.wrap (raw - raw0) = raw - raw0) := ⟨by rw [IntKind.wrap_i64]; omega⟩
  have k0 := (blk_cell hc 0).trans (show _ = some (Value.int .i64 raw0) from rfl)
  have k1 := (blk_cell hc 1).trans (show _ = some (Value.int .i64 sum) from rfl)
  have k2 := (blk_cell hc 2).trans (show _ = some (Value.int .i64 rate) from rfl)
  have HC := Aside0.mk hc
  have HB := Aside0.mk (show (-9223372036854775808 ≤ raw - raw0 ∧ raw - raw0 ≤ 9223372036854775807) ∧ (-9223372036854775808 ≤ rate ∧ rate ≤ 9223372036854775807) ∧ (-9223372036854775808 ≤ sum ∧ sum ≤ 9223372036854775807) by omega)
  have HM := Aside0.mk (mulv_bd rate (raw - raw0))
  have HT := Aside0.mk ht
  have HCF := Aside0.mk hcf
  clear hc h0 hs hr hw he p1 p2 p3 ht hcf
  go_enter Try.func42, Try.ntmps42
  go_wp2_with (fail)
  go_region_with (first | (go_at_call 66; rw [HWR.out]; (with_reducible refine (mul_calls rate (raw - raw0) _ HB.out.2.1 HB.out.1).mono ?_); rintro e w1 ⟨rfl, b1⟩; have HC1 := Aside0.mk (blk_below (blk_drew HC.out) b1); have B1 := Aside0.mk b1; have k1' := (blk_cell HC1.out 1).trans (show _ = some (Value.int .i64 sum) from rfl); clear b1) | (go_at_call 44; (with_reducible refine (add_calls sum (mulv rate (raw - raw0)) _ HB.out.2.2 ⟨by have := HM.out; omega, HM.out.2⟩).mono ?_); rintro e w2 ⟨rfl, b2⟩; have B2 := Aside0.mk b2; clear b2) | (rw [HCF.out, Oper.upon_enter]; refine (HT.out _ (below_step (w := w) (below_step (w := w) (below_drew1 (Below.refl _ _)) B1.out) B2.out)).mono ?_; rintro e w3 ⟨rfl, b3⟩; have B3 := Aside0.mk b3; clear b3))
  all_goals
    go_wp2_with (fail)
    go_ret2
    exact ⟨rfl, below_step (below_step (below_step (w := w) (below_drew1 (Below.refl _ _)) B1.out) B2.out) B3.out⟩

theorem cf45 : ∀ (a : Array Value) (w : World), (callFunc 45 a).run Try.prog w = .ok (.enter 45 a) w := by
  intro a w
  go_simp

end Go.Proofs.Ytoddgpaopejeoaa.Le
