/- Contracts of the clock's Total, Read and Since, and of the document's; each says its own conditions. -/
import Derived.Test.YtoddgpaopejeoaaBLed
import Derived.Test.YtoddgpaopejeoaaMLedx0
import Derived.Test.YtoddgpaopejeoaaMLedx1
import Derived.Test.YtoddgpaopejeoaaMLedx2
import Derived.Test.YtoddgpaopejeoaaMLedx3
import Derived.Test.YtoddgpaopejeoaaMLedx4
import Derived.WalkKit
import Derived.Deep.RegionLaw
import Derived.Deep.RegionWith
import Derived.Deep.RegionHeld3
import Derived.BigRegion
import Derived.BigQuiet
import Derived.StillTailTactics
import Derived.Test.YtoddgpaopejeoaaLeAt
namespace Go.Proofs.Ytoddgpaopejeoaa.Le
open Go.RowKit Go.Proofs.Ytoddgpaopejeoaa.MLed Go.Proofs.Ytoddgpaopejeoaa.Pure Go.Proofs.YtoddgpaopejeoaaW.PrintWords Go.Proofs.YtoddgpaopejeoaaW.PrintLast Go.Proofs.YtoddgpaopejeoaaW.PrintMore
attribute [local go_sem] max2_int min2_int max_two min_two max_three min_three max_four min_four
set_option linter.unusedVariables false
set_option linter.unusedSimpArgs false
def totE (raw0 sum rate raw : Int) : Int := if err raw0 raw = 0 then tot raw0 sum rate raw else 0
def rdE (raw0 sum rate raw : Int) : Int := if err raw0 raw = 0 then cutv (raw + tot raw0 sum rate raw) else 0
def sinceE (raw0 sum rate raw total : Int) : Int := if err raw0 raw = 0 then cutv (tot raw0 sum rate raw - total) else 0
def corE (raw0 sum rate raw b : Int) : Int := if err raw0 raw = 0 then cutv (tot raw0 sum rate raw + b) else 0
abbrev Bd (x : Int) : Prop := -9223372036854775808 ≤ x ∧ x ≤ 9223372036854775807
/-- What a clock's three numbers are at any time. -/
def Good (raw0 sum rate : Int) : Prop := (0 ≤ raw0 ∧ raw0 ≤ 4611686018427387904) ∧ (-9223372036854775807 ≤ sum ∧ sum ≤ 9223372036854775807) ∧ (-2147483648 ≤ rate ∧ rate ≤ 2147483648)
theorem tot_bd (raw0 sum rate raw : Int) : Bd (tot raw0 sum rate raw) := ⟨by have := (cutv_bd (sum + mulv rate (raw - raw0))).1; unfold tot; omega, (cutv_bd _).2⟩

theorem err_cases (raw0 raw : Int) : (raw < 0 ∧ err raw0 raw = 1) ∨ (0 ≤ raw ∧ 4611686018427387904 < raw ∧ err raw0 raw = 1) ∨ (0 ≤ raw ∧ raw ≤ 4611686018427387904 ∧ raw < raw0 ∧ err raw0 raw = 5) ∨ (0 ≤ raw ∧ raw ≤ 4611686018427387904 ∧ raw0 ≤ raw ∧ err raw0 raw = 0) := by
  unfold err
  by_cases a : raw < 0
  · rw [if_pos (.inl a)]; omega
  · by_cases b : raw > 4611686018427387904
    · rw [if_pos (.inr b)]; omega
    · rw [if_neg (by omega)]
      by_cases c : raw < raw0
      · rw [if_pos c]; omega
      · rw [if_neg c]; omega

theorem at_err (f : Value) (g : Nat) (raw0 sum rate raw : Int) (v : Value) (w : World) (hc : Clk w g 82 raw0 sum rate v) (he : err raw0 raw ≠ 0) :
    Calls Try.prog 42 #[.pointer (some ⟨g, 0, none⟩), .int .i64 raw, f] w fun e w' => e = .returned (.tuple #[.int .i64 0, .int .i64 (err raw0 raw)]) ∧ w' = w := by
  have k0 := (blk_cell hc 0).trans (show _ = some (Value.int .i64 raw0) from rfl)
  clear hc
  rcases err_cases raw0 raw with ⟨a, e⟩ | ⟨a, b, e⟩ | ⟨a, b, c, e⟩ | ⟨a, b, c, e⟩
  · rw [e]
    have d1 : decide (raw < 0) = true := decide_eq_true a
    clear a e he
    go_enter Try.func42, Try.ntmps42
    go_wp2_with (fail)
    go_ret2
    exact ⟨rfl, rfl⟩
  · rw [e]
    have d1 : decide (raw < 0) = false := decide_eq_false (by omega)
    have d2 : decide (4611686018427387904 < raw) = true := decide_eq_true b
    clear a b e he
    go_enter Try.func42, Try.ntmps42
    go_wp2_with (fail)
    go_ret2
    exact ⟨rfl, rfl⟩
  · rw [e]
    have d1 : decide (raw < 0) = false := decide_eq_false (by omega)
    have d2 : decide (4611686018427387904 < raw) = false := decide_eq_false (by omega)
    have d3 : decide (raw < raw0) = true := decide_eq_true c
    clear a b c e he
    go_enter Try.func42, Try.ntmps42
    go_wp2_with (fail)
    go_ret2
    exact ⟨rfl, rfl⟩
  · exact absurd e he

theorem total1_calls (s : Int) (w : World) : Calls Try.prog 45 #[.int .i64 s] w fun e w' => e = .returned (.int .i64 s) ∧ Below w.heap.size w w' := by
  go_enter Try.func45, Try.ntmps45
  go_wp2_with (fail)
  go_ret
  exact ⟨rfl, Below.refl _ _⟩
theorem read1_calls (b : Nat) (s raw : Int) (w : World) (hc : w.cell? ⟨b, 0, none⟩ = some (.int .i64 raw)) (hs : Bd s) (hr : Bd raw) : Calls Try.prog 43 #[.int .i64 s, .pointer (some ⟨b, 0, none⟩)] w fun e w' => e = .returned (.int .i64 (cutv (raw + s))) ∧ Below w.heap.size w w' := by
  have HS := Aside0.mk hs
  have HR := Aside0.mk hr
  clear hs hr
  go_enter Try.func43, Try.ntmps43
  go_wp2_with (first | (go_at_call 44; (with_reducible refine (add_calls raw s _ HR.out HS.out).mono ?_); rintro e w1 ⟨rfl, b1⟩; have B1 := Aside0.mk b1; clear b1))
  go_ret
  exact ⟨rfl, B1.out⟩
theorem correct1_calls (b : Nat) (s by_ : Int) (w : World) (hc : w.cell? ⟨b, 0, none⟩ = some (.int .i64 by_)) (hs : Bd s) (hr : Bd by_) : Calls Try.prog 46 #[.int .i64 s, .pointer (some ⟨b, 0, none⟩)] w fun e w' => e = .returned (.int .i64 (cutv (s + by_))) ∧ Below w.heap.size w w' := by
  have HS := Aside0.mk hs
  have HR := Aside0.mk hr
  clear hs hr
  go_enter Try.func46, Try.ntmps46
  go_wp2_with (first | (go_at_call 44; (with_reducible refine (add_calls s by_ _ HS.out HR.out).mono ?_); rintro e w1 ⟨rfl, b1⟩; have B1 := Aside0.mk b1; clear b1))
  go_ret
  exact ⟨rfl, B1.out⟩
theorem since1_calls (b : Nat) (s total : Int) (w : World) (hc : w.cell? ⟨b, 0, none⟩ = some (.int .i64 total)) (hs : Bd s) (hr : Bd total) : Calls Try.prog 47 #[.int .i64 s, .pointer (some ⟨b, 0, none⟩)] w fun e w' => e = .returned (.int .i64 (cutv (s - total))) ∧ Below w.heap.size w w' := by
  have HS := Aside0.mk hs
  have HR := Aside0.mk hr
  clear hs hr
  go_enter Try.func47, Try.ntmps47
  go_wp2_with (first | (go_at_call 48; (with_reducible refine (sub_calls s total _ HS.out HR.out).mono ?_); rintro e w1 ⟨rfl, b1⟩; have B1 := Aside0.mk b1; clear b1))
  go_ret
  exact ⟨rfl, B1.out⟩
theorem cf43 : ∀ (a : Array Value) (w : World), (callFunc 43 a).run Try.prog w = .ok (.enter 43 a) w := by
  intro a w
  go_simp
theorem cf46 : ∀ (a : Array Value) (w : World), (callFunc 46 a).run Try.prog w = .ok (.enter 46 a) w := by
  intro a w
  go_simp
theorem cf47 : ∀ (a : Array Value) (w : World), (callFunc 47 a).run Try.prog w = .ok (.enter 47 a) w := by
  intro a w
  go_simp

/-- at with a function that reads one cell of its own. -/
theorem at_any (F : Nat) (caps : Array Value) (y z : Int) (hcf : ∀ (a : Array Value) (w : World), (callFunc F a).run Try.prog w = .ok (.enter F a) w) (g : Nat) (raw0 sum rate raw : Int) (v : Value) (w : World) (hc : Clk w g 82 raw0 sum rate v) (hG : Good raw0 sum rate) (hw : Bd raw) (hz : (if err raw0 raw = 0 then y else 0) = z)
    (ht : ∀ w', Below w.heap.size w w' → Calls Try.prog F (#[.int .i64 (tot raw0 sum rate raw)] ++ caps) w' fun e w2 => e = .returned (.int .i64 y) ∧ Below w'.heap.size w' w2) :
    Calls Try.prog 42 #[.pointer (some ⟨g, 0, none⟩), .int .i64 raw, .func (.func F) #[] caps] w fun e w' => e = .returned (.tuple #[.int .i64 z, .int .i64 (err raw0 raw)]) ∧ Below w.heap.size w w' := by
  subst hz
  by_cases he : err raw0 raw = 0
  · rw [if_pos he, he]
    exact at_ok F caps y hcf g raw0 sum rate raw v w hc hG.1 hG.2.1 hG.2.2 hw he ht
  · rw [if_neg he]
    exact (at_err _ g raw0 sum rate raw v w hc he).mono fun e w' h => ⟨h.1, h.2 ▸ Below.refl _ _⟩

theorem total_calls (g : Nat) (raw0 sum rate raw : Int) (v : Value) (w : World) (hc : Clk w g 82 raw0 sum rate v) (hG : Good raw0 sum rate) (hw : Bd raw) :
    Calls Try.prog 17 #[.pointer (some ⟨g, 0, none⟩), .int .i64 raw] w fun e w' => e = .returned (.tuple #[.int .i64 (totE raw0 sum rate raw), .int .i64 (err raw0 raw)]) ∧ Below w.heap.size w w' := by
  have HA := Aside0.mk (at_any 45 #[] (tot raw0 sum rate raw) (totE raw0 sum rate raw) cf45 g raw0 sum rate raw v w hc hG hw rfl (fun w' _ => total1_calls _ w'))
  clear hc hG hw
  go_enter Try.func17, Try.ntmps17
  go_wp2_with (first | (go_at_call 42; (with_reducible refine (HA.out).mono ?_); rintro e w1 ⟨rfl, b1⟩; have B1 := Aside0.mk b1; clear b1))
  go_ret2
  exact ⟨rfl, B1.out⟩

theorem read_calls (g : Nat) (raw0 sum rate raw : Int) (v : Value) (w : World) (hc : Clk w g 82 raw0 sum rate v) (hG : Good raw0 sum rate) (hw : Bd raw) :
    Calls Try.prog 16 #[.pointer (some ⟨g, 0, none⟩), .int .i64 raw] w fun e w' => e = .returned (.tuple #[.int .i64 (rdE raw0 sum rate raw), .int .i64 (err raw0 raw)]) ∧ Below w.heap.size w w' := by
  have hbx : (w.alloc (.cells #[.int .i64 raw] 2)).heap[w.heap.size]? = some (.cells #[.int .i64 raw] 2 (0, 0)) := blk_new w _
  have kx := (blk_cell hbx 0).trans (show _ = some (Value.int .i64 raw) from rfl)
  have HA := Aside0.mk (at_any 43 #[.pointer (some ⟨w.heap.size, 0, none⟩)] (cutv (raw + tot raw0 sum rate raw)) (rdE raw0 sum rate raw) cf43 g raw0 sum rate raw v (w.alloc (.cells #[.int .i64 raw] 2)) (blk_alloc hc _) hG hw rfl (fun w' hb => read1_calls w.heap.size _ raw w' ((hb.cell (by simp)).trans kx) (tot_bd _ _ _ _) hw))
  have HBA := Aside0.mk (below_alloc (Below.refl w.heap.size w) (.cells #[.int .i64 raw] 2))
  clear hc hG hw hbx kx
  have hmf : ∀ (fn : Fn) (first cap : Array Value) (w : World), (Instr.makeFunc fn first cap).run Try.prog w = .ok (.func fn first cap) w := fun _ _ _ _ => rfl
  go_enter Try.func16, Try.ntmps16
  go_wp2_with (first | (go_at_call 42; (with_reducible refine (HA.out).mono ?_); rintro e w1 ⟨rfl, b1⟩; have B1 := Aside0.mk b1; clear b1))
  go_ret2
  exact ⟨rfl, below_step HBA.out B1.out⟩

theorem since_calls (g : Nat) (raw0 sum rate raw total : Int) (v : Value) (w : World) (hc : Clk w g 82 raw0 sum rate v) (hG : Good raw0 sum rate) (hw : Bd raw) (ht : Bd total) :
    Calls Try.prog 19 #[.pointer (some ⟨g, 0, none⟩), .int .i64 raw, .int .i64 total] w fun e w' => e = .returned (.tuple #[.int .i64 (sinceE raw0 sum rate raw total), .int .i64 (err raw0 raw)]) ∧ Below w.heap.size w w' := by
  have hbx : (w.alloc (.cells #[.int .i64 total] 2)).heap[w.heap.size]? = some (.cells #[.int .i64 total] 2 (0, 0)) := blk_new w _
  have kx := (blk_cell hbx 0).trans (show _ = some (Value.int .i64 total) from rfl)
  have HA := Aside0.mk (at_any 47 #[.pointer (some ⟨w.heap.size, 0, none⟩)] (cutv (tot raw0 sum rate raw - total)) (sinceE raw0 sum rate raw total) cf47 g raw0 sum rate raw v (w.alloc (.cells #[.int .i64 total] 2)) (blk_alloc hc _) hG hw rfl (fun w' hb => since1_calls w.heap.size _ total w' ((hb.cell (by simp)).trans kx) (tot_bd _ _ _ _) ht))
  have HBA := Aside0.mk (below_alloc (Below.refl w.heap.size w) (.cells #[.int .i64 total] 2))
  clear hc hG hw hbx kx ht
  have hmf : ∀ (fn : Fn) (first cap : Array Value) (w : World), (Instr.makeFunc fn first cap).run Try.prog w = .ok (.func fn first cap) w := fun _ _ _ _ => rfl
  go_enter Try.func19, Try.ntmps19
  go_wp2_with (first | (go_at_call 42; (with_reducible refine (HA.out).mono ?_); rintro e w1 ⟨rfl, b1⟩; have B1 := Aside0.mk b1; clear b1))
  go_ret2
  exact ⟨rfl, below_step HBA.out B1.out⟩

end Go.Proofs.Ytoddgpaopejeoaa.Le
