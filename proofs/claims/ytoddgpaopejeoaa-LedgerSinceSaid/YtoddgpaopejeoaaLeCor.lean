/- Contracts of the clock's Correct and Rate; each says its own conditions. -/
import Derived.Test.YtoddgpaopejeoaaBLed
import Derived.Test.YtoddgpaopejeoaaMLedx0
import Derived.Test.YtoddgpaopejeoaaMLedx1
import Derived.Test.YtoddgpaopejeoaaMLedx2
import Derived.Test.YtoddgpaopejeoaaMLedx3
import Derived.Test.YtoddgpaopejeoaaMLedx4
import Derived.WalkKit
import Derived.Deep.RegionLaw
import Derived.Deep.RegionWith
import Derived.Deep.RegionHeld3
import Derived.BigRegion
import Derived.BigQuiet
import Derived.StillTailTactics
import Derived.Test.YtoddgpaopejeoaaLeAt
import Derived.Test.YtoddgpaopejeoaaLeRead
namespace Go.Proofs.Ytoddgpaopejeoaa.Le
open Go.RowKit Go.Proofs.Ytoddgpaopejeoaa.MLed Go.Proofs.Ytoddgpaopejeoaa.Pure Go.Proofs.YtoddgpaopejeoaaW.PrintWords Go.Proofs.YtoddgpaopejeoaaW.PrintLast Go.Proofs.YtoddgpaopejeoaaW.PrintMore
attribute [local go_sem] max2_int min2_int max_two min_two max_three min_three max_four min_four
set_option linter.unusedVariables false
set_option linter.unusedSimpArgs false
def corErr (raw0 raw by_ : Int) (n : Nat) : Int := if err raw0 raw ≠ 0 then err raw0 raw else if by_ < -1125899906842624 ∨ 1125899906842624 < by_ then 1 else if 1000 ≤ n then 2 else 0
/-- What a method of a clock of its own type may change: the clock's block, and rows of entries. -/
def Touch (w : World) (g e : Nat) (k : Nat) : Prop := k = g ∨ ∃ cells, w.heap[k]? = some (.cells cells e (0, 0))

theorem info87 : (Try.prog.info? 87).map (fun i => (i.zero, i.size, i.bytes)) = some (some (.agg #[(.int .i64 0), (.int .i64 0), (.bool false)]), 3, 24) := by kernel_rfl
theorem R_ne {α : Type} {d : Kd α} {e base : Nat} {ok : Nat → Prop} {w : World} {v : Value} {xs : List α} {g t : Nat} {cs : Array Value} (h : d.R e w base ok v xs) (hb : w.heap[g]? = some (.cells cs t (0, 0))) (hne : e ≠ t) : some g ≠ v.ownBlock := by
  intro q
  obtain ⟨_, inner, hown, _⟩ := h
  obtain ⟨cells, hc⟩ := own_typed hown g q.symm
  rw [hb] at hc
  injection hc with hc
  injection hc with _ h2 _
  exact hne h2.symm

theorem R_touch {α : Type} {d : Kd α} {e base : Nat} {ok : Nat → Prop} {w : World} {v : Value} {xs : List α} (h : d.R e w base ok v xs) (g k : Nat) (hk : v.ownBlock = some k) : Touch w g e k := by
  obtain ⟨_, inner, hown, _⟩ := h
  exact .inr (own_typed hown k hk)

set_option maxHeartbeats 4000000 in
theorem correct_ok (g : Nat) (raw0 sum rate raw by_ : Int) (step : Bool) (v : Value) (xs : List S87) (base : Nat) (w0 w : World) (hc : Clk w g 82 raw0 sum rate v) (ho : Kd.R k87 87 w base (fun _ => True) v xs) (hB : Below base w0 w) (hg : base ≤ g) (hG : Good raw0 sum rate) (hw : Bd raw) (hb : Bd by_) (hok : corErr raw0 raw by_ xs.length = 0) :
    Calls Try.prog 18 #[.pointer (some ⟨g, 0, none⟩), .int .i64 raw, .int .i64 by_, .bool step] w fun e w' => e = .returned (.int .i64 0) ∧ ∃ v', Clk w' g 82 raw (cutv (tot raw0 sum rate raw + by_)) rate v' ∧ Kd.R k87 87 w' base (fun _ => True) v' (xs ++ [⟨raw, by_, step⟩]) ∧ Below base w0 w' ∧ Kept w w' (Touch w g 87) := by
  have hcor : err raw0 raw = 0 ∧ -1125899906842624 ≤ by_ ∧ by_ ≤ 1125899906842624 ∧ xs.length < 1000 := by
    unfold corErr at hok
    by_cases a : err raw0 raw = 0
    · rw [if_neg (by omega)] at hok
      split at hok
      · omega
      · split at hok
        · omega
        · omega
    · rw [if_pos a] at hok
      exact absurd hok a
  have hbx : (w.alloc (.cells #[.int .i64 by_] 2)).heap[w.heap.size]? = some (.cells #[.int .i64 by_] 2 (0, 0)) := blk_new w _
  have kx := (blk_cell hbx 0).trans (show _ = some (Value.int .i64 by_) from rfl)
  have HA := Aside0.mk (at_any 46 #[.pointer (some ⟨w.heap.size, 0, none⟩)] (cutv (tot raw0 sum rate raw + by_)) (cutv (tot raw0 sum rate raw + by_)) cf46 g raw0 sum rate raw v (w.alloc (.cells #[.int .i64 by_] 2)) (blk_alloc hc _) hG hw (by rw [if_pos hcor.1]) (fun w' hb2 => correct1_calls w.heap.size _ by_ w' ((hb2.cell (by simp)).trans kx) (tot_bd _ _ _ _) hb))
  rw [hcor.1] at HA
  obtain ⟨y, hy⟩ : ∃ y, cutv (tot raw0 sum rate raw + by_) = y := ⟨_, rfl⟩
  rw [hy] at HA ⊢
  clear hy
  have HBA := Aside0.mk (below_alloc (Below.refl w.heap.size w) (.cells #[.int .i64 by_] 2))
  have HX := Aside0.mk hbx
  have d1 : decide (by_ < -1125899906842624) = false := decide_eq_false (by omega)
  have d2 : decide (1125899906842624 < by_) = false := decide_eq_false (by omega)
  have d3 : decide ((1000 : Int) ≤ (xs.length : Int)) = false := decide_eq_false (by omega)
  have d4 : ((1000 : Int) ≤ (xs.length : Int)) = False := eq_false (by omega)
  have LN := Aside0.mk hcor.2.2.2
  obtain ⟨A, c, hv, _, _⟩ := Kd.R_reads ho
  subst hv
  have HO := Aside0.mk ho
  have HB := Aside0.mk hB
  have HG := Aside0.mk hg
  have HS := Aside0.mk (Nat.le_trans hg (Nat.le_of_lt (blk_lt hc)))
  have HC := Aside0.mk hc
  clear hok hcor hG hw hb hbx kx ho hB hg hc
  have hmf : ∀ (fn : Fn) (first cap : Array Value) (w : World), (Instr.makeFunc fn first cap).run Try.prog w = .ok (.func fn first cap) w := fun _ _ _ _ => rfl
  go_enter Try.func18, Try.ntmps18
  go_wp2_with (first | (go_at_call 42; (with_reducible refine (HA.out).mono ?_); rintro e w1 ⟨rfl, b1⟩; have B1 := Aside0.mk (below_step HBA.out b1); have HX1 := Aside0.mk (blk_below HX.out b1); have HC1 := Aside0.mk (blk_below (blk_alloc HC.out _) b1); have kx := (blk_cell HX1.out 0).trans (show _ = some (Value.int .i64 by_) from rfl); have k0 := (blk_cell HC1.out 0).trans (show _ = some (Value.int .i64 raw0) from rfl); have k1 := (blk_cell HC1.out 1).trans (show _ = some (Value.int .i64 sum) from rfl); have k2 := (blk_cell HC1.out 2).trans (show _ = some (Value.int .i64 rate) from rfl); have k3 := (blk_cell HC1.out 3).trans (show _ = some (Value.slice A xs.length c) from rfl); have f0 := blk_frozen HC1.out 0; have f1 := blk_frozen HC1.out 1; have f2 := blk_frozen HC1.out 2; clear b1))
  have hgx : g ≠ w.heap.size := blk_ne HC1.out HX1.out (by decide)
  have s1 := blk_put HC1.out 0 (.int .i64 raw) rfl
  have s2 := blk_put s1 1 (.int .i64 y) rfl
  have HC2 := Aside0.mk (blk_put s2 2 (.int .i64 rate) rfl)
  have HX2 := Aside0.mk (blk_far (blk_far (blk_far HX1.out (p := ⟨g, 0, none⟩) (Ne.symm hgx) (.int .i64 raw)) (p := ⟨g, 1, none⟩) (Ne.symm hgx) (.int .i64 y)) (p := ⟨g, 2, none⟩) (Ne.symm hgx) (.int .i64 rate))
  have HO2 := Aside0.mk (Kd.R_set (Kd.R_set (Kd.R_set (Kd.R_below HO.out B1.out) HC1.out (by decide) 0 (.int .i64 raw)) s1 (by decide) 1 (.int .i64 y)) s2 (by decide) 2 (.int .i64 rate))
  have HB2 := Aside0.mk ((((below_then HB.out HS.out B1.out).setCell (p := ⟨g, 0, none⟩) HG.out (.int .i64 raw)).setCell (p := ⟨g, 1, none⟩) HG.out (.int .i64 y)).setCell (p := ⟨g, 2, none⟩) HG.out (.int .i64 rate))
  have HK2 := Aside0.mk ((((Kept.of_below B1.out (Touch w g 87)).setCell (p := ⟨g, 0, none⟩) (.inl (.inl rfl)) (.int .i64 raw)).setCell (p := ⟨g, 1, none⟩) (.inl (.inl rfl)) (.int .i64 y)).setCell (p := ⟨g, 2, none⟩) (.inl (.inl rfl)) (.int .i64 rate))
  clear s1 s2 kx k0 k1 k2 k3 f0 f1 f2
  generalize ((w1.setCell { block := g, off := 0 } (Value.int IntKind.i64 raw)).setCell { block := g, off := 1 } (Value.int IntKind.i64 y)).setCell { block := g, off := 2 } (Value.int IntKind.i64 rate) = W2 at HC2 HX2 HO2 HB2 HK2 ⊢
  have HNE := Aside0.mk (R_ne HO2.out HC2.out (by decide))
  have kx : W2.drew.cell? ⟨w.heap.size, 0, none⟩ = some (Value.int .i64 by_) := (blk_cell (blk_drew HX2.out) 0).trans rfl
  have k3 : W2.drew.cell? ⟨g, 3, none⟩ = some (Value.slice A xs.length c) := (blk_cell (blk_drew HC2.out) 3).trans rfl
  have k3a : (W2.alloc (Obj.cells #[Value.int IntKind.i64 raw, Value.int IntKind.i64 by_, Value.bool step] 87)).cell? ⟨g, 3, none⟩ = some (Value.slice A xs.length c) := (blk_cell (blk_alloc HC2.out _) 3).trans rfl
  have HS2 := Aside0.mk (Nat.le_trans HG.out (Nat.le_of_lt (blk_lt HC2.out)))
  go_region_law (refine Kd.R_append_step k87 (w0 := w0) (W := W2.drew) base (by rfl) (.tmp 51) (.tmp 56) 41 87 (.agg #[(.int .i64 0), (.int .i64 0), (.bool false)]) 24 rfl Try.underlying41 info87 rfl (by decide) (by omega) (.slice A xs.length c) xs (⟨raw, by_, step⟩ : S87) [.int .i64 raw, .int .i64 by_, .bool step] (fun _ => True) (fun _ => False) rfl rfl ?aP (fun _ hk => hk.elim) (fun _ _ => trivial) ?aO ?aB ?aS ?aL ?_; (case aP => exact k87_mkM _ _ _ (⟨raw, by_, step⟩ : S87)); (case aO => exact Kd.R_drew HO2.out); (case aB => exact HB2.out.drew); (case aS => exact HS2.out); (case aL => have := LN.out; omega); intro v1 w3 ho1 hb1 hg1 hat1; have HO3 := Aside0.mk ho1; have HB3 := Aside0.mk hb1; have HG3 := Aside0.mk hg1; have HC3 := Aside0.mk (blk_grown (blk_drew HC2.out) hg1 HNE.out); have k3' := (blk_cell HC3.out 3).trans (show _ = some (Value.slice A xs.length c) from rfl); have f3' := blk_frozen HC3.out 3; obtain ⟨A1, c1, hv1, _, _⟩ := Kd.R_reads ho1; obtain ⟨n1, hn1⟩ : ∃ n1, (xs ++ [(⟨raw, by_, step⟩ : S87)]).length = n1 := ⟨_, rfl⟩; rw [hn1] at hv1; subst hv1; clear ho1 hb1 hg1 hat1 hn1)
  all_goals
    go_wp2_with (fail)
    go_ret
    exact ⟨rfl, _, blk_put HC3.out 3 _ rfl, Kd.R_set HO3.out HC3.out (by decide) 3 _, HB3.out.setCell (p := ⟨g, 3, none⟩) HG.out _, (Kept.of_grown HG3.out HK2.out.drew (fun k hk => .inl (R_touch HO.out g k hk))).setCell (p := ⟨g, 3, none⟩) (.inl (.inl rfl)) _⟩

set_option maxHeartbeats 4000000 in
theorem correct_no (g : Nat) (raw0 sum rate raw by_ : Int) (step : Bool) (v : Value) (xs : List S87) (base : Nat) (w : World) (hc : Clk w g 82 raw0 sum rate v) (ho : Kd.R k87 87 w base (fun _ => True) v xs) (hG : Good raw0 sum rate) (hw : Bd raw) (hb : Bd by_) (hok : corErr raw0 raw by_ xs.length ≠ 0) :
    Calls Try.prog 18 #[.pointer (some ⟨g, 0, none⟩), .int .i64 raw, .int .i64 by_, .bool step] w fun e w' => e = .returned (.int .i64 (corErr raw0 raw by_ xs.length)) ∧ Below w.heap.size w w' := by
  have hbx : (w.alloc (.cells #[.int .i64 by_] 2)).heap[w.heap.size]? = some (.cells #[.int .i64 by_] 2 (0, 0)) := blk_new w _
  have kx := (blk_cell hbx 0).trans (show _ = some (Value.int .i64 by_) from rfl)
  have HA := Aside0.mk (at_any 46 #[.pointer (some ⟨w.heap.size, 0, none⟩)] (cutv (tot raw0 sum rate raw + by_)) (corE raw0 sum rate raw by_) cf46 g raw0 sum rate raw v (w.alloc (.cells #[.int .i64 by_] 2)) (blk_alloc hc _) hG hw rfl (fun w' hb2 => correct1_calls w.heap.size _ by_ w' ((hb2.cell (by simp)).trans kx) (tot_bd _ _ _ _) hb))
  have HBA := Aside0.mk (below_alloc (Below.refl w.heap.size w) (.cells #[.int .i64 by_] 2))
  have HX := Aside0.mk hbx
  obtain ⟨A, c, hv, _, _⟩ := Kd.R_reads ho
  subst hv
  have HC := Aside0.mk hc
  have hmf : ∀ (fn : Fn) (first cap : Array Value) (w : World), (Instr.makeFunc fn first cap).run Try.prog w = .ok (.func fn first cap) w := fun _ _ _ _ => rfl
  clear hG hw hb hbx kx ho hc
  unfold corErr at hok ⊢
  by_cases he : err raw0 raw = 0
  · rw [if_neg (by omega)] at hok ⊢
    rw [he] at HA
    by_cases q : by_ < -1125899906842624
    · rw [if_pos (.inl q)]
      have d1 : decide (by_ < -1125899906842624) = true := decide_eq_true q
      clear q hok he
      go_enter Try.func18, Try.ntmps18
      go_wp2_with (first | (go_at_call 42; (with_reducible refine (HA.out).mono ?_); rintro e w1 ⟨rfl, b1⟩; have B1 := Aside0.mk (below_step HBA.out b1); have HX1 := Aside0.mk (blk_below HX.out b1); have kx := (blk_cell HX1.out 0).trans (show _ = some (Value.int .i64 by_) from rfl); clear b1))
      go_ret
      exact ⟨rfl, B1.out⟩
    · by_cases q2 : 1125899906842624 < by_
      · rw [if_pos (.inr q2)]
        have d1 : decide (by_ < -1125899906842624) = false := decide_eq_false q
        have d2 : decide (1125899906842624 < by_) = true := decide_eq_true q2
        clear q q2 hok he
        go_enter Try.func18, Try.ntmps18
        go_wp2_with (first | (go_at_call 42; (with_reducible refine (HA.out).mono ?_); rintro e w1 ⟨rfl, b1⟩; have B1 := Aside0.mk (below_step HBA.out b1); have HX1 := Aside0.mk (blk_below HX.out b1); have kx := (blk_cell HX1.out 0).trans (show _ = some (Value.int .i64 by_) from rfl); clear b1))
        go_ret
        exact ⟨rfl, B1.out⟩
      · rw [if_neg (by omega)] at hok ⊢
        by_cases n : 1000 ≤ xs.length
        · rw [if_pos n]
          have d1 : decide (by_ < -1125899906842624) = false := decide_eq_false q
          have d2 : decide (1125899906842624 < by_) = false := decide_eq_false q2
          have d4 : ((1000 : Int) ≤ (xs.length : Int)) = True := eq_true (by omega)
          clear q q2 n hok he
          go_enter Try.func18, Try.ntmps18
          go_wp2_with (first | (go_at_call 42; (with_reducible refine (HA.out).mono ?_); rintro e w1 ⟨rfl, b1⟩; have B1 := Aside0.mk (below_step HBA.out b1); have HX1 := Aside0.mk (blk_below HX.out b1); have HC1 := Aside0.mk (blk_below (blk_alloc HC.out _) b1); have kx := (blk_cell HX1.out 0).trans (show _ = some (Value.int .i64 by_) from rfl); have k3 := (blk_cell HC1.out 3).trans (show _ = some (Value.slice A xs.length c) from rfl); clear b1))
          go_ret
          exact ⟨rfl, B1.out⟩
        · rw [if_neg n] at hok
          exact absurd rfl hok
  · rw [if_pos he]
    have hb : (err raw0 raw == 0) = false := beq_eq_false_iff_ne.mpr he
    obtain ⟨q, hq⟩ : ∃ q, err raw0 raw = q := ⟨_, rfl⟩
    rw [hq] at HA hb ⊢
    clear hok he hq
    go_enter Try.func18, Try.ntmps18
    go_wp2_with (first | (go_at_call 42; (with_reducible refine (HA.out).mono ?_); rintro e w1 ⟨rfl, b1⟩; have B1 := Aside0.mk (below_step HBA.out b1); clear b1))
    go_ret
    exact ⟨rfl, B1.out⟩

end Go.Proofs.Ytoddgpaopejeoaa.Le
