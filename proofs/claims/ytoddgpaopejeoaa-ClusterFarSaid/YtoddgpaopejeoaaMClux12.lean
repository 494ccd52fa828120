/- Functions that the statements of this seat reach, each as a plain Lean function, with a proof that the Go code comes to its answers; no condition. -/
import Derived.Test.YtoddgpaopejeoaaMClux0
import Derived.Test.YtoddgpaopejeoaaMClux4
import Derived.Test.YtoddgpaopejeoaaMClux5
namespace Go.Proofs.Ytoddgpaopejeoaa.MClu
open Go.RowKit Go.Proofs.YtoddgpaopejeoaaW.PrintWords Go.Proofs.YtoddgpaopejeoaaW.PrintLast Go.Proofs.YtoddgpaopejeoaaW.PrintMore
attribute [local go_sem] max2_int min2_int max_two min_two max_three min_three max_four min_four   -- for this text's walks alone
set_option linter.unusedVariables false
set_option linter.unusedSimpArgs false

/-! ### analemmalaw17_ClusterFar: function 11 -/
mutual
def analemmalaw17_ClusterFar.l0 : Nat → Int → Int → Int → List (S70) → Int → Option (Bool)
  | 0, _, _, _, _, _ => none
  | k + 1, x2, x7, x8, x9, x10 => if x10 < x7 then (if x10 = x8 then (if x9.length < 5864062014805 then (analemmalaw17_ClusterFar.l0 k x2 x7 x8 (x9 ++ [(⟨wrap64 ((wrap64 ((wrap64 (x2)) + 1)) * 16777216), 0, 5⟩ : S70)]) (wrap64 (x10 + 1))) else (none)) else (if x9.length < 5864062014805 then (analemmalaw17_ClusterFar.l0 k x2 x7 x8 (x9 ++ [(⟨0, 0, 5⟩ : S70)]) (wrap64 (x10 + 1))) else (none))) else ((cluster_Worst.f x9).bind fun bt329 => ((cluster_Prune.f x9 (wrap64 (x7 - 1))).bind fun bt331 => (analemmalaw17_ClusterFar.l1 k x7 x8 bt329.1 bt329.2 bt331.1 true 0)))
def analemmalaw17_ClusterFar.l1 : Nat → Int → Int → Int → Int → List Int → Bool → Int → Option (Bool)
  | 0, _, _, _, _, _, _, _ => none
  | k + 1, x7, x8, x12, x13, x14, x16, x17 => if x17 < (x14.length : Int) then (if x16 = true then (if 0 ≤ x17 then (analemmalaw17_ClusterFar.l1 k x7 x8 x12 x13 x14 ((rd x14 x17) != x8) (wrap64 (x17 + 1))) else (none)) else (analemmalaw17_ClusterFar.l1 k x7 x8 x12 x13 x14 false (wrap64 (x17 + 1)))) else (if x12 = x8 then (if x13 > 0 then (if x16 = true then (if (x14.length : Int) = (wrap64 (x7 - 1)) then ((analemmalaw17_shown.f k).bind fun t336 => (some t336)) else (some false)) else (some false)) else (some false)) else (some false))
end
def analemmalaw17_ClusterFar.f (k : Nat) (a0 : Int) (a1 : Int) (a2 : Int) : Option (Bool) := if (wrap64 (3 + (Int.tmod (wrap64 (a0)) 8))) = 0 then (none) else (analemmalaw17_ClusterFar.l0 k a2 (wrap64 (3 + (Int.tmod (wrap64 (a0)) 8))) (Int.tmod (wrap64 (a1)) (wrap64 (3 + (Int.tmod (wrap64 (a0)) 8)))) (([] : List (S70))) 0)
theorem analemmalaw17_ClusterFar.mono_l : ∀ k, (∀ y0 y1 y2 y3 y4, LeO (analemmalaw17_ClusterFar.l0 k y0 y1 y2 y3 y4) (analemmalaw17_ClusterFar.l0 (k + 1) y0 y1 y2 y3 y4)) ∧ (∀ y0 y1 y2 y3 y4 y5 y6, LeO (analemmalaw17_ClusterFar.l1 k y0 y1 y2 y3 y4 y5 y6) (analemmalaw17_ClusterFar.l1 (k + 1) y0 y1 y2 y3 y4 y5 y6))
  | 0 => ⟨fun _ _ _ _ _ r h => by simp [analemmalaw17_ClusterFar.l0] at h, fun _ _ _ _ _ _ _ r h => by simp [analemmalaw17_ClusterFar.l1] at h⟩
  | k + 1 => by
    obtain ⟨ih0, ih1⟩ := analemmalaw17_ClusterFar.mono_l k
    refine ⟨?_, ?_⟩
    · intro y0 y1 y2 y3 y4
      unfold analemmalaw17_ClusterFar.l0
      repeat' first
      | (with_reducible exact ih0 _ _ _ _ _)
      | (with_reducible exact ih1 _ _ _ _ _ _ _)
      | (with_reducible exact analemmalaw17_shown.mono _)
      | (with_reducible exact LeO.refl _)
      | (with_reducible exact LeO.none _)
      | (with_reducible refine LeO.ite ?_ ?_)
      | (with_reducible refine LeO.bind ?_ (fun _ => ?_))
      | exact ih0 _ _ _ _ _
      | exact ih1 _ _ _ _ _ _ _
      | exact analemmalaw17_shown.mono _
      | exact LeO.none _
      | refine LeO.ite ?_ ?_
      | refine LeO.bind ?_ (fun _ => ?_)
    · intro y0 y1 y2 y3 y4 y5 y6
      unfold analemmalaw17_ClusterFar.l1
      repeat' first
      | (with_reducible exact ih0 _ _ _ _ _)
      | (with_reducible exact ih1 _ _ _ _ _ _ _)
      | (with_reducible exact analemmalaw17_shown.mono _)
      | (with_reducible exact LeO.refl _)
      | (with_reducible exact LeO.none _)
      | (with_reducible refine LeO.ite ?_ ?_)
      | (with_reducible refine LeO.bind ?_ (fun _ => ?_))
      | exact ih0 _ _ _ _ _
      | exact ih1 _ _ _ _ _ _ _
      | exact analemmalaw17_shown.mono _
      | exact LeO.none _
      | refine LeO.ite ?_ ?_
      | refine LeO.bind ?_ (fun _ => ?_)
theorem analemmalaw17_ClusterFar.mono : ∀ a0 a1 a2 k, LeO (analemmalaw17_ClusterFar.f k a0 a1 a2) (analemmalaw17_ClusterFar.f (k + 1) a0 a1 a2) := by
  intro a0 a1 a2 k
  obtain ⟨ih0, ih1⟩ := analemmalaw17_ClusterFar.mono_l k
  unfold analemmalaw17_ClusterFar.f
  repeat' first
      | (with_reducible exact ih0 _ _ _ _ _)
      | (with_reducible exact ih1 _ _ _ _ _ _ _)
      | (with_reducible exact analemmalaw17_shown.mono _)
      | (with_reducible exact LeO.refl _)
      | (with_reducible exact LeO.none _)
      | (with_reducible refine LeO.ite ?_ ?_)
      | (with_reducible refine LeO.bind ?_ (fun _ => ?_))
      | exact ih0 _ _ _ _ _
      | exact ih1 _ _ _ _ _ _ _
      | exact analemmalaw17_shown.mono _
      | exact LeO.none _
      | refine LeO.ite ?_ ?_
      | refine LeO.bind ?_ (fun _ => ?_)
set_option maxHeartbeats 8000000 in
set_option maxRecDepth 100000 in
theorem analemmalaw17_ClusterFar.calls (k : Nat) (a0 : Int) (a1 : Int) (a2 : Int) (r : Bool) (w : World) (h : analemmalaw17_ClusterFar.f k a0 a1 a2 = some r) (hr : Aside0 (r = true)) :
    Calls Try.prog 11 #[.int .u8 a0, .int .u8 a1, .int .u32 a2] w fun e w' => e = .returned (.bool r) ∧ Below w.heap.size w w' := by
  have hu70 := Try.underlying70
  have HB := Aside0.mk (Below.refl w.heap.size w)
  have H : (if (wrap64 (3 + (Int.tmod (wrap64 (a0)) 8))) = 0 then (none) else (analemmalaw17_ClusterFar.l0 k a2 (wrap64 (3 + (Int.tmod (wrap64 (a0)) 8))) (Int.tmod (wrap64 (a1)) (wrap64 (3 + (Int.tmod (wrap64 (a0)) 8)))) (([] : List (S70))) 0)) = some r := h
  clear h
  by_cases c4 : (wrap64 (3 + (Int.tmod (wrap64 (a0)) 8))) = 0
  · rw [if_pos c4] at H
    exact absurd H (by simp)
  · rw [if_neg c4] at H
    have c4b0 : ((wrap64 (3 + (Int.tmod (wrap64 (a0)) 8))) == 0) = false := beq_eq_false_iff_ne.mpr c4
    have c4b1 : ((wrap64 (3 + (Int.tmod (wrap64 (a0)) 8))) != 0) = true := bne_iff_ne.mpr c4
    obtain ⟨y319, hy319⟩ : ∃ y_ : List (S70), y_ = (([] : List (S70))) := ⟨_, rfl⟩
    replace H : (analemmalaw17_ClusterFar.l0 k a2 (wrap64 (3 + (Int.tmod (wrap64 (a0)) 8))) (Int.tmod (wrap64 (a1)) (wrap64 (3 + (Int.tmod (wrap64 (a0)) 8)))) y319 0) = some r := by first | (rw [hy319]; with_reducible exact H) | (have H2_ := (Option.bind_some _ _).symm.trans H; rw [hy319]; with_reducible exact H2_) | (have H2_ := (Option.bind_some _ _).symm.trans H; with_reducible exact H2_) | with_reducible exact H | (rw [hy319]; exact H) | exact H
    have Ny319 := Aside0.mk hy319
    clear hy319
    have H' := Aside0.mk H
    clear H
    go_enter Try.func11, Try.ntmps11
    go_wp2_with (first | ((with_reducible refine gate_dst (N := 26) rfl ?_); (try (refine gate_guard (by rfl) ?_; dsimp only)); refine Kd.R_lit k70 _ 70 ?hg (N := 26) ?hd (xs := ([] : List (S70))) (inner := []) (ok := fun _ => True) (okp := fun _ => True) ?hr ?hp (fun _ hk => hk) trivial (Below.refl _ _) (Nat.le_refl _) (by simp) ?_; (case hd => rfl); (case hg => rfl); (case hr => first | (go_simp; done) | (go_simp; rfl)); (case hp => exact (Reps.none _ _)); intro v320 w5 ho6 hb hg_ hnew_; clear hg_ hnew_; (first | rw [← Ny319.out] at ho6 | (simp only [Int.reduceToNat] at ho6; rw [← Ny319.out] at ho6)); have n0_ := Aside0.mk (Kd.R_lower ho6 (below_size (by repeat (first | (with_reducible first | exact HB.out | apply below_alloc | apply pw_below_drewN | apply below_drew1) | exact HB.out)))); have n1_ := Aside0.mk (below_step (by repeat (first | (with_reducible first | exact HB.out | apply below_alloc | apply pw_below_drewN | apply below_drew1) | exact HB.out)) hb); clear HB; have HO321 := n0_; have HB := n1_; clear n0_ n1_; clear hb ho6))
    go_loopg [9, 10] k (fun kq v9 v10 w' => ∃ (x9_1 : List (S70)) (x10_1 : Int), v10 = .int .i64 x10_1 ∧ Aside0 (analemmalaw17_ClusterFar.l0 kq a2 (wrap64 (3 + (Int.tmod (wrap64 (a0)) 8))) (Int.tmod (wrap64 (a1)) (wrap64 (3 + (Int.tmod (wrap64 (a0)) 8)))) x9_1 x10_1 = some r) ∧ Aside0 (kq ≤ k) ∧ Aside0 (Kd.R k70 70 w' w.heap.size (fun _ => True) v9 x9_1) ∧ Aside0 (Below w.heap.size w w'))
    case atStart => exact ⟨(y319), (0), (by first | rfl | (simp; done) | (simp [*]; done)), H', ⟨Nat.le_refl _⟩, ⟨by (with_reducible repeat (first | apply Kd.R_alloc | apply Kd.R_drewN | apply Kd.R_drew)); exact HO321.out⟩, ⟨by repeat (first | (with_reducible first | exact HB.out | apply below_alloc | apply pw_below_drewN | apply below_drew1) | exact HB.out)⟩⟩
    case round =>
      clear H'
      try clear c1
      try clear p2
      try clear c4
      try clear c4b0
      try clear c4b1
      try clear p6
      obtain ⟨x9_1, x10_1, rfl, HA, HK1, HO_9, HB⟩ := hrel
      cases gk with
      | zero => exact absurd HA.out (by simp [analemmalaw17_ClusterFar.l0])
      | succ k1 =>
        have H := HA.out
        clear HA
        simp only [analemmalaw17_ClusterFar.l0] at H
        by_cases c7 : x10_1 < (wrap64 (3 + (Int.tmod (wrap64 (a0)) 8)))
        · rw [if_pos c7] at H
          have c7b0 : decide (x10_1 < (wrap64 (3 + (Int.tmod (wrap64 (a0)) 8)))) = true := decide_eq_true c7
          clear c7
          by_cases c8 : x10_1 = (Int.tmod (wrap64 (a1)) (wrap64 (3 + (Int.tmod (wrap64 (a0)) 8))))
          · rw [if_pos c8] at H
            have c8b0 : (x10_1 == (Int.tmod (wrap64 (a1)) (wrap64 (3 + (Int.tmod (wrap64 (a0)) 8))))) = true := beq_iff_eq.mpr c8
            have c8b1 : (x10_1 != (Int.tmod (wrap64 (a1)) (wrap64 (3 + (Int.tmod (wrap64 (a0)) 8))))) = false := bne_eq_false_iff_eq.mpr c8
            clear c8
            by_cases c9 : x9_1.length < 5864062014805
            · rw [if_pos c9] at H
              have LMc9 := Aside0.mk c9
              clear c9
              obtain ⟨y323, hy323⟩ : ∃ y_ : List (S70), y_ = (x9_1 ++ [(⟨wrap64 ((wrap64 ((wrap64 (a2)) + 1)) * 16777216), 0, 5⟩ : S70)]) := ⟨_, rfl⟩
              replace H : (analemmalaw17_ClusterFar.l0 k1 a2 (wrap64 (3 + (Int.tmod (wrap64 (a0)) 8))) (Int.tmod (wrap64 (a1)) (wrap64 (3 + (Int.tmod (wrap64 (a0)) 8)))) y323 (wrap64 (x10_1 + 1))) = some r := by first | (rw [hy323]; with_reducible exact H) | (have H2_ := (Option.bind_some _ _).symm.trans H; rw [hy323]; with_reducible exact H2_) | (have H2_ := (Option.bind_some _ _).symm.trans H; with_reducible exact H2_) | with_reducible exact H | (rw [hy323]; exact H) | exact H
              have Ny323 := Aside0.mk hy323
              clear hy323
              have H' := Aside0.mk H
              clear H
              go_wp2_with (first | ((with_reducible refine gate_dst (N := 11) rfl ?_); (try (refine gate_guard (by rfl) ?_; dsimp only)); refine box_event ?hg (N := 11) ?hd (cs := #[.int .i64 0, .int .i64 0, .int .i64 0]) (t := 70) ?hr ?_; (case hd => rfl); (case hg => rfl); (case hr => first | (go_simp; done) | (go_simp; rfl)); intro gb322 hg w10 hbox hb; have n0_ := Aside0.mk (Kd.R_below (Kd.R_elderB (by (with_reducible repeat (first | apply Kd.R_alloc | apply Kd.R_drewN | apply Kd.R_drew)); exact HO_9.out) gb322 (Nat.le_of_eq hg.symm)) hb); have n1_ := Aside0.mk (below_step (by repeat (first | (with_reducible first | exact HB.out | apply below_alloc | apply pw_below_drewN | apply below_drew1) | exact HB.out)) hb); have n2_ := Aside0.mk (hbox); have n3_ := Aside0.mk ((by rw [hg]; exact (below_size (by repeat (first | (with_reducible first | exact HB.out | apply below_alloc | apply pw_below_drewN | apply below_drew1) | exact HB.out))) : w.heap.size ≤ gb322)); have n4_ := Aside0.mk ((by rw [hg]; exact (below_size (by repeat (first | (with_reducible first | exact HB.out | apply below_alloc | apply pw_below_drewN | apply below_drew1) | exact HB.out))) : w.heap.size ≤ gb322)); clear HO_9; clear HB; have HO_9 := n0_; have HB := n1_; have BK322 := n2_; have GW322 := n3_; have GE322 := n4_; clear n0_ n1_ n2_ n3_ n4_; clear hb hbox hg; have hcz11_0 : w10.cell? ⟨gb322, 0, none⟩ = some (.int .i64 0) := (blk_cell BK322.out 0).trans rfl; have hcz11_1 : w10.cell? ⟨gb322, 1, none⟩ = some (.int .i64 0) := (blk_cell BK322.out 1).trans rfl; have hcz11_2 : w10.cell? ⟨gb322, 2, none⟩ = some (.int .i64 0) := (blk_cell BK322.out 2).trans rfl; have hfz11_0 := blk_frozen BK322.out 0; have hfz11_1 := blk_frozen BK322.out 1; have hfz11_2 := blk_frozen BK322.out 2) | ((with_reducible refine gate_builtin (b := .append) (xs := #[.tmp 41, .tmp 43]) rfl ?_); (try (refine gate_guard (by rfl) ?_; dsimp only)); at_builtin; refine Kd.R_append k70 (w0 := w) w.heap.size rfl (.tmp 41) (.tmp 43) 53 70 (.agg #[(.int .i64 0), (.int .i64 0), (.int .i64 0)]) 24 rfl Try.underlying53 info70 rfl (by decide) (by omega) u9 x9_1 (⟨wrap64 ((wrap64 ((wrap64 (a2)) + 1)) * 16777216), 0, 5⟩ : S70) [.int .i64 (wrap64 ((wrap64 ((wrap64 (a2)) + 1)) * 16777216)), .int .i64 0, .int .i64 5] (fun k_ => k_ ≠ gb322) (fun _ => False) rfl (by first | (go_simp; done) | (go_simp; rfl)) ?aP (fun _ hk => hk.elim) ?aF ?aO ?aB ?aS ?aL ?_; (case aP => exact k70_mkM _ _ _ (⟨wrap64 ((wrap64 ((wrap64 (a2)) + 1)) * 16777216), 0, 5⟩ : S70)); (case aB => exact (by repeat (first | (with_reducible first | exact HB.out | apply below_alloc | apply pw_below_drewN | apply below_drew1 | refine below_set ?_ GE322.out) | exact HB.out))); (case aF => exact (fun k_ hk => Kd.freshB (g := gb322) (o := .cells #[.int .i64 (wrap64 ((wrap64 ((wrap64 (a2)) + 1)) * 16777216)), .int .i64 0, .int .i64 5] 70 (0, 0)) (by (with_reducible repeat (first | refine blk_drewN ?_ _ | refine blk_drew ?_ | refine blk_alloc ?_ _)); refine blk_put (cs := #[.int .i64 0, .int .i64 0, .int .i64 5]) ?_ 0 _ rfl; (with_reducible repeat (first | refine blk_drewN ?_ _ | refine blk_drew ?_ | refine blk_alloc ?_ _)); refine blk_put (cs := #[.int .i64 0, .int .i64 0, .int .i64 0]) ?_ 2 _ rfl; (with_reducible repeat (first | refine blk_drewN ?_ _ | refine blk_drew ?_ | refine blk_alloc ?_ _)); refine blk_put (cs := #[.int .i64 0, .int .i64 0, .int .i64 0]) ?_ 1 _ rfl; (with_reducible repeat (first | refine blk_drewN ?_ _ | refine blk_drew ?_ | refine blk_alloc ?_ _)); refine blk_put (cs := #[.int .i64 0, .int .i64 0, .int .i64 0]) ?_ 0 _ rfl; (with_reducible repeat (first | refine blk_drewN ?_ _ | refine blk_drew ?_ | refine blk_alloc ?_ _)); exact BK322.out) k_ hk)); (case aO => exact (by (with_reducible repeat (first | apply Kd.R_alloc | apply Kd.R_drewN | apply Kd.R_drew)); exact Kd.R_mono (Kd.R_far (p := ⟨gb322, 0, none⟩) (Kd.R_far (p := ⟨gb322, 2, none⟩) (Kd.R_far (p := ⟨gb322, 1, none⟩) (Kd.R_far (p := ⟨gb322, 0, none⟩) (Kd.R_mono HO_9.out (fun k_ hk => (⟨hk, hk.2⟩ : _ ∧ k_ ≠ gb322))) (fun _ hk => hk.2) (.int .i64 0)) (fun _ hk => hk.2) (.int .i64 0)) (fun _ hk => hk.2) (.int .i64 5)) (fun _ hk => hk.2) (.int .i64 (wrap64 ((wrap64 ((wrap64 (a2)) + 1)) * 16777216)))) (fun _ hk => hk.1.2))); (case aS => exact (below_size (by repeat (first | (with_reducible first | exact HB.out | apply below_alloc | apply pw_below_drewN | apply below_drew1 | refine below_set ?_ GE322.out) | exact HB.out)))); (case aL => have := LMc9.out; omega); intro v324 w12 ho hb hg hat; rw [← Ny323.out] at ho; have n0_ := Aside0.mk (blk_grown (g := gb322) (o := .cells #[.int .i64 (wrap64 ((wrap64 ((wrap64 (a2)) + 1)) * 16777216)), .int .i64 0, .int .i64 5] 70 (0, 0)) (by (with_reducible repeat (first | refine blk_drewN ?_ _ | refine blk_drew ?_ | refine blk_alloc ?_ _)); refine blk_put (cs := #[.int .i64 0, .int .i64 0, .int .i64 5]) ?_ 0 _ rfl; (with_reducible repeat (first | refine blk_drewN ?_ _ | refine blk_drew ?_ | refine blk_alloc ?_ _)); refine blk_put (cs := #[.int .i64 0, .int .i64 0, .int .i64 0]) ?_ 2 _ rfl; (with_reducible repeat (first | refine blk_drewN ?_ _ | refine blk_drew ?_ | refine blk_alloc ?_ _)); refine blk_put (cs := #[.int .i64 0, .int .i64 0, .int .i64 0]) ?_ 1 _ rfl; (with_reducible repeat (first | refine blk_drewN ?_ _ | refine blk_drew ?_ | refine blk_alloc ?_ _)); refine blk_put (cs := #[.int .i64 0, .int .i64 0, .int .i64 0]) ?_ 0 _ rfl; (with_reducible repeat (first | refine blk_drewN ?_ _ | refine blk_drew ?_ | refine blk_alloc ?_ _)); exact BK322.out) hg (Kd.R_away HO_9.out (fun _ hk => hk.2))); have n1_ := Aside0.mk (hb); have n2_ := Aside0.mk (ho); clear BK322; clear HB; clear HO_9; have BK322 := n0_; have HB := n1_; have HO325 := n2_; clear n0_ n1_ n2_; clear ho hb hg hat))
              go_roundg k1
              case measure => have := HK1.out; omega
              case rel => exact ⟨(y323), (wrap64 (x10_1 + 1)), (by first | rfl | (simp; done) | (simp [*]; done)), H', ⟨by have := HK1.out; omega⟩, ⟨by (with_reducible repeat (first | apply Kd.R_alloc | apply Kd.R_drewN | apply Kd.R_drew)); exact Kd.R_mono HO325.out (fun _ hk => trivial)⟩, ⟨by repeat (first | (with_reducible first | exact HB.out | apply below_alloc | apply pw_below_drewN | apply below_drew1 | refine below_set ?_ GE322.out) | exact HB.out)⟩⟩
            · rw [if_neg c9] at H
              exact absurd H (by simp)
          · rw [if_neg c8] at H
            have c8b0 : (x10_1 == (Int.tmod (wrap64 (a1)) (wrap64 (3 + (Int.tmod (wrap64 (a0)) 8))))) = false := beq_eq_false_iff_ne.mpr c8
            have c8b1 : (x10_1 != (Int.tmod (wrap64 (a1)) (wrap64 (3 + (Int.tmod (wrap64 (a0)) 8))))) = true := bne_iff_ne.mpr c8
            by_cases c13 : x9_1.length < 5864062014805
            · rw [if_pos c13] at H
              have LMc13 := Aside0.mk c13
              clear c13
              obtain ⟨y326, hy326⟩ : ∃ y_ : List (S70), y_ = (x9_1 ++ [(⟨0, 0, 5⟩ : S70)]) := ⟨_, rfl⟩
              replace H : (analemmalaw17_ClusterFar.l0 k1 a2 (wrap64 (3 + (Int.tmod (wrap64 (a0)) 8))) (Int.tmod (wrap64 (a1)) (wrap64 (3 + (Int.tmod (wrap64 (a0)) 8)))) y326 (wrap64 (x10_1 + 1))) = some r := by first | (rw [hy326]; with_reducible exact H) | (have H2_ := (Option.bind_some _ _).symm.trans H; rw [hy326]; with_reducible exact H2_) | (have H2_ := (Option.bind_some _ _).symm.trans H; with_reducible exact H2_) | with_reducible exact H | (rw [hy326]; exact H) | exact H
              have Ny326 := Aside0.mk hy326
              clear hy326
              have H' := Aside0.mk H
              clear H
              go_wp2_with (first | ((with_reducible refine gate_dst (N := 11) rfl ?_); (try (refine gate_guard (by rfl) ?_; dsimp only)); refine box_event ?hg (N := 11) ?hd (cs := #[.int .i64 0, .int .i64 0, .int .i64 0]) (t := 70) ?hr ?_; (case hd => rfl); (case hg => rfl); (case hr => first | (go_simp; done) | (go_simp; rfl)); intro gb322 hg w14 hbox hb; have n0_ := Aside0.mk (Kd.R_below (Kd.R_elderB (by (with_reducible repeat (first | apply Kd.R_alloc | apply Kd.R_drewN | apply Kd.R_drew)); exact HO_9.out) gb322 (Nat.le_of_eq hg.symm)) hb); have n1_ := Aside0.mk (below_step (by repeat (first | (with_reducible first | exact HB.out | apply below_alloc | apply pw_below_drewN | apply below_drew1) | exact HB.out)) hb); have n2_ := Aside0.mk (hbox); have n3_ := Aside0.mk ((by rw [hg]; exact (below_size (by repeat (first | (with_reducible first | exact HB.out | apply below_alloc | apply pw_below_drewN | apply below_drew1) | exact HB.out))) : w.heap.size ≤ gb322)); have n4_ := Aside0.mk ((by rw [hg]; exact (below_size (by repeat (first | (with_reducible first | exact HB.out | apply below_alloc | apply pw_below_drewN | apply below_drew1) | exact HB.out))) : w.heap.size ≤ gb322)); clear HO_9; clear HB; have HO_9 := n0_; have HB := n1_; have BK322 := n2_; have GW322 := n3_; have GE322 := n4_; clear n0_ n1_ n2_ n3_ n4_; clear hb hbox hg; have hcz15_0 : w14.cell? ⟨gb322, 0, none⟩ = some (.int .i64 0) := (blk_cell BK322.out 0).trans rfl; have hcz15_1 : w14.cell? ⟨gb322, 1, none⟩ = some (.int .i64 0) := (blk_cell BK322.out 1).trans rfl; have hcz15_2 : w14.cell? ⟨gb322, 2, none⟩ = some (.int .i64 0) := (blk_cell BK322.out 2).trans rfl; have hfz15_0 := blk_frozen BK322.out 0; have hfz15_1 := blk_frozen BK322.out 1; have hfz15_2 := blk_frozen BK322.out 2) | ((with_reducible refine gate_builtin (b := .append) (xs := #[.tmp 41, .tmp 43]) rfl ?_); (try (refine gate_guard (by rfl) ?_; dsimp only)); at_builtin; refine Kd.R_append k70 (w0 := w) w.heap.size rfl (.tmp 41) (.tmp 43) 53 70 (.agg #[(.int .i64 0), (.int .i64 0), (.int .i64 0)]) 24 rfl Try.underlying53 info70 rfl (by decide) (by omega) u9 x9_1 (⟨0, 0, 5⟩ : S70) [.int .i64 0, .int .i64 0, .int .i64 5] (fun k_ => k_ ≠ gb322) (fun _ => False) rfl (by first | (go_simp; done) | (go_simp; rfl)) ?aP (fun _ hk => hk.elim) ?aF ?aO ?aB ?aS ?aL ?_; (case aP => exact k70_mkM _ _ _ (⟨0, 0, 5⟩ : S70)); (case aB => exact (by repeat (first | (with_reducible first | exact HB.out | apply below_alloc | apply pw_below_drewN | apply below_drew1 | refine below_set ?_ GE322.out) | exact HB.out))); (case aF => exact (fun k_ hk => Kd.freshB (g := gb322) (o := .cells #[.int .i64 0, .int .i64 0, .int .i64 5] 70 (0, 0)) (by (with_reducible repeat (first | refine blk_drewN ?_ _ | refine blk_drew ?_ | refine blk_alloc ?_ _)); refine blk_put (cs := #[.int .i64 0, .int .i64 0, .int .i64 0]) ?_ 2 _ rfl; (with_reducible repeat (first | refine blk_drewN ?_ _ | refine blk_drew ?_ | refine blk_alloc ?_ _)); refine blk_put (cs := #[.int .i64 0, .int .i64 0, .int .i64 0]) ?_ 1 _ rfl; (with_reducible repeat (first | refine blk_drewN ?_ _ | refine blk_drew ?_ | refine blk_alloc ?_ _)); refine blk_put (cs := #[.int .i64 0, .int .i64 0, .int .i64 0]) ?_ 0 _ rfl; (with_reducible repeat (first | refine blk_drewN ?_ _ | refine blk_drew ?_ | refine blk_alloc ?_ _)); exact BK322.out) k_ hk)); (case aO => exact (by (with_reducible repeat (first | apply Kd.R_alloc | apply Kd.R_drewN | apply Kd.R_drew)); exact Kd.R_mono (Kd.R_far (p := ⟨gb322, 2, none⟩) (Kd.R_far (p := ⟨gb322, 1, none⟩) (Kd.R_far (p := ⟨gb322, 0, none⟩) (Kd.R_mono HO_9.out (fun k_ hk => (⟨hk, hk.2⟩ : _ ∧ k_ ≠ gb322))) (fun _ hk => hk.2) (.int .i64 0)) (fun _ hk => hk.2) (.int .i64 0)) (fun _ hk => hk.2) (.int .i64 5)) (fun _ hk => hk.1.2))); (case aS => exact (below_size (by repeat (first | (with_reducible first | exact HB.out | apply below_alloc | apply pw_below_drewN | apply below_drew1 | refine below_set ?_ GE322.out) | exact HB.out)))); (case aL => have := LMc13.out; omega); intro v327 w16 ho hb hg hat; rw [← Ny326.out] at ho; have n0_ := Aside0.mk (blk_grown (g := gb322) (o := .cells #[.int .i64 0, .int .i64 0, .int .i64 5] 70 (0, 0)) (by (with_reducible repeat (first | refine blk_drewN ?_ _ | refine blk_drew ?_ | refine blk_alloc ?_ _)); refine blk_put (cs := #[.int .i64 0, .int .i64 0, .int .i64 0]) ?_ 2 _ rfl; (with_reducible repeat (first | refine blk_drewN ?_ _ | refine blk_drew ?_ | refine blk_alloc ?_ _)); refine blk_put (cs := #[.int .i64 0, .int .i64 0, .int .i64 0]) ?_ 1 _ rfl; (with_reducible repeat (first | refine blk_drewN ?_ _ | refine blk_drew ?_ | refine blk_alloc ?_ _)); refine blk_put (cs := #[.int .i64 0, .int .i64 0, .int .i64 0]) ?_ 0 _ rfl; (with_reducible repeat (first | refine blk_drewN ?_ _ | refine blk_drew ?_ | refine blk_alloc ?_ _)); exact BK322.out) hg (Kd.R_away HO_9.out (fun _ hk => hk.2))); have n1_ := Aside0.mk (hb); have n2_ := Aside0.mk (ho); clear BK322; clear HB; clear HO_9; have BK322 := n0_; have HB := n1_; have HO328 := n2_; clear n0_ n1_ n2_; clear ho hb hg hat))
              go_roundg k1
              case measure => have := HK1.out; omega
              case rel => exact ⟨(y326), (wrap64 (x10_1 + 1)), (by first | rfl | (simp; done) | (simp [*]; done)), H', ⟨by have := HK1.out; omega⟩, ⟨by (with_reducible repeat (first | apply Kd.R_alloc | apply Kd.R_drewN | apply Kd.R_drew)); exact Kd.R_mono HO328.out (fun _ hk => trivial)⟩, ⟨by repeat (first | (with_reducible first | exact HB.out | apply below_alloc | apply pw_below_drewN | apply below_drew1 | refine below_set ?_ GE322.out) | exact HB.out)⟩⟩
            · rw [if_neg c13] at H
              exact absurd H (by simp)
        · rw [if_neg c7] at H
          have c7b0 : decide (x10_1 < (wrap64 (3 + (Int.tmod (wrap64 (a0)) 8)))) = false := decide_eq_false c7
          clear c7
          replace H := Option.bind_eq_some_iff.mp H
          obtain ⟨⟨t329, t330⟩, A170, H⟩ := H
          replace H : ((cluster_Prune.f x9_1 (wrap64 ((wrap64 (3 + (Int.tmod (wrap64 (a0)) 8))) - 1))).bind fun bt331 => (analemmalaw17_ClusterFar.l1 k1 (wrap64 (3 + (Int.tmod (wrap64 (a0)) 8))) (Int.tmod (wrap64 (a1)) (wrap64 (3 + (Int.tmod (wrap64 (a0)) 8)))) t329 t330 bt331.1 true 0)) = some r := H
          have A17 := Aside0.mk A170
          clear A170
          replace H := Option.bind_eq_some_iff.mp H
          obtain ⟨⟨t331, t332⟩, A180, H⟩ := H
          replace H : (analemmalaw17_ClusterFar.l1 k1 (wrap64 (3 + (Int.tmod (wrap64 (a0)) 8))) (Int.tmod (wrap64 (a1)) (wrap64 (3 + (Int.tmod (wrap64 (a0)) 8)))) t329 t330 t331 true 0) = some r := H
          have A18 := Aside0.mk A180
          clear A180
          have H' := Aside0.mk H
          clear H
          obtain ⟨Ao19, co19, eo19⟩ := Kd.R_slice HO_9.out
          subst eo19
          go_wp2_with (first | ((with_reducible refine gate_callee (f := 28) rfl ?_); refine goesL_ (some 47) rfl rfl Try.func28 (by kernel_rfl) rfl #[.slice Ao19 x9_1.length co19] rfl (by (try simp only [List.map_toArray, List.map_cons, List.map_nil]); first | done | rfl | (simp only [List.length_drop, List.length_take]; rfl)) ?_; (with_reducible refine (cluster_Worst.calls _ _ x9_1 t329 t330 _ ?side1 ?side2 A17.out).mono ?_); (case side1 => repeat (first | exact (Kd.R_reads' HO_9.out).2.2 | (with_reducible refine Kd.C_alloc ?_ _) | (with_reducible refine Kd.C_drewN ?_ _) | (with_reducible refine Kd.C_drew ?_))); (case side2 => exact (Kd.R_reads' HO_9.out).2.1); rintro e w20 ⟨rfl, hb⟩; refine ⟨_, rfl, ?_⟩; have n0_ := Aside0.mk (Kd.R_below (by (with_reducible repeat (first | apply Kd.R_alloc | apply Kd.R_drewN | apply Kd.R_drew)); exact HO_9.out) hb); have n1_ := Aside0.mk (below_step (by repeat (first | (with_reducible first | exact HB.out | apply below_alloc | apply pw_below_drewN | apply below_drew1) | exact HB.out)) hb); clear HO_9; clear HB; have HO_9 := n0_; have HB := n1_; clear n0_ n1_; (try clear hb); (try clear hb2); (try clear hk); (try clear hi)) | ((with_reducible refine gate_callee (f := 30) rfl ?_); refine goesL_ (some 54) rfl rfl Try.func30 (by kernel_rfl) rfl #[.slice Ao19 x9_1.length co19, .int .i64 (wrap64 ((wrap64 (3 + (Int.tmod (wrap64 (a0)) 8))) - 1))] rfl (by (try simp only [List.map_toArray, List.map_cons, List.map_nil]); first | done | rfl | (simp only [List.length_drop, List.length_take]; rfl)) ?_; (with_reducible refine (cluster_Prune.calls _ _ x9_1 (wrap64 ((wrap64 (3 + (Int.tmod (wrap64 (a0)) 8))) - 1)) t331 t332 _ ?side1 ?side2 A18.out).mono ?_); (case side1 => repeat (first | exact (Kd.R_reads' HO_9.out).2.2 | (with_reducible refine Kd.C_alloc ?_ _) | (with_reducible refine Kd.C_drewN ?_ _) | (with_reducible refine Kd.C_drew ?_))); (case side2 => exact (Kd.R_reads' HO_9.out).2.1); rintro e w21 ⟨v333, rfl, ho0, hb⟩; refine ⟨_, rfl, ?_⟩; have n0_ := Aside0.mk (Kd.R_below (by (with_reducible repeat (first | apply Kd.R_alloc | apply Kd.R_drewN | apply Kd.R_drew)); exact HO_9.out) hb); have n1_ := Aside0.mk (Kd.R_lower ho0 (below_size (by repeat (first | (with_reducible first | exact HB.out | apply below_alloc | apply pw_below_drewN | apply below_drew1) | exact HB.out)))); have n2_ := Aside0.mk (below_step (by repeat (first | (with_reducible first | exact HB.out | apply below_alloc | apply pw_below_drewN | apply below_drew1) | exact HB.out)) hb); clear HO_9; clear HB; have HO_9 := n0_; have HO334 := n1_; have HB := n2_; clear n0_ n1_ n2_; (try clear hb); (try clear hb2); (try clear hk); (try clear hi); (try clear ho0)))
          go_loopg [16, 17] k1 (fun kq v16 v17 w' => ∃ (x16_2 : Bool) (x17_2 : Int), v16 = .bool x16_2 ∧ v17 = .int .i64 x17_2 ∧ Aside0 (analemmalaw17_ClusterFar.l1 kq (wrap64 (3 + (Int.tmod (wrap64 (a0)) 8))) (Int.tmod (wrap64 (a1)) (wrap64 (3 + (Int.tmod (wrap64 (a0)) 8)))) t329 t330 t331 x16_2 x17_2 = some r) ∧ Aside0 (kq ≤ k1) ∧ Aside0 (Kd.R (Kd.int .i64) 3 w' w.heap.size (fun _ => True) v333 t331) ∧ Aside0 (Below w.heap.size w w'))
          case atStart => exact ⟨(true), (0), (by first | rfl | (simp; done) | (simp [*]; done)), (by first | rfl | (simp; done) | (simp [*]; done)), H', ⟨Nat.le_refl _⟩, ⟨by (with_reducible repeat (first | apply Kd.R_alloc | apply Kd.R_drewN | apply Kd.R_drew)); exact HO334.out⟩, ⟨by repeat (first | (with_reducible first | exact HB.out | apply below_alloc | apply pw_below_drewN | apply below_drew1) | exact HB.out)⟩⟩
          case round =>
            clear H'
            try clear c1
            try clear c2
            try clear p2
            try clear c3
            try clear c4
            try clear c4b0
            try clear c4b1
            try clear p6
            try clear c7
            try clear c7b0
            try clear c8
            try clear c8b0
            try clear c8b1
            try clear c9
            try clear c11
            try clear c13
            try clear hcz11_0
            try clear hcz11_1
            try clear hcz11_2
            try clear hcz15_0
            try clear hcz15_1
            try clear hcz15_2
            try clear hfz11_0
            try clear hfz11_1
            try clear hfz11_2
            try clear hfz15_0
            try clear hfz15_1
            try clear hfz15_2
            try clear p2
            try clear p6
            obtain ⟨x16_2, x17_2, rfl, rfl, HA, HK2, HO_14, HB⟩ := hrel
            cases gk with
            | zero => exact absurd HA.out (by simp [analemmalaw17_ClusterFar.l1])
            | succ k2 =>
              have H := HA.out
              clear HA
              simp only [analemmalaw17_ClusterFar.l1] at H
              by_cases c22 : x17_2 < (t331.length : Int)
              · rw [if_pos c22] at H
                have c22b0 : decide (x17_2 < (t331.length : Int)) = true := decide_eq_true c22
                clear c22
                by_cases c23 : x16_2 = true
                · subst c23
                  have H1 : (if 0 ≤ x17_2 then (analemmalaw17_ClusterFar.l1 k2 (wrap64 (3 + (Int.tmod (wrap64 (a0)) 8))) (Int.tmod (wrap64 (a1)) (wrap64 (3 + (Int.tmod (wrap64 (a0)) 8)))) t329 t330 t331 ((rd t331 x17_2) != (Int.tmod (wrap64 (a1)) (wrap64 (3 + (Int.tmod (wrap64 (a0)) 8))))) (wrap64 (x17_2 + 1))) else (none)) = some r := by rw [if_pos rfl] at H; exact H
                  clear H
                  have H := H1
                  clear H1
                  by_cases c24 : 0 ≤ x17_2
                  · rw [if_pos c24] at H
                    have c24b0 : decide (0 ≤ x17_2) = true := decide_eq_true c24
                    clear c24
                    have H' := Aside0.mk H
                    clear H
                    obtain ⟨Ao25, co25, eo25⟩ := Kd.R_slice HO_14.out
                    subst eo25
                    have p335 : 0 ≤ (x17_2 : Int) := of_decide_eq_true (by first | (with_reducible assumption) | assumption)
                    have q335 : x17_2 < (t331.length : Int) := of_decide_eq_true (by first | (with_reducible assumption) | assumption)
                    obtain ⟨ad335, e335, hx335_0⟩ := Kd.at_int (Kd.R_reads' HO_14.out).2.2 x17_2 p335 q335
                    cases e335
                    replace p335 := eq_true p335
                    replace q335 := eq_true q335
                    go_wp2
                    go_roundg k2
                    case measure => have := HK1.out; have := HK2.out; omega
                    case rel => exact ⟨(((rd t331 x17_2) != (Int.tmod (wrap64 (a1)) (wrap64 (3 + (Int.tmod (wrap64 (a0)) 8)))))), (wrap64 (x17_2 + 1)), (by first | rfl | (simp; done) | (simp [*]; done)), (by first | rfl | (simp; done) | (simp [*]; done)), H', ⟨by have := HK1.out; have := HK2.out; omega⟩, ⟨by (with_reducible repeat (first | apply Kd.R_alloc | apply Kd.R_drewN | apply Kd.R_drew)); exact HO_14.out⟩, ⟨by repeat (first | (with_reducible first | exact HB.out | apply below_alloc | apply pw_below_drewN | apply below_drew1) | exact HB.out)⟩⟩
                  · rw [if_neg c24] at H
                    exact absurd H (by simp)
                · replace c23 := Bool.eq_false_iff.mpr c23
                  subst c23
                  have H1 : (analemmalaw17_ClusterFar.l1 k2 (wrap64 (3 + (Int.tmod (wrap64 (a0)) 8))) (Int.tmod (wrap64 (a1)) (wrap64 (3 + (Int.tmod (wrap64 (a0)) 8)))) t329 t330 t331 false (wrap64 (x17_2 + 1))) = some r := by rw [if_neg (show ¬ (false = true) by decide)] at H; exact H
                  clear H
                  have H := H1
                  clear H1
                  have H' := Aside0.mk H
                  clear H
                  obtain ⟨Ao26, co26, eo26⟩ := Kd.R_slice HO_14.out
                  subst eo26
                  go_wp2
                  go_roundg k2
                  case measure => have := HK1.out; have := HK2.out; omega
                  case rel => exact ⟨(false), (wrap64 (x17_2 + 1)), (by first | rfl | (simp; done) | (simp [*]; done)), (by first | rfl | (simp; done) | (simp [*]; done)), H', ⟨by have := HK1.out; have := HK2.out; omega⟩, ⟨by (with_reducible repeat (first | apply Kd.R_alloc | apply Kd.R_drewN | apply Kd.R_drew)); exact HO_14.out⟩, ⟨by repeat (first | (with_reducible first | exact HB.out | apply below_alloc | apply pw_below_drewN | apply below_drew1) | exact HB.out)⟩⟩
              · rw [if_neg c22] at H
                have c22b0 : decide (x17_2 < (t331.length : Int)) = false := decide_eq_false c22
                clear c22
                by_cases c27 : t329 = (Int.tmod (wrap64 (a1)) (wrap64 (3 + (Int.tmod (wrap64 (a0)) 8))))
                · rw [if_pos c27] at H
                  have c27b0 : (t329 == (Int.tmod (wrap64 (a1)) (wrap64 (3 + (Int.tmod (wrap64 (a0)) 8))))) = true := beq_iff_eq.mpr c27
                  have c27b1 : (t329 != (Int.tmod (wrap64 (a1)) (wrap64 (3 + (Int.tmod (wrap64 (a0)) 8))))) = false := bne_eq_false_iff_eq.mpr c27
                  clear c27
                  by_cases c28 : t330 > 0
                  · rw [if_pos c28] at H
                    have c28b0 : decide (0 < t330) = true := decide_eq_true c28
                    clear c28
                    by_cases c29 : x16_2 = true
                    · subst c29
                      have H1 : (if (t331.length : Int) = (wrap64 ((wrap64 (3 + (Int.tmod (wrap64 (a0)) 8))) - 1)) then ((analemmalaw17_shown.f k2).bind fun t336 => (some t336)) else (some false)) = some r := by rw [if_pos rfl] at H; exact H
                      clear H
                      have H := H1
                      clear H1
                      by_cases c30 : (t331.length : Int) = (wrap64 ((wrap64 (3 + (Int.tmod (wrap64 (a0)) 8))) - 1))
                      · rw [if_pos c30] at H
                        have c30b0 : ((t331.length : Int) == (wrap64 ((wrap64 (3 + (Int.tmod (wrap64 (a0)) 8))) - 1))) = true := beq_iff_eq.mpr c30
                        have c30b1 : ((t331.length : Int) != (wrap64 ((wrap64 (3 + (Int.tmod (wrap64 (a0)) 8))) - 1))) = false := bne_eq_false_iff_eq.mpr c30
                        clear c30
                        replace H := Option.bind_eq_some_iff.mp H
                        obtain ⟨t336, A310, H⟩ := H
                        replace H : (some t336) = some r := H
                        have A31 := Aside0.mk A310
                        clear A310
                        obtain rfl := Option.some.inj H
                        obtain ⟨Ao32, co32, eo32⟩ := Kd.R_slice HO_14.out
                        subst eo32
                        go_wp2_with (first | (go_at_call 26; (with_reducible refine (analemmalaw17_shown.calls k2  t336 _ A31.out).mono ?_); rintro e w33 ⟨rfl, hb⟩; have n0_ := Aside0.mk (Kd.R_below (by (with_reducible repeat (first | apply Kd.R_alloc | apply Kd.R_drewN | apply Kd.R_drew)); exact HO_14.out) hb); have n1_ := Aside0.mk (below_step (by repeat (first | (with_reducible first | exact HB.out | apply below_alloc | apply pw_below_drewN | apply below_drew1) | exact HB.out)) hb); clear HO_14; clear HB; have HO_14 := n0_; have HB := n1_; clear n0_ n1_; (try clear hb); (try clear hb2); (try clear hk); (try clear hi)))
                        go_ret
                        exact ⟨by first | rfl | (simp [errW_none, errW_some] <;> rfl) | (simp [*, errW_none, errW_some] <;> rfl), by repeat (first | (with_reducible first | exact HB.out | apply below_alloc | apply pw_below_drewN | apply below_drew1) | exact HB.out)⟩
                      · rw [if_neg c30] at H
                        have c30b0 : ((t331.length : Int) == (wrap64 ((wrap64 (3 + (Int.tmod (wrap64 (a0)) 8))) - 1))) = false := beq_eq_false_iff_ne.mpr c30
                        have c30b1 : ((t331.length : Int) != (wrap64 ((wrap64 (3 + (Int.tmod (wrap64 (a0)) 8))) - 1))) = true := bne_iff_ne.mpr c30
                        first | exact absurd ((Option.some.inj H).trans hr.out) Bool.false_ne_true | skip
                        all_goals (obtain rfl := Option.some.inj H)
                        all_goals (obtain ⟨Ao34, co34, eo34⟩ := Kd.R_slice HO_14.out)
                        all_goals (subst eo34)
                        all_goals (go_wp2)
                        all_goals (go_ret)
                        all_goals (exact ⟨by first | rfl | (simp [errW_none, errW_some] <;> rfl) | (simp [*, errW_none, errW_some] <;> rfl), by repeat (first | (with_reducible first | exact HB.out | apply below_alloc | apply pw_below_drewN | apply below_drew1) | exact HB.out)⟩)
                    · replace c29 := Bool.eq_false_iff.mpr c29
                      subst c29
                      have H1 : (some false) = some r := by rw [if_neg (show ¬ (false = true) by decide)] at H; exact H
                      clear H
                      have H := H1
                      clear H1
                      first | exact absurd ((Option.some.inj H).trans hr.out) Bool.false_ne_true | skip
                      all_goals (obtain rfl := Option.some.inj H)
                      all_goals (obtain ⟨Ao35, co35, eo35⟩ := Kd.R_slice HO_14.out)
                      all_goals (subst eo35)
                      all_goals (go_wp2)
                      all_goals (go_ret)
                      all_goals (exact ⟨by first | rfl | (simp [errW_none, errW_some] <;> rfl) | (simp [*, errW_none, errW_some] <;> rfl), by repeat (first | (with_reducible first | exact HB.out | apply below_alloc | apply pw_below_drewN | apply below_drew1) | exact HB.out)⟩)
                  · rw [if_neg c28] at H
                    have c28b0 : decide (0 < t330) = false := decide_eq_false c28
                    clear c28
                    first | exact absurd ((Option.some.inj H).trans hr.out) Bool.false_ne_true | skip
                    all_goals (obtain rfl := Option.some.inj H)
                    all_goals (obtain ⟨Ao36, co36, eo36⟩ := Kd.R_slice HO_14.out)
                    all_goals (subst eo36)
                    all_goals (go_wp2)
                    all_goals (go_ret)
                    all_goals (exact ⟨by first | rfl | (simp [errW_none, errW_some] <;> rfl) | (simp [*, errW_none, errW_some] <;> rfl), by repeat (first | (with_reducible first | exact HB.out | apply below_alloc | apply pw_below_drewN | apply below_drew1) | exact HB.out)⟩)
                · rw [if_neg c27] at H
                  have c27b0 : (t329 == (Int.tmod (wrap64 (a1)) (wrap64 (3 + (Int.tmod (wrap64 (a0)) 8))))) = false := beq_eq_false_iff_ne.mpr c27
                  have c27b1 : (t329 != (Int.tmod (wrap64 (a1)) (wrap64 (3 + (Int.tmod (wrap64 (a0)) 8))))) = true := bne_iff_ne.mpr c27
                  first | exact absurd ((Option.some.inj H).trans hr.out) Bool.false_ne_true | skip
                  all_goals (obtain rfl := Option.some.inj H)
                  all_goals (obtain ⟨Ao37, co37, eo37⟩ := Kd.R_slice HO_14.out)
                  all_goals (subst eo37)
                  all_goals (go_wp2)
                  all_goals (go_ret)
                  all_goals (exact ⟨by first | rfl | (simp [errW_none, errW_some] <;> rfl) | (simp [*, errW_none, errW_some] <;> rfl), by repeat (first | (with_reducible first | exact HB.out | apply below_alloc | apply pw_below_drewN | apply below_drew1) | exact HB.out)⟩)

/-- THE ONE PURE STATEMENT of analemmalaw17_ClusterFar: yours. -/
def analemmalaw17_ClusterFar.Pure : Prop := ∀ (a0 : Int) (a1 : Int) (a2 : Int), (Lit.int .u8 a0).wf = true → (Lit.int .u8 a1).wf = true → (Lit.int .u32 a2).wf = true → ∃ k, analemmalaw17_ClusterFar.f k a0 a1 a2 = some true
theorem analemmalaw17_ClusterFar.walk (P : analemmalaw17_ClusterFar.Pure) (a0 : Int) (a1 : Int) (a2 : Int) (w : World) (w0 : (Lit.int .u8 a0).wf = true) (w1 : (Lit.int .u8 a1).wf = true) (w2 : (Lit.int .u32 a2).wf = true) :
    Calls Try.prog 11 #[.int .u8 a0, .int .u8 a1, .int .u32 a2] w fun e w' => e = .returned (.bool true) ∧ Below w.heap.size w w' := by
  obtain ⟨k, h⟩ := P a0 a1 a2 w0 w1 w2
  refine (analemmalaw17_ClusterFar.calls k a0 a1 a2 true w h (Aside0.mk rfl)).mono ?_
  rintro e w' ⟨rfl, hd⟩
  exact ⟨rfl, hd⟩

end Go.Proofs.Ytoddgpaopejeoaa.MClu
