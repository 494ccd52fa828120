/- Functions that the statements of this seat reach, each as a plain Lean function, with a proof that the Go code comes to its answers; no condition. -/
import Derived.Test.YtilbkdlbbnkgdaaMHeaderx0
import Derived.Test.YtilbkdlbbnkgdaaMHeaderx1
import Derived.Test.YtilbkdlbbnkgdaaMHeaderx2
import Derived.Test.YtilbkdlbbnkgdaaMHeaderx4
import Derived.Test.YtilbkdlbbnkgdaaMHeaderx5
import Derived.Test.YtilbkdlbbnkgdaaMHeaderx8
namespace Go.Proofs.Ytilbkdlbbnkgdaa.MHeader
open Go.RowKit Go.Proofs.YtilbkdlbbnkgdaaW.PrintWords Go.Proofs.YtilbkdlbbnkgdaaW.PrintLast Go.Proofs.YtilbkdlbbnkgdaaW.PrintMore
attribute [local go_sem] max2_int min2_int max_two min_two max_three min_three max_four min_four   -- for this text's walks alone
set_option linter.unusedVariables false
set_option linter.unusedSimpArgs false

attribute [local go_sem high] eqA42
/-! ### analemmalaw05_HeaderDecodes: function 10 -/
mutual
def analemmalaw05_HeaderDecodes.j0 : Nat → ByteArray → Bool → Option (Bool)
  | 0, _, _ => none
  | k + 1, x0, x17 => if x17 = true then ((analemmalaw05_shown.f k).bind fun t189 => (some t189)) else ((header_Decode.f x0).bind fun bt190 => ((analemmaref05_Decode.f k x0).bind fun bt206 => (if (!(bt190.1 == bt206.1) || (!(bt190.2.1 == bt206.2.1) || (!(bt190.2.2.1 == bt206.2.2.1) || (!(bt190.2.2.2.1 == bt206.2.2.2.1) || (!(bt190.2.2.2.2.1 == bt206.2.2.2.2.1) || (!(bt190.2.2.2.2.2.1 == bt206.2.2.2.2.2.1) || (!(bt190.2.2.2.2.2.2.1 == bt206.2.2.2.2.2.2.1) || (!(bt190.2.2.2.2.2.2.2.1 == bt206.2.2.2.2.2.2.2.1) || (!(bt190.2.2.2.2.2.2.2.2.1 == bt206.2.2.2.2.2.2.2.2.1) || (!(bt190.2.2.2.2.2.2.2.2.2.1 == bt206.2.2.2.2.2.2.2.2.2.1) || (!(bt190.2.2.2.2.2.2.2.2.2.2.1 == bt206.2.2.2.2.2.2.2.2.2.2.1) || (!(bt190.2.2.2.2.2.2.2.2.2.2.2.1 == bt206.2.2.2.2.2.2.2.2.2.2.2.1) || (!(bt190.2.2.2.2.2.2.2.2.2.2.2.2.1 == bt206.2.2.2.2.2.2.2.2.2.2.2.2.1)))))))))))))) = true then (analemmalaw05_HeaderDecodes.j1 k x0 bt190.2.2.2.2.2.2.2.2.2.2.2.2.2.1 bt190.2.2.2.2.2.2.2.2.2.2.2.2.2.2 true bt190.1 bt190.2.1 bt190.2.2.1 bt190.2.2.2.1 bt190.2.2.2.2.1 bt190.2.2.2.2.2.1 bt190.2.2.2.2.2.2.1 bt190.2.2.2.2.2.2.2.1 bt190.2.2.2.2.2.2.2.2.1 bt190.2.2.2.2.2.2.2.2.2.1 bt190.2.2.2.2.2.2.2.2.2.2.1 bt190.2.2.2.2.2.2.2.2.2.2.2.1 bt190.2.2.2.2.2.2.2.2.2.2.2.2.1) else (if bt190.2.2.2.2.2.2.2.2.2.2.2.2.2.1.toList = bt206.2.2.2.2.2.2.2.2.2.2.2.2.2.1.toList then (analemmalaw05_HeaderDecodes.j1 k x0 bt190.2.2.2.2.2.2.2.2.2.2.2.2.2.1 bt190.2.2.2.2.2.2.2.2.2.2.2.2.2.2 (bt190.2.2.2.2.2.2.2.2.2.2.2.2.2.2 != bt206.2.2.2.2.2.2.2.2.2.2.2.2.2.2) bt190.1 bt190.2.1 bt190.2.2.1 bt190.2.2.2.1 bt190.2.2.2.2.1 bt190.2.2.2.2.2.1 bt190.2.2.2.2.2.2.1 bt190.2.2.2.2.2.2.2.1 bt190.2.2.2.2.2.2.2.2.1 bt190.2.2.2.2.2.2.2.2.2.1 bt190.2.2.2.2.2.2.2.2.2.2.1 bt190.2.2.2.2.2.2.2.2.2.2.2.1 bt190.2.2.2.2.2.2.2.2.2.2.2.2.1) else (analemmalaw05_HeaderDecodes.j1 k x0 bt190.2.2.2.2.2.2.2.2.2.2.2.2.2.1 bt190.2.2.2.2.2.2.2.2.2.2.2.2.2.2 true bt190.1 bt190.2.1 bt190.2.2.1 bt190.2.2.2.1 bt190.2.2.2.2.1 bt190.2.2.2.2.2.1 bt190.2.2.2.2.2.2.1 bt190.2.2.2.2.2.2.2.1 bt190.2.2.2.2.2.2.2.2.1 bt190.2.2.2.2.2.2.2.2.2.1 bt190.2.2.2.2.2.2.2.2.2.2.1 bt190.2.2.2.2.2.2.2.2.2.2.2.1 bt190.2.2.2.2.2.2.2.2.2.2.2.2.1)))))
def analemmalaw05_HeaderDecodes.j1 : Nat → ByteArray → ByteArray → Int → Bool → Int → Int → Int → Int → Int → Int → Int → Int → Int → Int → Int → Int → Int → Option (Bool)
  | 0, _, _, _, _, _, _, _, _, _, _, _, _, _, _, _, _, _ => none
  | k + 1, x0, x4, x5, x43, x206000, x206001, x206002, x206003, x206004, x206005, x206006, x206007, x206008, x206009, x206010, x206011, x206012 => if x43 = true then (some false) else (if x5 = 0 then ((header_Encode.f k x206000 x206001 x206002 x206003 x206004 x206005 x206006 x206007 x206008 x206009 x206010 x206011 x206012).bind fun bt222 => (if bt222.2 = 0 then (if bt222.1.size + x4.size ≤ 9223372036854775807 then (if (bt222.1 ++ x4).toList = x0.toList then ((header_May.f x206000 x206001 x206002 x206003 x206004 x206005 x206006 x206007 x206008 x206009 x206010 x206011 x206012).bind fun t224 => (some t224)) else (some false)) else (none)) else (some false))) else (some (x4.toList == ([] : List UInt8))))
end
def analemmalaw05_HeaderDecodes.f (k : Nat) (a0 : ByteArray) : Option (Bool) := if (a0.size : Int) > 2048 then (analemmalaw05_HeaderDecodes.j0 k a0 true) else ((analemmalaw05_shown.f k).bind fun t188 => (analemmalaw05_HeaderDecodes.j0 k a0 (!t188)))
theorem analemmalaw05_HeaderDecodes.mono_l : ∀ k, (∀ y0 y1, LeO (analemmalaw05_HeaderDecodes.j0 k y0 y1) (analemmalaw05_HeaderDecodes.j0 (k + 1) y0 y1)) ∧ (∀ y0 y1 y2 y3 y4 y5 y6 y7 y8 y9 y10 y11 y12 y13 y14 y15 y16, LeO (analemmalaw05_HeaderDecodes.j1 k y0 y1 y2 y3 y4 y5 y6 y7 y8 y9 y10 y11 y12 y13 y14 y15 y16) (analemmalaw05_HeaderDecodes.j1 (k + 1) y0 y1 y2 y3 y4 y5 y6 y7 y8 y9 y10 y11 y12 y13 y14 y15 y16))
  | 0 => ⟨fun _ _ r h => by simp [analemmalaw05_HeaderDecodes.j0] at h, fun _ _ _ _ _ _ _ _ _ _ _ _ _ _ _ _ _ r h => by simp [analemmalaw05_HeaderDecodes.j1] at h⟩
  | k + 1 => by
    obtain ⟨ih0, ih1⟩ := analemmalaw05_HeaderDecodes.mono_l k
    refine ⟨?_, ?_⟩
    · intro y0 y1
      unfold analemmalaw05_HeaderDecodes.j0
      repeat' first
      | (with_reducible exact ih0 _ _)
      | (with_reducible exact ih1 _ _ _ _ _ _ _ _ _ _ _ _ _ _ _ _ _)
      | (with_reducible exact analemmalaw05_shown.mono _)
      | (with_reducible exact analemmaref05_Decode.mono _ _)
      | (with_reducible exact header_Encode.mono _ _ _ _ _ _ _ _ _ _ _ _ _ _)
      | (with_reducible exact LeO.refl _)
      | (with_reducible exact LeO.none _)
      | (with_reducible refine LeO.ite ?_ ?_)
      | (with_reducible refine LeO.bind ?_ (fun _ => ?_))
      | exact ih0 _ _
      | exact ih1 _ _ _ _ _ _ _ _ _ _ _ _ _ _ _ _ _
      | exact analemmalaw05_shown.mono _
      | exact analemmaref05_Decode.mono _ _
      | exact header_Encode.mono _ _ _ _ _ _ _ _ _ _ _ _ _ _
      | exact LeO.none _
      | refine LeO.ite ?_ ?_
      | refine LeO.bind ?_ (fun _ => ?_)
    · intro y0 y1 y2 y3 y4 y5 y6 y7 y8 y9 y10 y11 y12 y13 y14 y15 y16
      unfold analemmalaw05_HeaderDecodes.j1
      repeat' first
      | (with_reducible exact ih0 _ _)
      | (with_reducible exact ih1 _ _ _ _ _ _ _ _ _ _ _ _ _ _ _ _ _)
      | (with_reducible exact analemmalaw05_shown.mono _)
      | (with_reducible exact analemmaref05_Decode.mono _ _)
      | (with_reducible exact header_Encode.mono _ _ _ _ _ _ _ _ _ _ _ _ _ _)
      | (with_reducible exact LeO.refl _)
      | (with_reducible exact LeO.none _)
      | (with_reducible refine LeO.ite ?_ ?_)
      | (with_reducible refine LeO.bind ?_ (fun _ => ?_))
      | exact ih0 _ _
      | exact ih1 _ _ _ _ _ _ _ _ _ _ _ _ _ _ _ _ _
      | exact analemmalaw05_shown.mono _
      | exact analemmaref05_Decode.mono _ _
      | exact header_Encode.mono _ _ _ _ _ _ _ _ _ _ _ _ _ _
      | exact LeO.none _
      | refine LeO.ite ?_ ?_
      | refine LeO.bind ?_ (fun _ => ?_)
theorem analemmalaw05_HeaderDecodes.mono : ∀ a0 k, LeO (analemmalaw05_HeaderDecodes.f k a0) (analemmalaw05_HeaderDecodes.f (k + 1) a0) := by
  intro a0 k
  obtain ⟨ih0, ih1⟩ := analemmalaw05_HeaderDecodes.mono_l k
  unfold analemmalaw05_HeaderDecodes.f
  repeat' first
      | (with_reducible exact ih0 _ _)
      | (with_reducible exact ih1 _ _ _ _ _ _ _ _ _ _ _ _ _ _ _ _ _)
      | (with_reducible exact analemmalaw05_shown.mono _)
      | (with_reducible exact analemmaref05_Decode.mono _ _)
      | (with_reducible exact header_Encode.mono _ _ _ _ _ _ _ _ _ _ _ _ _ _)
      | (with_reducible exact LeO.refl _)
      | (with_reducible exact LeO.none _)
      | (with_reducible refine LeO.ite ?_ ?_)
      | (with_reducible refine LeO.bind ?_ (fun _ => ?_))
      | exact ih0 _ _
      | exact ih1 _ _ _ _ _ _ _ _ _ _ _ _ _ _ _ _ _
      | exact analemmalaw05_shown.mono _
      | exact analemmaref05_Decode.mono _ _
      | exact header_Encode.mono _ _ _ _ _ _ _ _ _ _ _ _ _ _
      | exact LeO.none _
      | refine LeO.ite ?_ ?_
      | refine LeO.bind ?_ (fun _ => ?_)
set_option maxHeartbeats 8000000 in
set_option maxRecDepth 100000 in
theorem analemmalaw05_HeaderDecodes.calls (k : Nat) (a0 : ByteArray) (r : Bool) (w : World) (h : analemmalaw05_HeaderDecodes.f k a0 = some r) (hr : Aside0 (r = true)) :
    Calls Try.prog 10 #[.string a0] w fun e w' => e = .returned (.bool r) ∧ Below w.heap.size w w' := by
  have hu42 := Try.underlying42
  have HB := Aside0.mk (Below.refl w.heap.size w)
  have H : (if (a0.size : Int) > 2048 then (analemmalaw05_HeaderDecodes.j0 k a0 true) else ((analemmalaw05_shown.f k).bind fun t188 => (analemmalaw05_HeaderDecodes.j0 k a0 (!t188)))) = some r := h
  clear h
  have HC2 := Aside0.mk H
  clear H
  go_enter Try.func10, Try.ntmps10
  go_upto_region 1 with (fail)
  go_cut [17] (fun v17 wc => ∃ (kq : Nat) (x17_1 : Bool), v17 = .bool x17_1 ∧ Aside0 (analemmalaw05_HeaderDecodes.j0 kq a0 x17_1 = some r) ∧ Aside0 (kq ≤ k) ∧ Aside0 (Below w.heap.size w wc))
  case first =>
    have H := HC2.out
    clear HC2
    by_cases c3 : (a0.size : Int) > 2048
    · rw [if_pos c3] at H
      have c3b0 : decide (2048 < (a0.size : Int)) = true := decide_eq_true c3
      have c3b1 : decide (2048 < a0.size) = true := decide_eq_true (by omega)
      clear c3
      (first | rw [c3b0] | (simp only [i64_w, i32_w]; rw [c3b0]) | skip)
      have H' := Aside0.mk H
      clear H
      go_wp2
      go_meet
      case rel => exact ⟨_, (true), (by first | rfl | (simp; done) | (simp [*]; done)), H', ⟨by first | omega | exact Nat.le_refl _⟩, ⟨by repeat (first | (with_reducible first | exact HB.out | apply below_alloc | apply pw_below_drewN | apply below_drew1) | exact HB.out)⟩⟩
    · rw [if_neg c3] at H
      have c3b0 : decide (2048 < (a0.size : Int)) = false := decide_eq_false c3
      have c3b1 : decide (2048 < a0.size) = false := decide_eq_false (by omega)
      clear c3
      (first | rw [c3b0] | (simp only [i64_w, i32_w]; rw [c3b0]) | skip)
      replace H := Option.bind_eq_some_iff.mp H
      obtain ⟨t188, A40, H⟩ := H
      replace H : (analemmalaw05_HeaderDecodes.j0 k a0 (!t188)) = some r := H
      have A4 := Aside0.mk A40
      clear A40
      have H' := Aside0.mk H
      clear H
      go_wp2_with (first | (go_at_call 33; (with_reducible refine (analemmalaw05_shown.calls k  t188 _ A4.out).mono ?_); rintro e w5 ⟨rfl, hb⟩; have n0_ := Aside0.mk (below_step (by repeat (first | (with_reducible first | exact HB.out | apply below_alloc | apply pw_below_drewN | apply below_drew1) | exact HB.out)) hb); clear HB; have HB := n0_; clear n0_; (try clear hb); (try clear hb2); (try clear hk); (try clear hi)))
      go_meet
      case rel => exact ⟨_, (!t188), (by first | rfl | (simp; done) | (simp [*]; done)), H', ⟨by first | omega | exact Nat.le_refl _⟩, ⟨by repeat (first | (with_reducible first | exact HB.out | apply below_alloc | apply pw_below_drewN | apply below_drew1) | exact HB.out)⟩⟩
  case rest =>
    clear HC2
    try clear c1
    try clear p2
    try clear c3
    try clear c3b0
    try clear c3b1
    obtain ⟨kq, x17_1, rfl, HA, HJ1, HB⟩ := hcut
    cases kq with
    | zero => exact absurd HA.out (by simp [analemmalaw05_HeaderDecodes.j0])
    | succ kj1 =>
      have H := HA.out
      clear HA
      simp only [analemmalaw05_HeaderDecodes.j0] at H
      by_cases c6 : x17_1 = true
      · subst c6
        have H1 : ((analemmalaw05_shown.f kj1).bind fun t189 => (some t189)) = some r := by rw [if_pos rfl] at H; exact H
        clear H
        have H := H1
        clear H1
        replace H := Option.bind_eq_some_iff.mp H
        obtain ⟨t189, A70, H⟩ := H
        replace H : (some t189) = some r := H
        have A7 := Aside0.mk A70
        clear A70
        first | exact absurd ((Option.some.inj H).trans hr.out) Bool.false_ne_true | skip
        all_goals (obtain rfl := Option.some.inj H)
        all_goals (go_wp2_with (first | ((with_reducible refine gate_callee (f := 33) rfl ?_); refine goesL_ (some 18) rfl rfl Try.func33 (by kernel_rfl) rfl #[] rfl (by (try simp only [List.map_toArray, List.map_cons, List.map_nil]); first | done | rfl | (simp only [List.length_drop, List.length_take]; rfl)) ?_; (with_reducible refine (analemmalaw05_shown.calls kj1  t189 _ A7.out).mono ?_); rintro e w8 ⟨rfl, hb⟩; refine ⟨_, rfl, ?_⟩; have n0_ := Aside0.mk (below_step (by repeat (first | (with_reducible first | exact HB.out | apply below_alloc | apply pw_below_drewN | apply below_drew1) | exact HB.out)) hb); clear HB; have HB := n0_; clear n0_; (try clear hb); (try clear hb2); (try clear hk); (try clear hi))))
        all_goals (go_ret)
        all_goals (exact ⟨by first | rfl | (simp [errW_none, errW_some] <;> rfl) | (simp [*, errW_none, errW_some] <;> rfl), by repeat (first | (with_reducible first | exact HB.out | apply below_alloc | apply pw_below_drewN | apply below_drew1) | exact HB.out)⟩)
      · replace c6 := Bool.eq_false_iff.mpr c6
        subst c6
        have H1 : ((header_Decode.f a0).bind fun bt190 => ((analemmaref05_Decode.f kj1 a0).bind fun bt206 => (if (!(bt190.1 == bt206.1) || (!(bt190.2.1 == bt206.2.1) || (!(bt190.2.2.1 == bt206.2.2.1) || (!(bt190.2.2.2.1 == bt206.2.2.2.1) || (!(bt190.2.2.2.2.1 == bt206.2.2.2.2.1) || (!(bt190.2.2.2.2.2.1 == bt206.2.2.2.2.2.1) || (!(bt190.2.2.2.2.2.2.1 == bt206.2.2.2.2.2.2.1) || (!(bt190.2.2.2.2.2.2.2.1 == bt206.2.2.2.2.2.2.2.1) || (!(bt190.2.2.2.2.2.2.2.2.1 == bt206.2.2.2.2.2.2.2.2.1) || (!(bt190.2.2.2.2.2.2.2.2.2.1 == bt206.2.2.2.2.2.2.2.2.2.1) || (!(bt190.2.2.2.2.2.2.2.2.2.2.1 == bt206.2.2.2.2.2.2.2.2.2.2.1) || (!(bt190.2.2.2.2.2.2.2.2.2.2.2.1 == bt206.2.2.2.2.2.2.2.2.2.2.2.1) || (!(bt190.2.2.2.2.2.2.2.2.2.2.2.2.1 == bt206.2.2.2.2.2.2.2.2.2.2.2.2.1)))))))))))))) = true then (analemmalaw05_HeaderDecodes.j1 kj1 a0 bt190.2.2.2.2.2.2.2.2.2.2.2.2.2.1 bt190.2.2.2.2.2.2.2.2.2.2.2.2.2.2 true bt190.1 bt190.2.1 bt190.2.2.1 bt190.2.2.2.1 bt190.2.2.2.2.1 bt190.2.2.2.2.2.1 bt190.2.2.2.2.2.2.1 bt190.2.2.2.2.2.2.2.1 bt190.2.2.2.2.2.2.2.2.1 bt190.2.2.2.2.2.2.2.2.2.1 bt190.2.2.2.2.2.2.2.2.2.2.1 bt190.2.2.2.2.2.2.2.2.2.2.2.1 bt190.2.2.2.2.2.2.2.2.2.2.2.2.1) else (if bt190.2.2.2.2.2.2.2.2.2.2.2.2.2.1.toList = bt206.2.2.2.2.2.2.2.2.2.2.2.2.2.1.toList then (analemmalaw05_HeaderDecodes.j1 kj1 a0 bt190.2.2.2.2.2.2.2.2.2.2.2.2.2.1 bt190.2.2.2.2.2.2.2.2.2.2.2.2.2.2 (bt190.2.2.2.2.2.2.2.2.2.2.2.2.2.2 != bt206.2.2.2.2.2.2.2.2.2.2.2.2.2.2) bt190.1 bt190.2.1 bt190.2.2.1 bt190.2.2.2.1 bt190.2.2.2.2.1 bt190.2.2.2.2.2.1 bt190.2.2.2.2.2.2.1 bt190.2.2.2.2.2.2.2.1 bt190.2.2.2.2.2.2.2.2.1 bt190.2.2.2.2.2.2.2.2.2.1 bt190.2.2.2.2.2.2.2.2.2.2.1 bt190.2.2.2.2.2.2.2.2.2.2.2.1 bt190.2.2.2.2.2.2.2.2.2.2.2.2.1) else (analemmalaw05_HeaderDecodes.j1 kj1 a0 bt190.2.2.2.2.2.2.2.2.2.2.2.2.2.1 bt190.2.2.2.2.2.2.2.2.2.2.2.2.2.2 true bt190.1 bt190.2.1 bt190.2.2.1 bt190.2.2.2.1 bt190.2.2.2.2.1 bt190.2.2.2.2.2.1 bt190.2.2.2.2.2.2.1 bt190.2.2.2.2.2.2.2.1 bt190.2.2.2.2.2.2.2.2.1 bt190.2.2.2.2.2.2.2.2.2.1 bt190.2.2.2.2.2.2.2.2.2.2.1 bt190.2.2.2.2.2.2.2.2.2.2.2.1 bt190.2.2.2.2.2.2.2.2.2.2.2.2.1))))) = some r := by rw [if_neg (show ¬ (false = true) by decide)] at H; exact H
        clear H
        have H := H1
        clear H1
        replace H := Option.bind_eq_some_iff.mp H
        obtain ⟨⟨t190, t191, t192, t193, t194, t195, t196, t197, t198, t199, t200, t201, t202, t203, t204⟩, A90, H⟩ := H
        replace H : ((analemmaref05_Decode.f kj1 a0).bind fun bt206 => (if (!(t190 == bt206.1) || (!(t191 == bt206.2.1) || (!(t192 == bt206.2.2.1) || (!(t193 == bt206.2.2.2.1) || (!(t194 == bt206.2.2.2.2.1) || (!(t195 == bt206.2.2.2.2.2.1) || (!(t196 == bt206.2.2.2.2.2.2.1) || (!(t197 == bt206.2.2.2.2.2.2.2.1) || (!(t198 == bt206.2.2.2.2.2.2.2.2.1) || (!(t199 == bt206.2.2.2.2.2.2.2.2.2.1) || (!(t200 == bt206.2.2.2.2.2.2.2.2.2.2.1) || (!(t201 == bt206.2.2.2.2.2.2.2.2.2.2.2.1) || (!(t202 == bt206.2.2.2.2.2.2.2.2.2.2.2.2.1)))))))))))))) = true then (analemmalaw05_HeaderDecodes.j1 kj1 a0 t203 t204 true t190 t191 t192 t193 t194 t195 t196 t197 t198 t199 t200 t201 t202) else (if t203.toList = bt206.2.2.2.2.2.2.2.2.2.2.2.2.2.1.toList then (analemmalaw05_HeaderDecodes.j1 kj1 a0 t203 t204 (t204 != bt206.2.2.2.2.2.2.2.2.2.2.2.2.2.2) t190 t191 t192 t193 t194 t195 t196 t197 t198 t199 t200 t201 t202) else (analemmalaw05_HeaderDecodes.j1 kj1 a0 t203 t204 true t190 t191 t192 t193 t194 t195 t196 t197 t198 t199 t200 t201 t202)))) = some r := H
        have A9 := Aside0.mk A90
        clear A90
        replace H := Option.bind_eq_some_iff.mp H
        obtain ⟨⟨t206, t207, t208, t209, t210, t211, t212, t213, t214, t215, t216, t217, t218, t219, t220⟩, A100, H⟩ := H
        replace H : (if (!(t190 == t206) || (!(t191 == t207) || (!(t192 == t208) || (!(t193 == t209) || (!(t194 == t210) || (!(t195 == t211) || (!(t196 == t212) || (!(t197 == t213) || (!(t198 == t214) || (!(t199 == t215) || (!(t200 == t216) || (!(t201 == t217) || (!(t202 == t218)))))))))))))) = true then (analemmalaw05_HeaderDecodes.j1 kj1 a0 t203 t204 true t190 t191 t192 t193 t194 t195 t196 t197 t198 t199 t200 t201 t202) else (if t203.toList = t219.toList then (analemmalaw05_HeaderDecodes.j1 kj1 a0 t203 t204 (t204 != t220) t190 t191 t192 t193 t194 t195 t196 t197 t198 t199 t200 t201 t202) else (analemmalaw05_HeaderDecodes.j1 kj1 a0 t203 t204 true t190 t191 t192 t193 t194 t195 t196 t197 t198 t199 t200 t201 t202))) = some r := H
        have A10 := Aside0.mk A100
        clear A100
        have HC11 := Aside0.mk H
        clear H
        go_upto_region 5 with (first | ((with_reducible refine gate_callee (f := 34) rfl ?_); refine goesL_ (some 21) rfl rfl Try.func34 (by kernel_rfl) rfl #[.string a0] rfl (by (try simp only [List.map_toArray, List.map_cons, List.map_nil]); first | done | rfl | (simp only [List.length_drop, List.length_take]; rfl)) ?_; (with_reducible refine (header_Decode.calls a0 t190 t191 t192 t193 t194 t195 t196 t197 t198 t199 t200 t201 t202 t203 t204 _ A9.out).mono ?_); rintro e w12 ⟨rfl, hb⟩; refine ⟨_, rfl, ?_⟩; have n0_ := Aside0.mk (below_step (by repeat (first | (with_reducible first | exact HB.out | apply below_alloc | apply pw_below_drewN | apply below_drew1) | exact HB.out)) hb); clear HB; have HB := n0_; clear n0_; (try clear hb); (try clear hb2); (try clear hk); (try clear hi)) | ((with_reducible refine gate_dst (N := 3) rfl ?_); refine box_event ?hg (N := 3) ?hd (cs := #[.int .i64 0, .int .i64 0, .int .i64 0, .int .i64 0, .int .i64 0, .int .i64 0, .int .u32 0, .int .u32 0, .int .u32 0, .int .u64 0, .int .u64 0, .int .u64 0, .int .u64 0]) (t := 42) ?hr ?_; (case hd => rfl); (case hg => rfl); (case hr => first | (go_simp; done) | (go_simp; rfl)); intro gb205 hg w13 hbox hb; have n0_ := Aside0.mk (below_step (by repeat (first | (with_reducible first | exact HB.out | apply below_alloc | apply pw_below_drewN | apply below_drew1) | exact HB.out)) hb); have n1_ := Aside0.mk (hbox); have n2_ := Aside0.mk ((by rw [hg]; exact (below_size (by repeat (first | (with_reducible first | exact HB.out | apply below_alloc | apply pw_below_drewN | apply below_drew1) | exact HB.out))) : w.heap.size ≤ gb205)); have n3_ := Aside0.mk ((by rw [hg]; exact (below_size (by repeat (first | (with_reducible first | exact HB.out | apply below_alloc | apply pw_below_drewN | apply below_drew1) | exact HB.out))) : w.heap.size ≤ gb205)); clear HB; have HB := n0_; have BK205 := n1_; have GW205 := n2_; have GE205 := n3_; clear n0_ n1_ n2_ n3_; clear hb hbox hg; have hcz14_0 : w13.cell? ⟨gb205, 0, none⟩ = some (.int .i64 0) := (blk_cell BK205.out 0).trans rfl; have hcz14_1 : w13.cell? ⟨gb205, 1, none⟩ = some (.int .i64 0) := (blk_cell BK205.out 1).trans rfl; have hcz14_2 : w13.cell? ⟨gb205, 2, none⟩ = some (.int .i64 0) := (blk_cell BK205.out 2).trans rfl; have hcz14_3 : w13.cell? ⟨gb205, 3, none⟩ = some (.int .i64 0) := (blk_cell BK205.out 3).trans rfl; have hcz14_4 : w13.cell? ⟨gb205, 4, none⟩ = some (.int .i64 0) := (blk_cell BK205.out 4).trans rfl; have hcz14_5 : w13.cell? ⟨gb205, 5, none⟩ = some (.int .i64 0) := (blk_cell BK205.out 5).trans rfl; have hcz14_6 : w13.cell? ⟨gb205, 6, none⟩ = some (.int .u32 0) := (blk_cell BK205.out 6).trans rfl; have hcz14_7 : w13.cell? ⟨gb205, 7, none⟩ = some (.int .u32 0) := (blk_cell BK205.out 7).trans rfl; have hcz14_8 : w13.cell? ⟨gb205, 8, none⟩ = some (.int .u32 0) := (blk_cell BK205.out 8).trans rfl; have hcz14_9 : w13.cell? ⟨gb205, 9, none⟩ = some (.int .u64 0) := (blk_cell BK205.out 9).trans rfl; have hcz14_10 : w13.cell? ⟨gb205, 10, none⟩ = some (.int .u64 0) := (blk_cell BK205.out 10).trans rfl; have hcz14_11 : w13.cell? ⟨gb205, 11, none⟩ = some (.int .u64 0) := (blk_cell BK205.out 11).trans rfl; have hcz14_12 : w13.cell? ⟨gb205, 12, none⟩ = some (.int .u64 0) := (blk_cell BK205.out 12).trans rfl; have hfz14_0 := blk_frozen BK205.out 0; have hfz14_1 := blk_frozen BK205.out 1; have hfz14_2 := blk_frozen BK205.out 2; have hfz14_3 := blk_frozen BK205.out 3; have hfz14_4 := blk_frozen BK205.out 4; have hfz14_5 := blk_frozen BK205.out 5; have hfz14_6 := blk_frozen BK205.out 6; have hfz14_7 := blk_frozen BK205.out 7; have hfz14_8 := blk_frozen BK205.out 8; have hfz14_9 := blk_frozen BK205.out 9; have hfz14_10 := blk_frozen BK205.out 10; have hfz14_11 := blk_frozen BK205.out 11; have hfz14_12 := blk_frozen BK205.out 12) | ((with_reducible refine gate_callee (f := 35) rfl ?_); refine goesL_ (some 27) rfl rfl Try.func35 (by kernel_rfl) rfl #[.string a0] rfl (by (try simp only [List.map_toArray, List.map_cons, List.map_nil]); first | done | rfl | (simp only [List.length_drop, List.length_take]; rfl)) ?_; (with_reducible refine (analemmaref05_Decode.calls kj1 a0 t206 t207 t208 t209 t210 t211 t212 t213 t214 t215 t216 t217 t218 t219 t220 _ A10.out).mono ?_); rintro e w15 ⟨rfl, hb⟩; refine ⟨_, rfl, ?_⟩; have n0_ := Aside0.mk (blk_below (g := gb205) (o := .cells #[.int .i64 t190, .int .i64 t191, .int .i64 t192, .int .i64 t193, .int .i64 t194, .int .i64 t195, .int .u32 t196, .int .u32 t197, .int .u32 t198, .int .u64 t199, .int .u64 t200, .int .u64 t201, .int .u64 t202] 42 (0, 0)) (by (with_reducible repeat (first | refine blk_drewN ?_ _ | refine blk_drew ?_ | refine blk_alloc ?_ _)); refine blk_put (cs := #[.int .i64 t190, .int .i64 t191, .int .i64 t192, .int .i64 t193, .int .i64 t194, .int .i64 t195, .int .u32 t196, .int .u32 t197, .int .u32 t198, .int .u64 t199, .int .u64 t200, .int .u64 t201, .int .u64 0]) ?_ 12 _ rfl; (with_reducible repeat (first | refine blk_drewN ?_ _ | refine blk_drew ?_ | refine blk_alloc ?_ _)); refine blk_put (cs := #[.int .i64 t190, .int .i64 t191, .int .i64 t192, .int .i64 t193, .int .i64 t194, .int .i64 t195, .int .u32 t196, .int .u32 t197, .int .u32 t198, .int .u64 t199, .int .u64 t200, .int .u64 0, .int .u64 0]) ?_ 11 _ rfl; (with_reducible repeat (first | refine blk_drewN ?_ _ | refine blk_drew ?_ | refine blk_alloc ?_ _)); refine blk_put (cs := #[.int .i64 t190, .int .i64 t191, .int .i64 t192, .int .i64 t193, .int .i64 t194, .int .i64 t195, .int .u32 t196, .int .u32 t197, .int .u32 t198, .int .u64 t199, .int .u64 0, .int .u64 0, .int .u64 0]) ?_ 10 _ rfl; (with_reducible repeat (first | refine blk_drewN ?_ _ | refine blk_drew ?_ | refine blk_alloc ?_ _)); refine blk_put (cs := #[.int .i64 t190, .int .i64 t191, .int .i64 t192, .int .i64 t193, .int .i64 t194, .int .i64 t195, .int .u32 t196, .int .u32 t197, .int .u32 t198, .int .u64 0, .int .u64 0, .int .u64 0, .int .u64 0]) ?_ 9 _ rfl; (with_reducible repeat (first | refine blk_drewN ?_ _ | refine blk_drew ?_ | refine blk_alloc ?_ _)); refine blk_put (cs := #[.int .i64 t190, .int .i64 t191, .int .i64 t192, .int .i64 t193, .int .i64 t194, .int .i64 t195, .int .u32 t196, .int .u32 t197, .int .u32 0, .int .u64 0, .int .u64 0, .int .u64 0, .int .u64 0]) ?_ 8 _ rfl; (with_reducible repeat (first | refine blk_drewN ?_ _ | refine blk_drew ?_ | refine blk_alloc ?_ _)); refine blk_put (cs := #[.int .i64 t190, .int .i64 t191, .int .i64 t192, .int .i64 t193, .int .i64 t194, .int .i64 t195, .int .u32 t196, .int .u32 0, .int .u32 0, .int .u64 0, .int .u64 0, .int .u64 0, .int .u64 0]) ?_ 7 _ rfl; (with_reducible repeat (first | refine blk_drewN ?_ _ | refine blk_drew ?_ | refine blk_alloc ?_ _)); refine blk_put (cs := #[.int .i64 t190, .int .i64 t191, .int .i64 t192, .int .i64 t193, .int .i64 t194, .int .i64 t195, .int .u32 0, .int .u32 0, .int .u32 0, .int .u64 0, .int .u64 0, .int .u64 0, .int .u64 0]) ?_ 6 _ rfl; (with_reducible repeat (first | refine blk_drewN ?_ _ | refine blk_drew ?_ | refine blk_alloc ?_ _)); refine blk_put (cs := #[.int .i64 t190, .int .i64 t191, .int .i64 t192, .int .i64 t193, .int .i64 t194, .int .i64 0, .int .u32 0, .int .u32 0, .int .u32 0, .int .u64 0, .int .u64 0, .int .u64 0, .int .u64 0]) ?_ 5 _ rfl; (with_reducible repeat (first | refine blk_drewN ?_ _ | refine blk_drew ?_ | refine blk_alloc ?_ _)); refine blk_put (cs := #[.int .i64 t190, .int .i64 t191, .int .i64 t192, .int .i64 t193, .int .i64 0, .int .i64 0, .int .u32 0, .int .u32 0, .int .u32 0, .int .u64 0, .int .u64 0, .int .u64 0, .int .u64 0]) ?_ 4 _ rfl; (with_reducible repeat (first | refine blk_drewN ?_ _ | refine blk_drew ?_ | refine blk_alloc ?_ _)); refine blk_put (cs := #[.int .i64 t190, .int .i64 t191, .int .i64 t192, .int .i64 0, .int .i64 0, .int .i64 0, .int .u32 0, .int .u32 0, .int .u32 0, .int .u64 0, .int .u64 0, .int .u64 0, .int .u64 0]) ?_ 3 _ rfl; (with_reducible repeat (first | refine blk_drewN ?_ _ | refine blk_drew ?_ | refine blk_alloc ?_ _)); refine blk_put (cs := #[.int .i64 t190, .int .i64 t191, .int .i64 0, .int .i64 0, .int .i64 0, .int .i64 0, .int .u32 0, .int .u32 0, .int .u32 0, .int .u64 0, .int .u64 0, .int .u64 0, .int .u64 0]) ?_ 2 _ rfl; (with_reducible repeat (first | refine blk_drewN ?_ _ | refine blk_drew ?_ | refine blk_alloc ?_ _)); refine blk_put (cs := #[.int .i64 t190, .int .i64 0, .int .i64 0, .int .i64 0, .int .i64 0, .int .i64 0, .int .u32 0, .int .u32 0, .int .u32 0, .int .u64 0, .int .u64 0, .int .u64 0, .int .u64 0]) ?_ 1 _ rfl; (with_reducible repeat (first | refine blk_drewN ?_ _ | refine blk_drew ?_ | refine blk_alloc ?_ _)); refine blk_put (cs := #[.int .i64 0, .int .i64 0, .int .i64 0, .int .i64 0, .int .i64 0, .int .i64 0, .int .u32 0, .int .u32 0, .int .u32 0, .int .u64 0, .int .u64 0, .int .u64 0, .int .u64 0]) ?_ 0 _ rfl; (with_reducible repeat (first | refine blk_drewN ?_ _ | refine blk_drew ?_ | refine blk_alloc ?_ _)); exact BK205.out) hb); have n1_ := Aside0.mk (below_step (by repeat (first | (with_reducible first | exact HB.out | apply below_alloc | apply pw_below_drewN | apply below_drew1 | refine below_set ?_ GE205.out) | exact HB.out)) hb); clear BK205; clear HB; have BK205 := n0_; have HB := n1_; clear n0_ n1_; (try clear hb); (try clear hb2); (try clear hk); (try clear hi)) | ((with_reducible refine gate_dst (N := 6) rfl ?_); refine box_event ?hg (N := 6) ?hd (cs := #[.int .i64 0, .int .i64 0, .int .i64 0, .int .i64 0, .int .i64 0, .int .i64 0, .int .u32 0, .int .u32 0, .int .u32 0, .int .u64 0, .int .u64 0, .int .u64 0, .int .u64 0]) (t := 42) ?hr ?_; (case hd => rfl); (case hg => rfl); (case hr => first | (go_simp; done) | (go_simp; rfl)); intro gb221 hg w16 hbox hb; have n0_ := Aside0.mk (blk_below (g := gb205) (o := .cells #[.int .i64 t190, .int .i64 t191, .int .i64 t192, .int .i64 t193, .int .i64 t194, .int .i64 t195, .int .u32 t196, .int .u32 t197, .int .u32 t198, .int .u64 t199, .int .u64 t200, .int .u64 t201, .int .u64 t202] 42 (0, 0)) (by (with_reducible repeat (first | refine blk_drewN ?_ _ | refine blk_drew ?_ | refine blk_alloc ?_ _)); exact BK205.out) hb); have n1_ := Aside0.mk (below_step (by repeat (first | (with_reducible first | exact HB.out | apply below_alloc | apply pw_below_drewN | apply below_drew1 | refine below_set ?_ GE205.out) | exact HB.out)) hb); have n2_ := Aside0.mk (hbox); have n3_ := Aside0.mk ((by rw [hg]; exact (below_size (by repeat (first | (with_reducible first | exact HB.out | apply below_alloc | apply pw_below_drewN | apply below_drew1 | refine below_set ?_ GE205.out) | exact HB.out))) : w.heap.size ≤ gb221)); have n4_ := Aside0.mk ((by rw [hg]; exact (below_size (by repeat (first | (with_reducible first | exact HB.out | apply below_alloc | apply pw_below_drewN | apply below_drew1 | refine below_set ?_ GE205.out) | exact HB.out))) : w.heap.size ≤ gb221)); have n5_ := Aside0.mk ((by rw [hg]; exact Nat.ne_of_lt (blk_lt (g := gb205) (o := .cells #[.int .i64 t190, .int .i64 t191, .int .i64 t192, .int .i64 t193, .int .i64 t194, .int .i64 t195, .int .u32 t196, .int .u32 t197, .int .u32 t198, .int .u64 t199, .int .u64 t200, .int .u64 t201, .int .u64 t202] 42 (0, 0)) (by (with_reducible repeat (first | refine blk_drewN ?_ _ | refine blk_drew ?_ | refine blk_alloc ?_ _)); exact BK205.out)) : gb205 ≠ gb221)); have n6_ := Aside0.mk ((by rw [hg]; exact Nat.ne_of_gt (blk_lt (g := gb205) (o := .cells #[.int .i64 t190, .int .i64 t191, .int .i64 t192, .int .i64 t193, .int .i64 t194, .int .i64 t195, .int .u32 t196, .int .u32 t197, .int .u32 t198, .int .u64 t199, .int .u64 t200, .int .u64 t201, .int .u64 t202] 42 (0, 0)) (by (with_reducible repeat (first | refine blk_drewN ?_ _ | refine blk_drew ?_ | refine blk_alloc ?_ _)); exact BK205.out)) : gb221 ≠ gb205)); clear BK205; clear HB; have BK205 := n0_; have HB := n1_; have BK221 := n2_; have GW221 := n3_; have GE221 := n4_; have NB205_221 := n5_; have NB221_205 := n6_; clear n0_ n1_ n2_ n3_ n4_ n5_ n6_; clear hb hbox hg; have hnb17 := NB221_205.out; have hnc17 := NB205_221.out; have hcz18_0 : w16.cell? ⟨gb221, 0, none⟩ = some (.int .i64 0) := (blk_cell BK221.out 0).trans rfl; have hcz18_1 : w16.cell? ⟨gb221, 1, none⟩ = some (.int .i64 0) := (blk_cell BK221.out 1).trans rfl; have hcz18_2 : w16.cell? ⟨gb221, 2, none⟩ = some (.int .i64 0) := (blk_cell BK221.out 2).trans rfl; have hcz18_3 : w16.cell? ⟨gb221, 3, none⟩ = some (.int .i64 0) := (blk_cell BK221.out 3).trans rfl; have hcz18_4 : w16.cell? ⟨gb221, 4, none⟩ = some (.int .i64 0) := (blk_cell BK221.out 4).trans rfl; have hcz18_5 : w16.cell? ⟨gb221, 5, none⟩ = some (.int .i64 0) := (blk_cell BK221.out 5).trans rfl; have hcz18_6 : w16.cell? ⟨gb221, 6, none⟩ = some (.int .u32 0) := (blk_cell BK221.out 6).trans rfl; have hcz18_7 : w16.cell? ⟨gb221, 7, none⟩ = some (.int .u32 0) := (blk_cell BK221.out 7).trans rfl; have hcz18_8 : w16.cell? ⟨gb221, 8, none⟩ = some (.int .u32 0) := (blk_cell BK221.out 8).trans rfl; have hcz18_9 : w16.cell? ⟨gb221, 9, none⟩ = some (.int .u64 0) := (blk_cell BK221.out 9).trans rfl; have hcz18_10 : w16.cell? ⟨gb221, 10, none⟩ = some (.int .u64 0) := (blk_cell BK221.out 10).trans rfl; have hcz18_11 : w16.cell? ⟨gb221, 11, none⟩ = some (.int .u64 0) := (blk_cell BK221.out 11).trans rfl; have hcz18_12 : w16.cell? ⟨gb221, 12, none⟩ = some (.int .u64 0) := (blk_cell BK221.out 12).trans rfl; have hfz18_0 := blk_frozen BK221.out 0; have hfz18_1 := blk_frozen BK221.out 1; have hfz18_2 := blk_frozen BK221.out 2; have hfz18_3 := blk_frozen BK221.out 3; have hfz18_4 := blk_frozen BK221.out 4; have hfz18_5 := blk_frozen BK221.out 5; have hfz18_6 := blk_frozen BK221.out 6; have hfz18_7 := blk_frozen BK221.out 7; have hfz18_8 := blk_frozen BK221.out 8; have hfz18_9 := blk_frozen BK221.out 9; have hfz18_10 := blk_frozen BK221.out 10; have hfz18_11 := blk_frozen BK221.out 11; have hfz18_12 := blk_frozen BK221.out 12))
        (try simp only [Act.put, List.setIfInBounds_toArray, List.set_cons_zero, List.set_cons_succ])
        go_cut [43] (fun v43 wc => ∃ (kq : Nat) (x43_10 : Bool), v43 = .bool x43_10 ∧ Aside0 (analemmalaw05_HeaderDecodes.j1 kq a0 t203 t204 x43_10 t190 t191 t192 t193 t194 t195 t196 t197 t198 t199 t200 t201 t202 = some r) ∧ Aside0 (kq ≤ kj1) ∧ Aside0 (wc.heap[gb205]? = some (.cells #[.int .i64 t190, .int .i64 t191, .int .i64 t192, .int .i64 t193, .int .i64 t194, .int .i64 t195, .int .u32 t196, .int .u32 t197, .int .u32 t198, .int .u64 t199, .int .u64 t200, .int .u64 t201, .int .u64 t202] 42 (0, 0))) ∧ Aside0 (wc.heap[gb221]? = some (.cells #[.int .i64 t206, .int .i64 t207, .int .i64 t208, .int .i64 t209, .int .i64 t210, .int .i64 t211, .int .u32 t212, .int .u32 t213, .int .u32 t214, .int .u64 t215, .int .u64 t216, .int .u64 t217, .int .u64 t218] 42 (0, 0))) ∧ Aside0 (Below w.heap.size w wc))
        case first =>
          have H := HC11.out
          clear HC11
          by_cases c19 : (!(t190 == t206) || (!(t191 == t207) || (!(t192 == t208) || (!(t193 == t209) || (!(t194 == t210) || (!(t195 == t211) || (!(t196 == t212) || (!(t197 == t213) || (!(t198 == t214) || (!(t199 == t215) || (!(t200 == t216) || (!(t201 == t217) || (!(t202 == t218)))))))))))))) = true
          · rw [if_pos c19] at H
            have c19b0 : (!(t190 == t206) || (!(t191 == t207) || (!(t192 == t208) || (!(t193 == t209) || (!(t194 == t210) || (!(t195 == t211) || (!(t196 == t212) || (!(t197 == t213) || (!(t198 == t214) || (!(t199 == t215) || (!(t200 == t216) || (!(t201 == t217) || (!(t202 == t218)))))))))))))) = true := c19
            clear c19
            (first | rw [c19b0] | (simp only [i64_w, i32_w]; rw [c19b0]) | skip)
            have H' := Aside0.mk H
            clear H
            have hnb20 := NB205_221.out
            have hnc20 := NB221_205.out
            have hcz21_0 : w16.cell? ⟨gb205, 0, none⟩ = some (.int .i64 t190) := (blk_cell BK205.out 0).trans rfl
            have hcz21_1 : w16.cell? ⟨gb205, 1, none⟩ = some (.int .i64 t191) := (blk_cell BK205.out 1).trans rfl
            have hcz21_2 : w16.cell? ⟨gb205, 2, none⟩ = some (.int .i64 t192) := (blk_cell BK205.out 2).trans rfl
            have hcz21_3 : w16.cell? ⟨gb205, 3, none⟩ = some (.int .i64 t193) := (blk_cell BK205.out 3).trans rfl
            have hcz21_4 : w16.cell? ⟨gb205, 4, none⟩ = some (.int .i64 t194) := (blk_cell BK205.out 4).trans rfl
            have hcz21_5 : w16.cell? ⟨gb205, 5, none⟩ = some (.int .i64 t195) := (blk_cell BK205.out 5).trans rfl
            have hcz21_6 : w16.cell? ⟨gb205, 6, none⟩ = some (.int .u32 t196) := (blk_cell BK205.out 6).trans rfl
            have hcz21_7 : w16.cell? ⟨gb205, 7, none⟩ = some (.int .u32 t197) := (blk_cell BK205.out 7).trans rfl
            have hcz21_8 : w16.cell? ⟨gb205, 8, none⟩ = some (.int .u32 t198) := (blk_cell BK205.out 8).trans rfl
            have hcz21_9 : w16.cell? ⟨gb205, 9, none⟩ = some (.int .u64 t199) := (blk_cell BK205.out 9).trans rfl
            have hcz21_10 : w16.cell? ⟨gb205, 10, none⟩ = some (.int .u64 t200) := (blk_cell BK205.out 10).trans rfl
            have hcz21_11 : w16.cell? ⟨gb205, 11, none⟩ = some (.int .u64 t201) := (blk_cell BK205.out 11).trans rfl
            have hcz21_12 : w16.cell? ⟨gb205, 12, none⟩ = some (.int .u64 t202) := (blk_cell BK205.out 12).trans rfl
            have hfz21_0 := blk_frozen BK205.out 0
            have hfz21_1 := blk_frozen BK205.out 1
            have hfz21_2 := blk_frozen BK205.out 2
            have hfz21_3 := blk_frozen BK205.out 3
            have hfz21_4 := blk_frozen BK205.out 4
            have hfz21_5 := blk_frozen BK205.out 5
            have hfz21_6 := blk_frozen BK205.out 6
            have hfz21_7 := blk_frozen BK205.out 7
            have hfz21_8 := blk_frozen BK205.out 8
            have hfz21_9 := blk_frozen BK205.out 9
            have hfz21_10 := blk_frozen BK205.out 10
            have hfz21_11 := blk_frozen BK205.out 11
            have hfz21_12 := blk_frozen BK205.out 12
            have hcz22_0 : w16.cell? ⟨gb221, 0, none⟩ = some (.int .i64 0) := (blk_cell BK221.out 0).trans rfl
            have hcz22_1 : w16.cell? ⟨gb221, 1, none⟩ = some (.int .i64 0) := (blk_cell BK221.out 1).trans rfl
            have hcz22_2 : w16.cell? ⟨gb221, 2, none⟩ = some (.int .i64 0) := (blk_cell BK221.out 2).trans rfl
            have hcz22_3 : w16.cell? ⟨gb221, 3, none⟩ = some (.int .i64 0) := (blk_cell BK221.out 3).trans rfl
            have hcz22_4 : w16.cell? ⟨gb221, 4, none⟩ = some (.int .i64 0) := (blk_cell BK221.out 4).trans rfl
            have hcz22_5 : w16.cell? ⟨gb221, 5, none⟩ = some (.int .i64 0) := (blk_cell BK221.out 5).trans rfl
            have hcz22_6 : w16.cell? ⟨gb221, 6, none⟩ = some (.int .u32 0) := (blk_cell BK221.out 6).trans rfl
            have hcz22_7 : w16.cell? ⟨gb221, 7, none⟩ = some (.int .u32 0) := (blk_cell BK221.out 7).trans rfl
            have hcz22_8 : w16.cell? ⟨gb221, 8, none⟩ = some (.int .u32 0) := (blk_cell BK221.out 8).trans rfl
            have hcz22_9 : w16.cell? ⟨gb221, 9, none⟩ = some (.int .u64 0) := (blk_cell BK221.out 9).trans rfl
            have hcz22_10 : w16.cell? ⟨gb221, 10, none⟩ = some (.int .u64 0) := (blk_cell BK221.out 10).trans rfl
            have hcz22_11 : w16.cell? ⟨gb221, 11, none⟩ = some (.int .u64 0) := (blk_cell BK221.out 11).trans rfl
            have hcz22_12 : w16.cell? ⟨gb221, 12, none⟩ = some (.int .u64 0) := (blk_cell BK221.out 12).trans rfl
            have hfz22_0 := blk_frozen BK221.out 0
            have hfz22_1 := blk_frozen BK221.out 1
            have hfz22_2 := blk_frozen BK221.out 2
            have hfz22_3 := blk_frozen BK221.out 3
            have hfz22_4 := blk_frozen BK221.out 4
            have hfz22_5 := blk_frozen BK221.out 5
            have hfz22_6 := blk_frozen BK221.out 6
            have hfz22_7 := blk_frozen BK221.out 7
            have hfz22_8 := blk_frozen BK221.out 8
            have hfz22_9 := blk_frozen BK221.out 9
            have hfz22_10 := blk_frozen BK221.out 10
            have hfz22_11 := blk_frozen BK221.out 11
            have hfz22_12 := blk_frozen BK221.out 12
            go_wp2
            go_meet
            case rel => exact ⟨_, (true), (by first | rfl | (simp; done) | (simp [*]; done)), H', ⟨by have := HJ1.out; first | omega | exact Nat.le_refl _⟩, ⟨by (with_reducible repeat (first | refine blk_drewN ?_ _ | refine blk_drew ?_ | refine blk_alloc ?_ _)); refine blk_far ?_ NB205_221.out _; (with_reducible repeat (first | refine blk_drewN ?_ _ | refine blk_drew ?_ | refine blk_alloc ?_ _)); refine blk_far ?_ NB205_221.out _; (with_reducible repeat (first | refine blk_drewN ?_ _ | refine blk_drew ?_ | refine blk_alloc ?_ _)); refine blk_far ?_ NB205_221.out _; (with_reducible repeat (first | refine blk_drewN ?_ _ | refine blk_drew ?_ | refine blk_alloc ?_ _)); refine blk_far ?_ NB205_221.out _; (with_reducible repeat (first | refine blk_drewN ?_ _ | refine blk_drew ?_ | refine blk_alloc ?_ _)); refine blk_far ?_ NB205_221.out _; (with_reducible repeat (first | refine blk_drewN ?_ _ | refine blk_drew ?_ | refine blk_alloc ?_ _)); refine blk_far ?_ NB205_221.out _; (with_reducible repeat (first | refine blk_drewN ?_ _ | refine blk_drew ?_ | refine blk_alloc ?_ _)); refine blk_far ?_ NB205_221.out _; (with_reducible repeat (first | refine blk_drewN ?_ _ | refine blk_drew ?_ | refine blk_alloc ?_ _)); refine blk_far ?_ NB205_221.out _; (with_reducible repeat (first | refine blk_drewN ?_ _ | refine blk_drew ?_ | refine blk_alloc ?_ _)); refine blk_far ?_ NB205_221.out _; (with_reducible repeat (first | refine blk_drewN ?_ _ | refine blk_drew ?_ | refine blk_alloc ?_ _)); refine blk_far ?_ NB205_221.out _; (with_reducible repeat (first | refine blk_drewN ?_ _ | refine blk_drew ?_ | refine blk_alloc ?_ _)); refine blk_far ?_ NB205_221.out _; (with_reducible repeat (first | refine blk_drewN ?_ _ | refine blk_drew ?_ | refine blk_alloc ?_ _)); refine blk_far ?_ NB205_221.out _; (with_reducible repeat (first | refine blk_drewN ?_ _ | refine blk_drew ?_ | refine blk_alloc ?_ _)); refine blk_far ?_ NB205_221.out _; (with_reducible repeat (first | refine blk_drewN ?_ _ | refine blk_drew ?_ | refine blk_alloc ?_ _)); exact BK205.out⟩, ⟨by (with_reducible repeat (first | refine blk_drewN ?_ _ | refine blk_drew ?_ | refine blk_alloc ?_ _)); refine blk_put (cs := #[.int .i64 t206, .int .i64 t207, .int .i64 t208, .int .i64 t209, .int .i64 t210, .int .i64 t211, .int .u32 t212, .int .u32 t213, .int .u32 t214, .int .u64 t215, .int .u64 t216, .int .u64 t217, .int .u64 0]) ?_ 12 _ rfl; (with_reducible repeat (first | refine blk_drewN ?_ _ | refine blk_drew ?_ | refine blk_alloc ?_ _)); refine blk_put (cs := #[.int .i64 t206, .int .i64 t207, .int .i64 t208, .int .i64 t209, .int .i64 t210, .int .i64 t211, .int .u32 t212, .int .u32 t213, .int .u32 t214, .int .u64 t215, .int .u64 t216, .int .u64 0, .int .u64 0]) ?_ 11 _ rfl; (with_reducible repeat (first | refine blk_drewN ?_ _ | refine blk_drew ?_ | refine blk_alloc ?_ _)); refine blk_put (cs := #[.int .i64 t206, .int .i64 t207, .int .i64 t208, .int .i64 t209, .int .i64 t210, .int .i64 t211, .int .u32 t212, .int .u32 t213, .int .u32 t214, .int .u64 t215, .int .u64 0, .int .u64 0, .int .u64 0]) ?_ 10 _ rfl; (with_reducible repeat (first | refine blk_drewN ?_ _ | refine blk_drew ?_ | refine blk_alloc ?_ _)); refine blk_put (cs := #[.int .i64 t206, .int .i64 t207, .int .i64 t208, .int .i64 t209, .int .i64 t210, .int .i64 t211, .int .u32 t212, .int .u32 t213, .int .u32 t214, .int .u64 0, .int .u64 0, .int .u64 0, .int .u64 0]) ?_ 9 _ rfl; (with_reducible repeat (first | refine blk_drewN ?_ _ | refine blk_drew ?_ | refine blk_alloc ?_ _)); refine blk_put (cs := #[.int .i64 t206, .int .i64 t207, .int .i64 t208, .int .i64 t209, .int .i64 t210, .int .i64 t211, .int .u32 t212, .int .u32 t213, .int .u32 0, .int .u64 0, .int .u64 0, .int .u64 0, .int .u64 0]) ?_ 8 _ rfl; (with_reducible repeat (first | refine blk_drewN ?_ _ | refine blk_drew ?_ | refine blk_alloc ?_ _)); refine blk_put (cs := #[.int .i64 t206, .int .i64 t207, .int .i64 t208, .int .i64 t209, .int .i64 t210, .int .i64 t211, .int .u32 t212, .int .u32 0, .int .u32 0, .int .u64 0, .int .u64 0, .int .u64 0, .int .u64 0]) ?_ 7 _ rfl; (with_reducible repeat (first | refine blk_drewN ?_ _ | refine blk_drew ?_ | refine blk_alloc ?_ _)); refine blk_put (cs := #[.int .i64 t206, .int .i64 t207, .int .i64 t208, .int .i64 t209, .int .i64 t210, .int .i64 t211, .int .u32 0, .int .u32 0, .int .u32 0, .int .u64 0, .int .u64 0, .int .u64 0, .int .u64 0]) ?_ 6 _ rfl; (with_reducible repeat (first | refine blk_drewN ?_ _ | refine blk_drew ?_ | refine blk_alloc ?_ _)); refine blk_put (cs := #[.int .i64 t206, .int .i64 t207, .int .i64 t208, .int .i64 t209, .int .i64 t210, .int .i64 0, .int .u32 0, .int .u32 0, .int .u32 0, .int .u64 0, .int .u64 0, .int .u64 0, .int .u64 0]) ?_ 5 _ rfl; (with_reducible repeat (first | refine blk_drewN ?_ _ | refine blk_drew ?_ | refine blk_alloc ?_ _)); refine blk_put (cs := #[.int .i64 t206, .int .i64 t207, .int .i64 t208, .int .i64 t209, .int .i64 0, .int .i64 0, .int .u32 0, .int .u32 0, .int .u32 0, .int .u64 0, .int .u64 0, .int .u64 0, .int .u64 0]) ?_ 4 _ rfl; (with_reducible repeat (first | refine blk_drewN ?_ _ | refine blk_drew ?_ | refine blk_alloc ?_ _)); refine blk_put (cs := #[.int .i64 t206, .int .i64 t207, .int .i64 t208, .int .i64 0, .int .i64 0, .int .i64 0, .int .u32 0, .int .u32 0, .int .u32 0, .int .u64 0, .int .u64 0, .int .u64 0, .int .u64 0]) ?_ 3 _ rfl; (with_reducible repeat (first | refine blk_drewN ?_ _ | refine blk_drew ?_ | refine blk_alloc ?_ _)); refine blk_put (cs := #[.int .i64 t206, .int .i64 t207, .int .i64 0, .int .i64 0, .int .i64 0, .int .i64 0, .int .u32 0, .int .u32 0, .int .u32 0, .int .u64 0, .int .u64 0, .int .u64 0, .int .u64 0]) ?_ 2 _ rfl; (with_reducible repeat (first | refine blk_drewN ?_ _ | refine blk_drew ?_ | refine blk_alloc ?_ _)); refine blk_put (cs := #[.int .i64 t206, .int .i64 0, .int .i64 0, .int .i64 0, .int .i64 0, .int .i64 0, .int .u32 0, .int .u32 0, .int .u32 0, .int .u64 0, .int .u64 0, .int .u64 0, .int .u64 0]) ?_ 1 _ rfl; (with_reducible repeat (first | refine blk_drewN ?_ _ | refine blk_drew ?_ | refine blk_alloc ?_ _)); refine blk_put (cs := #[.int .i64 0, .int .i64 0, .int .i64 0, .int .i64 0, .int .i64 0, .int .i64 0, .int .u32 0, .int .u32 0, .int .u32 0, .int .u64 0, .int .u64 0, .int .u64 0, .int .u64 0]) ?_ 0 _ rfl; (with_reducible repeat (first | refine blk_drewN ?_ _ | refine blk_drew ?_ | refine blk_alloc ?_ _)); exact BK221.out⟩, ⟨by repeat (first | (with_reducible first | exact HB.out | apply below_alloc | apply pw_below_drewN | apply below_drew1 | refine below_set ?_ GE205.out | refine below_set ?_ GE221.out) | exact HB.out)⟩⟩
          · rw [if_neg c19] at H
            have c19b0 : (!(t190 == t206) || (!(t191 == t207) || (!(t192 == t208) || (!(t193 == t209) || (!(t194 == t210) || (!(t195 == t211) || (!(t196 == t212) || (!(t197 == t213) || (!(t198 == t214) || (!(t199 == t215) || (!(t200 == t216) || (!(t201 == t217) || (!(t202 == t218)))))))))))))) = false := by simpa using c19
            clear c19
            (first | rw [c19b0] | (simp only [i64_w, i32_w]; rw [c19b0]) | skip)
            by_cases c23 : t203.toList = t219.toList
            · rw [if_pos c23] at H
              have c23b0 : (t203.toList == t219.toList) = true := beq_iff_eq.mpr c23
              have c23b1 : (t203.toList != t219.toList) = false := bne_eq_false_iff_eq.mpr c23
              clear c23
              have H' := Aside0.mk H
              clear H
              have hnb24 := NB205_221.out
              have hnc24 := NB221_205.out
              have hcz25_0 : w16.cell? ⟨gb205, 0, none⟩ = some (.int .i64 t190) := (blk_cell BK205.out 0).trans rfl
              have hcz25_1 : w16.cell? ⟨gb205, 1, none⟩ = some (.int .i64 t191) := (blk_cell BK205.out 1).trans rfl
              have hcz25_2 : w16.cell? ⟨gb205, 2, none⟩ = some (.int .i64 t192) := (blk_cell BK205.out 2).trans rfl
              have hcz25_3 : w16.cell? ⟨gb205, 3, none⟩ = some (.int .i64 t193) := (blk_cell BK205.out 3).trans rfl
              have hcz25_4 : w16.cell? ⟨gb205, 4, none⟩ = some (.int .i64 t194) := (blk_cell BK205.out 4).trans rfl
              have hcz25_5 : w16.cell? ⟨gb205, 5, none⟩ = some (.int .i64 t195) := (blk_cell BK205.out 5).trans rfl
              have hcz25_6 : w16.cell? ⟨gb205, 6, none⟩ = some (.int .u32 t196) := (blk_cell BK205.out 6).trans rfl
              have hcz25_7 : w16.cell? ⟨gb205, 7, none⟩ = some (.int .u32 t197) := (blk_cell BK205.out 7).trans rfl
              have hcz25_8 : w16.cell? ⟨gb205, 8, none⟩ = some (.int .u32 t198) := (blk_cell BK205.out 8).trans rfl
              have hcz25_9 : w16.cell? ⟨gb205, 9, none⟩ = some (.int .u64 t199) := (blk_cell BK205.out 9).trans rfl
              have hcz25_10 : w16.cell? ⟨gb205, 10, none⟩ = some (.int .u64 t200) := (blk_cell BK205.out 10).trans rfl
              have hcz25_11 : w16.cell? ⟨gb205, 11, none⟩ = some (.int .u64 t201) := (blk_cell BK205.out 11).trans rfl
              have hcz25_12 : w16.cell? ⟨gb205, 12, none⟩ = some (.int .u64 t202) := (blk_cell BK205.out 12).trans rfl
              have hfz25_0 := blk_frozen BK205.out 0
              have hfz25_1 := blk_frozen BK205.out 1
              have hfz25_2 := blk_frozen BK205.out 2
              have hfz25_3 := blk_frozen BK205.out 3
              have hfz25_4 := blk_frozen BK205.out 4
              have hfz25_5 := blk_frozen BK205.out 5
              have hfz25_6 := blk_frozen BK205.out 6
              have hfz25_7 := blk_frozen BK205.out 7
              have hfz25_8 := blk_frozen BK205.out 8
              have hfz25_9 := blk_frozen BK205.out 9
              have hfz25_10 := blk_frozen BK205.out 10
              have hfz25_11 := blk_frozen BK205.out 11
              have hfz25_12 := blk_frozen BK205.out 12
              have hcz26_0 : w16.cell? ⟨gb221, 0, none⟩ = some (.int .i64 0) := (blk_cell BK221.out 0).trans rfl
              have hcz26_1 : w16.cell? ⟨gb221, 1, none⟩ = some (.int .i64 0) := (blk_cell BK221.out 1).trans rfl
              have hcz26_2 : w16.cell? ⟨gb221, 2, none⟩ = some (.int .i64 0) := (blk_cell BK221.out 2).trans rfl
              have hcz26_3 : w16.cell? ⟨gb221, 3, none⟩ = some (.int .i64 0) := (blk_cell BK221.out 3).trans rfl
              have hcz26_4 : w16.cell? ⟨gb221, 4, none⟩ = some (.int .i64 0) := (blk_cell BK221.out 4).trans rfl
              have hcz26_5 : w16.cell? ⟨gb221, 5, none⟩ = some (.int .i64 0) := (blk_cell BK221.out 5).trans rfl
              have hcz26_6 : w16.cell? ⟨gb221, 6, none⟩ = some (.int .u32 0) := (blk_cell BK221.out 6).trans rfl
              have hcz26_7 : w16.cell? ⟨gb221, 7, none⟩ = some (.int .u32 0) := (blk_cell BK221.out 7).trans rfl
              have hcz26_8 : w16.cell? ⟨gb221, 8, none⟩ = some (.int .u32 0) := (blk_cell BK221.out 8).trans rfl
              have hcz26_9 : w16.cell? ⟨gb221, 9, none⟩ = some (.int .u64 0) := (blk_cell BK221.out 9).trans rfl
              have hcz26_10 : w16.cell? ⟨gb221, 10, none⟩ = some (.int .u64 0) := (blk_cell BK221.out 10).trans rfl
              have hcz26_11 : w16.cell? ⟨gb221, 11, none⟩ = some (.int .u64 0) := (blk_cell BK221.out 11).trans rfl
              have hcz26_12 : w16.cell? ⟨gb221, 12, none⟩ = some (.int .u64 0) := (blk_cell BK221.out 12).trans rfl
              have hfz26_0 := blk_frozen BK221.out 0
              have hfz26_1 := blk_frozen BK221.out 1
              have hfz26_2 := blk_frozen BK221.out 2
              have hfz26_3 := blk_frozen BK221.out 3
              have hfz26_4 := blk_frozen BK221.out 4
              have hfz26_5 := blk_frozen BK221.out 5
              have hfz26_6 := blk_frozen BK221.out 6
              have hfz26_7 := blk_frozen BK221.out 7
              have hfz26_8 := blk_frozen BK221.out 8
              have hfz26_9 := blk_frozen BK221.out 9
              have hfz26_10 := blk_frozen BK221.out 10
              have hfz26_11 := blk_frozen BK221.out 11
              have hfz26_12 := blk_frozen BK221.out 12
              go_wp2
              go_meet
              case rel => exact ⟨_, ((t204 != t220)), (by first | rfl | (simp; done) | (simp [*]; done)), H', ⟨by have := HJ1.out; first | omega | exact Nat.le_refl _⟩, ⟨by (with_reducible repeat (first | refine blk_drewN ?_ _ | refine blk_drew ?_ | refine blk_alloc ?_ _)); refine blk_far ?_ NB205_221.out _; (with_reducible repeat (first | refine blk_drewN ?_ _ | refine blk_drew ?_ | refine blk_alloc ?_ _)); refine blk_far ?_ NB205_221.out _; (with_reducible repeat (first | refine blk_drewN ?_ _ | refine blk_drew ?_ | refine blk_alloc ?_ _)); refine blk_far ?_ NB205_221.out _; (with_reducible repeat (first | refine blk_drewN ?_ _ | refine blk_drew ?_ | refine blk_alloc ?_ _)); refine blk_far ?_ NB205_221.out _; (with_reducible repeat (first | refine blk_drewN ?_ _ | refine blk_drew ?_ | refine blk_alloc ?_ _)); refine blk_far ?_ NB205_221.out _; (with_reducible repeat (first | refine blk_drewN ?_ _ | refine blk_drew ?_ | refine blk_alloc ?_ _)); refine blk_far ?_ NB205_221.out _; (with_reducible repeat (first | refine blk_drewN ?_ _ | refine blk_drew ?_ | refine blk_alloc ?_ _)); refine blk_far ?_ NB205_221.out _; (with_reducible repeat (first | refine blk_drewN ?_ _ | refine blk_drew ?_ | refine blk_alloc ?_ _)); refine blk_far ?_ NB205_221.out _; (with_reducible repeat (first | refine blk_drewN ?_ _ | refine blk_drew ?_ | refine blk_alloc ?_ _)); refine blk_far ?_ NB205_221.out _; (with_reducible repeat (first | refine blk_drewN ?_ _ | refine blk_drew ?_ | refine blk_alloc ?_ _)); refine blk_far ?_ NB205_221.out _; (with_reducible repeat (first | refine blk_drewN ?_ _ | refine blk_drew ?_ | refine blk_alloc ?_ _)); refine blk_far ?_ NB205_221.out _; (with_reducible repeat (first | refine blk_drewN ?_ _ | refine blk_drew ?_ | refine blk_alloc ?_ _)); refine blk_far ?_ NB205_221.out _; (with_reducible repeat (first | refine blk_drewN ?_ _ | refine blk_drew ?_ | refine blk_alloc ?_ _)); refine blk_far ?_ NB205_221.out _; (with_reducible repeat (first | refine blk_drewN ?_ _ | refine blk_drew ?_ | refine blk_alloc ?_ _)); exact BK205.out⟩, ⟨by (with_reducible repeat (first | refine blk_drewN ?_ _ | refine blk_drew ?_ | refine blk_alloc ?_ _)); refine blk_put (cs := #[.int .i64 t206, .int .i64 t207, .int .i64 t208, .int .i64 t209, .int .i64 t210, .int .i64 t211, .int .u32 t212, .int .u32 t213, .int .u32 t214, .int .u64 t215, .int .u64 t216, .int .u64 t217, .int .u64 0]) ?_ 12 _ rfl; (with_reducible repeat (first | refine blk_drewN ?_ _ | refine blk_drew ?_ | refine blk_alloc ?_ _)); refine blk_put (cs := #[.int .i64 t206, .int .i64 t207, .int .i64 t208, .int .i64 t209, .int .i64 t210, .int .i64 t211, .int .u32 t212, .int .u32 t213, .int .u32 t214, .int .u64 t215, .int .u64 t216, .int .u64 0, .int .u64 0]) ?_ 11 _ rfl; (with_reducible repeat (first | refine blk_drewN ?_ _ | refine blk_drew ?_ | refine blk_alloc ?_ _)); refine blk_put (cs := #[.int .i64 t206, .int .i64 t207, .int .i64 t208, .int .i64 t209, .int .i64 t210, .int .i64 t211, .int .u32 t212, .int .u32 t213, .int .u32 t214, .int .u64 t215, .int .u64 0, .int .u64 0, .int .u64 0]) ?_ 10 _ rfl; (with_reducible repeat (first | refine blk_drewN ?_ _ | refine blk_drew ?_ | refine blk_alloc ?_ _)); refine blk_put (cs := #[.int .i64 t206, .int .i64 t207, .int .i64 t208, .int .i64 t209, .int .i64 t210, .int .i64 t211, .int .u32 t212, .int .u32 t213, .int .u32 t214, .int .u64 0, .int .u64 0, .int .u64 0, .int .u64 0]) ?_ 9 _ rfl; (with_reducible repeat (first | refine blk_drewN ?_ _ | refine blk_drew ?_ | refine blk_alloc ?_ _)); refine blk_put (cs := #[.int .i64 t206, .int .i64 t207, .int .i64 t208, .int .i64 t209, .int .i64 t210, .int .i64 t211, .int .u32 t212, .int .u32 t213, .int .u32 0, .int .u64 0, .int .u64 0, .int .u64 0, .int .u64 0]) ?_ 8 _ rfl; (with_reducible repeat (first | refine blk_drewN ?_ _ | refine blk_drew ?_ | refine blk_alloc ?_ _)); refine blk_put (cs := #[.int .i64 t206, .int .i64 t207, .int .i64 t208, .int .i64 t209, .int .i64 t210, .int .i64 t211, .int .u32 t212, .int .u32 0, .int .u32 0, .int .u64 0, .int .u64 0, .int .u64 0, .int .u64 0]) ?_ 7 _ rfl; (with_reducible repeat (first | refine blk_drewN ?_ _ | refine blk_drew ?_ | refine blk_alloc ?_ _)); refine blk_put (cs := #[.int .i64 t206, .int .i64 t207, .int .i64 t208, .int .i64 t209, .int .i64 t210, .int .i64 t211, .int .u32 0, .int .u32 0, .int .u32 0, .int .u64 0, .int .u64 0, .int .u64 0, .int .u64 0]) ?_ 6 _ rfl; (with_reducible repeat (first | refine blk_drewN ?_ _ | refine blk_drew ?_ | refine blk_alloc ?_ _)); refine blk_put (cs := #[.int .i64 t206, .int .i64 t207, .int .i64 t208, .int .i64 t209, .int .i64 t210, .int .i64 0, .int .u32 0, .int .u32 0, .int .u32 0, .int .u64 0, .int .u64 0, .int .u64 0, .int .u64 0]) ?_ 5 _ rfl; (with_reducible repeat (first | refine blk_drewN ?_ _ | refine blk_drew ?_ | refine blk_alloc ?_ _)); refine blk_put (cs := #[.int .i64 t206, .int .i64 t207, .int .i64 t208, .int .i64 t209, .int .i64 0, .int .i64 0, .int .u32 0, .int .u32 0, .int .u32 0, .int .u64 0, .int .u64 0, .int .u64 0, .int .u64 0]) ?_ 4 _ rfl; (with_reducible repeat (first | refine blk_drewN ?_ _ | refine blk_drew ?_ | refine blk_alloc ?_ _)); refine blk_put (cs := #[.int .i64 t206, .int .i64 t207, .int .i64 t208, .int .i64 0, .int .i64 0, .int .i64 0, .int .u32 0, .int .u32 0, .int .u32 0, .int .u64 0, .int .u64 0, .int .u64 0, .int .u64 0]) ?_ 3 _ rfl; (with_reducible repeat (first | refine blk_drewN ?_ _ | refine blk_drew ?_ | refine blk_alloc ?_ _)); refine blk_put (cs := #[.int .i64 t206, .int .i64 t207, .int .i64 0, .int .i64 0, .int .i64 0, .int .i64 0, .int .u32 0, .int .u32 0, .int .u32 0, .int .u64 0, .int .u64 0, .int .u64 0, .int .u64 0]) ?_ 2 _ rfl; (with_reducible repeat (first | refine blk_drewN ?_ _ | refine blk_drew ?_ | refine blk_alloc ?_ _)); refine blk_put (cs := #[.int .i64 t206, .int .i64 0, .int .i64 0, .int .i64 0, .int .i64 0, .int .i64 0, .int .u32 0, .int .u32 0, .int .u32 0, .int .u64 0, .int .u64 0, .int .u64 0, .int .u64 0]) ?_ 1 _ rfl; (with_reducible repeat (first | refine blk_drewN ?_ _ | refine blk_drew ?_ | refine blk_alloc ?_ _)); refine blk_put (cs := #[.int .i64 0, .int .i64 0, .int .i64 0, .int .i64 0, .int .i64 0, .int .i64 0, .int .u32 0, .int .u32 0, .int .u32 0, .int .u64 0, .int .u64 0, .int .u64 0, .int .u64 0]) ?_ 0 _ rfl; (with_reducible repeat (first | refine blk_drewN ?_ _ | refine blk_drew ?_ | refine blk_alloc ?_ _)); exact BK221.out⟩, ⟨by repeat (first | (with_reducible first | exact HB.out | apply below_alloc | apply pw_below_drewN | apply below_drew1 | refine below_set ?_ GE205.out | refine below_set ?_ GE221.out) | exact HB.out)⟩⟩
            · rw [if_neg c23] at H
              have c23b0 : (t203.toList == t219.toList) = false := beq_eq_false_iff_ne.mpr c23
              have c23b1 : (t203.toList != t219.toList) = true := bne_iff_ne.mpr c23
              have H' := Aside0.mk H
              clear H
              have hnb27 := NB205_221.out
              have hnc27 := NB221_205.out
              have hcz28_0 : w16.cell? ⟨gb205, 0, none⟩ = some (.int .i64 t190) := (blk_cell BK205.out 0).trans rfl
              have hcz28_1 : w16.cell? ⟨gb205, 1, none⟩ = some (.int .i64 t191) := (blk_cell BK205.out 1).trans rfl
              have hcz28_2 : w16.cell? ⟨gb205, 2, none⟩ = some (.int .i64 t192) := (blk_cell BK205.out 2).trans rfl
              have hcz28_3 : w16.cell? ⟨gb205, 3, none⟩ = some (.int .i64 t193) := (blk_cell BK205.out 3).trans rfl
              have hcz28_4 : w16.cell? ⟨gb205, 4, none⟩ = some (.int .i64 t194) := (blk_cell BK205.out 4).trans rfl
              have hcz28_5 : w16.cell? ⟨gb205, 5, none⟩ = some (.int .i64 t195) := (blk_cell BK205.out 5).trans rfl
              have hcz28_6 : w16.cell? ⟨gb205, 6, none⟩ = some (.int .u32 t196) := (blk_cell BK205.out 6).trans rfl
              have hcz28_7 : w16.cell? ⟨gb205, 7, none⟩ = some (.int .u32 t197) := (blk_cell BK205.out 7).trans rfl
              have hcz28_8 : w16.cell? ⟨gb205, 8, none⟩ = some (.int .u32 t198) := (blk_cell BK205.out 8).trans rfl
              have hcz28_9 : w16.cell? ⟨gb205, 9, none⟩ = some (.int .u64 t199) := (blk_cell BK205.out 9).trans rfl
              have hcz28_10 : w16.cell? ⟨gb205, 10, none⟩ = some (.int .u64 t200) := (blk_cell BK205.out 10).trans rfl
              have hcz28_11 : w16.cell? ⟨gb205, 11, none⟩ = some (.int .u64 t201) := (blk_cell BK205.out 11).trans rfl
              have hcz28_12 : w16.cell? ⟨gb205, 12, none⟩ = some (.int .u64 t202) := (blk_cell BK205.out 12).trans rfl
              have hfz28_0 := blk_frozen BK205.out 0
              have hfz28_1 := blk_frozen BK205.out 1
              have hfz28_2 := blk_frozen BK205.out 2
              have hfz28_3 := blk_frozen BK205.out 3
              have hfz28_4 := blk_frozen BK205.out 4
              have hfz28_5 := blk_frozen BK205.out 5
              have hfz28_6 := blk_frozen BK205.out 6
              have hfz28_7 := blk_frozen BK205.out 7
              have hfz28_8 := blk_frozen BK205.out 8
              have hfz28_9 := blk_frozen BK205.out 9
              have hfz28_10 := blk_frozen BK205.out 10
              have hfz28_11 := blk_frozen BK205.out 11
              have hfz28_12 := blk_frozen BK205.out 12
              have hcz29_0 : w16.cell? ⟨gb221, 0, none⟩ = some (.int .i64 0) := (blk_cell BK221.out 0).trans rfl
              have hcz29_1 : w16.cell? ⟨gb221, 1, none⟩ = some (.int .i64 0) := (blk_cell BK221.out 1).trans rfl
              have hcz29_2 : w16.cell? ⟨gb221, 2, none⟩ = some (.int .i64 0) := (blk_cell BK221.out 2).trans rfl
              have hcz29_3 : w16.cell? ⟨gb221, 3, none⟩ = some (.int .i64 0) := (blk_cell BK221.out 3).trans rfl
              have hcz29_4 : w16.cell? ⟨gb221, 4, none⟩ = some (.int .i64 0) := (blk_cell BK221.out 4).trans rfl
              have hcz29_5 : w16.cell? ⟨gb221, 5, none⟩ = some (.int .i64 0) := (blk_cell BK221.out 5).trans rfl
              have hcz29_6 : w16.cell? ⟨gb221, 6, none⟩ = some (.int .u32 0) := (blk_cell BK221.out 6).trans rfl
              have hcz29_7 : w16.cell? ⟨gb221, 7, none⟩ = some (.int .u32 0) := (blk_cell BK221.out 7).trans rfl
              have hcz29_8 : w16.cell? ⟨gb221, 8, none⟩ = some (.int .u32 0) := (blk_cell BK221.out 8).trans rfl
              have hcz29_9 : w16.cell? ⟨gb221, 9, none⟩ = some (.int .u64 0) := (blk_cell BK221.out 9).trans rfl
              have hcz29_10 : w16.cell? ⟨gb221, 10, none⟩ = some (.int .u64 0) := (blk_cell BK221.out 10).trans rfl
              have hcz29_11 : w16.cell? ⟨gb221, 11, none⟩ = some (.int .u64 0) := (blk_cell BK221.out 11).trans rfl
              have hcz29_12 : w16.cell? ⟨gb221, 12, none⟩ = some (.int .u64 0) := (blk_cell BK221.out 12).trans rfl
              have hfz29_0 := blk_frozen BK221.out 0
              have hfz29_1 := blk_frozen BK221.out 1
              have hfz29_2 := blk_frozen BK221.out 2
              have hfz29_3 := blk_frozen BK221.out 3
              have hfz29_4 := blk_frozen BK221.out 4
              have hfz29_5 := blk_frozen BK221.out 5
              have hfz29_6 := blk_frozen BK221.out 6
              have hfz29_7 := blk_frozen BK221.out 7
              have hfz29_8 := blk_frozen BK221.out 8
              have hfz29_9 := blk_frozen BK221.out 9
              have hfz29_10 := blk_frozen BK221.out 10
              have hfz29_11 := blk_frozen BK221.out 11
              have hfz29_12 := blk_frozen BK221.out 12
              go_wp2
              go_meet
              case rel => exact ⟨_, (true), (by first | rfl | (simp; done) | (simp [*]; done)), H', ⟨by have := HJ1.out; first | omega | exact Nat.le_refl _⟩, ⟨by (with_reducible repeat (first | refine blk_drewN ?_ _ | refine blk_drew ?_ | refine blk_alloc ?_ _)); refine blk_far ?_ NB205_221.out _; (with_reducible repeat (first | refine blk_drewN ?_ _ | refine blk_drew ?_ | refine blk_alloc ?_ _)); refine blk_far ?_ NB205_221.out _; (with_reducible repeat (first | refine blk_drewN ?_ _ | refine blk_drew ?_ | refine blk_alloc ?_ _)); refine blk_far ?_ NB205_221.out _; (with_reducible repeat (first | refine blk_drewN ?_ _ | refine blk_drew ?_ | refine blk_alloc ?_ _)); refine blk_far ?_ NB205_221.out _; (with_reducible repeat (first | refine blk_drewN ?_ _ | refine blk_drew ?_ | refine blk_alloc ?_ _)); refine blk_far ?_ NB205_221.out _; (with_reducible repeat (first | refine blk_drewN ?_ _ | refine blk_drew ?_ | refine blk_alloc ?_ _)); refine blk_far ?_ NB205_221.out _; (with_reducible repeat (first | refine blk_drewN ?_ _ | refine blk_drew ?_ | refine blk_alloc ?_ _)); refine blk_far ?_ NB205_221.out _; (with_reducible repeat (first | refine blk_drewN ?_ _ | refine blk_drew ?_ | refine blk_alloc ?_ _)); refine blk_far ?_ NB205_221.out _; (with_reducible repeat (first | refine blk_drewN ?_ _ | refine blk_drew ?_ | refine blk_alloc ?_ _)); refine blk_far ?_ NB205_221.out _; (with_reducible repeat (first | refine blk_drewN ?_ _ | refine blk_drew ?_ | refine blk_alloc ?_ _)); refine blk_far ?_ NB205_221.out _; (with_reducible repeat (first | refine blk_drewN ?_ _ | refine blk_drew ?_ | refine blk_alloc ?_ _)); refine blk_far ?_ NB205_221.out _; (with_reducible repeat (first | refine blk_drewN ?_ _ | refine blk_drew ?_ | refine blk_alloc ?_ _)); refine blk_far ?_ NB205_221.out _; (with_reducible repeat (first | refine blk_drewN ?_ _ | refine blk_drew ?_ | refine blk_alloc ?_ _)); refine blk_far ?_ NB205_221.out _; (with_reducible repeat (first | refine blk_drewN ?_ _ | refine blk_drew ?_ | refine blk_alloc ?_ _)); exact BK205.out⟩, ⟨by (with_reducible repeat (first | refine blk_drewN ?_ _ | refine blk_drew ?_ | refine blk_alloc ?_ _)); refine blk_put (cs := #[.int .i64 t206, .int .i64 t207, .int .i64 t208, .int .i64 t209, .int .i64 t210, .int .i64 t211, .int .u32 t212, .int .u32 t213, .int .u32 t214, .int .u64 t215, .int .u64 t216, .int .u64 t217, .int .u64 0]) ?_ 12 _ rfl; (with_reducible repeat (first | refine blk_drewN ?_ _ | refine blk_drew ?_ | refine blk_alloc ?_ _)); refine blk_put (cs := #[.int .i64 t206, .int .i64 t207, .int .i64 t208, .int .i64 t209, .int .i64 t210, .int .i64 t211, .int .u32 t212, .int .u32 t213, .int .u32 t214, .int .u64 t215, .int .u64 t216, .int .u64 0, .int .u64 0]) ?_ 11 _ rfl; (with_reducible repeat (first | refine blk_drewN ?_ _ | refine blk_drew ?_ | refine blk_alloc ?_ _)); refine blk_put (cs := #[.int .i64 t206, .int .i64 t207, .int .i64 t208, .int .i64 t209, .int .i64 t210, .int .i64 t211, .int .u32 t212, .int .u32 t213, .int .u32 t214, .int .u64 t215, .int .u64 0, .int .u64 0, .int .u64 0]) ?_ 10 _ rfl; (with_reducible repeat (first | refine blk_drewN ?_ _ | refine blk_drew ?_ | refine blk_alloc ?_ _)); refine blk_put (cs := #[.int .i64 t206, .int .i64 t207, .int .i64 t208, .int .i64 t209, .int .i64 t210, .int .i64 t211, .int .u32 t212, .int .u32 t213, .int .u32 t214, .int .u64 0, .int .u64 0, .int .u64 0, .int .u64 0]) ?_ 9 _ rfl; (with_reducible repeat (first | refine blk_drewN ?_ _ | refine blk_drew ?_ | refine blk_alloc ?_ _)); refine blk_put (cs := #[.int .i64 t206, .int .i64 t207, .int .i64 t208, .int .i64 t209, .int .i64 t210, .int .i64 t211, .int .u32 t212, .int .u32 t213, .int .u32 0, .int .u64 0, .int .u64 0, .int .u64 0, .int .u64 0]) ?_ 8 _ rfl; (with_reducible repeat (first | refine blk_drewN ?_ _ | refine blk_drew ?_ | refine blk_alloc ?_ _)); refine blk_put (cs := #[.int .i64 t206, .int .i64 t207, .int .i64 t208, .int .i64 t209, .int .i64 t210, .int .i64 t211, .int .u32 t212, .int .u32 0, .int .u32 0, .int .u64 0, .int .u64 0, .int .u64 0, .int .u64 0]) ?_ 7 _ rfl; (with_reducible repeat (first | refine blk_drewN ?_ _ | refine blk_drew ?_ | refine blk_alloc ?_ _)); refine blk_put (cs := #[.int .i64 t206, .int .i64 t207, .int .i64 t208, .int .i64 t209, .int .i64 t210, .int .i64 t211, .int .u32 0, .int .u32 0, .int .u32 0, .int .u64 0, .int .u64 0, .int .u64 0, .int .u64 0]) ?_ 6 _ rfl; (with_reducible repeat (first | refine blk_drewN ?_ _ | refine blk_drew ?_ | refine blk_alloc ?_ _)); refine blk_put (cs := #[.int .i64 t206, .int .i64 t207, .int .i64 t208, .int .i64 t209, .int .i64 t210, .int .i64 0, .int .u32 0, .int .u32 0, .int .u32 0, .int .u64 0, .int .u64 0, .int .u64 0, .int .u64 0]) ?_ 5 _ rfl; (with_reducible repeat (first | refine blk_drewN ?_ _ | refine blk_drew ?_ | refine blk_alloc ?_ _)); refine blk_put (cs := #[.int .i64 t206, .int .i64 t207, .int .i64 t208, .int .i64 t209, .int .i64 0, .int .i64 0, .int .u32 0, .int .u32 0, .int .u32 0, .int .u64 0, .int .u64 0, .int .u64 0, .int .u64 0]) ?_ 4 _ rfl; (with_reducible repeat (first | refine blk_drewN ?_ _ | refine blk_drew ?_ | refine blk_alloc ?_ _)); refine blk_put (cs := #[.int .i64 t206, .int .i64 t207, .int .i64 t208, .int .i64 0, .int .i64 0, .int .i64 0, .int .u32 0, .int .u32 0, .int .u32 0, .int .u64 0, .int .u64 0, .int .u64 0, .int .u64 0]) ?_ 3 _ rfl; (with_reducible repeat (first | refine blk_drewN ?_ _ | refine blk_drew ?_ | refine blk_alloc ?_ _)); refine blk_put (cs := #[.int .i64 t206, .int .i64 t207, .int .i64 0, .int .i64 0, .int .i64 0, .int .i64 0, .int .u32 0, .int .u32 0, .int .u32 0, .int .u64 0, .int .u64 0, .int .u64 0, .int .u64 0]) ?_ 2 _ rfl; (with_reducible repeat (first | refine blk_drewN ?_ _ | refine blk_drew ?_ | refine blk_alloc ?_ _)); refine blk_put (cs := #[.int .i64 t206, .int .i64 0, .int .i64 0, .int .i64 0, .int .i64 0, .int .i64 0, .int .u32 0, .int .u32 0, .int .u32 0, .int .u64 0, .int .u64 0, .int .u64 0, .int .u64 0]) ?_ 1 _ rfl; (with_reducible repeat (first | refine blk_drewN ?_ _ | refine blk_drew ?_ | refine blk_alloc ?_ _)); refine blk_put (cs := #[.int .i64 0, .int .i64 0, .int .i64 0, .int .i64 0, .int .i64 0, .int .i64 0, .int .u32 0, .int .u32 0, .int .u32 0, .int .u64 0, .int .u64 0, .int .u64 0, .int .u64 0]) ?_ 0 _ rfl; (with_reducible repeat (first | refine blk_drewN ?_ _ | refine blk_drew ?_ | refine blk_alloc ?_ _)); exact BK221.out⟩, ⟨by repeat (first | (with_reducible first | exact HB.out | apply below_alloc | apply pw_below_drewN | apply below_drew1 | refine below_set ?_ GE205.out | refine below_set ?_ GE221.out) | exact HB.out)⟩⟩
        case rest =>
          clear HC11
          try clear c1
          try clear c2
          try clear p2
          try clear c3
          try clear c3b0
          try clear c3b1
          try clear c6
          try clear c10
          try clear c17
          try clear c19
          try clear c19b0
          try clear c20
          try clear c23
          try clear c23b0
          try clear c23b1
          try clear c24
          try clear c27
          try clear hcz14_0
          try clear hcz14_1
          try clear hcz14_10
          try clear hcz14_11
          try clear hcz14_12
          try clear hcz14_2
          try clear hcz14_3
          try clear hcz14_4
          try clear hcz14_5
          try clear hcz14_6
          try clear hcz14_7
          try clear hcz14_8
          try clear hcz14_9
          try clear hcz18_0
          try clear hcz18_1
          try clear hcz18_10
          try clear hcz18_11
          try clear hcz18_12
          try clear hcz18_2
          try clear hcz18_3
          try clear hcz18_4
          try clear hcz18_5
          try clear hcz18_6
          try clear hcz18_7
          try clear hcz18_8
          try clear hcz18_9
          try clear hcz21_0
          try clear hcz21_1
          try clear hcz21_10
          try clear hcz21_11
          try clear hcz21_12
          try clear hcz21_2
          try clear hcz21_3
          try clear hcz21_4
          try clear hcz21_5
          try clear hcz21_6
          try clear hcz21_7
          try clear hcz21_8
          try clear hcz21_9
          try clear hcz22_0
          try clear hcz22_1
          try clear hcz22_10
          try clear hcz22_11
          try clear hcz22_12
          try clear hcz22_2
          try clear hcz22_3
          try clear hcz22_4
          try clear hcz22_5
          try clear hcz22_6
          try clear hcz22_7
          try clear hcz22_8
          try clear hcz22_9
          try clear hcz25_0
          try clear hcz25_1
          try clear hcz25_10
          try clear hcz25_11
          try clear hcz25_12
          try clear hcz25_2
          try clear hcz25_3
          try clear hcz25_4
          try clear hcz25_5
          try clear hcz25_6
          try clear hcz25_7
          try clear hcz25_8
          try clear hcz25_9
          try clear hcz26_0
          try clear hcz26_1
          try clear hcz26_10
          try clear hcz26_11
          try clear hcz26_12
          try clear hcz26_2
          try clear hcz26_3
          try clear hcz26_4
          try clear hcz26_5
          try clear hcz26_6
          try clear hcz26_7
          try clear hcz26_8
          try clear hcz26_9
          try clear hcz28_0
          try clear hcz28_1
          try clear hcz28_10
          try clear hcz28_11
          try clear hcz28_12
          try clear hcz28_2
          try clear hcz28_3
          try clear hcz28_4
          try clear hcz28_5
          try clear hcz28_6
          try clear hcz28_7
          try clear hcz28_8
          try clear hcz28_9
          try clear hcz29_0
          try clear hcz29_1
          try clear hcz29_10
          try clear hcz29_11
          try clear hcz29_12
          try clear hcz29_2
          try clear hcz29_3
          try clear hcz29_4
          try clear hcz29_5
          try clear hcz29_6
          try clear hcz29_7
          try clear hcz29_8
          try clear hcz29_9
          try clear hfz14_0
          try clear hfz14_1
          try clear hfz14_10
          try clear hfz14_11
          try clear hfz14_12
          try clear hfz14_2
          try clear hfz14_3
          try clear hfz14_4
          try clear hfz14_5
          try clear hfz14_6
          try clear hfz14_7
          try clear hfz14_8
          try clear hfz14_9
          try clear hfz18_0
          try clear hfz18_1
          try clear hfz18_10
          try clear hfz18_11
          try clear hfz18_12
          try clear hfz18_2
          try clear hfz18_3
          try clear hfz18_4
          try clear hfz18_5
          try clear hfz18_6
          try clear hfz18_7
          try clear hfz18_8
          try clear hfz18_9
          try clear hfz21_0
          try clear hfz21_1
          try clear hfz21_10
          try clear hfz21_11
          try clear hfz21_12
          try clear hfz21_2
          try clear hfz21_3
          try clear hfz21_4
          try clear hfz21_5
          try clear hfz21_6
          try clear hfz21_7
          try clear hfz21_8
          try clear hfz21_9
          try clear hfz22_0
          try clear hfz22_1
          try clear hfz22_10
          try clear hfz22_11
          try clear hfz22_12
          try clear hfz22_2
          try clear hfz22_3
          try clear hfz22_4
          try clear hfz22_5
          try clear hfz22_6
          try clear hfz22_7
          try clear hfz22_8
          try clear hfz22_9
          try clear hfz25_0
          try clear hfz25_1
          try clear hfz25_10
          try clear hfz25_11
          try clear hfz25_12
          try clear hfz25_2
          try clear hfz25_3
          try clear hfz25_4
          try clear hfz25_5
          try clear hfz25_6
          try clear hfz25_7
          try clear hfz25_8
          try clear hfz25_9
          try clear hfz26_0
          try clear hfz26_1
          try clear hfz26_10
          try clear hfz26_11
          try clear hfz26_12
          try clear hfz26_2
          try clear hfz26_3
          try clear hfz26_4
          try clear hfz26_5
          try clear hfz26_6
          try clear hfz26_7
          try clear hfz26_8
          try clear hfz26_9
          try clear hfz28_0
          try clear hfz28_1
          try clear hfz28_10
          try clear hfz28_11
          try clear hfz28_12
          try clear hfz28_2
          try clear hfz28_3
          try clear hfz28_4
          try clear hfz28_5
          try clear hfz28_6
          try clear hfz28_7
          try clear hfz28_8
          try clear hfz28_9
          try clear hfz29_0
          try clear hfz29_1
          try clear hfz29_10
          try clear hfz29_11
          try clear hfz29_12
          try clear hfz29_2
          try clear hfz29_3
          try clear hfz29_4
          try clear hfz29_5
          try clear hfz29_6
          try clear hfz29_7
          try clear hfz29_8
          try clear hfz29_9
          try clear p2
          obtain ⟨kq, x43_10, rfl, HA, HJ10, BK205, BK221, HB⟩ := hcut
          cases kq with
          | zero => exact absurd HA.out (by simp [analemmalaw05_HeaderDecodes.j1])
          | succ kj10 =>
            have H := HA.out
            clear HA
            simp only [analemmalaw05_HeaderDecodes.j1] at H
            by_cases c30 : x43_10 = true
            · subst c30
              have H1 : (some false) = some r := by rw [if_pos rfl] at H; exact H
              clear H
              have H := H1
              clear H1
              first | exact absurd ((Option.some.inj H).trans hr.out) Bool.false_ne_true | skip
              all_goals (obtain rfl := Option.some.inj H)
              all_goals (go_wp2)
              all_goals (go_ret)
              all_goals (exact ⟨by first | rfl | (simp [errW_none, errW_some] <;> rfl) | (simp [*, errW_none, errW_some] <;> rfl), by repeat (first | (with_reducible first | exact HB.out | apply below_alloc | apply pw_below_drewN | apply below_drew1 | refine below_set ?_ GE205.out | refine below_set ?_ GE221.out) | exact HB.out)⟩)
            · replace c30 := Bool.eq_false_iff.mpr c30
              subst c30
              have H1 : (if t204 = 0 then ((header_Encode.f kj10 t190 t191 t192 t193 t194 t195 t196 t197 t198 t199 t200 t201 t202).bind fun bt222 => (if bt222.2 = 0 then (if bt222.1.size + t203.size ≤ 9223372036854775807 then (if (bt222.1 ++ t203).toList = a0.toList then ((header_May.f t190 t191 t192 t193 t194 t195 t196 t197 t198 t199 t200 t201 t202).bind fun t224 => (some t224)) else (some false)) else (none)) else (some false))) else (some (t203.toList == ([] : List UInt8)))) = some r := by rw [if_neg (show ¬ (false = true) by decide)] at H; exact H
              clear H
              have H := H1
              clear H1
              by_cases c31 : t204 = 0
              · rw [if_pos c31] at H
                have c31b0 : (t204 == 0) = true := beq_iff_eq.mpr c31
                have c31b1 : (t204 != 0) = false := bne_eq_false_iff_eq.mpr c31
                clear c31
                replace H := Option.bind_eq_some_iff.mp H
                obtain ⟨⟨t222, t223⟩, A320, H⟩ := H
                replace H : (if t223 = 0 then (if t222.size + t203.size ≤ 9223372036854775807 then (if (t222 ++ t203).toList = a0.toList then ((header_May.f t190 t191 t192 t193 t194 t195 t196 t197 t198 t199 t200 t201 t202).bind fun t224 => (some t224)) else (some false)) else (none)) else (some false)) = some r := H
                have A32 := Aside0.mk A320
                clear A320
                by_cases c33 : t223 = 0
                · rw [if_pos c33] at H
                  have c33b0 : (t223 == 0) = true := beq_iff_eq.mpr c33
                  have c33b1 : (t223 != 0) = false := bne_eq_false_iff_eq.mpr c33
                  clear c33
                  by_cases c34 : t222.size + t203.size ≤ 9223372036854775807
                  · rw [if_pos c34] at H
                    have c34b0 := eq_true c34
                    have c34b1 : decide (t222.size + t203.size ≤ 9223372036854775807) = true := decide_eq_true c34
                    try have c34b2 : (9223372036854775807 < t222.size + t203.size) = False := eq_false (Nat.not_lt.2 c34)
                    by_cases c35 : (t222 ++ t203).toList = a0.toList
                    · rw [if_pos c35] at H
                      have c35b0 : ((t222 ++ t203).toList == a0.toList) = true := beq_iff_eq.mpr c35
                      have c35b1 : ((t222 ++ t203).toList != a0.toList) = false := bne_eq_false_iff_eq.mpr c35
                      clear c35
                      replace H := Option.bind_eq_some_iff.mp H
                      obtain ⟨t224, A360, H⟩ := H
                      replace H : (some t224) = some r := H
                      have A36 := Aside0.mk A360
                      clear A360
                      first | exact absurd ((Option.some.inj H).trans hr.out) Bool.false_ne_true | skip
                      all_goals (obtain rfl := Option.some.inj H)
                      all_goals (have hnb37 := NB205_221.out)
                      all_goals (have hnc37 := NB221_205.out)
                      all_goals (have hcz38_0 : wc.cell? ⟨gb205, 0, none⟩ = some (.int .i64 t190) := (blk_cell BK205.out 0).trans rfl)
                      all_goals (have hcz38_1 : wc.cell? ⟨gb205, 1, none⟩ = some (.int .i64 t191) := (blk_cell BK205.out 1).trans rfl)
                      all_goals (have hcz38_2 : wc.cell? ⟨gb205, 2, none⟩ = some (.int .i64 t192) := (blk_cell BK205.out 2).trans rfl)
                      all_goals (have hcz38_3 : wc.cell? ⟨gb205, 3, none⟩ = some (.int .i64 t193) := (blk_cell BK205.out 3).trans rfl)
                      all_goals (have hcz38_4 : wc.cell? ⟨gb205, 4, none⟩ = some (.int .i64 t194) := (blk_cell BK205.out 4).trans rfl)
                      all_goals (have hcz38_5 : wc.cell? ⟨gb205, 5, none⟩ = some (.int .i64 t195) := (blk_cell BK205.out 5).trans rfl)
                      all_goals (have hcz38_6 : wc.cell? ⟨gb205, 6, none⟩ = some (.int .u32 t196) := (blk_cell BK205.out 6).trans rfl)
                      all_goals (have hcz38_7 : wc.cell? ⟨gb205, 7, none⟩ = some (.int .u32 t197) := (blk_cell BK205.out 7).trans rfl)
                      all_goals (have hcz38_8 : wc.cell? ⟨gb205, 8, none⟩ = some (.int .u32 t198) := (blk_cell BK205.out 8).trans rfl)
                      all_goals (have hcz38_9 : wc.cell? ⟨gb205, 9, none⟩ = some (.int .u64 t199) := (blk_cell BK205.out 9).trans rfl)
                      all_goals (have hcz38_10 : wc.cell? ⟨gb205, 10, none⟩ = some (.int .u64 t200) := (blk_cell BK205.out 10).trans rfl)
                      all_goals (have hcz38_11 : wc.cell? ⟨gb205, 11, none⟩ = some (.int .u64 t201) := (blk_cell BK205.out 11).trans rfl)
                      all_goals (have hcz38_12 : wc.cell? ⟨gb205, 12, none⟩ = some (.int .u64 t202) := (blk_cell BK205.out 12).trans rfl)
                      all_goals (have hfz38_0 := blk_frozen BK205.out 0)
                      all_goals (have hfz38_1 := blk_frozen BK205.out 1)
                      all_goals (have hfz38_2 := blk_frozen BK205.out 2)
                      all_goals (have hfz38_3 := blk_frozen BK205.out 3)
                      all_goals (have hfz38_4 := blk_frozen BK205.out 4)
                      all_goals (have hfz38_5 := blk_frozen BK205.out 5)
                      all_goals (have hfz38_6 := blk_frozen BK205.out 6)
                      all_goals (have hfz38_7 := blk_frozen BK205.out 7)
                      all_goals (have hfz38_8 := blk_frozen BK205.out 8)
                      all_goals (have hfz38_9 := blk_frozen BK205.out 9)
                      all_goals (have hfz38_10 := blk_frozen BK205.out 10)
                      all_goals (have hfz38_11 := blk_frozen BK205.out 11)
                      all_goals (have hfz38_12 := blk_frozen BK205.out 12)
                      all_goals (go_wp2_with (first | ((with_reducible refine gate_callee (f := 29) rfl ?_); refine goesL_ (some 50) rfl rfl Try.func29 (by kernel_rfl) rfl #[.agg #[.int .i64 t190, .int .i64 t191, .int .i64 t192, .int .i64 t193, .int .i64 t194, .int .i64 t195, .int .u32 t196, .int .u32 t197, .int .u32 t198, .int .u64 t199, .int .u64 t200, .int .u64 t201, .int .u64 t202]] rfl (by (try simp only [List.map_toArray, List.map_cons, List.map_nil]); first | done | rfl | (simp only [List.length_drop, List.length_take]; rfl)) ?_; (with_reducible refine (header_Encode.calls kj10 t190 t191 t192 t193 t194 t195 t196 t197 t198 t199 t200 t201 t202 t222 t223 _ A32.out).mono ?_); rintro e w39 ⟨rfl, hb⟩; refine ⟨_, rfl, ?_⟩; have n0_ := Aside0.mk (blk_below (g := gb205) (o := .cells #[.int .i64 t190, .int .i64 t191, .int .i64 t192, .int .i64 t193, .int .i64 t194, .int .i64 t195, .int .u32 t196, .int .u32 t197, .int .u32 t198, .int .u64 t199, .int .u64 t200, .int .u64 t201, .int .u64 t202] 42 (0, 0)) (by (with_reducible repeat (first | refine blk_drewN ?_ _ | refine blk_drew ?_ | refine blk_alloc ?_ _)); exact BK205.out) hb); have n1_ := Aside0.mk (blk_below (g := gb221) (o := .cells #[.int .i64 t206, .int .i64 t207, .int .i64 t208, .int .i64 t209, .int .i64 t210, .int .i64 t211, .int .u32 t212, .int .u32 t213, .int .u32 t214, .int .u64 t215, .int .u64 t216, .int .u64 t217, .int .u64 t218] 42 (0, 0)) (by (with_reducible repeat (first | refine blk_drewN ?_ _ | refine blk_drew ?_ | refine blk_alloc ?_ _)); exact BK221.out) hb); have n2_ := Aside0.mk (below_step (by repeat (first | (with_reducible first | exact HB.out | apply below_alloc | apply pw_below_drewN | apply below_drew1 | refine below_set ?_ GE205.out | refine below_set ?_ GE221.out) | exact HB.out)) hb); clear BK205; clear BK221; clear HB; have BK205 := n0_; have BK221 := n1_; have HB := n2_; clear n0_ n1_ n2_; (try clear hb); (try clear hb2); (try clear hk); (try clear hi); have hcz40_0 : w39.cell? ⟨gb205, 0, none⟩ = some (.int .i64 t190) := (blk_cell BK205.out 0).trans rfl; have hcz40_1 : w39.cell? ⟨gb205, 1, none⟩ = some (.int .i64 t191) := (blk_cell BK205.out 1).trans rfl; have hcz40_2 : w39.cell? ⟨gb205, 2, none⟩ = some (.int .i64 t192) := (blk_cell BK205.out 2).trans rfl; have hcz40_3 : w39.cell? ⟨gb205, 3, none⟩ = some (.int .i64 t193) := (blk_cell BK205.out 3).trans rfl; have hcz40_4 : w39.cell? ⟨gb205, 4, none⟩ = some (.int .i64 t194) := (blk_cell BK205.out 4).trans rfl; have hcz40_5 : w39.cell? ⟨gb205, 5, none⟩ = some (.int .i64 t195) := (blk_cell BK205.out 5).trans rfl; have hcz40_6 : w39.cell? ⟨gb205, 6, none⟩ = some (.int .u32 t196) := (blk_cell BK205.out 6).trans rfl; have hcz40_7 : w39.cell? ⟨gb205, 7, none⟩ = some (.int .u32 t197) := (blk_cell BK205.out 7).trans rfl; have hcz40_8 : w39.cell? ⟨gb205, 8, none⟩ = some (.int .u32 t198) := (blk_cell BK205.out 8).trans rfl; have hcz40_9 : w39.cell? ⟨gb205, 9, none⟩ = some (.int .u64 t199) := (blk_cell BK205.out 9).trans rfl; have hcz40_10 : w39.cell? ⟨gb205, 10, none⟩ = some (.int .u64 t200) := (blk_cell BK205.out 10).trans rfl; have hcz40_11 : w39.cell? ⟨gb205, 11, none⟩ = some (.int .u64 t201) := (blk_cell BK205.out 11).trans rfl; have hcz40_12 : w39.cell? ⟨gb205, 12, none⟩ = some (.int .u64 t202) := (blk_cell BK205.out 12).trans rfl; have hfz40_0 := blk_frozen BK205.out 0; have hfz40_1 := blk_frozen BK205.out 1; have hfz40_2 := blk_frozen BK205.out 2; have hfz40_3 := blk_frozen BK205.out 3; have hfz40_4 := blk_frozen BK205.out 4; have hfz40_5 := blk_frozen BK205.out 5; have hfz40_6 := blk_frozen BK205.out 6; have hfz40_7 := blk_frozen BK205.out 7; have hfz40_8 := blk_frozen BK205.out 8; have hfz40_9 := blk_frozen BK205.out 9; have hfz40_10 := blk_frozen BK205.out 10; have hfz40_11 := blk_frozen BK205.out 11; have hfz40_12 := blk_frozen BK205.out 12) | (go_at_call 31; (with_reducible refine (header_May.calls t190 t191 t192 t193 t194 t195 t196 t197 t198 t199 t200 t201 t202 t224 _ A36.out).mono ?_); rintro e w41 ⟨rfl, hb⟩; have n0_ := Aside0.mk (blk_below (g := gb205) (o := .cells #[.int .i64 t190, .int .i64 t191, .int .i64 t192, .int .i64 t193, .int .i64 t194, .int .i64 t195, .int .u32 t196, .int .u32 t197, .int .u32 t198, .int .u64 t199, .int .u64 t200, .int .u64 t201, .int .u64 t202] 42 (0, 0)) (by (with_reducible repeat (first | refine blk_drewN ?_ _ | refine blk_drew ?_ | refine blk_alloc ?_ _)); exact BK205.out) hb); have n1_ := Aside0.mk (blk_below (g := gb221) (o := .cells #[.int .i64 t206, .int .i64 t207, .int .i64 t208, .int .i64 t209, .int .i64 t210, .int .i64 t211, .int .u32 t212, .int .u32 t213, .int .u32 t214, .int .u64 t215, .int .u64 t216, .int .u64 t217, .int .u64 t218] 42 (0, 0)) (by (with_reducible repeat (first | refine blk_drewN ?_ _ | refine blk_drew ?_ | refine blk_alloc ?_ _)); exact BK221.out) hb); have n2_ := Aside0.mk (below_step (by repeat (first | (with_reducible first | exact HB.out | apply below_alloc | apply pw_below_drewN | apply below_drew1 | refine below_set ?_ GE205.out | refine below_set ?_ GE221.out) | exact HB.out)) hb); clear BK205; clear BK221; clear HB; have BK205 := n0_; have BK221 := n1_; have HB := n2_; clear n0_ n1_ n2_; (try clear hb); (try clear hb2); (try clear hk); (try clear hi))))
                      all_goals (go_ret)
                      all_goals (exact ⟨by first | rfl | (simp [errW_none, errW_some] <;> rfl) | (simp [*, errW_none, errW_some] <;> rfl), by repeat (first | (with_reducible first | exact HB.out | apply below_alloc | apply pw_below_drewN | apply below_drew1 | refine below_set ?_ GE205.out | refine below_set ?_ GE221.out) | exact HB.out)⟩)
                    · rw [if_neg c35] at H
                      have c35b0 : ((t222 ++ t203).toList == a0.toList) = false := beq_eq_false_iff_ne.mpr c35
                      have c35b1 : ((t222 ++ t203).toList != a0.toList) = true := bne_iff_ne.mpr c35
                      first | exact absurd ((Option.some.inj H).trans hr.out) Bool.false_ne_true | skip
                      all_goals (obtain rfl := Option.some.inj H)
                      all_goals (have hnb42 := NB205_221.out)
                      all_goals (have hnc42 := NB221_205.out)
                      all_goals (have hcz43_0 : wc.cell? ⟨gb205, 0, none⟩ = some (.int .i64 t190) := (blk_cell BK205.out 0).trans rfl)
                      all_goals (have hcz43_1 : wc.cell? ⟨gb205, 1, none⟩ = some (.int .i64 t191) := (blk_cell BK205.out 1).trans rfl)
                      all_goals (have hcz43_2 : wc.cell? ⟨gb205, 2, none⟩ = some (.int .i64 t192) := (blk_cell BK205.out 2).trans rfl)
                      all_goals (have hcz43_3 : wc.cell? ⟨gb205, 3, none⟩ = some (.int .i64 t193) := (blk_cell BK205.out 3).trans rfl)
                      all_goals (have hcz43_4 : wc.cell? ⟨gb205, 4, none⟩ = some (.int .i64 t194) := (blk_cell BK205.out 4).trans rfl)
                      all_goals (have hcz43_5 : wc.cell? ⟨gb205, 5, none⟩ = some (.int .i64 t195) := (blk_cell BK205.out 5).trans rfl)
                      all_goals (have hcz43_6 : wc.cell? ⟨gb205, 6, none⟩ = some (.int .u32 t196) := (blk_cell BK205.out 6).trans rfl)
                      all_goals (have hcz43_7 : wc.cell? ⟨gb205, 7, none⟩ = some (.int .u32 t197) := (blk_cell BK205.out 7).trans rfl)
                      all_goals (have hcz43_8 : wc.cell? ⟨gb205, 8, none⟩ = some (.int .u32 t198) := (blk_cell BK205.out 8).trans rfl)
                      all_goals (have hcz43_9 : wc.cell? ⟨gb205, 9, none⟩ = some (.int .u64 t199) := (blk_cell BK205.out 9).trans rfl)
                      all_goals (have hcz43_10 : wc.cell? ⟨gb205, 10, none⟩ = some (.int .u64 t200) := (blk_cell BK205.out 10).trans rfl)
                      all_goals (have hcz43_11 : wc.cell? ⟨gb205, 11, none⟩ = some (.int .u64 t201) := (blk_cell BK205.out 11).trans rfl)
                      all_goals (have hcz43_12 : wc.cell? ⟨gb205, 12, none⟩ = some (.int .u64 t202) := (blk_cell BK205.out 12).trans rfl)
                      all_goals (have hfz43_0 := blk_frozen BK205.out 0)
                      all_goals (have hfz43_1 := blk_frozen BK205.out 1)
                      all_goals (have hfz43_2 := blk_frozen BK205.out 2)
                      all_goals (have hfz43_3 := blk_frozen BK205.out 3)
                      all_goals (have hfz43_4 := blk_frozen BK205.out 4)
                      all_goals (have hfz43_5 := blk_frozen BK205.out 5)
                      all_goals (have hfz43_6 := blk_frozen BK205.out 6)
                      all_goals (have hfz43_7 := blk_frozen BK205.out 7)
                      all_goals (have hfz43_8 := blk_frozen BK205.out 8)
                      all_goals (have hfz43_9 := blk_frozen BK205.out 9)
                      all_goals (have hfz43_10 := blk_frozen BK205.out 10)
                      all_goals (have hfz43_11 := blk_frozen BK205.out 11)
                      all_goals (have hfz43_12 := blk_frozen BK205.out 12)
                      all_goals (go_wp2_with (first | ((with_reducible refine gate_callee (f := 29) rfl ?_); refine goesL_ (some 50) rfl rfl Try.func29 (by kernel_rfl) rfl #[.agg #[.int .i64 t190, .int .i64 t191, .int .i64 t192, .int .i64 t193, .int .i64 t194, .int .i64 t195, .int .u32 t196, .int .u32 t197, .int .u32 t198, .int .u64 t199, .int .u64 t200, .int .u64 t201, .int .u64 t202]] rfl (by (try simp only [List.map_toArray, List.map_cons, List.map_nil]); first | done | rfl | (simp only [List.length_drop, List.length_take]; rfl)) ?_; (with_reducible refine (header_Encode.calls kj10 t190 t191 t192 t193 t194 t195 t196 t197 t198 t199 t200 t201 t202 t222 t223 _ A32.out).mono ?_); rintro e w44 ⟨rfl, hb⟩; refine ⟨_, rfl, ?_⟩; have n0_ := Aside0.mk (blk_below (g := gb205) (o := .cells #[.int .i64 t190, .int .i64 t191, .int .i64 t192, .int .i64 t193, .int .i64 t194, .int .i64 t195, .int .u32 t196, .int .u32 t197, .int .u32 t198, .int .u64 t199, .int .u64 t200, .int .u64 t201, .int .u64 t202] 42 (0, 0)) (by (with_reducible repeat (first | refine blk_drewN ?_ _ | refine blk_drew ?_ | refine blk_alloc ?_ _)); exact BK205.out) hb); have n1_ := Aside0.mk (blk_below (g := gb221) (o := .cells #[.int .i64 t206, .int .i64 t207, .int .i64 t208, .int .i64 t209, .int .i64 t210, .int .i64 t211, .int .u32 t212, .int .u32 t213, .int .u32 t214, .int .u64 t215, .int .u64 t216, .int .u64 t217, .int .u64 t218] 42 (0, 0)) (by (with_reducible repeat (first | refine blk_drewN ?_ _ | refine blk_drew ?_ | refine blk_alloc ?_ _)); exact BK221.out) hb); have n2_ := Aside0.mk (below_step (by repeat (first | (with_reducible first | exact HB.out | apply below_alloc | apply pw_below_drewN | apply below_drew1 | refine below_set ?_ GE205.out | refine below_set ?_ GE221.out) | exact HB.out)) hb); clear BK205; clear BK221; clear HB; have BK205 := n0_; have BK221 := n1_; have HB := n2_; clear n0_ n1_ n2_; (try clear hb); (try clear hb2); (try clear hk); (try clear hi))))
                      all_goals (go_ret)
                      all_goals (exact ⟨by first | rfl | (simp [errW_none, errW_some] <;> rfl) | (simp [*, errW_none, errW_some] <;> rfl), by repeat (first | (with_reducible first | exact HB.out | apply below_alloc | apply pw_below_drewN | apply below_drew1 | refine below_set ?_ GE205.out | refine below_set ?_ GE221.out) | exact HB.out)⟩)
                  · rw [if_neg c34] at H
                    exact absurd H (by simp)
                · rw [if_neg c33] at H
                  have c33b0 : (t223 == 0) = false := beq_eq_false_iff_ne.mpr c33
                  have c33b1 : (t223 != 0) = true := bne_iff_ne.mpr c33
                  first | exact absurd ((Option.some.inj H).trans hr.out) Bool.false_ne_true | skip
                  all_goals (obtain rfl := Option.some.inj H)
                  all_goals (have hnb45 := NB205_221.out)
                  all_goals (have hnc45 := NB221_205.out)
                  all_goals (have hcz46_0 : wc.cell? ⟨gb205, 0, none⟩ = some (.int .i64 t190) := (blk_cell BK205.out 0).trans rfl)
                  all_goals (have hcz46_1 : wc.cell? ⟨gb205, 1, none⟩ = some (.int .i64 t191) := (blk_cell BK205.out 1).trans rfl)
                  all_goals (have hcz46_2 : wc.cell? ⟨gb205, 2, none⟩ = some (.int .i64 t192) := (blk_cell BK205.out 2).trans rfl)
                  all_goals (have hcz46_3 : wc.cell? ⟨gb205, 3, none⟩ = some (.int .i64 t193) := (blk_cell BK205.out 3).trans rfl)
                  all_goals (have hcz46_4 : wc.cell? ⟨gb205, 4, none⟩ = some (.int .i64 t194) := (blk_cell BK205.out 4).trans rfl)
                  all_goals (have hcz46_5 : wc.cell? ⟨gb205, 5, none⟩ = some (.int .i64 t195) := (blk_cell BK205.out 5).trans rfl)
                  all_goals (have hcz46_6 : wc.cell? ⟨gb205, 6, none⟩ = some (.int .u32 t196) := (blk_cell BK205.out 6).trans rfl)
                  all_goals (have hcz46_7 : wc.cell? ⟨gb205, 7, none⟩ = some (.int .u32 t197) := (blk_cell BK205.out 7).trans rfl)
                  all_goals (have hcz46_8 : wc.cell? ⟨gb205, 8, none⟩ = some (.int .u32 t198) := (blk_cell BK205.out 8).trans rfl)
                  all_goals (have hcz46_9 : wc.cell? ⟨gb205, 9, none⟩ = some (.int .u64 t199) := (blk_cell BK205.out 9).trans rfl)
                  all_goals (have hcz46_10 : wc.cell? ⟨gb205, 10, none⟩ = some (.int .u64 t200) := (blk_cell BK205.out 10).trans rfl)
                  all_goals (have hcz46_11 : wc.cell? ⟨gb205, 11, none⟩ = some (.int .u64 t201) := (blk_cell BK205.out 11).trans rfl)
                  all_goals (have hcz46_12 : wc.cell? ⟨gb205, 12, none⟩ = some (.int .u64 t202) := (blk_cell BK205.out 12).trans rfl)
                  all_goals (have hfz46_0 := blk_frozen BK205.out 0)
                  all_goals (have hfz46_1 := blk_frozen BK205.out 1)
                  all_goals (have hfz46_2 := blk_frozen BK205.out 2)
                  all_goals (have hfz46_3 := blk_frozen BK205.out 3)
                  all_goals (have hfz46_4 := blk_frozen BK205.out 4)
                  all_goals (have hfz46_5 := blk_frozen BK205.out 5)
                  all_goals (have hfz46_6 := blk_frozen BK205.out 6)
                  all_goals (have hfz46_7 := blk_frozen BK205.out 7)
                  all_goals (have hfz46_8 := blk_frozen BK205.out 8)
                  all_goals (have hfz46_9 := blk_frozen BK205.out 9)
                  all_goals (have hfz46_10 := blk_frozen BK205.out 10)
                  all_goals (have hfz46_11 := blk_frozen BK205.out 11)
                  all_goals (have hfz46_12 := blk_frozen BK205.out 12)
                  all_goals (go_wp2_with (first | ((with_reducible refine gate_callee (f := 29) rfl ?_); refine goesL_ (some 50) rfl rfl Try.func29 (by kernel_rfl) rfl #[.agg #[.int .i64 t190, .int .i64 t191, .int .i64 t192, .int .i64 t193, .int .i64 t194, .int .i64 t195, .int .u32 t196, .int .u32 t197, .int .u32 t198, .int .u64 t199, .int .u64 t200, .int .u64 t201, .int .u64 t202]] rfl (by (try simp only [List.map_toArray, List.map_cons, List.map_nil]); first | done | rfl | (simp only [List.length_drop, List.length_take]; rfl)) ?_; (with_reducible refine (header_Encode.calls kj10 t190 t191 t192 t193 t194 t195 t196 t197 t198 t199 t200 t201 t202 t222 t223 _ A32.out).mono ?_); rintro e w47 ⟨rfl, hb⟩; refine ⟨_, rfl, ?_⟩; have n0_ := Aside0.mk (blk_below (g := gb205) (o := .cells #[.int .i64 t190, .int .i64 t191, .int .i64 t192, .int .i64 t193, .int .i64 t194, .int .i64 t195, .int .u32 t196, .int .u32 t197, .int .u32 t198, .int .u64 t199, .int .u64 t200, .int .u64 t201, .int .u64 t202] 42 (0, 0)) (by (with_reducible repeat (first | refine blk_drewN ?_ _ | refine blk_drew ?_ | refine blk_alloc ?_ _)); exact BK205.out) hb); have n1_ := Aside0.mk (blk_below (g := gb221) (o := .cells #[.int .i64 t206, .int .i64 t207, .int .i64 t208, .int .i64 t209, .int .i64 t210, .int .i64 t211, .int .u32 t212, .int .u32 t213, .int .u32 t214, .int .u64 t215, .int .u64 t216, .int .u64 t217, .int .u64 t218] 42 (0, 0)) (by (with_reducible repeat (first | refine blk_drewN ?_ _ | refine blk_drew ?_ | refine blk_alloc ?_ _)); exact BK221.out) hb); have n2_ := Aside0.mk (below_step (by repeat (first | (with_reducible first | exact HB.out | apply below_alloc | apply pw_below_drewN | apply below_drew1 | refine below_set ?_ GE205.out | refine below_set ?_ GE221.out) | exact HB.out)) hb); clear BK205; clear BK221; clear HB; have BK205 := n0_; have BK221 := n1_; have HB := n2_; clear n0_ n1_ n2_; (try clear hb); (try clear hb2); (try clear hk); (try clear hi))))
                  all_goals (go_ret)
                  all_goals (exact ⟨by first | rfl | (simp [errW_none, errW_some] <;> rfl) | (simp [*, errW_none, errW_some] <;> rfl), by repeat (first | (with_reducible first | exact HB.out | apply below_alloc | apply pw_below_drewN | apply below_drew1 | refine below_set ?_ GE205.out | refine below_set ?_ GE221.out) | exact HB.out)⟩)
              · rw [if_neg c31] at H
                have c31b0 : (t204 == 0) = false := beq_eq_false_iff_ne.mpr c31
                have c31b1 : (t204 != 0) = true := bne_iff_ne.mpr c31
                first | exact absurd ((Option.some.inj H).trans hr.out) Bool.false_ne_true | skip
                all_goals (obtain rfl := Option.some.inj H)
                all_goals (go_wp2)
                all_goals (go_ret)
                all_goals (exact ⟨by first | rfl | (simp [errW_none, errW_some] <;> rfl) | (simp [*, errW_none, errW_some] <;> rfl), by repeat (first | (with_reducible first | exact HB.out | apply below_alloc | apply pw_below_drewN | apply below_drew1 | refine below_set ?_ GE205.out | refine below_set ?_ GE221.out) | exact HB.out)⟩)

/-- THE ONE PURE STATEMENT of analemmalaw05_HeaderDecodes: yours. -/
def analemmalaw05_HeaderDecodes.Pure : Prop := ∀ (a0 : ByteArray), a0.size ≤ 140737488351232 → ∃ k, analemmalaw05_HeaderDecodes.f k a0 = some true
theorem analemmalaw05_HeaderDecodes.walk (P : analemmalaw05_HeaderDecodes.Pure) (a0 : ByteArray) (w : World) (w0 : a0.size ≤ 140737488351232) :
    Calls Try.prog 10 #[.string a0] w fun e w' => e = .returned (.bool true) ∧ Below w.heap.size w w' := by
  obtain ⟨k, h⟩ := P a0 w0
  refine (analemmalaw05_HeaderDecodes.calls k a0 true w h (Aside0.mk rfl)).mono ?_
  rintro e w' ⟨rfl, hd⟩
  exact ⟨rfl, hd⟩

/-! ### analemmaref05_Ask: function 37 -/
def analemmaref05_Ask.f (k : Nat) (a0 : Int) (a1 : Int) (a2 : Int) : Option (ByteArray × Int) := (analemmaref05_Encode.f k 0 a0 3 0 a1 0 0 0 0 0 0 0 a2).bind fun bt225 => (some (bt225.1, bt225.2))
theorem analemmaref05_Ask.mono : ∀ a0 a1 a2 k, LeO (analemmaref05_Ask.f k a0 a1 a2) (analemmaref05_Ask.f (k + 1) a0 a1 a2) := by
  intro a0 a1 a2 k
  unfold analemmaref05_Ask.f
  repeat' first
      | (with_reducible exact analemmaref05_Encode.mono _ _ _ _ _ _ _ _ _ _ _ _ _ _)
      | (with_reducible exact LeO.refl _)
      | (with_reducible exact LeO.none _)
      | (with_reducible refine LeO.ite ?_ ?_)
      | (with_reducible refine LeO.bind ?_ (fun _ => ?_))
      | exact analemmaref05_Encode.mono _ _ _ _ _ _ _ _ _ _ _ _ _ _
      | exact LeO.none _
      | refine LeO.ite ?_ ?_
      | refine LeO.bind ?_ (fun _ => ?_)
set_option maxHeartbeats 8000000 in
set_option maxRecDepth 100000 in
theorem analemmaref05_Ask.calls (k : Nat) (a0 : Int) (a1 : Int) (a2 : Int) (r1 : ByteArray) (r2 : Int) (w : World) (h : analemmaref05_Ask.f k a0 a1 a2 = some (r1, r2)) :
    Calls Try.prog 37 #[.int .i64 a0, .int .i64 a1, .int .u64 a2] w fun e w' => e = .returned (.tuple #[.string r1, .int .i64 r2]) ∧ Below w.heap.size w w' := by
  have hu42 := Try.underlying42
  have HB := Aside0.mk (Below.refl w.heap.size w)
  have H : ((analemmaref05_Encode.f k 0 a0 3 0 a1 0 0 0 0 0 0 0 a2).bind fun bt225 => (some (bt225.1, bt225.2))) = some (r1, r2) := h
  clear h
  replace H := Option.bind_eq_some_iff.mp H
  obtain ⟨⟨t225, t226⟩, A40, H⟩ := H
  replace H : (some (t225, t226)) = some (r1, r2) := H
  have A4 := Aside0.mk A40
  clear A40
  simp only [Option.some.injEq, Prod.mk.injEq] at H
  obtain ⟨rfl, rfl⟩ := H
  go_enter Try.func37, Try.ntmps37
  go_wp2_with (first | ((with_reducible refine gate_callee (f := 30) rfl ?_); refine goesL_ (some 12) rfl rfl Try.func30 (by kernel_rfl) rfl #[.agg #[.int .i64 0, .int .i64 a0, .int .i64 3, .int .i64 0, .int .i64 a1, .int .i64 0, .int .u32 0, .int .u32 0, .int .u32 0, .int .u64 0, .int .u64 0, .int .u64 0, .int .u64 a2]] rfl (by (try simp only [List.map_toArray, List.map_cons, List.map_nil]); first | done | rfl | (simp only [List.length_drop, List.length_take]; rfl)) ?_; (with_reducible refine (analemmaref05_Encode.calls k 0 a0 3 0 a1 0 0 0 0 0 0 0 a2 t225 t226 _ A4.out).mono ?_); rintro e w5 ⟨rfl, hb⟩; refine ⟨_, rfl, ?_⟩; have n0_ := Aside0.mk (below_step (by repeat (first | (with_reducible first | exact HB.out | apply below_alloc | apply pw_below_drewN | apply below_drew1) | exact HB.out)) hb); clear HB; have HB := n0_; clear n0_; (try clear hb); (try clear hb2); (try clear hk); (try clear hi)))
  go_ret2
  exact ⟨by first | rfl | (simp [errW_none, errW_some] <;> rfl) | (simp [*, errW_none, errW_some] <;> rfl), by repeat (first | (with_reducible first | exact HB.out | apply below_alloc | apply pw_below_drewN | apply below_drew1) | exact HB.out)⟩

/-! ### header_Ref: function 38 -/
/-- A text and four zero bytes, cut to four bytes. -/
def header_Ref.four (s : ByteArray) : ByteArray := (s ++ (⟨#[0, 0, 0, 0]⟩ : ByteArray)).extract 0 4
theorem header_Ref.sz (s : ByteArray) : (header_Ref.four s).size = 4 := by
  unfold header_Ref.four
  rw [ByteArray.size_extract, ByteArray.size_append]
  have : (⟨#[0, 0, 0, 0]⟩ : ByteArray).size = 4 := rfl
  omega
def header_Ref.f (a0 : ByteArray) : Option (Int) := if a0.size ≤ 1099511627776 then some (header_get.num (header_Ref.four a0) 0 4 % 4294967296) else none
set_option maxHeartbeats 16000000 in
set_option maxRecDepth 100000 in
theorem header_Ref.calls (a0 : ByteArray) (r : Int) (w : World) (h : header_Ref.f a0 = some r) :
    Calls Try.prog 38 #[.string a0] w fun e w' => e = .returned (.int .u32 r) ∧ Below w.heap.size w w' := by
  unfold header_Ref.f at h
  by_cases c : a0.size ≤ 1099511627776
  · rw [if_pos c] at h
    obtain rfl := Option.some.inj h
    clear h
    have hz : ((a0 ++ (⟨#[0, 0, 0, 0]⟩ : ByteArray)).extract 0 4).size = 4 := header_Ref.sz a0
    have z4 : (⟨#[0, 0, 0, 0]⟩ : ByteArray).size = 4 := rfl
    have ha : (a0 ++ (⟨#[0, 0, 0, 0]⟩ : ByteArray)).size = a0.size + 4 := by rw [ByteArray.size_append, z4]
    have HZ := Aside0.mk hz
    clear hz
    go_enter Try.func38, Try.ntmps38
    go_wp2_with (first | (go_at_call 54; (with_reducible refine (header_get_uint32.at_ w.heap.size ((a0 ++ (⟨#[0, 0, 0, 0]⟩ : ByteArray)).extract 0 4) 4 4 rfl w _ w.heap.size (below_alloc (Below.refl _ _) _) (Nat.le_refl _) (blk_new w _) (by rw [HZ.out]; exact Nat.le_refl _) (by decide) (by rw [HZ.out]; decide)).mono ?_); rintro e w1 ⟨rfl, h1, h2, h3⟩; have H3 := Aside0.mk h3; clear h1 h2 h3))
    go_ret
    exact ⟨rfl, H3.out⟩
  · rw [if_neg c] at h
    cases h

end Go.Proofs.Ytilbkdlbbnkgdaa.MHeader
