/- Functions that the statements of this seat reach, each as a plain Lean function, with a proof that the Go code comes to its answers; no condition. -/
import Derived.Test.YtoddgpaopejeoaaMClux0
namespace Go.Proofs.Ytoddgpaopejeoaa.MClu
open Go.RowKit Go.Proofs.YtoddgpaopejeoaaW.PrintWords Go.Proofs.YtoddgpaopejeoaaW.PrintLast Go.Proofs.YtoddgpaopejeoaaW.PrintMore
attribute [local go_sem] max2_int min2_int max_two min_two max_three min_three max_four min_four   -- for this text's walks alone
set_option linter.unusedVariables false
set_option linter.unusedSimpArgs false

/-! ### analemmaref02_size: function 67 -/
def analemmaref02_size.f (a0 : Int) : Option (Int) := if a0 < 0 then (some (IntKind.u64.wrap (-(IntKind.u64.wrap (a0))))) else (some (IntKind.u64.wrap (a0)))
set_option maxHeartbeats 8000000 in
set_option maxRecDepth 100000 in
theorem analemmaref02_size.calls (a0 : Int) (r : Int) (w : World) (h : analemmaref02_size.f a0 = some r) :
    Calls Try.prog 67 #[.int .i64 a0] w fun e w' => e = .returned (.int .u64 r) ∧ Drawn0 w w' := by
  have H : (if a0 < 0 then (some (IntKind.u64.wrap (-(IntKind.u64.wrap (a0))))) else (some (IntKind.u64.wrap (a0)))) = some r := h
  clear h
  by_cases c2 : a0 < 0
  · rw [if_pos c2] at H
    have c2b0 : decide (a0 < 0) = true := decide_eq_true c2
    clear c2
    obtain rfl := Option.some.inj H
    go_enter Try.func67, Try.ntmps67
    go_wp2
    go_ret
    exact ⟨by first | rfl | (simp; done) | (simp [*]; done), by repeat (first | exact Drawn0.refl _ | apply Drawn0.step)⟩
  · rw [if_neg c2] at H
    have c2b0 : decide (a0 < 0) = false := decide_eq_false c2
    clear c2
    obtain rfl := Option.some.inj H
    go_enter Try.func67, Try.ntmps67
    go_wp2
    go_ret
    exact ⟨by first | rfl | (simp; done) | (simp [*]; done), by repeat (first | exact Drawn0.refl _ | apply Drawn0.step)⟩

/-! ### analemmaref02_Cut: function 68 -/
mutual
def analemmaref02_Cut.j0 : Nat → Bool → Int → Bool → Option (Int)
  | 0, _, _, _ => none
  | k + 1, x0, x1, x14 => if x14 = true then (analemmaref02_Cut.j1 k x0 (IntKind.u64.wrap (x1 + 1))) else (analemmaref02_Cut.j1 k x0 x1)
def analemmaref02_Cut.j1 : Nat → Bool → Int → Option (Int)
  | 0, _, _ => none
  | k + 1, x0, x1 => if x1 > 9223372036854775807 then (if x0 = true then (some (-9223372036854775807)) else (some 9223372036854775807)) else (if x0 = true then (some (wrap64 (-(wrap64 (x1))))) else (some (wrap64 (x1))))
end
def analemmaref02_Cut.f (k : Nat) (a0 : Bool) (a1 : Int) (a2 : Bool) : Option (Int) := if a0 = true then (if a2 = true then (analemmaref02_Cut.j0 k a0 a1 (decide (a1 < 9223372036854775808))) else (analemmaref02_Cut.j0 k a0 a1 false)) else (analemmaref02_Cut.j0 k a0 a1 false)
theorem analemmaref02_Cut.mono_l : ∀ k, (∀ y0 y1 y2, LeO (analemmaref02_Cut.j0 k y0 y1 y2) (analemmaref02_Cut.j0 (k + 1) y0 y1 y2)) ∧ (∀ y0 y1, LeO (analemmaref02_Cut.j1 k y0 y1) (analemmaref02_Cut.j1 (k + 1) y0 y1))
  | 0 => ⟨fun _ _ _ r h => by simp [analemmaref02_Cut.j0] at h, fun _ _ r h => by simp [analemmaref02_Cut.j1] at h⟩
  | k + 1 => by
    obtain ⟨ih0, ih1⟩ := analemmaref02_Cut.mono_l k
    refine ⟨?_, ?_⟩
    · intro y0 y1 y2
      unfold analemmaref02_Cut.j0
      repeat' first
      | (with_reducible exact ih0 _ _ _)
      | (with_reducible exact ih1 _ _)
      | (with_reducible exact LeO.refl _)
      | (with_reducible exact LeO.none _)
      | (with_reducible refine LeO.ite ?_ ?_)
      | (with_reducible refine LeO.bind ?_ (fun _ => ?_))
      | exact ih0 _ _ _
      | exact ih1 _ _
      | exact LeO.none _
      | refine LeO.ite ?_ ?_
      | refine LeO.bind ?_ (fun _ => ?_)
    · intro y0 y1
      unfold analemmaref02_Cut.j1
      repeat' first
      | (with_reducible exact ih0 _ _ _)
      | (with_reducible exact ih1 _ _)
      | (with_reducible exact LeO.refl _)
      | (with_reducible exact LeO.none _)
      | (with_reducible refine LeO.ite ?_ ?_)
      | (with_reducible refine LeO.bind ?_ (fun _ => ?_))
      | exact ih0 _ _ _
      | exact ih1 _ _
      | exact LeO.none _
      | refine LeO.ite ?_ ?_
      | refine LeO.bind ?_ (fun _ => ?_)
theorem analemmaref02_Cut.mono : ∀ a0 a1 a2 k, LeO (analemmaref02_Cut.f k a0 a1 a2) (analemmaref02_Cut.f (k + 1) a0 a1 a2) := by
  intro a0 a1 a2 k
  obtain ⟨ih0, ih1⟩ := analemmaref02_Cut.mono_l k
  unfold analemmaref02_Cut.f
  repeat' first
      | (with_reducible exact ih0 _ _ _)
      | (with_reducible exact ih1 _ _)
      | (with_reducible exact LeO.refl _)
      | (with_reducible exact LeO.none _)
      | (with_reducible refine LeO.ite ?_ ?_)
      | (with_reducible refine LeO.bind ?_ (fun _ => ?_))
      | exact ih0 _ _ _
      | exact ih1 _ _
      | exact LeO.none _
      | refine LeO.ite ?_ ?_
      | refine LeO.bind ?_ (fun _ => ?_)
set_option maxHeartbeats 8000000 in
set_option maxRecDepth 100000 in
theorem analemmaref02_Cut.calls (k : Nat) (a0 : Bool) (a1 : Int) (a2 : Bool) (r : Int) (w : World) (h : analemmaref02_Cut.f k a0 a1 a2 = some r) :
    Calls Try.prog 68 #[.bool a0, .int .u64 a1, .bool a2] w fun e w' => e = .returned (.int .i64 r) ∧ Drawn0 w w' := by
  have H : (if a0 = true then (if a2 = true then (analemmaref02_Cut.j0 k a0 a1 (decide (a1 < 9223372036854775808))) else (analemmaref02_Cut.j0 k a0 a1 false)) else (analemmaref02_Cut.j0 k a0 a1 false)) = some r := h
  clear h
  have HC4 := Aside0.mk H
  clear H
  go_enter Try.func68, Try.ntmps68
  go_upto_region 1 with (fail)
  go_cut [14] (fun v14 wc => ∃ (kq : Nat) (x14_3 : Bool), v14 = .bool x14_3 ∧ Aside0 (analemmaref02_Cut.j0 kq a0 a1 x14_3 = some r) ∧ Aside0 (kq ≤ k) ∧ Drawn0 w wc)
  case first =>
    have H := HC4.out
    clear HC4
    by_cases c5 : a0 = true
    · subst c5
      have H1 : (if a2 = true then (analemmaref02_Cut.j0 k true a1 (decide (a1 < 9223372036854775808))) else (analemmaref02_Cut.j0 k true a1 false)) = some r := by rw [if_pos rfl] at H; exact H
      clear H
      have H := H1
      clear H1
      by_cases c6 : a2 = true
      · subst c6
        have H1 : (analemmaref02_Cut.j0 k true a1 (decide (a1 < 9223372036854775808))) = some r := by rw [if_pos rfl] at H; exact H
        clear H
        have H := H1
        clear H1
        have H' := Aside0.mk H
        clear H
        go_wp2
        go_meet
        case rel => exact ⟨_, (decide (a1 < 9223372036854775808)), (by first | rfl | (simp; done) | (simp [*]; done)), H', ⟨by first | omega | exact Nat.le_refl _⟩, by repeat (first | exact Drawn0.refl _ | apply Drawn0.step)⟩
      · replace c6 := Bool.eq_false_iff.mpr c6
        subst c6
        have H1 : (analemmaref02_Cut.j0 k true a1 false) = some r := by rw [if_neg (show ¬ (false = true) by decide)] at H; exact H
        clear H
        have H := H1
        clear H1
        have H' := Aside0.mk H
        clear H
        go_wp2
        go_meet
        case rel => exact ⟨_, (false), (by first | rfl | (simp; done) | (simp [*]; done)), H', ⟨by first | omega | exact Nat.le_refl _⟩, by repeat (first | exact Drawn0.refl _ | apply Drawn0.step)⟩
    · replace c5 := Bool.eq_false_iff.mpr c5
      subst c5
      have H1 : (analemmaref02_Cut.j0 k false a1 false) = some r := by rw [if_neg (show ¬ (false = true) by decide)] at H; exact H
      clear H
      have H := H1
      clear H1
      have H' := Aside0.mk H
      clear H
      go_wp2
      go_meet
      case rel => exact ⟨_, (false), (by first | rfl | (simp; done) | (simp [*]; done)), H', ⟨by first | omega | exact Nat.le_refl _⟩, by repeat (first | exact Drawn0.refl _ | apply Drawn0.step)⟩
  case rest =>
    clear HC4
    try clear p2
    try clear c5
    try clear c6
    obtain ⟨kq, x14_3, rfl, HA, HJ3, ⟨mc3, rfl⟩⟩ := hcut
    cases kq with
    | zero => exact absurd HA.out (by simp [analemmaref02_Cut.j0])
    | succ kj3 =>
      have H := HA.out
      clear HA
      simp only [analemmaref02_Cut.j0] at H
      have HC7 := Aside0.mk H
      clear H
      go_upto_if 14 with (fail)
      go_cut [1] (fun v1 wc => ∃ (kq : Nat) (x1_6 : Int), v1 = .int .u64 x1_6 ∧ Aside0 (analemmaref02_Cut.j1 kq a0 x1_6 = some r) ∧ Aside0 (kq ≤ kj3) ∧ Drawn0 w wc)
      case first =>
        have H := HC7.out
        clear HC7
        by_cases c8 : x14_3 = true
        · subst c8
          have H1 : (analemmaref02_Cut.j1 kj3 a0 (IntKind.u64.wrap (a1 + 1))) = some r := by rw [if_pos rfl] at H; exact H
          clear H
          have H := H1
          clear H1
          have H' := Aside0.mk H
          clear H
          go_wp2
          go_meet
          case rel => exact ⟨_, (IntKind.u64.wrap (a1 + 1)), (by first | rfl | (simp; done) | (simp [*]; done)), H', ⟨by have := HJ3.out; first | omega | exact Nat.le_refl _⟩, by repeat (first | exact Drawn0.refl _ | apply Drawn0.step)⟩
        · replace c8 := Bool.eq_false_iff.mpr c8
          subst c8
          have H1 : (analemmaref02_Cut.j1 kj3 a0 a1) = some r := by rw [if_neg (show ¬ (false = true) by decide)] at H; exact H
          clear H
          have H := H1
          clear H1
          have H' := Aside0.mk H
          clear H
          go_wp2
          go_meet
          case rel => exact ⟨_, (a1), (by first | rfl | (simp; done) | (simp [*]; done)), H', ⟨by have := HJ3.out; first | omega | exact Nat.le_refl _⟩, by repeat (first | exact Drawn0.refl _ | apply Drawn0.step)⟩
      case rest =>
        clear HC7
        try clear p2
        try clear c3
        try clear c5
        try clear c6
        try clear c8
        try clear p2
        obtain ⟨kq, x1_6, rfl, HA, HJ6, ⟨mc6, rfl⟩⟩ := hcut
        cases kq with
        | zero => exact absurd HA.out (by simp [analemmaref02_Cut.j1])
        | succ kj6 =>
          have H := HA.out
          clear HA
          simp only [analemmaref02_Cut.j1] at H
          by_cases c9 : x1_6 > 9223372036854775807
          · rw [if_pos c9] at H
            have c9b0 : decide (9223372036854775807 < x1_6) = true := decide_eq_true c9
            clear c9
            by_cases c10 : a0 = true
            · subst c10
              have H1 : (some (-9223372036854775807)) = some r := by rw [if_pos rfl] at H; exact H
              clear H
              have H := H1
              clear H1
              obtain rfl := Option.some.inj H
              go_wp2
              go_ret
              exact ⟨by first | rfl | (simp; done) | (simp [*]; done), by repeat (first | exact Drawn0.refl _ | apply Drawn0.step)⟩
            · replace c10 := Bool.eq_false_iff.mpr c10
              subst c10
              have H1 : (some 9223372036854775807) = some r := by rw [if_neg (show ¬ (false = true) by decide)] at H; exact H
              clear H
              have H := H1
              clear H1
              obtain rfl := Option.some.inj H
              go_wp2
              go_ret
              exact ⟨by first | rfl | (simp; done) | (simp [*]; done), by repeat (first | exact Drawn0.refl _ | apply Drawn0.step)⟩
          · rw [if_neg c9] at H
            have c9b0 : decide (9223372036854775807 < x1_6) = false := decide_eq_false c9
            clear c9
            by_cases c11 : a0 = true
            · subst c11
              have H1 : (some (wrap64 (-(wrap64 (x1_6))))) = some r := by rw [if_pos rfl] at H; exact H
              clear H
              have H := H1
              clear H1
              obtain rfl := Option.some.inj H
              go_wp2
              go_ret
              exact ⟨by first | rfl | (simp; done) | (simp [*]; done), by repeat (first | exact Drawn0.refl _ | apply Drawn0.step)⟩
            · replace c11 := Bool.eq_false_iff.mpr c11
              subst c11
              have H1 : (some (wrap64 (x1_6))) = some r := by rw [if_neg (show ¬ (false = true) by decide)] at H; exact H
              clear H
              have H := H1
              clear H1
              obtain rfl := Option.some.inj H
              go_wp2
              go_ret
              exact ⟨by first | rfl | (simp; done) | (simp [*]; done), by repeat (first | exact Drawn0.refl _ | apply Drawn0.step)⟩

/-! ### analemmaref02_Sub: function 63 -/
def analemmaref02_Sub.f (k : Nat) (a0 : Int) (a1 : Int) : Option (Int) := if ((decide (a0 < 0)) == (decide (a1 < 0))) = true then (some (mx (wrap64 (a0 - a1)) (-9223372036854775807))) else ((analemmaref02_size.f a0).bind fun t141 => ((analemmaref02_size.f a1).bind fun t142 => ((analemmaref02_size.f a0).bind fun t143 => (if (IntKind.u64.wrap (t141 + t142)) < t143 then ((analemmaref02_Cut.f k (decide (a0 < 0)) 18446744073709551615 false).bind fun t144 => (some t144)) else ((analemmaref02_Cut.f k (decide (a0 < 0)) (IntKind.u64.wrap (t141 + t142)) false).bind fun t145 => (some t145))))))
theorem analemmaref02_Sub.mono : ∀ a0 a1 k, LeO (analemmaref02_Sub.f k a0 a1) (analemmaref02_Sub.f (k + 1) a0 a1) := by
  intro a0 a1 k
  unfold analemmaref02_Sub.f
  repeat' first
      | (with_reducible exact analemmaref02_Cut.mono _ _ _ _)
      | (with_reducible exact LeO.refl _)
      | (with_reducible exact LeO.none _)
      | (with_reducible refine LeO.ite ?_ ?_)
      | (with_reducible refine LeO.bind ?_ (fun _ => ?_))
      | exact analemmaref02_Cut.mono _ _ _ _
      | exact LeO.none _
      | refine LeO.ite ?_ ?_
      | refine LeO.bind ?_ (fun _ => ?_)
set_option maxHeartbeats 8000000 in
set_option maxRecDepth 100000 in
theorem analemmaref02_Sub.calls (k : Nat) (a0 : Int) (a1 : Int) (r : Int) (w : World) (h : analemmaref02_Sub.f k a0 a1 = some r) :
    Calls Try.prog 63 #[.int .i64 a0, .int .i64 a1] w fun e w' => e = .returned (.int .i64 r) ∧ Below w.heap.size w w' := by
  have HB := Aside0.mk (Below.refl w.heap.size w)
  have H : (if ((decide (a0 < 0)) == (decide (a1 < 0))) = true then (some (mx (wrap64 (a0 - a1)) (-9223372036854775807))) else ((analemmaref02_size.f a0).bind fun t141 => ((analemmaref02_size.f a1).bind fun t142 => ((analemmaref02_size.f a0).bind fun t143 => (if (IntKind.u64.wrap (t141 + t142)) < t143 then ((analemmaref02_Cut.f k (decide (a0 < 0)) 18446744073709551615 false).bind fun t144 => (some t144)) else ((analemmaref02_Cut.f k (decide (a0 < 0)) (IntKind.u64.wrap (t141 + t142)) false).bind fun t145 => (some t145))))))) = some r := h
  clear h
  by_cases c3 : ((decide (a0 < 0)) == (decide (a1 < 0))) = true
  · rw [if_pos c3] at H
    have c3b0 : ((decide (a0 < 0)) == (decide (a1 < 0))) = true := c3
    (try (have c3b1 : decide ((decide (a0 < 0)) = (decide (a1 < 0))) = true := by simpa using c3))
    (try (have c3b2 : ((decide (a0 < 0)) == (decide (a1 < 0))) = true := by simpa using c3))
    clear c3
    obtain ⟨ji4, hji4⟩ : ∃ j_ : Int, (mx (wrap64 (a0 - a1)) (-9223372036854775807)) = j_ := ⟨_, rfl⟩
    replace H : (some ji4) = some r := by first | (rw [hji4] at H; exact H) | (simp only [hji4] at H ⊢; exact H)
    have hji4_ : (if (wrap64 (a0 - a1)) < (-9223372036854775807) then (-9223372036854775807) else (wrap64 (a0 - a1))) = ji4 := hji4
    obtain rfl := Option.some.inj H
    go_enter Try.func63, Try.ntmps63
    go_wp2
    go_ret
    exact ⟨by first | rfl | (simp [errW_none, errW_some] <;> rfl) | (simp only [← hji4]; first | rfl | (simp [errW_none, errW_some] <;> rfl)) | (simp [*, errW_none, errW_some] <;> rfl), by repeat (first | (with_reducible first | exact HB.out | apply below_alloc | apply pw_below_drewN | apply below_drew1) | exact HB.out)⟩
  · rw [if_neg c3] at H
    have c3b0 : ((decide (a0 < 0)) == (decide (a1 < 0))) = false := by simpa using c3
    (try (have c3b1 : decide ((decide (a0 < 0)) = (decide (a1 < 0))) = false := by simpa using c3))
    (try (have c3b2 : ((decide (a0 < 0)) == (decide (a1 < 0))) = false := by simpa using c3))
    (try (have c3b3 : ¬ ((decide (a0 < 0)) = (decide (a1 < 0))) := by simpa using c3))
    clear c3
    replace H := Option.bind_eq_some_iff.mp H
    obtain ⟨t141, A50, H⟩ := H
    replace H : ((analemmaref02_size.f a1).bind fun t142 => ((analemmaref02_size.f a0).bind fun t143 => (if (IntKind.u64.wrap (t141 + t142)) < t143 then ((analemmaref02_Cut.f k (decide (a0 < 0)) 18446744073709551615 false).bind fun t144 => (some t144)) else ((analemmaref02_Cut.f k (decide (a0 < 0)) (IntKind.u64.wrap (t141 + t142)) false).bind fun t145 => (some t145))))) = some r := H
    have A5 := Aside0.mk A50
    clear A50
    replace H := Option.bind_eq_some_iff.mp H
    obtain ⟨t142, A60, H⟩ := H
    replace H : ((analemmaref02_size.f a0).bind fun t143 => (if (IntKind.u64.wrap (t141 + t142)) < t143 then ((analemmaref02_Cut.f k (decide (a0 < 0)) 18446744073709551615 false).bind fun t144 => (some t144)) else ((analemmaref02_Cut.f k (decide (a0 < 0)) (IntKind.u64.wrap (t141 + t142)) false).bind fun t145 => (some t145)))) = some r := H
    have A6 := Aside0.mk A60
    clear A60
    replace H := Option.bind_eq_some_iff.mp H
    obtain ⟨t143, A70, H⟩ := H
    replace H : (if (IntKind.u64.wrap (t141 + t142)) < t143 then ((analemmaref02_Cut.f k (decide (a0 < 0)) 18446744073709551615 false).bind fun t144 => (some t144)) else ((analemmaref02_Cut.f k (decide (a0 < 0)) (IntKind.u64.wrap (t141 + t142)) false).bind fun t145 => (some t145))) = some r := H
    have A7 := Aside0.mk A70
    clear A70
    by_cases c8 : (IntKind.u64.wrap (t141 + t142)) < t143
    · rw [if_pos c8] at H
      have c8b0 : decide ((IntKind.u64.wrap (t141 + t142)) < t143) = true := decide_eq_true c8
      clear c8
      replace H := Option.bind_eq_some_iff.mp H
      obtain ⟨t144, A90, H⟩ := H
      replace H : (some t144) = some r := H
      have A9 := Aside0.mk A90
      clear A90
      obtain rfl := Option.some.inj H
      go_enter Try.func63, Try.ntmps63
      go_wp2_with (first | ((with_reducible refine gate_callee (f := 67) rfl ?_); refine goesL_ (some 16) rfl rfl Try.func67 (by kernel_rfl) rfl #[.int .i64 a0] rfl (by (try simp only [List.map_toArray, List.map_cons, List.map_nil]); first | done | rfl | (simp only [List.length_drop, List.length_take]; rfl)) ?_; (with_reducible refine (analemmaref02_size.calls a0 t141 _ A5.out).mono ?_); rintro e w' ⟨rfl, ⟨nd, rfl⟩⟩; refine ⟨_, rfl, ?_⟩) | ((with_reducible refine gate_callee (f := 67) rfl ?_); refine goesL_ (some 18) rfl rfl Try.func67 (by kernel_rfl) rfl #[.int .i64 a1] rfl (by (try simp only [List.map_toArray, List.map_cons, List.map_nil]); first | done | rfl | (simp only [List.length_drop, List.length_take]; rfl)) ?_; (with_reducible refine (analemmaref02_size.calls a1 t142 _ A6.out).mono ?_); rintro e w' ⟨rfl, ⟨nd, rfl⟩⟩; refine ⟨_, rfl, ?_⟩) | ((with_reducible refine gate_callee (f := 67) rfl ?_); refine goesL_ (some 22) rfl rfl Try.func67 (by kernel_rfl) rfl #[.int .i64 a0] rfl (by (try simp only [List.map_toArray, List.map_cons, List.map_nil]); first | done | rfl | (simp only [List.length_drop, List.length_take]; rfl)) ?_; (with_reducible refine (analemmaref02_size.calls a0 t143 _ A7.out).mono ?_); rintro e w' ⟨rfl, ⟨nd, rfl⟩⟩; refine ⟨_, rfl, ?_⟩) | ((with_reducible refine gate_callee (f := 68) rfl ?_); refine goesL_ (some 27) rfl rfl Try.func68 (by kernel_rfl) rfl #[.bool (decide (a0 < 0)), .int .u64 18446744073709551615, .bool false] rfl (by (try simp only [List.map_toArray, List.map_cons, List.map_nil]); first | done | rfl | (simp only [List.length_drop, List.length_take]; rfl)) ?_; (with_reducible refine (analemmaref02_Cut.calls k (decide (a0 < 0)) 18446744073709551615 false t144 _ A9.out).mono ?_); rintro e w' ⟨rfl, ⟨nd, rfl⟩⟩; refine ⟨_, rfl, ?_⟩))
      go_ret
      exact ⟨by first | rfl | (simp [errW_none, errW_some] <;> rfl) | (simp [*, errW_none, errW_some] <;> rfl), by repeat (first | (with_reducible first | exact HB.out | apply below_alloc | apply pw_below_drewN | apply below_drew1) | exact HB.out)⟩
    · rw [if_neg c8] at H
      have c8b0 : decide ((IntKind.u64.wrap (t141 + t142)) < t143) = false := decide_eq_false c8
      clear c8
      replace H := Option.bind_eq_some_iff.mp H
      obtain ⟨t145, A100, H⟩ := H
      replace H : (some t145) = some r := H
      have A10 := Aside0.mk A100
      clear A100
      obtain rfl := Option.some.inj H
      go_enter Try.func63, Try.ntmps63
      go_wp2_with (first | ((with_reducible refine gate_callee (f := 67) rfl ?_); refine goesL_ (some 16) rfl rfl Try.func67 (by kernel_rfl) rfl #[.int .i64 a0] rfl (by (try simp only [List.map_toArray, List.map_cons, List.map_nil]); first | done | rfl | (simp only [List.length_drop, List.length_take]; rfl)) ?_; (with_reducible refine (analemmaref02_size.calls a0 t141 _ A5.out).mono ?_); rintro e w' ⟨rfl, ⟨nd, rfl⟩⟩; refine ⟨_, rfl, ?_⟩) | ((with_reducible refine gate_callee (f := 67) rfl ?_); refine goesL_ (some 18) rfl rfl Try.func67 (by kernel_rfl) rfl #[.int .i64 a1] rfl (by (try simp only [List.map_toArray, List.map_cons, List.map_nil]); first | done | rfl | (simp only [List.length_drop, List.length_take]; rfl)) ?_; (with_reducible refine (analemmaref02_size.calls a1 t142 _ A6.out).mono ?_); rintro e w' ⟨rfl, ⟨nd, rfl⟩⟩; refine ⟨_, rfl, ?_⟩) | ((with_reducible refine gate_callee (f := 67) rfl ?_); refine goesL_ (some 22) rfl rfl Try.func67 (by kernel_rfl) rfl #[.int .i64 a0] rfl (by (try simp only [List.map_toArray, List.map_cons, List.map_nil]); first | done | rfl | (simp only [List.length_drop, List.length_take]; rfl)) ?_; (with_reducible refine (analemmaref02_size.calls a0 t143 _ A7.out).mono ?_); rintro e w' ⟨rfl, ⟨nd, rfl⟩⟩; refine ⟨_, rfl, ?_⟩) | ((with_reducible refine gate_callee (f := 68) rfl ?_); refine goesL_ (some 27) rfl rfl Try.func68 (by kernel_rfl) rfl #[.bool (decide (a0 < 0)), .int .u64 (IntKind.u64.wrap (t141 + t142)), .bool false] rfl (by (try simp only [List.map_toArray, List.map_cons, List.map_nil]); first | done | rfl | (simp only [List.length_drop, List.length_take]; rfl)) ?_; (with_reducible refine (analemmaref02_Cut.calls k (decide (a0 < 0)) (IntKind.u64.wrap (t141 + t142)) false t145 _ A10.out).mono ?_); rintro e w' ⟨rfl, ⟨nd, rfl⟩⟩; refine ⟨_, rfl, ?_⟩))
      go_ret
      exact ⟨by first | rfl | (simp [errW_none, errW_some] <;> rfl) | (simp [*, errW_none, errW_some] <;> rfl), by repeat (first | (with_reducible first | exact HB.out | apply below_alloc | apply pw_below_drewN | apply below_drew1) | exact HB.out)⟩

/-! ### analemmaref01_Plus: function 81 -/
def analemmaref01_Plus.f (a0 : Int) (a1 : Int) (a2 : Int) (a3 : Int) : Option (Int × Int × Bool) := if (IntKind.u64.wrap (a1 + a3)) < a1 then (if (IntKind.u64.wrap (a0 + a2)) < a0 then (some (IntKind.u64.wrap ((IntKind.u64.wrap (a0 + a2)) + 1), IntKind.u64.wrap (a1 + a3), true)) else (some (IntKind.u64.wrap ((IntKind.u64.wrap (a0 + a2)) + 1), IntKind.u64.wrap (a1 + a3), decide ((IntKind.u64.wrap ((IntKind.u64.wrap (a0 + a2)) + 1)) < (IntKind.u64.wrap (a0 + a2)))))) else (if (IntKind.u64.wrap (a0 + a2)) < a0 then (some (IntKind.u64.wrap ((IntKind.u64.wrap (a0 + a2)) + 0), IntKind.u64.wrap (a1 + a3), true)) else (some (IntKind.u64.wrap ((IntKind.u64.wrap (a0 + a2)) + 0), IntKind.u64.wrap (a1 + a3), decide ((IntKind.u64.wrap ((IntKind.u64.wrap (a0 + a2)) + 0)) < (IntKind.u64.wrap (a0 + a2))))))
set_option maxHeartbeats 8000000 in
set_option maxRecDepth 100000 in
theorem analemmaref01_Plus.calls (a0 : Int) (a1 : Int) (a2 : Int) (a3 : Int) (r1 : Int) (r2 : Int) (r3 : Bool) (w : World) (h : analemmaref01_Plus.f a0 a1 a2 a3 = some (r1, r2, r3)) :
    Calls Try.prog 81 #[.int .u64 a0, .int .u64 a1, .int .u64 a2, .int .u64 a3] w fun e w' => e = .returned (.tuple #[.int .u64 r1, .int .u64 r2, .bool r3]) ∧ Drawn0 w w' := by
  have H : (if (IntKind.u64.wrap (a1 + a3)) < a1 then (if (IntKind.u64.wrap (a0 + a2)) < a0 then (some (IntKind.u64.wrap ((IntKind.u64.wrap (a0 + a2)) + 1), IntKind.u64.wrap (a1 + a3), true)) else (some (IntKind.u64.wrap ((IntKind.u64.wrap (a0 + a2)) + 1), IntKind.u64.wrap (a1 + a3), decide ((IntKind.u64.wrap ((IntKind.u64.wrap (a0 + a2)) + 1)) < (IntKind.u64.wrap (a0 + a2)))))) else (if (IntKind.u64.wrap (a0 + a2)) < a0 then (some (IntKind.u64.wrap ((IntKind.u64.wrap (a0 + a2)) + 0), IntKind.u64.wrap (a1 + a3), true)) else (some (IntKind.u64.wrap ((IntKind.u64.wrap (a0 + a2)) + 0), IntKind.u64.wrap (a1 + a3), decide ((IntKind.u64.wrap ((IntKind.u64.wrap (a0 + a2)) + 0)) < (IntKind.u64.wrap (a0 + a2))))))) = some (r1, r2, r3) := h
  clear h
  by_cases c5 : (IntKind.u64.wrap (a1 + a3)) < a1
  · rw [if_pos c5] at H
    have c5b0 : decide ((IntKind.u64.wrap (a1 + a3)) < a1) = true := decide_eq_true c5
    clear c5
    by_cases c6 : (IntKind.u64.wrap (a0 + a2)) < a0
    · rw [if_pos c6] at H
      have c6b0 : decide ((IntKind.u64.wrap (a0 + a2)) < a0) = true := decide_eq_true c6
      clear c6
      simp only [Option.some.injEq, Prod.mk.injEq] at H
      obtain ⟨rfl, rfl, rfl⟩ := H
      go_enter Try.func81, Try.ntmps81
      go_wp2
      go_ret3
      exact ⟨by first | rfl | (simp; done) | (simp [*]; done), by repeat (first | exact Drawn0.refl _ | apply Drawn0.step)⟩
    · rw [if_neg c6] at H
      have c6b0 : decide ((IntKind.u64.wrap (a0 + a2)) < a0) = false := decide_eq_false c6
      clear c6
      simp only [Option.some.injEq, Prod.mk.injEq] at H
      obtain ⟨rfl, rfl, rfl⟩ := H
      go_enter Try.func81, Try.ntmps81
      go_wp2
      go_ret3
      exact ⟨by first | rfl | (simp; done) | (simp [*]; done), by repeat (first | exact Drawn0.refl _ | apply Drawn0.step)⟩
  · rw [if_neg c5] at H
    have c5b0 : decide ((IntKind.u64.wrap (a1 + a3)) < a1) = false := decide_eq_false c5
    clear c5
    by_cases c7 : (IntKind.u64.wrap (a0 + a2)) < a0
    · rw [if_pos c7] at H
      have c7b0 : decide ((IntKind.u64.wrap (a0 + a2)) < a0) = true := decide_eq_true c7
      clear c7
      simp only [Option.some.injEq, Prod.mk.injEq] at H
      obtain ⟨rfl, rfl, rfl⟩ := H
      go_enter Try.func81, Try.ntmps81
      go_wp2
      go_ret3
      exact ⟨by first | rfl | (simp; done) | (simp [*]; done), by repeat (first | exact Drawn0.refl _ | apply Drawn0.step)⟩
    · rw [if_neg c7] at H
      have c7b0 : decide ((IntKind.u64.wrap (a0 + a2)) < a0) = false := decide_eq_false c7
      clear c7
      simp only [Option.some.injEq, Prod.mk.injEq] at H
      obtain ⟨rfl, rfl, rfl⟩ := H
      go_enter Try.func81, Try.ntmps81
      go_wp2
      go_ret3
      exact ⟨by first | rfl | (simp; done) | (simp [*]; done), by repeat (first | exact Drawn0.refl _ | apply Drawn0.step)⟩

/-! ### analemmaref01_bit: function 82 -/
def analemmaref01_bit.f (a0 : Int) (a1 : Int) : Option (Int) := if 0 ≤ a1 then (some (Go.bits .and .u64 (shr .u64 a0 a1) 1)) else (none)
set_option maxHeartbeats 8000000 in
set_option maxRecDepth 100000 in
theorem analemmaref01_bit.calls (a0 : Int) (a1 : Int) (r : Int) (w : World) (h : analemmaref01_bit.f a0 a1 = some r) :
    Calls Try.prog 82 #[.int .u64 a0, .int .i64 a1] w fun e w' => e = .returned (.int .u64 r) ∧ Drawn0 w w' := by
  have H : (if 0 ≤ a1 then (some (Go.bits .and .u64 (shr .u64 a0 a1) 1)) else (none)) = some r := h
  clear h
  by_cases c3 : 0 ≤ a1
  · rw [if_pos c3] at H
    have c3b0 := eq_true c3
    have c3b1 : decide (0 ≤ a1) = true := decide_eq_true c3
    clear c3
    obtain ⟨ji4, hji4⟩ : ∃ j_ : Int, (shr .u64 a0 a1) = j_ := ⟨_, rfl⟩
    replace H : (some (Go.bits .and .u64 (ji4) 1)) = some r := by first | (rw [hji4] at H; exact H) | (simp only [hji4] at H ⊢; exact H)
    have hji4_ : (a0 / 2 ^ min a1.toNat 64) = ji4 := hji4
    have hji4z : a1 ≤ 64 → (a0 / 2 ^ a1.toNat) = ji4 := shr_small hji4
    obtain rfl := Option.some.inj H
    go_enter Try.func82, Try.ntmps82
    go_wp2
    go_ret
    exact ⟨by first | rfl | (simp; done) | (simp only [← hji4] <;> (first | rfl | simp)) | (simp [*]; done), by repeat (first | exact Drawn0.refl _ | apply Drawn0.step)⟩
  · rw [if_neg c3] at H
    exact absurd H (by simp)

/-! ### analemmaref01_Mul: function 69 -/
def analemmaref01_Mul.l0 : Nat → Int → Int → Int → Int → Int → Option (Int × Int)
  | 0, _, _, _, _, _ => none
  | k + 1, x0, x1, x6, x7, x8 => if x8 ≥ 0 then ((analemmaref01_Plus.f x6 x7 x6 x7).bind fun bt146 => ((analemmaref01_bit.f x1 x8).bind fun t149 => (if t149 = 1 then ((analemmaref01_Plus.f bt146.1 bt146.2.1 0 x0).bind fun bt150 => (analemmaref01_Mul.l0 k x0 x1 bt150.1 bt150.2.1 (wrap64 (x8 - 1)))) else (analemmaref01_Mul.l0 k x0 x1 bt146.1 bt146.2.1 (wrap64 (x8 - 1)))))) else (some (x6, x7))
def analemmaref01_Mul.f (k : Nat) (a0 : Int) (a1 : Int) : Option (Int × Int) := analemmaref01_Mul.l0 k a0 a1 0 0 63
theorem analemmaref01_Mul.mono_l : ∀ k, (∀ y0 y1 y2 y3 y4, LeO (analemmaref01_Mul.l0 k y0 y1 y2 y3 y4) (analemmaref01_Mul.l0 (k + 1) y0 y1 y2 y3 y4))
  | 0 => fun _ _ _ _ _ r h => by simp [analemmaref01_Mul.l0] at h
  | k + 1 => by
    have ih0 := analemmaref01_Mul.mono_l k
    · intro y0 y1 y2 y3 y4
      unfold analemmaref01_Mul.l0
      repeat' first
      | (with_reducible exact ih0 _ _ _ _ _)
      | (with_reducible exact LeO.refl _)
      | (with_reducible exact LeO.none _)
      | (with_reducible refine LeO.ite ?_ ?_)
      | (with_reducible refine LeO.bind ?_ (fun _ => ?_))
      | exact ih0 _ _ _ _ _
      | exact LeO.none _
      | refine LeO.ite ?_ ?_
      | refine LeO.bind ?_ (fun _ => ?_)
theorem analemmaref01_Mul.mono : ∀ a0 a1 k, LeO (analemmaref01_Mul.f k a0 a1) (analemmaref01_Mul.f (k + 1) a0 a1) := by
  intro a0 a1 k
  have ih0 := analemmaref01_Mul.mono_l k
  unfold analemmaref01_Mul.f
  repeat' first
      | (with_reducible exact ih0 _ _ _ _ _)
      | (with_reducible exact LeO.refl _)
      | (with_reducible exact LeO.none _)
      | (with_reducible refine LeO.ite ?_ ?_)
      | (with_reducible refine LeO.bind ?_ (fun _ => ?_))
      | exact ih0 _ _ _ _ _
      | exact LeO.none _
      | refine LeO.ite ?_ ?_
      | refine LeO.bind ?_ (fun _ => ?_)
set_option maxHeartbeats 8000000 in
set_option maxRecDepth 100000 in
theorem analemmaref01_Mul.calls (k : Nat) (a0 : Int) (a1 : Int) (r1 : Int) (r2 : Int) (w : World) (h : analemmaref01_Mul.f k a0 a1 = some (r1, r2)) :
    Calls Try.prog 69 #[.int .u64 a0, .int .u64 a1] w fun e w' => e = .returned (.tuple #[.int .u64 r1, .int .u64 r2]) ∧ Drawn0 w w' := by
  have H : (analemmaref01_Mul.l0 k a0 a1 0 0 63) = some (r1, r2) := h
  clear h
  have H' := Aside0.mk H
  clear H
  go_enter Try.func69, Try.ntmps69
  go_wp2
  go_loopg [6, 7, 8] k (fun kq v6 v7 v8 w' => ∃ (x6_1 : Int) (x7_1 : Int) (x8_1 : Int), v6 = .int .u64 x6_1 ∧ v7 = .int .u64 x7_1 ∧ v8 = .int .i64 x8_1 ∧ Aside0 (analemmaref01_Mul.l0 kq a0 a1 x6_1 x7_1 x8_1 = some (r1, r2)) ∧ Aside0 (kq ≤ k) ∧ Drawn0 w w')
  case atStart => exact ⟨(0), (0), (63), (by first | rfl | (simp; done) | (simp [*]; done)), (by first | rfl | (simp; done) | (simp [*]; done)), (by first | rfl | (simp; done) | (simp [*]; done)), H', ⟨Nat.le_refl _⟩, by repeat (first | exact Drawn0.refl _ | apply Drawn0.step)⟩
  case round =>
    clear H'
    try clear p2
    obtain ⟨x6_1, x7_1, x8_1, rfl, rfl, rfl, HA, HK1, ⟨m1, rfl⟩⟩ := hrel
    cases gk with
    | zero => exact absurd HA.out (by simp [analemmaref01_Mul.l0])
    | succ k1 =>
      have H := HA.out
      clear HA
      simp only [analemmaref01_Mul.l0] at H
      by_cases c3 : x8_1 ≥ 0
      · rw [if_pos c3] at H
        have c3b0 : decide (0 ≤ x8_1) = true := decide_eq_true c3
        clear c3
        replace H := Option.bind_eq_some_iff.mp H
        obtain ⟨⟨t146, t147, t148⟩, A40, H⟩ := H
        replace H : ((analemmaref01_bit.f a1 x8_1).bind fun t149 => (if t149 = 1 then ((analemmaref01_Plus.f t146 t147 0 a0).bind fun bt150 => (analemmaref01_Mul.l0 k1 a0 a1 bt150.1 bt150.2.1 (wrap64 (x8_1 - 1)))) else (analemmaref01_Mul.l0 k1 a0 a1 t146 t147 (wrap64 (x8_1 - 1))))) = some (r1, r2) := H
        have A4 := Aside0.mk A40
        clear A40
        replace H := Option.bind_eq_some_iff.mp H
        obtain ⟨t149, A50, H⟩ := H
        replace H : (if t149 = 1 then ((analemmaref01_Plus.f t146 t147 0 a0).bind fun bt150 => (analemmaref01_Mul.l0 k1 a0 a1 bt150.1 bt150.2.1 (wrap64 (x8_1 - 1)))) else (analemmaref01_Mul.l0 k1 a0 a1 t146 t147 (wrap64 (x8_1 - 1)))) = some (r1, r2) := H
        have A5 := Aside0.mk A50
        clear A50
        by_cases c6 : t149 = 1
        · rw [if_pos c6] at H
          have c6b0 : (t149 == 1) = true := beq_iff_eq.mpr c6
          have c6b1 : (t149 != 1) = false := bne_eq_false_iff_eq.mpr c6
          clear c6
          replace H := Option.bind_eq_some_iff.mp H
          obtain ⟨⟨t150, t151, t152⟩, A70, H⟩ := H
          replace H : (analemmaref01_Mul.l0 k1 a0 a1 t150 t151 (wrap64 (x8_1 - 1))) = some (r1, r2) := H
          have A7 := Aside0.mk A70
          clear A70
          have H' := Aside0.mk H
          clear H
          go_wp2_with (first | ((with_reducible refine gate_callee (f := 81) rfl ?_); refine goesL_ (some 18) rfl rfl Try.func81 (by kernel_rfl) rfl #[.int .u64 x6_1, .int .u64 x7_1, .int .u64 x6_1, .int .u64 x7_1] rfl (by (try simp only [List.map_toArray, List.map_cons, List.map_nil]); first | done | rfl | (simp only [List.length_drop, List.length_take]; rfl)) ?_; (with_reducible refine (analemmaref01_Plus.calls x6_1 x7_1 x6_1 x7_1 t146 t147 t148 _ A4.out).mono ?_); rintro e w' ⟨rfl, ⟨nd, rfl⟩⟩; refine ⟨_, rfl, ?_⟩) | ((with_reducible refine gate_callee (f := 82) rfl ?_); refine goesL_ (some 24) rfl rfl Try.func82 (by kernel_rfl) rfl #[.int .u64 a1, .int .i64 x8_1] rfl (by (try simp only [List.map_toArray, List.map_cons, List.map_nil]); first | done | rfl | (simp only [List.length_drop, List.length_take]; rfl)) ?_; (with_reducible refine (analemmaref01_bit.calls a1 x8_1 t149 _ A5.out).mono ?_); rintro e w' ⟨rfl, ⟨nd, rfl⟩⟩; refine ⟨_, rfl, ?_⟩) | ((with_reducible refine gate_callee (f := 81) rfl ?_); refine goesL_ (some 30) rfl rfl Try.func81 (by kernel_rfl) rfl #[.int .u64 t146, .int .u64 t147, .int .u64 0, .int .u64 a0] rfl (by (try simp only [List.map_toArray, List.map_cons, List.map_nil]); first | done | rfl | (simp only [List.length_drop, List.length_take]; rfl)) ?_; (with_reducible refine (analemmaref01_Plus.calls t146 t147 0 a0 t150 t151 t152 _ A7.out).mono ?_); rintro e w' ⟨rfl, ⟨nd, rfl⟩⟩; refine ⟨_, rfl, ?_⟩))
          go_roundg k1
          case measure => have := HK1.out; omega
          case rel => exact ⟨(t150), (t151), (wrap64 (x8_1 - 1)), (by first | rfl | (simp; done) | (simp [*]; done)), (by first | rfl | (simp; done) | (simp [*]; done)), (by first | rfl | (simp; done) | (simp [*]; done)), H', ⟨by have := HK1.out; omega⟩, by repeat (first | exact Drawn0.refl _ | apply Drawn0.step)⟩
        · rw [if_neg c6] at H
          have c6b0 : (t149 == 1) = false := beq_eq_false_iff_ne.mpr c6
          have c6b1 : (t149 != 1) = true := bne_iff_ne.mpr c6
          have H' := Aside0.mk H
          clear H
          go_wp2_with (first | ((with_reducible refine gate_callee (f := 81) rfl ?_); refine goesL_ (some 18) rfl rfl Try.func81 (by kernel_rfl) rfl #[.int .u64 x6_1, .int .u64 x7_1, .int .u64 x6_1, .int .u64 x7_1] rfl (by (try simp only [List.map_toArray, List.map_cons, List.map_nil]); first | done | rfl | (simp only [List.length_drop, List.length_take]; rfl)) ?_; (with_reducible refine (analemmaref01_Plus.calls x6_1 x7_1 x6_1 x7_1 t146 t147 t148 _ A4.out).mono ?_); rintro e w' ⟨rfl, ⟨nd, rfl⟩⟩; refine ⟨_, rfl, ?_⟩) | ((with_reducible refine gate_callee (f := 82) rfl ?_); refine goesL_ (some 24) rfl rfl Try.func82 (by kernel_rfl) rfl #[.int .u64 a1, .int .i64 x8_1] rfl (by (try simp only [List.map_toArray, List.map_cons, List.map_nil]); first | done | rfl | (simp only [List.length_drop, List.length_take]; rfl)) ?_; (with_reducible refine (analemmaref01_bit.calls a1 x8_1 t149 _ A5.out).mono ?_); rintro e w' ⟨rfl, ⟨nd, rfl⟩⟩; refine ⟨_, rfl, ?_⟩))
          go_roundg k1
          case measure => have := HK1.out; omega
          case rel => exact ⟨(t146), (t147), (wrap64 (x8_1 - 1)), (by first | rfl | (simp; done) | (simp [*]; done)), (by first | rfl | (simp; done) | (simp [*]; done)), (by first | rfl | (simp; done) | (simp [*]; done)), H', ⟨by have := HK1.out; omega⟩, by repeat (first | exact Drawn0.refl _ | apply Drawn0.step)⟩
      · rw [if_neg c3] at H
        have c3b0 : decide (0 ≤ x8_1) = false := decide_eq_false c3
        clear c3
        simp only [Option.some.injEq, Prod.mk.injEq] at H
        obtain ⟨rfl, rfl⟩ := H
        go_wp2
        go_ret2
        exact ⟨by first | rfl | (simp; done) | (simp [*]; done), by repeat (first | exact Drawn0.refl _ | apply Drawn0.step)⟩

/-! ### analemmaref02_Mul: function 50 -/
def analemmaref02_Mul.f (k : Nat) (a0 : Int) (a1 : Int) : Option (Int) := (analemmaref02_size.f a0).bind fun t153 => ((analemmaref02_size.f a1).bind fun t154 => ((analemmaref01_Mul.f k t153 t154).bind fun bt155 => (if bt155.1 ≥ 2147483648 then ((analemmaref02_Cut.f k ((decide (a0 < 0)) != (decide (a1 < 0))) 9223372036854775808 false).bind fun t157 => (some t157)) else ((analemmaref02_Cut.f k ((decide (a0 < 0)) != (decide (a1 < 0))) (Go.bits .or .u64 (IntKind.u64.wrap (bt155.1 * 4294967296)) (bt155.2 / 4294967296)) ((IntKind.u64.wrap (bt155.2 * 4294967296)) != 0)).bind fun t158 => (some t158)))))
theorem analemmaref02_Mul.mono : ∀ a0 a1 k, LeO (analemmaref02_Mul.f k a0 a1) (analemmaref02_Mul.f (k + 1) a0 a1) := by
  intro a0 a1 k
  unfold analemmaref02_Mul.f
  repeat' first
      | (with_reducible exact analemmaref01_Mul.mono _ _ _)
      | (with_reducible exact analemmaref02_Cut.mono _ _ _ _)
      | (with_reducible exact LeO.refl _)
      | (with_reducible exact LeO.none _)
      | (with_reducible refine LeO.ite ?_ ?_)
      | (with_reducible refine LeO.bind ?_ (fun _ => ?_))
      | exact analemmaref01_Mul.mono _ _ _
      | exact analemmaref02_Cut.mono _ _ _ _
      | exact LeO.none _
      | refine LeO.ite ?_ ?_
      | refine LeO.bind ?_ (fun _ => ?_)
set_option maxHeartbeats 8000000 in
set_option maxRecDepth 100000 in
theorem analemmaref02_Mul.calls (k : Nat) (a0 : Int) (a1 : Int) (r : Int) (w : World) (h : analemmaref02_Mul.f k a0 a1 = some r) :
    Calls Try.prog 50 #[.int .i64 a0, .int .i64 a1] w fun e w' => e = .returned (.int .i64 r) ∧ Drawn0 w w' := by
  have H : ((analemmaref02_size.f a0).bind fun t153 => ((analemmaref02_size.f a1).bind fun t154 => ((analemmaref01_Mul.f k t153 t154).bind fun bt155 => (if bt155.1 ≥ 2147483648 then ((analemmaref02_Cut.f k ((decide (a0 < 0)) != (decide (a1 < 0))) 9223372036854775808 false).bind fun t157 => (some t157)) else ((analemmaref02_Cut.f k ((decide (a0 < 0)) != (decide (a1 < 0))) (Go.bits .or .u64 (IntKind.u64.wrap (bt155.1 * 4294967296)) (bt155.2 / 4294967296)) ((IntKind.u64.wrap (bt155.2 * 4294967296)) != 0)).bind fun t158 => (some t158)))))) = some r := h
  clear h
  replace H := Option.bind_eq_some_iff.mp H
  obtain ⟨t153, A30, H⟩ := H
  replace H : ((analemmaref02_size.f a1).bind fun t154 => ((analemmaref01_Mul.f k t153 t154).bind fun bt155 => (if bt155.1 ≥ 2147483648 then ((analemmaref02_Cut.f k ((decide (a0 < 0)) != (decide (a1 < 0))) 9223372036854775808 false).bind fun t157 => (some t157)) else ((analemmaref02_Cut.f k ((decide (a0 < 0)) != (decide (a1 < 0))) (Go.bits .or .u64 (IntKind.u64.wrap (bt155.1 * 4294967296)) (bt155.2 / 4294967296)) ((IntKind.u64.wrap (bt155.2 * 4294967296)) != 0)).bind fun t158 => (some t158))))) = some r := H
  have A3 := Aside0.mk A30
  clear A30
  replace H := Option.bind_eq_some_iff.mp H
  obtain ⟨t154, A40, H⟩ := H
  replace H : ((analemmaref01_Mul.f k t153 t154).bind fun bt155 => (if bt155.1 ≥ 2147483648 then ((analemmaref02_Cut.f k ((decide (a0 < 0)) != (decide (a1 < 0))) 9223372036854775808 false).bind fun t157 => (some t157)) else ((analemmaref02_Cut.f k ((decide (a0 < 0)) != (decide (a1 < 0))) (Go.bits .or .u64 (IntKind.u64.wrap (bt155.1 * 4294967296)) (bt155.2 / 4294967296)) ((IntKind.u64.wrap (bt155.2 * 4294967296)) != 0)).bind fun t158 => (some t158)))) = some r := H
  have A4 := Aside0.mk A40
  clear A40
  replace H := Option.bind_eq_some_iff.mp H
  obtain ⟨⟨t155, t156⟩, A50, H⟩ := H
  replace H : (if t155 ≥ 2147483648 then ((analemmaref02_Cut.f k ((decide (a0 < 0)) != (decide (a1 < 0))) 9223372036854775808 false).bind fun t157 => (some t157)) else ((analemmaref02_Cut.f k ((decide (a0 < 0)) != (decide (a1 < 0))) (Go.bits .or .u64 (IntKind.u64.wrap (t155 * 4294967296)) (t156 / 4294967296)) ((IntKind.u64.wrap (t156 * 4294967296)) != 0)).bind fun t158 => (some t158))) = some r := H
  have A5 := Aside0.mk A50
  clear A50
  by_cases c6 : t155 ≥ 2147483648
  · rw [if_pos c6] at H
    have c6b0 : decide (2147483648 ≤ t155) = true := decide_eq_true c6
    clear c6
    replace H := Option.bind_eq_some_iff.mp H
    obtain ⟨t157, A70, H⟩ := H
    replace H : (some t157) = some r := H
    have A7 := Aside0.mk A70
    clear A70
    obtain rfl := Option.some.inj H
    go_enter Try.func50, Try.ntmps50
    go_wp2_with (first | ((with_reducible refine gate_callee (f := 67) rfl ?_); refine goesL_ (some 10) rfl rfl Try.func67 (by kernel_rfl) rfl #[.int .i64 a0] rfl (by (try simp only [List.map_toArray, List.map_cons, List.map_nil]); first | done | rfl | (simp only [List.length_drop, List.length_take]; rfl)) ?_; (with_reducible refine (analemmaref02_size.calls a0 t153 _ A3.out).mono ?_); rintro e w' ⟨rfl, ⟨nd, rfl⟩⟩; refine ⟨_, rfl, ?_⟩) | ((with_reducible refine gate_callee (f := 67) rfl ?_); refine goesL_ (some 12) rfl rfl Try.func67 (by kernel_rfl) rfl #[.int .i64 a1] rfl (by (try simp only [List.map_toArray, List.map_cons, List.map_nil]); first | done | rfl | (simp only [List.length_drop, List.length_take]; rfl)) ?_; (with_reducible refine (analemmaref02_size.calls a1 t154 _ A4.out).mono ?_); rintro e w' ⟨rfl, ⟨nd, rfl⟩⟩; refine ⟨_, rfl, ?_⟩) | ((with_reducible refine gate_callee (f := 69) rfl ?_); refine goesL_ (some 13) rfl rfl Try.func69 (by kernel_rfl) rfl #[.int .u64 t153, .int .u64 t154] rfl (by (try simp only [List.map_toArray, List.map_cons, List.map_nil]); first | done | rfl | (simp only [List.length_drop, List.length_take]; rfl)) ?_; (with_reducible refine (analemmaref01_Mul.calls k t153 t154 t155 t156 _ A5.out).mono ?_); rintro e w' ⟨rfl, ⟨nd, rfl⟩⟩; refine ⟨_, rfl, ?_⟩) | ((with_reducible refine gate_callee (f := 68) rfl ?_); refine goesL_ (some 24) rfl rfl Try.func68 (by kernel_rfl) rfl #[.bool ((decide (a0 < 0)) != (decide (a1 < 0))), .int .u64 9223372036854775808, .bool false] rfl (by (try simp only [List.map_toArray, List.map_cons, List.map_nil]); first | done | rfl | (simp only [List.length_drop, List.length_take]; rfl)) ?_; (with_reducible refine (analemmaref02_Cut.calls k ((decide (a0 < 0)) != (decide (a1 < 0))) 9223372036854775808 false t157 _ A7.out).mono ?_); rintro e w' ⟨rfl, ⟨nd, rfl⟩⟩; refine ⟨_, rfl, ?_⟩))
    go_ret
    exact ⟨by first | rfl | (simp; done) | (simp [*]; done), by repeat (first | exact Drawn0.refl _ | apply Drawn0.step)⟩
  · rw [if_neg c6] at H
    have c6b0 : decide (2147483648 ≤ t155) = false := decide_eq_false c6
    clear c6
    replace H := Option.bind_eq_some_iff.mp H
    obtain ⟨t158, A80, H⟩ := H
    replace H : (some t158) = some r := H
    have A8 := Aside0.mk A80
    clear A80
    obtain rfl := Option.some.inj H
    go_enter Try.func50, Try.ntmps50
    go_wp2_with (first | ((with_reducible refine gate_callee (f := 67) rfl ?_); refine goesL_ (some 10) rfl rfl Try.func67 (by kernel_rfl) rfl #[.int .i64 a0] rfl (by (try simp only [List.map_toArray, List.map_cons, List.map_nil]); first | done | rfl | (simp only [List.length_drop, List.length_take]; rfl)) ?_; (with_reducible refine (analemmaref02_size.calls a0 t153 _ A3.out).mono ?_); rintro e w' ⟨rfl, ⟨nd, rfl⟩⟩; refine ⟨_, rfl, ?_⟩) | ((with_reducible refine gate_callee (f := 67) rfl ?_); refine goesL_ (some 12) rfl rfl Try.func67 (by kernel_rfl) rfl #[.int .i64 a1] rfl (by (try simp only [List.map_toArray, List.map_cons, List.map_nil]); first | done | rfl | (simp only [List.length_drop, List.length_take]; rfl)) ?_; (with_reducible refine (analemmaref02_size.calls a1 t154 _ A4.out).mono ?_); rintro e w' ⟨rfl, ⟨nd, rfl⟩⟩; refine ⟨_, rfl, ?_⟩) | ((with_reducible refine gate_callee (f := 69) rfl ?_); refine goesL_ (some 13) rfl rfl Try.func69 (by kernel_rfl) rfl #[.int .u64 t153, .int .u64 t154] rfl (by (try simp only [List.map_toArray, List.map_cons, List.map_nil]); first | done | rfl | (simp only [List.length_drop, List.length_take]; rfl)) ?_; (with_reducible refine (analemmaref01_Mul.calls k t153 t154 t155 t156 _ A5.out).mono ?_); rintro e w' ⟨rfl, ⟨nd, rfl⟩⟩; refine ⟨_, rfl, ?_⟩) | ((with_reducible refine gate_callee (f := 68) rfl ?_); refine goesL_ (some 34) rfl rfl Try.func68 (by kernel_rfl) rfl #[.bool ((decide (a0 < 0)) != (decide (a1 < 0))), .int .u64 (Go.bits .or .u64 (IntKind.u64.wrap (t155 * 4294967296)) (t156 / 4294967296)), .bool ((IntKind.u64.wrap (t156 * 4294967296)) != 0)] rfl (by (try simp only [List.map_toArray, List.map_cons, List.map_nil]); first | done | rfl | (simp only [List.length_drop, List.length_take]; rfl)) ?_; (with_reducible refine (analemmaref02_Cut.calls k ((decide (a0 < 0)) != (decide (a1 < 0))) (Go.bits .or .u64 (IntKind.u64.wrap (t155 * 4294967296)) (t156 / 4294967296)) ((IntKind.u64.wrap (t156 * 4294967296)) != 0) t158 _ A8.out).mono ?_); rintro e w' ⟨rfl, ⟨nd, rfl⟩⟩; refine ⟨_, rfl, ?_⟩))
    go_ret
    exact ⟨by first | rfl | (simp; done) | (simp [*]; done), by repeat (first | exact Drawn0.refl _ | apply Drawn0.step)⟩

/-! ### analemmaref01_Less: function 91 -/
def analemmaref01_Less.f (a0 : Int) (a1 : Int) (a2 : Int) (a3 : Int) : Option (Bool) := if a0 < a2 then (some true) else (if a0 = a2 then (some (decide (a1 < a3))) else (some false))
set_option maxHeartbeats 8000000 in
set_option maxRecDepth 100000 in
theorem analemmaref01_Less.calls (a0 : Int) (a1 : Int) (a2 : Int) (a3 : Int) (r : Bool) (w : World) (h : analemmaref01_Less.f a0 a1 a2 a3 = some r) :
    Calls Try.prog 91 #[.int .u64 a0, .int .u64 a1, .int .u64 a2, .int .u64 a3] w fun e w' => e = .returned (.bool r) ∧ Drawn0 w w' := by
  have H : (if a0 < a2 then (some true) else (if a0 = a2 then (some (decide (a1 < a3))) else (some false))) = some r := h
  clear h
  by_cases c5 : a0 < a2
  · rw [if_pos c5] at H
    have c5b0 : decide (a0 < a2) = true := decide_eq_true c5
    clear c5
    obtain rfl := Option.some.inj H
    go_enter Try.func91, Try.ntmps91
    go_wp2
    go_ret
    exact ⟨by first | rfl | (simp; done) | (simp [*]; done), by repeat (first | exact Drawn0.refl _ | apply Drawn0.step)⟩
  · rw [if_neg c5] at H
    have c5b0 : decide (a0 < a2) = false := decide_eq_false c5
    clear c5
    by_cases c6 : a0 = a2
    · rw [if_pos c6] at H
      have c6b0 : (a0 == a2) = true := beq_iff_eq.mpr c6
      have c6b1 : (a0 != a2) = false := bne_eq_false_iff_eq.mpr c6
      clear c6
      obtain rfl := Option.some.inj H
      go_enter Try.func91, Try.ntmps91
      go_wp2
      go_ret
      exact ⟨by first | rfl | (simp; done) | (simp [*]; done), by repeat (first | exact Drawn0.refl _ | apply Drawn0.step)⟩
    · rw [if_neg c6] at H
      have c6b0 : (a0 == a2) = false := beq_eq_false_iff_ne.mpr c6
      have c6b1 : (a0 != a2) = true := bne_iff_ne.mpr c6
      obtain rfl := Option.some.inj H
      go_enter Try.func91, Try.ntmps91
      go_wp2
      go_ret
      exact ⟨by first | rfl | (simp; done) | (simp [*]; done), by repeat (first | exact Drawn0.refl _ | apply Drawn0.step)⟩

/-! ### analemmaref01_Sqrt: function 87 -/
def analemmaref01_Sqrt.l0 : Nat → Int → Int → Int → Int → Option (Int)
  | 0, _, _, _, _ => none
  | k + 1, x0, x1, x5, x6 => if x6 ≥ 0 then (if 0 ≤ x6 then ((analemmaref01_Mul.f k (Go.bits .or .u64 x5 (shl .u64 1 x6)) (Go.bits .or .u64 x5 (shl .u64 1 x6))).bind fun bt159 => ((analemmaref01_Less.f x0 x1 bt159.1 bt159.2).bind fun t161 => (if t161 = true then (analemmaref01_Sqrt.l0 k x0 x1 x5 (wrap64 (x6 - 1))) else (analemmaref01_Sqrt.l0 k x0 x1 (Go.bits .or .u64 x5 (shl .u64 1 x6)) (wrap64 (x6 - 1)))))) else (none)) else (some x5)
def analemmaref01_Sqrt.f (k : Nat) (a0 : Int) (a1 : Int) : Option (Int) := analemmaref01_Sqrt.l0 k a0 a1 0 63
theorem analemmaref01_Sqrt.mono_l : ∀ k, (∀ y0 y1 y2 y3, LeO (analemmaref01_Sqrt.l0 k y0 y1 y2 y3) (analemmaref01_Sqrt.l0 (k + 1) y0 y1 y2 y3))
  | 0 => fun _ _ _ _ r h => by simp [analemmaref01_Sqrt.l0] at h
  | k + 1 => by
    have ih0 := analemmaref01_Sqrt.mono_l k
    · intro y0 y1 y2 y3
      unfold analemmaref01_Sqrt.l0
      repeat' first
      | (with_reducible exact ih0 _ _ _ _)
      | (with_reducible exact analemmaref01_Mul.mono _ _ _)
      | (with_reducible exact LeO.refl _)
      | (with_reducible exact LeO.none _)
      | (with_reducible refine LeO.ite ?_ ?_)
      | (with_reducible refine LeO.bind ?_ (fun _ => ?_))
      | exact ih0 _ _ _ _
      | exact analemmaref01_Mul.mono _ _ _
      | exact LeO.none _
      | refine LeO.ite ?_ ?_
      | refine LeO.bind ?_ (fun _ => ?_)
theorem analemmaref01_Sqrt.mono : ∀ a0 a1 k, LeO (analemmaref01_Sqrt.f k a0 a1) (analemmaref01_Sqrt.f (k + 1) a0 a1) := by
  intro a0 a1 k
  have ih0 := analemmaref01_Sqrt.mono_l k
  unfold analemmaref01_Sqrt.f
  repeat' first
      | (with_reducible exact ih0 _ _ _ _)
      | (with_reducible exact analemmaref01_Mul.mono _ _ _)
      | (with_reducible exact LeO.refl _)
      | (with_reducible exact LeO.none _)
      | (with_reducible refine LeO.ite ?_ ?_)
      | (with_reducible refine LeO.bind ?_ (fun _ => ?_))
      | exact ih0 _ _ _ _
      | exact analemmaref01_Mul.mono _ _ _
      | exact LeO.none _
      | refine LeO.ite ?_ ?_
      | refine LeO.bind ?_ (fun _ => ?_)
set_option maxHeartbeats 8000000 in
set_option maxRecDepth 100000 in
theorem analemmaref01_Sqrt.calls (k : Nat) (a0 : Int) (a1 : Int) (r : Int) (w : World) (h : analemmaref01_Sqrt.f k a0 a1 = some r) :
    Calls Try.prog 87 #[.int .u64 a0, .int .u64 a1] w fun e w' => e = .returned (.int .u64 r) ∧ Drawn0 w w' := by
  have H : (analemmaref01_Sqrt.l0 k a0 a1 0 63) = some r := h
  clear h
  have H' := Aside0.mk H
  clear H
  go_enter Try.func87, Try.ntmps87
  go_wp2
  go_loopg [5, 6] k (fun kq v5 v6 w' => ∃ (x5_1 : Int) (x6_1 : Int), v5 = .int .u64 x5_1 ∧ v6 = .int .i64 x6_1 ∧ Aside0 (analemmaref01_Sqrt.l0 kq a0 a1 x5_1 x6_1 = some r) ∧ Aside0 (kq ≤ k) ∧ Drawn0 w w')
  case atStart => exact ⟨(0), (63), (by first | rfl | (simp; done) | (simp [*]; done)), (by first | rfl | (simp; done) | (simp [*]; done)), H', ⟨Nat.le_refl _⟩, by repeat (first | exact Drawn0.refl _ | apply Drawn0.step)⟩
  case round =>
    clear H'
    try clear p2
    obtain ⟨x5_1, x6_1, rfl, rfl, HA, HK1, ⟨m1, rfl⟩⟩ := hrel
    cases gk with
    | zero => exact absurd HA.out (by simp [analemmaref01_Sqrt.l0])
    | succ k1 =>
      have H := HA.out
      clear HA
      simp only [analemmaref01_Sqrt.l0] at H
      by_cases c3 : x6_1 ≥ 0
      · rw [if_pos c3] at H
        have c3b0 : decide (0 ≤ x6_1) = true := decide_eq_true c3
        clear c3
        by_cases c4 : 0 ≤ x6_1
        · rw [if_pos c4] at H
          have c4b0 := eq_true c4
          have c4b1 : decide (0 ≤ x6_1) = true := decide_eq_true c4
          clear c4
          obtain ⟨ji5, hji5⟩ : ∃ j_ : Int, (shl .u64 1 x6_1) = j_ := ⟨_, rfl⟩
          replace H : ((analemmaref01_Mul.f k1 (Go.bits .or .u64 x5_1 (ji5)) (Go.bits .or .u64 x5_1 (ji5))).bind fun bt159 => ((analemmaref01_Less.f a0 a1 bt159.1 bt159.2).bind fun t161 => (if t161 = true then (analemmaref01_Sqrt.l0 k1 a0 a1 x5_1 (wrap64 (x6_1 - 1))) else (analemmaref01_Sqrt.l0 k1 a0 a1 (Go.bits .or .u64 x5_1 (ji5)) (wrap64 (x6_1 - 1)))))) = some r := by first | (rw [hji5] at H; exact H) | (simp only [hji5] at H ⊢; exact H)
          have hji5_ : (IntKind.u64.wrap (1 * 2 ^ min x6_1.toNat 64)) = ji5 := hji5
          have hji5z : x6_1 ≤ 64 → (IntKind.u64.wrap (1 * 2 ^ x6_1.toNat)) = ji5 := shl_small hji5
          have hji5u : (IntKind.u64.wrap (2 ^ min x6_1.toNat 64)) = ji5 := by have h_ := hji5_; rw [Int.one_mul] at h_; exact h_
          have hji5v : x6_1 ≤ 64 → (IntKind.u64.wrap (2 ^ x6_1.toNat)) = ji5 := fun hle_ => by have h_ := hji5z hle_; rw [Int.one_mul] at h_; exact h_
          replace H := Option.bind_eq_some_iff.mp H
          obtain ⟨⟨t159, t160⟩, A60, H⟩ := H
          replace H : ((analemmaref01_Less.f a0 a1 t159 t160).bind fun t161 => (if t161 = true then (analemmaref01_Sqrt.l0 k1 a0 a1 x5_1 (wrap64 (x6_1 - 1))) else (analemmaref01_Sqrt.l0 k1 a0 a1 (Go.bits .or .u64 x5_1 (ji5)) (wrap64 (x6_1 - 1))))) = some r := H
          have A6 := Aside0.mk A60
          clear A60
          replace H := Option.bind_eq_some_iff.mp H
          obtain ⟨t161, A70, H⟩ := H
          replace H : (if t161 = true then (analemmaref01_Sqrt.l0 k1 a0 a1 x5_1 (wrap64 (x6_1 - 1))) else (analemmaref01_Sqrt.l0 k1 a0 a1 (Go.bits .or .u64 x5_1 (ji5)) (wrap64 (x6_1 - 1)))) = some r := H
          have A7 := Aside0.mk A70
          clear A70
          by_cases c8 : t161 = true
          · subst c8
            have H1 : (analemmaref01_Sqrt.l0 k1 a0 a1 x5_1 (wrap64 (x6_1 - 1))) = some r := by rw [if_pos rfl] at H; exact H
            clear H
            have H := H1
            clear H1
            have H' := Aside0.mk H
            clear H
            go_wp2_with (first | ((with_reducible refine gate_callee (f := 69) rfl ?_); refine goesL_ (some 21) rfl rfl Try.func69 (by kernel_rfl) rfl #[.int .u64 (Go.bits .or .u64 x5_1 (ji5)), .int .u64 (Go.bits .or .u64 x5_1 (ji5))] rfl (by (try simp only [List.map_toArray, List.map_cons, List.map_nil]); first | done | (simp only [hji5]; rfl) | rfl | (simp only [List.length_drop, List.length_take]; rfl)) ?_; (with_reducible refine (analemmaref01_Mul.calls k1 (Go.bits .or .u64 x5_1 (ji5)) (Go.bits .or .u64 x5_1 (ji5)) t159 t160 _ A6.out).mono ?_); rintro e w' ⟨rfl, ⟨nd, rfl⟩⟩; refine ⟨_, rfl, ?_⟩) | ((with_reducible refine gate_callee (f := 91) rfl ?_); refine goesL_ (some 28) rfl rfl Try.func91 (by kernel_rfl) rfl #[.int .u64 a0, .int .u64 a1, .int .u64 t159, .int .u64 t160] rfl (by (try simp only [List.map_toArray, List.map_cons, List.map_nil]); first | done | rfl | (simp only [List.length_drop, List.length_take]; rfl)) ?_; (with_reducible refine (analemmaref01_Less.calls a0 a1 t159 t160 true _ A7.out).mono ?_); rintro e w' ⟨rfl, ⟨nd, rfl⟩⟩; refine ⟨_, rfl, ?_⟩))
            go_roundg k1
            case measure => have := HK1.out; omega
            case rel => exact ⟨(x5_1), (wrap64 (x6_1 - 1)), (by first | rfl | (simp; done) | (simp [*]; done)), (by first | rfl | (simp; done) | (simp [*]; done)), H', ⟨by have := HK1.out; omega⟩, by repeat (first | exact Drawn0.refl _ | apply Drawn0.step)⟩
          · replace c8 := Bool.eq_false_iff.mpr c8
            subst c8
            have H1 : (analemmaref01_Sqrt.l0 k1 a0 a1 (Go.bits .or .u64 x5_1 (ji5)) (wrap64 (x6_1 - 1))) = some r := by rw [if_neg (show ¬ (false = true) by decide)] at H; exact H
            clear H
            have H := H1
            clear H1
            have H' := Aside0.mk H
            clear H
            go_wp2_with (first | ((with_reducible refine gate_callee (f := 69) rfl ?_); refine goesL_ (some 21) rfl rfl Try.func69 (by kernel_rfl) rfl #[.int .u64 (Go.bits .or .u64 x5_1 (ji5)), .int .u64 (Go.bits .or .u64 x5_1 (ji5))] rfl (by (try simp only [List.map_toArray, List.map_cons, List.map_nil]); first | done | (simp only [hji5]; rfl) | rfl | (simp only [List.length_drop, List.length_take]; rfl)) ?_; (with_reducible refine (analemmaref01_Mul.calls k1 (Go.bits .or .u64 x5_1 (ji5)) (Go.bits .or .u64 x5_1 (ji5)) t159 t160 _ A6.out).mono ?_); rintro e w' ⟨rfl, ⟨nd, rfl⟩⟩; refine ⟨_, rfl, ?_⟩) | ((with_reducible refine gate_callee (f := 91) rfl ?_); refine goesL_ (some 28) rfl rfl Try.func91 (by kernel_rfl) rfl #[.int .u64 a0, .int .u64 a1, .int .u64 t159, .int .u64 t160] rfl (by (try simp only [List.map_toArray, List.map_cons, List.map_nil]); first | done | rfl | (simp only [List.length_drop, List.length_take]; rfl)) ?_; (with_reducible refine (analemmaref01_Less.calls a0 a1 t159 t160 false _ A7.out).mono ?_); rintro e w' ⟨rfl, ⟨nd, rfl⟩⟩; refine ⟨_, rfl, ?_⟩))
            go_roundg k1
            case measure => have := HK1.out; omega
            case rel => exact ⟨(Go.bits .or .u64 x5_1 (ji5)), (wrap64 (x6_1 - 1)), (by first | rfl | (simp; done) | (simp only [← hji5] <;> (first | rfl | simp)) | (simp [*]; done)), (by first | rfl | (simp; done) | (simp [*]; done)), H', ⟨by have := HK1.out; omega⟩, by repeat (first | exact Drawn0.refl _ | apply Drawn0.step)⟩
        · rw [if_neg c4] at H
          exact absurd H (by simp)
      · rw [if_neg c3] at H
        have c3b0 : decide (0 ≤ x6_1) = false := decide_eq_false c3
        clear c3
        obtain rfl := Option.some.inj H
        go_wp2
        go_ret
        exact ⟨by first | rfl | (simp; done) | (simp [*]; done), by repeat (first | exact Drawn0.refl _ | apply Drawn0.step)⟩

/-! ### analemmaref02_Sqrt: function 76 -/
def analemmaref02_Sqrt.f (k : Nat) (a0 : Int) : Option (Int) := if a0 ≤ 0 then (some 0) else ((analemmaref01_Sqrt.f k ((IntKind.u64.wrap (a0)) / 4294967296) (IntKind.u64.wrap ((IntKind.u64.wrap (a0)) * 4294967296))).bind fun t162 => ((analemmaref02_Cut.f k false t162 false).bind fun t163 => (some t163)))
theorem analemmaref02_Sqrt.mono : ∀ a0 k, LeO (analemmaref02_Sqrt.f k a0) (analemmaref02_Sqrt.f (k + 1) a0) := by
  intro a0 k
  unfold analemmaref02_Sqrt.f
  repeat' first
      | (with_reducible exact analemmaref01_Sqrt.mono _ _ _)
      | (with_reducible exact analemmaref02_Cut.mono _ _ _ _)
      | (with_reducible exact LeO.refl _)
      | (with_reducible exact LeO.none _)
      | (with_reducible refine LeO.ite ?_ ?_)
      | (with_reducible refine LeO.bind ?_ (fun _ => ?_))
      | exact analemmaref01_Sqrt.mono _ _ _
      | exact analemmaref02_Cut.mono _ _ _ _
      | exact LeO.none _
      | refine LeO.ite ?_ ?_
      | refine LeO.bind ?_ (fun _ => ?_)
set_option maxHeartbeats 8000000 in
set_option maxRecDepth 100000 in
theorem analemmaref02_Sqrt.calls (k : Nat) (a0 : Int) (r : Int) (w : World) (h : analemmaref02_Sqrt.f k a0 = some r) :
    Calls Try.prog 76 #[.int .i64 a0] w fun e w' => e = .returned (.int .i64 r) ∧ Drawn0 w w' := by
  have H : (if a0 ≤ 0 then (some 0) else ((analemmaref01_Sqrt.f k ((IntKind.u64.wrap (a0)) / 4294967296) (IntKind.u64.wrap ((IntKind.u64.wrap (a0)) * 4294967296))).bind fun t162 => ((analemmaref02_Cut.f k false t162 false).bind fun t163 => (some t163)))) = some r := h
  clear h
  by_cases c2 : a0 ≤ 0
  · rw [if_pos c2] at H
    have c2b0 : decide (a0 ≤ 0) = true := decide_eq_true c2
    clear c2
    obtain rfl := Option.some.inj H
    go_enter Try.func76, Try.ntmps76
    go_wp2
    go_ret
    exact ⟨by first | rfl | (simp; done) | (simp [*]; done), by repeat (first | exact Drawn0.refl _ | apply Drawn0.step)⟩
  · rw [if_neg c2] at H
    have c2b0 : decide (a0 ≤ 0) = false := decide_eq_false c2
    clear c2
    replace H := Option.bind_eq_some_iff.mp H
    obtain ⟨t162, A30, H⟩ := H
    replace H : ((analemmaref02_Cut.f k false t162 false).bind fun t163 => (some t163)) = some r := H
    have A3 := Aside0.mk A30
    clear A30
    replace H := Option.bind_eq_some_iff.mp H
    obtain ⟨t163, A40, H⟩ := H
    replace H : (some t163) = some r := H
    have A4 := Aside0.mk A40
    clear A40
    obtain rfl := Option.some.inj H
    go_enter Try.func76, Try.ntmps76
    go_wp2_with (first | ((with_reducible refine gate_callee (f := 87) rfl ?_); refine goesL_ (some 12) rfl rfl Try.func87 (by kernel_rfl) rfl #[.int .u64 ((IntKind.u64.wrap (a0)) / 4294967296), .int .u64 (IntKind.u64.wrap ((IntKind.u64.wrap (a0)) * 4294967296))] rfl (by (try simp only [List.map_toArray, List.map_cons, List.map_nil]); first | done | rfl | (simp only [List.length_drop, List.length_take]; rfl)) ?_; (with_reducible refine (analemmaref01_Sqrt.calls k ((IntKind.u64.wrap (a0)) / 4294967296) (IntKind.u64.wrap ((IntKind.u64.wrap (a0)) * 4294967296)) t162 _ A3.out).mono ?_); rintro e w' ⟨rfl, ⟨nd, rfl⟩⟩; refine ⟨_, rfl, ?_⟩) | ((with_reducible refine gate_callee (f := 68) rfl ?_); refine goesL_ (some 13) rfl rfl Try.func68 (by kernel_rfl) rfl #[.bool false, .int .u64 t162, .bool false] rfl (by (try simp only [List.map_toArray, List.map_cons, List.map_nil]); first | done | rfl | (simp only [List.length_drop, List.length_take]; rfl)) ?_; (with_reducible refine (analemmaref02_Cut.calls k false t162 false t163 _ A4.out).mono ?_); rintro e w' ⟨rfl, ⟨nd, rfl⟩⟩; refine ⟨_, rfl, ?_⟩))
    go_ret
    exact ⟨by first | rfl | (simp; done) | (simp [*]; done), by repeat (first | exact Drawn0.refl _ | apply Drawn0.step)⟩

end Go.Proofs.Ytoddgpaopejeoaa.MClu
