/- Functions that the statements of this seat reach, each as a plain Lean function, with a proof that the Go code comes to its answers; no condition. -/
import Derived.Test.YtanpjfejnlfpmaaMWidex0
import Derived.Test.YtanpjfejnlfpmaaMWidex1
import Derived.Test.YtanpjfejnlfpmaaMWidex2
namespace Go.Proofs.Ytanpjfejnlfpmaa.MWide
open Go.RowKit Go.Proofs.YtanpjfejnlfpmaaW.PrintWords Go.Proofs.YtanpjfejnlfpmaaW.PrintLast Go.Proofs.YtanpjfejnlfpmaaW.PrintMore
attribute [local go_sem] max2_int min2_int max_two min_two max_three min_three max_four min_four   -- for this text's walks alone
set_option linter.unusedVariables false
set_option linter.unusedSimpArgs false

/-! ### analemmalaw01_WideBack: function 4 -/
def analemmalaw01_WideBack.j0 : Nat → Int → Int → Int → Int → Int → Bool → Bool → Option (Bool)
  | 0, _, _, _, _, _, _, _ => none
  | k + 1, x0, x1, x2, x7, x8, x9, x29 => if x29 = true then (some false) else (if x9 = true then ((wide_Mul.f x7 x2).bind fun bt115 => ((wide_Plus.f bt115.1 bt115.2 0 x8).bind fun bt117 => (if x8 < x2 then (if bt117.2.2 = true then (some false) else (if bt117.1 = x0 then (some (bt117.2.1 == x1)) else (some false))) else (some false)))) else (if x7 = 0 then (some (x8 == 0)) else (some false)))
def analemmalaw01_WideBack.f (k : Nat) (a0 : Int) (a1 : Int) (a2 : Int) : Option (Bool) := (wide_Div.f a0 a1 a2).bind fun bt111 => (if (bt111.2.2 != (decide (a0 < a2))) = true then (analemmalaw01_WideBack.j0 k a0 a1 a2 bt111.1 bt111.2.1 bt111.2.2 true) else ((analemmalaw01_shown.f).bind fun t114 => (analemmalaw01_WideBack.j0 k a0 a1 a2 bt111.1 bt111.2.1 bt111.2.2 (!t114))))
theorem analemmalaw01_WideBack.mono_l : ∀ k, (∀ y0 y1 y2 y3 y4 y5 y6, LeO (analemmalaw01_WideBack.j0 k y0 y1 y2 y3 y4 y5 y6) (analemmalaw01_WideBack.j0 (k + 1) y0 y1 y2 y3 y4 y5 y6))
  | 0 => fun _ _ _ _ _ _ _ r h => by simp [analemmalaw01_WideBack.j0] at h
  | k + 1 => by
    have ih0 := analemmalaw01_WideBack.mono_l k
    · intro y0 y1 y2 y3 y4 y5 y6
      unfold analemmalaw01_WideBack.j0
      repeat' first
      | (with_reducible exact ih0 _ _ _ _ _ _ _)
      | (with_reducible exact LeO.refl _)
      | (with_reducible exact LeO.none _)
      | (with_reducible refine LeO.ite ?_ ?_)
      | (with_reducible refine LeO.bind ?_ (fun _ => ?_))
      | exact ih0 _ _ _ _ _ _ _
      | exact LeO.none _
      | refine LeO.ite ?_ ?_
      | refine LeO.bind ?_ (fun _ => ?_)
theorem analemmalaw01_WideBack.mono : ∀ a0 a1 a2 k, LeO (analemmalaw01_WideBack.f k a0 a1 a2) (analemmalaw01_WideBack.f (k + 1) a0 a1 a2) := by
  intro a0 a1 a2 k
  have ih0 := analemmalaw01_WideBack.mono_l k
  unfold analemmalaw01_WideBack.f
  repeat' first
      | (with_reducible exact ih0 _ _ _ _ _ _ _)
      | (with_reducible exact LeO.refl _)
      | (with_reducible exact LeO.none _)
      | (with_reducible refine LeO.ite ?_ ?_)
      | (with_reducible refine LeO.bind ?_ (fun _ => ?_))
      | exact ih0 _ _ _ _ _ _ _
      | exact LeO.none _
      | refine LeO.ite ?_ ?_
      | refine LeO.bind ?_ (fun _ => ?_)
set_option maxHeartbeats 8000000 in
set_option maxRecDepth 100000 in
theorem analemmalaw01_WideBack.calls (k : Nat) (a0 : Int) (a1 : Int) (a2 : Int) (r : Bool) (w : World) (h : analemmalaw01_WideBack.f k a0 a1 a2 = some r) (hr : Aside0 (r = true)) :
    Calls Try.prog 4 #[.int .u64 a0, .int .u64 a1, .int .u64 a2] w fun e w' => e = .returned (.bool r) ∧ Below w.heap.size w w' := by
  have HB := Aside0.mk (Below.refl w.heap.size w)
  have H : ((wide_Div.f a0 a1 a2).bind fun bt111 => (if (bt111.2.2 != (decide (a0 < a2))) = true then (analemmalaw01_WideBack.j0 k a0 a1 a2 bt111.1 bt111.2.1 bt111.2.2 true) else ((analemmalaw01_shown.f).bind fun t114 => (analemmalaw01_WideBack.j0 k a0 a1 a2 bt111.1 bt111.2.1 bt111.2.2 (!t114))))) = some r := h
  clear h
  replace H := Option.bind_eq_some_iff.mp H
  obtain ⟨⟨t111, t112, t113⟩, A40, H⟩ := H
  replace H : (if (t113 != (decide (a0 < a2))) = true then (analemmalaw01_WideBack.j0 k a0 a1 a2 t111 t112 t113 true) else ((analemmalaw01_shown.f).bind fun t114 => (analemmalaw01_WideBack.j0 k a0 a1 a2 t111 t112 t113 (!t114)))) = some r := H
  have A4 := Aside0.mk A40
  clear A40
  have HC5 := Aside0.mk H
  clear H
  go_enter Try.func4, Try.ntmps4
  go_upto_region 2 with (first | ((with_reducible refine gate_callee (f := 13) rfl ?_); refine goesL_ (some 17) rfl rfl Try.func13 (by kernel_rfl) rfl #[.int .u64 a0, .int .u64 a1, .int .u64 a2] rfl (by (try simp only [List.map_toArray, List.map_cons, List.map_nil]); first | done | rfl | (simp only [List.length_drop, List.length_take]; rfl)) ?_; (with_reducible refine (wide_Div.calls a0 a1 a2 t111 t112 t113 _ A4.out).mono ?_); rintro e w6 ⟨rfl, hb⟩; refine ⟨_, rfl, ?_⟩; have n0_ := Aside0.mk (below_step (by repeat (first | (with_reducible first | exact HB.out | apply below_alloc | apply pw_below_drewN | apply below_drew1) | exact HB.out)) hb); clear HB; have HB := n0_; clear n0_; (try clear hb); (try clear hb2); (try clear hk); (try clear hi)))
  (try simp only [Act.put, List.setIfInBounds_toArray, List.set_cons_zero, List.set_cons_succ])
  go_cut [29] (fun v29 wc => ∃ (kq : Nat) (x29_4 : Bool), v29 = .bool x29_4 ∧ Aside0 (analemmalaw01_WideBack.j0 kq a0 a1 a2 t111 t112 t113 x29_4 = some r) ∧ Aside0 (kq ≤ k) ∧ Aside0 (Below w.heap.size w wc))
  case first =>
    have H := HC5.out
    clear HC5
    by_cases c7 : (t113 != (decide (a0 < a2))) = true
    · rw [if_pos c7] at H
      have c7b0 : (t113 != (decide (a0 < a2))) = true := c7
      (try (have c7b1 : decide (t113 = (decide (a0 < a2))) = false := by simpa using c7))
      (try (have c7b2 : (t113 == (decide (a0 < a2))) = false := by simpa using c7))
      (try (have c7b3 : ¬ (t113 = (decide (a0 < a2))) := by simpa using c7))
      clear c7
      (first | rw [c7b0] | (simp only [i64_w, i32_w]; rw [c7b0]) | skip)
      have H' := Aside0.mk H
      clear H
      go_wp2
      go_meet
      case rel => exact ⟨_, (true), (by first | rfl | (simp; done) | (simp [*]; done)), H', ⟨by first | omega | exact Nat.le_refl _⟩, ⟨by repeat (first | (with_reducible first | exact HB.out | apply below_alloc | apply pw_below_drewN | apply below_drew1) | exact HB.out)⟩⟩
    · rw [if_neg c7] at H
      have c7b0 : (t113 != (decide (a0 < a2))) = false := by simpa using c7
      (try (have c7b1 : decide (t113 = (decide (a0 < a2))) = true := by simpa using c7))
      (try (have c7b2 : (t113 == (decide (a0 < a2))) = true := by simpa using c7))
      clear c7
      (first | rw [c7b0] | (simp only [i64_w, i32_w]; rw [c7b0]) | skip)
      replace H := Option.bind_eq_some_iff.mp H
      obtain ⟨t114, A80, H⟩ := H
      replace H : (analemmalaw01_WideBack.j0 k a0 a1 a2 t111 t112 t113 (!t114)) = some r := H
      have A8 := Aside0.mk A80
      clear A80
      have H' := Aside0.mk H
      clear H
      go_wp2_with (first | (go_at_call 12; (with_reducible refine (analemmalaw01_shown.calls  t114 _ A8.out).mono ?_); rintro e w9 ⟨rfl, hb⟩; have n0_ := Aside0.mk (below_step (by repeat (first | (with_reducible first | exact HB.out | apply below_alloc | apply pw_below_drewN | apply below_drew1) | exact HB.out)) hb); clear HB; have HB := n0_; clear n0_; (try clear hb); (try clear hb2); (try clear hk); (try clear hi)))
      go_meet
      case rel => exact ⟨_, (!t114), (by first | rfl | (simp; done) | (simp [*]; done)), H', ⟨by first | omega | exact Nat.le_refl _⟩, ⟨by repeat (first | (with_reducible first | exact HB.out | apply below_alloc | apply pw_below_drewN | apply below_drew1) | exact HB.out)⟩⟩
  case rest =>
    clear HC5
    try clear c1
    try clear p2
    try clear c4
    try clear c7
    try clear c7b0
    try clear c7b1
    try clear c7b2
    obtain ⟨kq, x29_4, rfl, HA, HJ4, HB⟩ := hcut
    cases kq with
    | zero => exact absurd HA.out (by simp [analemmalaw01_WideBack.j0])
    | succ kj4 =>
      have H := HA.out
      clear HA
      simp only [analemmalaw01_WideBack.j0] at H
      by_cases c10 : x29_4 = true
      · subst c10
        have H1 : (some false) = some r := by rw [if_pos rfl] at H; exact H
        clear H
        have H := H1
        clear H1
        first | exact absurd ((Option.some.inj H).trans hr.out) Bool.false_ne_true | skip
        all_goals (obtain rfl := Option.some.inj H)
        all_goals (go_wp2)
        all_goals (go_ret)
        all_goals (exact ⟨by first | rfl | (simp [errW_none, errW_some] <;> rfl) | (simp [*, errW_none, errW_some] <;> rfl), by repeat (first | (with_reducible first | exact HB.out | apply below_alloc | apply pw_below_drewN | apply below_drew1) | exact HB.out)⟩)
      · replace c10 := Bool.eq_false_iff.mpr c10
        subst c10
        have H1 : (if t113 = true then ((wide_Mul.f t111 a2).bind fun bt115 => ((wide_Plus.f bt115.1 bt115.2 0 t112).bind fun bt117 => (if t112 < a2 then (if bt117.2.2 = true then (some false) else (if bt117.1 = a0 then (some (bt117.2.1 == a1)) else (some false))) else (some false)))) else (if t111 = 0 then (some (t112 == 0)) else (some false))) = some r := by rw [if_neg (show ¬ (false = true) by decide)] at H; exact H
        clear H
        have H := H1
        clear H1
        by_cases c11 : t113 = true
        · subst c11
          have H1 : ((wide_Mul.f t111 a2).bind fun bt115 => ((wide_Plus.f bt115.1 bt115.2 0 t112).bind fun bt117 => (if t112 < a2 then (if bt117.2.2 = true then (some false) else (if bt117.1 = a0 then (some (bt117.2.1 == a1)) else (some false))) else (some false)))) = some r := by rw [if_pos rfl] at H; exact H
          clear H
          have H := H1
          clear H1
          replace H := Option.bind_eq_some_iff.mp H
          obtain ⟨⟨t115, t116⟩, A120, H⟩ := H
          replace H : ((wide_Plus.f t115 t116 0 t112).bind fun bt117 => (if t112 < a2 then (if bt117.2.2 = true then (some false) else (if bt117.1 = a0 then (some (bt117.2.1 == a1)) else (some false))) else (some false))) = some r := H
          have A12 := Aside0.mk A120
          clear A120
          replace H := Option.bind_eq_some_iff.mp H
          obtain ⟨⟨t117, t118, t119⟩, A130, H⟩ := H
          replace H : (if t112 < a2 then (if t119 = true then (some false) else (if t117 = a0 then (some (t118 == a1)) else (some false))) else (some false)) = some r := H
          have A13 := Aside0.mk A130
          clear A130
          by_cases c14 : t112 < a2
          · rw [if_pos c14] at H
            have c14b0 : decide (t112 < a2) = true := decide_eq_true c14
            clear c14
            by_cases c15 : t119 = true
            · subst c15
              have H1 : (some false) = some r := by rw [if_pos rfl] at H; exact H
              clear H
              have H := H1
              clear H1
              first | exact absurd ((Option.some.inj H).trans hr.out) Bool.false_ne_true | skip
              all_goals (obtain rfl := Option.some.inj H)
              all_goals (go_wp2_with (first | ((with_reducible refine gate_callee (f := 14) rfl ?_); refine goesL_ (some 41) rfl rfl Try.func14 (by kernel_rfl) rfl #[.int .u64 t111, .int .u64 a2] rfl (by (try simp only [List.map_toArray, List.map_cons, List.map_nil]); first | done | rfl | (simp only [List.length_drop, List.length_take]; rfl)) ?_; (with_reducible refine (wide_Mul.calls t111 a2 t115 t116 _ A12.out).mono ?_); rintro e w16 ⟨rfl, hb⟩; refine ⟨_, rfl, ?_⟩; have n0_ := Aside0.mk (below_step (by repeat (first | (with_reducible first | exact HB.out | apply below_alloc | apply pw_below_drewN | apply below_drew1) | exact HB.out)) hb); clear HB; have HB := n0_; clear n0_; (try clear hb); (try clear hb2); (try clear hk); (try clear hi)) | ((with_reducible refine gate_callee (f := 15) rfl ?_); refine goesL_ (some 48) rfl rfl Try.func15 (by kernel_rfl) rfl #[.int .u64 t115, .int .u64 t116, .int .u64 0, .int .u64 t112] rfl (by (try simp only [List.map_toArray, List.map_cons, List.map_nil]); first | done | rfl | (simp only [List.length_drop, List.length_take]; rfl)) ?_; (with_reducible refine (wide_Plus.calls t115 t116 0 t112 t117 t118 true _ A13.out).mono ?_); rintro e w' ⟨rfl, ⟨nd, rfl⟩⟩; refine ⟨_, rfl, ?_⟩)))
              all_goals (go_ret)
              all_goals (exact ⟨by first | rfl | (simp [errW_none, errW_some] <;> rfl) | (simp [*, errW_none, errW_some] <;> rfl), by repeat (first | (with_reducible first | exact HB.out | apply below_alloc | apply pw_below_drewN | apply below_drew1) | exact HB.out)⟩)
            · replace c15 := Bool.eq_false_iff.mpr c15
              subst c15
              have H1 : (if t117 = a0 then (some (t118 == a1)) else (some false)) = some r := by rw [if_neg (show ¬ (false = true) by decide)] at H; exact H
              clear H
              have H := H1
              clear H1
              by_cases c17 : t117 = a0
              · rw [if_pos c17] at H
                have c17b0 : (t117 == a0) = true := beq_iff_eq.mpr c17
                have c17b1 : (t117 != a0) = false := bne_eq_false_iff_eq.mpr c17
                clear c17
                first | exact absurd ((Option.some.inj H).trans hr.out) Bool.false_ne_true | skip
                all_goals (obtain rfl := Option.some.inj H)
                all_goals (go_wp2_with (first | ((with_reducible refine gate_callee (f := 14) rfl ?_); refine goesL_ (some 41) rfl rfl Try.func14 (by kernel_rfl) rfl #[.int .u64 t111, .int .u64 a2] rfl (by (try simp only [List.map_toArray, List.map_cons, List.map_nil]); first | done | rfl | (simp only [List.length_drop, List.length_take]; rfl)) ?_; (with_reducible refine (wide_Mul.calls t111 a2 t115 t116 _ A12.out).mono ?_); rintro e w18 ⟨rfl, hb⟩; refine ⟨_, rfl, ?_⟩; have n0_ := Aside0.mk (below_step (by repeat (first | (with_reducible first | exact HB.out | apply below_alloc | apply pw_below_drewN | apply below_drew1) | exact HB.out)) hb); clear HB; have HB := n0_; clear n0_; (try clear hb); (try clear hb2); (try clear hk); (try clear hi)) | ((with_reducible refine gate_callee (f := 15) rfl ?_); refine goesL_ (some 48) rfl rfl Try.func15 (by kernel_rfl) rfl #[.int .u64 t115, .int .u64 t116, .int .u64 0, .int .u64 t112] rfl (by (try simp only [List.map_toArray, List.map_cons, List.map_nil]); first | done | rfl | (simp only [List.length_drop, List.length_take]; rfl)) ?_; (with_reducible refine (wide_Plus.calls t115 t116 0 t112 t117 t118 false _ A13.out).mono ?_); rintro e w' ⟨rfl, ⟨nd, rfl⟩⟩; refine ⟨_, rfl, ?_⟩)))
                all_goals (go_ret)
                all_goals (exact ⟨by first | rfl | (simp [errW_none, errW_some] <;> rfl) | (simp [*, errW_none, errW_some] <;> rfl), by repeat (first | (with_reducible first | exact HB.out | apply below_alloc | apply pw_below_drewN | apply below_drew1) | exact HB.out)⟩)
              · rw [if_neg c17] at H
                have c17b0 : (t117 == a0) = false := beq_eq_false_iff_ne.mpr c17
                have c17b1 : (t117 != a0) = true := bne_iff_ne.mpr c17
                first | exact absurd ((Option.some.inj H).trans hr.out) Bool.false_ne_true | skip
                all_goals (obtain rfl := Option.some.inj H)
                all_goals (go_wp2_with (first | ((with_reducible refine gate_callee (f := 14) rfl ?_); refine goesL_ (some 41) rfl rfl Try.func14 (by kernel_rfl) rfl #[.int .u64 t111, .int .u64 a2] rfl (by (try simp only [List.map_toArray, List.map_cons, List.map_nil]); first | done | rfl | (simp only [List.length_drop, List.length_take]; rfl)) ?_; (with_reducible refine (wide_Mul.calls t111 a2 t115 t116 _ A12.out).mono ?_); rintro e w19 ⟨rfl, hb⟩; refine ⟨_, rfl, ?_⟩; have n0_ := Aside0.mk (below_step (by repeat (first | (with_reducible first | exact HB.out | apply below_alloc | apply pw_below_drewN | apply below_drew1) | exact HB.out)) hb); clear HB; have HB := n0_; clear n0_; (try clear hb); (try clear hb2); (try clear hk); (try clear hi)) | ((with_reducible refine gate_callee (f := 15) rfl ?_); refine goesL_ (some 48) rfl rfl Try.func15 (by kernel_rfl) rfl #[.int .u64 t115, .int .u64 t116, .int .u64 0, .int .u64 t112] rfl (by (try simp only [List.map_toArray, List.map_cons, List.map_nil]); first | done | rfl | (simp only [List.length_drop, List.length_take]; rfl)) ?_; (with_reducible refine (wide_Plus.calls t115 t116 0 t112 t117 t118 false _ A13.out).mono ?_); rintro e w' ⟨rfl, ⟨nd, rfl⟩⟩; refine ⟨_, rfl, ?_⟩)))
                all_goals (go_ret)
                all_goals (exact ⟨by first | rfl | (simp [errW_none, errW_some] <;> rfl) | (simp [*, errW_none, errW_some] <;> rfl), by repeat (first | (with_reducible first | exact HB.out | apply below_alloc | apply pw_below_drewN | apply below_drew1) | exact HB.out)⟩)
          · rw [if_neg c14] at H
            have c14b0 : decide (t112 < a2) = false := decide_eq_false c14
            clear c14
            first | exact absurd ((Option.some.inj H).trans hr.out) Bool.false_ne_true | skip
            all_goals (obtain rfl := Option.some.inj H)
            all_goals (go_wp2_with (first | ((with_reducible refine gate_callee (f := 14) rfl ?_); refine goesL_ (some 41) rfl rfl Try.func14 (by kernel_rfl) rfl #[.int .u64 t111, .int .u64 a2] rfl (by (try simp only [List.map_toArray, List.map_cons, List.map_nil]); first | done | rfl | (simp only [List.length_drop, List.length_take]; rfl)) ?_; (with_reducible refine (wide_Mul.calls t111 a2 t115 t116 _ A12.out).mono ?_); rintro e w20 ⟨rfl, hb⟩; refine ⟨_, rfl, ?_⟩; have n0_ := Aside0.mk (below_step (by repeat (first | (with_reducible first | exact HB.out | apply below_alloc | apply pw_below_drewN | apply below_drew1) | exact HB.out)) hb); clear HB; have HB := n0_; clear n0_; (try clear hb); (try clear hb2); (try clear hk); (try clear hi)) | ((with_reducible refine gate_callee (f := 15) rfl ?_); refine goesL_ (some 48) rfl rfl Try.func15 (by kernel_rfl) rfl #[.int .u64 t115, .int .u64 t116, .int .u64 0, .int .u64 t112] rfl (by (try simp only [List.map_toArray, List.map_cons, List.map_nil]); first | done | rfl | (simp only [List.length_drop, List.length_take]; rfl)) ?_; (with_reducible refine (wide_Plus.calls t115 t116 0 t112 t117 t118 t119 _ A13.out).mono ?_); rintro e w' ⟨rfl, ⟨nd, rfl⟩⟩; refine ⟨_, rfl, ?_⟩)))
            all_goals (go_ret)
            all_goals (exact ⟨by first | rfl | (simp [errW_none, errW_some] <;> rfl) | (simp [*, errW_none, errW_some] <;> rfl), by repeat (first | (with_reducible first | exact HB.out | apply below_alloc | apply pw_below_drewN | apply below_drew1) | exact HB.out)⟩)
        · replace c11 := Bool.eq_false_iff.mpr c11
          subst c11
          have H1 : (if t111 = 0 then (some (t112 == 0)) else (some false)) = some r := by rw [if_neg (show ¬ (false = true) by decide)] at H; exact H
          clear H
          have H := H1
          clear H1
          by_cases c21 : t111 = 0
          · rw [if_pos c21] at H
            have c21b0 : (t111 == 0) = true := beq_iff_eq.mpr c21
            have c21b1 : (t111 != 0) = false := bne_eq_false_iff_eq.mpr c21
            clear c21
            first | exact absurd ((Option.some.inj H).trans hr.out) Bool.false_ne_true | skip
            all_goals (obtain rfl := Option.some.inj H)
            all_goals (go_wp2)
            all_goals (go_ret)
            all_goals (exact ⟨by first | rfl | (simp [errW_none, errW_some] <;> rfl) | (simp [*, errW_none, errW_some] <;> rfl), by repeat (first | (with_reducible first | exact HB.out | apply below_alloc | apply pw_below_drewN | apply below_drew1) | exact HB.out)⟩)
          · rw [if_neg c21] at H
            have c21b0 : (t111 == 0) = false := beq_eq_false_iff_ne.mpr c21
            have c21b1 : (t111 != 0) = true := bne_iff_ne.mpr c21
            first | exact absurd ((Option.some.inj H).trans hr.out) Bool.false_ne_true | skip
            all_goals (obtain rfl := Option.some.inj H)
            all_goals (go_wp2)
            all_goals (go_ret)
            all_goals (exact ⟨by first | rfl | (simp [errW_none, errW_some] <;> rfl) | (simp [*, errW_none, errW_some] <;> rfl), by repeat (first | (with_reducible first | exact HB.out | apply below_alloc | apply pw_below_drewN | apply below_drew1) | exact HB.out)⟩)

/-- THE ONE PURE STATEMENT of analemmalaw01_WideBack: yours. -/
def analemmalaw01_WideBack.Pure : Prop := ∀ (a0 : Int) (a1 : Int) (a2 : Int), (Lit.int .u64 a0).wf = true → (Lit.int .u64 a1).wf = true → (Lit.int .u64 a2).wf = true → ∃ k, analemmalaw01_WideBack.f k a0 a1 a2 = some true
theorem analemmalaw01_WideBack.walk (P : analemmalaw01_WideBack.Pure) (a0 : Int) (a1 : Int) (a2 : Int) (w : World) (w0 : (Lit.int .u64 a0).wf = true) (w1 : (Lit.int .u64 a1).wf = true) (w2 : (Lit.int .u64 a2).wf = true) :
    Calls Try.prog 4 #[.int .u64 a0, .int .u64 a1, .int .u64 a2] w fun e w' => e = .returned (.bool true) ∧ Below w.heap.size w w' := by
  obtain ⟨k, h⟩ := P a0 a1 a2 w0 w1 w2
  refine (analemmalaw01_WideBack.calls k a0 a1 a2 true w h (Aside0.mk rfl)).mono ?_
  rintro e w' ⟨rfl, hd⟩
  exact ⟨rfl, hd⟩

/-! ### analemmalaw01_WideShares: function 5 -/
def analemmalaw01_WideShares.f (a0 : Int) (a1 : Int) (a2 : Int) : Option (Bool) := (wide_Mul.f a0 a1).bind fun bt120 => ((wide_Div.f bt120.1 bt120.2 a1).bind fun bt122 => (if a1 = 0 then (if bt122.2.2 = true then (some false) else (if bt122.1 = 0 then (if bt122.2.1 = 0 then ((analemmalaw01_shown.f).bind fun t125 => (some t125)) else (some false)) else (some false))) else ((wide_Plus.f bt120.1 bt120.2 0 (Int.tmod a2 a1)).bind fun bt126 => ((wide_Div.f bt126.1 bt126.2.1 a1).bind fun bt129 => (if bt122.2.2 = true then (if bt122.1 = a0 then (if bt122.2.1 = 0 then (if bt126.2.2 = true then (some false) else (if bt129.2.2 = true then (if bt129.1 = a0 then (if bt129.2.1 = (Int.tmod a2 a1) then ((analemmalaw01_shown.f).bind fun t132 => (some t132)) else (some false)) else (some false)) else (some false))) else (some false)) else (some false)) else (some false))))))
set_option maxHeartbeats 8000000 in
set_option maxRecDepth 100000 in
theorem analemmalaw01_WideShares.calls (a0 : Int) (a1 : Int) (a2 : Int) (r : Bool) (w : World) (h : analemmalaw01_WideShares.f a0 a1 a2 = some r) (hr : Aside0 (r = true)) :
    Calls Try.prog 5 #[.int .u64 a0, .int .u64 a1, .int .u64 a2] w fun e w' => e = .returned (.bool r) ∧ Below w.heap.size w w' := by
  have HB := Aside0.mk (Below.refl w.heap.size w)
  have H : ((wide_Mul.f a0 a1).bind fun bt120 => ((wide_Div.f bt120.1 bt120.2 a1).bind fun bt122 => (if a1 = 0 then (if bt122.2.2 = true then (some false) else (if bt122.1 = 0 then (if bt122.2.1 = 0 then ((analemmalaw01_shown.f).bind fun t125 => (some t125)) else (some false)) else (some false))) else ((wide_Plus.f bt120.1 bt120.2 0 (Int.tmod a2 a1)).bind fun bt126 => ((wide_Div.f bt126.1 bt126.2.1 a1).bind fun bt129 => (if bt122.2.2 = true then (if bt122.1 = a0 then (if bt122.2.1 = 0 then (if bt126.2.2 = true then (some false) else (if bt129.2.2 = true then (if bt129.1 = a0 then (if bt129.2.1 = (Int.tmod a2 a1) then ((analemmalaw01_shown.f).bind fun t132 => (some t132)) else (some false)) else (some false)) else (some false))) else (some false)) else (some false)) else (some false))))))) = some r := h
  clear h
  replace H := Option.bind_eq_some_iff.mp H
  obtain ⟨⟨t120, t121⟩, A40, H⟩ := H
  replace H : ((wide_Div.f t120 t121 a1).bind fun bt122 => (if a1 = 0 then (if bt122.2.2 = true then (some false) else (if bt122.1 = 0 then (if bt122.2.1 = 0 then ((analemmalaw01_shown.f).bind fun t125 => (some t125)) else (some false)) else (some false))) else ((wide_Plus.f t120 t121 0 (Int.tmod a2 a1)).bind fun bt126 => ((wide_Div.f bt126.1 bt126.2.1 a1).bind fun bt129 => (if bt122.2.2 = true then (if bt122.1 = a0 then (if bt122.2.1 = 0 then (if bt126.2.2 = true then (some false) else (if bt129.2.2 = true then (if bt129.1 = a0 then (if bt129.2.1 = (Int.tmod a2 a1) then ((analemmalaw01_shown.f).bind fun t132 => (some t132)) else (some false)) else (some false)) else (some false))) else (some false)) else (some false)) else (some false)))))) = some r := H
  have A4 := Aside0.mk A40
  clear A40
  replace H := Option.bind_eq_some_iff.mp H
  obtain ⟨⟨t122, t123, t124⟩, A50, H⟩ := H
  replace H : (if a1 = 0 then (if t124 = true then (some false) else (if t122 = 0 then (if t123 = 0 then ((analemmalaw01_shown.f).bind fun t125 => (some t125)) else (some false)) else (some false))) else ((wide_Plus.f t120 t121 0 (Int.tmod a2 a1)).bind fun bt126 => ((wide_Div.f bt126.1 bt126.2.1 a1).bind fun bt129 => (if t124 = true then (if t122 = a0 then (if t123 = 0 then (if bt126.2.2 = true then (some false) else (if bt129.2.2 = true then (if bt129.1 = a0 then (if bt129.2.1 = (Int.tmod a2 a1) then ((analemmalaw01_shown.f).bind fun t132 => (some t132)) else (some false)) else (some false)) else (some false))) else (some false)) else (some false)) else (some false))))) = some r := H
  have A5 := Aside0.mk A50
  clear A50
  by_cases c6 : a1 = 0
  · rw [if_pos c6] at H
    have c6b0 : (a1 == 0) = true := beq_iff_eq.mpr c6
    have c6b1 : (a1 != 0) = false := bne_eq_false_iff_eq.mpr c6
    clear c6
    by_cases c7 : t124 = true
    · subst c7
      have H1 : (some false) = some r := by rw [if_pos rfl] at H; exact H
      clear H
      have H := H1
      clear H1
      first | exact absurd ((Option.some.inj H).trans hr.out) Bool.false_ne_true | skip
      all_goals (obtain rfl := Option.some.inj H)
      all_goals (go_enter Try.func5, Try.ntmps5)
      all_goals (go_wp2_with (first | ((with_reducible refine gate_callee (f := 14) rfl ?_); refine goesL_ (some 21) rfl rfl Try.func14 (by kernel_rfl) rfl #[.int .u64 a0, .int .u64 a1] rfl (by (try simp only [List.map_toArray, List.map_cons, List.map_nil]); first | done | rfl | (simp only [List.length_drop, List.length_take]; rfl)) ?_; (with_reducible refine (wide_Mul.calls a0 a1 t120 t121 _ A4.out).mono ?_); rintro e w8 ⟨rfl, hb⟩; refine ⟨_, rfl, ?_⟩; have n0_ := Aside0.mk (below_step (by repeat (first | (with_reducible first | exact HB.out | apply below_alloc | apply pw_below_drewN | apply below_drew1) | exact HB.out)) hb); clear HB; have HB := n0_; clear n0_; (try clear hb); (try clear hb2); (try clear hk); (try clear hi)) | ((with_reducible refine gate_callee (f := 13) rfl ?_); refine goesL_ (some 28) rfl rfl Try.func13 (by kernel_rfl) rfl #[.int .u64 t120, .int .u64 t121, .int .u64 a1] rfl (by (try simp only [List.map_toArray, List.map_cons, List.map_nil]); first | done | rfl | (simp only [List.length_drop, List.length_take]; rfl)) ?_; (with_reducible refine (wide_Div.calls t120 t121 a1 t122 t123 true _ A5.out).mono ?_); rintro e w9 ⟨rfl, hb⟩; refine ⟨_, rfl, ?_⟩; have n0_ := Aside0.mk (below_step (by repeat (first | (with_reducible first | exact HB.out | apply below_alloc | apply pw_below_drewN | apply below_drew1) | exact HB.out)) hb); clear HB; have HB := n0_; clear n0_; (try clear hb); (try clear hb2); (try clear hk); (try clear hi))))
      all_goals (go_ret)
      all_goals (exact ⟨by first | rfl | (simp [errW_none, errW_some] <;> rfl) | (simp [*, errW_none, errW_some] <;> rfl), by repeat (first | (with_reducible first | exact HB.out | apply below_alloc | apply pw_below_drewN | apply below_drew1) | exact HB.out)⟩)
    · replace c7 := Bool.eq_false_iff.mpr c7
      subst c7
      have H1 : (if t122 = 0 then (if t123 = 0 then ((analemmalaw01_shown.f).bind fun t125 => (some t125)) else (some false)) else (some false)) = some r := by rw [if_neg (show ¬ (false = true) by decide)] at H; exact H
      clear H
      have H := H1
      clear H1
      by_cases c10 : t122 = 0
      · rw [if_pos c10] at H
        have c10b0 : (t122 == 0) = true := beq_iff_eq.mpr c10
        have c10b1 : (t122 != 0) = false := bne_eq_false_iff_eq.mpr c10
        clear c10
        by_cases c11 : t123 = 0
        · rw [if_pos c11] at H
          have c11b0 : (t123 == 0) = true := beq_iff_eq.mpr c11
          have c11b1 : (t123 != 0) = false := bne_eq_false_iff_eq.mpr c11
          clear c11
          replace H := Option.bind_eq_some_iff.mp H
          obtain ⟨t125, A120, H⟩ := H
          replace H : (some t125) = some r := H
          have A12 := Aside0.mk A120
          clear A120
          first | exact absurd ((Option.some.inj H).trans hr.out) Bool.false_ne_true | skip
          all_goals (obtain rfl := Option.some.inj H)
          all_goals (go_enter Try.func5, Try.ntmps5)
          all_goals (go_wp2_with (first | ((with_reducible refine gate_callee (f := 14) rfl ?_); refine goesL_ (some 21) rfl rfl Try.func14 (by kernel_rfl) rfl #[.int .u64 a0, .int .u64 a1] rfl (by (try simp only [List.map_toArray, List.map_cons, List.map_nil]); first | done | rfl | (simp only [List.length_drop, List.length_take]; rfl)) ?_; (with_reducible refine (wide_Mul.calls a0 a1 t120 t121 _ A4.out).mono ?_); rintro e w13 ⟨rfl, hb⟩; refine ⟨_, rfl, ?_⟩; have n0_ := Aside0.mk (below_step (by repeat (first | (with_reducible first | exact HB.out | apply below_alloc | apply pw_below_drewN | apply below_drew1) | exact HB.out)) hb); clear HB; have HB := n0_; clear n0_; (try clear hb); (try clear hb2); (try clear hk); (try clear hi)) | ((with_reducible refine gate_callee (f := 13) rfl ?_); refine goesL_ (some 28) rfl rfl Try.func13 (by kernel_rfl) rfl #[.int .u64 t120, .int .u64 t121, .int .u64 a1] rfl (by (try simp only [List.map_toArray, List.map_cons, List.map_nil]); first | done | rfl | (simp only [List.length_drop, List.length_take]; rfl)) ?_; (with_reducible refine (wide_Div.calls t120 t121 a1 t122 t123 false _ A5.out).mono ?_); rintro e w14 ⟨rfl, hb⟩; refine ⟨_, rfl, ?_⟩; have n0_ := Aside0.mk (below_step (by repeat (first | (with_reducible first | exact HB.out | apply below_alloc | apply pw_below_drewN | apply below_drew1) | exact HB.out)) hb); clear HB; have HB := n0_; clear n0_; (try clear hb); (try clear hb2); (try clear hk); (try clear hi)) | (go_at_call 12; (with_reducible refine (analemmalaw01_shown.calls  t125 _ A12.out).mono ?_); rintro e w15 ⟨rfl, hb⟩; have n0_ := Aside0.mk (below_step (by repeat (first | (with_reducible first | exact HB.out | apply below_alloc | apply pw_below_drewN | apply below_drew1) | exact HB.out)) hb); clear HB; have HB := n0_; clear n0_; (try clear hb); (try clear hb2); (try clear hk); (try clear hi))))
          all_goals (go_ret)
          all_goals (exact ⟨by first | rfl | (simp [errW_none, errW_some] <;> rfl) | (simp [*, errW_none, errW_some] <;> rfl), by repeat (first | (with_reducible first | exact HB.out | apply below_alloc | apply pw_below_drewN | apply below_drew1) | exact HB.out)⟩)
        · rw [if_neg c11] at H
          have c11b0 : (t123 == 0) = false := beq_eq_false_iff_ne.mpr c11
          have c11b1 : (t123 != 0) = true := bne_iff_ne.mpr c11
          first | exact absurd ((Option.some.inj H).trans hr.out) Bool.false_ne_true | skip
          all_goals (obtain rfl := Option.some.inj H)
          all_goals (go_enter Try.func5, Try.ntmps5)
          all_goals (go_wp2_with (first | ((with_reducible refine gate_callee (f := 14) rfl ?_); refine goesL_ (some 21) rfl rfl Try.func14 (by kernel_rfl) rfl #[.int .u64 a0, .int .u64 a1] rfl (by (try simp only [List.map_toArray, List.map_cons, List.map_nil]); first | done | rfl | (simp only [List.length_drop, List.length_take]; rfl)) ?_; (with_reducible refine (wide_Mul.calls a0 a1 t120 t121 _ A4.out).mono ?_); rintro e w16 ⟨rfl, hb⟩; refine ⟨_, rfl, ?_⟩; have n0_ := Aside0.mk (below_step (by repeat (first | (with_reducible first | exact HB.out | apply below_alloc | apply pw_below_drewN | apply below_drew1) | exact HB.out)) hb); clear HB; have HB := n0_; clear n0_; (try clear hb); (try clear hb2); (try clear hk); (try clear hi)) | ((with_reducible refine gate_callee (f := 13) rfl ?_); refine goesL_ (some 28) rfl rfl Try.func13 (by kernel_rfl) rfl #[.int .u64 t120, .int .u64 t121, .int .u64 a1] rfl (by (try simp only [List.map_toArray, List.map_cons, List.map_nil]); first | done | rfl | (simp only [List.length_drop, List.length_take]; rfl)) ?_; (with_reducible refine (wide_Div.calls t120 t121 a1 t122 t123 false _ A5.out).mono ?_); rintro e w17 ⟨rfl, hb⟩; refine ⟨_, rfl, ?_⟩; have n0_ := Aside0.mk (below_step (by repeat (first | (with_reducible first | exact HB.out | apply below_alloc | apply pw_below_drewN | apply below_drew1) | exact HB.out)) hb); clear HB; have HB := n0_; clear n0_; (try clear hb); (try clear hb2); (try clear hk); (try clear hi))))
          all_goals (go_ret)
          all_goals (exact ⟨by first | rfl | (simp [errW_none, errW_some] <;> rfl) | (simp [*, errW_none, errW_some] <;> rfl), by repeat (first | (with_reducible first | exact HB.out | apply below_alloc | apply pw_below_drewN | apply below_drew1) | exact HB.out)⟩)
      · rw [if_neg c10] at H
        have c10b0 : (t122 == 0) = false := beq_eq_false_iff_ne.mpr c10
        have c10b1 : (t122 != 0) = true := bne_iff_ne.mpr c10
        first | exact absurd ((Option.some.inj H).trans hr.out) Bool.false_ne_true | skip
        all_goals (obtain rfl := Option.some.inj H)
        all_goals (go_enter Try.func5, Try.ntmps5)
        all_goals (go_wp2_with (first | ((with_reducible refine gate_callee (f := 14) rfl ?_); refine goesL_ (some 21) rfl rfl Try.func14 (by kernel_rfl) rfl #[.int .u64 a0, .int .u64 a1] rfl (by (try simp only [List.map_toArray, List.map_cons, List.map_nil]); first | done | rfl | (simp only [List.length_drop, List.length_take]; rfl)) ?_; (with_reducible refine (wide_Mul.calls a0 a1 t120 t121 _ A4.out).mono ?_); rintro e w18 ⟨rfl, hb⟩; refine ⟨_, rfl, ?_⟩; have n0_ := Aside0.mk (below_step (by repeat (first | (with_reducible first | exact HB.out | apply below_alloc | apply pw_below_drewN | apply below_drew1) | exact HB.out)) hb); clear HB; have HB := n0_; clear n0_; (try clear hb); (try clear hb2); (try clear hk); (try clear hi)) | ((with_reducible refine gate_callee (f := 13) rfl ?_); refine goesL_ (some 28) rfl rfl Try.func13 (by kernel_rfl) rfl #[.int .u64 t120, .int .u64 t121, .int .u64 a1] rfl (by (try simp only [List.map_toArray, List.map_cons, List.map_nil]); first | done | rfl | (simp only [List.length_drop, List.length_take]; rfl)) ?_; (with_reducible refine (wide_Div.calls t120 t121 a1 t122 t123 false _ A5.out).mono ?_); rintro e w19 ⟨rfl, hb⟩; refine ⟨_, rfl, ?_⟩; have n0_ := Aside0.mk (below_step (by repeat (first | (with_reducible first | exact HB.out | apply below_alloc | apply pw_below_drewN | apply below_drew1) | exact HB.out)) hb); clear HB; have HB := n0_; clear n0_; (try clear hb); (try clear hb2); (try clear hk); (try clear hi))))
        all_goals (go_ret)
        all_goals (exact ⟨by first | rfl | (simp [errW_none, errW_some] <;> rfl) | (simp [*, errW_none, errW_some] <;> rfl), by repeat (first | (with_reducible first | exact HB.out | apply below_alloc | apply pw_below_drewN | apply below_drew1) | exact HB.out)⟩)
  · rw [if_neg c6] at H
    have c6b0 : (a1 == 0) = false := beq_eq_false_iff_ne.mpr c6
    have c6b1 : (a1 != 0) = true := bne_iff_ne.mpr c6
    replace H := Option.bind_eq_some_iff.mp H
    obtain ⟨⟨t126, t127, t128⟩, A200, H⟩ := H
    replace H : ((wide_Div.f t126 t127 a1).bind fun bt129 => (if t124 = true then (if t122 = a0 then (if t123 = 0 then (if t128 = true then (some false) else (if bt129.2.2 = true then (if bt129.1 = a0 then (if bt129.2.1 = (Int.tmod a2 a1) then ((analemmalaw01_shown.f).bind fun t132 => (some t132)) else (some false)) else (some false)) else (some false))) else (some false)) else (some false)) else (some false))) = some r := H
    have A20 := Aside0.mk A200
    clear A200
    replace H := Option.bind_eq_some_iff.mp H
    obtain ⟨⟨t129, t130, t131⟩, A210, H⟩ := H
    replace H : (if t124 = true then (if t122 = a0 then (if t123 = 0 then (if t128 = true then (some false) else (if t131 = true then (if t129 = a0 then (if t130 = (Int.tmod a2 a1) then ((analemmalaw01_shown.f).bind fun t132 => (some t132)) else (some false)) else (some false)) else (some false))) else (some false)) else (some false)) else (some false)) = some r := H
    have A21 := Aside0.mk A210
    clear A210
    by_cases c22 : t124 = true
    · subst c22
      have H1 : (if t122 = a0 then (if t123 = 0 then (if t128 = true then (some false) else (if t131 = true then (if t129 = a0 then (if t130 = (Int.tmod a2 a1) then ((analemmalaw01_shown.f).bind fun t132 => (some t132)) else (some false)) else (some false)) else (some false))) else (some false)) else (some false)) = some r := by rw [if_pos rfl] at H; exact H
      clear H
      have H := H1
      clear H1
      by_cases c23 : t122 = a0
      · rw [if_pos c23] at H
        have c23b0 : (t122 == a0) = true := beq_iff_eq.mpr c23
        have c23b1 : (t122 != a0) = false := bne_eq_false_iff_eq.mpr c23
        clear c23
        by_cases c24 : t123 = 0
        · rw [if_pos c24] at H
          have c24b0 : (t123 == 0) = true := beq_iff_eq.mpr c24
          have c24b1 : (t123 != 0) = false := bne_eq_false_iff_eq.mpr c24
          clear c24
          by_cases c25 : t128 = true
          · subst c25
            have H1 : (some false) = some r := by rw [if_pos rfl] at H; exact H
            clear H
            have H := H1
            clear H1
            first | exact absurd ((Option.some.inj H).trans hr.out) Bool.false_ne_true | skip
            all_goals (obtain rfl := Option.some.inj H)
            all_goals (go_enter Try.func5, Try.ntmps5)
            all_goals (go_wp2_with (first | ((with_reducible refine gate_callee (f := 14) rfl ?_); refine goesL_ (some 21) rfl rfl Try.func14 (by kernel_rfl) rfl #[.int .u64 a0, .int .u64 a1] rfl (by (try simp only [List.map_toArray, List.map_cons, List.map_nil]); first | done | rfl | (simp only [List.length_drop, List.length_take]; rfl)) ?_; (with_reducible refine (wide_Mul.calls a0 a1 t120 t121 _ A4.out).mono ?_); rintro e w26 ⟨rfl, hb⟩; refine ⟨_, rfl, ?_⟩; have n0_ := Aside0.mk (below_step (by repeat (first | (with_reducible first | exact HB.out | apply below_alloc | apply pw_below_drewN | apply below_drew1) | exact HB.out)) hb); clear HB; have HB := n0_; clear n0_; (try clear hb); (try clear hb2); (try clear hk); (try clear hi)) | ((with_reducible refine gate_callee (f := 13) rfl ?_); refine goesL_ (some 28) rfl rfl Try.func13 (by kernel_rfl) rfl #[.int .u64 t120, .int .u64 t121, .int .u64 a1] rfl (by (try simp only [List.map_toArray, List.map_cons, List.map_nil]); first | done | rfl | (simp only [List.length_drop, List.length_take]; rfl)) ?_; (with_reducible refine (wide_Div.calls t120 t121 a1 t122 t123 true _ A5.out).mono ?_); rintro e w27 ⟨rfl, hb⟩; refine ⟨_, rfl, ?_⟩; have n0_ := Aside0.mk (below_step (by repeat (first | (with_reducible first | exact HB.out | apply below_alloc | apply pw_below_drewN | apply below_drew1) | exact HB.out)) hb); clear HB; have HB := n0_; clear n0_; (try clear hb); (try clear hb2); (try clear hk); (try clear hi)) | ((with_reducible refine gate_callee (f := 15) rfl ?_); refine goesL_ (some 53) rfl rfl Try.func15 (by kernel_rfl) rfl #[.int .u64 t120, .int .u64 t121, .int .u64 0, .int .u64 (Int.tmod a2 a1)] rfl (by (try simp only [List.map_toArray, List.map_cons, List.map_nil]); first | done | rfl | (simp only [List.length_drop, List.length_take]; rfl)) ?_; (with_reducible refine (wide_Plus.calls t120 t121 0 (Int.tmod a2 a1) t126 t127 true _ A20.out).mono ?_); rintro e w' ⟨rfl, ⟨nd, rfl⟩⟩; refine ⟨_, rfl, ?_⟩) | ((with_reducible refine gate_callee (f := 13) rfl ?_); refine goesL_ (some 61) rfl rfl Try.func13 (by kernel_rfl) rfl #[.int .u64 t126, .int .u64 t127, .int .u64 a1] rfl (by (try simp only [List.map_toArray, List.map_cons, List.map_nil]); first | done | rfl | (simp only [List.length_drop, List.length_take]; rfl)) ?_; (with_reducible refine (wide_Div.calls t126 t127 a1 t129 t130 t131 _ A21.out).mono ?_); rintro e w28 ⟨rfl, hb⟩; refine ⟨_, rfl, ?_⟩; have n0_ := Aside0.mk (below_step (by repeat (first | (with_reducible first | exact HB.out | apply below_alloc | apply pw_below_drewN | apply below_drew1) | exact HB.out)) hb); clear HB; have HB := n0_; clear n0_; (try clear hb); (try clear hb2); (try clear hk); (try clear hi))))
            all_goals (go_ret)
            all_goals (exact ⟨by first | rfl | (simp [errW_none, errW_some] <;> rfl) | (simp [*, errW_none, errW_some] <;> rfl), by repeat (first | (with_reducible first | exact HB.out | apply below_alloc | apply pw_below_drewN | apply below_drew1) | exact HB.out)⟩)
          · replace c25 := Bool.eq_false_iff.mpr c25
            subst c25
            have H1 : (if t131 = true then (if t129 = a0 then (if t130 = (Int.tmod a2 a1) then ((analemmalaw01_shown.f).bind fun t132 => (some t132)) else (some false)) else (some false)) else (some false)) = some r := by rw [if_neg (show ¬ (false = true) by decide)] at H; exact H
            clear H
            have H := H1
            clear H1
            by_cases c29 : t131 = true
            · subst c29
              have H1 : (if t129 = a0 then (if t130 = (Int.tmod a2 a1) then ((analemmalaw01_shown.f).bind fun t132 => (some t132)) else (some false)) else (some false)) = some r := by rw [if_pos rfl] at H; exact H
              clear H
              have H := H1
              clear H1
              by_cases c30 : t129 = a0
              · rw [if_pos c30] at H
                have c30b0 : (t129 == a0) = true := beq_iff_eq.mpr c30
                have c30b1 : (t129 != a0) = false := bne_eq_false_iff_eq.mpr c30
                clear c30
                by_cases c31 : t130 = (Int.tmod a2 a1)
                · rw [if_pos c31] at H
                  have c31b0 : (t130 == (Int.tmod a2 a1)) = true := beq_iff_eq.mpr c31
                  have c31b1 : (t130 != (Int.tmod a2 a1)) = false := bne_eq_false_iff_eq.mpr c31
                  clear c31
                  replace H := Option.bind_eq_some_iff.mp H
                  obtain ⟨t132, A320, H⟩ := H
                  replace H : (some t132) = some r := H
                  have A32 := Aside0.mk A320
                  clear A320
                  first | exact absurd ((Option.some.inj H).trans hr.out) Bool.false_ne_true | skip
                  all_goals (obtain rfl := Option.some.inj H)
                  all_goals (go_enter Try.func5, Try.ntmps5)
                  all_goals (go_wp2_with (first | ((with_reducible refine gate_callee (f := 14) rfl ?_); refine goesL_ (some 21) rfl rfl Try.func14 (by kernel_rfl) rfl #[.int .u64 a0, .int .u64 a1] rfl (by (try simp only [List.map_toArray, List.map_cons, List.map_nil]); first | done | rfl | (simp only [List.length_drop, List.length_take]; rfl)) ?_; (with_reducible refine (wide_Mul.calls a0 a1 t120 t121 _ A4.out).mono ?_); rintro e w33 ⟨rfl, hb⟩; refine ⟨_, rfl, ?_⟩; have n0_ := Aside0.mk (below_step (by repeat (first | (with_reducible first | exact HB.out | apply below_alloc | apply pw_below_drewN | apply below_drew1) | exact HB.out)) hb); clear HB; have HB := n0_; clear n0_; (try clear hb); (try clear hb2); (try clear hk); (try clear hi)) | ((with_reducible refine gate_callee (f := 13) rfl ?_); refine goesL_ (some 28) rfl rfl Try.func13 (by kernel_rfl) rfl #[.int .u64 t120, .int .u64 t121, .int .u64 a1] rfl (by (try simp only [List.map_toArray, List.map_cons, List.map_nil]); first | done | rfl | (simp only [List.length_drop, List.length_take]; rfl)) ?_; (with_reducible refine (wide_Div.calls t120 t121 a1 t122 t123 true _ A5.out).mono ?_); rintro e w34 ⟨rfl, hb⟩; refine ⟨_, rfl, ?_⟩; have n0_ := Aside0.mk (below_step (by repeat (first | (with_reducible first | exact HB.out | apply below_alloc | apply pw_below_drewN | apply below_drew1) | exact HB.out)) hb); clear HB; have HB := n0_; clear n0_; (try clear hb); (try clear hb2); (try clear hk); (try clear hi)) | ((with_reducible refine gate_callee (f := 15) rfl ?_); refine goesL_ (some 53) rfl rfl Try.func15 (by kernel_rfl) rfl #[.int .u64 t120, .int .u64 t121, .int .u64 0, .int .u64 (Int.tmod a2 a1)] rfl (by (try simp only [List.map_toArray, List.map_cons, List.map_nil]); first | done | rfl | (simp only [List.length_drop, List.length_take]; rfl)) ?_; (with_reducible refine (wide_Plus.calls t120 t121 0 (Int.tmod a2 a1) t126 t127 false _ A20.out).mono ?_); rintro e w' ⟨rfl, ⟨nd, rfl⟩⟩; refine ⟨_, rfl, ?_⟩) | ((with_reducible refine gate_callee (f := 13) rfl ?_); refine goesL_ (some 61) rfl rfl Try.func13 (by kernel_rfl) rfl #[.int .u64 t126, .int .u64 t127, .int .u64 a1] rfl (by (try simp only [List.map_toArray, List.map_cons, List.map_nil]); first | done | rfl | (simp only [List.length_drop, List.length_take]; rfl)) ?_; (with_reducible refine (wide_Div.calls t126 t127 a1 t129 t130 true _ A21.out).mono ?_); rintro e w35 ⟨rfl, hb⟩; refine ⟨_, rfl, ?_⟩; have n0_ := Aside0.mk (below_step (by repeat (first | (with_reducible first | exact HB.out | apply below_alloc | apply pw_below_drewN | apply below_drew1) | exact HB.out)) hb); clear HB; have HB := n0_; clear n0_; (try clear hb); (try clear hb2); (try clear hk); (try clear hi)) | (go_at_call 12; (with_reducible refine (analemmalaw01_shown.calls  t132 _ A32.out).mono ?_); rintro e w36 ⟨rfl, hb⟩; have n0_ := Aside0.mk (below_step (by repeat (first | (with_reducible first | exact HB.out | apply below_alloc | apply pw_below_drewN | apply below_drew1) | exact HB.out)) hb); clear HB; have HB := n0_; clear n0_; (try clear hb); (try clear hb2); (try clear hk); (try clear hi))))
                  all_goals (go_ret)
                  all_goals (exact ⟨by first | rfl | (simp [errW_none, errW_some] <;> rfl) | (simp [*, errW_none, errW_some] <;> rfl), by repeat (first | (with_reducible first | exact HB.out | apply below_alloc | apply pw_below_drewN | apply below_drew1) | exact HB.out)⟩)
                · rw [if_neg c31] at H
                  have c31b0 : (t130 == (Int.tmod a2 a1)) = false := beq_eq_false_iff_ne.mpr c31
                  have c31b1 : (t130 != (Int.tmod a2 a1)) = true := bne_iff_ne.mpr c31
                  first | exact absurd ((Option.some.inj H).trans hr.out) Bool.false_ne_true | skip
                  all_goals (obtain rfl := Option.some.inj H)
                  all_goals (go_enter Try.func5, Try.ntmps5)
                  all_goals (go_wp2_with (first | ((with_reducible refine gate_callee (f := 14) rfl ?_); refine goesL_ (some 21) rfl rfl Try.func14 (by kernel_rfl) rfl #[.int .u64 a0, .int .u64 a1] rfl (by (try simp only [List.map_toArray, List.map_cons, List.map_nil]); first | done | rfl | (simp only [List.length_drop, List.length_take]; rfl)) ?_; (with_reducible refine (wide_Mul.calls a0 a1 t120 t121 _ A4.out).mono ?_); rintro e w37 ⟨rfl, hb⟩; refine ⟨_, rfl, ?_⟩; have n0_ := Aside0.mk (below_step (by repeat (first | (with_reducible first | exact HB.out | apply below_alloc | apply pw_below_drewN | apply below_drew1) | exact HB.out)) hb); clear HB; have HB := n0_; clear n0_; (try clear hb); (try clear hb2); (try clear hk); (try clear hi)) | ((with_reducible refine gate_callee (f := 13) rfl ?_); refine goesL_ (some 28) rfl rfl Try.func13 (by kernel_rfl) rfl #[.int .u64 t120, .int .u64 t121, .int .u64 a1] rfl (by (try simp only [List.map_toArray, List.map_cons, List.map_nil]); first | done | rfl | (simp only [List.length_drop, List.length_take]; rfl)) ?_; (with_reducible refine (wide_Div.calls t120 t121 a1 t122 t123 true _ A5.out).mono ?_); rintro e w38 ⟨rfl, hb⟩; refine ⟨_, rfl, ?_⟩; have n0_ := Aside0.mk (below_step (by repeat (first | (with_reducible first | exact HB.out | apply below_alloc | apply pw_below_drewN | apply below_drew1) | exact HB.out)) hb); clear HB; have HB := n0_; clear n0_; (try clear hb); (try clear hb2); (try clear hk); (try clear hi)) | ((with_reducible refine gate_callee (f := 15) rfl ?_); refine goesL_ (some 53) rfl rfl Try.func15 (by kernel_rfl) rfl #[.int .u64 t120, .int .u64 t121, .int .u64 0, .int .u64 (Int.tmod a2 a1)] rfl (by (try simp only [List.map_toArray, List.map_cons, List.map_nil]); first | done | rfl | (simp only [List.length_drop, List.length_take]; rfl)) ?_; (with_reducible refine (wide_Plus.calls t120 t121 0 (Int.tmod a2 a1) t126 t127 false _ A20.out).mono ?_); rintro e w' ⟨rfl, ⟨nd, rfl⟩⟩; refine ⟨_, rfl, ?_⟩) | ((with_reducible refine gate_callee (f := 13) rfl ?_); refine goesL_ (some 61) rfl rfl Try.func13 (by kernel_rfl) rfl #[.int .u64 t126, .int .u64 t127, .int .u64 a1] rfl (by (try simp only [List.map_toArray, List.map_cons, List.map_nil]); first | done | rfl | (simp only [List.length_drop, List.length_take]; rfl)) ?_; (with_reducible refine (wide_Div.calls t126 t127 a1 t129 t130 true _ A21.out).mono ?_); rintro e w39 ⟨rfl, hb⟩; refine ⟨_, rfl, ?_⟩; have n0_ := Aside0.mk (below_step (by repeat (first | (with_reducible first | exact HB.out | apply below_alloc | apply pw_below_drewN | apply below_drew1) | exact HB.out)) hb); clear HB; have HB := n0_; clear n0_; (try clear hb); (try clear hb2); (try clear hk); (try clear hi))))
                  all_goals (go_ret)
                  all_goals (exact ⟨by first | rfl | (simp [errW_none, errW_some] <;> rfl) | (simp [*, errW_none, errW_some] <;> rfl), by repeat (first | (with_reducible first | exact HB.out | apply below_alloc | apply pw_below_drewN | apply below_drew1) | exact HB.out)⟩)
              · rw [if_neg c30] at H
                have c30b0 : (t129 == a0) = false := beq_eq_false_iff_ne.mpr c30
                have c30b1 : (t129 != a0) = true := bne_iff_ne.mpr c30
                first | exact absurd ((Option.some.inj H).trans hr.out) Bool.false_ne_true | skip
                all_goals (obtain rfl := Option.some.inj H)
                all_goals (go_enter Try.func5, Try.ntmps5)
                all_goals (go_wp2_with (first | ((with_reducible refine gate_callee (f := 14) rfl ?_); refine goesL_ (some 21) rfl rfl Try.func14 (by kernel_rfl) rfl #[.int .u64 a0, .int .u64 a1] rfl (by (try simp only [List.map_toArray, List.map_cons, List.map_nil]); first | done | rfl | (simp only [List.length_drop, List.length_take]; rfl)) ?_; (with_reducible refine (wide_Mul.calls a0 a1 t120 t121 _ A4.out).mono ?_); rintro e w40 ⟨rfl, hb⟩; refine ⟨_, rfl, ?_⟩; have n0_ := Aside0.mk (below_step (by repeat (first | (with_reducible first | exact HB.out | apply below_alloc | apply pw_below_drewN | apply below_drew1) | exact HB.out)) hb); clear HB; have HB := n0_; clear n0_; (try clear hb); (try clear hb2); (try clear hk); (try clear hi)) | ((with_reducible refine gate_callee (f := 13) rfl ?_); refine goesL_ (some 28) rfl rfl Try.func13 (by kernel_rfl) rfl #[.int .u64 t120, .int .u64 t121, .int .u64 a1] rfl (by (try simp only [List.map_toArray, List.map_cons, List.map_nil]); first | done | rfl | (simp only [List.length_drop, List.length_take]; rfl)) ?_; (with_reducible refine (wide_Div.calls t120 t121 a1 t122 t123 true _ A5.out).mono ?_); rintro e w41 ⟨rfl, hb⟩; refine ⟨_, rfl, ?_⟩; have n0_ := Aside0.mk (below_step (by repeat (first | (with_reducible first | exact HB.out | apply below_alloc | apply pw_below_drewN | apply below_drew1) | exact HB.out)) hb); clear HB; have HB := n0_; clear n0_; (try clear hb); (try clear hb2); (try clear hk); (try clear hi)) | ((with_reducible refine gate_callee (f := 15) rfl ?_); refine goesL_ (some 53) rfl rfl Try.func15 (by kernel_rfl) rfl #[.int .u64 t120, .int .u64 t121, .int .u64 0, .int .u64 (Int.tmod a2 a1)] rfl (by (try simp only [List.map_toArray, List.map_cons, List.map_nil]); first | done | rfl | (simp only [List.length_drop, List.length_take]; rfl)) ?_; (with_reducible refine (wide_Plus.calls t120 t121 0 (Int.tmod a2 a1) t126 t127 false _ A20.out).mono ?_); rintro e w' ⟨rfl, ⟨nd, rfl⟩⟩; refine ⟨_, rfl, ?_⟩) | ((with_reducible refine gate_callee (f := 13) rfl ?_); refine goesL_ (some 61) rfl rfl Try.func13 (by kernel_rfl) rfl #[.int .u64 t126, .int .u64 t127, .int .u64 a1] rfl (by (try simp only [List.map_toArray, List.map_cons, List.map_nil]); first | done | rfl | (simp only [List.length_drop, List.length_take]; rfl)) ?_; (with_reducible refine (wide_Div.calls t126 t127 a1 t129 t130 true _ A21.out).mono ?_); rintro e w42 ⟨rfl, hb⟩; refine ⟨_, rfl, ?_⟩; have n0_ := Aside0.mk (below_step (by repeat (first | (with_reducible first | exact HB.out | apply below_alloc | apply pw_below_drewN | apply below_drew1) | exact HB.out)) hb); clear HB; have HB := n0_; clear n0_; (try clear hb); (try clear hb2); (try clear hk); (try clear hi))))
                all_goals (go_ret)
                all_goals (exact ⟨by first | rfl | (simp [errW_none, errW_some] <;> rfl) | (simp [*, errW_none, errW_some] <;> rfl), by repeat (first | (with_reducible first | exact HB.out | apply below_alloc | apply pw_below_drewN | apply below_drew1) | exact HB.out)⟩)
            · replace c29 := Bool.eq_false_iff.mpr c29
              subst c29
              have H1 : (some false) = some r := by rw [if_neg (show ¬ (false = true) by decide)] at H; exact H
              clear H
              have H := H1
              clear H1
              first | exact absurd ((Option.some.inj H).trans hr.out) Bool.false_ne_true | skip
              all_goals (obtain rfl := Option.some.inj H)
              all_goals (go_enter Try.func5, Try.ntmps5)
              all_goals (go_wp2_with (first | ((with_reducible refine gate_callee (f := 14) rfl ?_); refine goesL_ (some 21) rfl rfl Try.func14 (by kernel_rfl) rfl #[.int .u64 a0, .int .u64 a1] rfl (by (try simp only [List.map_toArray, List.map_cons, List.map_nil]); first | done | rfl | (simp only [List.length_drop, List.length_take]; rfl)) ?_; (with_reducible refine (wide_Mul.calls a0 a1 t120 t121 _ A4.out).mono ?_); rintro e w43 ⟨rfl, hb⟩; refine ⟨_, rfl, ?_⟩; have n0_ := Aside0.mk (below_step (by repeat (first | (with_reducible first | exact HB.out | apply below_alloc | apply pw_below_drewN | apply below_drew1) | exact HB.out)) hb); clear HB; have HB := n0_; clear n0_; (try clear hb); (try clear hb2); (try clear hk); (try clear hi)) | ((with_reducible refine gate_callee (f := 13) rfl ?_); refine goesL_ (some 28) rfl rfl Try.func13 (by kernel_rfl) rfl #[.int .u64 t120, .int .u64 t121, .int .u64 a1] rfl (by (try simp only [List.map_toArray, List.map_cons, List.map_nil]); first | done | rfl | (simp only [List.length_drop, List.length_take]; rfl)) ?_; (with_reducible refine (wide_Div.calls t120 t121 a1 t122 t123 true _ A5.out).mono ?_); rintro e w44 ⟨rfl, hb⟩; refine ⟨_, rfl, ?_⟩; have n0_ := Aside0.mk (below_step (by repeat (first | (with_reducible first | exact HB.out | apply below_alloc | apply pw_below_drewN | apply below_drew1) | exact HB.out)) hb); clear HB; have HB := n0_; clear n0_; (try clear hb); (try clear hb2); (try clear hk); (try clear hi)) | ((with_reducible refine gate_callee (f := 15) rfl ?_); refine goesL_ (some 53) rfl rfl Try.func15 (by kernel_rfl) rfl #[.int .u64 t120, .int .u64 t121, .int .u64 0, .int .u64 (Int.tmod a2 a1)] rfl (by (try simp only [List.map_toArray, List.map_cons, List.map_nil]); first | done | rfl | (simp only [List.length_drop, List.length_take]; rfl)) ?_; (with_reducible refine (wide_Plus.calls t120 t121 0 (Int.tmod a2 a1) t126 t127 false _ A20.out).mono ?_); rintro e w' ⟨rfl, ⟨nd, rfl⟩⟩; refine ⟨_, rfl, ?_⟩) | ((with_reducible refine gate_callee (f := 13) rfl ?_); refine goesL_ (some 61) rfl rfl Try.func13 (by kernel_rfl) rfl #[.int .u64 t126, .int .u64 t127, .int .u64 a1] rfl (by (try simp only [List.map_toArray, List.map_cons, List.map_nil]); first | done | rfl | (simp only [List.length_drop, List.length_take]; rfl)) ?_; (with_reducible refine (wide_Div.calls t126 t127 a1 t129 t130 false _ A21.out).mono ?_); rintro e w45 ⟨rfl, hb⟩; refine ⟨_, rfl, ?_⟩; have n0_ := Aside0.mk (below_step (by repeat (first | (with_reducible first | exact HB.out | apply below_alloc | apply pw_below_drewN | apply below_drew1) | exact HB.out)) hb); clear HB; have HB := n0_; clear n0_; (try clear hb); (try clear hb2); (try clear hk); (try clear hi))))
              all_goals (go_ret)
              all_goals (exact ⟨by first | rfl | (simp [errW_none, errW_some] <;> rfl) | (simp [*, errW_none, errW_some] <;> rfl), by repeat (first | (with_reducible first | exact HB.out | apply below_alloc | apply pw_below_drewN | apply below_drew1) | exact HB.out)⟩)
        · rw [if_neg c24] at H
          have c24b0 : (t123 == 0) = false := beq_eq_false_iff_ne.mpr c24
          have c24b1 : (t123 != 0) = true := bne_iff_ne.mpr c24
          first | exact absurd ((Option.some.inj H).trans hr.out) Bool.false_ne_true | skip
          all_goals (obtain rfl := Option.some.inj H)
          all_goals (go_enter Try.func5, Try.ntmps5)
          all_goals (go_wp2_with (first | ((with_reducible refine gate_callee (f := 14) rfl ?_); refine goesL_ (some 21) rfl rfl Try.func14 (by kernel_rfl) rfl #[.int .u64 a0, .int .u64 a1] rfl (by (try simp only [List.map_toArray, List.map_cons, List.map_nil]); first | done | rfl | (simp only [List.length_drop, List.length_take]; rfl)) ?_; (with_reducible refine (wide_Mul.calls a0 a1 t120 t121 _ A4.out).mono ?_); rintro e w46 ⟨rfl, hb⟩; refine ⟨_, rfl, ?_⟩; have n0_ := Aside0.mk (below_step (by repeat (first | (with_reducible first | exact HB.out | apply below_alloc | apply pw_below_drewN | apply below_drew1) | exact HB.out)) hb); clear HB; have HB := n0_; clear n0_; (try clear hb); (try clear hb2); (try clear hk); (try clear hi)) | ((with_reducible refine gate_callee (f := 13) rfl ?_); refine goesL_ (some 28) rfl rfl Try.func13 (by kernel_rfl) rfl #[.int .u64 t120, .int .u64 t121, .int .u64 a1] rfl (by (try simp only [List.map_toArray, List.map_cons, List.map_nil]); first | done | rfl | (simp only [List.length_drop, List.length_take]; rfl)) ?_; (with_reducible refine (wide_Div.calls t120 t121 a1 t122 t123 true _ A5.out).mono ?_); rintro e w47 ⟨rfl, hb⟩; refine ⟨_, rfl, ?_⟩; have n0_ := Aside0.mk (below_step (by repeat (first | (with_reducible first | exact HB.out | apply below_alloc | apply pw_below_drewN | apply below_drew1) | exact HB.out)) hb); clear HB; have HB := n0_; clear n0_; (try clear hb); (try clear hb2); (try clear hk); (try clear hi)) | ((with_reducible refine gate_callee (f := 15) rfl ?_); refine goesL_ (some 53) rfl rfl Try.func15 (by kernel_rfl) rfl #[.int .u64 t120, .int .u64 t121, .int .u64 0, .int .u64 (Int.tmod a2 a1)] rfl (by (try simp only [List.map_toArray, List.map_cons, List.map_nil]); first | done | rfl | (simp only [List.length_drop, List.length_take]; rfl)) ?_; (with_reducible refine (wide_Plus.calls t120 t121 0 (Int.tmod a2 a1) t126 t127 t128 _ A20.out).mono ?_); rintro e w' ⟨rfl, ⟨nd, rfl⟩⟩; refine ⟨_, rfl, ?_⟩) | ((with_reducible refine gate_callee (f := 13) rfl ?_); refine goesL_ (some 61) rfl rfl Try.func13 (by kernel_rfl) rfl #[.int .u64 t126, .int .u64 t127, .int .u64 a1] rfl (by (try simp only [List.map_toArray, List.map_cons, List.map_nil]); first | done | rfl | (simp only [List.length_drop, List.length_take]; rfl)) ?_; (with_reducible refine (wide_Div.calls t126 t127 a1 t129 t130 t131 _ A21.out).mono ?_); rintro e w48 ⟨rfl, hb⟩; refine ⟨_, rfl, ?_⟩; have n0_ := Aside0.mk (below_step (by repeat (first | (with_reducible first | exact HB.out | apply below_alloc | apply pw_below_drewN | apply below_drew1) | exact HB.out)) hb); clear HB; have HB := n0_; clear n0_; (try clear hb); (try clear hb2); (try clear hk); (try clear hi))))
          all_goals (go_ret)
          all_goals (exact ⟨by first | rfl | (simp [errW_none, errW_some] <;> rfl) | (simp [*, errW_none, errW_some] <;> rfl), by repeat (first | (with_reducible first | exact HB.out | apply below_alloc | apply pw_below_drewN | apply below_drew1) | exact HB.out)⟩)
      · rw [if_neg c23] at H
        have c23b0 : (t122 == a0) = false := beq_eq_false_iff_ne.mpr c23
        have c23b1 : (t122 != a0) = true := bne_iff_ne.mpr c23
        first | exact absurd ((Option.some.inj H).trans hr.out) Bool.false_ne_true | skip
        all_goals (obtain rfl := Option.some.inj H)
        all_goals (go_enter Try.func5, Try.ntmps5)
        all_goals (go_wp2_with (first | ((with_reducible refine gate_callee (f := 14) rfl ?_); refine goesL_ (some 21) rfl rfl Try.func14 (by kernel_rfl) rfl #[.int .u64 a0, .int .u64 a1] rfl (by (try simp only [List.map_toArray, List.map_cons, List.map_nil]); first | done | rfl | (simp only [List.length_drop, List.length_take]; rfl)) ?_; (with_reducible refine (wide_Mul.calls a0 a1 t120 t121 _ A4.out).mono ?_); rintro e w49 ⟨rfl, hb⟩; refine ⟨_, rfl, ?_⟩; have n0_ := Aside0.mk (below_step (by repeat (first | (with_reducible first | exact HB.out | apply below_alloc | apply pw_below_drewN | apply below_drew1) | exact HB.out)) hb); clear HB; have HB := n0_; clear n0_; (try clear hb); (try clear hb2); (try clear hk); (try clear hi)) | ((with_reducible refine gate_callee (f := 13) rfl ?_); refine goesL_ (some 28) rfl rfl Try.func13 (by kernel_rfl) rfl #[.int .u64 t120, .int .u64 t121, .int .u64 a1] rfl (by (try simp only [List.map_toArray, List.map_cons, List.map_nil]); first | done | rfl | (simp only [List.length_drop, List.length_take]; rfl)) ?_; (with_reducible refine (wide_Div.calls t120 t121 a1 t122 t123 true _ A5.out).mono ?_); rintro e w50 ⟨rfl, hb⟩; refine ⟨_, rfl, ?_⟩; have n0_ := Aside0.mk (below_step (by repeat (first | (with_reducible first | exact HB.out | apply below_alloc | apply pw_below_drewN | apply below_drew1) | exact HB.out)) hb); clear HB; have HB := n0_; clear n0_; (try clear hb); (try clear hb2); (try clear hk); (try clear hi)) | ((with_reducible refine gate_callee (f := 15) rfl ?_); refine goesL_ (some 53) rfl rfl Try.func15 (by kernel_rfl) rfl #[.int .u64 t120, .int .u64 t121, .int .u64 0, .int .u64 (Int.tmod a2 a1)] rfl (by (try simp only [List.map_toArray, List.map_cons, List.map_nil]); first | done | rfl | (simp only [List.length_drop, List.length_take]; rfl)) ?_; (with_reducible refine (wide_Plus.calls t120 t121 0 (Int.tmod a2 a1) t126 t127 t128 _ A20.out).mono ?_); rintro e w' ⟨rfl, ⟨nd, rfl⟩⟩; refine ⟨_, rfl, ?_⟩) | ((with_reducible refine gate_callee (f := 13) rfl ?_); refine goesL_ (some 61) rfl rfl Try.func13 (by kernel_rfl) rfl #[.int .u64 t126, .int .u64 t127, .int .u64 a1] rfl (by (try simp only [List.map_toArray, List.map_cons, List.map_nil]); first | done | rfl | (simp only [List.length_drop, List.length_take]; rfl)) ?_; (with_reducible refine (wide_Div.calls t126 t127 a1 t129 t130 t131 _ A21.out).mono ?_); rintro e w51 ⟨rfl, hb⟩; refine ⟨_, rfl, ?_⟩; have n0_ := Aside0.mk (below_step (by repeat (first | (with_reducible first | exact HB.out | apply below_alloc | apply pw_below_drewN | apply below_drew1) | exact HB.out)) hb); clear HB; have HB := n0_; clear n0_; (try clear hb); (try clear hb2); (try clear hk); (try clear hi))))
        all_goals (go_ret)
        all_goals (exact ⟨by first | rfl | (simp [errW_none, errW_some] <;> rfl) | (simp [*, errW_none, errW_some] <;> rfl), by repeat (first | (with_reducible first | exact HB.out | apply below_alloc | apply pw_below_drewN | apply below_drew1) | exact HB.out)⟩)
    · replace c22 := Bool.eq_false_iff.mpr c22
      subst c22
      have H1 : (some false) = some r := by rw [if_neg (show ¬ (false = true) by decide)] at H; exact H
      clear H
      have H := H1
      clear H1
      first | exact absurd ((Option.some.inj H).trans hr.out) Bool.false_ne_true | skip
      all_goals (obtain rfl := Option.some.inj H)
      all_goals (go_enter Try.func5, Try.ntmps5)
      all_goals (go_wp2_with (first | ((with_reducible refine gate_callee (f := 14) rfl ?_); refine goesL_ (some 21) rfl rfl Try.func14 (by kernel_rfl) rfl #[.int .u64 a0, .int .u64 a1] rfl (by (try simp only [List.map_toArray, List.map_cons, List.map_nil]); first | done | rfl | (simp only [List.length_drop, List.length_take]; rfl)) ?_; (with_reducible refine (wide_Mul.calls a0 a1 t120 t121 _ A4.out).mono ?_); rintro e w52 ⟨rfl, hb⟩; refine ⟨_, rfl, ?_⟩; have n0_ := Aside0.mk (below_step (by repeat (first | (with_reducible first | exact HB.out | apply below_alloc | apply pw_below_drewN | apply below_drew1) | exact HB.out)) hb); clear HB; have HB := n0_; clear n0_; (try clear hb); (try clear hb2); (try clear hk); (try clear hi)) | ((with_reducible refine gate_callee (f := 13) rfl ?_); refine goesL_ (some 28) rfl rfl Try.func13 (by kernel_rfl) rfl #[.int .u64 t120, .int .u64 t121, .int .u64 a1] rfl (by (try simp only [List.map_toArray, List.map_cons, List.map_nil]); first | done | rfl | (simp only [List.length_drop, List.length_take]; rfl)) ?_; (with_reducible refine (wide_Div.calls t120 t121 a1 t122 t123 false _ A5.out).mono ?_); rintro e w53 ⟨rfl, hb⟩; refine ⟨_, rfl, ?_⟩; have n0_ := Aside0.mk (below_step (by repeat (first | (with_reducible first | exact HB.out | apply below_alloc | apply pw_below_drewN | apply below_drew1) | exact HB.out)) hb); clear HB; have HB := n0_; clear n0_; (try clear hb); (try clear hb2); (try clear hk); (try clear hi)) | ((with_reducible refine gate_callee (f := 15) rfl ?_); refine goesL_ (some 53) rfl rfl Try.func15 (by kernel_rfl) rfl #[.int .u64 t120, .int .u64 t121, .int .u64 0, .int .u64 (Int.tmod a2 a1)] rfl (by (try simp only [List.map_toArray, List.map_cons, List.map_nil]); first | done | rfl | (simp only [List.length_drop, List.length_take]; rfl)) ?_; (with_reducible refine (wide_Plus.calls t120 t121 0 (Int.tmod a2 a1) t126 t127 t128 _ A20.out).mono ?_); rintro e w' ⟨rfl, ⟨nd, rfl⟩⟩; refine ⟨_, rfl, ?_⟩) | ((with_reducible refine gate_callee (f := 13) rfl ?_); refine goesL_ (some 61) rfl rfl Try.func13 (by kernel_rfl) rfl #[.int .u64 t126, .int .u64 t127, .int .u64 a1] rfl (by (try simp only [List.map_toArray, List.map_cons, List.map_nil]); first | done | rfl | (simp only [List.length_drop, List.length_take]; rfl)) ?_; (with_reducible refine (wide_Div.calls t126 t127 a1 t129 t130 t131 _ A21.out).mono ?_); rintro e w54 ⟨rfl, hb⟩; refine ⟨_, rfl, ?_⟩; have n0_ := Aside0.mk (below_step (by repeat (first | (with_reducible first | exact HB.out | apply below_alloc | apply pw_below_drewN | apply below_drew1) | exact HB.out)) hb); clear HB; have HB := n0_; clear n0_; (try clear hb); (try clear hb2); (try clear hk); (try clear hi))))
      all_goals (go_ret)
      all_goals (exact ⟨by first | rfl | (simp [errW_none, errW_some] <;> rfl) | (simp [*, errW_none, errW_some] <;> rfl), by repeat (first | (with_reducible first | exact HB.out | apply below_alloc | apply pw_below_drewN | apply below_drew1) | exact HB.out)⟩)

/-- THE ONE PURE STATEMENT of analemmalaw01_WideShares: yours. -/
def analemmalaw01_WideShares.Pure : Prop := ∀ (a0 : Int) (a1 : Int) (a2 : Int), (Lit.int .u64 a0).wf = true → (Lit.int .u64 a1).wf = true → (Lit.int .u64 a2).wf = true → analemmalaw01_WideShares.f a0 a1 a2 = some true
theorem analemmalaw01_WideShares.walk (P : analemmalaw01_WideShares.Pure) (a0 : Int) (a1 : Int) (a2 : Int) (w : World) (w0 : (Lit.int .u64 a0).wf = true) (w1 : (Lit.int .u64 a1).wf = true) (w2 : (Lit.int .u64 a2).wf = true) :
    Calls Try.prog 5 #[.int .u64 a0, .int .u64 a1, .int .u64 a2] w fun e w' => e = .returned (.bool true) ∧ Below w.heap.size w w' := by
  have h := P a0 a1 a2 w0 w1 w2
  refine (analemmalaw01_WideShares.calls a0 a1 a2 true w h (Aside0.mk rfl)).mono ?_
  rintro e w' ⟨rfl, hd⟩
  exact ⟨rfl, hd⟩

/-! ### wide_Less: function 16 -/
def wide_Less.f (a0 : Int) (a1 : Int) (a2 : Int) (a3 : Int) : Option (Bool) := if a0 = a2 then (some (decide (a1 < a3))) else (some (decide (a0 < a2)))
set_option maxHeartbeats 8000000 in
set_option maxRecDepth 100000 in
theorem wide_Less.calls (a0 : Int) (a1 : Int) (a2 : Int) (a3 : Int) (r : Bool) (w : World) (h : wide_Less.f a0 a1 a2 a3 = some r) :
    Calls Try.prog 16 #[.int .u64 a0, .int .u64 a1, .int .u64 a2, .int .u64 a3] w fun e w' => e = .returned (.bool r) ∧ Drawn0 w w' := by
  have H : (if a0 = a2 then (some (decide (a1 < a3))) else (some (decide (a0 < a2)))) = some r := h
  clear h
  by_cases c5 : a0 = a2
  · rw [if_pos c5] at H
    have c5b0 : (a0 == a2) = true := beq_iff_eq.mpr c5
    have c5b1 : (a0 != a2) = false := bne_eq_false_iff_eq.mpr c5
    clear c5
    obtain rfl := Option.some.inj H
    go_enter Try.func16, Try.ntmps16
    go_wp2
    go_ret
    exact ⟨by first | rfl | (simp; done) | (simp [*]; done), by repeat (first | exact Drawn0.refl _ | apply Drawn0.step)⟩
  · rw [if_neg c5] at H
    have c5b0 : (a0 == a2) = false := beq_eq_false_iff_ne.mpr c5
    have c5b1 : (a0 != a2) = true := bne_iff_ne.mpr c5
    obtain rfl := Option.some.inj H
    go_enter Try.func16, Try.ntmps16
    go_wp2
    go_ret
    exact ⟨by first | rfl | (simp; done) | (simp [*]; done), by repeat (first | exact Drawn0.refl _ | apply Drawn0.step)⟩

/-! ### analemmalaw01_WideSums: function 6 -/
def analemmalaw01_WideSums.f (a0 : Int) (a1 : Int) (a2 : Int) (a3 : Int) : Option (Bool) := (wide_Plus.f a0 a1 a2 a3).bind fun bt133 => ((wide_Plus.f a2 a3 a0 a1).bind fun bt136 => (if bt133.1 = bt136.1 then (if bt133.2.1 = bt136.2.1 then (if (bt133.2.2 == bt136.2.2) = true then ((wide_Less.f bt133.1 bt133.2.1 a0 a1).bind fun t139 => (if (t139 == bt133.2.2) = true then ((wide_Less.f bt133.1 bt133.2.1 a2 a3).bind fun t140 => (if (t140 == bt133.2.2) = true then ((analemmalaw01_shown.f).bind fun t141 => (some t141)) else (some false))) else (some false))) else (some false)) else (some false)) else (some false)))
set_option maxHeartbeats 8000000 in
set_option maxRecDepth 100000 in
theorem analemmalaw01_WideSums.calls (a0 : Int) (a1 : Int) (a2 : Int) (a3 : Int) (r : Bool) (w : World) (h : analemmalaw01_WideSums.f a0 a1 a2 a3 = some r) (hr : Aside0 (r = true)) :
    Calls Try.prog 6 #[.int .u64 a0, .int .u64 a1, .int .u64 a2, .int .u64 a3] w fun e w' => e = .returned (.bool r) ∧ Below w.heap.size w w' := by
  have HB := Aside0.mk (Below.refl w.heap.size w)
  have H : ((wide_Plus.f a0 a1 a2 a3).bind fun bt133 => ((wide_Plus.f a2 a3 a0 a1).bind fun bt136 => (if bt133.1 = bt136.1 then (if bt133.2.1 = bt136.2.1 then (if (bt133.2.2 == bt136.2.2) = true then ((wide_Less.f bt133.1 bt133.2.1 a0 a1).bind fun t139 => (if (t139 == bt133.2.2) = true then ((wide_Less.f bt133.1 bt133.2.1 a2 a3).bind fun t140 => (if (t140 == bt133.2.2) = true then ((analemmalaw01_shown.f).bind fun t141 => (some t141)) else (some false))) else (some false))) else (some false)) else (some false)) else (some false)))) = some r := h
  clear h
  replace H := Option.bind_eq_some_iff.mp H
  obtain ⟨⟨t133, t134, t135⟩, A50, H⟩ := H
  replace H : ((wide_Plus.f a2 a3 a0 a1).bind fun bt136 => (if t133 = bt136.1 then (if t134 = bt136.2.1 then (if (t135 == bt136.2.2) = true then ((wide_Less.f t133 t134 a0 a1).bind fun t139 => (if (t139 == t135) = true then ((wide_Less.f t133 t134 a2 a3).bind fun t140 => (if (t140 == t135) = true then ((analemmalaw01_shown.f).bind fun t141 => (some t141)) else (some false))) else (some false))) else (some false)) else (some false)) else (some false))) = some r := H
  have A5 := Aside0.mk A50
  clear A50
  replace H := Option.bind_eq_some_iff.mp H
  obtain ⟨⟨t136, t137, t138⟩, A60, H⟩ := H
  replace H : (if t133 = t136 then (if t134 = t137 then (if (t135 == t138) = true then ((wide_Less.f t133 t134 a0 a1).bind fun t139 => (if (t139 == t135) = true then ((wide_Less.f t133 t134 a2 a3).bind fun t140 => (if (t140 == t135) = true then ((analemmalaw01_shown.f).bind fun t141 => (some t141)) else (some false))) else (some false))) else (some false)) else (some false)) else (some false)) = some r := H
  have A6 := Aside0.mk A60
  clear A60
  by_cases c7 : t133 = t136
  · rw [if_pos c7] at H
    have c7b0 : (t133 == t136) = true := beq_iff_eq.mpr c7
    have c7b1 : (t133 != t136) = false := bne_eq_false_iff_eq.mpr c7
    clear c7
    by_cases c8 : t134 = t137
    · rw [if_pos c8] at H
      have c8b0 : (t134 == t137) = true := beq_iff_eq.mpr c8
      have c8b1 : (t134 != t137) = false := bne_eq_false_iff_eq.mpr c8
      clear c8
      by_cases c9 : (t135 == t138) = true
      · rw [if_pos c9] at H
        have c9b0 : (t135 == t138) = true := c9
        (try (have c9b1 : decide (t135 = t138) = true := by simpa using c9))
        (try (have c9b2 : (t135 == t138) = true := by simpa using c9))
        clear c9
        replace H := Option.bind_eq_some_iff.mp H
        obtain ⟨t139, A100, H⟩ := H
        replace H : (if (t139 == t135) = true then ((wide_Less.f t133 t134 a2 a3).bind fun t140 => (if (t140 == t135) = true then ((analemmalaw01_shown.f).bind fun t141 => (some t141)) else (some false))) else (some false)) = some r := H
        have A10 := Aside0.mk A100
        clear A100
        by_cases c11 : (t139 == t135) = true
        · rw [if_pos c11] at H
          have c11b0 : (t139 == t135) = true := c11
          (try (have c11b1 : decide (t139 = t135) = true := by simpa using c11))
          (try (have c11b2 : (t139 == t135) = true := by simpa using c11))
          clear c11
          replace H := Option.bind_eq_some_iff.mp H
          obtain ⟨t140, A120, H⟩ := H
          replace H : (if (t140 == t135) = true then ((analemmalaw01_shown.f).bind fun t141 => (some t141)) else (some false)) = some r := H
          have A12 := Aside0.mk A120
          clear A120
          by_cases c13 : (t140 == t135) = true
          · rw [if_pos c13] at H
            have c13b0 : (t140 == t135) = true := c13
            (try (have c13b1 : decide (t140 = t135) = true := by simpa using c13))
            (try (have c13b2 : (t140 == t135) = true := by simpa using c13))
            clear c13
            replace H := Option.bind_eq_some_iff.mp H
            obtain ⟨t141, A140, H⟩ := H
            replace H : (some t141) = some r := H
            have A14 := Aside0.mk A140
            clear A140
            first | exact absurd ((Option.some.inj H).trans hr.out) Bool.false_ne_true | skip
            all_goals (obtain rfl := Option.some.inj H)
            all_goals (go_enter Try.func6, Try.ntmps6)
            all_goals (go_wp2_with (first | ((with_reducible refine gate_callee (f := 15) rfl ?_); refine goesL_ (some 20) rfl rfl Try.func15 (by kernel_rfl) rfl #[.int .u64 a0, .int .u64 a1, .int .u64 a2, .int .u64 a3] rfl (by (try simp only [List.map_toArray, List.map_cons, List.map_nil]); first | done | rfl | (simp only [List.length_drop, List.length_take]; rfl)) ?_; (with_reducible refine (wide_Plus.calls a0 a1 a2 a3 t133 t134 t135 _ A5.out).mono ?_); rintro e w' ⟨rfl, ⟨nd, rfl⟩⟩; refine ⟨_, rfl, ?_⟩) | ((with_reducible refine gate_callee (f := 15) rfl ?_); refine goesL_ (some 29) rfl rfl Try.func15 (by kernel_rfl) rfl #[.int .u64 a2, .int .u64 a3, .int .u64 a0, .int .u64 a1] rfl (by (try simp only [List.map_toArray, List.map_cons, List.map_nil]); first | done | rfl | (simp only [List.length_drop, List.length_take]; rfl)) ?_; (with_reducible refine (wide_Plus.calls a2 a3 a0 a1 t136 t137 t138 _ A6.out).mono ?_); rintro e w' ⟨rfl, ⟨nd, rfl⟩⟩; refine ⟨_, rfl, ?_⟩) | (go_at_call 16; (with_reducible refine (wide_Less.calls t133 t134 a0 a1 t139 _ A10.out).mono ?_); rintro e w' ⟨rfl, ⟨nd, rfl⟩⟩) | (go_at_call 16; (with_reducible refine (wide_Less.calls t133 t134 a2 a3 t140 _ A12.out).mono ?_); rintro e w' ⟨rfl, ⟨nd, rfl⟩⟩) | (go_at_call 12; (with_reducible refine (analemmalaw01_shown.calls  t141 _ A14.out).mono ?_); rintro e w15 ⟨rfl, hb⟩; have n0_ := Aside0.mk (below_step (by repeat (first | (with_reducible first | exact HB.out | apply below_alloc | apply pw_below_drewN | apply below_drew1) | exact HB.out)) hb); clear HB; have HB := n0_; clear n0_; (try clear hb); (try clear hb2); (try clear hk); (try clear hi))))
            all_goals (go_ret)
            all_goals (exact ⟨by first | rfl | (simp [errW_none, errW_some] <;> rfl) | (simp [*, errW_none, errW_some] <;> rfl), by repeat (first | (with_reducible first | exact HB.out | apply below_alloc | apply pw_below_drewN | apply below_drew1) | exact HB.out)⟩)
          · rw [if_neg c13] at H
            have c13b0 : (t140 == t135) = false := by simpa using c13
            (try (have c13b1 : decide (t140 = t135) = false := by simpa using c13))
            (try (have c13b2 : (t140 == t135) = false := by simpa using c13))
            (try (have c13b3 : ¬ (t140 = t135) := by simpa using c13))
            clear c13
            first | exact absurd ((Option.some.inj H).trans hr.out) Bool.false_ne_true | skip
            all_goals (obtain rfl := Option.some.inj H)
            all_goals (go_enter Try.func6, Try.ntmps6)
            all_goals (go_wp2_with (first | ((with_reducible refine gate_callee (f := 15) rfl ?_); refine goesL_ (some 20) rfl rfl Try.func15 (by kernel_rfl) rfl #[.int .u64 a0, .int .u64 a1, .int .u64 a2, .int .u64 a3] rfl (by (try simp only [List.map_toArray, List.map_cons, List.map_nil]); first | done | rfl | (simp only [List.length_drop, List.length_take]; rfl)) ?_; (with_reducible refine (wide_Plus.calls a0 a1 a2 a3 t133 t134 t135 _ A5.out).mono ?_); rintro e w' ⟨rfl, ⟨nd, rfl⟩⟩; refine ⟨_, rfl, ?_⟩) | ((with_reducible refine gate_callee (f := 15) rfl ?_); refine goesL_ (some 29) rfl rfl Try.func15 (by kernel_rfl) rfl #[.int .u64 a2, .int .u64 a3, .int .u64 a0, .int .u64 a1] rfl (by (try simp only [List.map_toArray, List.map_cons, List.map_nil]); first | done | rfl | (simp only [List.length_drop, List.length_take]; rfl)) ?_; (with_reducible refine (wide_Plus.calls a2 a3 a0 a1 t136 t137 t138 _ A6.out).mono ?_); rintro e w' ⟨rfl, ⟨nd, rfl⟩⟩; refine ⟨_, rfl, ?_⟩) | (go_at_call 16; (with_reducible refine (wide_Less.calls t133 t134 a0 a1 t139 _ A10.out).mono ?_); rintro e w' ⟨rfl, ⟨nd, rfl⟩⟩) | (go_at_call 16; (with_reducible refine (wide_Less.calls t133 t134 a2 a3 t140 _ A12.out).mono ?_); rintro e w' ⟨rfl, ⟨nd, rfl⟩⟩)))
            all_goals (go_ret)
            all_goals (exact ⟨by first | rfl | (simp [errW_none, errW_some] <;> rfl) | (simp [*, errW_none, errW_some] <;> rfl), by repeat (first | (with_reducible first | exact HB.out | apply below_alloc | apply pw_below_drewN | apply below_drew1) | exact HB.out)⟩)
        · rw [if_neg c11] at H
          have c11b0 : (t139 == t135) = false := by simpa using c11
          (try (have c11b1 : decide (t139 = t135) = false := by simpa using c11))
          (try (have c11b2 : (t139 == t135) = false := by simpa using c11))
          (try (have c11b3 : ¬ (t139 = t135) := by simpa using c11))
          clear c11
          first | exact absurd ((Option.some.inj H).trans hr.out) Bool.false_ne_true | skip
          all_goals (obtain rfl := Option.some.inj H)
          all_goals (go_enter Try.func6, Try.ntmps6)
          all_goals (go_wp2_with (first | ((with_reducible refine gate_callee (f := 15) rfl ?_); refine goesL_ (some 20) rfl rfl Try.func15 (by kernel_rfl) rfl #[.int .u64 a0, .int .u64 a1, .int .u64 a2, .int .u64 a3] rfl (by (try simp only [List.map_toArray, List.map_cons, List.map_nil]); first | done | rfl | (simp only [List.length_drop, List.length_take]; rfl)) ?_; (with_reducible refine (wide_Plus.calls a0 a1 a2 a3 t133 t134 t135 _ A5.out).mono ?_); rintro e w' ⟨rfl, ⟨nd, rfl⟩⟩; refine ⟨_, rfl, ?_⟩) | ((with_reducible refine gate_callee (f := 15) rfl ?_); refine goesL_ (some 29) rfl rfl Try.func15 (by kernel_rfl) rfl #[.int .u64 a2, .int .u64 a3, .int .u64 a0, .int .u64 a1] rfl (by (try simp only [List.map_toArray, List.map_cons, List.map_nil]); first | done | rfl | (simp only [List.length_drop, List.length_take]; rfl)) ?_; (with_reducible refine (wide_Plus.calls a2 a3 a0 a1 t136 t137 t138 _ A6.out).mono ?_); rintro e w' ⟨rfl, ⟨nd, rfl⟩⟩; refine ⟨_, rfl, ?_⟩) | (go_at_call 16; (with_reducible refine (wide_Less.calls t133 t134 a0 a1 t139 _ A10.out).mono ?_); rintro e w' ⟨rfl, ⟨nd, rfl⟩⟩)))
          all_goals (go_ret)
          all_goals (exact ⟨by first | rfl | (simp [errW_none, errW_some] <;> rfl) | (simp [*, errW_none, errW_some] <;> rfl), by repeat (first | (with_reducible first | exact HB.out | apply below_alloc | apply pw_below_drewN | apply below_drew1) | exact HB.out)⟩)
      · rw [if_neg c9] at H
        have c9b0 : (t135 == t138) = false := by simpa using c9
        (try (have c9b1 : decide (t135 = t138) = false := by simpa using c9))
        (try (have c9b2 : (t135 == t138) = false := by simpa using c9))
        (try (have c9b3 : ¬ (t135 = t138) := by simpa using c9))
        clear c9
        first | exact absurd ((Option.some.inj H).trans hr.out) Bool.false_ne_true | skip
        all_goals (obtain rfl := Option.some.inj H)
        all_goals (go_enter Try.func6, Try.ntmps6)
        all_goals (go_wp2_with (first | ((with_reducible refine gate_callee (f := 15) rfl ?_); refine goesL_ (some 20) rfl rfl Try.func15 (by kernel_rfl) rfl #[.int .u64 a0, .int .u64 a1, .int .u64 a2, .int .u64 a3] rfl (by (try simp only [List.map_toArray, List.map_cons, List.map_nil]); first | done | rfl | (simp only [List.length_drop, List.length_take]; rfl)) ?_; (with_reducible refine (wide_Plus.calls a0 a1 a2 a3 t133 t134 t135 _ A5.out).mono ?_); rintro e w' ⟨rfl, ⟨nd, rfl⟩⟩; refine ⟨_, rfl, ?_⟩) | ((with_reducible refine gate_callee (f := 15) rfl ?_); refine goesL_ (some 29) rfl rfl Try.func15 (by kernel_rfl) rfl #[.int .u64 a2, .int .u64 a3, .int .u64 a0, .int .u64 a1] rfl (by (try simp only [List.map_toArray, List.map_cons, List.map_nil]); first | done | rfl | (simp only [List.length_drop, List.length_take]; rfl)) ?_; (with_reducible refine (wide_Plus.calls a2 a3 a0 a1 t136 t137 t138 _ A6.out).mono ?_); rintro e w' ⟨rfl, ⟨nd, rfl⟩⟩; refine ⟨_, rfl, ?_⟩)))
        all_goals (go_ret)
        all_goals (exact ⟨by first | rfl | (simp [errW_none, errW_some] <;> rfl) | (simp [*, errW_none, errW_some] <;> rfl), by repeat (first | (with_reducible first | exact HB.out | apply below_alloc | apply pw_below_drewN | apply below_drew1) | exact HB.out)⟩)
    · rw [if_neg c8] at H
      have c8b0 : (t134 == t137) = false := beq_eq_false_iff_ne.mpr c8
      have c8b1 : (t134 != t137) = true := bne_iff_ne.mpr c8
      first | exact absurd ((Option.some.inj H).trans hr.out) Bool.false_ne_true | skip
      all_goals (obtain rfl := Option.some.inj H)
      all_goals (go_enter Try.func6, Try.ntmps6)
      all_goals (go_wp2_with (first | ((with_reducible refine gate_callee (f := 15) rfl ?_); refine goesL_ (some 20) rfl rfl Try.func15 (by kernel_rfl) rfl #[.int .u64 a0, .int .u64 a1, .int .u64 a2, .int .u64 a3] rfl (by (try simp only [List.map_toArray, List.map_cons, List.map_nil]); first | done | rfl | (simp only [List.length_drop, List.length_take]; rfl)) ?_; (with_reducible refine (wide_Plus.calls a0 a1 a2 a3 t133 t134 t135 _ A5.out).mono ?_); rintro e w' ⟨rfl, ⟨nd, rfl⟩⟩; refine ⟨_, rfl, ?_⟩) | ((with_reducible refine gate_callee (f := 15) rfl ?_); refine goesL_ (some 29) rfl rfl Try.func15 (by kernel_rfl) rfl #[.int .u64 a2, .int .u64 a3, .int .u64 a0, .int .u64 a1] rfl (by (try simp only [List.map_toArray, List.map_cons, List.map_nil]); first | done | rfl | (simp only [List.length_drop, List.length_take]; rfl)) ?_; (with_reducible refine (wide_Plus.calls a2 a3 a0 a1 t136 t137 t138 _ A6.out).mono ?_); rintro e w' ⟨rfl, ⟨nd, rfl⟩⟩; refine ⟨_, rfl, ?_⟩)))
      all_goals (go_ret)
      all_goals (exact ⟨by first | rfl | (simp [errW_none, errW_some] <;> rfl) | (simp [*, errW_none, errW_some] <;> rfl), by repeat (first | (with_reducible first | exact HB.out | apply below_alloc | apply pw_below_drewN | apply below_drew1) | exact HB.out)⟩)
  · rw [if_neg c7] at H
    have c7b0 : (t133 == t136) = false := beq_eq_false_iff_ne.mpr c7
    have c7b1 : (t133 != t136) = true := bne_iff_ne.mpr c7
    first | exact absurd ((Option.some.inj H).trans hr.out) Bool.false_ne_true | skip
    all_goals (obtain rfl := Option.some.inj H)
    all_goals (go_enter Try.func6, Try.ntmps6)
    all_goals (go_wp2_with (first | ((with_reducible refine gate_callee (f := 15) rfl ?_); refine goesL_ (some 20) rfl rfl Try.func15 (by kernel_rfl) rfl #[.int .u64 a0, .int .u64 a1, .int .u64 a2, .int .u64 a3] rfl (by (try simp only [List.map_toArray, List.map_cons, List.map_nil]); first | done | rfl | (simp only [List.length_drop, List.length_take]; rfl)) ?_; (with_reducible refine (wide_Plus.calls a0 a1 a2 a3 t133 t134 t135 _ A5.out).mono ?_); rintro e w' ⟨rfl, ⟨nd, rfl⟩⟩; refine ⟨_, rfl, ?_⟩) | ((with_reducible refine gate_callee (f := 15) rfl ?_); refine goesL_ (some 29) rfl rfl Try.func15 (by kernel_rfl) rfl #[.int .u64 a2, .int .u64 a3, .int .u64 a0, .int .u64 a1] rfl (by (try simp only [List.map_toArray, List.map_cons, List.map_nil]); first | done | rfl | (simp only [List.length_drop, List.length_take]; rfl)) ?_; (with_reducible refine (wide_Plus.calls a2 a3 a0 a1 t136 t137 t138 _ A6.out).mono ?_); rintro e w' ⟨rfl, ⟨nd, rfl⟩⟩; refine ⟨_, rfl, ?_⟩)))
    all_goals (go_ret)
    all_goals (exact ⟨by first | rfl | (simp [errW_none, errW_some] <;> rfl) | (simp [*, errW_none, errW_some] <;> rfl), by repeat (first | (with_reducible first | exact HB.out | apply below_alloc | apply pw_below_drewN | apply below_drew1) | exact HB.out)⟩)

/-- THE ONE PURE STATEMENT of analemmalaw01_WideSums: yours. -/
def analemmalaw01_WideSums.Pure : Prop := ∀ (a0 : Int) (a1 : Int) (a2 : Int) (a3 : Int), (Lit.int .u64 a0).wf = true → (Lit.int .u64 a1).wf = true → (Lit.int .u64 a2).wf = true → (Lit.int .u64 a3).wf = true → analemmalaw01_WideSums.f a0 a1 a2 a3 = some true
theorem analemmalaw01_WideSums.walk (P : analemmalaw01_WideSums.Pure) (a0 : Int) (a1 : Int) (a2 : Int) (a3 : Int) (w : World) (w0 : (Lit.int .u64 a0).wf = true) (w1 : (Lit.int .u64 a1).wf = true) (w2 : (Lit.int .u64 a2).wf = true) (w3 : (Lit.int .u64 a3).wf = true) :
    Calls Try.prog 6 #[.int .u64 a0, .int .u64 a1, .int .u64 a2, .int .u64 a3] w fun e w' => e = .returned (.bool true) ∧ Below w.heap.size w w' := by
  have h := P a0 a1 a2 a3 w0 w1 w2 w3
  refine (analemmalaw01_WideSums.calls a0 a1 a2 a3 true w h (Aside0.mk rfl)).mono ?_
  rintro e w' ⟨rfl, hd⟩
  exact ⟨rfl, hd⟩

/-! ### wide_minus: function 25 -/
def wide_minus.f (a0 : Int) (a1 : Int) (a2 : Int) (a3 : Int) : Option (Int × Int) := if a1 < a3 then (some (IntKind.u64.wrap ((IntKind.u64.wrap (a0 - a2)) - 1), IntKind.u64.wrap (a1 - a3))) else (some (IntKind.u64.wrap (a0 - a2), IntKind.u64.wrap (a1 - a3)))
set_option maxHeartbeats 8000000 in
set_option maxRecDepth 100000 in
theorem wide_minus.calls (a0 : Int) (a1 : Int) (a2 : Int) (a3 : Int) (r1 : Int) (r2 : Int) (w : World) (h : wide_minus.f a0 a1 a2 a3 = some (r1, r2)) :
    Calls Try.prog 25 #[.int .u64 a0, .int .u64 a1, .int .u64 a2, .int .u64 a3] w fun e w' => e = .returned (.tuple #[.int .u64 r1, .int .u64 r2]) ∧ Drawn0 w w' := by
  have H : (if a1 < a3 then (some (IntKind.u64.wrap ((IntKind.u64.wrap (a0 - a2)) - 1), IntKind.u64.wrap (a1 - a3))) else (some (IntKind.u64.wrap (a0 - a2), IntKind.u64.wrap (a1 - a3)))) = some (r1, r2) := h
  clear h
  by_cases c5 : a1 < a3
  · rw [if_pos c5] at H
    have c5b0 : decide (a1 < a3) = true := decide_eq_true c5
    clear c5
    simp only [Option.some.injEq, Prod.mk.injEq] at H
    obtain ⟨rfl, rfl⟩ := H
    go_enter Try.func25, Try.ntmps25
    go_wp2
    go_ret2
    exact ⟨by first | rfl | (simp; done) | (simp [*]; done), by repeat (first | exact Drawn0.refl _ | apply Drawn0.step)⟩
  · rw [if_neg c5] at H
    have c5b0 : decide (a1 < a3) = false := decide_eq_false c5
    clear c5
    simp only [Option.some.injEq, Prod.mk.injEq] at H
    obtain ⟨rfl, rfl⟩ := H
    go_enter Try.func25, Try.ntmps25
    go_wp2
    go_ret2
    exact ⟨by first | rfl | (simp; done) | (simp [*]; done), by repeat (first | exact Drawn0.refl _ | apply Drawn0.step)⟩

/-! ### wide_Sqrt: function 17 -/
def wide_Sqrt.l0 : Nat → Int → Int → Int → Int → Int → Int → Option (Int)
  | 0, _, _, _, _, _, _ => none
  | k + 1, x0, x1, x5, x6, x7, x11 => if x11 < 64 then ((wide_Less.f (Go.bits .or .u64 (IntKind.u64.wrap (x6 * 4)) (x7 / 4611686018427387904)) (Go.bits .or .u64 (IntKind.u64.wrap (x7 * 4)) (x0 / 4611686018427387904)) (x5 / 4611686018427387904) (Go.bits .or .u64 (IntKind.u64.wrap (x5 * 4)) 1)).bind fun t142 => (if t142 = true then (wide_Sqrt.l0 k (Go.bits .or .u64 (IntKind.u64.wrap (x0 * 4)) (x1 / 4611686018427387904)) (IntKind.u64.wrap (x1 * 4)) (IntKind.u64.wrap (x5 * 2)) (Go.bits .or .u64 (IntKind.u64.wrap (x6 * 4)) (x7 / 4611686018427387904)) (Go.bits .or .u64 (IntKind.u64.wrap (x7 * 4)) (x0 / 4611686018427387904)) (wrap64 (x11 + 1))) else ((wide_minus.f (Go.bits .or .u64 (IntKind.u64.wrap (x6 * 4)) (x7 / 4611686018427387904)) (Go.bits .or .u64 (IntKind.u64.wrap (x7 * 4)) (x0 / 4611686018427387904)) (x5 / 4611686018427387904) (Go.bits .or .u64 (IntKind.u64.wrap (x5 * 4)) 1)).bind fun bt143 => (wide_Sqrt.l0 k (Go.bits .or .u64 (IntKind.u64.wrap (x0 * 4)) (x1 / 4611686018427387904)) (IntKind.u64.wrap (x1 * 4)) (Go.bits .or .u64 (IntKind.u64.wrap (x5 * 2)) 1) bt143.1 bt143.2 (wrap64 (x11 + 1)))))) else (some x5)
def wide_Sqrt.f (k : Nat) (a0 : Int) (a1 : Int) : Option (Int) := wide_Sqrt.l0 k a0 a1 0 0 0 0
theorem wide_Sqrt.mono_l : ∀ k, (∀ y0 y1 y2 y3 y4 y5, LeO (wide_Sqrt.l0 k y0 y1 y2 y3 y4 y5) (wide_Sqrt.l0 (k + 1) y0 y1 y2 y3 y4 y5))
  | 0 => fun _ _ _ _ _ _ r h => by simp [wide_Sqrt.l0] at h
  | k + 1 => by
    have ih0 := wide_Sqrt.mono_l k
    · intro y0 y1 y2 y3 y4 y5
      unfold wide_Sqrt.l0
      repeat' first
      | (with_reducible exact ih0 _ _ _ _ _ _)
      | (with_reducible exact LeO.refl _)
      | (with_reducible exact LeO.none _)
      | (with_reducible refine LeO.ite ?_ ?_)
      | (with_reducible refine LeO.bind ?_ (fun _ => ?_))
      | exact ih0 _ _ _ _ _ _
      | exact LeO.none _
      | refine LeO.ite ?_ ?_
      | refine LeO.bind ?_ (fun _ => ?_)
theorem wide_Sqrt.mono : ∀ a0 a1 k, LeO (wide_Sqrt.f k a0 a1) (wide_Sqrt.f (k + 1) a0 a1) := by
  intro a0 a1 k
  have ih0 := wide_Sqrt.mono_l k
  unfold wide_Sqrt.f
  repeat' first
      | (with_reducible exact ih0 _ _ _ _ _ _)
      | (with_reducible exact LeO.refl _)
      | (with_reducible exact LeO.none _)
      | (with_reducible refine LeO.ite ?_ ?_)
      | (with_reducible refine LeO.bind ?_ (fun _ => ?_))
      | exact ih0 _ _ _ _ _ _
      | exact LeO.none _
      | refine LeO.ite ?_ ?_
      | refine LeO.bind ?_ (fun _ => ?_)
set_option maxHeartbeats 8000000 in
set_option maxRecDepth 100000 in
theorem wide_Sqrt.calls (k : Nat) (a0 : Int) (a1 : Int) (r : Int) (w : World) (h : wide_Sqrt.f k a0 a1 = some r) :
    Calls Try.prog 17 #[.int .u64 a0, .int .u64 a1] w fun e w' => e = .returned (.int .u64 r) ∧ Drawn0 w w' := by
  have H : (wide_Sqrt.l0 k a0 a1 0 0 0 0) = some r := h
  clear h
  have H' := Aside0.mk H
  clear H
  go_enter Try.func17, Try.ntmps17
  go_wp2
  go_loopg [0, 1, 5, 6, 7, 11] k (fun kq v0 v1 v5 v6 v7 v11 w' => ∃ (x0_1 : Int) (x1_1 : Int) (x5_1 : Int) (x6_1 : Int) (x7_1 : Int) (x11_1 : Int), v0 = .int .u64 x0_1 ∧ v1 = .int .u64 x1_1 ∧ v5 = .int .u64 x5_1 ∧ v6 = .int .u64 x6_1 ∧ v7 = .int .u64 x7_1 ∧ v11 = .int .i64 x11_1 ∧ Aside0 (wide_Sqrt.l0 kq x0_1 x1_1 x5_1 x6_1 x7_1 x11_1 = some r) ∧ Aside0 (kq ≤ k) ∧ Drawn0 w w')
  case atStart => exact ⟨(a0), (a1), (0), (0), (0), (0), (by first | rfl | (simp; done) | (simp [*]; done)), (by first | rfl | (simp; done) | (simp [*]; done)), (by first | rfl | (simp; done) | (simp [*]; done)), (by first | rfl | (simp; done) | (simp [*]; done)), (by first | rfl | (simp; done) | (simp [*]; done)), (by first | rfl | (simp; done) | (simp [*]; done)), H', ⟨Nat.le_refl _⟩, by repeat (first | exact Drawn0.refl _ | apply Drawn0.step)⟩
  case round =>
    clear H'
    try clear c1
    try clear p2
    obtain ⟨x0_1, x1_1, x5_1, x6_1, x7_1, x11_1, rfl, rfl, rfl, rfl, rfl, rfl, HA, HK1, ⟨m1, rfl⟩⟩ := hrel
    cases gk with
    | zero => exact absurd HA.out (by simp [wide_Sqrt.l0])
    | succ k1 =>
      have H := HA.out
      clear HA
      simp only [wide_Sqrt.l0] at H
      by_cases c3 : x11_1 < 64
      · rw [if_pos c3] at H
        have c3b0 : decide (x11_1 < 64) = true := decide_eq_true c3
        clear c3
        replace H := Option.bind_eq_some_iff.mp H
        obtain ⟨t142, A40, H⟩ := H
        replace H : (if t142 = true then (wide_Sqrt.l0 k1 (Go.bits .or .u64 (IntKind.u64.wrap (x0_1 * 4)) (x1_1 / 4611686018427387904)) (IntKind.u64.wrap (x1_1 * 4)) (IntKind.u64.wrap (x5_1 * 2)) (Go.bits .or .u64 (IntKind.u64.wrap (x6_1 * 4)) (x7_1 / 4611686018427387904)) (Go.bits .or .u64 (IntKind.u64.wrap (x7_1 * 4)) (x0_1 / 4611686018427387904)) (wrap64 (x11_1 + 1))) else ((wide_minus.f (Go.bits .or .u64 (IntKind.u64.wrap (x6_1 * 4)) (x7_1 / 4611686018427387904)) (Go.bits .or .u64 (IntKind.u64.wrap (x7_1 * 4)) (x0_1 / 4611686018427387904)) (x5_1 / 4611686018427387904) (Go.bits .or .u64 (IntKind.u64.wrap (x5_1 * 4)) 1)).bind fun bt143 => (wide_Sqrt.l0 k1 (Go.bits .or .u64 (IntKind.u64.wrap (x0_1 * 4)) (x1_1 / 4611686018427387904)) (IntKind.u64.wrap (x1_1 * 4)) (Go.bits .or .u64 (IntKind.u64.wrap (x5_1 * 2)) 1) bt143.1 bt143.2 (wrap64 (x11_1 + 1))))) = some r := H
        have A4 := Aside0.mk A40
        clear A40
        by_cases c5 : t142 = true
        · subst c5
          have H1 : (wide_Sqrt.l0 k1 (Go.bits .or .u64 (IntKind.u64.wrap (x0_1 * 4)) (x1_1 / 4611686018427387904)) (IntKind.u64.wrap (x1_1 * 4)) (IntKind.u64.wrap (x5_1 * 2)) (Go.bits .or .u64 (IntKind.u64.wrap (x6_1 * 4)) (x7_1 / 4611686018427387904)) (Go.bits .or .u64 (IntKind.u64.wrap (x7_1 * 4)) (x0_1 / 4611686018427387904)) (wrap64 (x11_1 + 1))) = some r := by rw [if_pos rfl] at H; exact H
          clear H
          have H := H1
          clear H1
          have H' := Aside0.mk H
          clear H
          go_wp2_with (first | ((with_reducible refine gate_callee (f := 16) rfl ?_); refine goesL_ (some 42) rfl rfl Try.func16 (by kernel_rfl) rfl #[.int .u64 (Go.bits .or .u64 (IntKind.u64.wrap (x6_1 * 4)) (x7_1 / 4611686018427387904)), .int .u64 (Go.bits .or .u64 (IntKind.u64.wrap (x7_1 * 4)) (x0_1 / 4611686018427387904)), .int .u64 (x5_1 / 4611686018427387904), .int .u64 (Go.bits .or .u64 (IntKind.u64.wrap (x5_1 * 4)) 1)] rfl (by (try simp only [List.map_toArray, List.map_cons, List.map_nil]); first | done | rfl | (simp only [List.length_drop, List.length_take]; rfl)) ?_; (with_reducible refine (wide_Less.calls (Go.bits .or .u64 (IntKind.u64.wrap (x6_1 * 4)) (x7_1 / 4611686018427387904)) (Go.bits .or .u64 (IntKind.u64.wrap (x7_1 * 4)) (x0_1 / 4611686018427387904)) (x5_1 / 4611686018427387904) (Go.bits .or .u64 (IntKind.u64.wrap (x5_1 * 4)) 1) true _ A4.out).mono ?_); rintro e w' ⟨rfl, ⟨nd, rfl⟩⟩; refine ⟨_, rfl, ?_⟩))
          go_roundg k1
          case measure => have := HK1.out; omega
          case rel => exact ⟨(Go.bits .or .u64 (IntKind.u64.wrap (x0_1 * 4)) (x1_1 / 4611686018427387904)), (IntKind.u64.wrap (x1_1 * 4)), (IntKind.u64.wrap (x5_1 * 2)), (Go.bits .or .u64 (IntKind.u64.wrap (x6_1 * 4)) (x7_1 / 4611686018427387904)), (Go.bits .or .u64 (IntKind.u64.wrap (x7_1 * 4)) (x0_1 / 4611686018427387904)), (wrap64 (x11_1 + 1)), (by first | rfl | (simp; done) | (simp [*]; done)), (by first | rfl | (simp; done) | (simp [*]; done)), (by first | rfl | (simp; done) | (simp [*]; done)), (by first | rfl | (simp; done) | (simp [*]; done)), (by first | rfl | (simp; done) | (simp [*]; done)), (by first | rfl | (simp; done) | (simp [*]; done)), H', ⟨by have := HK1.out; omega⟩, by repeat (first | exact Drawn0.refl _ | apply Drawn0.step)⟩
        · replace c5 := Bool.eq_false_iff.mpr c5
          subst c5
          have H1 : ((wide_minus.f (Go.bits .or .u64 (IntKind.u64.wrap (x6_1 * 4)) (x7_1 / 4611686018427387904)) (Go.bits .or .u64 (IntKind.u64.wrap (x7_1 * 4)) (x0_1 / 4611686018427387904)) (x5_1 / 4611686018427387904) (Go.bits .or .u64 (IntKind.u64.wrap (x5_1 * 4)) 1)).bind fun bt143 => (wide_Sqrt.l0 k1 (Go.bits .or .u64 (IntKind.u64.wrap (x0_1 * 4)) (x1_1 / 4611686018427387904)) (IntKind.u64.wrap (x1_1 * 4)) (Go.bits .or .u64 (IntKind.u64.wrap (x5_1 * 2)) 1) bt143.1 bt143.2 (wrap64 (x11_1 + 1)))) = some r := by rw [if_neg (show ¬ (false = true) by decide)] at H; exact H
          clear H
          have H := H1
          clear H1
          replace H := Option.bind_eq_some_iff.mp H
          obtain ⟨⟨t143, t144⟩, A60, H⟩ := H
          replace H : (wide_Sqrt.l0 k1 (Go.bits .or .u64 (IntKind.u64.wrap (x0_1 * 4)) (x1_1 / 4611686018427387904)) (IntKind.u64.wrap (x1_1 * 4)) (Go.bits .or .u64 (IntKind.u64.wrap (x5_1 * 2)) 1) t143 t144 (wrap64 (x11_1 + 1))) = some r := H
          have A6 := Aside0.mk A60
          clear A60
          have H' := Aside0.mk H
          clear H
          go_wp2_with (first | ((with_reducible refine gate_callee (f := 16) rfl ?_); refine goesL_ (some 42) rfl rfl Try.func16 (by kernel_rfl) rfl #[.int .u64 (Go.bits .or .u64 (IntKind.u64.wrap (x6_1 * 4)) (x7_1 / 4611686018427387904)), .int .u64 (Go.bits .or .u64 (IntKind.u64.wrap (x7_1 * 4)) (x0_1 / 4611686018427387904)), .int .u64 (x5_1 / 4611686018427387904), .int .u64 (Go.bits .or .u64 (IntKind.u64.wrap (x5_1 * 4)) 1)] rfl (by (try simp only [List.map_toArray, List.map_cons, List.map_nil]); first | done | rfl | (simp only [List.length_drop, List.length_take]; rfl)) ?_; (with_reducible refine (wide_Less.calls (Go.bits .or .u64 (IntKind.u64.wrap (x6_1 * 4)) (x7_1 / 4611686018427387904)) (Go.bits .or .u64 (IntKind.u64.wrap (x7_1 * 4)) (x0_1 / 4611686018427387904)) (x5_1 / 4611686018427387904) (Go.bits .or .u64 (IntKind.u64.wrap (x5_1 * 4)) 1) false _ A4.out).mono ?_); rintro e w' ⟨rfl, ⟨nd, rfl⟩⟩; refine ⟨_, rfl, ?_⟩) | ((with_reducible refine gate_callee (f := 25) rfl ?_); refine goesL_ (some 49) rfl rfl Try.func25 (by kernel_rfl) rfl #[.int .u64 (Go.bits .or .u64 (IntKind.u64.wrap (x6_1 * 4)) (x7_1 / 4611686018427387904)), .int .u64 (Go.bits .or .u64 (IntKind.u64.wrap (x7_1 * 4)) (x0_1 / 4611686018427387904)), .int .u64 (x5_1 / 4611686018427387904), .int .u64 (Go.bits .or .u64 (IntKind.u64.wrap (x5_1 * 4)) 1)] rfl (by (try simp only [List.map_toArray, List.map_cons, List.map_nil]); first | done | rfl | (simp only [List.length_drop, List.length_take]; rfl)) ?_; (with_reducible refine (wide_minus.calls (Go.bits .or .u64 (IntKind.u64.wrap (x6_1 * 4)) (x7_1 / 4611686018427387904)) (Go.bits .or .u64 (IntKind.u64.wrap (x7_1 * 4)) (x0_1 / 4611686018427387904)) (x5_1 / 4611686018427387904) (Go.bits .or .u64 (IntKind.u64.wrap (x5_1 * 4)) 1) t143 t144 _ A6.out).mono ?_); rintro e w' ⟨rfl, ⟨nd, rfl⟩⟩; refine ⟨_, rfl, ?_⟩))
          go_roundg k1
          case measure => have := HK1.out; omega
          case rel => exact ⟨(Go.bits .or .u64 (IntKind.u64.wrap (x0_1 * 4)) (x1_1 / 4611686018427387904)), (IntKind.u64.wrap (x1_1 * 4)), (Go.bits .or .u64 (IntKind.u64.wrap (x5_1 * 2)) 1), (t143), (t144), (wrap64 (x11_1 + 1)), (by first | rfl | (simp; done) | (simp [*]; done)), (by first | rfl | (simp; done) | (simp [*]; done)), (by first | rfl | (simp; done) | (simp [*]; done)), (by first | rfl | (simp; done) | (simp [*]; done)), (by first | rfl | (simp; done) | (simp [*]; done)), (by first | rfl | (simp; done) | (simp [*]; done)), H', ⟨by have := HK1.out; omega⟩, by repeat (first | exact Drawn0.refl _ | apply Drawn0.step)⟩
      · rw [if_neg c3] at H
        have c3b0 : decide (x11_1 < 64) = false := decide_eq_false c3
        clear c3
        obtain rfl := Option.some.inj H
        go_wp2
        go_ret
        exact ⟨by first | rfl | (simp; done) | (simp [*]; done), by repeat (first | exact Drawn0.refl _ | apply Drawn0.step)⟩

/-! ### analemmalaw01_WideRoots: function 7 -/
def analemmalaw01_WideRoots.j0 : Nat → Int → Int → Int → Bool → Option (Bool)
  | 0, _, _, _, _ => none
  | k + 1, x0, x1, x5, x25 => if x25 = true then (some false) else (if x5 = 18446744073709551615 then (some true) else ((wide_Mul.f (IntKind.u64.wrap (x5 + 1)) (IntKind.u64.wrap (x5 + 1))).bind fun bt150 => ((wide_Less.f x0 x1 bt150.1 bt150.2).bind fun t152 => (some t152))))
def analemmalaw01_WideRoots.f (k : Nat) (a0 : Int) (a1 : Int) : Option (Bool) := (wide_Sqrt.f k a0 a1).bind fun t145 => ((wide_Mul.f t145 t145).bind fun bt146 => ((wide_Less.f a0 a1 bt146.1 bt146.2).bind fun t148 => (if t148 = true then (analemmalaw01_WideRoots.j0 k a0 a1 t145 true) else ((analemmalaw01_shown.f).bind fun t149 => (analemmalaw01_WideRoots.j0 k a0 a1 t145 (!t149))))))
theorem analemmalaw01_WideRoots.mono_l : ∀ k, (∀ y0 y1 y2 y3, LeO (analemmalaw01_WideRoots.j0 k y0 y1 y2 y3) (analemmalaw01_WideRoots.j0 (k + 1) y0 y1 y2 y3))
  | 0 => fun _ _ _ _ r h => by simp [analemmalaw01_WideRoots.j0] at h
  | k + 1 => by
    have ih0 := analemmalaw01_WideRoots.mono_l k
    · intro y0 y1 y2 y3
      unfold analemmalaw01_WideRoots.j0
      repeat' first
      | (with_reducible exact ih0 _ _ _ _)
      | (with_reducible exact wide_Sqrt.mono _ _ _)
      | (with_reducible exact LeO.refl _)
      | (with_reducible exact LeO.none _)
      | (with_reducible refine LeO.ite ?_ ?_)
      | (with_reducible refine LeO.bind ?_ (fun _ => ?_))
      | exact ih0 _ _ _ _
      | exact wide_Sqrt.mono _ _ _
      | exact LeO.none _
      | refine LeO.ite ?_ ?_
      | refine LeO.bind ?_ (fun _ => ?_)
theorem analemmalaw01_WideRoots.mono : ∀ a0 a1 k, LeO (analemmalaw01_WideRoots.f k a0 a1) (analemmalaw01_WideRoots.f (k + 1) a0 a1) := by
  intro a0 a1 k
  have ih0 := analemmalaw01_WideRoots.mono_l k
  unfold analemmalaw01_WideRoots.f
  repeat' first
      | (with_reducible exact ih0 _ _ _ _)
      | (with_reducible exact wide_Sqrt.mono _ _ _)
      | (with_reducible exact LeO.refl _)
      | (with_reducible exact LeO.none _)
      | (with_reducible refine LeO.ite ?_ ?_)
      | (with_reducible refine LeO.bind ?_ (fun _ => ?_))
      | exact ih0 _ _ _ _
      | exact wide_Sqrt.mono _ _ _
      | exact LeO.none _
      | refine LeO.ite ?_ ?_
      | refine LeO.bind ?_ (fun _ => ?_)
set_option maxHeartbeats 8000000 in
set_option maxRecDepth 100000 in
theorem analemmalaw01_WideRoots.calls (k : Nat) (a0 : Int) (a1 : Int) (r : Bool) (w : World) (h : analemmalaw01_WideRoots.f k a0 a1 = some r) (hr : Aside0 (r = true)) :
    Calls Try.prog 7 #[.int .u64 a0, .int .u64 a1] w fun e w' => e = .returned (.bool r) ∧ Below w.heap.size w w' := by
  have HB := Aside0.mk (Below.refl w.heap.size w)
  have H : ((wide_Sqrt.f k a0 a1).bind fun t145 => ((wide_Mul.f t145 t145).bind fun bt146 => ((wide_Less.f a0 a1 bt146.1 bt146.2).bind fun t148 => (if t148 = true then (analemmalaw01_WideRoots.j0 k a0 a1 t145 true) else ((analemmalaw01_shown.f).bind fun t149 => (analemmalaw01_WideRoots.j0 k a0 a1 t145 (!t149))))))) = some r := h
  clear h
  replace H := Option.bind_eq_some_iff.mp H
  obtain ⟨t145, A30, H⟩ := H
  replace H : ((wide_Mul.f t145 t145).bind fun bt146 => ((wide_Less.f a0 a1 bt146.1 bt146.2).bind fun t148 => (if t148 = true then (analemmalaw01_WideRoots.j0 k a0 a1 t145 true) else ((analemmalaw01_shown.f).bind fun t149 => (analemmalaw01_WideRoots.j0 k a0 a1 t145 (!t149)))))) = some r := H
  have A3 := Aside0.mk A30
  clear A30
  replace H := Option.bind_eq_some_iff.mp H
  obtain ⟨⟨t146, t147⟩, A40, H⟩ := H
  replace H : ((wide_Less.f a0 a1 t146 t147).bind fun t148 => (if t148 = true then (analemmalaw01_WideRoots.j0 k a0 a1 t145 true) else ((analemmalaw01_shown.f).bind fun t149 => (analemmalaw01_WideRoots.j0 k a0 a1 t145 (!t149))))) = some r := H
  have A4 := Aside0.mk A40
  clear A40
  have HC5 := Aside0.mk H
  clear H
  go_enter Try.func7, Try.ntmps7
  go_upto_region 3 with (first | ((with_reducible refine gate_callee (f := 17) rfl ?_); refine goesL_ (some 10) rfl rfl Try.func17 (by kernel_rfl) rfl #[.int .u64 a0, .int .u64 a1] rfl (by (try simp only [List.map_toArray, List.map_cons, List.map_nil]); first | done | rfl | (simp only [List.length_drop, List.length_take]; rfl)) ?_; (with_reducible refine (wide_Sqrt.calls k a0 a1 t145 _ A3.out).mono ?_); rintro e w' ⟨rfl, ⟨nd, rfl⟩⟩; refine ⟨_, rfl, ?_⟩) | ((with_reducible refine gate_callee (f := 14) rfl ?_); refine goesL_ (some 14) rfl rfl Try.func14 (by kernel_rfl) rfl #[.int .u64 t145, .int .u64 t145] rfl (by (try simp only [List.map_toArray, List.map_cons, List.map_nil]); first | done | rfl | (simp only [List.length_drop, List.length_take]; rfl)) ?_; (with_reducible refine (wide_Mul.calls t145 t145 t146 t147 _ A4.out).mono ?_); rintro e w6 ⟨rfl, hb⟩; refine ⟨_, rfl, ?_⟩; have n0_ := Aside0.mk (below_step (by repeat (first | (with_reducible first | exact HB.out | apply below_alloc | apply pw_below_drewN | apply below_drew1) | exact HB.out)) hb); clear HB; have HB := n0_; clear n0_; (try clear hb); (try clear hb2); (try clear hk); (try clear hi)))
  (try simp only [Act.put, List.setIfInBounds_toArray, List.set_cons_zero, List.set_cons_succ])
  go_cut [25] (fun v25 wc => ∃ (kq : Nat) (x25_4 : Bool), v25 = .bool x25_4 ∧ Aside0 (analemmalaw01_WideRoots.j0 kq a0 a1 t145 x25_4 = some r) ∧ Aside0 (kq ≤ k) ∧ Aside0 (Below w.heap.size w wc))
  case first =>
    have H := HC5.out
    clear HC5
    replace H := Option.bind_eq_some_iff.mp H
    obtain ⟨t148, A70, H⟩ := H
    replace H : (if t148 = true then (analemmalaw01_WideRoots.j0 k a0 a1 t145 true) else ((analemmalaw01_shown.f).bind fun t149 => (analemmalaw01_WideRoots.j0 k a0 a1 t145 (!t149)))) = some r := H
    have A7 := Aside0.mk A70
    clear A70
    by_cases c8 : t148 = true
    · subst c8
      have H1 : (analemmalaw01_WideRoots.j0 k a0 a1 t145 true) = some r := by rw [if_pos rfl] at H; exact H
      clear H
      have H := H1
      clear H1
      have H' := Aside0.mk H
      clear H
      go_wp2_with (first | ((with_reducible refine gate_callee (f := 16) rfl ?_); refine goesL_ (some 21) rfl rfl Try.func16 (by kernel_rfl) rfl #[.int .u64 a0, .int .u64 a1, .int .u64 t146, .int .u64 t147] rfl (by (try simp only [List.map_toArray, List.map_cons, List.map_nil]); first | done | rfl | (simp only [List.length_drop, List.length_take]; rfl)) ?_; (with_reducible refine (wide_Less.calls a0 a1 t146 t147 true _ A7.out).mono ?_); rintro e w' ⟨rfl, ⟨nd, rfl⟩⟩; refine ⟨_, rfl, ?_⟩))
      go_meet
      case rel => exact ⟨_, (true), (by first | rfl | (simp; done) | (simp [*]; done)), H', ⟨by first | omega | exact Nat.le_refl _⟩, ⟨by repeat (first | (with_reducible first | exact HB.out | apply below_alloc | apply pw_below_drewN | apply below_drew1) | exact HB.out)⟩⟩
    · replace c8 := Bool.eq_false_iff.mpr c8
      subst c8
      have H1 : ((analemmalaw01_shown.f).bind fun t149 => (analemmalaw01_WideRoots.j0 k a0 a1 t145 (!t149))) = some r := by rw [if_neg (show ¬ (false = true) by decide)] at H; exact H
      clear H
      have H := H1
      clear H1
      replace H := Option.bind_eq_some_iff.mp H
      obtain ⟨t149, A90, H⟩ := H
      replace H : (analemmalaw01_WideRoots.j0 k a0 a1 t145 (!t149)) = some r := H
      have A9 := Aside0.mk A90
      clear A90
      have H' := Aside0.mk H
      clear H
      go_wp2_with (first | ((with_reducible refine gate_callee (f := 16) rfl ?_); refine goesL_ (some 21) rfl rfl Try.func16 (by kernel_rfl) rfl #[.int .u64 a0, .int .u64 a1, .int .u64 t146, .int .u64 t147] rfl (by (try simp only [List.map_toArray, List.map_cons, List.map_nil]); first | done | rfl | (simp only [List.length_drop, List.length_take]; rfl)) ?_; (with_reducible refine (wide_Less.calls a0 a1 t146 t147 false _ A7.out).mono ?_); rintro e w' ⟨rfl, ⟨nd, rfl⟩⟩; refine ⟨_, rfl, ?_⟩) | (go_at_call 12; (with_reducible refine (analemmalaw01_shown.calls  t149 _ A9.out).mono ?_); rintro e w10 ⟨rfl, hb⟩; have n0_ := Aside0.mk (below_step (by repeat (first | (with_reducible first | exact HB.out | apply below_alloc | apply pw_below_drewN | apply below_drew1) | exact HB.out)) hb); clear HB; have HB := n0_; clear n0_; (try clear hb); (try clear hb2); (try clear hk); (try clear hi)))
      go_meet
      case rel => exact ⟨_, (!t149), (by first | rfl | (simp; done) | (simp [*]; done)), H', ⟨by first | omega | exact Nat.le_refl _⟩, ⟨by repeat (first | (with_reducible first | exact HB.out | apply below_alloc | apply pw_below_drewN | apply below_drew1) | exact HB.out)⟩⟩
  case rest =>
    clear HC5
    try clear c1
    try clear p2
    try clear c7
    try clear c8
    obtain ⟨kq, x25_4, rfl, HA, HJ4, HB⟩ := hcut
    cases kq with
    | zero => exact absurd HA.out (by simp [analemmalaw01_WideRoots.j0])
    | succ kj4 =>
      have H := HA.out
      clear HA
      simp only [analemmalaw01_WideRoots.j0] at H
      by_cases c11 : x25_4 = true
      · subst c11
        have H1 : (some false) = some r := by rw [if_pos rfl] at H; exact H
        clear H
        have H := H1
        clear H1
        first | exact absurd ((Option.some.inj H).trans hr.out) Bool.false_ne_true | skip
        all_goals (obtain rfl := Option.some.inj H)
        all_goals (go_wp2)
        all_goals (go_ret)
        all_goals (exact ⟨by first | rfl | (simp [errW_none, errW_some] <;> rfl) | (simp [*, errW_none, errW_some] <;> rfl), by repeat (first | (with_reducible first | exact HB.out | apply below_alloc | apply pw_below_drewN | apply below_drew1) | exact HB.out)⟩)
      · replace c11 := Bool.eq_false_iff.mpr c11
        subst c11
        have H1 : (if t145 = 18446744073709551615 then (some true) else ((wide_Mul.f (IntKind.u64.wrap (t145 + 1)) (IntKind.u64.wrap (t145 + 1))).bind fun bt150 => ((wide_Less.f a0 a1 bt150.1 bt150.2).bind fun t152 => (some t152)))) = some r := by rw [if_neg (show ¬ (false = true) by decide)] at H; exact H
        clear H
        have H := H1
        clear H1
        by_cases c12 : t145 = 18446744073709551615
        · rw [if_pos c12] at H
          have c12b0 : (t145 == 18446744073709551615) = true := beq_iff_eq.mpr c12
          have c12b1 : (t145 != 18446744073709551615) = false := bne_eq_false_iff_eq.mpr c12
          clear c12
          first | exact absurd ((Option.some.inj H).trans hr.out) Bool.false_ne_true | skip
          all_goals (obtain rfl := Option.some.inj H)
          all_goals (go_wp2)
          all_goals (go_ret)
          all_goals (exact ⟨by first | rfl | (simp [errW_none, errW_some] <;> rfl) | (simp [*, errW_none, errW_some] <;> rfl), by repeat (first | (with_reducible first | exact HB.out | apply below_alloc | apply pw_below_drewN | apply below_drew1) | exact HB.out)⟩)
        · rw [if_neg c12] at H
          have c12b0 : (t145 == 18446744073709551615) = false := beq_eq_false_iff_ne.mpr c12
          have c12b1 : (t145 != 18446744073709551615) = true := bne_iff_ne.mpr c12
          replace H := Option.bind_eq_some_iff.mp H
          obtain ⟨⟨t150, t151⟩, A130, H⟩ := H
          replace H : ((wide_Less.f a0 a1 t150 t151).bind fun t152 => (some t152)) = some r := H
          have A13 := Aside0.mk A130
          clear A130
          replace H := Option.bind_eq_some_iff.mp H
          obtain ⟨t152, A140, H⟩ := H
          replace H : (some t152) = some r := H
          have A14 := Aside0.mk A140
          clear A140
          first | exact absurd ((Option.some.inj H).trans hr.out) Bool.false_ne_true | skip
          all_goals (obtain rfl := Option.some.inj H)
          all_goals (go_wp2_with (first | ((with_reducible refine gate_callee (f := 14) rfl ?_); refine goesL_ (some 33) rfl rfl Try.func14 (by kernel_rfl) rfl #[.int .u64 (IntKind.u64.wrap (t145 + 1)), .int .u64 (IntKind.u64.wrap (t145 + 1))] rfl (by (try simp only [List.map_toArray, List.map_cons, List.map_nil]); first | done | rfl | (simp only [List.length_drop, List.length_take]; rfl)) ?_; (with_reducible refine (wide_Mul.calls (IntKind.u64.wrap (t145 + 1)) (IntKind.u64.wrap (t145 + 1)) t150 t151 _ A13.out).mono ?_); rintro e w15 ⟨rfl, hb⟩; refine ⟨_, rfl, ?_⟩; have n0_ := Aside0.mk (below_step (by repeat (first | (with_reducible first | exact HB.out | apply below_alloc | apply pw_below_drewN | apply below_drew1) | exact HB.out)) hb); clear HB; have HB := n0_; clear n0_; (try clear hb); (try clear hb2); (try clear hk); (try clear hi)) | ((with_reducible refine gate_callee (f := 16) rfl ?_); refine goesL_ (some 40) rfl rfl Try.func16 (by kernel_rfl) rfl #[.int .u64 a0, .int .u64 a1, .int .u64 t150, .int .u64 t151] rfl (by (try simp only [List.map_toArray, List.map_cons, List.map_nil]); first | done | rfl | (simp only [List.length_drop, List.length_take]; rfl)) ?_; (with_reducible refine (wide_Less.calls a0 a1 t150 t151 t152 _ A14.out).mono ?_); rintro e w' ⟨rfl, ⟨nd, rfl⟩⟩; refine ⟨_, rfl, ?_⟩)))
          all_goals (go_ret)
          all_goals (exact ⟨by first | rfl | (simp [errW_none, errW_some] <;> rfl) | (simp [*, errW_none, errW_some] <;> rfl), by repeat (first | (with_reducible first | exact HB.out | apply below_alloc | apply pw_below_drewN | apply below_drew1) | exact HB.out)⟩)

/-- THE ONE PURE STATEMENT of analemmalaw01_WideRoots: yours. -/
def analemmalaw01_WideRoots.Pure : Prop := ∀ (a0 : Int) (a1 : Int), (Lit.int .u64 a0).wf = true → (Lit.int .u64 a1).wf = true → ∃ k, analemmalaw01_WideRoots.f k a0 a1 = some true
theorem analemmalaw01_WideRoots.walk (P : analemmalaw01_WideRoots.Pure) (a0 : Int) (a1 : Int) (w : World) (w0 : (Lit.int .u64 a0).wf = true) (w1 : (Lit.int .u64 a1).wf = true) :
    Calls Try.prog 7 #[.int .u64 a0, .int .u64 a1] w fun e w' => e = .returned (.bool true) ∧ Below w.heap.size w w' := by
  obtain ⟨k, h⟩ := P a0 a1 w0 w1
  refine (analemmalaw01_WideRoots.calls k a0 a1 true w h (Aside0.mk rfl)).mono ?_
  rintro e w' ⟨rfl, hd⟩
  exact ⟨rfl, hd⟩

end Go.Proofs.Ytanpjfejnlfpmaa.MWide
