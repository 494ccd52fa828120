/- Functions that the statements of this seat reach, each as a plain Lean function, with a proof that the Go code comes to its answers; no condition. -/
import Derived.Test.YtomjongnjfodmaaMFixx0
import Derived.Test.YtomjongnjfodmaaMFixx1
namespace Go.Proofs.Ytomjongnjfodmaa.MFix
open Go.RowKit Go.Proofs.YtomjongnjfodmaaW.PrintWords Go.Proofs.YtomjongnjfodmaaW.PrintLast Go.Proofs.YtomjongnjfodmaaW.PrintMore
attribute [local go_sem] max2_int min2_int max_two min_two max_three min_three max_four min_four   -- for this text's walks alone
set_option linter.unusedVariables false
set_option linter.unusedSimpArgs false

/-! ### fix_Add: function 18 -/
def fix_Add.j0 : Nat → Int → Int → Int → Bool → Option (Int)
  | 0, _, _, _, _ => none
  | k + 1, x0, x1, x5, x9 => if x9 = true then (some 9223372036854775807) else (if x0 < 0 then (if x1 < 0 then (if x5 ≥ 0 then (some (-9223372036854775807)) else (some (mx x5 (-9223372036854775807)))) else (some (mx x5 (-9223372036854775807)))) else (some (mx x5 (-9223372036854775807))))
def fix_Add.f (k : Nat) (a0 : Int) (a1 : Int) : Option (Int) := if a0 > 0 then (if a1 > 0 then (fix_Add.j0 k a0 a1 (wrap64 (a0 + a1)) (decide ((wrap64 (a0 + a1)) < 0))) else (fix_Add.j0 k a0 a1 (wrap64 (a0 + a1)) false)) else (fix_Add.j0 k a0 a1 (wrap64 (a0 + a1)) false)
theorem fix_Add.mono_l : ∀ k, (∀ y0 y1 y2 y3, LeO (fix_Add.j0 k y0 y1 y2 y3) (fix_Add.j0 (k + 1) y0 y1 y2 y3))
  | 0 => fun _ _ _ _ r h => by simp [fix_Add.j0] at h
  | k + 1 => by
    have ih0 := fix_Add.mono_l k
    · intro y0 y1 y2 y3
      unfold fix_Add.j0
      repeat' first
      | (with_reducible exact ih0 _ _ _ _)
      | (with_reducible exact LeO.refl _)
      | (with_reducible exact LeO.none _)
      | (with_reducible refine LeO.ite ?_ ?_)
      | (with_reducible refine LeO.bind ?_ (fun _ => ?_))
      | exact ih0 _ _ _ _
      | exact LeO.none _
      | refine LeO.ite ?_ ?_
      | refine LeO.bind ?_ (fun _ => ?_)
theorem fix_Add.mono : ∀ a0 a1 k, LeO (fix_Add.f k a0 a1) (fix_Add.f (k + 1) a0 a1) := by
  intro a0 a1 k
  have ih0 := fix_Add.mono_l k
  unfold fix_Add.f
  repeat' first
      | (with_reducible exact ih0 _ _ _ _)
      | (with_reducible exact LeO.refl _)
      | (with_reducible exact LeO.none _)
      | (with_reducible refine LeO.ite ?_ ?_)
      | (with_reducible refine LeO.bind ?_ (fun _ => ?_))
      | exact ih0 _ _ _ _
      | exact LeO.none _
      | refine LeO.ite ?_ ?_
      | refine LeO.bind ?_ (fun _ => ?_)
set_option maxHeartbeats 8000000 in
set_option maxRecDepth 100000 in
theorem fix_Add.calls (k : Nat) (a0 : Int) (a1 : Int) (r : Int) (w : World) (h : fix_Add.f k a0 a1 = some r) :
    Calls Try.prog 18 #[.int .i64 a0, .int .i64 a1] w fun e w' => e = .returned (.int .i64 r) ∧ Below w.heap.size w w' := by
  have HB := Aside0.mk (Below.refl w.heap.size w)
  have H : (if a0 > 0 then (if a1 > 0 then (fix_Add.j0 k a0 a1 (wrap64 (a0 + a1)) (decide ((wrap64 (a0 + a1)) < 0))) else (fix_Add.j0 k a0 a1 (wrap64 (a0 + a1)) false)) else (fix_Add.j0 k a0 a1 (wrap64 (a0 + a1)) false)) = some r := h
  clear h
  have HC3 := Aside0.mk H
  clear H
  go_enter Try.func18, Try.ntmps18
  go_upto_region 2 with (fail)
  go_cut [9] (fun v9 wc => ∃ (kq : Nat) (x9_2 : Bool), v9 = .bool x9_2 ∧ Aside0 (fix_Add.j0 kq a0 a1 (wrap64 (a0 + a1)) x9_2 = some r) ∧ Aside0 (kq ≤ k) ∧ Aside0 (Below w.heap.size w wc))
  case first =>
    have H := HC3.out
    clear HC3
    by_cases c4 : a0 > 0
    · rw [if_pos c4] at H
      have c4b0 : decide (0 < a0) = true := decide_eq_true c4
      clear c4
      (first | rw [c4b0] | (simp only [i64_w, i32_w]; rw [c4b0]) | skip)
      by_cases c5 : a1 > 0
      · rw [if_pos c5] at H
        have c5b0 : decide (0 < a1) = true := decide_eq_true c5
        clear c5
        have H' := Aside0.mk H
        clear H
        go_wp2
        go_meet
        case rel => exact ⟨_, (decide ((wrap64 (a0 + a1)) < 0)), (by first | rfl | (simp; done) | (simp [*]; done)), H', ⟨by first | omega | exact Nat.le_refl _⟩, ⟨by repeat (first | (with_reducible first | exact HB.out | apply below_alloc | apply pw_below_drewN | apply below_drew1) | exact HB.out)⟩⟩
      · rw [if_neg c5] at H
        have c5b0 : decide (0 < a1) = false := decide_eq_false c5
        clear c5
        have H' := Aside0.mk H
        clear H
        go_wp2
        go_meet
        case rel => exact ⟨_, (false), (by first | rfl | (simp; done) | (simp [*]; done)), H', ⟨by first | omega | exact Nat.le_refl _⟩, ⟨by repeat (first | (with_reducible first | exact HB.out | apply below_alloc | apply pw_below_drewN | apply below_drew1) | exact HB.out)⟩⟩
    · rw [if_neg c4] at H
      have c4b0 : decide (0 < a0) = false := decide_eq_false c4
      clear c4
      (first | rw [c4b0] | (simp only [i64_w, i32_w]; rw [c4b0]) | skip)
      have H' := Aside0.mk H
      clear H
      go_wp2
      go_meet
      case rel => exact ⟨_, (false), (by first | rfl | (simp; done) | (simp [*]; done)), H', ⟨by first | omega | exact Nat.le_refl _⟩, ⟨by repeat (first | (with_reducible first | exact HB.out | apply below_alloc | apply pw_below_drewN | apply below_drew1) | exact HB.out)⟩⟩
  case rest =>
    clear HC3
    try clear c1
    try clear p2
    try clear c4
    try clear c4b0
    try clear c5
    try clear c5b0
    obtain ⟨kq, x9_2, rfl, HA, HJ2, HB⟩ := hcut
    cases kq with
    | zero => exact absurd HA.out (by simp [fix_Add.j0])
    | succ kj2 =>
      have H := HA.out
      clear HA
      simp only [fix_Add.j0] at H
      by_cases c6 : x9_2 = true
      · subst c6
        have H1 : (some 9223372036854775807) = some r := by rw [if_pos rfl] at H; exact H
        clear H
        have H := H1
        clear H1
        obtain rfl := Option.some.inj H
        go_wp2
        go_ret
        exact ⟨by first | rfl | (simp [errW_none, errW_some] <;> rfl) | (simp [*, errW_none, errW_some] <;> rfl), by repeat (first | (with_reducible first | exact HB.out | apply below_alloc | apply pw_below_drewN | apply below_drew1) | exact HB.out)⟩
      · replace c6 := Bool.eq_false_iff.mpr c6
        subst c6
        have H1 : (if a0 < 0 then (if a1 < 0 then (if (wrap64 (a0 + a1)) ≥ 0 then (some (-9223372036854775807)) else (some (mx (wrap64 (a0 + a1)) (-9223372036854775807)))) else (some (mx (wrap64 (a0 + a1)) (-9223372036854775807)))) else (some (mx (wrap64 (a0 + a1)) (-9223372036854775807)))) = some r := by rw [if_neg (show ¬ (false = true) by decide)] at H; exact H
        clear H
        have H := H1
        clear H1
        by_cases c7 : a0 < 0
        · rw [if_pos c7] at H
          have c7b0 : decide (a0 < 0) = true := decide_eq_true c7
          clear c7
          by_cases c8 : a1 < 0
          · rw [if_pos c8] at H
            have c8b0 : decide (a1 < 0) = true := decide_eq_true c8
            clear c8
            by_cases c9 : (wrap64 (a0 + a1)) ≥ 0
            · rw [if_pos c9] at H
              have c9b0 : decide (0 ≤ (wrap64 (a0 + a1))) = true := decide_eq_true c9
              clear c9
              obtain rfl := Option.some.inj H
              go_wp2
              go_ret
              exact ⟨by first | rfl | (simp [errW_none, errW_some] <;> rfl) | (simp [*, errW_none, errW_some] <;> rfl), by repeat (first | (with_reducible first | exact HB.out | apply below_alloc | apply pw_below_drewN | apply below_drew1) | exact HB.out)⟩
            · rw [if_neg c9] at H
              have c9b0 : decide (0 ≤ (wrap64 (a0 + a1))) = false := decide_eq_false c9
              clear c9
              obtain ⟨ji10, hji10⟩ : ∃ j_ : Int, (mx (wrap64 (a0 + a1)) (-9223372036854775807)) = j_ := ⟨_, rfl⟩
              replace H : (some ji10) = some r := by first | (rw [hji10] at H; exact H) | (simp only [hji10] at H ⊢; exact H)
              have hji10_ : (if (wrap64 (a0 + a1)) < (-9223372036854775807) then (-9223372036854775807) else (wrap64 (a0 + a1))) = ji10 := hji10
              obtain rfl := Option.some.inj H
              go_wp2
              go_ret
              exact ⟨by first | rfl | (simp [errW_none, errW_some] <;> rfl) | (simp only [← hji10]; first | rfl | (simp [errW_none, errW_some] <;> rfl)) | (simp [*, errW_none, errW_some] <;> rfl), by repeat (first | (with_reducible first | exact HB.out | apply below_alloc | apply pw_below_drewN | apply below_drew1) | exact HB.out)⟩
          · rw [if_neg c8] at H
            have c8b0 : decide (a1 < 0) = false := decide_eq_false c8
            clear c8
            obtain ⟨ji11, hji11⟩ : ∃ j_ : Int, (mx (wrap64 (a0 + a1)) (-9223372036854775807)) = j_ := ⟨_, rfl⟩
            replace H : (some ji11) = some r := by first | (rw [hji11] at H; exact H) | (simp only [hji11] at H ⊢; exact H)
            have hji11_ : (if (wrap64 (a0 + a1)) < (-9223372036854775807) then (-9223372036854775807) else (wrap64 (a0 + a1))) = ji11 := hji11
            obtain rfl := Option.some.inj H
            go_wp2
            go_ret
            exact ⟨by first | rfl | (simp [errW_none, errW_some] <;> rfl) | (simp only [← hji11]; first | rfl | (simp [errW_none, errW_some] <;> rfl)) | (simp [*, errW_none, errW_some] <;> rfl), by repeat (first | (with_reducible first | exact HB.out | apply below_alloc | apply pw_below_drewN | apply below_drew1) | exact HB.out)⟩
        · rw [if_neg c7] at H
          have c7b0 : decide (a0 < 0) = false := decide_eq_false c7
          clear c7
          obtain ⟨ji12, hji12⟩ : ∃ j_ : Int, (mx (wrap64 (a0 + a1)) (-9223372036854775807)) = j_ := ⟨_, rfl⟩
          replace H : (some ji12) = some r := by first | (rw [hji12] at H; exact H) | (simp only [hji12] at H ⊢; exact H)
          have hji12_ : (if (wrap64 (a0 + a1)) < (-9223372036854775807) then (-9223372036854775807) else (wrap64 (a0 + a1))) = ji12 := hji12
          obtain rfl := Option.some.inj H
          go_wp2
          go_ret
          exact ⟨by first | rfl | (simp [errW_none, errW_some] <;> rfl) | (simp only [← hji12]; first | rfl | (simp [errW_none, errW_some] <;> rfl)) | (simp [*, errW_none, errW_some] <;> rfl), by repeat (first | (with_reducible first | exact HB.out | apply below_alloc | apply pw_below_drewN | apply below_drew1) | exact HB.out)⟩

/-! ### analemmalaw02_shown: function 14 -/
def analemmalaw02_shown.f (k : Nat)  : Option (Bool) := (fix_Mul.f 2147483648 2147483648).bind fun t114 => (if t114 = 1073741824 then ((fix_Add.f k 1 2).bind fun t115 => (if t115 = 3 then ((fix_Sqrt.f k 17179869184).bind fun t116 => (some (t116 == 8589934592))) else (some false))) else (some false))
theorem analemmalaw02_shown.mono : ∀ k, LeO (analemmalaw02_shown.f k ) (analemmalaw02_shown.f (k + 1) ) := by
  intro  k
  unfold analemmalaw02_shown.f
  repeat' first
      | (with_reducible exact fix_Add.mono _ _ _)
      | (with_reducible exact fix_Sqrt.mono _ _)
      | (with_reducible exact LeO.refl _)
      | (with_reducible exact LeO.none _)
      | (with_reducible refine LeO.ite ?_ ?_)
      | (with_reducible refine LeO.bind ?_ (fun _ => ?_))
      | exact fix_Add.mono _ _ _
      | exact fix_Sqrt.mono _ _
      | exact LeO.none _
      | refine LeO.ite ?_ ?_
      | refine LeO.bind ?_ (fun _ => ?_)
set_option maxHeartbeats 8000000 in
set_option maxRecDepth 100000 in
theorem analemmalaw02_shown.calls (k : Nat)  (r : Bool) (w : World) (h : analemmalaw02_shown.f k  = some r) :
    Calls Try.prog 14 #[] w fun e w' => e = .returned (.bool r) ∧ Below w.heap.size w w' := by
  have HB := Aside0.mk (Below.refl w.heap.size w)
  have H : ((fix_Mul.f 2147483648 2147483648).bind fun t114 => (if t114 = 1073741824 then ((fix_Add.f k 1 2).bind fun t115 => (if t115 = 3 then ((fix_Sqrt.f k 17179869184).bind fun t116 => (some (t116 == 8589934592))) else (some false))) else (some false))) = some r := h
  clear h
  replace H := Option.bind_eq_some_iff.mp H
  obtain ⟨t114, A10, H⟩ := H
  replace H : (if t114 = 1073741824 then ((fix_Add.f k 1 2).bind fun t115 => (if t115 = 3 then ((fix_Sqrt.f k 17179869184).bind fun t116 => (some (t116 == 8589934592))) else (some false))) else (some false)) = some r := H
  have A1 := Aside0.mk A10
  clear A10
  by_cases c2 : t114 = 1073741824
  · rw [if_pos c2] at H
    have c2b0 : (t114 == 1073741824) = true := beq_iff_eq.mpr c2
    have c2b1 : (t114 != 1073741824) = false := bne_eq_false_iff_eq.mpr c2
    clear c2
    replace H := Option.bind_eq_some_iff.mp H
    obtain ⟨t115, A30, H⟩ := H
    replace H : (if t115 = 3 then ((fix_Sqrt.f k 17179869184).bind fun t116 => (some (t116 == 8589934592))) else (some false)) = some r := H
    have A3 := Aside0.mk A30
    clear A30
    by_cases c4 : t115 = 3
    · rw [if_pos c4] at H
      have c4b0 : (t115 == 3) = true := beq_iff_eq.mpr c4
      have c4b1 : (t115 != 3) = false := bne_eq_false_iff_eq.mpr c4
      clear c4
      replace H := Option.bind_eq_some_iff.mp H
      obtain ⟨t116, A50, H⟩ := H
      replace H : (some (t116 == 8589934592)) = some r := H
      have A5 := Aside0.mk A50
      clear A50
      obtain rfl := Option.some.inj H
      go_enter Try.func14, Try.ntmps14
      go_wp2_with (first | ((with_reducible refine gate_callee (f := 13) rfl ?_); refine goesL_ (some 1) rfl rfl Try.func13 (by kernel_rfl) rfl #[.int .i64 2147483648, .int .i64 2147483648] rfl (by (try simp only [List.map_toArray, List.map_cons, List.map_nil]); first | done | rfl | (simp only [List.length_drop, List.length_take]; rfl)) ?_; (with_reducible refine (fix_Mul.calls 2147483648 2147483648 t114 _ A1.out).mono ?_); rintro e w6 ⟨rfl, hb⟩; refine ⟨_, rfl, ?_⟩; have n0_ := Aside0.mk (below_step (by repeat (first | (with_reducible first | exact HB.out | apply below_alloc | apply pw_below_drewN | apply below_drew1) | exact HB.out)) hb); clear HB; have HB := n0_; clear n0_; (try clear hb); (try clear hb2); (try clear hk); (try clear hi)) | (go_at_call 18; (with_reducible refine (fix_Add.calls k 1 2 t115 _ A3.out).mono ?_); rintro e w7 ⟨rfl, hb⟩; have n0_ := Aside0.mk (below_step (by repeat (first | (with_reducible first | exact HB.out | apply below_alloc | apply pw_below_drewN | apply below_drew1) | exact HB.out)) hb); clear HB; have HB := n0_; clear n0_; (try clear hb); (try clear hb2); (try clear hk); (try clear hi)) | (go_at_call 12; (with_reducible refine (fix_Sqrt.calls k 17179869184 t116 _ A5.out).mono ?_); rintro e w8 ⟨rfl, hb⟩; have n0_ := Aside0.mk (below_step (by repeat (first | (with_reducible first | exact HB.out | apply below_alloc | apply pw_below_drewN | apply below_drew1) | exact HB.out)) hb); clear HB; have HB := n0_; clear n0_; (try clear hb); (try clear hb2); (try clear hk); (try clear hi)))
      go_ret
      exact ⟨by first | rfl | (simp [errW_none, errW_some] <;> rfl) | (simp [*, errW_none, errW_some] <;> rfl), by repeat (first | (with_reducible first | exact HB.out | apply below_alloc | apply pw_below_drewN | apply below_drew1) | exact HB.out)⟩
    · rw [if_neg c4] at H
      have c4b0 : (t115 == 3) = false := beq_eq_false_iff_ne.mpr c4
      have c4b1 : (t115 != 3) = true := bne_iff_ne.mpr c4
      obtain rfl := Option.some.inj H
      go_enter Try.func14, Try.ntmps14
      go_wp2_with (first | ((with_reducible refine gate_callee (f := 13) rfl ?_); refine goesL_ (some 1) rfl rfl Try.func13 (by kernel_rfl) rfl #[.int .i64 2147483648, .int .i64 2147483648] rfl (by (try simp only [List.map_toArray, List.map_cons, List.map_nil]); first | done | rfl | (simp only [List.length_drop, List.length_take]; rfl)) ?_; (with_reducible refine (fix_Mul.calls 2147483648 2147483648 t114 _ A1.out).mono ?_); rintro e w9 ⟨rfl, hb⟩; refine ⟨_, rfl, ?_⟩; have n0_ := Aside0.mk (below_step (by repeat (first | (with_reducible first | exact HB.out | apply below_alloc | apply pw_below_drewN | apply below_drew1) | exact HB.out)) hb); clear HB; have HB := n0_; clear n0_; (try clear hb); (try clear hb2); (try clear hk); (try clear hi)) | (go_at_call 18; (with_reducible refine (fix_Add.calls k 1 2 t115 _ A3.out).mono ?_); rintro e w10 ⟨rfl, hb⟩; have n0_ := Aside0.mk (below_step (by repeat (first | (with_reducible first | exact HB.out | apply below_alloc | apply pw_below_drewN | apply below_drew1) | exact HB.out)) hb); clear HB; have HB := n0_; clear n0_; (try clear hb); (try clear hb2); (try clear hk); (try clear hi)))
      go_ret
      exact ⟨by first | rfl | (simp [errW_none, errW_some] <;> rfl) | (simp [*, errW_none, errW_some] <;> rfl), by repeat (first | (with_reducible first | exact HB.out | apply below_alloc | apply pw_below_drewN | apply below_drew1) | exact HB.out)⟩
  · rw [if_neg c2] at H
    have c2b0 : (t114 == 1073741824) = false := beq_eq_false_iff_ne.mpr c2
    have c2b1 : (t114 != 1073741824) = true := bne_iff_ne.mpr c2
    obtain rfl := Option.some.inj H
    go_enter Try.func14, Try.ntmps14
    go_wp2_with (first | ((with_reducible refine gate_callee (f := 13) rfl ?_); refine goesL_ (some 1) rfl rfl Try.func13 (by kernel_rfl) rfl #[.int .i64 2147483648, .int .i64 2147483648] rfl (by (try simp only [List.map_toArray, List.map_cons, List.map_nil]); first | done | rfl | (simp only [List.length_drop, List.length_take]; rfl)) ?_; (with_reducible refine (fix_Mul.calls 2147483648 2147483648 t114 _ A1.out).mono ?_); rintro e w11 ⟨rfl, hb⟩; refine ⟨_, rfl, ?_⟩; have n0_ := Aside0.mk (below_step (by repeat (first | (with_reducible first | exact HB.out | apply below_alloc | apply pw_below_drewN | apply below_drew1) | exact HB.out)) hb); clear HB; have HB := n0_; clear n0_; (try clear hb); (try clear hb2); (try clear hk); (try clear hi)))
    go_ret
    exact ⟨by first | rfl | (simp [errW_none, errW_some] <;> rfl) | (simp [*, errW_none, errW_some] <;> rfl), by repeat (first | (with_reducible first | exact HB.out | apply below_alloc | apply pw_below_drewN | apply below_drew1) | exact HB.out)⟩

/-! ### analemmalaw02_FixRoots: function 3 -/
def analemmalaw02_FixRoots.f (k : Nat) (a0 : Int) (a1 : Int) : Option (Bool) := (fix_Sqrt.f k a0).bind fun t117 => (if a0 < 0 then (if t117 ≥ 0 then ((fix_Mul.f (wrap64 ((wrap64 (Int.tmod a1 46340)) * 4294967296)) (wrap64 ((wrap64 (Int.tmod a1 46340)) * 4294967296))).bind fun t118 => ((fix_Sqrt.f k t118).bind fun t119 => (if t119 = (wrap64 ((wrap64 (Int.tmod a1 46340)) * 4294967296)) then ((analemmalaw02_shown.f k).bind fun t120 => (some t120)) else (some false)))) else (some false)) else ((fix_Mul.f t117 t117).bind fun t121 => (if t121 ≤ a0 then (if t117 ≥ 0 then ((fix_Mul.f (wrap64 ((wrap64 (Int.tmod a1 46340)) * 4294967296)) (wrap64 ((wrap64 (Int.tmod a1 46340)) * 4294967296))).bind fun t122 => ((fix_Sqrt.f k t122).bind fun t123 => (if t123 = (wrap64 ((wrap64 (Int.tmod a1 46340)) * 4294967296)) then ((analemmalaw02_shown.f k).bind fun t124 => (some t124)) else (some false)))) else (some false)) else (some false))))
theorem analemmalaw02_FixRoots.mono : ∀ a0 a1 k, LeO (analemmalaw02_FixRoots.f k a0 a1) (analemmalaw02_FixRoots.f (k + 1) a0 a1) := by
  intro a0 a1 k
  unfold analemmalaw02_FixRoots.f
  repeat' first
      | (with_reducible exact analemmalaw02_shown.mono _)
      | (with_reducible exact fix_Sqrt.mono _ _)
      | (with_reducible exact LeO.refl _)
      | (with_reducible exact LeO.none _)
      | (with_reducible refine LeO.ite ?_ ?_)
      | (with_reducible refine LeO.bind ?_ (fun _ => ?_))
      | exact analemmalaw02_shown.mono _
      | exact fix_Sqrt.mono _ _
      | exact LeO.none _
      | refine LeO.ite ?_ ?_
      | refine LeO.bind ?_ (fun _ => ?_)
set_option maxHeartbeats 8000000 in
set_option maxRecDepth 100000 in
theorem analemmalaw02_FixRoots.calls (k : Nat) (a0 : Int) (a1 : Int) (r : Bool) (w : World) (h : analemmalaw02_FixRoots.f k a0 a1 = some r) :
    Calls Try.prog 3 #[.int .i64 a0, .int .u32 a1] w fun e w' => e = .returned (.bool r) ∧ Below w.heap.size w w' := by
  have HB := Aside0.mk (Below.refl w.heap.size w)
  have H : ((fix_Sqrt.f k a0).bind fun t117 => (if a0 < 0 then (if t117 ≥ 0 then ((fix_Mul.f (wrap64 ((wrap64 (Int.tmod a1 46340)) * 4294967296)) (wrap64 ((wrap64 (Int.tmod a1 46340)) * 4294967296))).bind fun t118 => ((fix_Sqrt.f k t118).bind fun t119 => (if t119 = (wrap64 ((wrap64 (Int.tmod a1 46340)) * 4294967296)) then ((analemmalaw02_shown.f k).bind fun t120 => (some t120)) else (some false)))) else (some false)) else ((fix_Mul.f t117 t117).bind fun t121 => (if t121 ≤ a0 then (if t117 ≥ 0 then ((fix_Mul.f (wrap64 ((wrap64 (Int.tmod a1 46340)) * 4294967296)) (wrap64 ((wrap64 (Int.tmod a1 46340)) * 4294967296))).bind fun t122 => ((fix_Sqrt.f k t122).bind fun t123 => (if t123 = (wrap64 ((wrap64 (Int.tmod a1 46340)) * 4294967296)) then ((analemmalaw02_shown.f k).bind fun t124 => (some t124)) else (some false)))) else (some false)) else (some false))))) = some r := h
  clear h
  replace H := Option.bind_eq_some_iff.mp H
  obtain ⟨t117, A30, H⟩ := H
  replace H : (if a0 < 0 then (if t117 ≥ 0 then ((fix_Mul.f (wrap64 ((wrap64 (Int.tmod a1 46340)) * 4294967296)) (wrap64 ((wrap64 (Int.tmod a1 46340)) * 4294967296))).bind fun t118 => ((fix_Sqrt.f k t118).bind fun t119 => (if t119 = (wrap64 ((wrap64 (Int.tmod a1 46340)) * 4294967296)) then ((analemmalaw02_shown.f k).bind fun t120 => (some t120)) else (some false)))) else (some false)) else ((fix_Mul.f t117 t117).bind fun t121 => (if t121 ≤ a0 then (if t117 ≥ 0 then ((fix_Mul.f (wrap64 ((wrap64 (Int.tmod a1 46340)) * 4294967296)) (wrap64 ((wrap64 (Int.tmod a1 46340)) * 4294967296))).bind fun t122 => ((fix_Sqrt.f k t122).bind fun t123 => (if t123 = (wrap64 ((wrap64 (Int.tmod a1 46340)) * 4294967296)) then ((analemmalaw02_shown.f k).bind fun t124 => (some t124)) else (some false)))) else (some false)) else (some false)))) = some r := H
  have A3 := Aside0.mk A30
  clear A30
  by_cases c4 : a0 < 0
  · rw [if_pos c4] at H
    have c4b0 : decide (a0 < 0) = true := decide_eq_true c4
    clear c4
    by_cases c5 : t117 ≥ 0
    · rw [if_pos c5] at H
      have c5b0 : decide (0 ≤ t117) = true := decide_eq_true c5
      clear c5
      replace H := Option.bind_eq_some_iff.mp H
      obtain ⟨t118, A60, H⟩ := H
      replace H : ((fix_Sqrt.f k t118).bind fun t119 => (if t119 = (wrap64 ((wrap64 (Int.tmod a1 46340)) * 4294967296)) then ((analemmalaw02_shown.f k).bind fun t120 => (some t120)) else (some false))) = some r := H
      have A6 := Aside0.mk A60
      clear A60
      replace H := Option.bind_eq_some_iff.mp H
      obtain ⟨t119, A70, H⟩ := H
      replace H : (if t119 = (wrap64 ((wrap64 (Int.tmod a1 46340)) * 4294967296)) then ((analemmalaw02_shown.f k).bind fun t120 => (some t120)) else (some false)) = some r := H
      have A7 := Aside0.mk A70
      clear A70
      by_cases c8 : t119 = (wrap64 ((wrap64 (Int.tmod a1 46340)) * 4294967296))
      · rw [if_pos c8] at H
        have c8b0 : (t119 == (wrap64 ((wrap64 (Int.tmod a1 46340)) * 4294967296))) = true := beq_iff_eq.mpr c8
        have c8b1 : (t119 != (wrap64 ((wrap64 (Int.tmod a1 46340)) * 4294967296))) = false := bne_eq_false_iff_eq.mpr c8
        clear c8
        replace H := Option.bind_eq_some_iff.mp H
        obtain ⟨t120, A90, H⟩ := H
        replace H : (some t120) = some r := H
        have A9 := Aside0.mk A90
        clear A90
        obtain rfl := Option.some.inj H
        go_enter Try.func3, Try.ntmps3
        go_wp2_with (first | ((with_reducible refine gate_callee (f := 12) rfl ?_); refine goesL_ (some 8) rfl rfl Try.func12 (by kernel_rfl) rfl #[.int .i64 a0] rfl (by (try simp only [List.map_toArray, List.map_cons, List.map_nil]); first | done | rfl | (simp only [List.length_drop, List.length_take]; rfl)) ?_; (with_reducible refine (fix_Sqrt.calls k a0 t117 _ A3.out).mono ?_); rintro e w10 ⟨rfl, hb⟩; refine ⟨_, rfl, ?_⟩; have n0_ := Aside0.mk (below_step (by repeat (first | (with_reducible first | exact HB.out | apply below_alloc | apply pw_below_drewN | apply below_drew1) | exact HB.out)) hb); clear HB; have HB := n0_; clear n0_; (try clear hb); (try clear hb2); (try clear hk); (try clear hi)) | (go_at_call 13; (with_reducible refine (fix_Mul.calls (wrap64 ((wrap64 (Int.tmod a1 46340)) * 4294967296)) (wrap64 ((wrap64 (Int.tmod a1 46340)) * 4294967296)) t118 _ A6.out).mono ?_); rintro e w11 ⟨rfl, hb⟩; have n0_ := Aside0.mk (below_step (by repeat (first | (with_reducible first | exact HB.out | apply below_alloc | apply pw_below_drewN | apply below_drew1) | exact HB.out)) hb); clear HB; have HB := n0_; clear n0_; (try clear hb); (try clear hb2); (try clear hk); (try clear hi)) | (go_at_call 12; (with_reducible refine (fix_Sqrt.calls k t118 t119 _ A7.out).mono ?_); rintro e w12 ⟨rfl, hb⟩; have n0_ := Aside0.mk (below_step (by repeat (first | (with_reducible first | exact HB.out | apply below_alloc | apply pw_below_drewN | apply below_drew1) | exact HB.out)) hb); clear HB; have HB := n0_; clear n0_; (try clear hb); (try clear hb2); (try clear hk); (try clear hi)) | (go_at_call 14; (with_reducible refine (analemmalaw02_shown.calls k  t120 _ A9.out).mono ?_); rintro e w13 ⟨rfl, hb⟩; have n0_ := Aside0.mk (below_step (by repeat (first | (with_reducible first | exact HB.out | apply below_alloc | apply pw_below_drewN | apply below_drew1) | exact HB.out)) hb); clear HB; have HB := n0_; clear n0_; (try clear hb); (try clear hb2); (try clear hk); (try clear hi)))
        go_ret
        exact ⟨by first | rfl | (simp [errW_none, errW_some] <;> rfl) | (simp [*, errW_none, errW_some] <;> rfl), by repeat (first | (with_reducible first | exact HB.out | apply below_alloc | apply pw_below_drewN | apply below_drew1) | exact HB.out)⟩
      · rw [if_neg c8] at H
        have c8b0 : (t119 == (wrap64 ((wrap64 (Int.tmod a1 46340)) * 4294967296))) = false := beq_eq_false_iff_ne.mpr c8
        have c8b1 : (t119 != (wrap64 ((wrap64 (Int.tmod a1 46340)) * 4294967296))) = true := bne_iff_ne.mpr c8
        obtain rfl := Option.some.inj H
        go_enter Try.func3, Try.ntmps3
        go_wp2_with (first | ((with_reducible refine gate_callee (f := 12) rfl ?_); refine goesL_ (some 8) rfl rfl Try.func12 (by kernel_rfl) rfl #[.int .i64 a0] rfl (by (try simp only [List.map_toArray, List.map_cons, List.map_nil]); first | done | rfl | (simp only [List.length_drop, List.length_take]; rfl)) ?_; (with_reducible refine (fix_Sqrt.calls k a0 t117 _ A3.out).mono ?_); rintro e w14 ⟨rfl, hb⟩; refine ⟨_, rfl, ?_⟩; have n0_ := Aside0.mk (below_step (by repeat (first | (with_reducible first | exact HB.out | apply below_alloc | apply pw_below_drewN | apply below_drew1) | exact HB.out)) hb); clear HB; have HB := n0_; clear n0_; (try clear hb); (try clear hb2); (try clear hk); (try clear hi)) | (go_at_call 13; (with_reducible refine (fix_Mul.calls (wrap64 ((wrap64 (Int.tmod a1 46340)) * 4294967296)) (wrap64 ((wrap64 (Int.tmod a1 46340)) * 4294967296)) t118 _ A6.out).mono ?_); rintro e w15 ⟨rfl, hb⟩; have n0_ := Aside0.mk (below_step (by repeat (first | (with_reducible first | exact HB.out | apply below_alloc | apply pw_below_drewN | apply below_drew1) | exact HB.out)) hb); clear HB; have HB := n0_; clear n0_; (try clear hb); (try clear hb2); (try clear hk); (try clear hi)) | (go_at_call 12; (with_reducible refine (fix_Sqrt.calls k t118 t119 _ A7.out).mono ?_); rintro e w16 ⟨rfl, hb⟩; have n0_ := Aside0.mk (below_step (by repeat (first | (with_reducible first | exact HB.out | apply below_alloc | apply pw_below_drewN | apply below_drew1) | exact HB.out)) hb); clear HB; have HB := n0_; clear n0_; (try clear hb); (try clear hb2); (try clear hk); (try clear hi)))
        go_ret
        exact ⟨by first | rfl | (simp [errW_none, errW_some] <;> rfl) | (simp [*, errW_none, errW_some] <;> rfl), by repeat (first | (with_reducible first | exact HB.out | apply below_alloc | apply pw_below_drewN | apply below_drew1) | exact HB.out)⟩
    · rw [if_neg c5] at H
      have c5b0 : decide (0 ≤ t117) = false := decide_eq_false c5
      clear c5
      obtain rfl := Option.some.inj H
      go_enter Try.func3, Try.ntmps3
      go_wp2_with (first | ((with_reducible refine gate_callee (f := 12) rfl ?_); refine goesL_ (some 8) rfl rfl Try.func12 (by kernel_rfl) rfl #[.int .i64 a0] rfl (by (try simp only [List.map_toArray, List.map_cons, List.map_nil]); first | done | rfl | (simp only [List.length_drop, List.length_take]; rfl)) ?_; (with_reducible refine (fix_Sqrt.calls k a0 t117 _ A3.out).mono ?_); rintro e w17 ⟨rfl, hb⟩; refine ⟨_, rfl, ?_⟩; have n0_ := Aside0.mk (below_step (by repeat (first | (with_reducible first | exact HB.out | apply below_alloc | apply pw_below_drewN | apply below_drew1) | exact HB.out)) hb); clear HB; have HB := n0_; clear n0_; (try clear hb); (try clear hb2); (try clear hk); (try clear hi)))
      go_ret
      exact ⟨by first | rfl | (simp [errW_none, errW_some] <;> rfl) | (simp [*, errW_none, errW_some] <;> rfl), by repeat (first | (with_reducible first | exact HB.out | apply below_alloc | apply pw_below_drewN | apply below_drew1) | exact HB.out)⟩
  · rw [if_neg c4] at H
    have c4b0 : decide (a0 < 0) = false := decide_eq_false c4
    clear c4
    replace H := Option.bind_eq_some_iff.mp H
    obtain ⟨t121, A180, H⟩ := H
    replace H : (if t121 ≤ a0 then (if t117 ≥ 0 then ((fix_Mul.f (wrap64 ((wrap64 (Int.tmod a1 46340)) * 4294967296)) (wrap64 ((wrap64 (Int.tmod a1 46340)) * 4294967296))).bind fun t122 => ((fix_Sqrt.f k t122).bind fun t123 => (if t123 = (wrap64 ((wrap64 (Int.tmod a1 46340)) * 4294967296)) then ((analemmalaw02_shown.f k).bind fun t124 => (some t124)) else (some false)))) else (some false)) else (some false)) = some r := H
    have A18 := Aside0.mk A180
    clear A180
    by_cases c19 : t121 ≤ a0
    · rw [if_pos c19] at H
      have c19b0 : decide (t121 ≤ a0) = true := decide_eq_true c19
      clear c19
      by_cases c20 : t117 ≥ 0
      · rw [if_pos c20] at H
        have c20b0 : decide (0 ≤ t117) = true := decide_eq_true c20
        clear c20
        replace H := Option.bind_eq_some_iff.mp H
        obtain ⟨t122, A210, H⟩ := H
        replace H : ((fix_Sqrt.f k t122).bind fun t123 => (if t123 = (wrap64 ((wrap64 (Int.tmod a1 46340)) * 4294967296)) then ((analemmalaw02_shown.f k).bind fun t124 => (some t124)) else (some false))) = some r := H
        have A21 := Aside0.mk A210
        clear A210
        replace H := Option.bind_eq_some_iff.mp H
        obtain ⟨t123, A220, H⟩ := H
        replace H : (if t123 = (wrap64 ((wrap64 (Int.tmod a1 46340)) * 4294967296)) then ((analemmalaw02_shown.f k).bind fun t124 => (some t124)) else (some false)) = some r := H
        have A22 := Aside0.mk A220
        clear A220
        by_cases c23 : t123 = (wrap64 ((wrap64 (Int.tmod a1 46340)) * 4294967296))
        · rw [if_pos c23] at H
          have c23b0 : (t123 == (wrap64 ((wrap64 (Int.tmod a1 46340)) * 4294967296))) = true := beq_iff_eq.mpr c23
          have c23b1 : (t123 != (wrap64 ((wrap64 (Int.tmod a1 46340)) * 4294967296))) = false := bne_eq_false_iff_eq.mpr c23
          clear c23
          replace H := Option.bind_eq_some_iff.mp H
          obtain ⟨t124, A240, H⟩ := H
          replace H : (some t124) = some r := H
          have A24 := Aside0.mk A240
          clear A240
          obtain rfl := Option.some.inj H
          go_enter Try.func3, Try.ntmps3
          go_wp2_with (first | ((with_reducible refine gate_callee (f := 12) rfl ?_); refine goesL_ (some 8) rfl rfl Try.func12 (by kernel_rfl) rfl #[.int .i64 a0] rfl (by (try simp only [List.map_toArray, List.map_cons, List.map_nil]); first | done | rfl | (simp only [List.length_drop, List.length_take]; rfl)) ?_; (with_reducible refine (fix_Sqrt.calls k a0 t117 _ A3.out).mono ?_); rintro e w25 ⟨rfl, hb⟩; refine ⟨_, rfl, ?_⟩; have n0_ := Aside0.mk (below_step (by repeat (first | (with_reducible first | exact HB.out | apply below_alloc | apply pw_below_drewN | apply below_drew1) | exact HB.out)) hb); clear HB; have HB := n0_; clear n0_; (try clear hb); (try clear hb2); (try clear hk); (try clear hi)) | (go_at_call 13; (with_reducible refine (fix_Mul.calls t117 t117 t121 _ A18.out).mono ?_); rintro e w26 ⟨rfl, hb⟩; have n0_ := Aside0.mk (below_step (by repeat (first | (with_reducible first | exact HB.out | apply below_alloc | apply pw_below_drewN | apply below_drew1) | exact HB.out)) hb); clear HB; have HB := n0_; clear n0_; (try clear hb); (try clear hb2); (try clear hk); (try clear hi)) | (go_at_call 13; (with_reducible refine (fix_Mul.calls (wrap64 ((wrap64 (Int.tmod a1 46340)) * 4294967296)) (wrap64 ((wrap64 (Int.tmod a1 46340)) * 4294967296)) t122 _ A21.out).mono ?_); rintro e w27 ⟨rfl, hb⟩; have n0_ := Aside0.mk (below_step (by repeat (first | (with_reducible first | exact HB.out | apply below_alloc | apply pw_below_drewN | apply below_drew1) | exact HB.out)) hb); clear HB; have HB := n0_; clear n0_; (try clear hb); (try clear hb2); (try clear hk); (try clear hi)) | (go_at_call 12; (with_reducible refine (fix_Sqrt.calls k t122 t123 _ A22.out).mono ?_); rintro e w28 ⟨rfl, hb⟩; have n0_ := Aside0.mk (below_step (by repeat (first | (with_reducible first | exact HB.out | apply below_alloc | apply pw_below_drewN | apply below_drew1) | exact HB.out)) hb); clear HB; have HB := n0_; clear n0_; (try clear hb); (try clear hb2); (try clear hk); (try clear hi)) | (go_at_call 14; (with_reducible refine (analemmalaw02_shown.calls k  t124 _ A24.out).mono ?_); rintro e w29 ⟨rfl, hb⟩; have n0_ := Aside0.mk (below_step (by repeat (first | (with_reducible first | exact HB.out | apply below_alloc | apply pw_below_drewN | apply below_drew1) | exact HB.out)) hb); clear HB; have HB := n0_; clear n0_; (try clear hb); (try clear hb2); (try clear hk); (try clear hi)))
          go_ret
          exact ⟨by first | rfl | (simp [errW_none, errW_some] <;> rfl) | (simp [*, errW_none, errW_some] <;> rfl), by repeat (first | (with_reducible first | exact HB.out | apply below_alloc | apply pw_below_drewN | apply below_drew1) | exact HB.out)⟩
        · rw [if_neg c23] at H
          have c23b0 : (t123 == (wrap64 ((wrap64 (Int.tmod a1 46340)) * 4294967296))) = false := beq_eq_false_iff_ne.mpr c23
          have c23b1 : (t123 != (wrap64 ((wrap64 (Int.tmod a1 46340)) * 4294967296))) = true := bne_iff_ne.mpr c23
          obtain rfl := Option.some.inj H
          go_enter Try.func3, Try.ntmps3
          go_wp2_with (first | ((with_reducible refine gate_callee (f := 12) rfl ?_); refine goesL_ (some 8) rfl rfl Try.func12 (by kernel_rfl) rfl #[.int .i64 a0] rfl (by (try simp only [List.map_toArray, List.map_cons, List.map_nil]); first | done | rfl | (simp only [List.length_drop, List.length_take]; rfl)) ?_; (with_reducible refine (fix_Sqrt.calls k a0 t117 _ A3.out).mono ?_); rintro e w30 ⟨rfl, hb⟩; refine ⟨_, rfl, ?_⟩; have n0_ := Aside0.mk (below_step (by repeat (first | (with_reducible first | exact HB.out | apply below_alloc | apply pw_below_drewN | apply below_drew1) | exact HB.out)) hb); clear HB; have HB := n0_; clear n0_; (try clear hb); (try clear hb2); (try clear hk); (try clear hi)) | (go_at_call 13; (with_reducible refine (fix_Mul.calls t117 t117 t121 _ A18.out).mono ?_); rintro e w31 ⟨rfl, hb⟩; have n0_ := Aside0.mk (below_step (by repeat (first | (with_reducible first | exact HB.out | apply below_alloc | apply pw_below_drewN | apply below_drew1) | exact HB.out)) hb); clear HB; have HB := n0_; clear n0_; (try clear hb); (try clear hb2); (try clear hk); (try clear hi)) | (go_at_call 13; (with_reducible refine (fix_Mul.calls (wrap64 ((wrap64 (Int.tmod a1 46340)) * 4294967296)) (wrap64 ((wrap64 (Int.tmod a1 46340)) * 4294967296)) t122 _ A21.out).mono ?_); rintro e w32 ⟨rfl, hb⟩; have n0_ := Aside0.mk (below_step (by repeat (first | (with_reducible first | exact HB.out | apply below_alloc | apply pw_below_drewN | apply below_drew1) | exact HB.out)) hb); clear HB; have HB := n0_; clear n0_; (try clear hb); (try clear hb2); (try clear hk); (try clear hi)) | (go_at_call 12; (with_reducible refine (fix_Sqrt.calls k t122 t123 _ A22.out).mono ?_); rintro e w33 ⟨rfl, hb⟩; have n0_ := Aside0.mk (below_step (by repeat (first | (with_reducible first | exact HB.out | apply below_alloc | apply pw_below_drewN | apply below_drew1) | exact HB.out)) hb); clear HB; have HB := n0_; clear n0_; (try clear hb); (try clear hb2); (try clear hk); (try clear hi)))
          go_ret
          exact ⟨by first | rfl | (simp [errW_none, errW_some] <;> rfl) | (simp [*, errW_none, errW_some] <;> rfl), by repeat (first | (with_reducible first | exact HB.out | apply below_alloc | apply pw_below_drewN | apply below_drew1) | exact HB.out)⟩
      · rw [if_neg c20] at H
        have c20b0 : decide (0 ≤ t117) = false := decide_eq_false c20
        clear c20
        obtain rfl := Option.some.inj H
        go_enter Try.func3, Try.ntmps3
        go_wp2_with (first | ((with_reducible refine gate_callee (f := 12) rfl ?_); refine goesL_ (some 8) rfl rfl Try.func12 (by kernel_rfl) rfl #[.int .i64 a0] rfl (by (try simp only [List.map_toArray, List.map_cons, List.map_nil]); first | done | rfl | (simp only [List.length_drop, List.length_take]; rfl)) ?_; (with_reducible refine (fix_Sqrt.calls k a0 t117 _ A3.out).mono ?_); rintro e w34 ⟨rfl, hb⟩; refine ⟨_, rfl, ?_⟩; have n0_ := Aside0.mk (below_step (by repeat (first | (with_reducible first | exact HB.out | apply below_alloc | apply pw_below_drewN | apply below_drew1) | exact HB.out)) hb); clear HB; have HB := n0_; clear n0_; (try clear hb); (try clear hb2); (try clear hk); (try clear hi)) | (go_at_call 13; (with_reducible refine (fix_Mul.calls t117 t117 t121 _ A18.out).mono ?_); rintro e w35 ⟨rfl, hb⟩; have n0_ := Aside0.mk (below_step (by repeat (first | (with_reducible first | exact HB.out | apply below_alloc | apply pw_below_drewN | apply below_drew1) | exact HB.out)) hb); clear HB; have HB := n0_; clear n0_; (try clear hb); (try clear hb2); (try clear hk); (try clear hi)))
        go_ret
        exact ⟨by first | rfl | (simp [errW_none, errW_some] <;> rfl) | (simp [*, errW_none, errW_some] <;> rfl), by repeat (first | (with_reducible first | exact HB.out | apply below_alloc | apply pw_below_drewN | apply below_drew1) | exact HB.out)⟩
    · rw [if_neg c19] at H
      have c19b0 : decide (t121 ≤ a0) = false := decide_eq_false c19
      clear c19
      obtain rfl := Option.some.inj H
      go_enter Try.func3, Try.ntmps3
      go_wp2_with (first | ((with_reducible refine gate_callee (f := 12) rfl ?_); refine goesL_ (some 8) rfl rfl Try.func12 (by kernel_rfl) rfl #[.int .i64 a0] rfl (by (try simp only [List.map_toArray, List.map_cons, List.map_nil]); first | done | rfl | (simp only [List.length_drop, List.length_take]; rfl)) ?_; (with_reducible refine (fix_Sqrt.calls k a0 t117 _ A3.out).mono ?_); rintro e w36 ⟨rfl, hb⟩; refine ⟨_, rfl, ?_⟩; have n0_ := Aside0.mk (below_step (by repeat (first | (with_reducible first | exact HB.out | apply below_alloc | apply pw_below_drewN | apply below_drew1) | exact HB.out)) hb); clear HB; have HB := n0_; clear n0_; (try clear hb); (try clear hb2); (try clear hk); (try clear hi)) | (go_at_call 13; (with_reducible refine (fix_Mul.calls t117 t117 t121 _ A18.out).mono ?_); rintro e w37 ⟨rfl, hb⟩; have n0_ := Aside0.mk (below_step (by repeat (first | (with_reducible first | exact HB.out | apply below_alloc | apply pw_below_drewN | apply below_drew1) | exact HB.out)) hb); clear HB; have HB := n0_; clear n0_; (try clear hb); (try clear hb2); (try clear hk); (try clear hi)))
      go_ret
      exact ⟨by first | rfl | (simp [errW_none, errW_some] <;> rfl) | (simp [*, errW_none, errW_some] <;> rfl), by repeat (first | (with_reducible first | exact HB.out | apply below_alloc | apply pw_below_drewN | apply below_drew1) | exact HB.out)⟩

/-- THE ONE PURE STATEMENT of analemmalaw02_FixRoots: yours. -/
def analemmalaw02_FixRoots.Pure : Prop := ∀ (a0 : Int) (a1 : Int), (Lit.int .i64 a0).wf = true → (Lit.int .u32 a1).wf = true → ∃ k, analemmalaw02_FixRoots.f k a0 a1 = some true
theorem analemmalaw02_FixRoots.walk (P : analemmalaw02_FixRoots.Pure) (a0 : Int) (a1 : Int) (w : World) (w0 : (Lit.int .i64 a0).wf = true) (w1 : (Lit.int .u32 a1).wf = true) :
    Calls Try.prog 3 #[.int .i64 a0, .int .u32 a1] w fun e w' => e = .returned (.bool true) ∧ Below w.heap.size w w' := by
  obtain ⟨k, h⟩ := P a0 a1 w0 w1
  refine (analemmalaw02_FixRoots.calls k a0 a1 true w h).mono ?_
  rintro e w' ⟨rfl, hd⟩
  exact ⟨rfl, hd⟩

/-! ### wide_Log: function 41 -/
def wide_Log.v (n : Int) : Int := if n ≤ 0 then -1 else (Nat.log2 n.toNat : Int)
def wide_Log.f (a0 : Int) : Option (Int) := if 0 ≤ a0 ∧ a0 ≤ 18446744073709551615 then some (wide_Log.v a0) else none
def wide_Log.Reach (n : Int) (j : Nat) : Prop := ∀ i, i < j → (2 : Int) ^ i ≤ n
theorem wide_Log.at_ (n : Int) (j : Nat) (h : wide_Log.Reach n j) (hn : n < 2 ^ j) : wide_Log.v n = (j : Int) - 1 := by
  unfold wide_Log.v
  cases j with
  | zero =>
    rw [if_pos]
    · rfl
    · have : (2 : Int) ^ 0 = 1 := rfl
      omega
  | succ m =>
    have h1 := h m (by omega)
    have hp : (0 : Int) < 2 ^ m := Int.pow_pos (by decide)
    rw [if_neg (by omega)]
    have e : Nat.log2 n.toNat = m := by
      have h2 : (2 : Int) ^ m = ((2 ^ m : Nat) : Int) := by simp
      have h3 : (2 : Int) ^ (m + 1) = ((2 ^ (m + 1) : Nat) : Int) := by simp
      rw [h2] at h1
      rw [h3] at hn
      rw [Nat.log2_eq_iff (by omega)]
      omega
    rw [e]
    omega
theorem wide_Log.more (n : Int) (j : Nat) (h : wide_Log.Reach n j) (hn : (n / 2 ^ j == 0) = false) (h0 : 0 ≤ n) : wide_Log.Reach n (j + 1) := by
  intro i hi
  by_cases e : i = j
  · subst e
    have hp : (0 : Int) < 2 ^ i := Int.pow_pos (by decide)
    rw [beq_eq_false_iff_ne] at hn
    by_cases c : n < 2 ^ i
    · exact absurd (Int.ediv_eq_zero_of_lt h0 c) hn
    · exact Int.not_lt.mp c
  · exact h i (by omega)
theorem wide_Log.less (n : Int) (j : Nat) (hn : (n / 2 ^ j == 0) = true) (h0 : 0 ≤ n) : n < 2 ^ j := by
  have hp : (0 : Int) < 2 ^ j := Int.pow_pos (by decide)
  rw [beq_iff_eq] at hn
  by_cases c : n < 2 ^ j
  · exact c
  · have hd := Int.ediv_mul_le n (b := 2 ^ j) (by omega)
    have hm := Int.emod_lt_of_pos n hp
    have he := Int.mul_ediv_add_emod n (2 ^ j)
    rw [hn] at he
    omega
set_option maxHeartbeats 8000000 in
set_option maxRecDepth 100000 in
theorem wide_Log.calls (a0 : Int) (r : Int) (w : World) (h : wide_Log.f a0 = some r) :
    Calls Try.prog 41 #[.int .u64 a0] w fun e w' => e = .returned (.int .i64 r) ∧ Drawn0 w w' := by
  have H : 0 ≤ a0 ∧ a0 ≤ 18446744073709551615 ∧ wide_Log.v a0 = r := by
    unfold wide_Log.f at h
    split at h
    · rename_i c
      exact ⟨c.1, c.2, Option.some.inj h⟩
    · cases h
  have HA := Aside0.mk H
  clear h H
  go_enter Try.func41, Try.ntmps41
  go_wp2
  go_step3
  go_wp2
  go_step3
  go_wp2
  go_loopg [3, 5] 64 (fun g at' i wr => ∃ j : Nat, j ≤ 64 ∧ g = 64 - j ∧ i = .int .i64 j ∧ at' = .int .i64 ((j : Int) - 1) ∧ wide_Log.Reach a0 j ∧ wr = w)
  case atStart => exact ⟨0, by omega, by omega, rfl, rfl, fun i hi => absurd hi (by omega), rfl⟩
  case round =>
    obtain ⟨j, hj, hg, rfl, rfl, hr, rfl⟩ := hrel
    have HR := Aside0.mk hr
    have HG := Aside0.mk hg
    clear hr hg
    by_cases hlt : j < 64
    · go_wp2
      · have hz : (a0 / 2 ^ j == 0) = true := by assumption
        rw [Exit.noGoto_ret]
        go_ret
        exact ⟨by rw [← HA.out.2.2, wide_Log.at_ a0 j HR.out (wide_Log.less a0 j hz HA.out.1)]; rfl, Drawn0.refl _⟩
      · have hz : (a0 / 2 ^ j == 0) = false := by assumption
        have hg := HG.out
        go_roundg (63 - j)
        case measure => omega
        case rel => exact ⟨j + 1, by omega, by omega, by first | rfl | go_num, by first | rfl | go_num, wide_Log.more a0 j HR.out hz HA.out.1, rfl⟩
    · obtain rfl : j = 64 := by omega
      go_wp2
      rw [Exit.noGoto_ret]
      go_ret
      exact ⟨by rw [← HA.out.2.2, wide_Log.at_ a0 64 HR.out (by have := HA.out.2.1; omega)]; rfl, Drawn0.refl _⟩

/-! ### fix_Shift: function 15 -/
def fix_Shift.m (n : Int) : Int := if n < -63 then 63 else -n
def fix_Shift.f (a0 : Int) (a1 : Int) : Option (Int) :=
  if a1 ≤ 0 then (if -9223372036854775808 ≤ a1 then some (mx (a0 / 2 ^ (fix_Shift.m a1).toNat) (-9223372036854775807)) else none)
  else (fix_size.f a0).bind fun b => (if b.1 > 0 then ((wide_Log.f b.1).bind fun l => (if wrap64 (l + mn a1 64) ≥ 63 then fix_cut.f 9223372036854775807 0 b.2 else fix_cut.f (IntKind.u64.wrap (b.1 * 2 ^ (mn a1 63).toNat)) 0 b.2)) else fix_cut.f (IntKind.u64.wrap (b.1 * 2 ^ (mn a1 63).toNat)) 0 b.2)
theorem fix_Shift.ret_int {k : IntKind} {a b : Int} (h : a = b) : Ending.returned (.int k a) = .returned (.int k b) := by rw [h]
set_option maxHeartbeats 8000000 in
set_option maxRecDepth 100000 in
theorem fix_Shift.down (a0 : Int) (a1 : Int) (r : Int) (w : World) (c : a1 ≤ 0) (c0 : -9223372036854775808 ≤ a1) (h : mx (a0 / 2 ^ (fix_Shift.m a1).toNat) (-9223372036854775807) = r) :
    Calls Try.prog 15 #[.int .i64 a0, .int .i64 a1] w fun e w' => e = .returned (.int .i64 r) ∧ Below w.heap.size w w' := by
  have HB := Aside0.mk (Below.refl w.heap.size w)
  by_cases d : a1 < -63
  · have e : (2 : Int) ^ (fix_Shift.m a1).toNat = 9223372036854775808 := by unfold fix_Shift.m; rw [if_pos d]; decide
    rw [e] at h
    unfold mx at h
    clear e c0
    by_cases s : a0 / 9223372036854775808 < -9223372036854775807
    · rw [if_pos s] at h
      subst h
      go_enter Try.func15, Try.ntmps15
      go_wp2
      go_ret
      exact ⟨fix_Shift.ret_int rfl, HB.out⟩
    · rw [if_neg s] at h
      have H := Aside0.mk h
      clear h
      go_enter Try.func15, Try.ntmps15
      go_wp2
      go_ret
      exact ⟨fix_Shift.ret_int H.out, HB.out⟩
  · by_cases d63 : a1 = -63
    · subst d63
      have e : (2 : Int) ^ (fix_Shift.m (-63)).toNat = 9223372036854775808 := by decide
      rw [e] at h
      unfold mx at h
      clear e c0 d c
      by_cases s : a0 / 9223372036854775808 < -9223372036854775807
      · rw [if_pos s] at h
        subst h
        go_enter Try.func15, Try.ntmps15
        go_wp2
        go_ret
        exact ⟨fix_Shift.ret_int rfl, HB.out⟩
      · rw [if_neg s] at h
        have H := Aside0.mk h
        clear h
        go_enter Try.func15, Try.ntmps15
        go_wp2
        go_ret
        exact ⟨fix_Shift.ret_int H.out, HB.out⟩
    · obtain ⟨m, hm⟩ : ∃ m : Nat, a1 = -(m : Int) := ⟨(-a1).toNat, by omega⟩
      subst hm
      have hm : m ≤ 62 := by omega
      have e : (fix_Shift.m (-(m : Int))).toNat = m := by unfold fix_Shift.m; rw [if_neg d]; omega
      rw [e] at h
      unfold mx at h
      clear e c0 d d63
      by_cases s : a0 / 2 ^ m < -9223372036854775807
      · rw [if_pos s] at h
        subst h
        go_enter Try.func15, Try.ntmps15
        go_wp2
        go_ret
        exact ⟨fix_Shift.ret_int rfl, HB.out⟩
      · rw [if_neg s] at h
        have H := Aside0.mk h
        clear h
        go_enter Try.func15, Try.ntmps15
        go_wp2
        go_ret
        exact ⟨fix_Shift.ret_int H.out, HB.out⟩
set_option maxHeartbeats 8000000 in
set_option maxRecDepth 100000 in
theorem fix_Shift.up (a0 : Int) (a1 : Int) (r : Int) (w : World) (c : ¬ a1 ≤ 0) (m : Int) (b : Bool) (hs : fix_size.f a0 = some (m, b)) (z : ¬ m > 0)
    (h : fix_cut.f (IntKind.u64.wrap (m * 2 ^ (mn a1 63).toNat)) 0 b = some r) :
    Calls Try.prog 15 #[.int .i64 a0, .int .i64 a1] w fun e w' => e = .returned (.int .i64 r) ∧ Below w.heap.size w w' := by
  have HB := Aside0.mk (Below.refl w.heap.size w)
  obtain ⟨s, hs1, hs2⟩ : ∃ s : Nat, mn a1 63 = (s : Int) ∧ s ≤ 63 := ⟨(mn a1 63).toNat, by unfold mn; split <;> omega, by unfold mn; split <;> omega⟩
  have hj : (if 63 < a1 then 63 else a1) = (s : Int) := hs1
  rw [hs1] at h
  have e : ((s : Int).toNat) = s := by omega
  rw [e] at h
  have HS := Aside0.mk hs
  have H := Aside0.mk h
  have z0 : decide (m > 0) = false := decide_eq_false z
  clear hs h e hs1 z
  go_enter Try.func15, Try.ntmps15
  go_wp2_with (first | (go_at_call 39; (with_reducible refine (fix_size.calls a0 m b _ HS.out).mono ?_); rintro e w' ⟨rfl, ⟨nd, rfl⟩⟩) | (go_at_call 37; (with_reducible refine (fix_cut.calls _ 0 b r _ H.out).mono ?_); rintro e w' ⟨rfl, hb⟩))
  go_ret
  exact ⟨fix_Shift.ret_int rfl, by first | exact hb | exact below_step (by repeat (first | (with_reducible first | exact HB.out | apply below_alloc | apply pw_below_drewN | apply below_drew1) | exact HB.out)) hb⟩
set_option maxHeartbeats 8000000 in
set_option maxRecDepth 100000 in
theorem fix_Shift.up1 (a0 : Int) (a1 : Int) (r : Int) (w : World) (c : ¬ a1 ≤ 0) (m : Int) (b : Bool) (hs : fix_size.f a0 = some (m, b)) (z : m > 0) (l : Int) (hl : wide_Log.f m = some l) (g : ¬ wrap64 (l + mn a1 64) ≥ 63)
    (h : fix_cut.f (IntKind.u64.wrap (m * 2 ^ (mn a1 63).toNat)) 0 b = some r) :
    Calls Try.prog 15 #[.int .i64 a0, .int .i64 a1] w fun e w' => e = .returned (.int .i64 r) ∧ Below w.heap.size w w' := by
  have HB := Aside0.mk (Below.refl w.heap.size w)
  obtain ⟨q, hq⟩ : ∃ q, mn a1 64 = q := ⟨_, rfl⟩
  have hq2 : (if 64 < a1 then 64 else a1) = q := hq
  rw [hq] at g
  have g0 : decide (wrap64 (l + q) ≥ 63) = false := decide_eq_false g
  obtain ⟨s, hs1, hs2⟩ : ∃ s : Nat, mn a1 63 = (s : Int) ∧ s ≤ 63 := ⟨(mn a1 63).toNat, by unfold mn; split <;> omega, by unfold mn; split <;> omega⟩
  have hj : (if 63 < a1 then 63 else a1) = (s : Int) := hs1
  rw [hs1] at h
  have e : ((s : Int).toNat) = s := by omega
  rw [e] at h
  have HS := Aside0.mk hs
  have HL := Aside0.mk hl
  have H := Aside0.mk h
  have z0 : decide (m > 0) = true := decide_eq_true z
  clear hs h e hs1 hl hq z g
  go_enter Try.func15, Try.ntmps15
  go_wp2_with (first | (go_at_call 39; (with_reducible refine (fix_size.calls a0 m b _ HS.out).mono ?_); rintro e w' ⟨rfl, ⟨nd, rfl⟩⟩) | (go_at_call 41; (with_reducible refine (wide_Log.calls m l _ HL.out).mono ?_); rintro e w' ⟨rfl, ⟨nd2, rfl⟩⟩) | (go_at_call 37; (with_reducible refine (fix_cut.calls _ 0 b r _ H.out).mono ?_); rintro e w' ⟨rfl, hb⟩))
  go_ret
  exact ⟨fix_Shift.ret_int rfl, by first | exact hb | exact below_step (by repeat (first | (with_reducible first | exact HB.out | apply below_alloc | apply pw_below_drewN | apply below_drew1) | exact HB.out)) hb⟩
set_option maxHeartbeats 8000000 in
set_option maxRecDepth 100000 in
theorem fix_Shift.up2 (a0 : Int) (a1 : Int) (r : Int) (w : World) (c : ¬ a1 ≤ 0) (m : Int) (b : Bool) (hs : fix_size.f a0 = some (m, b)) (z : m > 0) (l : Int) (hl : wide_Log.f m = some l) (g : wrap64 (l + mn a1 64) ≥ 63)
    (h : fix_cut.f 9223372036854775807 0 b = some r) :
    Calls Try.prog 15 #[.int .i64 a0, .int .i64 a1] w fun e w' => e = .returned (.int .i64 r) ∧ Below w.heap.size w w' := by
  have HB := Aside0.mk (Below.refl w.heap.size w)
  obtain ⟨q, hq⟩ : ∃ q, mn a1 64 = q := ⟨_, rfl⟩
  have hq2 : (if 64 < a1 then 64 else a1) = q := hq
  rw [hq] at g
  have g0 : decide (wrap64 (l + q) ≥ 63) = true := decide_eq_true g
  have HS := Aside0.mk hs
  have HL := Aside0.mk hl
  have H := Aside0.mk h
  have z0 : decide (m > 0) = true := decide_eq_true z
  clear hs h hl hq z g
  go_enter Try.func15, Try.ntmps15
  go_wp2_with (first | (go_at_call 39; (with_reducible refine (fix_size.calls a0 m b _ HS.out).mono ?_); rintro e w' ⟨rfl, ⟨nd, rfl⟩⟩) | (go_at_call 41; (with_reducible refine (wide_Log.calls m l _ HL.out).mono ?_); rintro e w' ⟨rfl, ⟨nd2, rfl⟩⟩) | (go_at_call 37; (with_reducible refine (fix_cut.calls _ 0 b r _ H.out).mono ?_); rintro e w' ⟨rfl, hb⟩))
  go_ret
  exact ⟨fix_Shift.ret_int rfl, by first | exact hb | exact below_step (by repeat (first | (with_reducible first | exact HB.out | apply below_alloc | apply pw_below_drewN | apply below_drew1) | exact HB.out)) hb⟩
theorem fix_Shift.calls (a0 : Int) (a1 : Int) (r : Int) (w : World) (h : fix_Shift.f a0 a1 = some r) :
    Calls Try.prog 15 #[.int .i64 a0, .int .i64 a1] w fun e w' => e = .returned (.int .i64 r) ∧ Below w.heap.size w w' := by
  unfold fix_Shift.f at h
  by_cases c : a1 ≤ 0
  · rw [if_pos c] at h
    by_cases c0 : -9223372036854775808 ≤ a1
    · rw [if_pos c0] at h
      exact fix_Shift.down a0 a1 r w c c0 (Option.some.inj h)
    · rw [if_neg c0] at h
      cases h
  · rw [if_neg c] at h
    obtain ⟨⟨m, b⟩, hs, h⟩ := Option.bind_eq_some_iff.mp h
    simp only at h
    by_cases z : m > 0
    · rw [if_pos z] at h
      obtain ⟨l, hl, h⟩ := Option.bind_eq_some_iff.mp h
      by_cases g : wrap64 (l + mn a1 64) ≥ 63
      · rw [if_pos g] at h
        exact fix_Shift.up2 a0 a1 r w c m b hs z l hl g h
      · rw [if_neg g] at h
        exact fix_Shift.up1 a0 a1 r w c m b hs z l hl g h
    · rw [if_neg z] at h
      exact fix_Shift.up a0 a1 r w c m b hs z h

/-! ### analemmalaw02_FixShifts: function 4 -/
mutual
def analemmalaw02_FixShifts.l0 : Nat → Int → Int → Int → Int → Int → Option (Bool)
  | 0, _, _, _, _, _ => none
  | k + 1, x5, x6, x7, x8, x9 => if x9 < x5 then ((fix_Shift.f x8 (-1)).bind fun t127 => (analemmalaw02_FixShifts.l0 k x5 x6 x7 t127 (wrap64 (x9 + 1)))) else ((fix_Shift.f x6 x5).bind fun t128 => (analemmalaw02_FixShifts.l1 k x5 x6 x7 x8 t128 x6 0))
def analemmalaw02_FixShifts.l1 : Nat → Int → Int → Int → Int → Int → Int → Int → Option (Bool)
  | 0, _, _, _, _, _, _, _ => none
  | k + 1, x5, x6, x7, x8, x10, x11, x12 => if x12 < x5 then ((fix_Shift.f x11 1).bind fun t129 => (analemmalaw02_FixShifts.l1 k x5 x6 x7 x8 x10 t129 (wrap64 (x12 + 1)))) else (if x7 ≤ x6 then ((fix_Shift.f x6 (wrap64 (-x5))).bind fun t130 => (if x8 = t130 then (if x10 = x11 then (if x5 > 18 then ((analemmalaw02_shown.f k).bind fun t131 => (some t131)) else (if 0 ≤ x5 then (if (wrap64 (x6 - x7)) < (shl .i64 1 x5) then ((analemmalaw02_shown.f k).bind fun t132 => (some t132)) else (some false)) else (none))) else (some false)) else (some false))) else (some false))
end
def analemmalaw02_FixShifts.f (k : Nat) (a0 : Int) (a1 : Int) : Option (Bool) := (fix_Shift.f (a0 / 1048576) (wrap64 (-(Int.tmod (wrap64 (a1)) 60)))).bind fun t125 => ((fix_Shift.f t125 (Int.tmod (wrap64 (a1)) 60)).bind fun t126 => (analemmalaw02_FixShifts.l0 k (Int.tmod (wrap64 (a1)) 60) (a0 / 1048576) t126 (a0 / 1048576) 0))
theorem analemmalaw02_FixShifts.mono_l : ∀ k, (∀ y0 y1 y2 y3 y4, LeO (analemmalaw02_FixShifts.l0 k y0 y1 y2 y3 y4) (analemmalaw02_FixShifts.l0 (k + 1) y0 y1 y2 y3 y4)) ∧ (∀ y0 y1 y2 y3 y4 y5 y6, LeO (analemmalaw02_FixShifts.l1 k y0 y1 y2 y3 y4 y5 y6) (analemmalaw02_FixShifts.l1 (k + 1) y0 y1 y2 y3 y4 y5 y6))
  | 0 => ⟨fun _ _ _ _ _ r h => by simp [analemmalaw02_FixShifts.l0] at h, fun _ _ _ _ _ _ _ r h => by simp [analemmalaw02_FixShifts.l1] at h⟩
  | k + 1 => by
    obtain ⟨ih0, ih1⟩ := analemmalaw02_FixShifts.mono_l k
    refine ⟨?_, ?_⟩
    · intro y0 y1 y2 y3 y4
      unfold analemmalaw02_FixShifts.l0
      repeat' first
      | (with_reducible exact ih0 _ _ _ _ _)
      | (with_reducible exact ih1 _ _ _ _ _ _ _)
      | (with_reducible exact analemmalaw02_shown.mono _)
      | (with_reducible exact LeO.refl _)
      | (with_reducible exact LeO.none _)
      | (with_reducible refine LeO.ite ?_ ?_)
      | (with_reducible refine LeO.bind ?_ (fun _ => ?_))
      | exact ih0 _ _ _ _ _
      | exact ih1 _ _ _ _ _ _ _
      | exact analemmalaw02_shown.mono _
      | exact LeO.none _
      | refine LeO.ite ?_ ?_
      | refine LeO.bind ?_ (fun _ => ?_)
    · intro y0 y1 y2 y3 y4 y5 y6
      unfold analemmalaw02_FixShifts.l1
      repeat' first
      | (with_reducible exact ih0 _ _ _ _ _)
      | (with_reducible exact ih1 _ _ _ _ _ _ _)
      | (with_reducible exact analemmalaw02_shown.mono _)
      | (with_reducible exact LeO.refl _)
      | (with_reducible exact LeO.none _)
      | (with_reducible refine LeO.ite ?_ ?_)
      | (with_reducible refine LeO.bind ?_ (fun _ => ?_))
      | exact ih0 _ _ _ _ _
      | exact ih1 _ _ _ _ _ _ _
      | exact analemmalaw02_shown.mono _
      | exact LeO.none _
      | refine LeO.ite ?_ ?_
      | refine LeO.bind ?_ (fun _ => ?_)
theorem analemmalaw02_FixShifts.mono : ∀ a0 a1 k, LeO (analemmalaw02_FixShifts.f k a0 a1) (analemmalaw02_FixShifts.f (k + 1) a0 a1) := by
  intro a0 a1 k
  obtain ⟨ih0, ih1⟩ := analemmalaw02_FixShifts.mono_l k
  unfold analemmalaw02_FixShifts.f
  repeat' first
      | (with_reducible exact ih0 _ _ _ _ _)
      | (with_reducible exact ih1 _ _ _ _ _ _ _)
      | (with_reducible exact analemmalaw02_shown.mono _)
      | (with_reducible exact LeO.refl _)
      | (with_reducible exact LeO.none _)
      | (with_reducible refine LeO.ite ?_ ?_)
      | (with_reducible refine LeO.bind ?_ (fun _ => ?_))
      | exact ih0 _ _ _ _ _
      | exact ih1 _ _ _ _ _ _ _
      | exact analemmalaw02_shown.mono _
      | exact LeO.none _
      | refine LeO.ite ?_ ?_
      | refine LeO.bind ?_ (fun _ => ?_)
set_option maxHeartbeats 8000000 in
set_option maxRecDepth 100000 in
theorem analemmalaw02_FixShifts.calls (k : Nat) (a0 : Int) (a1 : Int) (r : Bool) (w : World) (h : analemmalaw02_FixShifts.f k a0 a1 = some r) :
    Calls Try.prog 4 #[.int .i64 a0, .int .u8 a1] w fun e w' => e = .returned (.bool r) ∧ Below w.heap.size w w' := by
  have HB := Aside0.mk (Below.refl w.heap.size w)
  have H : ((fix_Shift.f (a0 / 1048576) (wrap64 (-(Int.tmod (wrap64 (a1)) 60)))).bind fun t125 => ((fix_Shift.f t125 (Int.tmod (wrap64 (a1)) 60)).bind fun t126 => (analemmalaw02_FixShifts.l0 k (Int.tmod (wrap64 (a1)) 60) (a0 / 1048576) t126 (a0 / 1048576) 0))) = some r := h
  clear h
  replace H := Option.bind_eq_some_iff.mp H
  obtain ⟨t125, A30, H⟩ := H
  replace H : ((fix_Shift.f t125 (Int.tmod (wrap64 (a1)) 60)).bind fun t126 => (analemmalaw02_FixShifts.l0 k (Int.tmod (wrap64 (a1)) 60) (a0 / 1048576) t126 (a0 / 1048576) 0)) = some r := H
  have A3 := Aside0.mk A30
  clear A30
  replace H := Option.bind_eq_some_iff.mp H
  obtain ⟨t126, A40, H⟩ := H
  replace H : (analemmalaw02_FixShifts.l0 k (Int.tmod (wrap64 (a1)) 60) (a0 / 1048576) t126 (a0 / 1048576) 0) = some r := H
  have A4 := Aside0.mk A40
  clear A40
  have H' := Aside0.mk H
  clear H
  go_enter Try.func4, Try.ntmps4
  go_wp2_with (first | ((with_reducible refine gate_callee (f := 15) rfl ?_); refine goesL_ (some 21) rfl rfl Try.func15 (by kernel_rfl) rfl #[.int .i64 (a0 / 1048576), .int .i64 (wrap64 (-(Int.tmod (wrap64 (a1)) 60)))] rfl (by (try simp only [List.map_toArray, List.map_cons, List.map_nil]); first | done | rfl | (simp only [List.length_drop, List.length_take]; rfl)) ?_; (with_reducible refine (fix_Shift.calls (a0 / 1048576) (wrap64 (-(Int.tmod (wrap64 (a1)) 60))) t125 _ A3.out).mono ?_); rintro e w5 ⟨rfl, hb⟩; refine ⟨_, rfl, ?_⟩; have n0_ := Aside0.mk (below_step (by repeat (first | (with_reducible first | exact HB.out | apply below_alloc | apply pw_below_drewN | apply below_drew1) | exact HB.out)) hb); clear HB; have HB := n0_; clear n0_; (try clear hb); (try clear hb2); (try clear hk); (try clear hi)) | ((with_reducible refine gate_callee (f := 15) rfl ?_); refine goesL_ (some 23) rfl rfl Try.func15 (by kernel_rfl) rfl #[.int .i64 t125, .int .i64 (Int.tmod (wrap64 (a1)) 60)] rfl (by (try simp only [List.map_toArray, List.map_cons, List.map_nil]); first | done | rfl | (simp only [List.length_drop, List.length_take]; rfl)) ?_; (with_reducible refine (fix_Shift.calls t125 (Int.tmod (wrap64 (a1)) 60) t126 _ A4.out).mono ?_); rintro e w6 ⟨rfl, hb⟩; refine ⟨_, rfl, ?_⟩; have n0_ := Aside0.mk (below_step (by repeat (first | (with_reducible first | exact HB.out | apply below_alloc | apply pw_below_drewN | apply below_drew1) | exact HB.out)) hb); clear HB; have HB := n0_; clear n0_; (try clear hb); (try clear hb2); (try clear hk); (try clear hi)))
  go_loopg [8, 9] k (fun kq v8 v9 w' => ∃ (x8_1 : Int) (x9_1 : Int), v8 = .int .i64 x8_1 ∧ v9 = .int .i64 x9_1 ∧ Aside0 (analemmalaw02_FixShifts.l0 kq (Int.tmod (wrap64 (a1)) 60) (a0 / 1048576) t126 x8_1 x9_1 = some r) ∧ Aside0 (kq ≤ k) ∧ Aside0 (Below w.heap.size w w'))
  case atStart => exact ⟨(a0 / 1048576), (0), (by first | rfl | (simp; done) | (simp [*]; done)), (by first | rfl | (simp; done) | (simp [*]; done)), H', ⟨Nat.le_refl _⟩, ⟨by repeat (first | (with_reducible first | exact HB.out | apply below_alloc | apply pw_below_drewN | apply below_drew1) | exact HB.out)⟩⟩
  case round =>
    clear H'
    try clear c1
    try clear p2
    try clear c4
    try clear p6
    obtain ⟨x8_1, x9_1, rfl, rfl, HA, HK1, HB⟩ := hrel
    cases gk with
    | zero => exact absurd HA.out (by simp [analemmalaw02_FixShifts.l0])
    | succ k1 =>
      have H := HA.out
      clear HA
      simp only [analemmalaw02_FixShifts.l0] at H
      by_cases c7 : x9_1 < (Int.tmod (wrap64 (a1)) 60)
      · rw [if_pos c7] at H
        have c7b0 : decide (x9_1 < (Int.tmod (wrap64 (a1)) 60)) = true := decide_eq_true c7
        clear c7
        replace H := Option.bind_eq_some_iff.mp H
        obtain ⟨t127, A80, H⟩ := H
        replace H : (analemmalaw02_FixShifts.l0 k1 (Int.tmod (wrap64 (a1)) 60) (a0 / 1048576) t126 t127 (wrap64 (x9_1 + 1))) = some r := H
        have A8 := Aside0.mk A80
        clear A80
        have H' := Aside0.mk H
        clear H
        go_wp2_with (first | ((with_reducible refine gate_callee (f := 15) rfl ?_); refine goesL_ (some 31) rfl rfl Try.func15 (by kernel_rfl) rfl #[.int .i64 x8_1, .int .i64 (-1)] rfl (by (try simp only [List.map_toArray, List.map_cons, List.map_nil]); first | done | rfl | (simp only [List.length_drop, List.length_take]; rfl)) ?_; (with_reducible refine (fix_Shift.calls x8_1 (-1) t127 _ A8.out).mono ?_); rintro e w9 ⟨rfl, hb⟩; refine ⟨_, rfl, ?_⟩; have n0_ := Aside0.mk (below_step (by repeat (first | (with_reducible first | exact HB.out | apply below_alloc | apply pw_below_drewN | apply below_drew1) | exact HB.out)) hb); clear HB; have HB := n0_; clear n0_; (try clear hb); (try clear hb2); (try clear hk); (try clear hi)))
        go_roundg k1
        case measure => have := HK1.out; omega
        case rel => exact ⟨(t127), (wrap64 (x9_1 + 1)), (by first | rfl | (simp; done) | (simp [*]; done)), (by first | rfl | (simp; done) | (simp [*]; done)), H', ⟨by have := HK1.out; omega⟩, ⟨by repeat (first | (with_reducible first | exact HB.out | apply below_alloc | apply pw_below_drewN | apply below_drew1) | exact HB.out)⟩⟩
      · rw [if_neg c7] at H
        have c7b0 : decide (x9_1 < (Int.tmod (wrap64 (a1)) 60)) = false := decide_eq_false c7
        clear c7
        replace H := Option.bind_eq_some_iff.mp H
        obtain ⟨t128, A100, H⟩ := H
        replace H : (analemmalaw02_FixShifts.l1 k1 (Int.tmod (wrap64 (a1)) 60) (a0 / 1048576) t126 x8_1 t128 (a0 / 1048576) 0) = some r := H
        have A10 := Aside0.mk A100
        clear A100
        have H' := Aside0.mk H
        clear H
        go_wp2_with (first | ((with_reducible refine gate_callee (f := 15) rfl ?_); refine goesL_ (some 34) rfl rfl Try.func15 (by kernel_rfl) rfl #[.int .i64 (a0 / 1048576), .int .i64 (Int.tmod (wrap64 (a1)) 60)] rfl (by (try simp only [List.map_toArray, List.map_cons, List.map_nil]); first | done | rfl | (simp only [List.length_drop, List.length_take]; rfl)) ?_; (with_reducible refine (fix_Shift.calls (a0 / 1048576) (Int.tmod (wrap64 (a1)) 60) t128 _ A10.out).mono ?_); rintro e w11 ⟨rfl, hb⟩; refine ⟨_, rfl, ?_⟩; have n0_ := Aside0.mk (below_step (by repeat (first | (with_reducible first | exact HB.out | apply below_alloc | apply pw_below_drewN | apply below_drew1) | exact HB.out)) hb); clear HB; have HB := n0_; clear n0_; (try clear hb); (try clear hb2); (try clear hk); (try clear hi)))
        go_loopg [11, 12] k1 (fun kq v11 v12 w' => ∃ (x11_2 : Int) (x12_2 : Int), v11 = .int .i64 x11_2 ∧ v12 = .int .i64 x12_2 ∧ Aside0 (analemmalaw02_FixShifts.l1 kq (Int.tmod (wrap64 (a1)) 60) (a0 / 1048576) t126 x8_1 t128 x11_2 x12_2 = some r) ∧ Aside0 (kq ≤ k1) ∧ Aside0 (Below w.heap.size w w'))
        case atStart => exact ⟨((a0 / 1048576)), (0), (by first | rfl | (simp; done) | (simp [*]; done)), (by first | rfl | (simp; done) | (simp [*]; done)), H', ⟨Nat.le_refl _⟩, ⟨by repeat (first | (with_reducible first | exact HB.out | apply below_alloc | apply pw_below_drewN | apply below_drew1) | exact HB.out)⟩⟩
        case round =>
          clear H'
          try clear c1
          try clear p2
          try clear c4
          try clear p6
          try clear c7
          try clear c7b0
          try clear p2
          try clear p6
          obtain ⟨x11_2, x12_2, rfl, rfl, HA, HK2, HB⟩ := hrel
          cases gk with
          | zero => exact absurd HA.out (by simp [analemmalaw02_FixShifts.l1])
          | succ k2 =>
            have H := HA.out
            clear HA
            simp only [analemmalaw02_FixShifts.l1] at H
            by_cases c12 : x12_2 < (Int.tmod (wrap64 (a1)) 60)
            · rw [if_pos c12] at H
              have c12b0 : decide (x12_2 < (Int.tmod (wrap64 (a1)) 60)) = true := decide_eq_true c12
              clear c12
              replace H := Option.bind_eq_some_iff.mp H
              obtain ⟨t129, A130, H⟩ := H
              replace H : (analemmalaw02_FixShifts.l1 k2 (Int.tmod (wrap64 (a1)) 60) (a0 / 1048576) t126 x8_1 t128 t129 (wrap64 (x12_2 + 1))) = some r := H
              have A13 := Aside0.mk A130
              clear A130
              have H' := Aside0.mk H
              clear H
              go_wp2_with (first | ((with_reducible refine gate_callee (f := 15) rfl ?_); refine goesL_ (some 42) rfl rfl Try.func15 (by kernel_rfl) rfl #[.int .i64 x11_2, .int .i64 1] rfl (by (try simp only [List.map_toArray, List.map_cons, List.map_nil]); first | done | rfl | (simp only [List.length_drop, List.length_take]; rfl)) ?_; (with_reducible refine (fix_Shift.calls x11_2 1 t129 _ A13.out).mono ?_); rintro e w14 ⟨rfl, hb⟩; refine ⟨_, rfl, ?_⟩; have n0_ := Aside0.mk (below_step (by repeat (first | (with_reducible first | exact HB.out | apply below_alloc | apply pw_below_drewN | apply below_drew1) | exact HB.out)) hb); clear HB; have HB := n0_; clear n0_; (try clear hb); (try clear hb2); (try clear hk); (try clear hi)))
              go_roundg k2
              case measure => have := HK1.out; have := HK2.out; omega
              case rel => exact ⟨(t129), (wrap64 (x12_2 + 1)), (by first | rfl | (simp; done) | (simp [*]; done)), (by first | rfl | (simp; done) | (simp [*]; done)), H', ⟨by have := HK1.out; have := HK2.out; omega⟩, ⟨by repeat (first | (with_reducible first | exact HB.out | apply below_alloc | apply pw_below_drewN | apply below_drew1) | exact HB.out)⟩⟩
            · rw [if_neg c12] at H
              have c12b0 : decide (x12_2 < (Int.tmod (wrap64 (a1)) 60)) = false := decide_eq_false c12
              clear c12
              by_cases c15 : t126 ≤ (a0 / 1048576)
              · rw [if_pos c15] at H
                have c15b0 : decide (t126 ≤ (a0 / 1048576)) = true := decide_eq_true c15
                clear c15
                replace H := Option.bind_eq_some_iff.mp H
                obtain ⟨t130, A160, H⟩ := H
                replace H : (if x8_1 = t130 then (if t128 = x11_2 then (if (Int.tmod (wrap64 (a1)) 60) > 18 then ((analemmalaw02_shown.f k2).bind fun t131 => (some t131)) else (if 0 ≤ (Int.tmod (wrap64 (a1)) 60) then (if (wrap64 ((a0 / 1048576) - t126)) < (shl .i64 1 (Int.tmod (wrap64 (a1)) 60)) then ((analemmalaw02_shown.f k2).bind fun t132 => (some t132)) else (some false)) else (none))) else (some false)) else (some false)) = some r := H
                have A16 := Aside0.mk A160
                clear A160
                by_cases c17 : x8_1 = t130
                · rw [if_pos c17] at H
                  have c17b0 : (x8_1 == t130) = true := beq_iff_eq.mpr c17
                  have c17b1 : (x8_1 != t130) = false := bne_eq_false_iff_eq.mpr c17
                  clear c17
                  by_cases c18 : t128 = x11_2
                  · rw [if_pos c18] at H
                    have c18b0 : (t128 == x11_2) = true := beq_iff_eq.mpr c18
                    have c18b1 : (t128 != x11_2) = false := bne_eq_false_iff_eq.mpr c18
                    clear c18
                    by_cases c19 : (Int.tmod (wrap64 (a1)) 60) > 18
                    · rw [if_pos c19] at H
                      have c19b0 : decide (18 < (Int.tmod (wrap64 (a1)) 60)) = true := decide_eq_true c19
                      clear c19
                      replace H := Option.bind_eq_some_iff.mp H
                      obtain ⟨t131, A200, H⟩ := H
                      replace H : (some t131) = some r := H
                      have A20 := Aside0.mk A200
                      clear A200
                      obtain rfl := Option.some.inj H
                      go_wp2_with (first | (go_at_call 15; (with_reducible refine (fix_Shift.calls (a0 / 1048576) (wrap64 (-(Int.tmod (wrap64 (a1)) 60))) t130 _ A16.out).mono ?_); rintro e w21 ⟨rfl, hb⟩; have n0_ := Aside0.mk (below_step (by repeat (first | (with_reducible first | exact HB.out | apply below_alloc | apply pw_below_drewN | apply below_drew1) | exact HB.out)) hb); clear HB; have HB := n0_; clear n0_; (try clear hb); (try clear hb2); (try clear hk); (try clear hi)) | (go_at_call 14; (with_reducible refine (analemmalaw02_shown.calls k2  t131 _ A20.out).mono ?_); rintro e w22 ⟨rfl, hb⟩; have n0_ := Aside0.mk (below_step (by repeat (first | (with_reducible first | exact HB.out | apply below_alloc | apply pw_below_drewN | apply below_drew1) | exact HB.out)) hb); clear HB; have HB := n0_; clear n0_; (try clear hb); (try clear hb2); (try clear hk); (try clear hi)))
                      go_ret
                      exact ⟨by first | rfl | (simp [errW_none, errW_some] <;> rfl) | (simp [*, errW_none, errW_some] <;> rfl), by repeat (first | (with_reducible first | exact HB.out | apply below_alloc | apply pw_below_drewN | apply below_drew1) | exact HB.out)⟩
                    · rw [if_neg c19] at H
                      have c19b0 : decide (18 < (Int.tmod (wrap64 (a1)) 60)) = false := decide_eq_false c19
                      clear c19
                      obtain ⟨ji23, hji23⟩ : ∃ j_ : Int, (Int.tmod (wrap64 (a1)) 60) = j_ := ⟨_, rfl⟩
                      replace H : (if 0 ≤ (ji23) then (if (wrap64 ((a0 / 1048576) - t126)) < (shl .i64 1 (ji23)) then ((analemmalaw02_shown.f k2).bind fun t132 => (some t132)) else (some false)) else (none)) = some r := by first | (rw [hji23] at H; exact H) | (simp only [hji23] at H ⊢; exact H)
                      (try rw [hji23] at c7b0)
                      (try rw [hji23] at c12b0)
                      (try rw [hji23] at c19b0)
                      (try rw [hji23] at A16)
                      by_cases c24 : 0 ≤ (ji23)
                      · rw [if_pos c24] at H
                        have c24b0 := eq_true c24
                        have c24b1 : decide (0 ≤ (ji23)) = true := decide_eq_true c24
                        clear c24
                        obtain ⟨ji25, hji25⟩ : ∃ j_ : Int, (shl .i64 1 (ji23)) = j_ := ⟨_, rfl⟩
                        replace H : (if (wrap64 ((a0 / 1048576) - t126)) < (ji25) then ((analemmalaw02_shown.f k2).bind fun t132 => (some t132)) else (some false)) = some r := by first | (rw [hji25] at H; exact H) | (simp only [hji25] at H ⊢; exact H)
                        (try rw [hji25] at A16)
                        have hji25_ : (IntKind.i64.wrap (1 * 2 ^ min (ji23).toNat 64)) = ji25 := hji25
                        have hji25z : (ji23) ≤ 64 → (IntKind.i64.wrap (1 * 2 ^ (ji23).toNat)) = ji25 := shl_small hji25
                        have hji25u : (IntKind.i64.wrap (2 ^ min (ji23).toNat 64)) = ji25 := by have h_ := hji25_; rw [Int.one_mul] at h_; exact h_
                        have hji25v : (ji23) ≤ 64 → (IntKind.i64.wrap (2 ^ (ji23).toNat)) = ji25 := fun hle_ => by have h_ := hji25z hle_; rw [Int.one_mul] at h_; exact h_
                        have hji25y : (wrap64 (1 * 2 ^ min (ji23).toNat 64)) = ji25 := (i64_w _).symm.trans hji25_
                        have hji25x : (ji23) ≤ 64 → (wrap64 (1 * 2 ^ (ji23).toNat)) = ji25 := fun h_ => (i64_w _).symm.trans (hji25z h_)
                        by_cases c26 : (wrap64 ((a0 / 1048576) - t126)) < (ji25)
                        · rw [if_pos c26] at H
                          have c26b0 : decide ((wrap64 ((a0 / 1048576) - t126)) < (ji25)) = true := decide_eq_true c26
                          clear c26
                          replace H := Option.bind_eq_some_iff.mp H
                          obtain ⟨t132, A270, H⟩ := H
                          replace H : (some t132) = some r := H
                          have A27 := Aside0.mk A270
                          clear A270
                          obtain rfl := Option.some.inj H
                          go_wp2_with (first | (go_at_call 15; (with_reducible refine (fix_Shift.calls (a0 / 1048576) (wrap64 (-(ji23))) t130 _ A16.out).mono ?_); rintro e w28 ⟨rfl, hb⟩; have n0_ := Aside0.mk (below_step (by repeat (first | (with_reducible first | exact HB.out | apply below_alloc | apply pw_below_drewN | apply below_drew1) | exact HB.out)) hb); clear HB; have HB := n0_; clear n0_; (try clear hb); (try clear hb2); (try clear hk); (try clear hi)) | (go_at_call 14; (with_reducible refine (analemmalaw02_shown.calls k2  t132 _ A27.out).mono ?_); rintro e w29 ⟨rfl, hb⟩; have n0_ := Aside0.mk (below_step (by repeat (first | (with_reducible first | exact HB.out | apply below_alloc | apply pw_below_drewN | apply below_drew1) | exact HB.out)) hb); clear HB; have HB := n0_; clear n0_; (try clear hb); (try clear hb2); (try clear hk); (try clear hi)))
                          go_ret
                          exact ⟨by first | rfl | (simp [errW_none, errW_some] <;> rfl) | (simp only [← hji23, ← hji25]; first | rfl | (simp [errW_none, errW_some] <;> rfl)) | (simp [*, errW_none, errW_some] <;> rfl), by repeat (first | (with_reducible first | exact HB.out | apply below_alloc | apply pw_below_drewN | apply below_drew1) | exact HB.out)⟩
                        · rw [if_neg c26] at H
                          have c26b0 : decide ((wrap64 ((a0 / 1048576) - t126)) < (ji25)) = false := decide_eq_false c26
                          clear c26
                          obtain rfl := Option.some.inj H
                          go_wp2_with (first | (go_at_call 15; (with_reducible refine (fix_Shift.calls (a0 / 1048576) (wrap64 (-(ji23))) t130 _ A16.out).mono ?_); rintro e w30 ⟨rfl, hb⟩; have n0_ := Aside0.mk (below_step (by repeat (first | (with_reducible first | exact HB.out | apply below_alloc | apply pw_below_drewN | apply below_drew1) | exact HB.out)) hb); clear HB; have HB := n0_; clear n0_; (try clear hb); (try clear hb2); (try clear hk); (try clear hi)))
                          go_ret
                          exact ⟨by first | rfl | (simp [errW_none, errW_some] <;> rfl) | (simp only [← hji23, ← hji25]; first | rfl | (simp [errW_none, errW_some] <;> rfl)) | (simp [*, errW_none, errW_some] <;> rfl), by repeat (first | (with_reducible first | exact HB.out | apply below_alloc | apply pw_below_drewN | apply below_drew1) | exact HB.out)⟩
                      · rw [if_neg c24] at H
                        exact absurd H (by simp)
                  · rw [if_neg c18] at H
                    have c18b0 : (t128 == x11_2) = false := beq_eq_false_iff_ne.mpr c18
                    have c18b1 : (t128 != x11_2) = true := bne_iff_ne.mpr c18
                    obtain rfl := Option.some.inj H
                    go_wp2_with (first | (go_at_call 15; (with_reducible refine (fix_Shift.calls (a0 / 1048576) (wrap64 (-(Int.tmod (wrap64 (a1)) 60))) t130 _ A16.out).mono ?_); rintro e w31 ⟨rfl, hb⟩; have n0_ := Aside0.mk (below_step (by repeat (first | (with_reducible first | exact HB.out | apply below_alloc | apply pw_below_drewN | apply below_drew1) | exact HB.out)) hb); clear HB; have HB := n0_; clear n0_; (try clear hb); (try clear hb2); (try clear hk); (try clear hi)))
                    go_ret
                    exact ⟨by first | rfl | (simp [errW_none, errW_some] <;> rfl) | (simp [*, errW_none, errW_some] <;> rfl), by repeat (first | (with_reducible first | exact HB.out | apply below_alloc | apply pw_below_drewN | apply below_drew1) | exact HB.out)⟩
                · rw [if_neg c17] at H
                  have c17b0 : (x8_1 == t130) = false := beq_eq_false_iff_ne.mpr c17
                  have c17b1 : (x8_1 != t130) = true := bne_iff_ne.mpr c17
                  obtain rfl := Option.some.inj H
                  go_wp2_with (first | (go_at_call 15; (with_reducible refine (fix_Shift.calls (a0 / 1048576) (wrap64 (-(Int.tmod (wrap64 (a1)) 60))) t130 _ A16.out).mono ?_); rintro e w32 ⟨rfl, hb⟩; have n0_ := Aside0.mk (below_step (by repeat (first | (with_reducible first | exact HB.out | apply below_alloc | apply pw_below_drewN | apply below_drew1) | exact HB.out)) hb); clear HB; have HB := n0_; clear n0_; (try clear hb); (try clear hb2); (try clear hk); (try clear hi)))
                  go_ret
                  exact ⟨by first | rfl | (simp [errW_none, errW_some] <;> rfl) | (simp [*, errW_none, errW_some] <;> rfl), by repeat (first | (with_reducible first | exact HB.out | apply below_alloc | apply pw_below_drewN | apply below_drew1) | exact HB.out)⟩
              · rw [if_neg c15] at H
                have c15b0 : decide (t126 ≤ (a0 / 1048576)) = false := decide_eq_false c15
                clear c15
                obtain rfl := Option.some.inj H
                go_wp2
                go_ret
                exact ⟨by first | rfl | (simp [errW_none, errW_some] <;> rfl) | (simp [*, errW_none, errW_some] <;> rfl), by repeat (first | (with_reducible first | exact HB.out | apply below_alloc | apply pw_below_drewN | apply below_drew1) | exact HB.out)⟩

/-- THE ONE PURE STATEMENT of analemmalaw02_FixShifts: yours. -/
def analemmalaw02_FixShifts.Pure : Prop := ∀ (a0 : Int) (a1 : Int), (Lit.int .i64 a0).wf = true → (Lit.int .u8 a1).wf = true → ∃ k, analemmalaw02_FixShifts.f k a0 a1 = some true
theorem analemmalaw02_FixShifts.walk (P : analemmalaw02_FixShifts.Pure) (a0 : Int) (a1 : Int) (w : World) (w0 : (Lit.int .i64 a0).wf = true) (w1 : (Lit.int .u8 a1).wf = true) :
    Calls Try.prog 4 #[.int .i64 a0, .int .u8 a1] w fun e w' => e = .returned (.bool true) ∧ Below w.heap.size w w' := by
  obtain ⟨k, h⟩ := P a0 a1 w0 w1
  refine (analemmalaw02_FixShifts.calls k a0 a1 true w h).mono ?_
  rintro e w' ⟨rfl, hd⟩
  exact ⟨rfl, hd⟩

end Go.Proofs.Ytomjongnjfodmaa.MFix
