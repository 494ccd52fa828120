/- Functions that the statements of this seat reach, each as a plain Lean function, with a proof that the Go code comes to its answers; no condition. -/
import Derived.Test.YtomjongnjfodmaaMFixRx0
import Derived.Test.YtomjongnjfodmaaMFixRx1
namespace Go.Proofs.Ytomjongnjfodmaa.MFixR
open Go.RowKit Go.Proofs.YtomjongnjfodmaaW.PrintWords Go.Proofs.YtomjongnjfodmaaW.PrintLast Go.Proofs.YtomjongnjfodmaaW.PrintMore
attribute [local go_sem] max2_int min2_int max_two min_two max_three min_three max_four min_four   -- for this text's walks alone
set_option linter.unusedVariables false
set_option linter.unusedSimpArgs false

/-! ### fix_Add: function 18 -/
def fix_Add.j0 : Nat → Int → Int → Int → Bool → Option (Int)
  | 0, _, _, _, _ => none
  | k + 1, x0, x1, x5, x9 => if x9 = true then (some 9223372036854775807) else (if x0 < 0 then (if x1 < 0 then (if x5 ≥ 0 then (some (-9223372036854775807)) else (some (mx x5 (-9223372036854775807)))) else (some (mx x5 (-9223372036854775807)))) else (some (mx x5 (-9223372036854775807))))
def fix_Add.f (k : Nat) (a0 : Int) (a1 : Int) : Option (Int) := if a0 > 0 then (if a1 > 0 then (fix_Add.j0 k a0 a1 (wrap64 (a0 + a1)) (decide ((wrap64 (a0 + a1)) < 0))) else (fix_Add.j0 k a0 a1 (wrap64 (a0 + a1)) false)) else (fix_Add.j0 k a0 a1 (wrap64 (a0 + a1)) false)
theorem fix_Add.mono_l : ∀ k, (∀ y0 y1 y2 y3, LeO (fix_Add.j0 k y0 y1 y2 y3) (fix_Add.j0 (k + 1) y0 y1 y2 y3))
  | 0 => fun _ _ _ _ r h => by simp [fix_Add.j0] at h
  | k + 1 => by
    have ih0 := fix_Add.mono_l k
    · intro y0 y1 y2 y3
      unfold fix_Add.j0
      repeat' first
      | (with_reducible exact ih0 _ _ _ _)
      | (with_reducible exact LeO.refl _)
      | (with_reducible exact LeO.none _)
      | (with_reducible refine LeO.ite ?_ ?_)
      | (with_reducible refine LeO.bind ?_ (fun _ => ?_))
      | exact ih0 _ _ _ _
      | exact LeO.none _
      | refine LeO.ite ?_ ?_
      | refine LeO.bind ?_ (fun _ => ?_)
theorem fix_Add.mono : ∀ a0 a1 k, LeO (fix_Add.f k a0 a1) (fix_Add.f (k + 1) a0 a1) := by
  intro a0 a1 k
  have ih0 := fix_Add.mono_l k
  unfold fix_Add.f
  repeat' first
      | (with_reducible exact ih0 _ _ _ _)
      | (with_reducible exact LeO.refl _)
      | (with_reducible exact LeO.none _)
      | (with_reducible refine LeO.ite ?_ ?_)
      | (with_reducible refine LeO.bind ?_ (fun _ => ?_))
      | exact ih0 _ _ _ _
      | exact LeO.none _
      | refine LeO.ite ?_ ?_
      | refine LeO.bind ?_ (fun _ => ?_)
set_option maxHeartbeats 8000000 in
set_option maxRecDepth 100000 in
theorem fix_Add.calls (k : Nat) (a0 : Int) (a1 : Int) (r : Int) (w : World) (h : fix_Add.f k a0 a1 = some r) :
    Calls Try.prog 18 #[.int .i64 a0, .int .i64 a1] w fun e w' => e = .returned (.int .i64 r) ∧ Below w.heap.size w w' := by
  have HB := Aside0.mk (Below.refl w.heap.size w)
  have H : (if a0 > 0 then (if a1 > 0 then (fix_Add.j0 k a0 a1 (wrap64 (a0 + a1)) (decide ((wrap64 (a0 + a1)) < 0))) else (fix_Add.j0 k a0 a1 (wrap64 (a0 + a1)) false)) else (fix_Add.j0 k a0 a1 (wrap64 (a0 + a1)) false)) = some r := h
  clear h
  have HC3 := Aside0.mk H
  clear H
  go_enter Try.func18, Try.ntmps18
  go_upto_region 2 with (fail)
  go_cut [9] (fun v9 wc => ∃ (kq : Nat) (x9_2 : Bool), v9 = .bool x9_2 ∧ Aside0 (fix_Add.j0 kq a0 a1 (wrap64 (a0 + a1)) x9_2 = some r) ∧ Aside0 (kq ≤ k) ∧ Aside0 (Below w.heap.size w wc))
  case first =>
    have H := HC3.out
    clear HC3
    by_cases c4 : a0 > 0
    · rw [if_pos c4] at H
      have c4b0 : decide (0 < a0) = true := decide_eq_true c4
      clear c4
      (first | rw [c4b0] | (simp only [i64_w, i32_w]; rw [c4b0]) | skip)
      by_cases c5 : a1 > 0
      · rw [if_pos c5] at H
        have c5b0 : decide (0 < a1) = true := decide_eq_true c5
        clear c5
        have H' := Aside0.mk H
        clear H
        go_wp2
        go_meet
        case rel => exact ⟨_, (decide ((wrap64 (a0 + a1)) < 0)), (by first | rfl | (simp; done) | (simp [*]; done)), H', ⟨by first | omega | exact Nat.le_refl _⟩, ⟨by repeat (first | (with_reducible first | exact HB.out | apply below_alloc | apply pw_below_drewN | apply below_drew1) | exact HB.out)⟩⟩
      · rw [if_neg c5] at H
        have c5b0 : decide (0 < a1) = false := decide_eq_false c5
        clear c5
        have H' := Aside0.mk H
        clear H
        go_wp2
        go_meet
        case rel => exact ⟨_, (false), (by first | rfl | (simp; done) | (simp [*]; done)), H', ⟨by first | omega | exact Nat.le_refl _⟩, ⟨by repeat (first | (with_reducible first | exact HB.out | apply below_alloc | apply pw_below_drewN | apply below_drew1) | exact HB.out)⟩⟩
    · rw [if_neg c4] at H
      have c4b0 : decide (0 < a0) = false := decide_eq_false c4
      clear c4
      (first | rw [c4b0] | (simp only [i64_w, i32_w]; rw [c4b0]) | skip)
      have H' := Aside0.mk H
      clear H
      go_wp2
      go_meet
      case rel => exact ⟨_, (false), (by first | rfl | (simp; done) | (simp [*]; done)), H', ⟨by first | omega | exact Nat.le_refl _⟩, ⟨by repeat (first | (with_reducible first | exact HB.out | apply below_alloc | apply pw_below_drewN | apply below_drew1) | exact HB.out)⟩⟩
  case rest =>
    clear HC3
    try clear c1
    try clear p2
    try clear c4
    try clear c4b0
    try clear c5
    try clear c5b0
    obtain ⟨kq, x9_2, rfl, HA, HJ2, HB⟩ := hcut
    cases kq with
    | zero => exact absurd HA.out (by simp [fix_Add.j0])
    | succ kj2 =>
      have H := HA.out
      clear HA
      simp only [fix_Add.j0] at H
      by_cases c6 : x9_2 = true
      · subst c6
        have H1 : (some 9223372036854775807) = some r := by rw [if_pos rfl] at H; exact H
        clear H
        have H := H1
        clear H1
        obtain rfl := Option.some.inj H
        go_wp2
        go_ret
        exact ⟨by first | rfl | (simp [errW_none, errW_some] <;> rfl) | (simp [*, errW_none, errW_some] <;> rfl), by repeat (first | (with_reducible first | exact HB.out | apply below_alloc | apply pw_below_drewN | apply below_drew1) | exact HB.out)⟩
      · replace c6 := Bool.eq_false_iff.mpr c6
        subst c6
        have H1 : (if a0 < 0 then (if a1 < 0 then (if (wrap64 (a0 + a1)) ≥ 0 then (some (-9223372036854775807)) else (some (mx (wrap64 (a0 + a1)) (-9223372036854775807)))) else (some (mx (wrap64 (a0 + a1)) (-9223372036854775807)))) else (some (mx (wrap64 (a0 + a1)) (-9223372036854775807)))) = some r := by rw [if_neg (show ¬ (false = true) by decide)] at H; exact H
        clear H
        have H := H1
        clear H1
        by_cases c7 : a0 < 0
        · rw [if_pos c7] at H
          have c7b0 : decide (a0 < 0) = true := decide_eq_true c7
          clear c7
          by_cases c8 : a1 < 0
          · rw [if_pos c8] at H
            have c8b0 : decide (a1 < 0) = true := decide_eq_true c8
            clear c8
            by_cases c9 : (wrap64 (a0 + a1)) ≥ 0
            · rw [if_pos c9] at H
              have c9b0 : decide (0 ≤ (wrap64 (a0 + a1))) = true := decide_eq_true c9
              clear c9
              obtain rfl := Option.some.inj H
              go_wp2
              go_ret
              exact ⟨by first | rfl | (simp [errW_none, errW_some] <;> rfl) | (simp [*, errW_none, errW_some] <;> rfl), by repeat (first | (with_reducible first | exact HB.out | apply below_alloc | apply pw_below_drewN | apply below_drew1) | exact HB.out)⟩
            · rw [if_neg c9] at H
              have c9b0 : decide (0 ≤ (wrap64 (a0 + a1))) = false := decide_eq_false c9
              clear c9
              obtain ⟨ji10, hji10⟩ : ∃ j_ : Int, (mx (wrap64 (a0 + a1)) (-9223372036854775807)) = j_ := ⟨_, rfl⟩
              replace H : (some ji10) = some r := by first | (rw [hji10] at H; exact H) | (simp only [hji10] at H ⊢; exact H)
              have hji10_ : (if (wrap64 (a0 + a1)) < (-9223372036854775807) then (-9223372036854775807) else (wrap64 (a0 + a1))) = ji10 := hji10
              obtain rfl := Option.some.inj H
              go_wp2
              go_ret
              exact ⟨by first | rfl | (simp [errW_none, errW_some] <;> rfl) | (simp only [← hji10]; first | rfl | (simp [errW_none, errW_some] <;> rfl)) | (simp [*, errW_none, errW_some] <;> rfl), by repeat (first | (with_reducible first | exact HB.out | apply below_alloc | apply pw_below_drewN | apply below_drew1) | exact HB.out)⟩
          · rw [if_neg c8] at H
            have c8b0 : decide (a1 < 0) = false := decide_eq_false c8
            clear c8
            obtain ⟨ji11, hji11⟩ : ∃ j_ : Int, (mx (wrap64 (a0 + a1)) (-9223372036854775807)) = j_ := ⟨_, rfl⟩
            replace H : (some ji11) = some r := by first | (rw [hji11] at H; exact H) | (simp only [hji11] at H ⊢; exact H)
            have hji11_ : (if (wrap64 (a0 + a1)) < (-9223372036854775807) then (-9223372036854775807) else (wrap64 (a0 + a1))) = ji11 := hji11
            obtain rfl := Option.some.inj H
            go_wp2
            go_ret
            exact ⟨by first | rfl | (simp [errW_none, errW_some] <;> rfl) | (simp only [← hji11]; first | rfl | (simp [errW_none, errW_some] <;> rfl)) | (simp [*, errW_none, errW_some] <;> rfl), by repeat (first | (with_reducible first | exact HB.out | apply below_alloc | apply pw_below_drewN | apply below_drew1) | exact HB.out)⟩
        · rw [if_neg c7] at H
          have c7b0 : decide (a0 < 0) = false := decide_eq_false c7
          clear c7
          obtain ⟨ji12, hji12⟩ : ∃ j_ : Int, (mx (wrap64 (a0 + a1)) (-9223372036854775807)) = j_ := ⟨_, rfl⟩
          replace H : (some ji12) = some r := by first | (rw [hji12] at H; exact H) | (simp only [hji12] at H ⊢; exact H)
          have hji12_ : (if (wrap64 (a0 + a1)) < (-9223372036854775807) then (-9223372036854775807) else (wrap64 (a0 + a1))) = ji12 := hji12
          obtain rfl := Option.some.inj H
          go_wp2
          go_ret
          exact ⟨by first | rfl | (simp [errW_none, errW_some] <;> rfl) | (simp only [← hji12]; first | rfl | (simp [errW_none, errW_some] <;> rfl)) | (simp [*, errW_none, errW_some] <;> rfl), by repeat (first | (with_reducible first | exact HB.out | apply below_alloc | apply pw_below_drewN | apply below_drew1) | exact HB.out)⟩

/-! ### analemmalaw02_shown: function 14 -/
def analemmalaw02_shown.f (k : Nat)  : Option (Bool) := (fix_Mul.f 2147483648 2147483648).bind fun t114 => (if t114 = 1073741824 then ((fix_Add.f k 1 2).bind fun t115 => (if t115 = 3 then ((fix_Sqrt.f k 17179869184).bind fun t116 => (some (t116 == 8589934592))) else (some false))) else (some false))
theorem analemmalaw02_shown.mono : ∀ k, LeO (analemmalaw02_shown.f k ) (analemmalaw02_shown.f (k + 1) ) := by
  intro  k
  unfold analemmalaw02_shown.f
  repeat' first
      | (with_reducible exact fix_Add.mono _ _ _)
      | (with_reducible exact fix_Sqrt.mono _ _)
      | (with_reducible exact LeO.refl _)
      | (with_reducible exact LeO.none _)
      | (with_reducible refine LeO.ite ?_ ?_)
      | (with_reducible refine LeO.bind ?_ (fun _ => ?_))
      | exact fix_Add.mono _ _ _
      | exact fix_Sqrt.mono _ _
      | exact LeO.none _
      | refine LeO.ite ?_ ?_
      | refine LeO.bind ?_ (fun _ => ?_)
set_option maxHeartbeats 8000000 in
set_option maxRecDepth 100000 in
theorem analemmalaw02_shown.calls (k : Nat)  (r : Bool) (w : World) (h : analemmalaw02_shown.f k  = some r) :
    Calls Try.prog 14 #[] w fun e w' => e = .returned (.bool r) ∧ Below w.heap.size w w' := by
  have HB := Aside0.mk (Below.refl w.heap.size w)
  have H : ((fix_Mul.f 2147483648 2147483648).bind fun t114 => (if t114 = 1073741824 then ((fix_Add.f k 1 2).bind fun t115 => (if t115 = 3 then ((fix_Sqrt.f k 17179869184).bind fun t116 => (some (t116 == 8589934592))) else (some false))) else (some false))) = some r := h
  clear h
  replace H := Option.bind_eq_some_iff.mp H
  obtain ⟨t114, A10, H⟩ := H
  replace H : (if t114 = 1073741824 then ((fix_Add.f k 1 2).bind fun t115 => (if t115 = 3 then ((fix_Sqrt.f k 17179869184).bind fun t116 => (some (t116 == 8589934592))) else (some false))) else (some false)) = some r := H
  have A1 := Aside0.mk A10
  clear A10
  by_cases c2 : t114 = 1073741824
  · rw [if_pos c2] at H
    have c2b0 : (t114 == 1073741824) = true := beq_iff_eq.mpr c2
    have c2b1 : (t114 != 1073741824) = false := bne_eq_false_iff_eq.mpr c2
    clear c2
    replace H := Option.bind_eq_some_iff.mp H
    obtain ⟨t115, A30, H⟩ := H
    replace H : (if t115 = 3 then ((fix_Sqrt.f k 17179869184).bind fun t116 => (some (t116 == 8589934592))) else (some false)) = some r := H
    have A3 := Aside0.mk A30
    clear A30
    by_cases c4 : t115 = 3
    · rw [if_pos c4] at H
      have c4b0 : (t115 == 3) = true := beq_iff_eq.mpr c4
      have c4b1 : (t115 != 3) = false := bne_eq_false_iff_eq.mpr c4
      clear c4
      replace H := Option.bind_eq_some_iff.mp H
      obtain ⟨t116, A50, H⟩ := H
      replace H : (some (t116 == 8589934592)) = some r := H
      have A5 := Aside0.mk A50
      clear A50
      obtain rfl := Option.some.inj H
      go_enter Try.func14, Try.ntmps14
      go_wp2_with (first | ((with_reducible refine gate_callee (f := 13) rfl ?_); refine goesL_ (some 1) rfl rfl Try.func13 (by kernel_rfl) rfl #[.int .i64 2147483648, .int .i64 2147483648] rfl (by (try simp only [List.map_toArray, List.map_cons, List.map_nil]); first | done | rfl | (simp only [List.length_drop, List.length_take]; rfl)) ?_; (with_reducible refine (fix_Mul.calls 2147483648 2147483648 t114 _ A1.out).mono ?_); rintro e w6 ⟨rfl, hb⟩; refine ⟨_, rfl, ?_⟩; have n0_ := Aside0.mk (below_step (by repeat (first | (with_reducible first | exact HB.out | apply below_alloc | apply pw_below_drewN | apply below_drew1) | exact HB.out)) hb); clear HB; have HB := n0_; clear n0_; (try clear hb); (try clear hb2); (try clear hk); (try clear hi)) | (go_at_call 18; (with_reducible refine (fix_Add.calls k 1 2 t115 _ A3.out).mono ?_); rintro e w7 ⟨rfl, hb⟩; have n0_ := Aside0.mk (below_step (by repeat (first | (with_reducible first | exact HB.out | apply below_alloc | apply pw_below_drewN | apply below_drew1) | exact HB.out)) hb); clear HB; have HB := n0_; clear n0_; (try clear hb); (try clear hb2); (try clear hk); (try clear hi)) | (go_at_call 12; (with_reducible refine (fix_Sqrt.calls k 17179869184 t116 _ A5.out).mono ?_); rintro e w8 ⟨rfl, hb⟩; have n0_ := Aside0.mk (below_step (by repeat (first | (with_reducible first | exact HB.out | apply below_alloc | apply pw_below_drewN | apply below_drew1) | exact HB.out)) hb); clear HB; have HB := n0_; clear n0_; (try clear hb); (try clear hb2); (try clear hk); (try clear hi)))
      go_ret
      exact ⟨by first | rfl | (simp [errW_none, errW_some] <;> rfl) | (simp [*, errW_none, errW_some] <;> rfl), by repeat (first | (with_reducible first | exact HB.out | apply below_alloc | apply pw_below_drewN | apply below_drew1) | exact HB.out)⟩
    · rw [if_neg c4] at H
      have c4b0 : (t115 == 3) = false := beq_eq_false_iff_ne.mpr c4
      have c4b1 : (t115 != 3) = true := bne_iff_ne.mpr c4
      obtain rfl := Option.some.inj H
      go_enter Try.func14, Try.ntmps14
      go_wp2_with (first | ((with_reducible refine gate_callee (f := 13) rfl ?_); refine goesL_ (some 1) rfl rfl Try.func13 (by kernel_rfl) rfl #[.int .i64 2147483648, .int .i64 2147483648] rfl (by (try simp only [List.map_toArray, List.map_cons, List.map_nil]); first | done | rfl | (simp only [List.length_drop, List.length_take]; rfl)) ?_; (with_reducible refine (fix_Mul.calls 2147483648 2147483648 t114 _ A1.out).mono ?_); rintro e w9 ⟨rfl, hb⟩; refine ⟨_, rfl, ?_⟩; have n0_ := Aside0.mk (below_step (by repeat (first | (with_reducible first | exact HB.out | apply below_alloc | apply pw_below_drewN | apply below_drew1) | exact HB.out)) hb); clear HB; have HB := n0_; clear n0_; (try clear hb); (try clear hb2); (try clear hk); (try clear hi)) | (go_at_call 18; (with_reducible refine (fix_Add.calls k 1 2 t115 _ A3.out).mono ?_); rintro e w10 ⟨rfl, hb⟩; have n0_ := Aside0.mk (below_step (by repeat (first | (with_reducible first | exact HB.out | apply below_alloc | apply pw_below_drewN | apply below_drew1) | exact HB.out)) hb); clear HB; have HB := n0_; clear n0_; (try clear hb); (try clear hb2); (try clear hk); (try clear hi)))
      go_ret
      exact ⟨by first | rfl | (simp [errW_none, errW_some] <;> rfl) | (simp [*, errW_none, errW_some] <;> rfl), by repeat (first | (with_reducible first | exact HB.out | apply below_alloc | apply pw_below_drewN | apply below_drew1) | exact HB.out)⟩
  · rw [if_neg c2] at H
    have c2b0 : (t114 == 1073741824) = false := beq_eq_false_iff_ne.mpr c2
    have c2b1 : (t114 != 1073741824) = true := bne_iff_ne.mpr c2
    obtain rfl := Option.some.inj H
    go_enter Try.func14, Try.ntmps14
    go_wp2_with (first | ((with_reducible refine gate_callee (f := 13) rfl ?_); refine goesL_ (some 1) rfl rfl Try.func13 (by kernel_rfl) rfl #[.int .i64 2147483648, .int .i64 2147483648] rfl (by (try simp only [List.map_toArray, List.map_cons, List.map_nil]); first | done | rfl | (simp only [List.length_drop, List.length_take]; rfl)) ?_; (with_reducible refine (fix_Mul.calls 2147483648 2147483648 t114 _ A1.out).mono ?_); rintro e w11 ⟨rfl, hb⟩; refine ⟨_, rfl, ?_⟩; have n0_ := Aside0.mk (below_step (by repeat (first | (with_reducible first | exact HB.out | apply below_alloc | apply pw_below_drewN | apply below_drew1) | exact HB.out)) hb); clear HB; have HB := n0_; clear n0_; (try clear hb); (try clear hb2); (try clear hk); (try clear hi)))
    go_ret
    exact ⟨by first | rfl | (simp [errW_none, errW_some] <;> rfl) | (simp [*, errW_none, errW_some] <;> rfl), by repeat (first | (with_reducible first | exact HB.out | apply below_alloc | apply pw_below_drewN | apply below_drew1) | exact HB.out)⟩

/-! ### wide_Log: function 41 -/
def wide_Log.v (n : Int) : Int := if n ≤ 0 then -1 else (Nat.log2 n.toNat : Int)
def wide_Log.f (a0 : Int) : Option (Int) := if 0 ≤ a0 ∧ a0 ≤ 18446744073709551615 then some (wide_Log.v a0) else none
def wide_Log.Reach (n : Int) (j : Nat) : Prop := ∀ i, i < j → (2 : Int) ^ i ≤ n
theorem wide_Log.at_ (n : Int) (j : Nat) (h : wide_Log.Reach n j) (hn : n < 2 ^ j) : wide_Log.v n = (j : Int) - 1 := by
  unfold wide_Log.v
  cases j with
  | zero =>
    rw [if_pos]
    · rfl
    · have : (2 : Int) ^ 0 = 1 := rfl
      omega
  | succ m =>
    have h1 := h m (by omega)
    have hp : (0 : Int) < 2 ^ m := Int.pow_pos (by decide)
    rw [if_neg (by omega)]
    have e : Nat.log2 n.toNat = m := by
      have h2 : (2 : Int) ^ m = ((2 ^ m : Nat) : Int) := by simp
      have h3 : (2 : Int) ^ (m + 1) = ((2 ^ (m + 1) : Nat) : Int) := by simp
      rw [h2] at h1
      rw [h3] at hn
      rw [Nat.log2_eq_iff (by omega)]
      omega
    rw [e]
    omega
theorem wide_Log.more (n : Int) (j : Nat) (h : wide_Log.Reach n j) (hn : (n / 2 ^ j == 0) = false) (h0 : 0 ≤ n) : wide_Log.Reach n (j + 1) := by
  intro i hi
  by_cases e : i = j
  · subst e
    have hp : (0 : Int) < 2 ^ i := Int.pow_pos (by decide)
    rw [beq_eq_false_iff_ne] at hn
    by_cases c : n < 2 ^ i
    · exact absurd (Int.ediv_eq_zero_of_lt h0 c) hn
    · exact Int.not_lt.mp c
  · exact h i (by omega)
theorem wide_Log.less (n : Int) (j : Nat) (hn : (n / 2 ^ j == 0) = true) (h0 : 0 ≤ n) : n < 2 ^ j := by
  have hp : (0 : Int) < 2 ^ j := Int.pow_pos (by decide)
  rw [beq_iff_eq] at hn
  by_cases c : n < 2 ^ j
  · exact c
  · have hd := Int.ediv_mul_le n (b := 2 ^ j) (by omega)
    have hm := Int.emod_lt_of_pos n hp
    have he := Int.mul_ediv_add_emod n (2 ^ j)
    rw [hn] at he
    omega
set_option maxHeartbeats 8000000 in
set_option maxRecDepth 100000 in
theorem wide_Log.calls (a0 : Int) (r : Int) (w : World) (h : wide_Log.f a0 = some r) :
    Calls Try.prog 41 #[.int .u64 a0] w fun e w' => e = .returned (.int .i64 r) ∧ Drawn0 w w' := by
  have H : 0 ≤ a0 ∧ a0 ≤ 18446744073709551615 ∧ wide_Log.v a0 = r := by
    unfold wide_Log.f at h
    split at h
    · rename_i c
      exact ⟨c.1, c.2, Option.some.inj h⟩
    · cases h
  have HA := Aside0.mk H
  clear h H
  go_enter Try.func41, Try.ntmps41
  go_wp2
  go_step3
  go_wp2
  go_step3
  go_wp2
  go_loopg [3, 5] 64 (fun g at' i wr => ∃ j : Nat, j ≤ 64 ∧ g = 64 - j ∧ i = .int .i64 j ∧ at' = .int .i64 ((j : Int) - 1) ∧ wide_Log.Reach a0 j ∧ wr = w)
  case atStart => exact ⟨0, by omega, by omega, rfl, rfl, fun i hi => absurd hi (by omega), rfl⟩
  case round =>
    obtain ⟨j, hj, hg, rfl, rfl, hr, rfl⟩ := hrel
    have HR := Aside0.mk hr
    have HG := Aside0.mk hg
    clear hr hg
    by_cases hlt : j < 64
    · go_wp2
      · have hz : (a0 / 2 ^ j == 0) = true := by assumption
        rw [Exit.noGoto_ret]
        go_ret
        exact ⟨by rw [← HA.out.2.2, wide_Log.at_ a0 j HR.out (wide_Log.less a0 j hz HA.out.1)]; rfl, Drawn0.refl _⟩
      · have hz : (a0 / 2 ^ j == 0) = false := by assumption
        have hg := HG.out
        go_roundg (63 - j)
        case measure => omega
        case rel => exact ⟨j + 1, by omega, by omega, by first | rfl | go_num, by first | rfl | go_num, wide_Log.more a0 j HR.out hz HA.out.1, rfl⟩
    · obtain rfl : j = 64 := by omega
      go_wp2
      rw [Exit.noGoto_ret]
      go_ret
      exact ⟨by rw [← HA.out.2.2, wide_Log.at_ a0 64 HR.out (by have := HA.out.2.1; omega)]; rfl, Drawn0.refl _⟩

/-! ### wide_Div: function 42 -/
def wide_Div.f (a0 : Int) (a1 : Int) (a2 : Int) : Option (Int × Int × Bool) :=
  if 0 ≤ a0 ∧ a0 ≤ 18446744073709551615 ∧ 0 ≤ a1 ∧ a1 ≤ 18446744073709551615 ∧ 0 ≤ a2 ∧ a2 ≤ 18446744073709551615 then
    (if a0 ≥ a2 then some (0, 0, false) else some ((a0 * 18446744073709551616 + a1) / a2, (a0 * 18446744073709551616 + a1) % a2, true)) else none
theorem wide_Div.pow_pos (n : Nat) : (0 : Int) < 2 ^ n := Int.pow_pos (by decide)
theorem wide_Div.by_ (a b q r : Int) (hb : 0 < b) (h : a = q * b + r) (h0 : 0 ≤ r) (h1 : r < b) : a / b = q ∧ a % b = r := by
  have e1 : a / b = q := by
    rw [h, Int.add_comm, Int.add_mul_ediv_right _ _ (by omega), Int.ediv_eq_zero_of_lt h0 h1]
    omega
  refine ⟨e1, ?_⟩
  have e2 := Int.mul_ediv_add_emod a b
  rw [e1, Int.mul_comm] at e2
  omega
/-- What a round of the inner loop goes by. -/
def wide_Div.Go_ (h nx d d0 d1 n r : Int) : Prop := n * d1 + r = h ∧ 0 ≤ r ∧ r ≤ 4294967295 ∧ (h * 4294967296 + nx) / d ≤ n ∧ n ≤ 4294967297
/-- What is known of a divisor and what is divided. -/
def wide_Div.Kn (h nx d d0 d1 : Int) : Prop := d = d1 * 4294967296 + d0 ∧ 0 ≤ d0 ∧ d0 ≤ 4294967295 ∧ 2147483648 ≤ d1 ∧ d1 ≤ 4294967295 ∧ 0 ≤ h ∧ h < d ∧ 0 ≤ nx ∧ nx ≤ 4294967295
theorem wide_Div.quot (h nx d d0 d1 : Int) (k : wide_Div.Kn h nx d d0 d1) : 0 ≤ (h * 4294967296 + nx) / d ∧ (h * 4294967296 + nx) / d ≤ 4294967295 := by
  unfold wide_Div.Kn at k
  refine ⟨Int.ediv_nonneg (by omega) (by omega), ?_⟩
  have : (h * 4294967296 + nx) / d < 4294967296 := Int.ediv_lt_of_lt_mul (by omega) (by omega)
  omega
theorem wide_Div.start (h nx d d0 d1 : Int) (k : wide_Div.Kn h nx d d0 d1) : wide_Div.Go_ h nx d d0 d1 (h / d1) (h - h / d1 * d1) := by
  have q := wide_Div.quot h nx d d0 d1 k
  unfold wide_Div.Kn at k
  have e := Int.mul_ediv_add_emod h d1
  have e2 : h / d1 * d1 = d1 * (h / d1) := Int.mul_comm _ _
  have m0 := Int.emod_nonneg h (b := d1) (by omega)
  have m1 := Int.emod_lt_of_pos h (b := d1) (by omega)
  refine ⟨by omega, by omega, by omega, ?_, ?_⟩
  · obtain ⟨Q, hQ⟩ : ∃ Q, (h * 4294967296 + nx) / d = Q := ⟨_, rfl⟩
    rw [hQ] at q ⊢
    have l : Q * d ≤ h * 4294967296 + nx := by
      rw [← hQ]
      exact Int.ediv_mul_le _ (by omega)
    have l2 : Q * d1 * 4294967296 ≤ Q * d := by
      rw [k.1, Int.mul_add, ← Int.mul_assoc]
      have := Int.mul_nonneg q.1 k.2.1
      omega
    have l3 : Q * d1 ≤ h := by omega
    exact Int.le_ediv_of_mul_le (by omega) l3
  · have : h / d1 < 4294967298 := Int.ediv_lt_of_lt_mul (by omega) (by omega)
    omega
theorem wide_Div.above (h nx d d0 d1 n r : Int) (k : wide_Div.Kn h nx d d0 d1) (g : wide_Div.Go_ h nx d d0 d1 n r) (c : n > 4294967295 ∨ n * d0 > r * 4294967296 + nx) : (h * 4294967296 + nx) / d ≤ n - 1 := by
  have q := wide_Div.quot h nx d d0 d1 k
  unfold wide_Div.Kn at k
  unfold wide_Div.Go_ at g
  rcases c with c | c
  · omega
  · have e : n * d = n * d1 * 4294967296 + n * d0 := by rw [k.1, Int.mul_add, ← Int.mul_assoc]
    have : (h * 4294967296 + nx) / d < n := Int.ediv_lt_of_lt_mul (by omega) (by omega)
    omega
theorem wide_Div.atq (h nx d d0 d1 n r : Int) (k : wide_Div.Kn h nx d d0 d1) (g : wide_Div.Go_ h nx d d0 d1 n r) (c : n * d0 ≤ r * 4294967296 + nx) : n = (h * 4294967296 + nx) / d := by
  unfold wide_Div.Kn at k
  unfold wide_Div.Go_ at g
  have e : n * d = n * d1 * 4294967296 + n * d0 := by rw [k.1, Int.mul_add, ← Int.mul_assoc]
  have : n ≤ (h * 4294967296 + nx) / d := Int.le_ediv_of_mul_le (by omega) (by omega)
  omega
theorem wide_Div.next_ (h nx d d0 d1 n r : Int) (k : wide_Div.Kn h nx d d0 d1) (g : wide_Div.Go_ h nx d d0 d1 n r) (c : n > 4294967295 ∨ n * d0 > r * 4294967296 + nx) (s : r + d1 ≤ 4294967295) : wide_Div.Go_ h nx d d0 d1 (n - 1) (r + d1) := by
  have a := wide_Div.above h nx d d0 d1 n r k g c
  unfold wide_Div.Kn at k
  unfold wide_Div.Go_ at g ⊢
  have e : (n - 1) * d1 = n * d1 - d1 := by rw [Int.sub_mul]; omega
  omega
theorem wide_Div.broke (h nx d d0 d1 n r : Int) (k : wide_Div.Kn h nx d d0 d1) (g : wide_Div.Go_ h nx d d0 d1 n r) (c : n > 4294967295 ∨ n * d0 > r * 4294967296 + nx) (s : r + d1 > 4294967295) : n - 1 = (h * 4294967296 + nx) / d := by
  have a := wide_Div.above h nx d d0 d1 n r k g c
  have q := wide_Div.quot h nx d d0 d1 k
  unfold wide_Div.Kn at k
  unfold wide_Div.Go_ at g
  have e : (n - 1) * d1 = n * d1 - d1 := by rw [Int.sub_mul]; omega
  have b : n - 1 ≤ 4294967295 := by
    by_cases z : n - 1 ≤ 4294967295
    · exact z
    · have z1 : n - 1 = 4294967296 ∨ n - 1 = 4294967297 := by omega
      rcases z1 with z1 | z1
      · rw [z1] at e
        omega
      · omega
  have b0 : (n - 1) * d0 ≤ 4294967295 * d0 := Int.mul_le_mul_of_nonneg_right b k.2.1
  have e2 : (n - 1) * d = (n - 1) * d1 * 4294967296 + (n - 1) * d0 := by rw [k.1, Int.mul_add, ← Int.mul_assoc]
  have : n - 1 ≤ (h * 4294967296 + nx) / d := Int.le_ediv_of_mul_le (by omega) (by omega)
  omega
theorem wide_Div.rest (h nx d d0 d1 : Int) (k : wide_Div.Kn h nx d d0 d1) (z : d ≤ 18446744073709551615) : IntKind.u64.wrap (IntKind.u64.wrap (IntKind.u64.wrap (h * 4294967296) + nx) - IntKind.u64.wrap ((h * 4294967296 + nx) / d * d)) = (h * 4294967296 + nx) % d := by
  unfold wide_Div.Kn at k
  have e := Int.mul_ediv_add_emod (h * 4294967296 + nx) d
  have e2 : (h * 4294967296 + nx) / d * d = d * ((h * 4294967296 + nx) / d) := Int.mul_comm _ _
  have m0 := Int.emod_nonneg (h * 4294967296 + nx) (b := d) (by omega)
  have m1 := Int.emod_lt_of_pos (h * 4294967296 + nx) (b := d) (by omega)
  rw [IntKind.wrap_u64, IntKind.wrap_u64, IntKind.wrap_u64, IntKind.wrap_u64]
  omega
theorem wide_Div.whole (N d p d2 h0 n0 n1 q0 h1 q1 h2 : Int) (hp : 0 < p) (hd : d2 = d * p) (hdp : 0 < d) (hN : N * p = h0 * 18446744073709551616 + (n0 * 4294967296 + n1))
    (e1 : h0 * 4294967296 + n0 = q0 * d2 + h1) (e2 : h1 * 4294967296 + n1 = q1 * d2 + h2) (z0 : 0 ≤ h2) (z1 : h2 < d2) : N / d = q0 * 4294967296 + q1 ∧ N % d = h2 / p := by
  have a1 : q0 * 4294967296 * d2 = q0 * d2 * 4294967296 := Int.mul_right_comm _ _ _
  have a2 : N * p = (q0 * 4294967296 + q1) * d2 + h2 := by
    rw [Int.add_mul, a1]
    omega
  have a3 : (q0 * 4294967296 + q1) * d2 = (q0 * 4294967296 + q1) * d * p := by rw [hd, Int.mul_assoc]
  have a4 : h2 = (N - (q0 * 4294967296 + q1) * d) * p := by
    rw [Int.sub_mul]
    omega
  have a5 : h2 / p = N - (q0 * 4294967296 + q1) * d := by
    rw [a4]
    exact Int.mul_ediv_cancel _ (by omega)
  have b0 : 0 ≤ h2 / p := Int.ediv_nonneg z0 (by omega)
  have b1 : h2 / p < d := Int.ediv_lt_of_lt_mul hp (by omega)
  exact wide_Div.by_ N d _ (h2 / p) hdp (by omega) b0 b1
theorem wide_Div.log (n : Int) (h : 0 < n) (h1 : n ≤ 18446744073709551615) : ∃ l : Nat, wide_Log.f n = some (l : Int) ∧ (2 : Int) ^ l ≤ n ∧ n < 2 ^ (l + 1) ∧ l ≤ 63 := by
  have g1 := Nat.log2_self_le (n := n.toNat) (by omega)
  have g2 : ((2 : Int) ^ Nat.log2 n.toNat) = ((2 ^ Nat.log2 n.toNat : Nat) : Int) := by simp
  have g3 : n.toNat < 2 ^ (Nat.log2 n.toNat + 1) := Nat.lt_log2_self
  have g4 : ((2 : Int) ^ (Nat.log2 n.toNat + 1)) = ((2 ^ (Nat.log2 n.toNat + 1) : Nat) : Int) := by simp
  refine ⟨Nat.log2 n.toNat, ?_, ?_, ?_, ?_⟩
  · unfold wide_Log.f wide_Log.v
    rw [if_pos ⟨by omega, h1⟩, if_neg (by omega)]
  · rw [g2]
    omega
  · rw [g4]
    omega
  · by_cases c : Nat.log2 n.toNat ≤ 63
    · exact c
    · have m : (2 : Nat) ^ 64 ≤ 2 ^ Nat.log2 n.toNat := Nat.pow_le_pow_right (by decide) (by omega)
      have m2 : (2 : Nat) ^ 64 = 18446744073709551616 := by decide
      omega
set_option maxHeartbeats 16000000 in
set_option maxRecDepth 100000 in
theorem wide_Div.no (a0 : Int) (a1 : Int) (a2 : Int) (w : World) (c : a0 ≥ a2) :
    Calls Try.prog 42 #[.int .u64 a0, .int .u64 a1, .int .u64 a2] w fun e w' => e = .returned (.tuple #[.int .u64 0, .int .u64 0, .bool false]) ∧ Below w.heap.size w w' := by
  have c0 : decide (a0 ≥ a2) = true := decide_eq_true c
  clear c
  go_enter Try.func42, Try.ntmps42
  go_wp2
  go_ret3
  exact ⟨rfl, Below.refl _ _⟩
theorem wide_Div.shifted (a0 a1 a2 : Int) (l u v : Nat) (b0 : 0 ≤ a0) (b1 : 0 ≤ a1) (b2 : a1 ≤ 18446744073709551615) (c : a0 < a2) (g1 : (2 : Int) ^ l ≤ a2) (g2 : a2 < 2 ^ (l + 1)) (e : l + u = 63) (e2 : v + u = 64) :
    9223372036854775808 ≤ a2 * 2 ^ u ∧ a2 * 2 ^ u ≤ 18446744073709551615 ∧ 0 ≤ a0 * 2 ^ u ∧ a0 * 2 ^ u + a1 / 2 ^ v < a2 * 2 ^ u ∧ 0 ≤ a1 / 2 ^ v ∧ a1 / 2 ^ v < 2 ^ u ∧ a0 * 2 ^ u % 2 ^ u = 0 ∧ 0 ≤ a1 * 2 ^ u ∧
      (a0 * 18446744073709551616 + a1) * 2 ^ u = (a0 * 2 ^ u + a1 / 2 ^ v) * 18446744073709551616 + a1 * 2 ^ u % 18446744073709551616 := by
  have pu := wide_Div.pow_pos u
  have pv := wide_Div.pow_pos v
  have k1 : (2 : Int) ^ l * 2 ^ u = 9223372036854775808 := by rw [← Int.pow_add, e]; decide
  have k2 : (2 : Int) ^ (l + 1) * 2 ^ u = 18446744073709551616 := by rw [← Int.pow_add, show l + 1 + u = 64 by omega]; decide
  have k3 : (2 : Int) ^ v * 2 ^ u = 18446744073709551616 := by rw [← Int.pow_add, e2]; decide
  have m1 : (2 : Int) ^ l * 2 ^ u ≤ a2 * 2 ^ u := Int.mul_le_mul_of_nonneg_right g1 (by omega)
  have m2 : a2 * 2 ^ u < 2 ^ (l + 1) * 2 ^ u := Int.mul_lt_mul_of_pos_right g2 pu
  have m3 : 0 ≤ a0 * 2 ^ u := Int.mul_nonneg b0 (by omega)
  have m4 : (a0 + 1) * 2 ^ u ≤ a2 * 2 ^ u := Int.mul_le_mul_of_nonneg_right (by omega) (by omega)
  have m5 : (a0 + 1) * 2 ^ u = a0 * 2 ^ u + 2 ^ u := by rw [Int.add_mul, Int.one_mul]
  have d0 : 0 ≤ a1 / 2 ^ v := Int.ediv_nonneg b1 (by omega)
  have d1 : a1 / 2 ^ v < 2 ^ u := Int.ediv_lt_of_lt_mul pv (by rw [Int.mul_comm, k3]; omega)
  have em := Int.mul_ediv_add_emod a1 (2 ^ v)
  have r0 := Int.emod_nonneg a1 (b := 2 ^ v) (by omega)
  have r1 := Int.emod_lt_of_pos a1 pv
  have n1 : a1 * 2 ^ u = 18446744073709551616 * (a1 / 2 ^ v) + a1 % 2 ^ v * 2 ^ u := by
    have q1 : (2 ^ v * (a1 / 2 ^ v) + a1 % 2 ^ v) * 2 ^ u = a1 * 2 ^ u := by rw [em]
    rw [← q1, Int.add_mul, Int.mul_right_comm, k3]
  have n2 : 0 ≤ a1 % 2 ^ v * 2 ^ u := Int.mul_nonneg r0 (by omega)
  have n3 : a1 % 2 ^ v * 2 ^ u < 2 ^ v * 2 ^ u := Int.mul_lt_mul_of_pos_right r1 pu
  have n4 : (a0 * 18446744073709551616 + a1) * 2 ^ u = a0 * 2 ^ u * 18446744073709551616 + a1 * 2 ^ u := by rw [Int.add_mul, Int.mul_right_comm]
  refine ⟨by omega, by omega, m3, by omega, d0, d1, Int.mul_emod_left _ _, Int.mul_nonneg b1 (by omega), ?_⟩
  rw [n4]
  omega
set_option maxHeartbeats 16000000 in
set_option maxRecDepth 100000 in
theorem wide_Div.yes (a0 : Int) (a1 : Int) (a2 : Int) (w : World) (b0 : 0 ≤ a0) (b1 : 0 ≤ a1) (b2 : a1 ≤ 18446744073709551615) (b3 : a2 ≤ 18446744073709551615) (c : a0 < a2) :
    Calls Try.prog 42 #[.int .u64 a0, .int .u64 a1, .int .u64 a2] w fun e w' => e = .returned (.tuple #[.int .u64 ((a0 * 18446744073709551616 + a1) / a2), .int .u64 ((a0 * 18446744073709551616 + a1) % a2), .bool true]) ∧ Below w.heap.size w w' := by
  have c0 : decide (a0 ≥ a2) = false := decide_eq_false (by omega)
  obtain ⟨l, hl, g1, g2, g3⟩ := wide_Div.log a2 (by omega) b3
  obtain ⟨u, hu⟩ : ∃ u : Nat, l + u = 63 := ⟨63 - l, by omega⟩
  obtain ⟨v, hv⟩ : ∃ v : Nat, v + u = 64 := ⟨64 - u, by omega⟩
  obtain ⟨s1, s2, s3, s4, s5, s6, s7, s8, s9⟩ := wide_Div.shifted a0 a1 a2 l u v b0 b1 b2 c g1 g2 hu hv
  have pu := wide_Div.pow_pos u
  have hu63 : u ≤ 63 := by omega
  have hlu : (63 : Int) - (l : Int) = (u : Int) := by omega
  have huv : (64 : Int) - (u : Int) = (v : Int) := by omega
  have hv64 : v ≤ 64 := by omega
  obtain ⟨d2, hd2⟩ : ∃ d2, a2 * 2 ^ u = d2 := ⟨_, rfl⟩
  obtain ⟨x1, hx1⟩ : ∃ x, a0 * 2 ^ u = x := ⟨_, rfl⟩
  obtain ⟨x2, hx2⟩ : ∃ x, a1 / 2 ^ v = x := ⟨_, rfl⟩
  obtain ⟨x3, hx3⟩ : ∃ x, a1 * 2 ^ u = x := ⟨_, rfl⟩
  rw [hd2] at s1 s2 s4
  rw [hx1] at s3 s4 s7 s9
  rw [hx2] at s4 s5 s6 s9
  rw [hx3] at s8 s9
  obtain ⟨h0, hh0⟩ : ∃ h0, x1 + x2 = h0 := ⟨_, rfl⟩
  obtain ⟨L, hL⟩ : ∃ L, x3 % 18446744073709551616 = L := ⟨_, rfl⟩
  have o1 : Go.bits .or .u64 x1 x2 = h0 := by
    rw [bits_join .u64 64 (by decide) (fun n q0 q1 => by rw [IntKind.wrap_u64]; omega) u _ _ s3 s7 (by omega) s5 s6 (by omega), hh0]
  have wd : IntKind.u64.wrap (a2 * 2 ^ u) = d2 := by rw [IntKind.wrap_u64, hd2]; omega
  have w1 : IntKind.u64.wrap (a0 * 2 ^ u) = x1 := by rw [IntKind.wrap_u64, hx1]; omega
  have w3 : IntKind.u64.wrap (a1 * 2 ^ u) = L := by rw [IntKind.wrap_u64, hx3]; exact hL
  have hN : (a0 * 18446744073709551616 + a1) * 2 ^ u = h0 * 18446744073709551616 + L := by rw [s9, hh0, hL]
  have hLb : 0 ≤ L ∧ L ≤ 18446744073709551615 := by omega
  have hh : 0 ≤ h0 ∧ h0 < d2 := by omega
  have zero_ : u = 0 → h0 = a0 ∧ L = a1 := by
    intro z
    subst z
    have p0 : (2 : Int) ^ 0 = 1 := rfl
    have v0 : v = 64 := by omega
    subst v0
    have p1 : (2 : Int) ^ 64 = 18446744073709551616 := by decide
    rw [p0] at hx1 hx3
    rw [p1] at hx2
    have y2 : a1 / 18446744073709551616 = 0 := Int.ediv_eq_zero_of_lt b1 (by omega)
    omega
  have HL := Aside0.mk hl
  have HF := Aside0.mk (show 9223372036854775808 ≤ d2 ∧ d2 ≤ 18446744073709551615 ∧ (0 ≤ h0 ∧ h0 < d2) ∧ (0 ≤ L ∧ L ≤ 18446744073709551615) ∧ (a0 * 18446744073709551616 + a1) * 2 ^ u = h0 * 18446744073709551616 + L ∧ d2 = a2 * 2 ^ u ∧ 0 < a2 ∧ (0 : Int) < 2 ^ u from ⟨s1, s2, hh, hLb, hN, hd2.symm, by omega, pu⟩)
  have HZ := Aside0.mk zero_
  have HX2 := hx2
  clear hl g1 g2 hu hv s1 s2 s3 s4 s5 s6 s7 s8 s9 pu hd2 hx1 hx2 hx3 hh0 hL hN hLb hh zero_ c b0 b1 b2 b3
  go_enter Try.func42, Try.ntmps42
  go_upto_if 26 with (first | (go_at_call 41; (with_reducible refine (wide_Log.calls a2 (l : Int) _ HL.out).mono ?_); rintro e w' ⟨rfl, ⟨nd, rfl⟩⟩))
  go_cut [0, 1] (fun s0 s1 wx => s0 = .int .u64 h0 ∧ s1 = .int .u64 L ∧ Below w.heap.size w wx)
  case first =>
    by_cases z : u = 0
    · obtain ⟨z1, z2⟩ := HZ.out z
      have z0 : u ≤ 0 := by omega
      clear z
      go_wp2_with fail
      go_meet
      case rel => exact ⟨by rw [z1], by rw [z2], by repeat (first | exact Below.refl _ _ | apply pw_below_drewN)⟩
    · have z0 : 1 ≤ u := by omega
      clear z
      go_wp2_with fail
      go_quiet (fail)
      go_wp2_with fail
      go_meet
      case rel => exact ⟨rfl, rfl, by repeat (first | exact Below.refl _ _ | apply pw_below_drewN)⟩
  case rest =>
    obtain ⟨rfl, rfl, hbel⟩ := hcut
    obtain ⟨wx, rfl⟩ : ∃ wx : World, wx = wc := ⟨_, rfl⟩
    clear o1 wd w1 w3 HX2 c0
    obtain ⟨d0, hd0⟩ : ∃ x, d2 % 4294967296 = x := ⟨_, rfl⟩
    obtain ⟨d1, hd1⟩ : ∃ x, d2 / 4294967296 = x := ⟨_, rfl⟩
    obtain ⟨n0, hn0⟩ : ∃ x, L / 4294967296 = x := ⟨_, rfl⟩
    obtain ⟨n1, hn1⟩ : ∃ x, L % 4294967296 = x := ⟨_, rfl⟩
    have la : Go.bits .and .u64 L 4294967295 = n1 := by rw [wide_halves.and_ L HF.out.2.2.2.1.1 HF.out.2.2.2.1.2, hn1]
    have hk : wide_Div.Kn h0 n0 d2 d0 d1 := by
      have := HF.out
      unfold wide_Div.Kn
      omega
    obtain ⟨q0, hq0⟩ : ∃ x, (h0 * 4294967296 + n0) / d2 = x := ⟨_, rfl⟩
    obtain ⟨h1, hh1⟩ : ∃ x, (h0 * 4294967296 + n0) % d2 = x := ⟨_, rfl⟩
    have hk2 : wide_Div.Kn h1 n1 d2 d0 d1 := by
      have := HF.out
      have m0 := Int.emod_nonneg (h0 * 4294967296 + n0) (b := d2) (by omega)
      have m1 := Int.emod_lt_of_pos (h0 * 4294967296 + n0) (b := d2) (by omega)
      unfold wide_Div.Kn at hk ⊢
      omega
    obtain ⟨q1, hq1⟩ : ∃ x, (h1 * 4294967296 + n1) / d2 = x := ⟨_, rfl⟩
    obtain ⟨h2, hh2⟩ : ∃ x, (h1 * 4294967296 + n1) % d2 = x := ⟨_, rfl⟩
    have b0 := wide_Div.quot h0 n0 d2 d0 d1 hk
    have b1 := wide_Div.quot h1 n1 d2 d0 d1 hk2
    rw [hq0] at b0
    rw [hq1] at b1
    have fin : (a0 * 18446744073709551616 + a1) / a2 = q0 * 4294967296 + q1 ∧ (a0 * 18446744073709551616 + a1) % a2 = h2 / 2 ^ u := by
      obtain ⟨f1, f2, f3, f4, f5, f6, f7, f8⟩ := HF.out
      have e1 := Int.mul_ediv_add_emod (h0 * 4294967296 + n0) d2
      have e2 := Int.mul_ediv_add_emod (h1 * 4294967296 + n1) d2
      have m0 := Int.emod_nonneg (h1 * 4294967296 + n1) (b := d2) (by omega)
      have m1 := Int.emod_lt_of_pos (h1 * 4294967296 + n1) (b := d2) (by omega)
      rw [hq0, hh1, Int.mul_comm] at e1
      rw [hq1, hh2, Int.mul_comm] at e2
      rw [hh2] at m0 m1
      exact wide_Div.whole (a0 * 18446744073709551616 + a1) a2 (2 ^ u) d2 h0 n0 n1 q0 h1 q1 h2 f8 f6 f7 (by omega) e1.symm e2.symm m0 m1
    have FIN := Aside0.mk fin
    have HK := Aside0.mk hk
    have HK2 := Aside0.mk hk2
    have HQ := Aside0.mk (show (h0 * 4294967296 + n0) / d2 = q0 ∧ (h0 * 4294967296 + n0) % d2 = h1 ∧ (h1 * 4294967296 + n1) / d2 = q1 ∧ (h1 * 4294967296 + n1) % d2 = h2 from ⟨hq0, hh1, hq1, hh2⟩)
    have HB0 := Aside0.mk (show 0 ≤ q0 ∧ q0 ≤ 4294967295 ∧ 0 ≤ q1 ∧ q1 ≤ 4294967295 from ⟨b0.1, b0.2, b1.1, b1.2⟩)
    have HB := Aside0.mk hbel
    clear hk hk2 hq0 hq1 hh1 hh2 b0 b1 fin hbel
    go_wp2_with (first | (go_at_call 53; (with_reducible refine (wide_halves.calls d2 _ (by have := HF.out; omega) HF.out.2.1).mono ?_); rintro e w' ⟨rfl, rfl⟩))
    obtain ⟨D, hD⟩ : ∃ D, wx.heap.size + 1 = D := ⟨_, rfl⟩
    rw [hD]
    have hbel : Below w.heap.size w (((wx.alloc (Obj.cells #[Value.int IntKind.u64 d0, Value.int IntKind.u64 d1] 51)).alloc (Obj.cells #[Value.int IntKind.u64 d0, Value.int IntKind.u64 d1] 51)).alloc (Obj.cells #[Value.int IntKind.u64 0, Value.int IntKind.u64 0] 51)) := by
      refine Below.alloc (Below.alloc (Below.alloc HB.out ?_ _) ?_ _) ?_ _ <;> (have q := HB.out.size; simp; omega)
    have hcd : (((wx.alloc (Obj.cells #[Value.int IntKind.u64 d0, Value.int IntKind.u64 d1] 51)).alloc (Obj.cells #[Value.int IntKind.u64 d0, Value.int IntKind.u64 d1] 51)).alloc (Obj.cells #[Value.int IntKind.u64 0, Value.int IntKind.u64 0] 51)).heap[D]? = some (Obj.cells #[Value.int IntKind.u64 d0, Value.int IntKind.u64 d1] 51 (0, 0)) := blk_alloc (wide_halves.blk_at_new (wx.alloc _) _ D (by simp; omega)) _
    have hcq : (((wx.alloc (Obj.cells #[Value.int IntKind.u64 d0, Value.int IntKind.u64 d1] 51)).alloc (Obj.cells #[Value.int IntKind.u64 d0, Value.int IntKind.u64 d1] 51)).alloc (Obj.cells #[Value.int IntKind.u64 0, Value.int IntKind.u64 0] 51)).heap[D + 1]? = some (Obj.cells #[Value.int IntKind.u64 0, Value.int IntKind.u64 0] 51 (0, 0)) := wide_halves.blk_at_new ((wx.alloc _).alloc _) _ (D + 1) (by simp; omega)
    have hDw : w.heap.size ≤ D := by have q := HB.out.size; omega
    generalize (((wx.alloc (Obj.cells #[Value.int IntKind.u64 d0, Value.int IntKind.u64 d1] 51)).alloc (Obj.cells #[Value.int IntKind.u64 d0, Value.int IntKind.u64 d1] 51)).alloc (Obj.cells #[Value.int IntKind.u64 0, Value.int IntKind.u64 0] 51)) = w0 at hbel hcd hcq ⊢
    clear HB
    have HB := Aside0.mk hbel
    have HD := Aside0.mk hcd
    have HQQ := Aside0.mk hcq
    have HDW := Aside0.mk hDw
    clear hbel hcd hcq hDw hD hd0 hd1 hn0 hn1
    have i0 : ∀ wz, (Instr.index 51 (.agg #[Value.int IntKind.u64 n0, Value.int IntKind.u64 n1]) (.int .i64 0)).run Try.prog wz = .ok (Value.int IntKind.u64 n0) wz := fun _ => by kernel_rfl
    have i1 : ∀ wz, (Instr.index 51 (.agg #[Value.int IntKind.u64 n0, Value.int IntKind.u64 n1]) (.int .i64 1)).run Try.prog wz = .ok (Value.int IntKind.u64 n1) wz := fun _ => by kernel_rfl
    go_loopg [0, 45] 2 (fun g s0 q wr => ∃ c h a b : Int, (c = 0 ∧ g = 2 ∧ h0 = h ∧ a = 0 ∧ b = 0 ∨ c = 1 ∧ g = 1 ∧ h1 = h ∧ q0 = a ∧ b = 0 ∨ c = 2 ∧ g = 0 ∧ h2 = h ∧ q0 = a ∧ q1 = b) ∧ s0 = .int .u64 h ∧ q = .int .i64 c ∧ wr.heap[D]? = some (Obj.cells #[Value.int IntKind.u64 d0, Value.int IntKind.u64 d1] 51 (0, 0)) ∧ wr.heap[D + 1]? = some (Obj.cells #[Value.int IntKind.u64 a, Value.int IntKind.u64 b] 51 (0, 0)) ∧ Below w.heap.size w wr)
    case atStart => exact ⟨0, h0, 0, 0, .inl ⟨rfl, rfl, rfl, rfl, rfl⟩, rfl, rfl, HD.out, HQQ.out, HB.out⟩
    case round =>
      obtain ⟨c, h, a, b, hj, rfl, rfl, hcd, hcq, hbel⟩ := hrel
      clear HB HD HQQ
      have HB := Aside0.mk hbel
      have HD := Aside0.mk hcd
      have HQQ := Aside0.mk hcq
      clear hbel hcd hcq
      obtain ⟨wo, rfl⟩ : ∃ wo : World, wo = wr := ⟨_, rfl⟩
      rcases hj with ⟨rfl, rfl, rfl, rfl, rfl⟩ | ⟨rfl, rfl, rfl, rfl, rfl⟩ | ⟨rfl, rfl, rfl, rfl, rfl⟩
      · have ks := wide_Div.start h0 n0 d2 d0 d1 HK.out
        have kk := HK.out
        unfold wide_Div.Kn at kk
        have kg := ks
        unfold wide_Div.Go_ at kg
        have p0 : 0 ≤ h0 := kk.2.2.2.2.2.1
        have p1 : 1 ≤ d1 := by omega
        have p2 : (d1 == 0) = false := by rw [beq_eq_false_iff_ne]; omega
        have p4 : h0 ≤ 18446744073709551615 := by have := HF.out.2.1; omega
        have p5 : 0 ≤ h0 / d1 := Int.ediv_nonneg p0 (by omega)
        have p3 : IntKind.u64.wrap (h0.tdiv d1) = h0 / d1 := by rw [Int.tdiv_eq_ediv_of_nonneg p0, IntKind.wrap_u64]; omega
        have p6 : 0 ≤ h0 / d1 * d1 := Int.mul_nonneg p5 (by omega)
        have wq : IntKind.u64.wrap (h0 / d1 * d1) = h0 / d1 * d1 := by rw [IntKind.wrap_u64]; omega
        have ws : IntKind.u64.wrap (h0 - h0 / d1 * d1) = h0 - h0 / d1 * d1 := by rw [IntKind.wrap_u64]; omega
        have KS := Aside0.mk ks
        clear ks kk kg
        have cd1 := (blk_cell HD.out 1).trans (show _ = some (Value.int IntKind.u64 d1) from rfl)
        have cd0 := (blk_cell HD.out 0).trans (show _ = some (Value.int IntKind.u64 d0) from rfl)
        have cq := (blk_cell HQQ.out 0).trans (show _ = some (Value.int IntKind.u64 0) from rfl)
        have fq := blk_frozen HQQ.out 0
        go_wp2
        go_step3
        go_wp2
        go_step3
        go_wp2
        go_loopg [14, 15] (h0 / d1).toNat (fun g s14 s15 wr => ∃ n r : Int, s14 = .int .u64 n ∧ s15 = .int .u64 r ∧ g = n.toNat ∧ wide_Div.Go_ h0 n0 d2 d0 d1 n r ∧ wr = wo)
        case atStart => exact ⟨_, _, rfl, rfl, rfl, KS.out, rfl⟩
        case round =>
          obtain ⟨n, r, rfl, rfl, hg, hgo, rfl⟩ := hrel
          have hq := wide_Div.quot h0 n0 d2 d0 d1 HK.out
          have kk := HK.out
          unfold wide_Div.Kn at kk
          have kg := hgo
          unfold wide_Div.Go_ at kg
          have wr1 : IntKind.u64.wrap (r * 4294967296) = r * 4294967296 := by rw [IntKind.wrap_u64]; omega
          have wo1 : Go.bits .or .u64 (r * 4294967296) n0 = r * 4294967296 + n0 := wide_halves.join r n0 (by omega) (by omega) (by omega) (by omega)
          have wa : IntKind.u64.wrap (r + d1) = r + d1 := by rw [IntKind.wrap_u64]; omega
          have HGO := Aside0.mk hgo
          have HG := Aside0.mk hg
          have HQB := Aside0.mk hq
          by_cases c2 : n > 4294967295 ∨ n * d0 > r * 4294967296 + n0
          · have ab := wide_Div.above h0 n0 d2 d0 d1 n r HK.out hgo c2
            have wn : IntKind.u64.wrap (n - 1) = n - 1 := by rw [IntKind.wrap_u64]; omega
            have ht : decide (n > 4294967295) = true ∨ decide (n > 4294967295) = false ∧ IntKind.u64.wrap (n * d0) = n * d0 ∧ decide (n * d0 > r * 4294967296 + n0) = true := by
              by_cases c3 : n > 4294967295
              · exact .inl (decide_eq_true c3)
              · refine .inr ⟨decide_eq_false c3, ?_, decide_eq_true (by omega)⟩
                have z := wide_halves.prod_bd n d0 (by omega) (by omega) (by omega) (by omega)
                rw [IntKind.wrap_u64]
                omega
            have n1_ : 0 < n := by omega
            by_cases c4 : r + d1 > 4294967295
            · have br := wide_Div.broke h0 n0 d2 d0 d1 n r HK.out hgo c2 c4
              have t4 : decide (r + d1 > 4294967295) = true := decide_eq_true c4
              rw [HQ.out.1] at br
              have wn2 : IntKind.u64.wrap q0 = q0 := by rw [← br]; exact wn
              clear wn
              clear hgo hg hq kk kg c2 c4 ab n1_
              have C2 := ht
              clear ht
              rcases C2 with ht | ⟨ht, ht2, ht3⟩
              all_goals
                go_wp2
                rw [Exit.noGoto_normal]
                go_wp2
                go_roundg 1
                case measure => omega
                case rel => exact ⟨1, h1, q0, 0, .inr (.inl ⟨rfl, rfl, rfl, rfl, rfl⟩), by rw [← HQ.out.2.1, ← wide_Div.rest h0 n0 d2 d0 d1 HK.out HF.out.2.1, HQ.out.1], by first | rfl | go_num, blk_far HD.out (by simp; try omega) _, blk_put HQQ.out 0 _ rfl, HB.out.setCell (by have q := HDW.out; simp; omega) _⟩
            · have nx_ := wide_Div.next_ h0 n0 d2 d0 d1 n r HK.out hgo c2 (by omega)
              have t4 : decide (r + d1 > 4294967295) = false := decide_eq_false c4
              have NX := Aside0.mk nx_
              have N1 := Aside0.mk n1_
              clear hgo hg hq kk kg c2 c4 ab n1_ nx_
              have C2 := ht
              clear ht
              rcases C2 with ht | ⟨ht, ht2, ht3⟩
              all_goals
                go_wp2
                have hg := HG.out
                have n1_ := N1.out
                go_roundg (n - 1).toNat
                case measure => omega
                case rel => exact ⟨n - 1, r + d1, rfl, rfl, rfl, NX.out, rfl⟩
          · have aq := wide_Div.atq h0 n0 d2 d0 d1 n r HK.out hgo (by omega)
            rw [HQ.out.1] at aq
            have t1 : decide (n > 4294967295) = false := decide_eq_false (by omega)
            have t2 : IntKind.u64.wrap (n * d0) = n * d0 := by
              have z := wide_halves.prod_bd n d0 (by omega) (by omega) (by omega) (by omega)
              rw [IntKind.wrap_u64]
              omega
            have t3 : decide (n * d0 > r * 4294967296 + n0) = false := decide_eq_false (by omega)
            have aq2 := aq.symm
            clear aq
            subst aq2
            clear hgo hg hq kk kg c2
            go_wp2
            rw [Exit.noGoto_normal]
            go_wp2
            go_roundg 1
            case measure => omega
            case rel => exact ⟨1, h1, q0, 0, .inr (.inl ⟨rfl, rfl, rfl, rfl, rfl⟩), by rw [← HQ.out.2.1, ← wide_Div.rest h0 n0 d2 d0 d1 HK.out HF.out.2.1, HQ.out.1], by first | rfl | go_num, blk_far HD.out (by simp; try omega) _, blk_put HQQ.out 0 _ rfl, HB.out.setCell (by have q := HDW.out; simp; omega) _⟩
      · have ks := wide_Div.start h1 n1 d2 d0 d1 HK2.out
        have kk := HK2.out
        unfold wide_Div.Kn at kk
        have kg := ks
        unfold wide_Div.Go_ at kg
        have p0 : 0 ≤ h1 := kk.2.2.2.2.2.1
        have p1 : 1 ≤ d1 := by omega
        have p2 : (d1 == 0) = false := by rw [beq_eq_false_iff_ne]; omega
        have p4 : h1 ≤ 18446744073709551615 := by have := HF.out.2.1; omega
        have p5 : 0 ≤ h1 / d1 := Int.ediv_nonneg p0 (by omega)
        have p3 : IntKind.u64.wrap (h1.tdiv d1) = h1 / d1 := by rw [Int.tdiv_eq_ediv_of_nonneg p0, IntKind.wrap_u64]; omega
        have p6 : 0 ≤ h1 / d1 * d1 := Int.mul_nonneg p5 (by omega)
        have wq : IntKind.u64.wrap (h1 / d1 * d1) = h1 / d1 * d1 := by rw [IntKind.wrap_u64]; omega
        have ws : IntKind.u64.wrap (h1 - h1 / d1 * d1) = h1 - h1 / d1 * d1 := by rw [IntKind.wrap_u64]; omega
        have KS := Aside0.mk ks
        clear ks kk kg
        have cd1 := (blk_cell HD.out 1).trans (show _ = some (Value.int IntKind.u64 d1) from rfl)
        have cd0 := (blk_cell HD.out 0).trans (show _ = some (Value.int IntKind.u64 d0) from rfl)
        have cq := (blk_cell HQQ.out 1).trans (show _ = some (Value.int IntKind.u64 0) from rfl)
        have fq := blk_frozen HQQ.out 1
        go_wp2
        go_step3
        go_wp2
        go_step3
        go_wp2
        go_loopg [14, 15] (h1 / d1).toNat (fun g s14 s15 wr => ∃ n r : Int, s14 = .int .u64 n ∧ s15 = .int .u64 r ∧ g = n.toNat ∧ wide_Div.Go_ h1 n1 d2 d0 d1 n r ∧ wr = wo)
        case atStart => exact ⟨_, _, rfl, rfl, rfl, KS.out, rfl⟩
        case round =>
          obtain ⟨n, r, rfl, rfl, hg, hgo, rfl⟩ := hrel
          have hq := wide_Div.quot h1 n1 d2 d0 d1 HK2.out
          have kk := HK2.out
          unfold wide_Div.Kn at kk
          have kg := hgo
          unfold wide_Div.Go_ at kg
          have wr1 : IntKind.u64.wrap (r * 4294967296) = r * 4294967296 := by rw [IntKind.wrap_u64]; omega
          have wo1 : Go.bits .or .u64 (r * 4294967296) n1 = r * 4294967296 + n1 := wide_halves.join r n1 (by omega) (by omega) (by omega) (by omega)
          have wa : IntKind.u64.wrap (r + d1) = r + d1 := by rw [IntKind.wrap_u64]; omega
          have HGO := Aside0.mk hgo
          have HG := Aside0.mk hg
          have HQB := Aside0.mk hq
          by_cases c2 : n > 4294967295 ∨ n * d0 > r * 4294967296 + n1
          · have ab := wide_Div.above h1 n1 d2 d0 d1 n r HK2.out hgo c2
            have wn : IntKind.u64.wrap (n - 1) = n - 1 := by rw [IntKind.wrap_u64]; omega
            have ht : decide (n > 4294967295) = true ∨ decide (n > 4294967295) = false ∧ IntKind.u64.wrap (n * d0) = n * d0 ∧ decide (n * d0 > r * 4294967296 + n1) = true := by
              by_cases c3 : n > 4294967295
              · exact .inl (decide_eq_true c3)
              · refine .inr ⟨decide_eq_false c3, ?_, decide_eq_true (by omega)⟩
                have z := wide_halves.prod_bd n d0 (by omega) (by omega) (by omega) (by omega)
                rw [IntKind.wrap_u64]
                omega
            have n1_ : 0 < n := by omega
            by_cases c4 : r + d1 > 4294967295
            · have br := wide_Div.broke h1 n1 d2 d0 d1 n r HK2.out hgo c2 c4
              have t4 : decide (r + d1 > 4294967295) = true := decide_eq_true c4
              rw [HQ.out.2.2.1] at br
              have wn2 : IntKind.u64.wrap q1 = q1 := by rw [← br]; exact wn
              clear wn
              clear hgo hg hq kk kg c2 c4 ab n1_
              have C2 := ht
              clear ht
              rcases C2 with ht | ⟨ht, ht2, ht3⟩
              all_goals
                go_wp2
                rw [Exit.noGoto_normal]
                go_wp2
                go_roundg 0
                case measure => omega
                case rel => exact ⟨2, h2, q0, q1, .inr (.inr ⟨rfl, rfl, rfl, rfl, rfl⟩), by rw [← HQ.out.2.2.2, ← wide_Div.rest h1 n1 d2 d0 d1 HK2.out HF.out.2.1, HQ.out.2.2.1], by first | rfl | go_num, blk_far HD.out (by simp; try omega) _, blk_put HQQ.out 1 _ rfl, HB.out.setCell (by have q := HDW.out; simp; omega) _⟩
            · have nx_ := wide_Div.next_ h1 n1 d2 d0 d1 n r HK2.out hgo c2 (by omega)
              have t4 : decide (r + d1 > 4294967295) = false := decide_eq_false c4
              have NX := Aside0.mk nx_
              have N1 := Aside0.mk n1_
              clear hgo hg hq kk kg c2 c4 ab n1_ nx_
              have C2 := ht
              clear ht
              rcases C2 with ht | ⟨ht, ht2, ht3⟩
              all_goals
                go_wp2
                have hg := HG.out
                have n1_ := N1.out
                go_roundg (n - 1).toNat
                case measure => omega
                case rel => exact ⟨n - 1, r + d1, rfl, rfl, rfl, NX.out, rfl⟩
          · have aq := wide_Div.atq h1 n1 d2 d0 d1 n r HK2.out hgo (by omega)
            rw [HQ.out.2.2.1] at aq
            have t1 : decide (n > 4294967295) = false := decide_eq_false (by omega)
            have t2 : IntKind.u64.wrap (n * d0) = n * d0 := by
              have z := wide_halves.prod_bd n d0 (by omega) (by omega) (by omega) (by omega)
              rw [IntKind.wrap_u64]
              omega
            have t3 : decide (n * d0 > r * 4294967296 + n1) = false := decide_eq_false (by omega)
            have aq2 := aq.symm
            clear aq
            subst aq2
            clear hgo hg hq kk kg c2
            go_wp2
            rw [Exit.noGoto_normal]
            go_wp2
            go_roundg 0
            case measure => omega
            case rel => exact ⟨2, h2, q0, q1, .inr (.inr ⟨rfl, rfl, rfl, rfl, rfl⟩), by rw [← HQ.out.2.2.2, ← wide_Div.rest h1 n1 d2 d0 d1 HK2.out HF.out.2.1, HQ.out.2.2.1], by first | rfl | go_num, blk_far HD.out (by simp; try omega) _, blk_put HQQ.out 1 _ rfl, HB.out.setCell (by have q := HDW.out; simp; omega) _⟩
      · have hb := HB0.out
        have w1 : IntKind.u64.wrap (q0 * 4294967296) = q0 * 4294967296 := by rw [IntKind.wrap_u64]; omega
        have o1 : Go.bits .or .u64 (q0 * 4294967296) q1 = q0 * 4294967296 + q1 := wide_halves.join q0 q1 (by omega) (by omega) (by omega) (by omega)
        clear hb
        have c0 := (blk_cell HQQ.out 0).trans (show _ = some (Value.int IntKind.u64 q0) from rfl)
        have c1 := (blk_cell HQQ.out 1).trans (show _ = some (Value.int IntKind.u64 q1) from rfl)
        go_wp2_with fail
        go_quiet (fail)
        go_wp2
        go_ret3
        exact ⟨by rw [FIN.out.1, FIN.out.2]; rfl, pw_below_drewN HB.out _⟩
theorem wide_Div.calls (a0 : Int) (a1 : Int) (a2 : Int) (r1 : Int) (r2 : Int) (r3 : Bool) (w : World) (h : wide_Div.f a0 a1 a2 = some (r1, r2, r3)) :
    Calls Try.prog 42 #[.int .u64 a0, .int .u64 a1, .int .u64 a2] w fun e w' => e = .returned (.tuple #[.int .u64 r1, .int .u64 r2, .bool r3]) ∧ Below w.heap.size w w' := by
  unfold wide_Div.f at h
  split at h
  · rename_i b
    split at h
    · rename_i c
      have e := Prod.mk.inj (Option.some.inj h)
      have e2 := Prod.mk.inj e.2
      rw [← e.1, ← e2.1, ← e2.2]
      exact wide_Div.no a0 a1 a2 w c
    · rename_i c
      have e := Prod.mk.inj (Option.some.inj h)
      have e2 := Prod.mk.inj e.2
      rw [← e.1, ← e2.1, ← e2.2]
      exact wide_Div.yes a0 a1 a2 w b.1 b.2.2.1 b.2.2.2.1 b.2.2.2.2.2 (by omega)
  · cases h

/-! ### wide_Plus: function 43 -/
def wide_Plus.f (a0 : Int) (a1 : Int) (a2 : Int) (a3 : Int) : Option (Int × Int × Bool) :=
  if (IntKind.u64.wrap (a1 + a3)) < a1 then (if (IntKind.u64.wrap (a0 + a2)) < a0 then (some (IntKind.u64.wrap ((IntKind.u64.wrap (a0 + a2)) + 1), IntKind.u64.wrap (a1 + a3), true)) else (some (IntKind.u64.wrap ((IntKind.u64.wrap (a0 + a2)) + 1), IntKind.u64.wrap (a1 + a3), ((IntKind.u64.wrap ((IntKind.u64.wrap (a0 + a2)) + 1)) == 0)))) else (some (IntKind.u64.wrap (a0 + a2), IntKind.u64.wrap (a1 + a3), decide ((IntKind.u64.wrap (a0 + a2)) < a0)))
set_option maxHeartbeats 8000000 in
set_option maxRecDepth 100000 in
theorem wide_Plus.calls (a0 : Int) (a1 : Int) (a2 : Int) (a3 : Int) (r1 : Int) (r2 : Int) (r3 : Bool) (w : World) (h : wide_Plus.f a0 a1 a2 a3 = some (r1, r2, r3)) :
    Calls Try.prog 43 #[.int .u64 a0, .int .u64 a1, .int .u64 a2, .int .u64 a3] w fun e w' => e = .returned (.tuple #[.int .u64 r1, .int .u64 r2, .bool r3]) ∧ Drawn0 w w' := by
  unfold wide_Plus.f at h
  obtain ⟨x, hx⟩ : ∃ x, IntKind.u64.wrap (a0 + a2) = x := ⟨_, rfl⟩
  obtain ⟨y, hy⟩ : ∃ y, IntKind.u64.wrap (a1 + a3) = y := ⟨_, rfl⟩
  obtain ⟨z, hz⟩ : ∃ z, IntKind.u64.wrap (x + 1) = z := ⟨_, rfl⟩
  rw [hx, hy, hz] at h
  by_cases c : y < a1
  · rw [if_pos c] at h
    have c1 : decide (y < a1) = true := decide_eq_true c
    clear c
    by_cases d : x < a0
    · rw [if_pos d] at h
      have d1 : decide (x < a0) = true := decide_eq_true d
      clear d
      have e := Prod.mk.inj (Option.some.inj h)
      have e2 := Prod.mk.inj e.2
      obtain ⟨rfl, rfl, rfl⟩ : z = r1 ∧ y = r2 ∧ true = r3 := ⟨e.1, e2.1, e2.2⟩
      clear h e e2
      go_enter Try.func43, Try.ntmps43
      go_wp2
      go_ret3
      exact ⟨rfl, Drawn0.refl _⟩
    · rw [if_neg d] at h
      have d1 : decide (x < a0) = false := decide_eq_false d
      clear d
      have e := Prod.mk.inj (Option.some.inj h)
      have e2 := Prod.mk.inj e.2
      obtain ⟨rfl, rfl, rfl⟩ : z = r1 ∧ y = r2 ∧ (z == 0) = r3 := ⟨e.1, e2.1, e2.2⟩
      clear h e e2
      obtain ⟨q, hq⟩ : ∃ q, (z == 0) = q := ⟨_, rfl⟩
      rw [hq]
      go_enter Try.func43, Try.ntmps43
      go_wp2
      go_ret3
      exact ⟨rfl, Drawn0.refl _⟩
  · rw [if_neg c] at h
    have c1 : decide (y < a1) = false := decide_eq_false c
    clear c
    have e := Prod.mk.inj (Option.some.inj h)
    have e2 := Prod.mk.inj e.2
    obtain ⟨q, hq⟩ : ∃ q, decide (x < a0) = q := ⟨_, rfl⟩
    rw [hq] at e2
    obtain ⟨rfl, rfl, rfl⟩ : x = r1 ∧ y = r2 ∧ q = r3 := ⟨e.1, e2.1, e2.2⟩
    clear h e e2
    go_enter Try.func43, Try.ntmps43
    go_wp2
    go_ret3
    exact ⟨rfl, Drawn0.refl _⟩

end Go.Proofs.Ytomjongnjfodmaa.MFixR
