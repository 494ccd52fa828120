/- Functions that the statements of this seat reach, each as a plain Lean function, with a proof that the Go code comes to its answers; no condition. -/
import Derived.Test.YtoddgpaopejeoaaMLedx0
namespace Go.Proofs.Ytoddgpaopejeoaa.MLed
open Go.RowKit Go.Proofs.YtoddgpaopejeoaaW.PrintWords Go.Proofs.YtoddgpaopejeoaaW.PrintLast Go.Proofs.YtoddgpaopejeoaaW.PrintMore
attribute [local go_sem] max2_int min2_int max_two min_two max_three min_three max_four min_four   -- for this text's walks alone
set_option linter.unusedVariables false
set_option linter.unusedSimpArgs false

/-! ### fix_Clamp: function 37 -/
def fix_Clamp.f (a0 : Int) (a1 : Int) (a2 : Int) : Option (Int) := if a0 < a1 then (some (mx a1 (-9223372036854775807))) else (if a0 > a2 then (some (mx a2 (-9223372036854775807))) else (some (mx a0 (-9223372036854775807))))
set_option maxHeartbeats 8000000 in
set_option maxRecDepth 100000 in
theorem fix_Clamp.calls (a0 : Int) (a1 : Int) (a2 : Int) (r : Int) (w : World) (h : fix_Clamp.f a0 a1 a2 = some r) :
    Calls Try.prog 37 #[.int .i64 a0, .int .i64 a1, .int .i64 a2] w fun e w' => e = .returned (.int .i64 r) ∧ Below w.heap.size w w' := by
  have HB := Aside0.mk (Below.refl w.heap.size w)
  have H : (if a0 < a1 then (some (mx a1 (-9223372036854775807))) else (if a0 > a2 then (some (mx a2 (-9223372036854775807))) else (some (mx a0 (-9223372036854775807))))) = some r := h
  clear h
  by_cases c4 : a0 < a1
  · rw [if_pos c4] at H
    have c4b0 : decide (a0 < a1) = true := decide_eq_true c4
    clear c4
    obtain ⟨ji5, hji5⟩ : ∃ j_ : Int, (mx a1 (-9223372036854775807)) = j_ := ⟨_, rfl⟩
    replace H : (some ji5) = some r := by first | (rw [hji5] at H; exact H) | (simp only [hji5] at H ⊢; exact H)
    have hji5_ : (if a1 < (-9223372036854775807) then (-9223372036854775807) else a1) = ji5 := hji5
    obtain rfl := Option.some.inj H
    go_enter Try.func37, Try.ntmps37
    go_wp2
    go_ret
    exact ⟨by first | rfl | (simp [errW_none, errW_some] <;> rfl) | (simp only [← hji5]; first | rfl | (simp [errW_none, errW_some] <;> rfl)) | (simp [*, errW_none, errW_some] <;> rfl), by repeat (first | (with_reducible first | exact HB.out | apply below_alloc | apply pw_below_drewN | apply below_drew1) | exact HB.out)⟩
  · rw [if_neg c4] at H
    have c4b0 : decide (a0 < a1) = false := decide_eq_false c4
    clear c4
    by_cases c6 : a0 > a2
    · rw [if_pos c6] at H
      have c6b0 : decide (a2 < a0) = true := decide_eq_true c6
      clear c6
      obtain ⟨ji7, hji7⟩ : ∃ j_ : Int, (mx a2 (-9223372036854775807)) = j_ := ⟨_, rfl⟩
      replace H : (some ji7) = some r := by first | (rw [hji7] at H; exact H) | (simp only [hji7] at H ⊢; exact H)
      have hji7_ : (if a2 < (-9223372036854775807) then (-9223372036854775807) else a2) = ji7 := hji7
      obtain rfl := Option.some.inj H
      go_enter Try.func37, Try.ntmps37
      go_wp2
      go_ret
      exact ⟨by first | rfl | (simp [errW_none, errW_some] <;> rfl) | (simp only [← hji7]; first | rfl | (simp [errW_none, errW_some] <;> rfl)) | (simp [*, errW_none, errW_some] <;> rfl), by repeat (first | (with_reducible first | exact HB.out | apply below_alloc | apply pw_below_drewN | apply below_drew1) | exact HB.out)⟩
    · rw [if_neg c6] at H
      have c6b0 : decide (a2 < a0) = false := decide_eq_false c6
      clear c6
      obtain ⟨ji8, hji8⟩ : ∃ j_ : Int, (mx a0 (-9223372036854775807)) = j_ := ⟨_, rfl⟩
      replace H : (some ji8) = some r := by first | (rw [hji8] at H; exact H) | (simp only [hji8] at H ⊢; exact H)
      have hji8_ : (if a0 < (-9223372036854775807) then (-9223372036854775807) else a0) = ji8 := hji8
      obtain rfl := Option.some.inj H
      go_enter Try.func37, Try.ntmps37
      go_wp2
      go_ret
      exact ⟨by first | rfl | (simp [errW_none, errW_some] <;> rfl) | (simp only [← hji8]; first | rfl | (simp [errW_none, errW_some] <;> rfl)) | (simp [*, errW_none, errW_some] <;> rfl), by repeat (first | (with_reducible first | exact HB.out | apply below_alloc | apply pw_below_drewN | apply below_drew1) | exact HB.out)⟩

-- NOT PRINTED: function 13 (ledger_New)

/-! ### fix_Add: function 44 -/
def fix_Add.j0 : Nat → Int → Int → Int → Bool → Option (Int)
  | 0, _, _, _, _ => none
  | k + 1, x0, x1, x5, x9 => if x9 = true then (some 9223372036854775807) else (if x0 < 0 then (if x1 < 0 then (if x5 ≥ 0 then (some (-9223372036854775807)) else (some (mx x5 (-9223372036854775807)))) else (some (mx x5 (-9223372036854775807)))) else (some (mx x5 (-9223372036854775807))))
def fix_Add.f (k : Nat) (a0 : Int) (a1 : Int) : Option (Int) := if a0 > 0 then (if a1 > 0 then (fix_Add.j0 k a0 a1 (wrap64 (a0 + a1)) (decide ((wrap64 (a0 + a1)) < 0))) else (fix_Add.j0 k a0 a1 (wrap64 (a0 + a1)) false)) else (fix_Add.j0 k a0 a1 (wrap64 (a0 + a1)) false)
theorem fix_Add.mono_l : ∀ k, (∀ y0 y1 y2 y3, LeO (fix_Add.j0 k y0 y1 y2 y3) (fix_Add.j0 (k + 1) y0 y1 y2 y3))
  | 0 => fun _ _ _ _ r h => by simp [fix_Add.j0] at h
  | k + 1 => by
    have ih0 := fix_Add.mono_l k
    · intro y0 y1 y2 y3
      unfold fix_Add.j0
      repeat' first
      | (with_reducible exact ih0 _ _ _ _)
      | (with_reducible exact LeO.refl _)
      | (with_reducible exact LeO.none _)
      | (with_reducible refine LeO.ite ?_ ?_)
      | (with_reducible refine LeO.bind ?_ (fun _ => ?_))
      | exact ih0 _ _ _ _
      | exact LeO.none _
      | refine LeO.ite ?_ ?_
      | refine LeO.bind ?_ (fun _ => ?_)
theorem fix_Add.mono : ∀ a0 a1 k, LeO (fix_Add.f k a0 a1) (fix_Add.f (k + 1) a0 a1) := by
  intro a0 a1 k
  have ih0 := fix_Add.mono_l k
  unfold fix_Add.f
  repeat' first
      | (with_reducible exact ih0 _ _ _ _)
      | (with_reducible exact LeO.refl _)
      | (with_reducible exact LeO.none _)
      | (with_reducible refine LeO.ite ?_ ?_)
      | (with_reducible refine LeO.bind ?_ (fun _ => ?_))
      | exact ih0 _ _ _ _
      | exact LeO.none _
      | refine LeO.ite ?_ ?_
      | refine LeO.bind ?_ (fun _ => ?_)
set_option maxHeartbeats 8000000 in
set_option maxRecDepth 100000 in
theorem fix_Add.calls (k : Nat) (a0 : Int) (a1 : Int) (r : Int) (w : World) (h : fix_Add.f k a0 a1 = some r) :
    Calls Try.prog 44 #[.int .i64 a0, .int .i64 a1] w fun e w' => e = .returned (.int .i64 r) ∧ Below w.heap.size w w' := by
  have HB := Aside0.mk (Below.refl w.heap.size w)
  have H : (if a0 > 0 then (if a1 > 0 then (fix_Add.j0 k a0 a1 (wrap64 (a0 + a1)) (decide ((wrap64 (a0 + a1)) < 0))) else (fix_Add.j0 k a0 a1 (wrap64 (a0 + a1)) false)) else (fix_Add.j0 k a0 a1 (wrap64 (a0 + a1)) false)) = some r := h
  clear h
  have HC3 := Aside0.mk H
  clear H
  go_enter Try.func44, Try.ntmps44
  go_upto_region 2 with (fail)
  go_cut [9] (fun v9 wc => ∃ (kq : Nat) (x9_2 : Bool), v9 = .bool x9_2 ∧ Aside0 (fix_Add.j0 kq a0 a1 (wrap64 (a0 + a1)) x9_2 = some r) ∧ Aside0 (kq ≤ k) ∧ Aside0 (Below w.heap.size w wc))
  case first =>
    have H := HC3.out
    clear HC3
    by_cases c4 : a0 > 0
    · rw [if_pos c4] at H
      have c4b0 : decide (0 < a0) = true := decide_eq_true c4
      clear c4
      (first | rw [c4b0] | (simp only [i64_w, i32_w]; rw [c4b0]) | skip)
      by_cases c5 : a1 > 0
      · rw [if_pos c5] at H
        have c5b0 : decide (0 < a1) = true := decide_eq_true c5
        clear c5
        have H' := Aside0.mk H
        clear H
        go_wp2
        go_meet
        case rel => exact ⟨_, (decide ((wrap64 (a0 + a1)) < 0)), (by first | rfl | (simp; done) | (simp [*]; done)), H', ⟨by first | omega | exact Nat.le_refl _⟩, ⟨by repeat (first | (with_reducible first | exact HB.out | apply below_alloc | apply pw_below_drewN | apply below_drew1) | exact HB.out)⟩⟩
      · rw [if_neg c5] at H
        have c5b0 : decide (0 < a1) = false := decide_eq_false c5
        clear c5
        have H' := Aside0.mk H
        clear H
        go_wp2
        go_meet
        case rel => exact ⟨_, (false), (by first | rfl | (simp; done) | (simp [*]; done)), H', ⟨by first | omega | exact Nat.le_refl _⟩, ⟨by repeat (first | (with_reducible first | exact HB.out | apply below_alloc | apply pw_below_drewN | apply below_drew1) | exact HB.out)⟩⟩
    · rw [if_neg c4] at H
      have c4b0 : decide (0 < a0) = false := decide_eq_false c4
      clear c4
      (first | rw [c4b0] | (simp only [i64_w, i32_w]; rw [c4b0]) | skip)
      have H' := Aside0.mk H
      clear H
      go_wp2
      go_meet
      case rel => exact ⟨_, (false), (by first | rfl | (simp; done) | (simp [*]; done)), H', ⟨by first | omega | exact Nat.le_refl _⟩, ⟨by repeat (first | (with_reducible first | exact HB.out | apply below_alloc | apply pw_below_drewN | apply below_drew1) | exact HB.out)⟩⟩
  case rest =>
    clear HC3
    try clear p2
    try clear c4
    try clear c4b0
    try clear c5
    try clear c5b0
    obtain ⟨kq, x9_2, rfl, HA, HJ2, HB⟩ := hcut
    cases kq with
    | zero => exact absurd HA.out (by simp [fix_Add.j0])
    | succ kj2 =>
      have H := HA.out
      clear HA
      simp only [fix_Add.j0] at H
      by_cases c6 : x9_2 = true
      · subst c6
        have H1 : (some 9223372036854775807) = some r := by rw [if_pos rfl] at H; exact H
        clear H
        have H := H1
        clear H1
        obtain rfl := Option.some.inj H
        go_wp2
        go_ret
        exact ⟨by first | rfl | (simp [errW_none, errW_some] <;> rfl) | (simp [*, errW_none, errW_some] <;> rfl), by repeat (first | (with_reducible first | exact HB.out | apply below_alloc | apply pw_below_drewN | apply below_drew1) | exact HB.out)⟩
      · replace c6 := Bool.eq_false_iff.mpr c6
        subst c6
        have H1 : (if a0 < 0 then (if a1 < 0 then (if (wrap64 (a0 + a1)) ≥ 0 then (some (-9223372036854775807)) else (some (mx (wrap64 (a0 + a1)) (-9223372036854775807)))) else (some (mx (wrap64 (a0 + a1)) (-9223372036854775807)))) else (some (mx (wrap64 (a0 + a1)) (-9223372036854775807)))) = some r := by rw [if_neg (show ¬ (false = true) by decide)] at H; exact H
        clear H
        have H := H1
        clear H1
        by_cases c7 : a0 < 0
        · rw [if_pos c7] at H
          have c7b0 : decide (a0 < 0) = true := decide_eq_true c7
          clear c7
          by_cases c8 : a1 < 0
          · rw [if_pos c8] at H
            have c8b0 : decide (a1 < 0) = true := decide_eq_true c8
            clear c8
            by_cases c9 : (wrap64 (a0 + a1)) ≥ 0
            · rw [if_pos c9] at H
              have c9b0 : decide (0 ≤ (wrap64 (a0 + a1))) = true := decide_eq_true c9
              clear c9
              obtain rfl := Option.some.inj H
              go_wp2
              go_ret
              exact ⟨by first | rfl | (simp [errW_none, errW_some] <;> rfl) | (simp [*, errW_none, errW_some] <;> rfl), by repeat (first | (with_reducible first | exact HB.out | apply below_alloc | apply pw_below_drewN | apply below_drew1) | exact HB.out)⟩
            · rw [if_neg c9] at H
              have c9b0 : decide (0 ≤ (wrap64 (a0 + a1))) = false := decide_eq_false c9
              clear c9
              obtain ⟨ji10, hji10⟩ : ∃ j_ : Int, (mx (wrap64 (a0 + a1)) (-9223372036854775807)) = j_ := ⟨_, rfl⟩
              replace H : (some ji10) = some r := by first | (rw [hji10] at H; exact H) | (simp only [hji10] at H ⊢; exact H)
              have hji10_ : (if (wrap64 (a0 + a1)) < (-9223372036854775807) then (-9223372036854775807) else (wrap64 (a0 + a1))) = ji10 := hji10
              obtain rfl := Option.some.inj H
              go_wp2
              go_ret
              exact ⟨by first | rfl | (simp [errW_none, errW_some] <;> rfl) | (simp only [← hji10]; first | rfl | (simp [errW_none, errW_some] <;> rfl)) | (simp [*, errW_none, errW_some] <;> rfl), by repeat (first | (with_reducible first | exact HB.out | apply below_alloc | apply pw_below_drewN | apply below_drew1) | exact HB.out)⟩
          · rw [if_neg c8] at H
            have c8b0 : decide (a1 < 0) = false := decide_eq_false c8
            clear c8
            obtain ⟨ji11, hji11⟩ : ∃ j_ : Int, (mx (wrap64 (a0 + a1)) (-9223372036854775807)) = j_ := ⟨_, rfl⟩
            replace H : (some ji11) = some r := by first | (rw [hji11] at H; exact H) | (simp only [hji11] at H ⊢; exact H)
            have hji11_ : (if (wrap64 (a0 + a1)) < (-9223372036854775807) then (-9223372036854775807) else (wrap64 (a0 + a1))) = ji11 := hji11
            obtain rfl := Option.some.inj H
            go_wp2
            go_ret
            exact ⟨by first | rfl | (simp [errW_none, errW_some] <;> rfl) | (simp only [← hji11]; first | rfl | (simp [errW_none, errW_some] <;> rfl)) | (simp [*, errW_none, errW_some] <;> rfl), by repeat (first | (with_reducible first | exact HB.out | apply below_alloc | apply pw_below_drewN | apply below_drew1) | exact HB.out)⟩
        · rw [if_neg c7] at H
          have c7b0 : decide (a0 < 0) = false := decide_eq_false c7
          clear c7
          obtain ⟨ji12, hji12⟩ : ∃ j_ : Int, (mx (wrap64 (a0 + a1)) (-9223372036854775807)) = j_ := ⟨_, rfl⟩
          replace H : (some ji12) = some r := by first | (rw [hji12] at H; exact H) | (simp only [hji12] at H ⊢; exact H)
          have hji12_ : (if (wrap64 (a0 + a1)) < (-9223372036854775807) then (-9223372036854775807) else (wrap64 (a0 + a1))) = ji12 := hji12
          obtain rfl := Option.some.inj H
          go_wp2
          go_ret
          exact ⟨by first | rfl | (simp [errW_none, errW_some] <;> rfl) | (simp only [← hji12]; first | rfl | (simp [errW_none, errW_some] <;> rfl)) | (simp [*, errW_none, errW_some] <;> rfl), by repeat (first | (with_reducible first | exact HB.out | apply below_alloc | apply pw_below_drewN | apply below_drew1) | exact HB.out)⟩

/-! ### fix_size: function 78 -/
def fix_size.f (a0 : Int) : Option (Int × Bool) := if a0 < 0 then (some (IntKind.u64.wrap (-(IntKind.u64.wrap (a0))), true)) else (some (IntKind.u64.wrap (a0), false))
set_option maxHeartbeats 8000000 in
set_option maxRecDepth 100000 in
theorem fix_size.calls (a0 : Int) (r1 : Int) (r2 : Bool) (w : World) (h : fix_size.f a0 = some (r1, r2)) :
    Calls Try.prog 78 #[.int .i64 a0] w fun e w' => e = .returned (.tuple #[.int .u64 r1, .bool r2]) ∧ Drawn0 w w' := by
  have H : (if a0 < 0 then (some (IntKind.u64.wrap (-(IntKind.u64.wrap (a0))), true)) else (some (IntKind.u64.wrap (a0), false))) = some (r1, r2) := h
  clear h
  by_cases c2 : a0 < 0
  · rw [if_pos c2] at H
    have c2b0 : decide (a0 < 0) = true := decide_eq_true c2
    clear c2
    simp only [Option.some.injEq, Prod.mk.injEq] at H
    obtain ⟨rfl, rfl⟩ := H
    go_enter Try.func78, Try.ntmps78
    go_wp2
    go_ret2
    exact ⟨by first | rfl | (simp; done) | (simp [*]; done), by repeat (first | exact Drawn0.refl _ | apply Drawn0.step)⟩
  · rw [if_neg c2] at H
    have c2b0 : decide (a0 < 0) = false := decide_eq_false c2
    clear c2
    simp only [Option.some.injEq, Prod.mk.injEq] at H
    obtain ⟨rfl, rfl⟩ := H
    go_enter Try.func78, Try.ntmps78
    go_wp2
    go_ret2
    exact ⟨by first | rfl | (simp; done) | (simp [*]; done), by repeat (first | exact Drawn0.refl _ | apply Drawn0.step)⟩

/-! ### wide_halves: function 88 -/
theorem wide_halves.and_ (n : Int) (h0 : 0 ≤ n) (h1 : n ≤ 18446744073709551615) : Go.bits .and .u64 n 4294967295 = n % 4294967296 :=
  bits_mask .u64 64 (by decide) (fun m h0 h1 => by rw [IntKind.wrap_u64]; omega) 32 (by decide) n h0 (by omega)
theorem wide_halves.prod_bd (a b : Int) (h0 : 0 ≤ a) (h1 : a ≤ 4294967295) (h2 : 0 ≤ b) (h3 : b ≤ 4294967295) : 0 ≤ a * b ∧ a * b ≤ 18446744073709551615 := by
  have e0 := Int.mul_nonneg h0 h2
  have e1 : a * b ≤ 4294967295 * b := Int.mul_le_mul_of_nonneg_right h1 h2
  omega
theorem wide_halves.join (a b : Int) (h0 : 0 ≤ a) (h1 : a ≤ 4294967295) (h2 : 0 ≤ b) (h3 : b ≤ 4294967295) : Go.bits .or .u64 (a * 4294967296) b = a * 4294967296 + b :=
  bits_join .u64 64 (by decide) (fun n q0 q1 => by rw [IntKind.wrap_u64]; omega) 32 _ _ (by omega) (by omega) (by omega) (by omega) (by omega) (by omega)
theorem wide_halves.blk_at_new (w : World) (o : Obj) (n : Nat) (h : w.heap.size = n) : (w.alloc o).heap[n]? = some o := h ▸ blk_new w o
theorem wide_halves.blk_ne2 {w : World} {a b : Nat} {t u : TypeId} {cs ds : Array Value} (h : w.heap[a]? = some (.cells cs t (0, 0))) (k : w.heap[b]? = some (.cells ds u (0, 0))) (e : t ≠ u) : (a == b) = false := by
  rw [beq_eq_false_iff_ne]
  rintro rfl
  rw [h] at k
  injection (Option.some.inj k) with q1 q2
  exact e q2
set_option maxHeartbeats 8000000 in
set_option maxRecDepth 100000 in
theorem wide_halves.calls (n : Int) (w : World) (h0 : 0 ≤ n) (h1 : n ≤ 18446744073709551615) :
    Calls Try.prog 88 #[.int .u64 n] w fun e w' => e = .returned (.agg #[.int .u64 (n % 4294967296), .int .u64 (n / 4294967296)]) ∧ w.alloc (.cells #[.int .u64 (n % 4294967296), .int .u64 (n / 4294967296)] 122) = w' := by
  have ha := wide_halves.and_ n h0 h1
  clear h0 h1
  go_enter Try.func88, Try.ntmps88
  go_wp2
  exact bodyPost_ret (v := .agg #[.int .u64 (n % 4294967296), .int .u64 (n / 4294967296)]) (by simp [results, Try.results88, go_sem]) rfl ⟨rfl, rfl⟩

/-! ### wide_Mul: function 79 -/
def wide_Mul.f (a0 : Int) (a1 : Int) : Option (Int × Int) :=
  if 0 ≤ a0 ∧ a0 ≤ 18446744073709551615 ∧ 0 ≤ a1 ∧ a1 ≤ 18446744073709551615 then some (a0 * a1 / 18446744073709551616, a0 * a1 % 18446744073709551616) else none
def wide_Mul.St (V n s0 s1 s2 s3 : Int) : Prop :=
  0 ≤ s0 ∧ s0 ≤ n * 4294967295 ∧ 0 ≤ s1 ∧ s1 ≤ n * 4294967295 ∧ 0 ≤ s2 ∧ s2 ≤ n * 4294967295 ∧ 0 ≤ s3 ∧ s3 ≤ n * 4294967295 ∧ s0 + 4294967296 * s1 + 18446744073709551616 * s2 + 79228162514264337593543950336 * s3 = V
def wide_Mul.V (x0 x1 y0 y1 : Int) : Nat → Int
  | 0 => 0
  | 1 => x0 * y0
  | 2 => x0 * y0 + 4294967296 * (x0 * y1)
  | 3 => x0 * y0 + 4294967296 * (x0 * y1) + 4294967296 * (x1 * y0)
  | _ => x0 * y0 + 4294967296 * (x0 * y1) + 4294967296 * (x1 * y0) + 18446744073709551616 * (x1 * y1)
def wide_Mul.Cr (V c s0 s1 s2 s3 : Int) : Prop :=
  0 ≤ s0 ∧ s0 ≤ 20000000000 ∧ 0 ≤ s1 ∧ s1 ≤ 20000000000 ∧ 0 ≤ s2 ∧ s2 ≤ 20000000000 ∧ 0 ≤ s3 ∧ s3 ≤ 20000000000 ∧ (1 ≤ c → s0 ≤ 4294967295) ∧ (2 ≤ c → s1 ≤ 4294967295) ∧ (3 ≤ c → s2 ≤ 4294967295) ∧ (c ≤ 1 → s2 ≤ 17179869180) ∧ (c ≤ 2 → s3 ≤ 17179869180) ∧ (c ≤ 0 → s1 ≤ 17179869180) ∧ s0 + 4294967296 * s1 + 18446744073709551616 * s2 + 79228162514264337593543950336 * s3 = V
theorem wide_Mul.all (x0 x1 y0 y1 : Int) : wide_Mul.V x0 x1 y0 y1 4 = (x0 + 4294967296 * x1) * (y0 + 4294967296 * y1) := by
  have e1 : x0 * (4294967296 * y1) = 4294967296 * (x0 * y1) := Int.mul_left_comm _ _ _
  have e2 : 4294967296 * x1 * (4294967296 * y1) = 18446744073709551616 * (x1 * y1) := by
    rw [Int.mul_assoc, Int.mul_left_comm x1]
    omega
  have e3 : 4294967296 * x1 * y0 = 4294967296 * (x1 * y0) := Int.mul_assoc _ _ _
  simp only [wide_Mul.V, Int.add_mul, Int.mul_add]
  rw [e1, e2, e3]
  omega
set_option maxHeartbeats 16000000 in
set_option maxRecDepth 100000 in
theorem wide_Mul.calls (a0 : Int) (a1 : Int) (r1 : Int) (r2 : Int) (w : World) (h : wide_Mul.f a0 a1 = some (r1, r2)) :
    Calls Try.prog 79 #[.int .u64 a0, .int .u64 a1] w fun e w' => e = .returned (.tuple #[.int .u64 r1, .int .u64 r2]) ∧ Below w.heap.size w w' := by
  have hb : 0 ≤ a0 ∧ a0 ≤ 18446744073709551615 ∧ 0 ≤ a1 ∧ a1 ≤ 18446744073709551615 ∧ a0 * a1 / 18446744073709551616 = r1 ∧ a0 * a1 % 18446744073709551616 = r2 := by
    unfold wide_Mul.f at h
    split at h
    · rename_i c
      have e := Prod.mk.inj (Option.some.inj h)
      exact ⟨c.1, c.2.1, c.2.2.1, c.2.2.2, e.1, e.2⟩
    · cases h
  have HA := Aside0.mk hb
  clear h hb
  go_enter Try.func79, Try.ntmps79
  go_wp2_with (first | (go_at_call 88; (with_reducible refine (wide_halves.calls a0 _ HA.out.1 HA.out.2.1).mono ?_); rintro e w' ⟨rfl, rfl⟩) | (go_at_call 88; (with_reducible refine (wide_halves.calls a1 _ HA.out.2.2.1 HA.out.2.2.2.1).mono ?_); rintro e w' ⟨rfl, rfl⟩))
  obtain ⟨x0, e0⟩ : ∃ x, a0 % 4294967296 = x := ⟨_, rfl⟩
  obtain ⟨x1, e1⟩ : ∃ x, a0 / 4294967296 = x := ⟨_, rfl⟩
  obtain ⟨y0, e2⟩ : ∃ x, a1 % 4294967296 = x := ⟨_, rfl⟩
  obtain ⟨y1, e3⟩ : ∃ x, a1 / 4294967296 = x := ⟨_, rfl⟩
  rw [e0, e1, e2, e3]
  have hx : 0 ≤ x0 ∧ x0 ≤ 4294967295 ∧ 0 ≤ x1 ∧ x1 ≤ 4294967295 ∧ 0 ≤ y0 ∧ y0 ≤ 4294967295 ∧ 0 ≤ y1 ∧ y1 ≤ 4294967295 ∧ a0 = x0 + 4294967296 * x1 ∧ a1 = y0 + 4294967296 * y1 := by
    have := HA.out
    omega
  have HX := Aside0.mk hx
  clear e0 e1 e2 e3 hx
  have hbel : Below w.heap.size w (((((w.alloc (Obj.cells #[Value.int IntKind.u64 x0, Value.int IntKind.u64 x1] 122)).alloc (Obj.cells #[Value.int IntKind.u64 y0, Value.int IntKind.u64 y1] 122)).alloc (Obj.cells #[Value.int IntKind.u64 x0, Value.int IntKind.u64 x1] 122)).alloc (Obj.cells #[Value.int IntKind.u64 y0, Value.int IntKind.u64 y1] 122)).alloc (Obj.cells #[Value.int IntKind.u64 0, Value.int IntKind.u64 0, Value.int IntKind.u64 0, Value.int IntKind.u64 0] 128)) := by
    repeat (first | exact Below.refl _ _ | apply below_alloc)
  obtain ⟨X, hX⟩ : ∃ X, w.heap.size + 1 + 1 = X := ⟨_, rfl⟩
  rw [hX]
  have hXw : w.heap.size ≤ X := by omega
  have hcx : (((((w.alloc (Obj.cells #[Value.int IntKind.u64 x0, Value.int IntKind.u64 x1] 122)).alloc (Obj.cells #[Value.int IntKind.u64 y0, Value.int IntKind.u64 y1] 122)).alloc (Obj.cells #[Value.int IntKind.u64 x0, Value.int IntKind.u64 x1] 122)).alloc (Obj.cells #[Value.int IntKind.u64 y0, Value.int IntKind.u64 y1] 122)).alloc (Obj.cells #[Value.int IntKind.u64 0, Value.int IntKind.u64 0, Value.int IntKind.u64 0, Value.int IntKind.u64 0] 128)).heap[X]? = some (Obj.cells #[Value.int IntKind.u64 x0, Value.int IntKind.u64 x1] 122 (0, 0)) := blk_alloc (blk_alloc (wide_halves.blk_at_new ((w.alloc _).alloc _) _ X (by simp; omega)) _) _
  have hcy : (((((w.alloc (Obj.cells #[Value.int IntKind.u64 x0, Value.int IntKind.u64 x1] 122)).alloc (Obj.cells #[Value.int IntKind.u64 y0, Value.int IntKind.u64 y1] 122)).alloc (Obj.cells #[Value.int IntKind.u64 x0, Value.int IntKind.u64 x1] 122)).alloc (Obj.cells #[Value.int IntKind.u64 y0, Value.int IntKind.u64 y1] 122)).alloc (Obj.cells #[Value.int IntKind.u64 0, Value.int IntKind.u64 0, Value.int IntKind.u64 0, Value.int IntKind.u64 0] 128)).heap[X + 1]? = some (Obj.cells #[Value.int IntKind.u64 y0, Value.int IntKind.u64 y1] 122 (0, 0)) := blk_alloc (wide_halves.blk_at_new (((w.alloc _).alloc _).alloc _) _ (X + 1) (by simp; omega)) _
  have hcz : (((((w.alloc (Obj.cells #[Value.int IntKind.u64 x0, Value.int IntKind.u64 x1] 122)).alloc (Obj.cells #[Value.int IntKind.u64 y0, Value.int IntKind.u64 y1] 122)).alloc (Obj.cells #[Value.int IntKind.u64 x0, Value.int IntKind.u64 x1] 122)).alloc (Obj.cells #[Value.int IntKind.u64 y0, Value.int IntKind.u64 y1] 122)).alloc (Obj.cells #[Value.int IntKind.u64 0, Value.int IntKind.u64 0, Value.int IntKind.u64 0, Value.int IntKind.u64 0] 128)).heap[X + 1 + 1]? = some (Obj.cells #[Value.int IntKind.u64 0, Value.int IntKind.u64 0, Value.int IntKind.u64 0, Value.int IntKind.u64 0] 128 (0, 0)) := wide_halves.blk_at_new ((((w.alloc _).alloc _).alloc _).alloc _) _ (X + 1 + 1) (by simp; omega)
  generalize (((((w.alloc (Obj.cells #[Value.int IntKind.u64 x0, Value.int IntKind.u64 x1] 122)).alloc (Obj.cells #[Value.int IntKind.u64 y0, Value.int IntKind.u64 y1] 122)).alloc (Obj.cells #[Value.int IntKind.u64 x0, Value.int IntKind.u64 x1] 122)).alloc (Obj.cells #[Value.int IntKind.u64 y0, Value.int IntKind.u64 y1] 122)).alloc (Obj.cells #[Value.int IntKind.u64 0, Value.int IntKind.u64 0, Value.int IntKind.u64 0, Value.int IntKind.u64 0] 128)) = w0 at hbel hcx hcy hcz ⊢
  have HXW := Aside0.mk hXw
  have HB := Aside0.mk hbel
  have HCX := Aside0.mk hcx
  have HCY := Aside0.mk hcy
  have HCZ := Aside0.mk hcz
  clear hbel hcx hcy hcz hX hXw
  go_loopg [17] 2 (fun g i wr => ∃ j : Nat, ∃ c s0 s1 s2 s3 : Int, (j = 0 ∧ c = 0 ∧ g = 2 ∨ j = 2 ∧ c = 1 ∧ g = 1 ∨ j = 4 ∧ c = 2 ∧ g = 0) ∧ i = .int .i64 c ∧ wide_Mul.St (wide_Mul.V x0 x1 y0 y1 j) j s0 s1 s2 s3 ∧ wr.heap[X]? = some (Obj.cells #[Value.int IntKind.u64 x0, Value.int IntKind.u64 x1] 122 (0, 0)) ∧ wr.heap[X + 1]? = some (Obj.cells #[Value.int IntKind.u64 y0, Value.int IntKind.u64 y1] 122 (0, 0)) ∧ wr.heap[X + 1 + 1]? = some (Obj.cells #[Value.int IntKind.u64 s0, Value.int IntKind.u64 s1, Value.int IntKind.u64 s2, Value.int IntKind.u64 s3] 128 (0, 0)) ∧ Below w.heap.size w wr)
  case atStart => exact ⟨0, 0, 0, 0, 0, 0, .inl ⟨rfl, rfl, rfl⟩, rfl, by unfold wide_Mul.St wide_Mul.V; simp, HCX.out, HCY.out, HCZ.out, HB.out⟩
  case round =>
    obtain ⟨j, c, s0, s1, s2, s3, hj, rfl, hst, hcx, hcy, hcz, hbel⟩ := hrel
    clear HB HCX HCY HCZ
    have HST := Aside0.mk hst
    have HB := Aside0.mk hbel
    have HCX := Aside0.mk hcx
    have HCY := Aside0.mk hcy
    have HCZ := Aside0.mk hcz
    clear hst hbel hcx hcy hcz
    obtain ⟨wo, rfl⟩ : ∃ wo : World, wo = wr := ⟨_, rfl⟩
    rcases hj with ⟨rfl, rfl, rfl⟩ | ⟨rfl, rfl, rfl⟩ | ⟨rfl, rfl, rfl⟩
    · go_wp2
      go_loopg [20] 2 (fun g q wr => ∃ j : Nat, ∃ c s0 s1 s2 s3 : Int, (j = 0 ∧ c = 0 ∧ g = 2 ∨ j = 1 ∧ c = 1 ∧ g = 1 ∨ j = 2 ∧ c = 2 ∧ g = 0) ∧ q = .int .i64 c ∧ wide_Mul.St (wide_Mul.V x0 x1 y0 y1 j) j s0 s1 s2 s3 ∧ wr.heap[X]? = some (Obj.cells #[Value.int IntKind.u64 x0, Value.int IntKind.u64 x1] 122 (0, 0)) ∧ wr.heap[X + 1]? = some (Obj.cells #[Value.int IntKind.u64 y0, Value.int IntKind.u64 y1] 122 (0, 0)) ∧ wr.heap[X + 1 + 1]? = some (Obj.cells #[Value.int IntKind.u64 s0, Value.int IntKind.u64 s1, Value.int IntKind.u64 s2, Value.int IntKind.u64 s3] 128 (0, 0)) ∧ Below w.heap.size w wr)
      case atStart => exact ⟨0, 0, s0, s1, s2, s3, .inl ⟨rfl, rfl, rfl⟩, rfl, HST.out, HCX.out, HCY.out, HCZ.out, HB.out⟩
      case round =>
        clear HB HCX HCY HCZ HST
        obtain ⟨j, c, s0, s1, s2, s3, hj, rfl, hst, hcx, hcy, hcz, hbel⟩ := hrel
        have HST := Aside0.mk hst
        have HB := Aside0.mk hbel
        have HCX := Aside0.mk hcx
        have HCY := Aside0.mk hcy
        have HCZ := Aside0.mk hcz
        clear hst hbel hcx hcy hcz
        rcases hj with ⟨rfl, rfl, rfl⟩ | ⟨rfl, rfl, rfl⟩ | ⟨rfl, rfl, rfl⟩
        · obtain ⟨p, hp⟩ : ∃ p, x0 * y0 = p := ⟨_, rfl⟩
          have hpb : 0 ≤ p ∧ p ≤ 18446744073709551615 := by
            have := HX.out
            rw [← hp]
            exact wide_halves.prod_bd _ _ (by omega) (by omega) (by omega) (by omega)
          have hw : IntKind.u64.wrap (x0 * y0) = p := by rw [IntKind.wrap_u64, hp]; omega
          have HP := Aside0.mk hp
          have HPB := Aside0.mk hpb
          clear hp hpb
          have cx := (blk_cell HCX.out 0).trans (show _ = some (Value.int IntKind.u64 x0) from rfl)
          have cy := (blk_cell HCY.out 0).trans (show _ = some (Value.int IntKind.u64 y0) from rfl)
          have hx1 : X < wr.heap.size := blk_lt HCX.out
          have hy1 : X + 1 < wr.heap.size := blk_lt HCY.out
          have hz1 : X + 1 + 1 < wr.heap.size := blk_lt HCZ.out
          have cx0 : ∀ o, (wr.alloc o).cell? ⟨X, 0, none⟩ = some (Value.int IntKind.u64 x0) := fun o => (blk_cell (blk_alloc HCX.out o) 0).trans rfl
          have cy0 : ∀ o, (wr.alloc o).cell? ⟨X + 1, 0, none⟩ = some (Value.int IntKind.u64 y0) := fun o => (blk_cell (blk_alloc HCY.out o) 0).trans rfl
          go_upto_region 9 with fail
          go_cut [11] (fun s11 wx => ∃ P : Nat, s11 = .pointer (some ⟨P, 0, none⟩) ∧ w.heap.size ≤ P ∧ wx.heap[P]? = some (Obj.cells #[Value.int IntKind.u64 (p % 4294967296), Value.int IntKind.u64 (p / 4294967296)] 122 (0, 0)) ∧ wx.heap[X]? = some (Obj.cells #[Value.int IntKind.u64 x0, Value.int IntKind.u64 x1] 122 (0, 0)) ∧ wx.heap[X + 1]? = some (Obj.cells #[Value.int IntKind.u64 y0, Value.int IntKind.u64 y1] 122 (0, 0)) ∧ wx.heap[X + 1 + 1]? = some (Obj.cells #[Value.int IntKind.u64 s0, Value.int IntKind.u64 s1, Value.int IntKind.u64 s2, Value.int IntKind.u64 s3] 128 (0, 0)) ∧ Below w.heap.size w wx)
          case first =>
            go_region_held3 (fun w' => w'.cell? ⟨X, 0, none⟩ = some (Value.int IntKind.u64 x0) ∧ w'.cell? ⟨X + 1, 0, none⟩ = some (Value.int IntKind.u64 y0)) (go_keep) (first | (go_at_call 88; (with_reducible refine (wide_halves.calls p _ HPB.out.1 HPB.out.2).mono ?_); rintro e w' ⟨rfl, rfl⟩))
            all_goals (go_wp2_with fail; go_meet)
            all_goals (case rel => first | exact ⟨wr.heap.size + 1, rfl, by have q1 := blk_lt HCX.out; have q2 := HXW.out; omega, blk_drew (wide_halves.blk_at_new (wr.alloc _) _ _ (by simp)), blk_drew (blk_alloc (blk_alloc HCX.out _) _), blk_drew (blk_alloc (blk_alloc HCY.out _) _), blk_drew (blk_alloc (blk_alloc HCZ.out _) _), below_drew (below_alloc (below_alloc HB.out _) _)⟩ | exact ⟨wr.heap.size, rfl, by have q1 := blk_lt HCX.out; have q2 := HXW.out; omega, blk_drew (blk_alloc (blk_new wr _) _), blk_drew (blk_alloc (blk_alloc HCX.out _) _), blk_drew (blk_alloc (blk_alloc HCY.out _) _), blk_drew (blk_alloc (blk_alloc HCZ.out _) _), below_drew (below_alloc (below_alloc HB.out _) _)⟩)
          case rest =>
            obtain ⟨P, rfl, hPw, hp, hcx, hcy, hcz, hbel⟩ := hcut
            clear cx cy hx1 hy1 hz1 cx0 cy0 hw
            obtain ⟨wb, rfl⟩ : ∃ wb : World, wb = wc := ⟨_, rfl⟩
            obtain ⟨pl, e1⟩ : ∃ x, p % 4294967296 = x := ⟨_, rfl⟩
            obtain ⟨ph, e2⟩ : ∃ x, p / 4294967296 = x := ⟨_, rfl⟩
            rw [e1, e2] at hp
            have hq : 0 ≤ pl ∧ pl ≤ 4294967295 ∧ 0 ≤ ph ∧ ph ≤ 4294967295 ∧ p = pl + 4294967296 * ph := by
              have := HPB.out
              omega
            have HQ := Aside0.mk hq
            clear e1 e2 hq
            have cz := (blk_cell hcz 0).trans (show _ = some (Value.int IntKind.u64 s0) from rfl)
            have cz2 := (blk_cell hcz 1).trans (show _ = some (Value.int IntKind.u64 s1) from rfl)
            have cp := (blk_cell hp 0).trans (show _ = some (Value.int IntKind.u64 pl) from rfl)
            have cp2 := (blk_cell hp 1).trans (show _ = some (Value.int IntKind.u64 ph) from rfl)
            have fz := blk_frozen hcz 0
            have fz2 := blk_frozen hcz 1
            have w1 : IntKind.u64.wrap (s0 + pl) = s0 + pl := by
              have h1 := HST.out
              have h2 := HQ.out
              unfold wide_Mul.St at h1
              rw [IntKind.wrap_u64]
              omega
            have w2 : IntKind.u64.wrap (s1 + ph) = s1 + ph := by
              have h1 := HST.out
              have h2 := HQ.out
              unfold wide_Mul.St at h1
              rw [IntKind.wrap_u64]
              omega
            have hpz : P ≠ X + 1 + 1 := beq_eq_false_iff_ne.mp (wide_halves.blk_ne2 hp hcz (by decide))
            have cpS : ∀ v, (wb.setCell ⟨X + 1 + 1, 0, none⟩ v).cell? ⟨P, 1, none⟩ = some (Value.int IntKind.u64 ph) := fun v => (blk_cell (blk_far hp hpz v) 1).trans rfl
            have HCP := Aside0.mk hp
            have HCX := Aside0.mk hcx
            have HCY := Aside0.mk hcy
            have HCZ := Aside0.mk hcz
            have HB := Aside0.mk hbel
            have HPW := Aside0.mk hPw
            clear hp hcx hcy hcz hbel hPw
            go_wp2_with fail
            go_region
            go_wp2_with fail
            go_region
            go_wp2
            go_roundg 1
            case measure => omega
            case rel => exact ⟨1, 1, (s0 + pl), (s1 + ph), s2, s3, .inr (.inl ⟨rfl, rfl, rfl⟩), by first | rfl | go_num, by (have h1 := HST.out; have h2 := HQ.out; have h3 := HP.out; unfold wide_Mul.St at h1 ⊢; simp only [wide_Mul.V] at h1 ⊢; omega), blk_drew (blk_drew (blk_far (blk_far HCX.out (by simp; try omega) _) (by simp; try omega) _)), blk_drew (blk_drew (blk_far (blk_far HCY.out (by simp; try omega) _) (by simp; try omega) _)), blk_drew (blk_drew (blk_put (blk_put HCZ.out 0 _ rfl) 1 _ rfl)), below_drew (below_drew ((HB.out.setCell (by have q := HXW.out; simp; omega) _).setCell (by have q := HXW.out; simp; omega) _))⟩
        · obtain ⟨p, hp⟩ : ∃ p, x0 * y1 = p := ⟨_, rfl⟩
          have hpb : 0 ≤ p ∧ p ≤ 18446744073709551615 := by
            have := HX.out
            rw [← hp]
            exact wide_halves.prod_bd _ _ (by omega) (by omega) (by omega) (by omega)
          have hw : IntKind.u64.wrap (x0 * y1) = p := by rw [IntKind.wrap_u64, hp]; omega
          have HP := Aside0.mk hp
          have HPB := Aside0.mk hpb
          clear hp hpb
          have cx := (blk_cell HCX.out 0).trans (show _ = some (Value.int IntKind.u64 x0) from rfl)
          have cy := (blk_cell HCY.out 1).trans (show _ = some (Value.int IntKind.u64 y1) from rfl)
          have hx1 : X < wr.heap.size := blk_lt HCX.out
          have hy1 : X + 1 < wr.heap.size := blk_lt HCY.out
          have hz1 : X + 1 + 1 < wr.heap.size := blk_lt HCZ.out
          have cx0 : ∀ o, (wr.alloc o).cell? ⟨X, 0, none⟩ = some (Value.int IntKind.u64 x0) := fun o => (blk_cell (blk_alloc HCX.out o) 0).trans rfl
          have cy0 : ∀ o, (wr.alloc o).cell? ⟨X + 1, 1, none⟩ = some (Value.int IntKind.u64 y1) := fun o => (blk_cell (blk_alloc HCY.out o) 1).trans rfl
          go_upto_region 9 with fail
          go_cut [11] (fun s11 wx => ∃ P : Nat, s11 = .pointer (some ⟨P, 0, none⟩) ∧ w.heap.size ≤ P ∧ wx.heap[P]? = some (Obj.cells #[Value.int IntKind.u64 (p % 4294967296), Value.int IntKind.u64 (p / 4294967296)] 122 (0, 0)) ∧ wx.heap[X]? = some (Obj.cells #[Value.int IntKind.u64 x0, Value.int IntKind.u64 x1] 122 (0, 0)) ∧ wx.heap[X + 1]? = some (Obj.cells #[Value.int IntKind.u64 y0, Value.int IntKind.u64 y1] 122 (0, 0)) ∧ wx.heap[X + 1 + 1]? = some (Obj.cells #[Value.int IntKind.u64 s0, Value.int IntKind.u64 s1, Value.int IntKind.u64 s2, Value.int IntKind.u64 s3] 128 (0, 0)) ∧ Below w.heap.size w wx)
          case first =>
            go_region_held3 (fun w' => w'.cell? ⟨X, 0, none⟩ = some (Value.int IntKind.u64 x0) ∧ w'.cell? ⟨X + 1, 1, none⟩ = some (Value.int IntKind.u64 y1)) (go_keep) (first | (go_at_call 88; (with_reducible refine (wide_halves.calls p _ HPB.out.1 HPB.out.2).mono ?_); rintro e w' ⟨rfl, rfl⟩))
            all_goals (go_wp2_with fail; go_meet)
            all_goals (case rel => first | exact ⟨wr.heap.size + 1, rfl, by have q1 := blk_lt HCX.out; have q2 := HXW.out; omega, blk_drew (wide_halves.blk_at_new (wr.alloc _) _ _ (by simp)), blk_drew (blk_alloc (blk_alloc HCX.out _) _), blk_drew (blk_alloc (blk_alloc HCY.out _) _), blk_drew (blk_alloc (blk_alloc HCZ.out _) _), below_drew (below_alloc (below_alloc HB.out _) _)⟩ | exact ⟨wr.heap.size, rfl, by have q1 := blk_lt HCX.out; have q2 := HXW.out; omega, blk_drew (blk_alloc (blk_new wr _) _), blk_drew (blk_alloc (blk_alloc HCX.out _) _), blk_drew (blk_alloc (blk_alloc HCY.out _) _), blk_drew (blk_alloc (blk_alloc HCZ.out _) _), below_drew (below_alloc (below_alloc HB.out _) _)⟩)
          case rest =>
            obtain ⟨P, rfl, hPw, hp, hcx, hcy, hcz, hbel⟩ := hcut
            clear cx cy hx1 hy1 hz1 cx0 cy0 hw
            obtain ⟨wb, rfl⟩ : ∃ wb : World, wb = wc := ⟨_, rfl⟩
            obtain ⟨pl, e1⟩ : ∃ x, p % 4294967296 = x := ⟨_, rfl⟩
            obtain ⟨ph, e2⟩ : ∃ x, p / 4294967296 = x := ⟨_, rfl⟩
            rw [e1, e2] at hp
            have hq : 0 ≤ pl ∧ pl ≤ 4294967295 ∧ 0 ≤ ph ∧ ph ≤ 4294967295 ∧ p = pl + 4294967296 * ph := by
              have := HPB.out
              omega
            have HQ := Aside0.mk hq
            clear e1 e2 hq
            have cz := (blk_cell hcz 1).trans (show _ = some (Value.int IntKind.u64 s1) from rfl)
            have cz2 := (blk_cell hcz 2).trans (show _ = some (Value.int IntKind.u64 s2) from rfl)
            have cp := (blk_cell hp 0).trans (show _ = some (Value.int IntKind.u64 pl) from rfl)
            have cp2 := (blk_cell hp 1).trans (show _ = some (Value.int IntKind.u64 ph) from rfl)
            have fz := blk_frozen hcz 1
            have fz2 := blk_frozen hcz 2
            have w1 : IntKind.u64.wrap (s1 + pl) = s1 + pl := by
              have h1 := HST.out
              have h2 := HQ.out
              unfold wide_Mul.St at h1
              rw [IntKind.wrap_u64]
              omega
            have w2 : IntKind.u64.wrap (s2 + ph) = s2 + ph := by
              have h1 := HST.out
              have h2 := HQ.out
              unfold wide_Mul.St at h1
              rw [IntKind.wrap_u64]
              omega
            have hpz : P ≠ X + 1 + 1 := beq_eq_false_iff_ne.mp (wide_halves.blk_ne2 hp hcz (by decide))
            have cpS : ∀ v, (wb.setCell ⟨X + 1 + 1, 1, none⟩ v).cell? ⟨P, 1, none⟩ = some (Value.int IntKind.u64 ph) := fun v => (blk_cell (blk_far hp hpz v) 1).trans rfl
            have HCP := Aside0.mk hp
            have HCX := Aside0.mk hcx
            have HCY := Aside0.mk hcy
            have HCZ := Aside0.mk hcz
            have HB := Aside0.mk hbel
            have HPW := Aside0.mk hPw
            clear hp hcx hcy hcz hbel hPw
            go_wp2_with fail
            go_region
            go_wp2_with fail
            go_region
            go_wp2
            go_roundg 0
            case measure => omega
            case rel => exact ⟨2, 2, s0, (s1 + pl), (s2 + ph), s3, .inr (.inr ⟨rfl, rfl, rfl⟩), by first | rfl | go_num, by (have h1 := HST.out; have h2 := HQ.out; have h3 := HP.out; unfold wide_Mul.St at h1 ⊢; simp only [wide_Mul.V] at h1 ⊢; omega), blk_drew (blk_drew (blk_far (blk_far HCX.out (by simp; try omega) _) (by simp; try omega) _)), blk_drew (blk_drew (blk_far (blk_far HCY.out (by simp; try omega) _) (by simp; try omega) _)), blk_drew (blk_drew (blk_put (blk_put HCZ.out 1 _ rfl) 2 _ rfl)), below_drew (below_drew ((HB.out.setCell (by have q := HXW.out; simp; omega) _).setCell (by have q := HXW.out; simp; omega) _))⟩
        · go_wp2
          go_roundg 1
          case measure => omega
          case rel => exact ⟨2, 1, s0, s1, s2, s3, .inr (.inl ⟨rfl, rfl, rfl⟩), by first | rfl | go_num, HST.out, HCX.out, HCY.out, HCZ.out, HB.out⟩
    · go_wp2
      go_loopg [20] 2 (fun g q wr => ∃ j : Nat, ∃ c s0 s1 s2 s3 : Int, (j = 2 ∧ c = 0 ∧ g = 2 ∨ j = 3 ∧ c = 1 ∧ g = 1 ∨ j = 4 ∧ c = 2 ∧ g = 0) ∧ q = .int .i64 c ∧ wide_Mul.St (wide_Mul.V x0 x1 y0 y1 j) j s0 s1 s2 s3 ∧ wr.heap[X]? = some (Obj.cells #[Value.int IntKind.u64 x0, Value.int IntKind.u64 x1] 122 (0, 0)) ∧ wr.heap[X + 1]? = some (Obj.cells #[Value.int IntKind.u64 y0, Value.int IntKind.u64 y1] 122 (0, 0)) ∧ wr.heap[X + 1 + 1]? = some (Obj.cells #[Value.int IntKind.u64 s0, Value.int IntKind.u64 s1, Value.int IntKind.u64 s2, Value.int IntKind.u64 s3] 128 (0, 0)) ∧ Below w.heap.size w wr)
      case atStart => exact ⟨2, 0, s0, s1, s2, s3, .inl ⟨rfl, rfl, rfl⟩, rfl, HST.out, HCX.out, HCY.out, HCZ.out, HB.out⟩
      case round =>
        clear HB HCX HCY HCZ HST
        obtain ⟨j, c, s0, s1, s2, s3, hj, rfl, hst, hcx, hcy, hcz, hbel⟩ := hrel
        have HST := Aside0.mk hst
        have HB := Aside0.mk hbel
        have HCX := Aside0.mk hcx
        have HCY := Aside0.mk hcy
        have HCZ := Aside0.mk hcz
        clear hst hbel hcx hcy hcz
        rcases hj with ⟨rfl, rfl, rfl⟩ | ⟨rfl, rfl, rfl⟩ | ⟨rfl, rfl, rfl⟩
        · obtain ⟨p, hp⟩ : ∃ p, x1 * y0 = p := ⟨_, rfl⟩
          have hpb : 0 ≤ p ∧ p ≤ 18446744073709551615 := by
            have := HX.out
            rw [← hp]
            exact wide_halves.prod_bd _ _ (by omega) (by omega) (by omega) (by omega)
          have hw : IntKind.u64.wrap (x1 * y0) = p := by rw [IntKind.wrap_u64, hp]; omega
          have HP := Aside0.mk hp
          have HPB := Aside0.mk hpb
          clear hp hpb
          have cx := (blk_cell HCX.out 1).trans (show _ = some (Value.int IntKind.u64 x1) from rfl)
          have cy := (blk_cell HCY.out 0).trans (show _ = some (Value.int IntKind.u64 y0) from rfl)
          have hx1 : X < wr.heap.size := blk_lt HCX.out
          have hy1 : X + 1 < wr.heap.size := blk_lt HCY.out
          have hz1 : X + 1 + 1 < wr.heap.size := blk_lt HCZ.out
          have cx0 : ∀ o, (wr.alloc o).cell? ⟨X, 1, none⟩ = some (Value.int IntKind.u64 x1) := fun o => (blk_cell (blk_alloc HCX.out o) 1).trans rfl
          have cy0 : ∀ o, (wr.alloc o).cell? ⟨X + 1, 0, none⟩ = some (Value.int IntKind.u64 y0) := fun o => (blk_cell (blk_alloc HCY.out o) 0).trans rfl
          go_upto_region 9 with fail
          go_cut [11] (fun s11 wx => ∃ P : Nat, s11 = .pointer (some ⟨P, 0, none⟩) ∧ w.heap.size ≤ P ∧ wx.heap[P]? = some (Obj.cells #[Value.int IntKind.u64 (p % 4294967296), Value.int IntKind.u64 (p / 4294967296)] 122 (0, 0)) ∧ wx.heap[X]? = some (Obj.cells #[Value.int IntKind.u64 x0, Value.int IntKind.u64 x1] 122 (0, 0)) ∧ wx.heap[X + 1]? = some (Obj.cells #[Value.int IntKind.u64 y0, Value.int IntKind.u64 y1] 122 (0, 0)) ∧ wx.heap[X + 1 + 1]? = some (Obj.cells #[Value.int IntKind.u64 s0, Value.int IntKind.u64 s1, Value.int IntKind.u64 s2, Value.int IntKind.u64 s3] 128 (0, 0)) ∧ Below w.heap.size w wx)
          case first =>
            go_region_held3 (fun w' => w'.cell? ⟨X, 1, none⟩ = some (Value.int IntKind.u64 x1) ∧ w'.cell? ⟨X + 1, 0, none⟩ = some (Value.int IntKind.u64 y0)) (go_keep) (first | (go_at_call 88; (with_reducible refine (wide_halves.calls p _ HPB.out.1 HPB.out.2).mono ?_); rintro e w' ⟨rfl, rfl⟩))
            all_goals (go_wp2_with fail; go_meet)
            all_goals (case rel => first | exact ⟨wr.heap.size + 1, rfl, by have q1 := blk_lt HCX.out; have q2 := HXW.out; omega, blk_drew (wide_halves.blk_at_new (wr.alloc _) _ _ (by simp)), blk_drew (blk_alloc (blk_alloc HCX.out _) _), blk_drew (blk_alloc (blk_alloc HCY.out _) _), blk_drew (blk_alloc (blk_alloc HCZ.out _) _), below_drew (below_alloc (below_alloc HB.out _) _)⟩ | exact ⟨wr.heap.size, rfl, by have q1 := blk_lt HCX.out; have q2 := HXW.out; omega, blk_drew (blk_alloc (blk_new wr _) _), blk_drew (blk_alloc (blk_alloc HCX.out _) _), blk_drew (blk_alloc (blk_alloc HCY.out _) _), blk_drew (blk_alloc (blk_alloc HCZ.out _) _), below_drew (below_alloc (below_alloc HB.out _) _)⟩)
          case rest =>
            obtain ⟨P, rfl, hPw, hp, hcx, hcy, hcz, hbel⟩ := hcut
            clear cx cy hx1 hy1 hz1 cx0 cy0 hw
            obtain ⟨wb, rfl⟩ : ∃ wb : World, wb = wc := ⟨_, rfl⟩
            obtain ⟨pl, e1⟩ : ∃ x, p % 4294967296 = x := ⟨_, rfl⟩
            obtain ⟨ph, e2⟩ : ∃ x, p / 4294967296 = x := ⟨_, rfl⟩
            rw [e1, e2] at hp
            have hq : 0 ≤ pl ∧ pl ≤ 4294967295 ∧ 0 ≤ ph ∧ ph ≤ 4294967295 ∧ p = pl + 4294967296 * ph := by
              have := HPB.out
              omega
            have HQ := Aside0.mk hq
            clear e1 e2 hq
            have cz := (blk_cell hcz 1).trans (show _ = some (Value.int IntKind.u64 s1) from rfl)
            have cz2 := (blk_cell hcz 2).trans (show _ = some (Value.int IntKind.u64 s2) from rfl)
            have cp := (blk_cell hp 0).trans (show _ = some (Value.int IntKind.u64 pl) from rfl)
            have cp2 := (blk_cell hp 1).trans (show _ = some (Value.int IntKind.u64 ph) from rfl)
            have fz := blk_frozen hcz 1
            have fz2 := blk_frozen hcz 2
            have w1 : IntKind.u64.wrap (s1 + pl) = s1 + pl := by
              have h1 := HST.out
              have h2 := HQ.out
              unfold wide_Mul.St at h1
              rw [IntKind.wrap_u64]
              omega
            have w2 : IntKind.u64.wrap (s2 + ph) = s2 + ph := by
              have h1 := HST.out
              have h2 := HQ.out
              unfold wide_Mul.St at h1
              rw [IntKind.wrap_u64]
              omega
            have hpz : P ≠ X + 1 + 1 := beq_eq_false_iff_ne.mp (wide_halves.blk_ne2 hp hcz (by decide))
            have cpS : ∀ v, (wb.setCell ⟨X + 1 + 1, 1, none⟩ v).cell? ⟨P, 1, none⟩ = some (Value.int IntKind.u64 ph) := fun v => (blk_cell (blk_far hp hpz v) 1).trans rfl
            have HCP := Aside0.mk hp
            have HCX := Aside0.mk hcx
            have HCY := Aside0.mk hcy
            have HCZ := Aside0.mk hcz
            have HB := Aside0.mk hbel
            have HPW := Aside0.mk hPw
            clear hp hcx hcy hcz hbel hPw
            go_wp2_with fail
            go_region
            go_wp2_with fail
            go_region
            go_wp2
            go_roundg 1
            case measure => omega
            case rel => exact ⟨3, 1, s0, (s1 + pl), (s2 + ph), s3, .inr (.inl ⟨rfl, rfl, rfl⟩), by first | rfl | go_num, by (have h1 := HST.out; have h2 := HQ.out; have h3 := HP.out; unfold wide_Mul.St at h1 ⊢; simp only [wide_Mul.V] at h1 ⊢; omega), blk_drew (blk_drew (blk_far (blk_far HCX.out (by simp; try omega) _) (by simp; try omega) _)), blk_drew (blk_drew (blk_far (blk_far HCY.out (by simp; try omega) _) (by simp; try omega) _)), blk_drew (blk_drew (blk_put (blk_put HCZ.out 1 _ rfl) 2 _ rfl)), below_drew (below_drew ((HB.out.setCell (by have q := HXW.out; simp; omega) _).setCell (by have q := HXW.out; simp; omega) _))⟩
        · obtain ⟨p, hp⟩ : ∃ p, x1 * y1 = p := ⟨_, rfl⟩
          have hpb : 0 ≤ p ∧ p ≤ 18446744073709551615 := by
            have := HX.out
            rw [← hp]
            exact wide_halves.prod_bd _ _ (by omega) (by omega) (by omega) (by omega)
          have hw : IntKind.u64.wrap (x1 * y1) = p := by rw [IntKind.wrap_u64, hp]; omega
          have HP := Aside0.mk hp
          have HPB := Aside0.mk hpb
          clear hp hpb
          have cx := (blk_cell HCX.out 1).trans (show _ = some (Value.int IntKind.u64 x1) from rfl)
          have cy := (blk_cell HCY.out 1).trans (show _ = some (Value.int IntKind.u64 y1) from rfl)
          have hx1 : X < wr.heap.size := blk_lt HCX.out
          have hy1 : X + 1 < wr.heap.size := blk_lt HCY.out
          have hz1 : X + 1 + 1 < wr.heap.size := blk_lt HCZ.out
          have cx0 : ∀ o, (wr.alloc o).cell? ⟨X, 1, none⟩ = some (Value.int IntKind.u64 x1) := fun o => (blk_cell (blk_alloc HCX.out o) 1).trans rfl
          have cy0 : ∀ o, (wr.alloc o).cell? ⟨X + 1, 1, none⟩ = some (Value.int IntKind.u64 y1) := fun o => (blk_cell (blk_alloc HCY.out o) 1).trans rfl
          go_upto_region 9 with fail
          go_cut [11] (fun s11 wx => ∃ P : Nat, s11 = .pointer (some ⟨P, 0, none⟩) ∧ w.heap.size ≤ P ∧ wx.heap[P]? = some (Obj.cells #[Value.int IntKind.u64 (p % 4294967296), Value.int IntKind.u64 (p / 4294967296)] 122 (0, 0)) ∧ wx.heap[X]? = some (Obj.cells #[Value.int IntKind.u64 x0, Value.int IntKind.u64 x1] 122 (0, 0)) ∧ wx.heap[X + 1]? = some (Obj.cells #[Value.int IntKind.u64 y0, Value.int IntKind.u64 y1] 122 (0, 0)) ∧ wx.heap[X + 1 + 1]? = some (Obj.cells #[Value.int IntKind.u64 s0, Value.int IntKind.u64 s1, Value.int IntKind.u64 s2, Value.int IntKind.u64 s3] 128 (0, 0)) ∧ Below w.heap.size w wx)
          case first =>
            go_region_held3 (fun w' => w'.cell? ⟨X, 1, none⟩ = some (Value.int IntKind.u64 x1) ∧ w'.cell? ⟨X + 1, 1, none⟩ = some (Value.int IntKind.u64 y1)) (go_keep) (first | (go_at_call 88; (with_reducible refine (wide_halves.calls p _ HPB.out.1 HPB.out.2).mono ?_); rintro e w' ⟨rfl, rfl⟩))
            all_goals (go_wp2_with fail; go_meet)
            all_goals (case rel => first | exact ⟨wr.heap.size + 1, rfl, by have q1 := blk_lt HCX.out; have q2 := HXW.out; omega, blk_drew (wide_halves.blk_at_new (wr.alloc _) _ _ (by simp)), blk_drew (blk_alloc (blk_alloc HCX.out _) _), blk_drew (blk_alloc (blk_alloc HCY.out _) _), blk_drew (blk_alloc (blk_alloc HCZ.out _) _), below_drew (below_alloc (below_alloc HB.out _) _)⟩ | exact ⟨wr.heap.size, rfl, by have q1 := blk_lt HCX.out; have q2 := HXW.out; omega, blk_drew (blk_alloc (blk_new wr _) _), blk_drew (blk_alloc (blk_alloc HCX.out _) _), blk_drew (blk_alloc (blk_alloc HCY.out _) _), blk_drew (blk_alloc (blk_alloc HCZ.out _) _), below_drew (below_alloc (below_alloc HB.out _) _)⟩)
          case rest =>
            obtain ⟨P, rfl, hPw, hp, hcx, hcy, hcz, hbel⟩ := hcut
            clear cx cy hx1 hy1 hz1 cx0 cy0 hw
            obtain ⟨wb, rfl⟩ : ∃ wb : World, wb = wc := ⟨_, rfl⟩
            obtain ⟨pl, e1⟩ : ∃ x, p % 4294967296 = x := ⟨_, rfl⟩
            obtain ⟨ph, e2⟩ : ∃ x, p / 4294967296 = x := ⟨_, rfl⟩
            rw [e1, e2] at hp
            have hq : 0 ≤ pl ∧ pl ≤ 4294967295 ∧ 0 ≤ ph ∧ ph ≤ 4294967295 ∧ p = pl + 4294967296 * ph := by
              have := HPB.out
              omega
            have HQ := Aside0.mk hq
            clear e1 e2 hq
            have cz := (blk_cell hcz 2).trans (show _ = some (Value.int IntKind.u64 s2) from rfl)
            have cz2 := (blk_cell hcz 3).trans (show _ = some (Value.int IntKind.u64 s3) from rfl)
            have cp := (blk_cell hp 0).trans (show _ = some (Value.int IntKind.u64 pl) from rfl)
            have cp2 := (blk_cell hp 1).trans (show _ = some (Value.int IntKind.u64 ph) from rfl)
            have fz := blk_frozen hcz 2
            have fz2 := blk_frozen hcz 3
            have w1 : IntKind.u64.wrap (s2 + pl) = s2 + pl := by
              have h1 := HST.out
              have h2 := HQ.out
              unfold wide_Mul.St at h1
              rw [IntKind.wrap_u64]
              omega
            have w2 : IntKind.u64.wrap (s3 + ph) = s3 + ph := by
              have h1 := HST.out
              have h2 := HQ.out
              unfold wide_Mul.St at h1
              rw [IntKind.wrap_u64]
              omega
            have hpz : P ≠ X + 1 + 1 := beq_eq_false_iff_ne.mp (wide_halves.blk_ne2 hp hcz (by decide))
            have cpS : ∀ v, (wb.setCell ⟨X + 1 + 1, 2, none⟩ v).cell? ⟨P, 1, none⟩ = some (Value.int IntKind.u64 ph) := fun v => (blk_cell (blk_far hp hpz v) 1).trans rfl
            have HCP := Aside0.mk hp
            have HCX := Aside0.mk hcx
            have HCY := Aside0.mk hcy
            have HCZ := Aside0.mk hcz
            have HB := Aside0.mk hbel
            have HPW := Aside0.mk hPw
            clear hp hcx hcy hcz hbel hPw
            go_wp2_with fail
            go_region
            go_wp2_with fail
            go_region
            go_wp2
            go_roundg 0
            case measure => omega
            case rel => exact ⟨4, 2, s0, s1, (s2 + pl), (s3 + ph), .inr (.inr ⟨rfl, rfl, rfl⟩), by first | rfl | go_num, by (have h1 := HST.out; have h2 := HQ.out; have h3 := HP.out; unfold wide_Mul.St at h1 ⊢; simp only [wide_Mul.V] at h1 ⊢; omega), blk_drew (blk_drew (blk_far (blk_far HCX.out (by simp; try omega) _) (by simp; try omega) _)), blk_drew (blk_drew (blk_far (blk_far HCY.out (by simp; try omega) _) (by simp; try omega) _)), blk_drew (blk_drew (blk_put (blk_put HCZ.out 2 _ rfl) 3 _ rfl)), below_drew (below_drew ((HB.out.setCell (by have q := HXW.out; simp; omega) _).setCell (by have q := HXW.out; simp; omega) _))⟩
        · go_wp2
          go_roundg 0
          case measure => omega
          case rel => exact ⟨4, 2, s0, s1, s2, s3, .inr (.inr ⟨rfl, rfl, rfl⟩), by first | rfl | go_num, HST.out, HCX.out, HCY.out, HCZ.out, HB.out⟩
    · go_wp2
      have hst := HST.out
      have hcr : wide_Mul.Cr (wide_Mul.V x0 x1 y0 y1 4) 0 s0 s1 s2 s3 := by
        unfold wide_Mul.St at hst
        unfold wide_Mul.Cr
        omega
      have HCR := Aside0.mk hcr
      clear hst hcr HST HCX HCY
      go_loopg [52] 3 (fun g q wr => ∃ c s0 s1 s2 s3 : Int, (c = 0 ∧ g = 3 ∨ c = 1 ∧ g = 2 ∨ c = 2 ∧ g = 1 ∨ c = 3 ∧ g = 0) ∧ q = .int .i64 c ∧ wide_Mul.Cr (wide_Mul.V x0 x1 y0 y1 4) c s0 s1 s2 s3 ∧ wr.heap[X + 1 + 1]? = some (Obj.cells #[Value.int IntKind.u64 s0, Value.int IntKind.u64 s1, Value.int IntKind.u64 s2, Value.int IntKind.u64 s3] 128 (0, 0)) ∧ Below w.heap.size w wr)
      case atStart => exact ⟨0, s0, s1, s2, s3, .inl ⟨rfl, rfl⟩, rfl, HCR.out, HCZ.out, HB.out⟩
      case round =>
        clear HB HCZ HCR
        obtain ⟨c, s0, s1, s2, s3, hj, rfl, hst, hcz, hbel⟩ := hrel
        have HST := Aside0.mk hst
        have HB := Aside0.mk hbel
        have HCZ := Aside0.mk hcz
        clear hst hbel hcz
        rcases hj with ⟨rfl, rfl⟩ | ⟨rfl, rfl⟩ | ⟨rfl, rfl⟩ | ⟨rfl, rfl⟩
        · have cz := (blk_cell HCZ.out 0).trans (show _ = some (Value.int IntKind.u64 s0) from rfl)
          have cz2 := (blk_cell HCZ.out 1).trans (show _ = some (Value.int IntKind.u64 s1) from rfl)
          have fz := blk_frozen HCZ.out 0
          have fz2 := blk_frozen HCZ.out 1
          have w1 : IntKind.u64.wrap (s1 + s0 / 4294967296) = s1 + s0 / 4294967296 := by
            have h1 := HST.out
            unfold wide_Mul.Cr at h1
            rw [IntKind.wrap_u64]
            omega
          have w2 : Go.bits .and .u64 s0 4294967295 = s0 % 4294967296 := by
            have h1 := HST.out
            unfold wide_Mul.Cr at h1
            exact wide_halves.and_ _ (by omega) (by omega)
          go_wp2_with fail
          go_region
          go_wp2
          go_roundg 2
          case measure => omega
          case rel => exact ⟨1, (s0 % 4294967296), (s1 + s0 / 4294967296), s2, s3, .inr (.inl ⟨rfl, rfl⟩), by first | rfl | go_num, by (have h1 := HST.out; unfold wide_Mul.Cr at h1 ⊢; omega), blk_drew (blk_put (blk_put HCZ.out 1 _ rfl) 0 _ rfl), below_drew ((HB.out.setCell (by have q := HXW.out; simp; omega) _).setCell (by have q := HXW.out; simp; omega) _)⟩
        · have cz := (blk_cell HCZ.out 1).trans (show _ = some (Value.int IntKind.u64 s1) from rfl)
          have cz2 := (blk_cell HCZ.out 2).trans (show _ = some (Value.int IntKind.u64 s2) from rfl)
          have fz := blk_frozen HCZ.out 1
          have fz2 := blk_frozen HCZ.out 2
          have w1 : IntKind.u64.wrap (s2 + s1 / 4294967296) = s2 + s1 / 4294967296 := by
            have h1 := HST.out
            unfold wide_Mul.Cr at h1
            rw [IntKind.wrap_u64]
            omega
          have w2 : Go.bits .and .u64 s1 4294967295 = s1 % 4294967296 := by
            have h1 := HST.out
            unfold wide_Mul.Cr at h1
            exact wide_halves.and_ _ (by omega) (by omega)
          go_wp2_with fail
          go_region
          go_wp2
          go_roundg 1
          case measure => omega
          case rel => exact ⟨2, s0, (s1 % 4294967296), (s2 + s1 / 4294967296), s3, .inr (.inr (.inl ⟨rfl, rfl⟩)), by first | rfl | go_num, by (have h1 := HST.out; unfold wide_Mul.Cr at h1 ⊢; omega), blk_drew (blk_put (blk_put HCZ.out 2 _ rfl) 1 _ rfl), below_drew ((HB.out.setCell (by have q := HXW.out; simp; omega) _).setCell (by have q := HXW.out; simp; omega) _)⟩
        · have cz := (blk_cell HCZ.out 2).trans (show _ = some (Value.int IntKind.u64 s2) from rfl)
          have cz2 := (blk_cell HCZ.out 3).trans (show _ = some (Value.int IntKind.u64 s3) from rfl)
          have fz := blk_frozen HCZ.out 2
          have fz2 := blk_frozen HCZ.out 3
          have w1 : IntKind.u64.wrap (s3 + s2 / 4294967296) = s3 + s2 / 4294967296 := by
            have h1 := HST.out
            unfold wide_Mul.Cr at h1
            rw [IntKind.wrap_u64]
            omega
          have w2 : Go.bits .and .u64 s2 4294967295 = s2 % 4294967296 := by
            have h1 := HST.out
            unfold wide_Mul.Cr at h1
            exact wide_halves.and_ _ (by omega) (by omega)
          go_wp2_with fail
          go_region
          go_wp2
          go_roundg 0
          case measure => omega
          case rel => exact ⟨3, s0, s1, (s2 % 4294967296), (s3 + s2 / 4294967296), .inr (.inr (.inr ⟨rfl, rfl⟩)), by first | rfl | go_num, by (have h1 := HST.out; unfold wide_Mul.Cr at h1 ⊢; omega), blk_drew (blk_put (blk_put HCZ.out 3 _ rfl) 2 _ rfl), below_drew ((HB.out.setCell (by have q := HXW.out; simp; omega) _).setCell (by have q := HXW.out; simp; omega) _)⟩
        · have h1 := HST.out
          unfold wide_Mul.Cr at h1
          have hV := wide_Mul.all x0 x1 y0 y1
          have hx := HX.out
          have ha := HA.out
          rw [hV, ← hx.2.2.2.2.2.2.2.2.1, ← hx.2.2.2.2.2.2.2.2.2] at h1
          have hm0 : 0 ≤ a0 * a1 := Int.mul_nonneg ha.1 ha.2.2.1
          have hm1 : a0 * a1 ≤ 18446744073709551615 * a1 := Int.mul_le_mul_of_nonneg_right ha.2.1 ha.2.2.1
          have h3 : s3 ≤ 4294967295 := by omega
          have e1 : s3 * 4294967296 + s2 = r1 := by omega
          have e2 : s1 * 4294967296 + s0 = r2 := by omega
          have w1 : IntKind.u64.wrap (s3 * 4294967296) = s3 * 4294967296 := by rw [IntKind.wrap_u64]; omega
          have w2 : IntKind.u64.wrap (s1 * 4294967296) = s1 * 4294967296 := by rw [IntKind.wrap_u64]; omega
          have o1 : Go.bits .or .u64 (s3 * 4294967296) s2 = r1 := by rw [wide_halves.join s3 s2 (by omega) (by omega) (by omega) (by omega), e1]
          have o2 : Go.bits .or .u64 (s1 * 4294967296) s0 = r2 := by rw [wide_halves.join s1 s0 (by omega) (by omega) (by omega) (by omega), e2]
          clear h1 hV hx ha hm0 hm1 h3 e1 e2
          have c0 := (blk_cell HCZ.out 0).trans (show _ = some (Value.int IntKind.u64 s0) from rfl)
          have c1 := (blk_cell HCZ.out 1).trans (show _ = some (Value.int IntKind.u64 s1) from rfl)
          have c2 := (blk_cell HCZ.out 2).trans (show _ = some (Value.int IntKind.u64 s2) from rfl)
          have c3 := (blk_cell HCZ.out 3).trans (show _ = some (Value.int IntKind.u64 s3) from rfl)
          go_wp2_with fail
          go_quiet (fail)
          go_wp2
          go_ret2
          exact ⟨rfl, pw_below_drewN HB.out _⟩

/-! ### fix_cut: function 80 -/
def fix_cut.f (a0 : Int) (a1 : Int) (a2 : Bool) : Option (Int) := if a2 = true then (if a1 > 0 then (if a0 < 9223372036854775807 then (some (wrap64 ((-1) * (wrap64 (mn (IntKind.u64.wrap (a0 + 1)) 9223372036854775807))))) else (some (wrap64 ((-1) * (wrap64 (mn a0 9223372036854775807)))))) else (some (wrap64 ((-1) * (wrap64 (mn a0 9223372036854775807)))))) else (some (wrap64 (1 * (wrap64 (mn a0 9223372036854775807)))))
set_option maxHeartbeats 8000000 in
set_option maxRecDepth 100000 in
theorem fix_cut.calls (a0 : Int) (a1 : Int) (a2 : Bool) (r : Int) (w : World) (h : fix_cut.f a0 a1 a2 = some r) :
    Calls Try.prog 80 #[.int .u64 a0, .int .u64 a1, .bool a2] w fun e w' => e = .returned (.int .i64 r) ∧ Below w.heap.size w w' := by
  have HB := Aside0.mk (Below.refl w.heap.size w)
  have H : (if a2 = true then (if a1 > 0 then (if a0 < 9223372036854775807 then (some (wrap64 ((-1) * (wrap64 (mn (IntKind.u64.wrap (a0 + 1)) 9223372036854775807))))) else (some (wrap64 ((-1) * (wrap64 (mn a0 9223372036854775807)))))) else (some (wrap64 ((-1) * (wrap64 (mn a0 9223372036854775807)))))) else (some (wrap64 (1 * (wrap64 (mn a0 9223372036854775807)))))) = some r := h
  clear h
  by_cases c4 : a2 = true
  · subst c4
    have H1 : (if a1 > 0 then (if a0 < 9223372036854775807 then (some (wrap64 ((-1) * (wrap64 (mn (IntKind.u64.wrap (a0 + 1)) 9223372036854775807))))) else (some (wrap64 ((-1) * (wrap64 (mn a0 9223372036854775807)))))) else (some (wrap64 ((-1) * (wrap64 (mn a0 9223372036854775807)))))) = some r := by rw [if_pos rfl] at H; exact H
    clear H
    have H := H1
    clear H1
    by_cases c5 : a1 > 0
    · rw [if_pos c5] at H
      have c5b0 : decide (0 < a1) = true := decide_eq_true c5
      clear c5
      by_cases c6 : a0 < 9223372036854775807
      · rw [if_pos c6] at H
        have c6b0 : decide (a0 < 9223372036854775807) = true := decide_eq_true c6
        clear c6
        obtain ⟨ji7, hji7⟩ : ∃ j_ : Int, (mn (IntKind.u64.wrap (a0 + 1)) 9223372036854775807) = j_ := ⟨_, rfl⟩
        replace H : (some (wrap64 ((-1) * (wrap64 (ji7))))) = some r := by first | (rw [hji7] at H; exact H) | (simp only [hji7] at H ⊢; exact H)
        (try (have hji7h : ji7 ≤ 9223372036854775807 := by (rw [← hji7]; unfold mn; (repeat' split) <;> omega)))
        (try (have hji7g : ji7 ≤ 64 := by omega))
        have hji7_ : (if 9223372036854775807 < (IntKind.u64.wrap (a0 + 1)) then 9223372036854775807 else (IntKind.u64.wrap (a0 + 1))) = ji7 := hji7
        obtain rfl := Option.some.inj H
        go_enter Try.func80, Try.ntmps80
        go_wp2
        go_ret
        exact ⟨by first | rfl | (simp [errW_none, errW_some] <;> rfl) | (simp only [← hji7]; first | rfl | (simp [errW_none, errW_some] <;> rfl)) | (simp [*, errW_none, errW_some] <;> rfl), by repeat (first | (with_reducible first | exact HB.out | apply below_alloc | apply pw_below_drewN | apply below_drew1) | exact HB.out)⟩
      · rw [if_neg c6] at H
        have c6b0 : decide (a0 < 9223372036854775807) = false := decide_eq_false c6
        clear c6
        obtain ⟨ji8, hji8⟩ : ∃ j_ : Int, (mn a0 9223372036854775807) = j_ := ⟨_, rfl⟩
        replace H : (some (wrap64 ((-1) * (wrap64 (ji8))))) = some r := by first | (rw [hji8] at H; exact H) | (simp only [hji8] at H ⊢; exact H)
        (try (have hji8h : ji8 ≤ 9223372036854775807 := by (rw [← hji8]; unfold mn; (repeat' split) <;> omega)))
        (try (have hji8g : ji8 ≤ 64 := by omega))
        have hji8_ : (if 9223372036854775807 < a0 then 9223372036854775807 else a0) = ji8 := hji8
        obtain rfl := Option.some.inj H
        go_enter Try.func80, Try.ntmps80
        go_wp2
        go_ret
        exact ⟨by first | rfl | (simp [errW_none, errW_some] <;> rfl) | (simp only [← hji8]; first | rfl | (simp [errW_none, errW_some] <;> rfl)) | (simp [*, errW_none, errW_some] <;> rfl), by repeat (first | (with_reducible first | exact HB.out | apply below_alloc | apply pw_below_drewN | apply below_drew1) | exact HB.out)⟩
    · rw [if_neg c5] at H
      have c5b0 : decide (0 < a1) = false := decide_eq_false c5
      clear c5
      obtain ⟨ji9, hji9⟩ : ∃ j_ : Int, (mn a0 9223372036854775807) = j_ := ⟨_, rfl⟩
      replace H : (some (wrap64 ((-1) * (wrap64 (ji9))))) = some r := by first | (rw [hji9] at H; exact H) | (simp only [hji9] at H ⊢; exact H)
      (try (have hji9h : ji9 ≤ 9223372036854775807 := by (rw [← hji9]; unfold mn; (repeat' split) <;> omega)))
      (try (have hji9g : ji9 ≤ 64 := by omega))
      have hji9_ : (if 9223372036854775807 < a0 then 9223372036854775807 else a0) = ji9 := hji9
      obtain rfl := Option.some.inj H
      go_enter Try.func80, Try.ntmps80
      go_wp2
      go_ret
      exact ⟨by first | rfl | (simp [errW_none, errW_some] <;> rfl) | (simp only [← hji9]; first | rfl | (simp [errW_none, errW_some] <;> rfl)) | (simp [*, errW_none, errW_some] <;> rfl), by repeat (first | (with_reducible first | exact HB.out | apply below_alloc | apply pw_below_drewN | apply below_drew1) | exact HB.out)⟩
  · replace c4 := Bool.eq_false_iff.mpr c4
    subst c4
    have H1 : (some (wrap64 (1 * (wrap64 (mn a0 9223372036854775807))))) = some r := by rw [if_neg (show ¬ (false = true) by decide)] at H; exact H
    clear H
    have H := H1
    clear H1
    obtain ⟨ji10, hji10⟩ : ∃ j_ : Int, (mn a0 9223372036854775807) = j_ := ⟨_, rfl⟩
    replace H : (some (wrap64 (1 * (wrap64 (ji10))))) = some r := by first | (rw [hji10] at H; exact H) | (simp only [hji10] at H ⊢; exact H)
    (try (have hji10h : ji10 ≤ 9223372036854775807 := by (rw [← hji10]; unfold mn; (repeat' split) <;> omega)))
    (try (have hji10g : ji10 ≤ 64 := by omega))
    have hji10_ : (if 9223372036854775807 < a0 then 9223372036854775807 else a0) = ji10 := hji10
    obtain rfl := Option.some.inj H
    go_enter Try.func80, Try.ntmps80
    go_wp2
    go_ret
    exact ⟨by first | rfl | (simp [errW_none, errW_some] <;> rfl) | (simp only [← hji10]; first | rfl | (simp [errW_none, errW_some] <;> rfl)) | (simp [*, errW_none, errW_some] <;> rfl), by repeat (first | (with_reducible first | exact HB.out | apply below_alloc | apply pw_below_drewN | apply below_drew1) | exact HB.out)⟩

/-! ### fix_Mul: function 66 -/
def fix_Mul.f (a0 : Int) (a1 : Int) : Option (Int) := (fix_size.f a0).bind fun bt103 => ((fix_size.f a1).bind fun bt105 => ((wide_Mul.f bt103.1 bt105.1).bind fun bt107 => (if (bt107.1 / 2147483648) > 0 then ((fix_cut.f 9223372036854775807 0 (bt103.2 != bt105.2)).bind fun t109 => (some t109)) else ((fix_cut.f (Go.bits .or .u64 (IntKind.u64.wrap (bt107.1 * 4294967296)) (bt107.2 / 4294967296)) (IntKind.u64.wrap (bt107.2 * 4294967296)) (bt103.2 != bt105.2)).bind fun t110 => (some t110)))))
set_option maxHeartbeats 8000000 in
set_option maxRecDepth 100000 in
theorem fix_Mul.calls (a0 : Int) (a1 : Int) (r : Int) (w : World) (h : fix_Mul.f a0 a1 = some r) :
    Calls Try.prog 66 #[.int .i64 a0, .int .i64 a1] w fun e w' => e = .returned (.int .i64 r) ∧ Below w.heap.size w w' := by
  have HB := Aside0.mk (Below.refl w.heap.size w)
  have H : ((fix_size.f a0).bind fun bt103 => ((fix_size.f a1).bind fun bt105 => ((wide_Mul.f bt103.1 bt105.1).bind fun bt107 => (if (bt107.1 / 2147483648) > 0 then ((fix_cut.f 9223372036854775807 0 (bt103.2 != bt105.2)).bind fun t109 => (some t109)) else ((fix_cut.f (Go.bits .or .u64 (IntKind.u64.wrap (bt107.1 * 4294967296)) (bt107.2 / 4294967296)) (IntKind.u64.wrap (bt107.2 * 4294967296)) (bt103.2 != bt105.2)).bind fun t110 => (some t110)))))) = some r := h
  clear h
  replace H := Option.bind_eq_some_iff.mp H
  obtain ⟨⟨t103, t104⟩, A30, H⟩ := H
  replace H : ((fix_size.f a1).bind fun bt105 => ((wide_Mul.f t103 bt105.1).bind fun bt107 => (if (bt107.1 / 2147483648) > 0 then ((fix_cut.f 9223372036854775807 0 (t104 != bt105.2)).bind fun t109 => (some t109)) else ((fix_cut.f (Go.bits .or .u64 (IntKind.u64.wrap (bt107.1 * 4294967296)) (bt107.2 / 4294967296)) (IntKind.u64.wrap (bt107.2 * 4294967296)) (t104 != bt105.2)).bind fun t110 => (some t110))))) = some r := H
  have A3 := Aside0.mk A30
  clear A30
  replace H := Option.bind_eq_some_iff.mp H
  obtain ⟨⟨t105, t106⟩, A40, H⟩ := H
  replace H : ((wide_Mul.f t103 t105).bind fun bt107 => (if (bt107.1 / 2147483648) > 0 then ((fix_cut.f 9223372036854775807 0 (t104 != t106)).bind fun t109 => (some t109)) else ((fix_cut.f (Go.bits .or .u64 (IntKind.u64.wrap (bt107.1 * 4294967296)) (bt107.2 / 4294967296)) (IntKind.u64.wrap (bt107.2 * 4294967296)) (t104 != t106)).bind fun t110 => (some t110)))) = some r := H
  have A4 := Aside0.mk A40
  clear A40
  replace H := Option.bind_eq_some_iff.mp H
  obtain ⟨⟨t107, t108⟩, A50, H⟩ := H
  replace H : (if (t107 / 2147483648) > 0 then ((fix_cut.f 9223372036854775807 0 (t104 != t106)).bind fun t109 => (some t109)) else ((fix_cut.f (Go.bits .or .u64 (IntKind.u64.wrap (t107 * 4294967296)) (t108 / 4294967296)) (IntKind.u64.wrap (t108 * 4294967296)) (t104 != t106)).bind fun t110 => (some t110))) = some r := H
  have A5 := Aside0.mk A50
  clear A50
  by_cases c6 : (t107 / 2147483648) > 0
  · rw [if_pos c6] at H
    have c6b0 : decide (0 < (t107 / 2147483648)) = true := decide_eq_true c6
    clear c6
    replace H := Option.bind_eq_some_iff.mp H
    obtain ⟨t109, A70, H⟩ := H
    replace H : (some t109) = some r := H
    have A7 := Aside0.mk A70
    clear A70
    obtain rfl := Option.some.inj H
    go_enter Try.func66, Try.ntmps66
    go_wp2_with (first | ((with_reducible refine gate_callee (f := 78) rfl ?_); refine goesL_ (some 13) rfl rfl Try.func78 (by kernel_rfl) rfl #[.int .i64 a0] rfl (by (try simp only [List.map_toArray, List.map_cons, List.map_nil]); first | done | rfl | (simp only [List.length_drop, List.length_take]; rfl)) ?_; (with_reducible refine (fix_size.calls a0 t103 t104 _ A3.out).mono ?_); rintro e w' ⟨rfl, ⟨nd, rfl⟩⟩; refine ⟨_, rfl, ?_⟩) | ((with_reducible refine gate_callee (f := 78) rfl ?_); refine goesL_ (some 18) rfl rfl Try.func78 (by kernel_rfl) rfl #[.int .i64 a1] rfl (by (try simp only [List.map_toArray, List.map_cons, List.map_nil]); first | done | rfl | (simp only [List.length_drop, List.length_take]; rfl)) ?_; (with_reducible refine (fix_size.calls a1 t105 t106 _ A4.out).mono ?_); rintro e w' ⟨rfl, ⟨nd, rfl⟩⟩; refine ⟨_, rfl, ?_⟩) | ((with_reducible refine gate_callee (f := 79) rfl ?_); refine goesL_ (some 24) rfl rfl Try.func79 (by kernel_rfl) rfl #[.int .u64 t103, .int .u64 t105] rfl (by (try simp only [List.map_toArray, List.map_cons, List.map_nil]); first | done | rfl | (simp only [List.length_drop, List.length_take]; rfl)) ?_; (with_reducible refine (wide_Mul.calls t103 t105 t107 t108 _ A5.out).mono ?_); rintro e w8 ⟨rfl, hb⟩; refine ⟨_, rfl, ?_⟩; have n0_ := Aside0.mk (below_step (by repeat (first | (with_reducible first | exact HB.out | apply below_alloc | apply pw_below_drewN | apply below_drew1) | exact HB.out)) hb); clear HB; have HB := n0_; clear n0_; (try clear hb); (try clear hb2); (try clear hk); (try clear hi)) | ((with_reducible refine gate_callee (f := 80) rfl ?_); refine goesL_ (some 33) rfl rfl Try.func80 (by kernel_rfl) rfl #[.int .u64 9223372036854775807, .int .u64 0, .bool (t104 != t106)] rfl (by (try simp only [List.map_toArray, List.map_cons, List.map_nil]); first | done | rfl | (simp only [List.length_drop, List.length_take]; rfl)) ?_; (with_reducible refine (fix_cut.calls 9223372036854775807 0 (t104 != t106) t109 _ A7.out).mono ?_); rintro e w9 ⟨rfl, hb⟩; refine ⟨_, rfl, ?_⟩; have n0_ := Aside0.mk (below_step (by repeat (first | (with_reducible first | exact HB.out | apply below_alloc | apply pw_below_drewN | apply below_drew1) | exact HB.out)) hb); clear HB; have HB := n0_; clear n0_; (try clear hb); (try clear hb2); (try clear hk); (try clear hi)))
    go_ret
    exact ⟨by first | rfl | (simp [errW_none, errW_some] <;> rfl) | (simp [*, errW_none, errW_some] <;> rfl), by repeat (first | (with_reducible first | exact HB.out | apply below_alloc | apply pw_below_drewN | apply below_drew1) | exact HB.out)⟩
  · rw [if_neg c6] at H
    have c6b0 : decide (0 < (t107 / 2147483648)) = false := decide_eq_false c6
    clear c6
    replace H := Option.bind_eq_some_iff.mp H
    obtain ⟨t110, A100, H⟩ := H
    replace H : (some t110) = some r := H
    have A10 := Aside0.mk A100
    clear A100
    obtain rfl := Option.some.inj H
    go_enter Try.func66, Try.ntmps66
    go_wp2_with (first | ((with_reducible refine gate_callee (f := 78) rfl ?_); refine goesL_ (some 13) rfl rfl Try.func78 (by kernel_rfl) rfl #[.int .i64 a0] rfl (by (try simp only [List.map_toArray, List.map_cons, List.map_nil]); first | done | rfl | (simp only [List.length_drop, List.length_take]; rfl)) ?_; (with_reducible refine (fix_size.calls a0 t103 t104 _ A3.out).mono ?_); rintro e w' ⟨rfl, ⟨nd, rfl⟩⟩; refine ⟨_, rfl, ?_⟩) | ((with_reducible refine gate_callee (f := 78) rfl ?_); refine goesL_ (some 18) rfl rfl Try.func78 (by kernel_rfl) rfl #[.int .i64 a1] rfl (by (try simp only [List.map_toArray, List.map_cons, List.map_nil]); first | done | rfl | (simp only [List.length_drop, List.length_take]; rfl)) ?_; (with_reducible refine (fix_size.calls a1 t105 t106 _ A4.out).mono ?_); rintro e w' ⟨rfl, ⟨nd, rfl⟩⟩; refine ⟨_, rfl, ?_⟩) | ((with_reducible refine gate_callee (f := 79) rfl ?_); refine goesL_ (some 24) rfl rfl Try.func79 (by kernel_rfl) rfl #[.int .u64 t103, .int .u64 t105] rfl (by (try simp only [List.map_toArray, List.map_cons, List.map_nil]); first | done | rfl | (simp only [List.length_drop, List.length_take]; rfl)) ?_; (with_reducible refine (wide_Mul.calls t103 t105 t107 t108 _ A5.out).mono ?_); rintro e w11 ⟨rfl, hb⟩; refine ⟨_, rfl, ?_⟩; have n0_ := Aside0.mk (below_step (by repeat (first | (with_reducible first | exact HB.out | apply below_alloc | apply pw_below_drewN | apply below_drew1) | exact HB.out)) hb); clear HB; have HB := n0_; clear n0_; (try clear hb); (try clear hb2); (try clear hk); (try clear hi)) | ((with_reducible refine gate_callee (f := 80) rfl ?_); refine goesL_ (some 44) rfl rfl Try.func80 (by kernel_rfl) rfl #[.int .u64 (Go.bits .or .u64 (IntKind.u64.wrap (t107 * 4294967296)) (t108 / 4294967296)), .int .u64 (IntKind.u64.wrap (t108 * 4294967296)), .bool (t104 != t106)] rfl (by (try simp only [List.map_toArray, List.map_cons, List.map_nil]); first | done | rfl | (simp only [List.length_drop, List.length_take]; rfl)) ?_; (with_reducible refine (fix_cut.calls (Go.bits .or .u64 (IntKind.u64.wrap (t107 * 4294967296)) (t108 / 4294967296)) (IntKind.u64.wrap (t108 * 4294967296)) (t104 != t106) t110 _ A10.out).mono ?_); rintro e w12 ⟨rfl, hb⟩; refine ⟨_, rfl, ?_⟩; have n0_ := Aside0.mk (below_step (by repeat (first | (with_reducible first | exact HB.out | apply below_alloc | apply pw_below_drewN | apply below_drew1) | exact HB.out)) hb); clear HB; have HB := n0_; clear n0_; (try clear hb); (try clear hb2); (try clear hk); (try clear hi)))
    go_ret
    exact ⟨by first | rfl | (simp [errW_none, errW_some] <;> rfl) | (simp [*, errW_none, errW_some] <;> rfl), by repeat (first | (with_reducible first | exact HB.out | apply below_alloc | apply pw_below_drewN | apply below_drew1) | exact HB.out)⟩

-- NOT PRINTED: function 42 (ledger_Clock_at)

-- NOT PRINTED: function 16 (ledger_Clock_Read)

-- NOT PRINTED: function 18 (ledger_Clock_Correct)

-- NOT PRINTED: function 12 (analemmalaw07_shown)

end Go.Proofs.Ytoddgpaopejeoaa.MLed
