/- Functions that the statements of this seat reach, each as a plain Lean function, with a proof that the Go code comes to its answers; no condition. -/
import Derived.Test.YtilbkdlbbnkgdaaMHeaderx0
import Derived.Test.YtilbkdlbbnkgdaaMHeaderx5
import Derived.Test.YtilbkdlbbnkgdaaMHeaderx7
import Derived.Test.YtilbkdlbbnkgdaaMHeaderx9
namespace Go.Proofs.Ytilbkdlbbnkgdaa.MHeader
open Go.RowKit Go.Proofs.YtilbkdlbbnkgdaaW.PrintWords Go.Proofs.YtilbkdlbbnkgdaaW.PrintLast Go.Proofs.YtilbkdlbbnkgdaaW.PrintMore
attribute [local go_sem] max2_int min2_int max_two min_two max_three min_three max_four min_four   -- for this text's walks alone
set_option linter.unusedVariables false
set_option linter.unusedSimpArgs false

/-! ### analemmaref05_Ref: function 39 -/
def analemmaref05_Ref.l0 : Nat → ByteArray → Option (Int)
  | 0, _ => none
  | k + 1, x3 => if (x3.size : Int) < 4 then (if x3.size + 1 ≤ 9223372036854775807 then (analemmaref05_Ref.l0 k (x3 ++ (⟨#[0]⟩ : ByteArray))) else (none)) else (if 0 ≤ 4 then (if 4 ≤ (x3.size : Int) then ((analemmaref05_Number.f k (x3.extract 0 4)).bind fun t227 => (some ((t227) % 4294967296))) else (none)) else (none))
def analemmaref05_Ref.f (k : Nat) (a0 : ByteArray) : Option (Int) := analemmaref05_Ref.l0 k a0
theorem analemmaref05_Ref.mono_l : ∀ k, (∀ y0, LeO (analemmaref05_Ref.l0 k y0) (analemmaref05_Ref.l0 (k + 1) y0))
  | 0 => fun _ r h => by simp [analemmaref05_Ref.l0] at h
  | k + 1 => by
    have ih0 := analemmaref05_Ref.mono_l k
    · intro y0
      unfold analemmaref05_Ref.l0
      repeat' first
      | (with_reducible exact ih0 _)
      | (with_reducible exact analemmaref05_Number.mono _ _)
      | (with_reducible exact LeO.refl _)
      | (with_reducible exact LeO.none _)
      | (with_reducible refine LeO.ite ?_ ?_)
      | (with_reducible refine LeO.bind ?_ (fun _ => ?_))
      | exact ih0 _
      | exact analemmaref05_Number.mono _ _
      | exact LeO.none _
      | refine LeO.ite ?_ ?_
      | refine LeO.bind ?_ (fun _ => ?_)
theorem analemmaref05_Ref.mono : ∀ a0 k, LeO (analemmaref05_Ref.f k a0) (analemmaref05_Ref.f (k + 1) a0) := by
  intro a0 k
  have ih0 := analemmaref05_Ref.mono_l k
  unfold analemmaref05_Ref.f
  repeat' first
      | (with_reducible exact ih0 _)
      | (with_reducible exact analemmaref05_Number.mono _ _)
      | (with_reducible exact LeO.refl _)
      | (with_reducible exact LeO.none _)
      | (with_reducible refine LeO.ite ?_ ?_)
      | (with_reducible refine LeO.bind ?_ (fun _ => ?_))
      | exact ih0 _
      | exact analemmaref05_Number.mono _ _
      | exact LeO.none _
      | refine LeO.ite ?_ ?_
      | refine LeO.bind ?_ (fun _ => ?_)
set_option maxHeartbeats 8000000 in
set_option maxRecDepth 100000 in
theorem analemmaref05_Ref.calls (k : Nat) (a0 : ByteArray) (r : Int) (w : World) (h : analemmaref05_Ref.f k a0 = some r) :
    Calls Try.prog 39 #[.string a0] w fun e w' => e = .returned (.int .u32 r) ∧ Drawn0 w w' := by
  have H : (analemmaref05_Ref.l0 k a0) = some r := h
  clear h
  have H' := Aside0.mk H
  clear H
  go_enter Try.func39, Try.ntmps39
  go_wp2
  go_loopg [3] k (fun kq v3 w' => ∃ (x3_1 : ByteArray), v3 = .string x3_1 ∧ Aside0 (analemmaref05_Ref.l0 kq x3_1 = some r) ∧ Aside0 (kq ≤ k) ∧ Drawn0 w w')
  case atStart => exact ⟨(a0), (by first | rfl | (simp; done) | (simp [*]; done)), H', ⟨Nat.le_refl _⟩, by repeat (first | exact Drawn0.refl _ | apply Drawn0.step)⟩
  case round =>
    clear H'
    obtain ⟨x3_1, rfl, HA, HK1, ⟨m1, rfl⟩⟩ := hrel
    cases gk with
    | zero => exact absurd HA.out (by simp [analemmaref05_Ref.l0])
    | succ k1 =>
      have H := HA.out
      clear HA
      simp only [analemmaref05_Ref.l0] at H
      by_cases c2 : (x3_1.size : Int) < 4
      · rw [if_pos c2] at H
        have c2b0 : decide ((x3_1.size : Int) < 4) = true := decide_eq_true c2
        have c2b1 : decide (x3_1.size < 4) = true := decide_eq_true (by omega)
        clear c2
        by_cases c3 : x3_1.size + 1 ≤ 9223372036854775807
        · rw [if_pos c3] at H
          have c3b0 := eq_true c3
          have c3b1 : decide (x3_1.size + 1 ≤ 9223372036854775807) = true := decide_eq_true c3
          try have c3b2 : (9223372036854775807 < x3_1.size + 1) = False := eq_false (Nat.not_lt.2 c3)
          have H' := Aside0.mk H
          clear H
          go_wp2
          go_roundg k1
          case measure => have := HK1.out; omega
          case rel => exact ⟨(x3_1 ++ (⟨#[0]⟩ : ByteArray)), (by first | rfl | (simp; done) | (simp [*]; done)), H', ⟨by have := HK1.out; omega⟩, by repeat (first | exact Drawn0.refl _ | apply Drawn0.step)⟩
        · rw [if_neg c3] at H
          exact absurd H (by simp)
      · rw [if_neg c2] at H
        have c2b0 : decide ((x3_1.size : Int) < 4) = false := decide_eq_false c2
        have c2b1 : decide (x3_1.size < 4) = false := decide_eq_false (by omega)
        clear c2
        by_cases c4 : 0 ≤ 4
        · rw [if_pos c4] at H
          have c4b0 := eq_true c4
          have c4b1 : decide (0 ≤ 4) = true := decide_eq_true c4
          clear c4
          by_cases c5 : 4 ≤ (x3_1.size : Int)
          · rw [if_pos c5] at H
            have c5b0 := eq_true c5
            have c5b1 : decide (4 ≤ (x3_1.size : Int)) = true := decide_eq_true c5
            clear c5
            replace H := Option.bind_eq_some_iff.mp H
            obtain ⟨t227, A60, H⟩ := H
            replace H : (some ((t227) % 4294967296)) = some r := H
            have A6 := Aside0.mk A60
            clear A60
            obtain rfl := Option.some.inj H
            go_wp2_with (first | ((with_reducible refine gate_callee (f := 57) rfl ?_); refine goesL_ (some 12) rfl rfl Try.func57 (by kernel_rfl) rfl #[.string (x3_1.extract 0 4)] rfl (by (try simp only [List.map_toArray, List.map_cons, List.map_nil]); first | done | rfl | (simp only [List.length_drop, List.length_take]; rfl)) ?_; (with_reducible refine (analemmaref05_Number.calls k1 (x3_1.extract 0 4) t227 _ A6.out).mono ?_); rintro e w' ⟨rfl, ⟨nd, rfl⟩⟩; refine ⟨_, rfl, ?_⟩))
            go_ret
            exact ⟨by first | rfl | (simp; done) | (simp [*]; done), by repeat (first | exact Drawn0.refl _ | apply Drawn0.step)⟩
          · rw [if_neg c5] at H
            exact absurd H (by simp)
        · rw [if_neg c4] at H
          exact absurd H (by simp)

/-! ### analemmalaw05_HeaderAsks: function 13 -/
mutual
def analemmalaw05_HeaderAsks.j0 : Nat → Int → Int → Int → ByteArray → Bool → Option (Bool)
  | 0, _, _, _, _, _ => none
  | k + 1, x0, x1, x2, x3, x22 => if x22 = true then ((analemmalaw05_shown.f k).bind fun t229 => (some t229)) else ((header_Ask.f k x0 x1 x2).bind fun bt230 => ((analemmaref05_Ask.f k x0 x1 x2).bind fun bt232 => (if bt230.1.toList = bt232.1.toList then (if bt230.2 = bt232.2 then ((header_Ref.f x3).bind fun t234 => ((analemmaref05_Ref.f k x3).bind fun t235 => (analemmalaw05_HeaderAsks.j1 k x0 x1 x2 bt230.1 bt230.2 (t234 != t235)))) else (analemmalaw05_HeaderAsks.j1 k x0 x1 x2 bt230.1 bt230.2 true)) else (analemmalaw05_HeaderAsks.j1 k x0 x1 x2 bt230.1 bt230.2 true))))
def analemmalaw05_HeaderAsks.j1 : Nat → Int → Int → Int → ByteArray → Int → Bool → Option (Bool)
  | 0, _, _, _, _, _, _ => none
  | k + 1, x0, x1, x2, x9, x10, x52 => if x52 = true then (some false) else (if x10 = 0 then ((header_Decode.f x9).bind fun bt236 => (if bt236.2.2.2.2.2.2.2.2.2.2.2.2.2.2 = 0 then (if bt236.2.2.1 = 3 then (if bt236.2.1 = x0 then (if bt236.2.2.2.2.1 = x1 then (if bt236.2.2.2.2.2.2.2.2.2.2.2.2.1 = x2 then (some (bt236.2.2.2.2.2.2.2.2.2.2.1 == 0)) else (some false)) else (some false)) else (some false)) else (some false)) else (some false))) else (some (x9.toList == ([] : List UInt8))))
end
def analemmalaw05_HeaderAsks.f (k : Nat) (a0 : Int) (a1 : Int) (a2 : Int) (a3 : ByteArray) : Option (Bool) := if (a3.size : Int) > 2048 then (analemmalaw05_HeaderAsks.j0 k a0 a1 a2 a3 true) else ((analemmalaw05_shown.f k).bind fun t228 => (analemmalaw05_HeaderAsks.j0 k a0 a1 a2 a3 (!t228)))
theorem analemmalaw05_HeaderAsks.mono_l : ∀ k, (∀ y0 y1 y2 y3 y4, LeO (analemmalaw05_HeaderAsks.j0 k y0 y1 y2 y3 y4) (analemmalaw05_HeaderAsks.j0 (k + 1) y0 y1 y2 y3 y4)) ∧ (∀ y0 y1 y2 y3 y4 y5, LeO (analemmalaw05_HeaderAsks.j1 k y0 y1 y2 y3 y4 y5) (analemmalaw05_HeaderAsks.j1 (k + 1) y0 y1 y2 y3 y4 y5))
  | 0 => ⟨fun _ _ _ _ _ r h => by simp [analemmalaw05_HeaderAsks.j0] at h, fun _ _ _ _ _ _ r h => by simp [analemmalaw05_HeaderAsks.j1] at h⟩
  | k + 1 => by
    obtain ⟨ih0, ih1⟩ := analemmalaw05_HeaderAsks.mono_l k
    refine ⟨?_, ?_⟩
    · intro y0 y1 y2 y3 y4
      unfold analemmalaw05_HeaderAsks.j0
      repeat' first
      | (with_reducible exact ih0 _ _ _ _ _)
      | (with_reducible exact ih1 _ _ _ _ _ _)
      | (with_reducible exact analemmalaw05_shown.mono _)
      | (with_reducible exact analemmaref05_Ask.mono _ _ _ _)
      | (with_reducible exact analemmaref05_Ref.mono _ _)
      | (with_reducible exact header_Ask.mono _ _ _ _)
      | (with_reducible exact LeO.refl _)
      | (with_reducible exact LeO.none _)
      | (with_reducible refine LeO.ite ?_ ?_)
      | (with_reducible refine LeO.bind ?_ (fun _ => ?_))
      | exact ih0 _ _ _ _ _
      | exact ih1 _ _ _ _ _ _
      | exact analemmalaw05_shown.mono _
      | exact analemmaref05_Ask.mono _ _ _ _
      | exact analemmaref05_Ref.mono _ _
      | exact header_Ask.mono _ _ _ _
      | exact LeO.none _
      | refine LeO.ite ?_ ?_
      | refine LeO.bind ?_ (fun _ => ?_)
    · intro y0 y1 y2 y3 y4 y5
      unfold analemmalaw05_HeaderAsks.j1
      repeat' first
      | (with_reducible exact ih0 _ _ _ _ _)
      | (with_reducible exact ih1 _ _ _ _ _ _)
      | (with_reducible exact analemmalaw05_shown.mono _)
      | (with_reducible exact analemmaref05_Ask.mono _ _ _ _)
      | (with_reducible exact analemmaref05_Ref.mono _ _)
      | (with_reducible exact header_Ask.mono _ _ _ _)
      | (with_reducible exact LeO.refl _)
      | (with_reducible exact LeO.none _)
      | (with_reducible refine LeO.ite ?_ ?_)
      | (with_reducible refine LeO.bind ?_ (fun _ => ?_))
      | exact ih0 _ _ _ _ _
      | exact ih1 _ _ _ _ _ _
      | exact analemmalaw05_shown.mono _
      | exact analemmaref05_Ask.mono _ _ _ _
      | exact analemmaref05_Ref.mono _ _
      | exact header_Ask.mono _ _ _ _
      | exact LeO.none _
      | refine LeO.ite ?_ ?_
      | refine LeO.bind ?_ (fun _ => ?_)
theorem analemmalaw05_HeaderAsks.mono : ∀ a0 a1 a2 a3 k, LeO (analemmalaw05_HeaderAsks.f k a0 a1 a2 a3) (analemmalaw05_HeaderAsks.f (k + 1) a0 a1 a2 a3) := by
  intro a0 a1 a2 a3 k
  obtain ⟨ih0, ih1⟩ := analemmalaw05_HeaderAsks.mono_l k
  unfold analemmalaw05_HeaderAsks.f
  repeat' first
      | (with_reducible exact ih0 _ _ _ _ _)
      | (with_reducible exact ih1 _ _ _ _ _ _)
      | (with_reducible exact analemmalaw05_shown.mono _)
      | (with_reducible exact analemmaref05_Ask.mono _ _ _ _)
      | (with_reducible exact analemmaref05_Ref.mono _ _)
      | (with_reducible exact header_Ask.mono _ _ _ _)
      | (with_reducible exact LeO.refl _)
      | (with_reducible exact LeO.none _)
      | (with_reducible refine LeO.ite ?_ ?_)
      | (with_reducible refine LeO.bind ?_ (fun _ => ?_))
      | exact ih0 _ _ _ _ _
      | exact ih1 _ _ _ _ _ _
      | exact analemmalaw05_shown.mono _
      | exact analemmaref05_Ask.mono _ _ _ _
      | exact analemmaref05_Ref.mono _ _
      | exact header_Ask.mono _ _ _ _
      | exact LeO.none _
      | refine LeO.ite ?_ ?_
      | refine LeO.bind ?_ (fun _ => ?_)
set_option maxHeartbeats 8000000 in
set_option maxRecDepth 100000 in
theorem analemmalaw05_HeaderAsks.calls (k : Nat) (a0 : Int) (a1 : Int) (a2 : Int) (a3 : ByteArray) (r : Bool) (w : World) (h : analemmalaw05_HeaderAsks.f k a0 a1 a2 a3 = some r) (hr : Aside0 (r = true)) :
    Calls Try.prog 13 #[.int .i64 a0, .int .i64 a1, .int .u64 a2, .string a3] w fun e w' => e = .returned (.bool r) ∧ Below w.heap.size w w' := by
  have hu42 := Try.underlying42
  have HB := Aside0.mk (Below.refl w.heap.size w)
  have H : (if (a3.size : Int) > 2048 then (analemmalaw05_HeaderAsks.j0 k a0 a1 a2 a3 true) else ((analemmalaw05_shown.f k).bind fun t228 => (analemmalaw05_HeaderAsks.j0 k a0 a1 a2 a3 (!t228)))) = some r := h
  clear h
  have HC5 := Aside0.mk H
  clear H
  go_enter Try.func13, Try.ntmps13
  go_upto_region 1 with (fail)
  go_cut [22] (fun v22 wc => ∃ (kq : Nat) (x22_4 : Bool), v22 = .bool x22_4 ∧ Aside0 (analemmalaw05_HeaderAsks.j0 kq a0 a1 a2 a3 x22_4 = some r) ∧ Aside0 (kq ≤ k) ∧ Aside0 (Below w.heap.size w wc))
  case first =>
    have H := HC5.out
    clear HC5
    by_cases c6 : (a3.size : Int) > 2048
    · rw [if_pos c6] at H
      have c6b0 : decide (2048 < (a3.size : Int)) = true := decide_eq_true c6
      have c6b1 : decide (2048 < a3.size) = true := decide_eq_true (by omega)
      clear c6
      (first | rw [c6b0] | (simp only [i64_w, i32_w]; rw [c6b0]) | skip)
      have H' := Aside0.mk H
      clear H
      go_wp2
      go_meet
      case rel => exact ⟨_, (true), (by first | rfl | (simp; done) | (simp [*]; done)), H', ⟨by first | omega | exact Nat.le_refl _⟩, ⟨by repeat (first | (with_reducible first | exact HB.out | apply below_alloc | apply pw_below_drewN | apply below_drew1) | exact HB.out)⟩⟩
    · rw [if_neg c6] at H
      have c6b0 : decide (2048 < (a3.size : Int)) = false := decide_eq_false c6
      have c6b1 : decide (2048 < a3.size) = false := decide_eq_false (by omega)
      clear c6
      (first | rw [c6b0] | (simp only [i64_w, i32_w]; rw [c6b0]) | skip)
      replace H := Option.bind_eq_some_iff.mp H
      obtain ⟨t228, A70, H⟩ := H
      replace H : (analemmalaw05_HeaderAsks.j0 k a0 a1 a2 a3 (!t228)) = some r := H
      have A7 := Aside0.mk A70
      clear A70
      have H' := Aside0.mk H
      clear H
      go_wp2_with (first | (go_at_call 33; (with_reducible refine (analemmalaw05_shown.calls k  t228 _ A7.out).mono ?_); rintro e w8 ⟨rfl, hb⟩; have n0_ := Aside0.mk (below_step (by repeat (first | (with_reducible first | exact HB.out | apply below_alloc | apply pw_below_drewN | apply below_drew1) | exact HB.out)) hb); clear HB; have HB := n0_; clear n0_; (try clear hb); (try clear hb2); (try clear hk); (try clear hi)))
      go_meet
      case rel => exact ⟨_, (!t228), (by first | rfl | (simp; done) | (simp [*]; done)), H', ⟨by first | omega | exact Nat.le_refl _⟩, ⟨by repeat (first | (with_reducible first | exact HB.out | apply below_alloc | apply pw_below_drewN | apply below_drew1) | exact HB.out)⟩⟩
  case rest =>
    clear HC5
    try clear c1
    try clear p2
    try clear c6
    try clear c6b0
    try clear c6b1
    obtain ⟨kq, x22_4, rfl, HA, HJ4, HB⟩ := hcut
    cases kq with
    | zero => exact absurd HA.out (by simp [analemmalaw05_HeaderAsks.j0])
    | succ kj4 =>
      have H := HA.out
      clear HA
      simp only [analemmalaw05_HeaderAsks.j0] at H
      by_cases c9 : x22_4 = true
      · subst c9
        have H1 : ((analemmalaw05_shown.f kj4).bind fun t229 => (some t229)) = some r := by rw [if_pos rfl] at H; exact H
        clear H
        have H := H1
        clear H1
        replace H := Option.bind_eq_some_iff.mp H
        obtain ⟨t229, A100, H⟩ := H
        replace H : (some t229) = some r := H
        have A10 := Aside0.mk A100
        clear A100
        first | exact absurd ((Option.some.inj H).trans hr.out) Bool.false_ne_true | skip
        all_goals (obtain rfl := Option.some.inj H)
        all_goals (go_wp2_with (first | ((with_reducible refine gate_callee (f := 33) rfl ?_); refine goesL_ (some 23) rfl rfl Try.func33 (by kernel_rfl) rfl #[] rfl (by (try simp only [List.map_toArray, List.map_cons, List.map_nil]); first | done | rfl | (simp only [List.length_drop, List.length_take]; rfl)) ?_; (with_reducible refine (analemmalaw05_shown.calls kj4  t229 _ A10.out).mono ?_); rintro e w11 ⟨rfl, hb⟩; refine ⟨_, rfl, ?_⟩; have n0_ := Aside0.mk (below_step (by repeat (first | (with_reducible first | exact HB.out | apply below_alloc | apply pw_below_drewN | apply below_drew1) | exact HB.out)) hb); clear HB; have HB := n0_; clear n0_; (try clear hb); (try clear hb2); (try clear hk); (try clear hi))))
        all_goals (go_ret)
        all_goals (exact ⟨by first | rfl | (simp [errW_none, errW_some] <;> rfl) | (simp [*, errW_none, errW_some] <;> rfl), by repeat (first | (with_reducible first | exact HB.out | apply below_alloc | apply pw_below_drewN | apply below_drew1) | exact HB.out)⟩)
      · replace c9 := Bool.eq_false_iff.mpr c9
        subst c9
        have H1 : ((header_Ask.f kj4 a0 a1 a2).bind fun bt230 => ((analemmaref05_Ask.f kj4 a0 a1 a2).bind fun bt232 => (if bt230.1.toList = bt232.1.toList then (if bt230.2 = bt232.2 then ((header_Ref.f a3).bind fun t234 => ((analemmaref05_Ref.f kj4 a3).bind fun t235 => (analemmalaw05_HeaderAsks.j1 kj4 a0 a1 a2 bt230.1 bt230.2 (t234 != t235)))) else (analemmalaw05_HeaderAsks.j1 kj4 a0 a1 a2 bt230.1 bt230.2 true)) else (analemmalaw05_HeaderAsks.j1 kj4 a0 a1 a2 bt230.1 bt230.2 true)))) = some r := by rw [if_neg (show ¬ (false = true) by decide)] at H; exact H
        clear H
        have H := H1
        clear H1
        replace H := Option.bind_eq_some_iff.mp H
        obtain ⟨⟨t230, t231⟩, A120, H⟩ := H
        replace H : ((analemmaref05_Ask.f kj4 a0 a1 a2).bind fun bt232 => (if t230.toList = bt232.1.toList then (if t231 = bt232.2 then ((header_Ref.f a3).bind fun t234 => ((analemmaref05_Ref.f kj4 a3).bind fun t235 => (analemmalaw05_HeaderAsks.j1 kj4 a0 a1 a2 t230 t231 (t234 != t235)))) else (analemmalaw05_HeaderAsks.j1 kj4 a0 a1 a2 t230 t231 true)) else (analemmalaw05_HeaderAsks.j1 kj4 a0 a1 a2 t230 t231 true))) = some r := H
        have A12 := Aside0.mk A120
        clear A120
        replace H := Option.bind_eq_some_iff.mp H
        obtain ⟨⟨t232, t233⟩, A130, H⟩ := H
        replace H : (if t230.toList = t232.toList then (if t231 = t233 then ((header_Ref.f a3).bind fun t234 => ((analemmaref05_Ref.f kj4 a3).bind fun t235 => (analemmalaw05_HeaderAsks.j1 kj4 a0 a1 a2 t230 t231 (t234 != t235)))) else (analemmalaw05_HeaderAsks.j1 kj4 a0 a1 a2 t230 t231 true)) else (analemmalaw05_HeaderAsks.j1 kj4 a0 a1 a2 t230 t231 true)) = some r := H
        have A13 := Aside0.mk A130
        clear A130
        have HC14 := Aside0.mk H
        clear H
        go_upto_region 5 with (first | ((with_reducible refine gate_callee (f := 36) rfl ?_); refine goesL_ (some 28) rfl rfl Try.func36 (by kernel_rfl) rfl #[.int .i64 a0, .int .i64 a1, .int .u64 a2] rfl (by (try simp only [List.map_toArray, List.map_cons, List.map_nil]); first | done | rfl | (simp only [List.length_drop, List.length_take]; rfl)) ?_; (with_reducible refine (header_Ask.calls kj4 a0 a1 a2 t230 t231 _ A12.out).mono ?_); rintro e w15 ⟨rfl, hb⟩; refine ⟨_, rfl, ?_⟩; have n0_ := Aside0.mk (below_step (by repeat (first | (with_reducible first | exact HB.out | apply below_alloc | apply pw_below_drewN | apply below_drew1) | exact HB.out)) hb); clear HB; have HB := n0_; clear n0_; (try clear hb); (try clear hb2); (try clear hk); (try clear hi)) | ((with_reducible refine gate_callee (f := 37) rfl ?_); refine goesL_ (some 35) rfl rfl Try.func37 (by kernel_rfl) rfl #[.int .i64 a0, .int .i64 a1, .int .u64 a2] rfl (by (try simp only [List.map_toArray, List.map_cons, List.map_nil]); first | done | rfl | (simp only [List.length_drop, List.length_take]; rfl)) ?_; (with_reducible refine (analemmaref05_Ask.calls kj4 a0 a1 a2 t232 t233 _ A13.out).mono ?_); rintro e w16 ⟨rfl, hb⟩; refine ⟨_, rfl, ?_⟩; have n0_ := Aside0.mk (below_step (by repeat (first | (with_reducible first | exact HB.out | apply below_alloc | apply pw_below_drewN | apply below_drew1) | exact HB.out)) hb); clear HB; have HB := n0_; clear n0_; (try clear hb); (try clear hb2); (try clear hk); (try clear hi)))
        (try simp only [Act.put, List.setIfInBounds_toArray, List.set_cons_zero, List.set_cons_succ])
        go_cut [52] (fun v52 wc => ∃ (kq : Nat) (x52_13 : Bool), v52 = .bool x52_13 ∧ Aside0 (analemmalaw05_HeaderAsks.j1 kq a0 a1 a2 t230 t231 x52_13 = some r) ∧ Aside0 (kq ≤ kj4) ∧ Aside0 (Below w.heap.size w wc))
        case first =>
          have H := HC14.out
          clear HC14
          by_cases c17 : t230.toList = t232.toList
          · rw [if_pos c17] at H
            have c17b0 : (t230.toList == t232.toList) = true := beq_iff_eq.mpr c17
            have c17b1 : (t230.toList != t232.toList) = false := bne_eq_false_iff_eq.mpr c17
            clear c17
            (first | rw [c17b0] | (simp only [i64_w, i32_w]; rw [c17b0]) | skip)
            by_cases c18 : t231 = t233
            · rw [if_pos c18] at H
              have c18b0 : (t231 == t233) = true := beq_iff_eq.mpr c18
              have c18b1 : (t231 != t233) = false := bne_eq_false_iff_eq.mpr c18
              clear c18
              replace H := Option.bind_eq_some_iff.mp H
              obtain ⟨t234, A190, H⟩ := H
              replace H : ((analemmaref05_Ref.f kj4 a3).bind fun t235 => (analemmalaw05_HeaderAsks.j1 kj4 a0 a1 a2 t230 t231 (t234 != t235))) = some r := H
              have A19 := Aside0.mk A190
              clear A190
              replace H := Option.bind_eq_some_iff.mp H
              obtain ⟨t235, A200, H⟩ := H
              replace H : (analemmalaw05_HeaderAsks.j1 kj4 a0 a1 a2 t230 t231 (t234 != t235)) = some r := H
              have A20 := Aside0.mk A200
              clear A200
              have H' := Aside0.mk H
              clear H
              go_wp2_with (first | (go_at_call 38; (with_reducible refine (header_Ref.calls a3 t234 _ A19.out).mono ?_); rintro e w21 ⟨rfl, hb⟩; have n0_ := Aside0.mk (below_step (by repeat (first | (with_reducible first | exact HB.out | apply below_alloc | apply pw_below_drewN | apply below_drew1) | exact HB.out)) hb); clear HB; have HB := n0_; clear n0_; (try clear hb); (try clear hb2); (try clear hk); (try clear hi)) | (go_at_call 39; (with_reducible refine (analemmaref05_Ref.calls kj4 a3 t235 _ A20.out).mono ?_); rintro e w' ⟨rfl, ⟨nd, rfl⟩⟩))
              go_meet
              case rel => exact ⟨_, ((t234 != t235)), (by first | rfl | (simp; done) | (simp [*]; done)), H', ⟨by have := HJ4.out; first | omega | exact Nat.le_refl _⟩, ⟨by repeat (first | (with_reducible first | exact HB.out | apply below_alloc | apply pw_below_drewN | apply below_drew1) | exact HB.out)⟩⟩
            · rw [if_neg c18] at H
              have c18b0 : (t231 == t233) = false := beq_eq_false_iff_ne.mpr c18
              have c18b1 : (t231 != t233) = true := bne_iff_ne.mpr c18
              have H' := Aside0.mk H
              clear H
              go_wp2
              go_meet
              case rel => exact ⟨_, (true), (by first | rfl | (simp; done) | (simp [*]; done)), H', ⟨by have := HJ4.out; first | omega | exact Nat.le_refl _⟩, ⟨by repeat (first | (with_reducible first | exact HB.out | apply below_alloc | apply pw_below_drewN | apply below_drew1) | exact HB.out)⟩⟩
          · rw [if_neg c17] at H
            have c17b0 : (t230.toList == t232.toList) = false := beq_eq_false_iff_ne.mpr c17
            have c17b1 : (t230.toList != t232.toList) = true := bne_iff_ne.mpr c17
            (first | rw [c17b0] | (simp only [i64_w, i32_w]; rw [c17b0]) | skip)
            have H' := Aside0.mk H
            clear H
            go_wp2
            go_meet
            case rel => exact ⟨_, (true), (by first | rfl | (simp; done) | (simp [*]; done)), H', ⟨by have := HJ4.out; first | omega | exact Nat.le_refl _⟩, ⟨by repeat (first | (with_reducible first | exact HB.out | apply below_alloc | apply pw_below_drewN | apply below_drew1) | exact HB.out)⟩⟩
        case rest =>
          clear HC14
          try clear c1
          try clear p2
          try clear c3
          try clear c6
          try clear c6b0
          try clear c6b1
          try clear c9
          try clear c13
          try clear c17
          try clear c17b0
          try clear c17b1
          try clear c18
          try clear c18b0
          try clear c18b1
          try clear p2
          obtain ⟨kq, x52_13, rfl, HA, HJ13, HB⟩ := hcut
          cases kq with
          | zero => exact absurd HA.out (by simp [analemmalaw05_HeaderAsks.j1])
          | succ kj13 =>
            have H := HA.out
            clear HA
            simp only [analemmalaw05_HeaderAsks.j1] at H
            by_cases c22 : x52_13 = true
            · subst c22
              have H1 : (some false) = some r := by rw [if_pos rfl] at H; exact H
              clear H
              have H := H1
              clear H1
              first | exact absurd ((Option.some.inj H).trans hr.out) Bool.false_ne_true | skip
              all_goals (obtain rfl := Option.some.inj H)
              all_goals (go_wp2)
              all_goals (go_ret)
              all_goals (exact ⟨by first | rfl | (simp [errW_none, errW_some] <;> rfl) | (simp [*, errW_none, errW_some] <;> rfl), by repeat (first | (with_reducible first | exact HB.out | apply below_alloc | apply pw_below_drewN | apply below_drew1) | exact HB.out)⟩)
            · replace c22 := Bool.eq_false_iff.mpr c22
              subst c22
              have H1 : (if t231 = 0 then ((header_Decode.f t230).bind fun bt236 => (if bt236.2.2.2.2.2.2.2.2.2.2.2.2.2.2 = 0 then (if bt236.2.2.1 = 3 then (if bt236.2.1 = a0 then (if bt236.2.2.2.2.1 = a1 then (if bt236.2.2.2.2.2.2.2.2.2.2.2.2.1 = a2 then (some (bt236.2.2.2.2.2.2.2.2.2.2.1 == 0)) else (some false)) else (some false)) else (some false)) else (some false)) else (some false))) else (some (t230.toList == ([] : List UInt8)))) = some r := by rw [if_neg (show ¬ (false = true) by decide)] at H; exact H
              clear H
              have H := H1
              clear H1
              by_cases c23 : t231 = 0
              · rw [if_pos c23] at H
                have c23b0 : (t231 == 0) = true := beq_iff_eq.mpr c23
                have c23b1 : (t231 != 0) = false := bne_eq_false_iff_eq.mpr c23
                clear c23
                replace H := Option.bind_eq_some_iff.mp H
                obtain ⟨⟨t236, t237, t238, t239, t240, t241, t242, t243, t244, t245, t246, t247, t248, t249, t250⟩, A240, H⟩ := H
                replace H : (if t250 = 0 then (if t238 = 3 then (if t237 = a0 then (if t240 = a1 then (if t248 = a2 then (some (t246 == 0)) else (some false)) else (some false)) else (some false)) else (some false)) else (some false)) = some r := H
                have A24 := Aside0.mk A240
                clear A240
                by_cases c25 : t250 = 0
                · rw [if_pos c25] at H
                  have c25b0 : (t250 == 0) = true := beq_iff_eq.mpr c25
                  have c25b1 : (t250 != 0) = false := bne_eq_false_iff_eq.mpr c25
                  clear c25
                  by_cases c26 : t238 = 3
                  · rw [if_pos c26] at H
                    have c26b0 : (t238 == 3) = true := beq_iff_eq.mpr c26
                    have c26b1 : (t238 != 3) = false := bne_eq_false_iff_eq.mpr c26
                    clear c26
                    by_cases c27 : t237 = a0
                    · rw [if_pos c27] at H
                      have c27b0 : (t237 == a0) = true := beq_iff_eq.mpr c27
                      have c27b1 : (t237 != a0) = false := bne_eq_false_iff_eq.mpr c27
                      clear c27
                      by_cases c28 : t240 = a1
                      · rw [if_pos c28] at H
                        have c28b0 : (t240 == a1) = true := beq_iff_eq.mpr c28
                        have c28b1 : (t240 != a1) = false := bne_eq_false_iff_eq.mpr c28
                        clear c28
                        by_cases c29 : t248 = a2
                        · rw [if_pos c29] at H
                          have c29b0 : (t248 == a2) = true := beq_iff_eq.mpr c29
                          have c29b1 : (t248 != a2) = false := bne_eq_false_iff_eq.mpr c29
                          clear c29
                          first | exact absurd ((Option.some.inj H).trans hr.out) Bool.false_ne_true | skip
                          all_goals (obtain rfl := Option.some.inj H)
                          all_goals (go_wp2_with (first | ((with_reducible refine gate_callee (f := 34) rfl ?_); refine goesL_ (some 59) rfl rfl Try.func34 (by kernel_rfl) rfl #[.string t230] rfl (by (try simp only [List.map_toArray, List.map_cons, List.map_nil]); first | done | rfl | (simp only [List.length_drop, List.length_take]; rfl)) ?_; (with_reducible refine (header_Decode.calls t230 t236 t237 t238 t239 t240 t241 t242 t243 t244 t245 t246 t247 t248 t249 t250 _ A24.out).mono ?_); rintro e w30 ⟨rfl, hb⟩; refine ⟨_, rfl, ?_⟩; have n0_ := Aside0.mk (below_step (by repeat (first | (with_reducible first | exact HB.out | apply below_alloc | apply pw_below_drewN | apply below_drew1) | exact HB.out)) hb); clear HB; have HB := n0_; clear n0_; (try clear hb); (try clear hb2); (try clear hk); (try clear hi)) | ((with_reducible refine gate_dst (N := 13) rfl ?_); refine box_event ?hg (N := 13) ?hd (cs := #[.int .i64 0, .int .i64 0, .int .i64 0, .int .i64 0, .int .i64 0, .int .i64 0, .int .u32 0, .int .u32 0, .int .u32 0, .int .u64 0, .int .u64 0, .int .u64 0, .int .u64 0]) (t := 42) ?hr ?_; (case hd => rfl); (case hg => rfl); (case hr => first | (go_simp; done) | (go_simp; rfl)); intro gb251 hg w31 hbox hb; have n0_ := Aside0.mk (below_step (by repeat (first | (with_reducible first | exact HB.out | apply below_alloc | apply pw_below_drewN | apply below_drew1) | exact HB.out)) hb); have n1_ := Aside0.mk (hbox); have n2_ := Aside0.mk ((by rw [hg]; exact (below_size (by repeat (first | (with_reducible first | exact HB.out | apply below_alloc | apply pw_below_drewN | apply below_drew1) | exact HB.out))) : w.heap.size ≤ gb251)); have n3_ := Aside0.mk ((by rw [hg]; exact (below_size (by repeat (first | (with_reducible first | exact HB.out | apply below_alloc | apply pw_below_drewN | apply below_drew1) | exact HB.out))) : w.heap.size ≤ gb251)); clear HB; have HB := n0_; have BK251 := n1_; have GW251 := n2_; have GE251 := n3_; clear n0_ n1_ n2_ n3_; clear hb hbox hg; have hcz32_0 : w31.cell? ⟨gb251, 0, none⟩ = some (.int .i64 0) := (blk_cell BK251.out 0).trans rfl; have hcz32_1 : w31.cell? ⟨gb251, 1, none⟩ = some (.int .i64 0) := (blk_cell BK251.out 1).trans rfl; have hcz32_2 : w31.cell? ⟨gb251, 2, none⟩ = some (.int .i64 0) := (blk_cell BK251.out 2).trans rfl; have hcz32_3 : w31.cell? ⟨gb251, 3, none⟩ = some (.int .i64 0) := (blk_cell BK251.out 3).trans rfl; have hcz32_4 : w31.cell? ⟨gb251, 4, none⟩ = some (.int .i64 0) := (blk_cell BK251.out 4).trans rfl; have hcz32_5 : w31.cell? ⟨gb251, 5, none⟩ = some (.int .i64 0) := (blk_cell BK251.out 5).trans rfl; have hcz32_6 : w31.cell? ⟨gb251, 6, none⟩ = some (.int .u32 0) := (blk_cell BK251.out 6).trans rfl; have hcz32_7 : w31.cell? ⟨gb251, 7, none⟩ = some (.int .u32 0) := (blk_cell BK251.out 7).trans rfl; have hcz32_8 : w31.cell? ⟨gb251, 8, none⟩ = some (.int .u32 0) := (blk_cell BK251.out 8).trans rfl; have hcz32_9 : w31.cell? ⟨gb251, 9, none⟩ = some (.int .u64 0) := (blk_cell BK251.out 9).trans rfl; have hcz32_10 : w31.cell? ⟨gb251, 10, none⟩ = some (.int .u64 0) := (blk_cell BK251.out 10).trans rfl; have hcz32_11 : w31.cell? ⟨gb251, 11, none⟩ = some (.int .u64 0) := (blk_cell BK251.out 11).trans rfl; have hcz32_12 : w31.cell? ⟨gb251, 12, none⟩ = some (.int .u64 0) := (blk_cell BK251.out 12).trans rfl; have hfz32_0 := blk_frozen BK251.out 0; have hfz32_1 := blk_frozen BK251.out 1; have hfz32_2 := blk_frozen BK251.out 2; have hfz32_3 := blk_frozen BK251.out 3; have hfz32_4 := blk_frozen BK251.out 4; have hfz32_5 := blk_frozen BK251.out 5; have hfz32_6 := blk_frozen BK251.out 6; have hfz32_7 := blk_frozen BK251.out 7; have hfz32_8 := blk_frozen BK251.out 8; have hfz32_9 := blk_frozen BK251.out 9; have hfz32_10 := blk_frozen BK251.out 10; have hfz32_11 := blk_frozen BK251.out 11; have hfz32_12 := blk_frozen BK251.out 12)))
                          all_goals (go_ret)
                          all_goals (exact ⟨by first | rfl | (simp [errW_none, errW_some] <;> rfl) | (simp [*, errW_none, errW_some] <;> rfl), by repeat (first | (with_reducible first | exact HB.out | apply below_alloc | apply pw_below_drewN | apply below_drew1 | refine below_set ?_ GE251.out) | exact HB.out)⟩)
                        · rw [if_neg c29] at H
                          have c29b0 : (t248 == a2) = false := beq_eq_false_iff_ne.mpr c29
                          have c29b1 : (t248 != a2) = true := bne_iff_ne.mpr c29
                          first | exact absurd ((Option.some.inj H).trans hr.out) Bool.false_ne_true | skip
                          all_goals (obtain rfl := Option.some.inj H)
                          all_goals (go_wp2_with (first | ((with_reducible refine gate_callee (f := 34) rfl ?_); refine goesL_ (some 59) rfl rfl Try.func34 (by kernel_rfl) rfl #[.string t230] rfl (by (try simp only [List.map_toArray, List.map_cons, List.map_nil]); first | done | rfl | (simp only [List.length_drop, List.length_take]; rfl)) ?_; (with_reducible refine (header_Decode.calls t230 t236 t237 t238 t239 t240 t241 t242 t243 t244 t245 t246 t247 t248 t249 t250 _ A24.out).mono ?_); rintro e w33 ⟨rfl, hb⟩; refine ⟨_, rfl, ?_⟩; have n0_ := Aside0.mk (below_step (by repeat (first | (with_reducible first | exact HB.out | apply below_alloc | apply pw_below_drewN | apply below_drew1) | exact HB.out)) hb); clear HB; have HB := n0_; clear n0_; (try clear hb); (try clear hb2); (try clear hk); (try clear hi)) | ((with_reducible refine gate_dst (N := 13) rfl ?_); refine box_event ?hg (N := 13) ?hd (cs := #[.int .i64 0, .int .i64 0, .int .i64 0, .int .i64 0, .int .i64 0, .int .i64 0, .int .u32 0, .int .u32 0, .int .u32 0, .int .u64 0, .int .u64 0, .int .u64 0, .int .u64 0]) (t := 42) ?hr ?_; (case hd => rfl); (case hg => rfl); (case hr => first | (go_simp; done) | (go_simp; rfl)); intro gb251 hg w34 hbox hb; have n0_ := Aside0.mk (below_step (by repeat (first | (with_reducible first | exact HB.out | apply below_alloc | apply pw_below_drewN | apply below_drew1) | exact HB.out)) hb); have n1_ := Aside0.mk (hbox); have n2_ := Aside0.mk ((by rw [hg]; exact (below_size (by repeat (first | (with_reducible first | exact HB.out | apply below_alloc | apply pw_below_drewN | apply below_drew1) | exact HB.out))) : w.heap.size ≤ gb251)); have n3_ := Aside0.mk ((by rw [hg]; exact (below_size (by repeat (first | (with_reducible first | exact HB.out | apply below_alloc | apply pw_below_drewN | apply below_drew1) | exact HB.out))) : w.heap.size ≤ gb251)); clear HB; have HB := n0_; have BK251 := n1_; have GW251 := n2_; have GE251 := n3_; clear n0_ n1_ n2_ n3_; clear hb hbox hg; have hcz35_0 : w34.cell? ⟨gb251, 0, none⟩ = some (.int .i64 0) := (blk_cell BK251.out 0).trans rfl; have hcz35_1 : w34.cell? ⟨gb251, 1, none⟩ = some (.int .i64 0) := (blk_cell BK251.out 1).trans rfl; have hcz35_2 : w34.cell? ⟨gb251, 2, none⟩ = some (.int .i64 0) := (blk_cell BK251.out 2).trans rfl; have hcz35_3 : w34.cell? ⟨gb251, 3, none⟩ = some (.int .i64 0) := (blk_cell BK251.out 3).trans rfl; have hcz35_4 : w34.cell? ⟨gb251, 4, none⟩ = some (.int .i64 0) := (blk_cell BK251.out 4).trans rfl; have hcz35_5 : w34.cell? ⟨gb251, 5, none⟩ = some (.int .i64 0) := (blk_cell BK251.out 5).trans rfl; have hcz35_6 : w34.cell? ⟨gb251, 6, none⟩ = some (.int .u32 0) := (blk_cell BK251.out 6).trans rfl; have hcz35_7 : w34.cell? ⟨gb251, 7, none⟩ = some (.int .u32 0) := (blk_cell BK251.out 7).trans rfl; have hcz35_8 : w34.cell? ⟨gb251, 8, none⟩ = some (.int .u32 0) := (blk_cell BK251.out 8).trans rfl; have hcz35_9 : w34.cell? ⟨gb251, 9, none⟩ = some (.int .u64 0) := (blk_cell BK251.out 9).trans rfl; have hcz35_10 : w34.cell? ⟨gb251, 10, none⟩ = some (.int .u64 0) := (blk_cell BK251.out 10).trans rfl; have hcz35_11 : w34.cell? ⟨gb251, 11, none⟩ = some (.int .u64 0) := (blk_cell BK251.out 11).trans rfl; have hcz35_12 : w34.cell? ⟨gb251, 12, none⟩ = some (.int .u64 0) := (blk_cell BK251.out 12).trans rfl; have hfz35_0 := blk_frozen BK251.out 0; have hfz35_1 := blk_frozen BK251.out 1; have hfz35_2 := blk_frozen BK251.out 2; have hfz35_3 := blk_frozen BK251.out 3; have hfz35_4 := blk_frozen BK251.out 4; have hfz35_5 := blk_frozen BK251.out 5; have hfz35_6 := blk_frozen BK251.out 6; have hfz35_7 := blk_frozen BK251.out 7; have hfz35_8 := blk_frozen BK251.out 8; have hfz35_9 := blk_frozen BK251.out 9; have hfz35_10 := blk_frozen BK251.out 10; have hfz35_11 := blk_frozen BK251.out 11; have hfz35_12 := blk_frozen BK251.out 12)))
                          all_goals (go_ret)
                          all_goals (exact ⟨by first | rfl | (simp [errW_none, errW_some] <;> rfl) | (simp [*, errW_none, errW_some] <;> rfl), by repeat (first | (with_reducible first | exact HB.out | apply below_alloc | apply pw_below_drewN | apply below_drew1 | refine below_set ?_ GE251.out) | exact HB.out)⟩)
                      · rw [if_neg c28] at H
                        have c28b0 : (t240 == a1) = false := beq_eq_false_iff_ne.mpr c28
                        have c28b1 : (t240 != a1) = true := bne_iff_ne.mpr c28
                        first | exact absurd ((Option.some.inj H).trans hr.out) Bool.false_ne_true | skip
                        all_goals (obtain rfl := Option.some.inj H)
                        all_goals (go_wp2_with (first | ((with_reducible refine gate_callee (f := 34) rfl ?_); refine goesL_ (some 59) rfl rfl Try.func34 (by kernel_rfl) rfl #[.string t230] rfl (by (try simp only [List.map_toArray, List.map_cons, List.map_nil]); first | done | rfl | (simp only [List.length_drop, List.length_take]; rfl)) ?_; (with_reducible refine (header_Decode.calls t230 t236 t237 t238 t239 t240 t241 t242 t243 t244 t245 t246 t247 t248 t249 t250 _ A24.out).mono ?_); rintro e w36 ⟨rfl, hb⟩; refine ⟨_, rfl, ?_⟩; have n0_ := Aside0.mk (below_step (by repeat (first | (with_reducible first | exact HB.out | apply below_alloc | apply pw_below_drewN | apply below_drew1) | exact HB.out)) hb); clear HB; have HB := n0_; clear n0_; (try clear hb); (try clear hb2); (try clear hk); (try clear hi)) | ((with_reducible refine gate_dst (N := 13) rfl ?_); refine box_event ?hg (N := 13) ?hd (cs := #[.int .i64 0, .int .i64 0, .int .i64 0, .int .i64 0, .int .i64 0, .int .i64 0, .int .u32 0, .int .u32 0, .int .u32 0, .int .u64 0, .int .u64 0, .int .u64 0, .int .u64 0]) (t := 42) ?hr ?_; (case hd => rfl); (case hg => rfl); (case hr => first | (go_simp; done) | (go_simp; rfl)); intro gb251 hg w37 hbox hb; have n0_ := Aside0.mk (below_step (by repeat (first | (with_reducible first | exact HB.out | apply below_alloc | apply pw_below_drewN | apply below_drew1) | exact HB.out)) hb); have n1_ := Aside0.mk (hbox); have n2_ := Aside0.mk ((by rw [hg]; exact (below_size (by repeat (first | (with_reducible first | exact HB.out | apply below_alloc | apply pw_below_drewN | apply below_drew1) | exact HB.out))) : w.heap.size ≤ gb251)); have n3_ := Aside0.mk ((by rw [hg]; exact (below_size (by repeat (first | (with_reducible first | exact HB.out | apply below_alloc | apply pw_below_drewN | apply below_drew1) | exact HB.out))) : w.heap.size ≤ gb251)); clear HB; have HB := n0_; have BK251 := n1_; have GW251 := n2_; have GE251 := n3_; clear n0_ n1_ n2_ n3_; clear hb hbox hg; have hcz38_0 : w37.cell? ⟨gb251, 0, none⟩ = some (.int .i64 0) := (blk_cell BK251.out 0).trans rfl; have hcz38_1 : w37.cell? ⟨gb251, 1, none⟩ = some (.int .i64 0) := (blk_cell BK251.out 1).trans rfl; have hcz38_2 : w37.cell? ⟨gb251, 2, none⟩ = some (.int .i64 0) := (blk_cell BK251.out 2).trans rfl; have hcz38_3 : w37.cell? ⟨gb251, 3, none⟩ = some (.int .i64 0) := (blk_cell BK251.out 3).trans rfl; have hcz38_4 : w37.cell? ⟨gb251, 4, none⟩ = some (.int .i64 0) := (blk_cell BK251.out 4).trans rfl; have hcz38_5 : w37.cell? ⟨gb251, 5, none⟩ = some (.int .i64 0) := (blk_cell BK251.out 5).trans rfl; have hcz38_6 : w37.cell? ⟨gb251, 6, none⟩ = some (.int .u32 0) := (blk_cell BK251.out 6).trans rfl; have hcz38_7 : w37.cell? ⟨gb251, 7, none⟩ = some (.int .u32 0) := (blk_cell BK251.out 7).trans rfl; have hcz38_8 : w37.cell? ⟨gb251, 8, none⟩ = some (.int .u32 0) := (blk_cell BK251.out 8).trans rfl; have hcz38_9 : w37.cell? ⟨gb251, 9, none⟩ = some (.int .u64 0) := (blk_cell BK251.out 9).trans rfl; have hcz38_10 : w37.cell? ⟨gb251, 10, none⟩ = some (.int .u64 0) := (blk_cell BK251.out 10).trans rfl; have hcz38_11 : w37.cell? ⟨gb251, 11, none⟩ = some (.int .u64 0) := (blk_cell BK251.out 11).trans rfl; have hcz38_12 : w37.cell? ⟨gb251, 12, none⟩ = some (.int .u64 0) := (blk_cell BK251.out 12).trans rfl; have hfz38_0 := blk_frozen BK251.out 0; have hfz38_1 := blk_frozen BK251.out 1; have hfz38_2 := blk_frozen BK251.out 2; have hfz38_3 := blk_frozen BK251.out 3; have hfz38_4 := blk_frozen BK251.out 4; have hfz38_5 := blk_frozen BK251.out 5; have hfz38_6 := blk_frozen BK251.out 6; have hfz38_7 := blk_frozen BK251.out 7; have hfz38_8 := blk_frozen BK251.out 8; have hfz38_9 := blk_frozen BK251.out 9; have hfz38_10 := blk_frozen BK251.out 10; have hfz38_11 := blk_frozen BK251.out 11; have hfz38_12 := blk_frozen BK251.out 12)))
                        all_goals (go_ret)
                        all_goals (exact ⟨by first | rfl | (simp [errW_none, errW_some] <;> rfl) | (simp [*, errW_none, errW_some] <;> rfl), by repeat (first | (with_reducible first | exact HB.out | apply below_alloc | apply pw_below_drewN | apply below_drew1 | refine below_set ?_ GE251.out) | exact HB.out)⟩)
                    · rw [if_neg c27] at H
                      have c27b0 : (t237 == a0) = false := beq_eq_false_iff_ne.mpr c27
                      have c27b1 : (t237 != a0) = true := bne_iff_ne.mpr c27
                      first | exact absurd ((Option.some.inj H).trans hr.out) Bool.false_ne_true | skip
                      all_goals (obtain rfl := Option.some.inj H)
                      all_goals (go_wp2_with (first | ((with_reducible refine gate_callee (f := 34) rfl ?_); refine goesL_ (some 59) rfl rfl Try.func34 (by kernel_rfl) rfl #[.string t230] rfl (by (try simp only [List.map_toArray, List.map_cons, List.map_nil]); first | done | rfl | (simp only [List.length_drop, List.length_take]; rfl)) ?_; (with_reducible refine (header_Decode.calls t230 t236 t237 t238 t239 t240 t241 t242 t243 t244 t245 t246 t247 t248 t249 t250 _ A24.out).mono ?_); rintro e w39 ⟨rfl, hb⟩; refine ⟨_, rfl, ?_⟩; have n0_ := Aside0.mk (below_step (by repeat (first | (with_reducible first | exact HB.out | apply below_alloc | apply pw_below_drewN | apply below_drew1) | exact HB.out)) hb); clear HB; have HB := n0_; clear n0_; (try clear hb); (try clear hb2); (try clear hk); (try clear hi)) | ((with_reducible refine gate_dst (N := 13) rfl ?_); refine box_event ?hg (N := 13) ?hd (cs := #[.int .i64 0, .int .i64 0, .int .i64 0, .int .i64 0, .int .i64 0, .int .i64 0, .int .u32 0, .int .u32 0, .int .u32 0, .int .u64 0, .int .u64 0, .int .u64 0, .int .u64 0]) (t := 42) ?hr ?_; (case hd => rfl); (case hg => rfl); (case hr => first | (go_simp; done) | (go_simp; rfl)); intro gb251 hg w40 hbox hb; have n0_ := Aside0.mk (below_step (by repeat (first | (with_reducible first | exact HB.out | apply below_alloc | apply pw_below_drewN | apply below_drew1) | exact HB.out)) hb); have n1_ := Aside0.mk (hbox); have n2_ := Aside0.mk ((by rw [hg]; exact (below_size (by repeat (first | (with_reducible first | exact HB.out | apply below_alloc | apply pw_below_drewN | apply below_drew1) | exact HB.out))) : w.heap.size ≤ gb251)); have n3_ := Aside0.mk ((by rw [hg]; exact (below_size (by repeat (first | (with_reducible first | exact HB.out | apply below_alloc | apply pw_below_drewN | apply below_drew1) | exact HB.out))) : w.heap.size ≤ gb251)); clear HB; have HB := n0_; have BK251 := n1_; have GW251 := n2_; have GE251 := n3_; clear n0_ n1_ n2_ n3_; clear hb hbox hg; have hcz41_0 : w40.cell? ⟨gb251, 0, none⟩ = some (.int .i64 0) := (blk_cell BK251.out 0).trans rfl; have hcz41_1 : w40.cell? ⟨gb251, 1, none⟩ = some (.int .i64 0) := (blk_cell BK251.out 1).trans rfl; have hcz41_2 : w40.cell? ⟨gb251, 2, none⟩ = some (.int .i64 0) := (blk_cell BK251.out 2).trans rfl; have hcz41_3 : w40.cell? ⟨gb251, 3, none⟩ = some (.int .i64 0) := (blk_cell BK251.out 3).trans rfl; have hcz41_4 : w40.cell? ⟨gb251, 4, none⟩ = some (.int .i64 0) := (blk_cell BK251.out 4).trans rfl; have hcz41_5 : w40.cell? ⟨gb251, 5, none⟩ = some (.int .i64 0) := (blk_cell BK251.out 5).trans rfl; have hcz41_6 : w40.cell? ⟨gb251, 6, none⟩ = some (.int .u32 0) := (blk_cell BK251.out 6).trans rfl; have hcz41_7 : w40.cell? ⟨gb251, 7, none⟩ = some (.int .u32 0) := (blk_cell BK251.out 7).trans rfl; have hcz41_8 : w40.cell? ⟨gb251, 8, none⟩ = some (.int .u32 0) := (blk_cell BK251.out 8).trans rfl; have hcz41_9 : w40.cell? ⟨gb251, 9, none⟩ = some (.int .u64 0) := (blk_cell BK251.out 9).trans rfl; have hcz41_10 : w40.cell? ⟨gb251, 10, none⟩ = some (.int .u64 0) := (blk_cell BK251.out 10).trans rfl; have hcz41_11 : w40.cell? ⟨gb251, 11, none⟩ = some (.int .u64 0) := (blk_cell BK251.out 11).trans rfl; have hcz41_12 : w40.cell? ⟨gb251, 12, none⟩ = some (.int .u64 0) := (blk_cell BK251.out 12).trans rfl; have hfz41_0 := blk_frozen BK251.out 0; have hfz41_1 := blk_frozen BK251.out 1; have hfz41_2 := blk_frozen BK251.out 2; have hfz41_3 := blk_frozen BK251.out 3; have hfz41_4 := blk_frozen BK251.out 4; have hfz41_5 := blk_frozen BK251.out 5; have hfz41_6 := blk_frozen BK251.out 6; have hfz41_7 := blk_frozen BK251.out 7; have hfz41_8 := blk_frozen BK251.out 8; have hfz41_9 := blk_frozen BK251.out 9; have hfz41_10 := blk_frozen BK251.out 10; have hfz41_11 := blk_frozen BK251.out 11; have hfz41_12 := blk_frozen BK251.out 12)))
                      all_goals (go_ret)
                      all_goals (exact ⟨by first | rfl | (simp [errW_none, errW_some] <;> rfl) | (simp [*, errW_none, errW_some] <;> rfl), by repeat (first | (with_reducible first | exact HB.out | apply below_alloc | apply pw_below_drewN | apply below_drew1 | refine below_set ?_ GE251.out) | exact HB.out)⟩)
                  · rw [if_neg c26] at H
                    have c26b0 : (t238 == 3) = false := beq_eq_false_iff_ne.mpr c26
                    have c26b1 : (t238 != 3) = true := bne_iff_ne.mpr c26
                    first | exact absurd ((Option.some.inj H).trans hr.out) Bool.false_ne_true | skip
                    all_goals (obtain rfl := Option.some.inj H)
                    all_goals (go_wp2_with (first | ((with_reducible refine gate_callee (f := 34) rfl ?_); refine goesL_ (some 59) rfl rfl Try.func34 (by kernel_rfl) rfl #[.string t230] rfl (by (try simp only [List.map_toArray, List.map_cons, List.map_nil]); first | done | rfl | (simp only [List.length_drop, List.length_take]; rfl)) ?_; (with_reducible refine (header_Decode.calls t230 t236 t237 t238 t239 t240 t241 t242 t243 t244 t245 t246 t247 t248 t249 t250 _ A24.out).mono ?_); rintro e w42 ⟨rfl, hb⟩; refine ⟨_, rfl, ?_⟩; have n0_ := Aside0.mk (below_step (by repeat (first | (with_reducible first | exact HB.out | apply below_alloc | apply pw_below_drewN | apply below_drew1) | exact HB.out)) hb); clear HB; have HB := n0_; clear n0_; (try clear hb); (try clear hb2); (try clear hk); (try clear hi)) | ((with_reducible refine gate_dst (N := 13) rfl ?_); refine box_event ?hg (N := 13) ?hd (cs := #[.int .i64 0, .int .i64 0, .int .i64 0, .int .i64 0, .int .i64 0, .int .i64 0, .int .u32 0, .int .u32 0, .int .u32 0, .int .u64 0, .int .u64 0, .int .u64 0, .int .u64 0]) (t := 42) ?hr ?_; (case hd => rfl); (case hg => rfl); (case hr => first | (go_simp; done) | (go_simp; rfl)); intro gb251 hg w43 hbox hb; have n0_ := Aside0.mk (below_step (by repeat (first | (with_reducible first | exact HB.out | apply below_alloc | apply pw_below_drewN | apply below_drew1) | exact HB.out)) hb); have n1_ := Aside0.mk (hbox); have n2_ := Aside0.mk ((by rw [hg]; exact (below_size (by repeat (first | (with_reducible first | exact HB.out | apply below_alloc | apply pw_below_drewN | apply below_drew1) | exact HB.out))) : w.heap.size ≤ gb251)); have n3_ := Aside0.mk ((by rw [hg]; exact (below_size (by repeat (first | (with_reducible first | exact HB.out | apply below_alloc | apply pw_below_drewN | apply below_drew1) | exact HB.out))) : w.heap.size ≤ gb251)); clear HB; have HB := n0_; have BK251 := n1_; have GW251 := n2_; have GE251 := n3_; clear n0_ n1_ n2_ n3_; clear hb hbox hg; have hcz44_0 : w43.cell? ⟨gb251, 0, none⟩ = some (.int .i64 0) := (blk_cell BK251.out 0).trans rfl; have hcz44_1 : w43.cell? ⟨gb251, 1, none⟩ = some (.int .i64 0) := (blk_cell BK251.out 1).trans rfl; have hcz44_2 : w43.cell? ⟨gb251, 2, none⟩ = some (.int .i64 0) := (blk_cell BK251.out 2).trans rfl; have hcz44_3 : w43.cell? ⟨gb251, 3, none⟩ = some (.int .i64 0) := (blk_cell BK251.out 3).trans rfl; have hcz44_4 : w43.cell? ⟨gb251, 4, none⟩ = some (.int .i64 0) := (blk_cell BK251.out 4).trans rfl; have hcz44_5 : w43.cell? ⟨gb251, 5, none⟩ = some (.int .i64 0) := (blk_cell BK251.out 5).trans rfl; have hcz44_6 : w43.cell? ⟨gb251, 6, none⟩ = some (.int .u32 0) := (blk_cell BK251.out 6).trans rfl; have hcz44_7 : w43.cell? ⟨gb251, 7, none⟩ = some (.int .u32 0) := (blk_cell BK251.out 7).trans rfl; have hcz44_8 : w43.cell? ⟨gb251, 8, none⟩ = some (.int .u32 0) := (blk_cell BK251.out 8).trans rfl; have hcz44_9 : w43.cell? ⟨gb251, 9, none⟩ = some (.int .u64 0) := (blk_cell BK251.out 9).trans rfl; have hcz44_10 : w43.cell? ⟨gb251, 10, none⟩ = some (.int .u64 0) := (blk_cell BK251.out 10).trans rfl; have hcz44_11 : w43.cell? ⟨gb251, 11, none⟩ = some (.int .u64 0) := (blk_cell BK251.out 11).trans rfl; have hcz44_12 : w43.cell? ⟨gb251, 12, none⟩ = some (.int .u64 0) := (blk_cell BK251.out 12).trans rfl; have hfz44_0 := blk_frozen BK251.out 0; have hfz44_1 := blk_frozen BK251.out 1; have hfz44_2 := blk_frozen BK251.out 2; have hfz44_3 := blk_frozen BK251.out 3; have hfz44_4 := blk_frozen BK251.out 4; have hfz44_5 := blk_frozen BK251.out 5; have hfz44_6 := blk_frozen BK251.out 6; have hfz44_7 := blk_frozen BK251.out 7; have hfz44_8 := blk_frozen BK251.out 8; have hfz44_9 := blk_frozen BK251.out 9; have hfz44_10 := blk_frozen BK251.out 10; have hfz44_11 := blk_frozen BK251.out 11; have hfz44_12 := blk_frozen BK251.out 12)))
                    all_goals (go_ret)
                    all_goals (exact ⟨by first | rfl | (simp [errW_none, errW_some] <;> rfl) | (simp [*, errW_none, errW_some] <;> rfl), by repeat (first | (with_reducible first | exact HB.out | apply below_alloc | apply pw_below_drewN | apply below_drew1 | refine below_set ?_ GE251.out) | exact HB.out)⟩)
                · rw [if_neg c25] at H
                  have c25b0 : (t250 == 0) = false := beq_eq_false_iff_ne.mpr c25
                  have c25b1 : (t250 != 0) = true := bne_iff_ne.mpr c25
                  first | exact absurd ((Option.some.inj H).trans hr.out) Bool.false_ne_true | skip
                  all_goals (obtain rfl := Option.some.inj H)
                  all_goals (go_wp2_with (first | ((with_reducible refine gate_callee (f := 34) rfl ?_); refine goesL_ (some 59) rfl rfl Try.func34 (by kernel_rfl) rfl #[.string t230] rfl (by (try simp only [List.map_toArray, List.map_cons, List.map_nil]); first | done | rfl | (simp only [List.length_drop, List.length_take]; rfl)) ?_; (with_reducible refine (header_Decode.calls t230 t236 t237 t238 t239 t240 t241 t242 t243 t244 t245 t246 t247 t248 t249 t250 _ A24.out).mono ?_); rintro e w45 ⟨rfl, hb⟩; refine ⟨_, rfl, ?_⟩; have n0_ := Aside0.mk (below_step (by repeat (first | (with_reducible first | exact HB.out | apply below_alloc | apply pw_below_drewN | apply below_drew1) | exact HB.out)) hb); clear HB; have HB := n0_; clear n0_; (try clear hb); (try clear hb2); (try clear hk); (try clear hi)) | ((with_reducible refine gate_dst (N := 13) rfl ?_); refine box_event ?hg (N := 13) ?hd (cs := #[.int .i64 0, .int .i64 0, .int .i64 0, .int .i64 0, .int .i64 0, .int .i64 0, .int .u32 0, .int .u32 0, .int .u32 0, .int .u64 0, .int .u64 0, .int .u64 0, .int .u64 0]) (t := 42) ?hr ?_; (case hd => rfl); (case hg => rfl); (case hr => first | (go_simp; done) | (go_simp; rfl)); intro gb251 hg w46 hbox hb; have n0_ := Aside0.mk (below_step (by repeat (first | (with_reducible first | exact HB.out | apply below_alloc | apply pw_below_drewN | apply below_drew1) | exact HB.out)) hb); have n1_ := Aside0.mk (hbox); have n2_ := Aside0.mk ((by rw [hg]; exact (below_size (by repeat (first | (with_reducible first | exact HB.out | apply below_alloc | apply pw_below_drewN | apply below_drew1) | exact HB.out))) : w.heap.size ≤ gb251)); have n3_ := Aside0.mk ((by rw [hg]; exact (below_size (by repeat (first | (with_reducible first | exact HB.out | apply below_alloc | apply pw_below_drewN | apply below_drew1) | exact HB.out))) : w.heap.size ≤ gb251)); clear HB; have HB := n0_; have BK251 := n1_; have GW251 := n2_; have GE251 := n3_; clear n0_ n1_ n2_ n3_; clear hb hbox hg; have hcz47_0 : w46.cell? ⟨gb251, 0, none⟩ = some (.int .i64 0) := (blk_cell BK251.out 0).trans rfl; have hcz47_1 : w46.cell? ⟨gb251, 1, none⟩ = some (.int .i64 0) := (blk_cell BK251.out 1).trans rfl; have hcz47_2 : w46.cell? ⟨gb251, 2, none⟩ = some (.int .i64 0) := (blk_cell BK251.out 2).trans rfl; have hcz47_3 : w46.cell? ⟨gb251, 3, none⟩ = some (.int .i64 0) := (blk_cell BK251.out 3).trans rfl; have hcz47_4 : w46.cell? ⟨gb251, 4, none⟩ = some (.int .i64 0) := (blk_cell BK251.out 4).trans rfl; have hcz47_5 : w46.cell? ⟨gb251, 5, none⟩ = some (.int .i64 0) := (blk_cell BK251.out 5).trans rfl; have hcz47_6 : w46.cell? ⟨gb251, 6, none⟩ = some (.int .u32 0) := (blk_cell BK251.out 6).trans rfl; have hcz47_7 : w46.cell? ⟨gb251, 7, none⟩ = some (.int .u32 0) := (blk_cell BK251.out 7).trans rfl; have hcz47_8 : w46.cell? ⟨gb251, 8, none⟩ = some (.int .u32 0) := (blk_cell BK251.out 8).trans rfl; have hcz47_9 : w46.cell? ⟨gb251, 9, none⟩ = some (.int .u64 0) := (blk_cell BK251.out 9).trans rfl; have hcz47_10 : w46.cell? ⟨gb251, 10, none⟩ = some (.int .u64 0) := (blk_cell BK251.out 10).trans rfl; have hcz47_11 : w46.cell? ⟨gb251, 11, none⟩ = some (.int .u64 0) := (blk_cell BK251.out 11).trans rfl; have hcz47_12 : w46.cell? ⟨gb251, 12, none⟩ = some (.int .u64 0) := (blk_cell BK251.out 12).trans rfl; have hfz47_0 := blk_frozen BK251.out 0; have hfz47_1 := blk_frozen BK251.out 1; have hfz47_2 := blk_frozen BK251.out 2; have hfz47_3 := blk_frozen BK251.out 3; have hfz47_4 := blk_frozen BK251.out 4; have hfz47_5 := blk_frozen BK251.out 5; have hfz47_6 := blk_frozen BK251.out 6; have hfz47_7 := blk_frozen BK251.out 7; have hfz47_8 := blk_frozen BK251.out 8; have hfz47_9 := blk_frozen BK251.out 9; have hfz47_10 := blk_frozen BK251.out 10; have hfz47_11 := blk_frozen BK251.out 11; have hfz47_12 := blk_frozen BK251.out 12)))
                  all_goals (go_ret)
                  all_goals (exact ⟨by first | rfl | (simp [errW_none, errW_some] <;> rfl) | (simp [*, errW_none, errW_some] <;> rfl), by repeat (first | (with_reducible first | exact HB.out | apply below_alloc | apply pw_below_drewN | apply below_drew1 | refine below_set ?_ GE251.out) | exact HB.out)⟩)
              · rw [if_neg c23] at H
                have c23b0 : (t231 == 0) = false := beq_eq_false_iff_ne.mpr c23
                have c23b1 : (t231 != 0) = true := bne_iff_ne.mpr c23
                first | exact absurd ((Option.some.inj H).trans hr.out) Bool.false_ne_true | skip
                all_goals (obtain rfl := Option.some.inj H)
                all_goals (go_wp2)
                all_goals (go_ret)
                all_goals (exact ⟨by first | rfl | (simp [errW_none, errW_some] <;> rfl) | (simp [*, errW_none, errW_some] <;> rfl), by repeat (first | (with_reducible first | exact HB.out | apply below_alloc | apply pw_below_drewN | apply below_drew1) | exact HB.out)⟩)

/-- THE ONE PURE STATEMENT of analemmalaw05_HeaderAsks: yours. -/
def analemmalaw05_HeaderAsks.Pure : Prop := ∀ (a0 : Int) (a1 : Int) (a2 : Int) (a3 : ByteArray), (Lit.int .i64 a0).wf = true → (Lit.int .i64 a1).wf = true → (Lit.int .u64 a2).wf = true → a3.size ≤ 140737488351232 → ∃ k, analemmalaw05_HeaderAsks.f k a0 a1 a2 a3 = some true
theorem analemmalaw05_HeaderAsks.walk (P : analemmalaw05_HeaderAsks.Pure) (a0 : Int) (a1 : Int) (a2 : Int) (a3 : ByteArray) (w : World) (w0 : (Lit.int .i64 a0).wf = true) (w1 : (Lit.int .i64 a1).wf = true) (w2 : (Lit.int .u64 a2).wf = true) (w3 : a3.size ≤ 140737488351232) :
    Calls Try.prog 13 #[.int .i64 a0, .int .i64 a1, .int .u64 a2, .string a3] w fun e w' => e = .returned (.bool true) ∧ Below w.heap.size w w' := by
  obtain ⟨k, h⟩ := P a0 a1 a2 a3 w0 w1 w2 w3
  refine (analemmalaw05_HeaderAsks.calls k a0 a1 a2 a3 true w h (Aside0.mk rfl)).mono ?_
  rintro e w' ⟨rfl, hd⟩
  exact ⟨rfl, hd⟩

end Go.Proofs.Ytilbkdlbbnkgdaa.MHeader
