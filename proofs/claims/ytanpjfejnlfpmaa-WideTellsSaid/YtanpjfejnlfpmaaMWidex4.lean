/- Functions that the statements of this seat reach, each as a plain Lean function, with a proof that the Go code comes to its answers; no condition. -/
import Derived.Test.YtanpjfejnlfpmaaMWidex0
import Derived.Test.YtanpjfejnlfpmaaMWidex1
import Derived.Test.YtanpjfejnlfpmaaMWidex2
import Derived.Test.YtanpjfejnlfpmaaMWidex3
namespace Go.Proofs.Ytanpjfejnlfpmaa.MWide
open Go.RowKit Go.Proofs.YtanpjfejnlfpmaaW.PrintWords Go.Proofs.YtanpjfejnlfpmaaW.PrintLast Go.Proofs.YtanpjfejnlfpmaaW.PrintMore
attribute [local go_sem] max2_int min2_int max_two min_two max_three min_three max_four min_four   -- for this text's walks alone
set_option linter.unusedVariables false
set_option linter.unusedSimpArgs false

/-! ### analemmalaw01_WideRises: function 8 -/
def analemmalaw01_WideRises.j0 : Nat → Int → Int → Int → Int → Bool → Option (Bool)
  | 0, _, _, _, _, _ => none
  | k + 1, x2, x3, x9, x10, x63 => if x63 = true then (some false) else ((wide_Div.f x9 x2 x3).bind fun bt163 => ((wide_Div.f x10 x2 x3).bind fun bt166 => (if bt166.2.2 = true then (if bt163.2.2 = true then (some (decide (bt163.1 ≤ bt166.1))) else (some false)) else (some true))))
def analemmalaw01_WideRises.f (k : Nat) (a0 : Int) (a1 : Int) (a2 : Int) (a3 : Int) : Option (Bool) := (wide_Mul.f (mn a0 a1) a2).bind fun bt153 => ((wide_Mul.f (mx a0 a1) a2).bind fun bt155 => ((wide_Less.f bt155.1 bt155.2 bt153.1 bt153.2).bind fun t157 => (if t157 = true then (analemmalaw01_WideRises.j0 k a2 a3 (mn a0 a1) (mx a0 a1) true) else ((wide_Sqrt.f k (mn a0 a1) a2).bind fun t158 => ((wide_Sqrt.f k (mx a0 a1) a2).bind fun t159 => (if t158 > t159 then (analemmalaw01_WideRises.j0 k a2 a3 (mn a0 a1) (mx a0 a1) true) else ((wide_Log.f (mn a0 a1)).bind fun t160 => ((wide_Log.f (mx a0 a1)).bind fun t161 => (if t160 > t161 then (analemmalaw01_WideRises.j0 k a2 a3 (mn a0 a1) (mx a0 a1) true) else ((analemmalaw01_shown.f).bind fun t162 => (analemmalaw01_WideRises.j0 k a2 a3 (mn a0 a1) (mx a0 a1) (!t162))))))))))))
theorem analemmalaw01_WideRises.mono_l : ∀ k, (∀ y0 y1 y2 y3 y4, LeO (analemmalaw01_WideRises.j0 k y0 y1 y2 y3 y4) (analemmalaw01_WideRises.j0 (k + 1) y0 y1 y2 y3 y4))
  | 0 => fun _ _ _ _ _ r h => by simp [analemmalaw01_WideRises.j0] at h
  | k + 1 => by
    have ih0 := analemmalaw01_WideRises.mono_l k
    · intro y0 y1 y2 y3 y4
      unfold analemmalaw01_WideRises.j0
      repeat' first
      | (with_reducible exact ih0 _ _ _ _ _)
      | (with_reducible exact wide_Sqrt.mono _ _ _)
      | (with_reducible exact LeO.refl _)
      | (with_reducible exact LeO.none _)
      | (with_reducible refine LeO.ite ?_ ?_)
      | (with_reducible refine LeO.bind ?_ (fun _ => ?_))
      | exact ih0 _ _ _ _ _
      | exact wide_Sqrt.mono _ _ _
      | exact LeO.none _
      | refine LeO.ite ?_ ?_
      | refine LeO.bind ?_ (fun _ => ?_)
theorem analemmalaw01_WideRises.mono : ∀ a0 a1 a2 a3 k, LeO (analemmalaw01_WideRises.f k a0 a1 a2 a3) (analemmalaw01_WideRises.f (k + 1) a0 a1 a2 a3) := by
  intro a0 a1 a2 a3 k
  have ih0 := analemmalaw01_WideRises.mono_l k
  unfold analemmalaw01_WideRises.f
  repeat' first
      | (with_reducible exact ih0 _ _ _ _ _)
      | (with_reducible exact wide_Sqrt.mono _ _ _)
      | (with_reducible exact LeO.refl _)
      | (with_reducible exact LeO.none _)
      | (with_reducible refine LeO.ite ?_ ?_)
      | (with_reducible refine LeO.bind ?_ (fun _ => ?_))
      | exact ih0 _ _ _ _ _
      | exact wide_Sqrt.mono _ _ _
      | exact LeO.none _
      | refine LeO.ite ?_ ?_
      | refine LeO.bind ?_ (fun _ => ?_)
set_option maxHeartbeats 8000000 in
set_option maxRecDepth 100000 in
theorem analemmalaw01_WideRises.calls (k : Nat) (a0 : Int) (a1 : Int) (a2 : Int) (a3 : Int) (r : Bool) (w : World) (h : analemmalaw01_WideRises.f k a0 a1 a2 a3 = some r) (hr : Aside0 (r = true)) :
    Calls Try.prog 8 #[.int .u64 a0, .int .u64 a1, .int .u64 a2, .int .u64 a3] w fun e w' => e = .returned (.bool r) ∧ Below w.heap.size w w' := by
  have HB := Aside0.mk (Below.refl w.heap.size w)
  have H : ((wide_Mul.f (mn a0 a1) a2).bind fun bt153 => ((wide_Mul.f (mx a0 a1) a2).bind fun bt155 => ((wide_Less.f bt155.1 bt155.2 bt153.1 bt153.2).bind fun t157 => (if t157 = true then (analemmalaw01_WideRises.j0 k a2 a3 (mn a0 a1) (mx a0 a1) true) else ((wide_Sqrt.f k (mn a0 a1) a2).bind fun t158 => ((wide_Sqrt.f k (mx a0 a1) a2).bind fun t159 => (if t158 > t159 then (analemmalaw01_WideRises.j0 k a2 a3 (mn a0 a1) (mx a0 a1) true) else ((wide_Log.f (mn a0 a1)).bind fun t160 => ((wide_Log.f (mx a0 a1)).bind fun t161 => (if t160 > t161 then (analemmalaw01_WideRises.j0 k a2 a3 (mn a0 a1) (mx a0 a1) true) else ((analemmalaw01_shown.f).bind fun t162 => (analemmalaw01_WideRises.j0 k a2 a3 (mn a0 a1) (mx a0 a1) (!t162))))))))))))) = some r := h
  clear h
  obtain ⟨ji5, hji5⟩ : ∃ j_ : Int, (mn a0 a1) = j_ := ⟨_, rfl⟩
  replace H : ((wide_Mul.f (ji5) a2).bind fun bt153 => ((wide_Mul.f (mx a0 a1) a2).bind fun bt155 => ((wide_Less.f bt155.1 bt155.2 bt153.1 bt153.2).bind fun t157 => (if t157 = true then (analemmalaw01_WideRises.j0 k a2 a3 ji5 (mx a0 a1) true) else ((wide_Sqrt.f k (ji5) a2).bind fun t158 => ((wide_Sqrt.f k (mx a0 a1) a2).bind fun t159 => (if t158 > t159 then (analemmalaw01_WideRises.j0 k a2 a3 ji5 (mx a0 a1) true) else ((wide_Log.f (ji5)).bind fun t160 => ((wide_Log.f (mx a0 a1)).bind fun t161 => (if t160 > t161 then (analemmalaw01_WideRises.j0 k a2 a3 ji5 (mx a0 a1) true) else ((analemmalaw01_shown.f).bind fun t162 => (analemmalaw01_WideRises.j0 k a2 a3 ji5 (mx a0 a1) (!t162))))))))))))) = some r := by first | (rw [hji5] at H; exact H) | (simp only [hji5] at H ⊢; exact H)
  have hji5_ : (if a1 < a0 then a1 else a0) = ji5 := hji5
  obtain ⟨ji6, hji6⟩ : ∃ j_ : Int, (mx a0 a1) = j_ := ⟨_, rfl⟩
  replace H : ((wide_Mul.f (ji5) a2).bind fun bt153 => ((wide_Mul.f (ji6) a2).bind fun bt155 => ((wide_Less.f bt155.1 bt155.2 bt153.1 bt153.2).bind fun t157 => (if t157 = true then (analemmalaw01_WideRises.j0 k a2 a3 ji5 ji6 true) else ((wide_Sqrt.f k (ji5) a2).bind fun t158 => ((wide_Sqrt.f k (ji6) a2).bind fun t159 => (if t158 > t159 then (analemmalaw01_WideRises.j0 k a2 a3 ji5 ji6 true) else ((wide_Log.f (ji5)).bind fun t160 => ((wide_Log.f (ji6)).bind fun t161 => (if t160 > t161 then (analemmalaw01_WideRises.j0 k a2 a3 ji5 ji6 true) else ((analemmalaw01_shown.f).bind fun t162 => (analemmalaw01_WideRises.j0 k a2 a3 ji5 ji6 (!t162))))))))))))) = some r := by first | (rw [hji6] at H; exact H) | (simp only [hji6] at H ⊢; exact H)
  have hji6_ : (if a0 < a1 then a1 else a0) = ji6 := hji6
  replace H := Option.bind_eq_some_iff.mp H
  obtain ⟨⟨t153, t154⟩, A70, H⟩ := H
  replace H : ((wide_Mul.f (ji6) a2).bind fun bt155 => ((wide_Less.f bt155.1 bt155.2 t153 t154).bind fun t157 => (if t157 = true then (analemmalaw01_WideRises.j0 k a2 a3 ji5 ji6 true) else ((wide_Sqrt.f k (ji5) a2).bind fun t158 => ((wide_Sqrt.f k (ji6) a2).bind fun t159 => (if t158 > t159 then (analemmalaw01_WideRises.j0 k a2 a3 ji5 ji6 true) else ((wide_Log.f (ji5)).bind fun t160 => ((wide_Log.f (ji6)).bind fun t161 => (if t160 > t161 then (analemmalaw01_WideRises.j0 k a2 a3 ji5 ji6 true) else ((analemmalaw01_shown.f).bind fun t162 => (analemmalaw01_WideRises.j0 k a2 a3 ji5 ji6 (!t162)))))))))))) = some r := H
  have A7 := Aside0.mk A70
  clear A70
  replace H := Option.bind_eq_some_iff.mp H
  obtain ⟨⟨t155, t156⟩, A80, H⟩ := H
  replace H : ((wide_Less.f t155 t156 t153 t154).bind fun t157 => (if t157 = true then (analemmalaw01_WideRises.j0 k a2 a3 ji5 ji6 true) else ((wide_Sqrt.f k (ji5) a2).bind fun t158 => ((wide_Sqrt.f k (ji6) a2).bind fun t159 => (if t158 > t159 then (analemmalaw01_WideRises.j0 k a2 a3 ji5 ji6 true) else ((wide_Log.f (ji5)).bind fun t160 => ((wide_Log.f (ji6)).bind fun t161 => (if t160 > t161 then (analemmalaw01_WideRises.j0 k a2 a3 ji5 ji6 true) else ((analemmalaw01_shown.f).bind fun t162 => (analemmalaw01_WideRises.j0 k a2 a3 ji5 ji6 (!t162))))))))))) = some r := H
  have A8 := Aside0.mk A80
  clear A80
  have HC9 := Aside0.mk H
  clear H
  go_enter Try.func8, Try.ntmps8
  go_upto_region 5 with (first | ((with_reducible refine gate_callee (f := 14) rfl ?_); refine goesL_ (some 30) rfl rfl Try.func14 (by kernel_rfl) rfl #[.int .u64 ji5, .int .u64 a2] rfl (by (try simp only [List.map_toArray, List.map_cons, List.map_nil]); first | done | (simp only [hji5]; rfl) | rfl | (simp only [List.length_drop, List.length_take]; rfl)) ?_; (with_reducible refine (wide_Mul.calls ji5 a2 t153 t154 _ A7.out).mono ?_); rintro e w10 ⟨rfl, hb⟩; refine ⟨_, rfl, ?_⟩; have n0_ := Aside0.mk (below_step (by repeat (first | (with_reducible first | exact HB.out | apply below_alloc | apply pw_below_drewN | apply below_drew1) | exact HB.out)) hb); clear HB; have HB := n0_; clear n0_; (try clear hb); (try clear hb2); (try clear hk); (try clear hi)) | ((with_reducible refine gate_callee (f := 14) rfl ?_); refine goesL_ (some 36) rfl rfl Try.func14 (by kernel_rfl) rfl #[.int .u64 ji6, .int .u64 a2] rfl (by (try simp only [List.map_toArray, List.map_cons, List.map_nil]); first | done | (simp only [hji6]; rfl) | rfl | (simp only [List.length_drop, List.length_take]; rfl)) ?_; (with_reducible refine (wide_Mul.calls ji6 a2 t155 t156 _ A8.out).mono ?_); rintro e w11 ⟨rfl, hb⟩; refine ⟨_, rfl, ?_⟩; have n0_ := Aside0.mk (below_step (by repeat (first | (with_reducible first | exact HB.out | apply below_alloc | apply pw_below_drewN | apply below_drew1) | exact HB.out)) hb); clear HB; have HB := n0_; clear n0_; (try clear hb); (try clear hb2); (try clear hk); (try clear hi)))
  (try simp only [Act.put, List.setIfInBounds_toArray, List.set_cons_zero, List.set_cons_succ])
  go_cut [63] (fun v63 wc => ∃ (kq : Nat) (x63_8 : Bool), v63 = .bool x63_8 ∧ Aside0 (analemmalaw01_WideRises.j0 kq a2 a3 ji5 ji6 x63_8 = some r) ∧ Aside0 (kq ≤ k) ∧ Aside0 (Below w.heap.size w wc))
  case first =>
    have H := HC9.out
    clear HC9
    replace H := Option.bind_eq_some_iff.mp H
    obtain ⟨t157, A120, H⟩ := H
    replace H : (if t157 = true then (analemmalaw01_WideRises.j0 k a2 a3 ji5 ji6 true) else ((wide_Sqrt.f k (ji5) a2).bind fun t158 => ((wide_Sqrt.f k (ji6) a2).bind fun t159 => (if t158 > t159 then (analemmalaw01_WideRises.j0 k a2 a3 ji5 ji6 true) else ((wide_Log.f (ji5)).bind fun t160 => ((wide_Log.f (ji6)).bind fun t161 => (if t160 > t161 then (analemmalaw01_WideRises.j0 k a2 a3 ji5 ji6 true) else ((analemmalaw01_shown.f).bind fun t162 => (analemmalaw01_WideRises.j0 k a2 a3 ji5 ji6 (!t162)))))))))) = some r := H
    have A12 := Aside0.mk A120
    clear A120
    by_cases c13 : t157 = true
    · subst c13
      have H1 : (analemmalaw01_WideRises.j0 k a2 a3 ji5 ji6 true) = some r := by rw [if_pos rfl] at H; exact H
      clear H
      have H := H1
      clear H1
      have H' := Aside0.mk H
      clear H
      go_wp2_with (first | ((with_reducible refine gate_callee (f := 16) rfl ?_); refine goesL_ (some 43) rfl rfl Try.func16 (by kernel_rfl) rfl #[.int .u64 t155, .int .u64 t156, .int .u64 t153, .int .u64 t154] rfl (by (try simp only [List.map_toArray, List.map_cons, List.map_nil]); first | done | rfl | (simp only [List.length_drop, List.length_take]; rfl)) ?_; (with_reducible refine (wide_Less.calls t155 t156 t153 t154 true _ A12.out).mono ?_); rintro e w' ⟨rfl, ⟨nd, rfl⟩⟩; refine ⟨_, rfl, ?_⟩))
      go_meet
      case rel => exact ⟨_, (true), (by first | rfl | (simp; done) | (simp [*]; done)), H', ⟨by first | omega | exact Nat.le_refl _⟩, ⟨by repeat (first | (with_reducible first | exact HB.out | apply below_alloc | apply pw_below_drewN | apply below_drew1) | exact HB.out)⟩⟩
    · replace c13 := Bool.eq_false_iff.mpr c13
      subst c13
      have H1 : ((wide_Sqrt.f k (ji5) a2).bind fun t158 => ((wide_Sqrt.f k (ji6) a2).bind fun t159 => (if t158 > t159 then (analemmalaw01_WideRises.j0 k a2 a3 ji5 ji6 true) else ((wide_Log.f (ji5)).bind fun t160 => ((wide_Log.f (ji6)).bind fun t161 => (if t160 > t161 then (analemmalaw01_WideRises.j0 k a2 a3 ji5 ji6 true) else ((analemmalaw01_shown.f).bind fun t162 => (analemmalaw01_WideRises.j0 k a2 a3 ji5 ji6 (!t162))))))))) = some r := by rw [if_neg (show ¬ (false = true) by decide)] at H; exact H
      clear H
      have H := H1
      clear H1
      replace H := Option.bind_eq_some_iff.mp H
      obtain ⟨t158, A140, H⟩ := H
      replace H : ((wide_Sqrt.f k (ji6) a2).bind fun t159 => (if t158 > t159 then (analemmalaw01_WideRises.j0 k a2 a3 ji5 ji6 true) else ((wide_Log.f (ji5)).bind fun t160 => ((wide_Log.f (ji6)).bind fun t161 => (if t160 > t161 then (analemmalaw01_WideRises.j0 k a2 a3 ji5 ji6 true) else ((analemmalaw01_shown.f).bind fun t162 => (analemmalaw01_WideRises.j0 k a2 a3 ji5 ji6 (!t162)))))))) = some r := H
      have A14 := Aside0.mk A140
      clear A140
      replace H := Option.bind_eq_some_iff.mp H
      obtain ⟨t159, A150, H⟩ := H
      replace H : (if t158 > t159 then (analemmalaw01_WideRises.j0 k a2 a3 ji5 ji6 true) else ((wide_Log.f (ji5)).bind fun t160 => ((wide_Log.f (ji6)).bind fun t161 => (if t160 > t161 then (analemmalaw01_WideRises.j0 k a2 a3 ji5 ji6 true) else ((analemmalaw01_shown.f).bind fun t162 => (analemmalaw01_WideRises.j0 k a2 a3 ji5 ji6 (!t162))))))) = some r := H
      have A15 := Aside0.mk A150
      clear A150
      by_cases c16 : t158 > t159
      · rw [if_pos c16] at H
        have c16b0 : decide (t159 < t158) = true := decide_eq_true c16
        clear c16
        (first | rw [c16b0] | (simp only [i64_w, i32_w]; rw [c16b0]) | skip)
        have H' := Aside0.mk H
        clear H
        go_wp2_with (first | ((with_reducible refine gate_callee (f := 16) rfl ?_); refine goesL_ (some 43) rfl rfl Try.func16 (by kernel_rfl) rfl #[.int .u64 t155, .int .u64 t156, .int .u64 t153, .int .u64 t154] rfl (by (try simp only [List.map_toArray, List.map_cons, List.map_nil]); first | done | rfl | (simp only [List.length_drop, List.length_take]; rfl)) ?_; (with_reducible refine (wide_Less.calls t155 t156 t153 t154 false _ A12.out).mono ?_); rintro e w' ⟨rfl, ⟨nd, rfl⟩⟩; refine ⟨_, rfl, ?_⟩) | (go_at_call 17; (with_reducible refine (wide_Sqrt.calls k ji5 a2 t158 _ A14.out).mono ?_); rintro e w' ⟨rfl, ⟨nd, rfl⟩⟩) | (go_at_call 17; (with_reducible refine (wide_Sqrt.calls k ji6 a2 t159 _ A15.out).mono ?_); rintro e w' ⟨rfl, ⟨nd, rfl⟩⟩))
        go_meet
        case rel => exact ⟨_, (true), (by first | rfl | (simp; done) | (simp [*]; done)), H', ⟨by first | omega | exact Nat.le_refl _⟩, ⟨by repeat (first | (with_reducible first | exact HB.out | apply below_alloc | apply pw_below_drewN | apply below_drew1) | exact HB.out)⟩⟩
      · rw [if_neg c16] at H
        have c16b0 : decide (t159 < t158) = false := decide_eq_false c16
        clear c16
        (first | rw [c16b0] | (simp only [i64_w, i32_w]; rw [c16b0]) | skip)
        replace H := Option.bind_eq_some_iff.mp H
        obtain ⟨t160, A170, H⟩ := H
        replace H : ((wide_Log.f (ji6)).bind fun t161 => (if t160 > t161 then (analemmalaw01_WideRises.j0 k a2 a3 ji5 ji6 true) else ((analemmalaw01_shown.f).bind fun t162 => (analemmalaw01_WideRises.j0 k a2 a3 ji5 ji6 (!t162))))) = some r := H
        have A17 := Aside0.mk A170
        clear A170
        replace H := Option.bind_eq_some_iff.mp H
        obtain ⟨t161, A180, H⟩ := H
        replace H : (if t160 > t161 then (analemmalaw01_WideRises.j0 k a2 a3 ji5 ji6 true) else ((analemmalaw01_shown.f).bind fun t162 => (analemmalaw01_WideRises.j0 k a2 a3 ji5 ji6 (!t162)))) = some r := H
        have A18 := Aside0.mk A180
        clear A180
        by_cases c19 : t160 > t161
        · rw [if_pos c19] at H
          have c19b0 : decide (t161 < t160) = true := decide_eq_true c19
          clear c19
          have H' := Aside0.mk H
          clear H
          go_wp2_with (first | ((with_reducible refine gate_callee (f := 16) rfl ?_); refine goesL_ (some 43) rfl rfl Try.func16 (by kernel_rfl) rfl #[.int .u64 t155, .int .u64 t156, .int .u64 t153, .int .u64 t154] rfl (by (try simp only [List.map_toArray, List.map_cons, List.map_nil]); first | done | rfl | (simp only [List.length_drop, List.length_take]; rfl)) ?_; (with_reducible refine (wide_Less.calls t155 t156 t153 t154 false _ A12.out).mono ?_); rintro e w' ⟨rfl, ⟨nd, rfl⟩⟩; refine ⟨_, rfl, ?_⟩) | (go_at_call 17; (with_reducible refine (wide_Sqrt.calls k ji5 a2 t158 _ A14.out).mono ?_); rintro e w' ⟨rfl, ⟨nd, rfl⟩⟩) | (go_at_call 17; (with_reducible refine (wide_Sqrt.calls k ji6 a2 t159 _ A15.out).mono ?_); rintro e w' ⟨rfl, ⟨nd, rfl⟩⟩) | (go_at_call 11; (with_reducible refine (wide_Log.calls ji5 t160 _ A17.out).mono ?_); rintro e w' ⟨rfl, ⟨nd, rfl⟩⟩) | (go_at_call 11; (with_reducible refine (wide_Log.calls ji6 t161 _ A18.out).mono ?_); rintro e w' ⟨rfl, ⟨nd, rfl⟩⟩))
          go_meet
          case rel => exact ⟨_, (true), (by first | rfl | (simp; done) | (simp [*]; done)), H', ⟨by first | omega | exact Nat.le_refl _⟩, ⟨by repeat (first | (with_reducible first | exact HB.out | apply below_alloc | apply pw_below_drewN | apply below_drew1) | exact HB.out)⟩⟩
        · rw [if_neg c19] at H
          have c19b0 : decide (t161 < t160) = false := decide_eq_false c19
          clear c19
          replace H := Option.bind_eq_some_iff.mp H
          obtain ⟨t162, A200, H⟩ := H
          replace H : (analemmalaw01_WideRises.j0 k a2 a3 ji5 ji6 (!t162)) = some r := H
          have A20 := Aside0.mk A200
          clear A200
          have H' := Aside0.mk H
          clear H
          go_wp2_with (first | ((with_reducible refine gate_callee (f := 16) rfl ?_); refine goesL_ (some 43) rfl rfl Try.func16 (by kernel_rfl) rfl #[.int .u64 t155, .int .u64 t156, .int .u64 t153, .int .u64 t154] rfl (by (try simp only [List.map_toArray, List.map_cons, List.map_nil]); first | done | rfl | (simp only [List.length_drop, List.length_take]; rfl)) ?_; (with_reducible refine (wide_Less.calls t155 t156 t153 t154 false _ A12.out).mono ?_); rintro e w' ⟨rfl, ⟨nd, rfl⟩⟩; refine ⟨_, rfl, ?_⟩) | (go_at_call 17; (with_reducible refine (wide_Sqrt.calls k ji5 a2 t158 _ A14.out).mono ?_); rintro e w' ⟨rfl, ⟨nd, rfl⟩⟩) | (go_at_call 17; (with_reducible refine (wide_Sqrt.calls k ji6 a2 t159 _ A15.out).mono ?_); rintro e w' ⟨rfl, ⟨nd, rfl⟩⟩) | (go_at_call 11; (with_reducible refine (wide_Log.calls ji5 t160 _ A17.out).mono ?_); rintro e w' ⟨rfl, ⟨nd, rfl⟩⟩) | (go_at_call 11; (with_reducible refine (wide_Log.calls ji6 t161 _ A18.out).mono ?_); rintro e w' ⟨rfl, ⟨nd, rfl⟩⟩) | (go_at_call 12; (with_reducible refine (analemmalaw01_shown.calls  t162 _ A20.out).mono ?_); rintro e w21 ⟨rfl, hb⟩; have n0_ := Aside0.mk (below_step (by repeat (first | (with_reducible first | exact HB.out | apply below_alloc | apply pw_below_drewN | apply below_drew1) | exact HB.out)) hb); clear HB; have HB := n0_; clear n0_; (try clear hb); (try clear hb2); (try clear hk); (try clear hi)))
          go_meet
          case rel => exact ⟨_, (!t162), (by first | rfl | (simp; done) | (simp [*]; done)), H', ⟨by first | omega | exact Nat.le_refl _⟩, ⟨by repeat (first | (with_reducible first | exact HB.out | apply below_alloc | apply pw_below_drewN | apply below_drew1) | exact HB.out)⟩⟩
  case rest =>
    clear HC9
    try clear c1
    try clear p2
    try clear c8
    try clear c13
    try clear c14
    try clear c16
    try clear c16b0
    try clear c19
    try clear c19b0
    obtain ⟨kq, x63_8, rfl, HA, HJ8, HB⟩ := hcut
    cases kq with
    | zero => exact absurd HA.out (by simp [analemmalaw01_WideRises.j0])
    | succ kj8 =>
      have H := HA.out
      clear HA
      simp only [analemmalaw01_WideRises.j0] at H
      by_cases c22 : x63_8 = true
      · subst c22
        have H1 : (some false) = some r := by rw [if_pos rfl] at H; exact H
        clear H
        have H := H1
        clear H1
        first | exact absurd ((Option.some.inj H).trans hr.out) Bool.false_ne_true | skip
        all_goals (obtain rfl := Option.some.inj H)
        all_goals (go_wp2)
        all_goals (go_ret)
        all_goals (exact ⟨by first | rfl | (simp [errW_none, errW_some] <;> rfl) | (simp only [← hji5, ← hji6]; first | rfl | (simp [errW_none, errW_some] <;> rfl)) | (simp [*, errW_none, errW_some] <;> rfl), by repeat (first | (with_reducible first | exact HB.out | apply below_alloc | apply pw_below_drewN | apply below_drew1) | exact HB.out)⟩)
      · replace c22 := Bool.eq_false_iff.mpr c22
        subst c22
        have H1 : ((wide_Div.f ji5 a2 a3).bind fun bt163 => ((wide_Div.f ji6 a2 a3).bind fun bt166 => (if bt166.2.2 = true then (if bt163.2.2 = true then (some (decide (bt163.1 ≤ bt166.1))) else (some false)) else (some true)))) = some r := by rw [if_neg (show ¬ (false = true) by decide)] at H; exact H
        clear H
        have H := H1
        clear H1
        replace H := Option.bind_eq_some_iff.mp H
        obtain ⟨⟨t163, t164, t165⟩, A230, H⟩ := H
        replace H : ((wide_Div.f ji6 a2 a3).bind fun bt166 => (if bt166.2.2 = true then (if t165 = true then (some (decide (t163 ≤ bt166.1))) else (some false)) else (some true))) = some r := H
        have A23 := Aside0.mk A230
        clear A230
        replace H := Option.bind_eq_some_iff.mp H
        obtain ⟨⟨t166, t167, t168⟩, A240, H⟩ := H
        replace H : (if t168 = true then (if t165 = true then (some (decide (t163 ≤ t166))) else (some false)) else (some true)) = some r := H
        have A24 := Aside0.mk A240
        clear A240
        by_cases c25 : t168 = true
        · subst c25
          have H1 : (if t165 = true then (some (decide (t163 ≤ t166))) else (some false)) = some r := by rw [if_pos rfl] at H; exact H
          clear H
          have H := H1
          clear H1
          by_cases c26 : t165 = true
          · subst c26
            have H1 : (some (decide (t163 ≤ t166))) = some r := by rw [if_pos rfl] at H; exact H
            clear H
            have H := H1
            clear H1
            first | exact absurd ((Option.some.inj H).trans hr.out) Bool.false_ne_true | skip
            all_goals (obtain rfl := Option.some.inj H)
            all_goals (go_wp2_with (first | ((with_reducible refine gate_callee (f := 13) rfl ?_); refine goesL_ (some 68) rfl rfl Try.func13 (by kernel_rfl) rfl #[.int .u64 ji5, .int .u64 a2, .int .u64 a3] rfl (by (try simp only [List.map_toArray, List.map_cons, List.map_nil]); first | done | (simp only [hji5]; rfl) | rfl | (simp only [List.length_drop, List.length_take]; rfl)) ?_; (with_reducible refine (wide_Div.calls ji5 a2 a3 t163 t164 true _ A23.out).mono ?_); rintro e w27 ⟨rfl, hb⟩; refine ⟨_, rfl, ?_⟩; have n0_ := Aside0.mk (below_step (by repeat (first | (with_reducible first | exact HB.out | apply below_alloc | apply pw_below_drewN | apply below_drew1) | exact HB.out)) hb); clear HB; have HB := n0_; clear n0_; (try clear hb); (try clear hb2); (try clear hk); (try clear hi)) | ((with_reducible refine gate_callee (f := 13) rfl ?_); refine goesL_ (some 76) rfl rfl Try.func13 (by kernel_rfl) rfl #[.int .u64 ji6, .int .u64 a2, .int .u64 a3] rfl (by (try simp only [List.map_toArray, List.map_cons, List.map_nil]); first | done | (simp only [hji6]; rfl) | rfl | (simp only [List.length_drop, List.length_take]; rfl)) ?_; (with_reducible refine (wide_Div.calls ji6 a2 a3 t166 t167 true _ A24.out).mono ?_); rintro e w28 ⟨rfl, hb⟩; refine ⟨_, rfl, ?_⟩; have n0_ := Aside0.mk (below_step (by repeat (first | (with_reducible first | exact HB.out | apply below_alloc | apply pw_below_drewN | apply below_drew1) | exact HB.out)) hb); clear HB; have HB := n0_; clear n0_; (try clear hb); (try clear hb2); (try clear hk); (try clear hi))))
            all_goals (go_ret)
            all_goals (exact ⟨by first | rfl | (simp [errW_none, errW_some] <;> rfl) | (simp only [← hji5, ← hji6]; first | rfl | (simp [errW_none, errW_some] <;> rfl)) | (simp [*, errW_none, errW_some] <;> rfl), by repeat (first | (with_reducible first | exact HB.out | apply below_alloc | apply pw_below_drewN | apply below_drew1) | exact HB.out)⟩)
          · replace c26 := Bool.eq_false_iff.mpr c26
            subst c26
            have H1 : (some false) = some r := by rw [if_neg (show ¬ (false = true) by decide)] at H; exact H
            clear H
            have H := H1
            clear H1
            first | exact absurd ((Option.some.inj H).trans hr.out) Bool.false_ne_true | skip
            all_goals (obtain rfl := Option.some.inj H)
            all_goals (go_wp2_with (first | ((with_reducible refine gate_callee (f := 13) rfl ?_); refine goesL_ (some 68) rfl rfl Try.func13 (by kernel_rfl) rfl #[.int .u64 ji5, .int .u64 a2, .int .u64 a3] rfl (by (try simp only [List.map_toArray, List.map_cons, List.map_nil]); first | done | (simp only [hji5]; rfl) | rfl | (simp only [List.length_drop, List.length_take]; rfl)) ?_; (with_reducible refine (wide_Div.calls ji5 a2 a3 t163 t164 false _ A23.out).mono ?_); rintro e w29 ⟨rfl, hb⟩; refine ⟨_, rfl, ?_⟩; have n0_ := Aside0.mk (below_step (by repeat (first | (with_reducible first | exact HB.out | apply below_alloc | apply pw_below_drewN | apply below_drew1) | exact HB.out)) hb); clear HB; have HB := n0_; clear n0_; (try clear hb); (try clear hb2); (try clear hk); (try clear hi)) | ((with_reducible refine gate_callee (f := 13) rfl ?_); refine goesL_ (some 76) rfl rfl Try.func13 (by kernel_rfl) rfl #[.int .u64 ji6, .int .u64 a2, .int .u64 a3] rfl (by (try simp only [List.map_toArray, List.map_cons, List.map_nil]); first | done | (simp only [hji6]; rfl) | rfl | (simp only [List.length_drop, List.length_take]; rfl)) ?_; (with_reducible refine (wide_Div.calls ji6 a2 a3 t166 t167 true _ A24.out).mono ?_); rintro e w30 ⟨rfl, hb⟩; refine ⟨_, rfl, ?_⟩; have n0_ := Aside0.mk (below_step (by repeat (first | (with_reducible first | exact HB.out | apply below_alloc | apply pw_below_drewN | apply below_drew1) | exact HB.out)) hb); clear HB; have HB := n0_; clear n0_; (try clear hb); (try clear hb2); (try clear hk); (try clear hi))))
            all_goals (go_ret)
            all_goals (exact ⟨by first | rfl | (simp [errW_none, errW_some] <;> rfl) | (simp only [← hji5, ← hji6]; first | rfl | (simp [errW_none, errW_some] <;> rfl)) | (simp [*, errW_none, errW_some] <;> rfl), by repeat (first | (with_reducible first | exact HB.out | apply below_alloc | apply pw_below_drewN | apply below_drew1) | exact HB.out)⟩)
        · replace c25 := Bool.eq_false_iff.mpr c25
          subst c25
          have H1 : (some true) = some r := by rw [if_neg (show ¬ (false = true) by decide)] at H; exact H
          clear H
          have H := H1
          clear H1
          first | exact absurd ((Option.some.inj H).trans hr.out) Bool.false_ne_true | skip
          all_goals (obtain rfl := Option.some.inj H)
          all_goals (go_wp2_with (first | ((with_reducible refine gate_callee (f := 13) rfl ?_); refine goesL_ (some 68) rfl rfl Try.func13 (by kernel_rfl) rfl #[.int .u64 ji5, .int .u64 a2, .int .u64 a3] rfl (by (try simp only [List.map_toArray, List.map_cons, List.map_nil]); first | done | (simp only [hji5]; rfl) | rfl | (simp only [List.length_drop, List.length_take]; rfl)) ?_; (with_reducible refine (wide_Div.calls ji5 a2 a3 t163 t164 t165 _ A23.out).mono ?_); rintro e w31 ⟨rfl, hb⟩; refine ⟨_, rfl, ?_⟩; have n0_ := Aside0.mk (below_step (by repeat (first | (with_reducible first | exact HB.out | apply below_alloc | apply pw_below_drewN | apply below_drew1) | exact HB.out)) hb); clear HB; have HB := n0_; clear n0_; (try clear hb); (try clear hb2); (try clear hk); (try clear hi)) | ((with_reducible refine gate_callee (f := 13) rfl ?_); refine goesL_ (some 76) rfl rfl Try.func13 (by kernel_rfl) rfl #[.int .u64 ji6, .int .u64 a2, .int .u64 a3] rfl (by (try simp only [List.map_toArray, List.map_cons, List.map_nil]); first | done | (simp only [hji6]; rfl) | rfl | (simp only [List.length_drop, List.length_take]; rfl)) ?_; (with_reducible refine (wide_Div.calls ji6 a2 a3 t166 t167 false _ A24.out).mono ?_); rintro e w32 ⟨rfl, hb⟩; refine ⟨_, rfl, ?_⟩; have n0_ := Aside0.mk (below_step (by repeat (first | (with_reducible first | exact HB.out | apply below_alloc | apply pw_below_drewN | apply below_drew1) | exact HB.out)) hb); clear HB; have HB := n0_; clear n0_; (try clear hb); (try clear hb2); (try clear hk); (try clear hi))))
          all_goals (go_ret)
          all_goals (exact ⟨by first | rfl | (simp [errW_none, errW_some] <;> rfl) | (simp only [← hji5, ← hji6]; first | rfl | (simp [errW_none, errW_some] <;> rfl)) | (simp [*, errW_none, errW_some] <;> rfl), by repeat (first | (with_reducible first | exact HB.out | apply below_alloc | apply pw_below_drewN | apply below_drew1) | exact HB.out)⟩)

/-- THE ONE PURE STATEMENT of analemmalaw01_WideRises: yours. -/
def analemmalaw01_WideRises.Pure : Prop := ∀ (a0 : Int) (a1 : Int) (a2 : Int) (a3 : Int), (Lit.int .u64 a0).wf = true → (Lit.int .u64 a1).wf = true → (Lit.int .u64 a2).wf = true → (Lit.int .u64 a3).wf = true → ∃ k, analemmalaw01_WideRises.f k a0 a1 a2 a3 = some true
theorem analemmalaw01_WideRises.walk (P : analemmalaw01_WideRises.Pure) (a0 : Int) (a1 : Int) (a2 : Int) (a3 : Int) (w : World) (w0 : (Lit.int .u64 a0).wf = true) (w1 : (Lit.int .u64 a1).wf = true) (w2 : (Lit.int .u64 a2).wf = true) (w3 : (Lit.int .u64 a3).wf = true) :
    Calls Try.prog 8 #[.int .u64 a0, .int .u64 a1, .int .u64 a2, .int .u64 a3] w fun e w' => e = .returned (.bool true) ∧ Below w.heap.size w w' := by
  obtain ⟨k, h⟩ := P a0 a1 a2 a3 w0 w1 w2 w3
  refine (analemmalaw01_WideRises.calls k a0 a1 a2 a3 true w h (Aside0.mk rfl)).mono ?_
  rintro e w' ⟨rfl, hd⟩
  exact ⟨rfl, hd⟩

/-! ### analemmalaw01_WideSquares: function 9 -/
def analemmalaw01_WideSquares.f (k : Nat) (a0 : Int) (a1 : Int) : Option (Bool) := (wide_Mul.f a0 a1).bind fun bt169 => ((wide_Mul.f a1 a0).bind fun bt171 => ((wide_Mul.f a0 a0).bind fun bt173 => (if bt169.1 = bt171.1 then (if bt169.2 = bt171.2 then ((wide_Sqrt.f k bt173.1 bt173.2).bind fun t175 => (if t175 = a0 then ((analemmalaw01_shown.f).bind fun t176 => (some t176)) else (some false))) else (some false)) else (some false))))
theorem analemmalaw01_WideSquares.mono : ∀ a0 a1 k, LeO (analemmalaw01_WideSquares.f k a0 a1) (analemmalaw01_WideSquares.f (k + 1) a0 a1) := by
  intro a0 a1 k
  unfold analemmalaw01_WideSquares.f
  repeat' first
      | (with_reducible exact wide_Sqrt.mono _ _ _)
      | (with_reducible exact LeO.refl _)
      | (with_reducible exact LeO.none _)
      | (with_reducible refine LeO.ite ?_ ?_)
      | (with_reducible refine LeO.bind ?_ (fun _ => ?_))
      | exact wide_Sqrt.mono _ _ _
      | exact LeO.none _
      | refine LeO.ite ?_ ?_
      | refine LeO.bind ?_ (fun _ => ?_)
set_option maxHeartbeats 8000000 in
set_option maxRecDepth 100000 in
theorem analemmalaw01_WideSquares.calls (k : Nat) (a0 : Int) (a1 : Int) (r : Bool) (w : World) (h : analemmalaw01_WideSquares.f k a0 a1 = some r) (hr : Aside0 (r = true)) :
    Calls Try.prog 9 #[.int .u64 a0, .int .u64 a1] w fun e w' => e = .returned (.bool r) ∧ Below w.heap.size w w' := by
  have HB := Aside0.mk (Below.refl w.heap.size w)
  have H : ((wide_Mul.f a0 a1).bind fun bt169 => ((wide_Mul.f a1 a0).bind fun bt171 => ((wide_Mul.f a0 a0).bind fun bt173 => (if bt169.1 = bt171.1 then (if bt169.2 = bt171.2 then ((wide_Sqrt.f k bt173.1 bt173.2).bind fun t175 => (if t175 = a0 then ((analemmalaw01_shown.f).bind fun t176 => (some t176)) else (some false))) else (some false)) else (some false))))) = some r := h
  clear h
  replace H := Option.bind_eq_some_iff.mp H
  obtain ⟨⟨t169, t170⟩, A30, H⟩ := H
  replace H : ((wide_Mul.f a1 a0).bind fun bt171 => ((wide_Mul.f a0 a0).bind fun bt173 => (if t169 = bt171.1 then (if t170 = bt171.2 then ((wide_Sqrt.f k bt173.1 bt173.2).bind fun t175 => (if t175 = a0 then ((analemmalaw01_shown.f).bind fun t176 => (some t176)) else (some false))) else (some false)) else (some false)))) = some r := H
  have A3 := Aside0.mk A30
  clear A30
  replace H := Option.bind_eq_some_iff.mp H
  obtain ⟨⟨t171, t172⟩, A40, H⟩ := H
  replace H : ((wide_Mul.f a0 a0).bind fun bt173 => (if t169 = t171 then (if t170 = t172 then ((wide_Sqrt.f k bt173.1 bt173.2).bind fun t175 => (if t175 = a0 then ((analemmalaw01_shown.f).bind fun t176 => (some t176)) else (some false))) else (some false)) else (some false))) = some r := H
  have A4 := Aside0.mk A40
  clear A40
  replace H := Option.bind_eq_some_iff.mp H
  obtain ⟨⟨t173, t174⟩, A50, H⟩ := H
  replace H : (if t169 = t171 then (if t170 = t172 then ((wide_Sqrt.f k t173 t174).bind fun t175 => (if t175 = a0 then ((analemmalaw01_shown.f).bind fun t176 => (some t176)) else (some false))) else (some false)) else (some false)) = some r := H
  have A5 := Aside0.mk A50
  clear A50
  by_cases c6 : t169 = t171
  · rw [if_pos c6] at H
    have c6b0 : (t169 == t171) = true := beq_iff_eq.mpr c6
    have c6b1 : (t169 != t171) = false := bne_eq_false_iff_eq.mpr c6
    clear c6
    by_cases c7 : t170 = t172
    · rw [if_pos c7] at H
      have c7b0 : (t170 == t172) = true := beq_iff_eq.mpr c7
      have c7b1 : (t170 != t172) = false := bne_eq_false_iff_eq.mpr c7
      clear c7
      replace H := Option.bind_eq_some_iff.mp H
      obtain ⟨t175, A80, H⟩ := H
      replace H : (if t175 = a0 then ((analemmalaw01_shown.f).bind fun t176 => (some t176)) else (some false)) = some r := H
      have A8 := Aside0.mk A80
      clear A80
      by_cases c9 : t175 = a0
      · rw [if_pos c9] at H
        have c9b0 : (t175 == a0) = true := beq_iff_eq.mpr c9
        have c9b1 : (t175 != a0) = false := bne_eq_false_iff_eq.mpr c9
        clear c9
        replace H := Option.bind_eq_some_iff.mp H
        obtain ⟨t176, A100, H⟩ := H
        replace H : (some t176) = some r := H
        have A10 := Aside0.mk A100
        clear A100
        first | exact absurd ((Option.some.inj H).trans hr.out) Bool.false_ne_true | skip
        all_goals (obtain rfl := Option.some.inj H)
        all_goals (go_enter Try.func9, Try.ntmps9)
        all_goals (go_wp2_with (first | ((with_reducible refine gate_callee (f := 14) rfl ?_); refine goesL_ (some 14) rfl rfl Try.func14 (by kernel_rfl) rfl #[.int .u64 a0, .int .u64 a1] rfl (by (try simp only [List.map_toArray, List.map_cons, List.map_nil]); first | done | rfl | (simp only [List.length_drop, List.length_take]; rfl)) ?_; (with_reducible refine (wide_Mul.calls a0 a1 t169 t170 _ A3.out).mono ?_); rintro e w11 ⟨rfl, hb⟩; refine ⟨_, rfl, ?_⟩; have n0_ := Aside0.mk (below_step (by repeat (first | (with_reducible first | exact HB.out | apply below_alloc | apply pw_below_drewN | apply below_drew1) | exact HB.out)) hb); clear HB; have HB := n0_; clear n0_; (try clear hb); (try clear hb2); (try clear hk); (try clear hi)) | ((with_reducible refine gate_callee (f := 14) rfl ?_); refine goesL_ (some 20) rfl rfl Try.func14 (by kernel_rfl) rfl #[.int .u64 a1, .int .u64 a0] rfl (by (try simp only [List.map_toArray, List.map_cons, List.map_nil]); first | done | rfl | (simp only [List.length_drop, List.length_take]; rfl)) ?_; (with_reducible refine (wide_Mul.calls a1 a0 t171 t172 _ A4.out).mono ?_); rintro e w12 ⟨rfl, hb⟩; refine ⟨_, rfl, ?_⟩; have n0_ := Aside0.mk (below_step (by repeat (first | (with_reducible first | exact HB.out | apply below_alloc | apply pw_below_drewN | apply below_drew1) | exact HB.out)) hb); clear HB; have HB := n0_; clear n0_; (try clear hb); (try clear hb2); (try clear hk); (try clear hi)) | ((with_reducible refine gate_callee (f := 14) rfl ?_); refine goesL_ (some 26) rfl rfl Try.func14 (by kernel_rfl) rfl #[.int .u64 a0, .int .u64 a0] rfl (by (try simp only [List.map_toArray, List.map_cons, List.map_nil]); first | done | rfl | (simp only [List.length_drop, List.length_take]; rfl)) ?_; (with_reducible refine (wide_Mul.calls a0 a0 t173 t174 _ A5.out).mono ?_); rintro e w13 ⟨rfl, hb⟩; refine ⟨_, rfl, ?_⟩; have n0_ := Aside0.mk (below_step (by repeat (first | (with_reducible first | exact HB.out | apply below_alloc | apply pw_below_drewN | apply below_drew1) | exact HB.out)) hb); clear HB; have HB := n0_; clear n0_; (try clear hb); (try clear hb2); (try clear hk); (try clear hi)) | (go_at_call 17; (with_reducible refine (wide_Sqrt.calls k t173 t174 t175 _ A8.out).mono ?_); rintro e w' ⟨rfl, ⟨nd, rfl⟩⟩) | (go_at_call 12; (with_reducible refine (analemmalaw01_shown.calls  t176 _ A10.out).mono ?_); rintro e w14 ⟨rfl, hb⟩; have n0_ := Aside0.mk (below_step (by repeat (first | (with_reducible first | exact HB.out | apply below_alloc | apply pw_below_drewN | apply below_drew1) | exact HB.out)) hb); clear HB; have HB := n0_; clear n0_; (try clear hb); (try clear hb2); (try clear hk); (try clear hi))))
        all_goals (go_ret)
        all_goals (exact ⟨by first | rfl | (simp [errW_none, errW_some] <;> rfl) | (simp [*, errW_none, errW_some] <;> rfl), by repeat (first | (with_reducible first | exact HB.out | apply below_alloc | apply pw_below_drewN | apply below_drew1) | exact HB.out)⟩)
      · rw [if_neg c9] at H
        have c9b0 : (t175 == a0) = false := beq_eq_false_iff_ne.mpr c9
        have c9b1 : (t175 != a0) = true := bne_iff_ne.mpr c9
        first | exact absurd ((Option.some.inj H).trans hr.out) Bool.false_ne_true | skip
        all_goals (obtain rfl := Option.some.inj H)
        all_goals (go_enter Try.func9, Try.ntmps9)
        all_goals (go_wp2_with (first | ((with_reducible refine gate_callee (f := 14) rfl ?_); refine goesL_ (some 14) rfl rfl Try.func14 (by kernel_rfl) rfl #[.int .u64 a0, .int .u64 a1] rfl (by (try simp only [List.map_toArray, List.map_cons, List.map_nil]); first | done | rfl | (simp only [List.length_drop, List.length_take]; rfl)) ?_; (with_reducible refine (wide_Mul.calls a0 a1 t169 t170 _ A3.out).mono ?_); rintro e w15 ⟨rfl, hb⟩; refine ⟨_, rfl, ?_⟩; have n0_ := Aside0.mk (below_step (by repeat (first | (with_reducible first | exact HB.out | apply below_alloc | apply pw_below_drewN | apply below_drew1) | exact HB.out)) hb); clear HB; have HB := n0_; clear n0_; (try clear hb); (try clear hb2); (try clear hk); (try clear hi)) | ((with_reducible refine gate_callee (f := 14) rfl ?_); refine goesL_ (some 20) rfl rfl Try.func14 (by kernel_rfl) rfl #[.int .u64 a1, .int .u64 a0] rfl (by (try simp only [List.map_toArray, List.map_cons, List.map_nil]); first | done | rfl | (simp only [List.length_drop, List.length_take]; rfl)) ?_; (with_reducible refine (wide_Mul.calls a1 a0 t171 t172 _ A4.out).mono ?_); rintro e w16 ⟨rfl, hb⟩; refine ⟨_, rfl, ?_⟩; have n0_ := Aside0.mk (below_step (by repeat (first | (with_reducible first | exact HB.out | apply below_alloc | apply pw_below_drewN | apply below_drew1) | exact HB.out)) hb); clear HB; have HB := n0_; clear n0_; (try clear hb); (try clear hb2); (try clear hk); (try clear hi)) | ((with_reducible refine gate_callee (f := 14) rfl ?_); refine goesL_ (some 26) rfl rfl Try.func14 (by kernel_rfl) rfl #[.int .u64 a0, .int .u64 a0] rfl (by (try simp only [List.map_toArray, List.map_cons, List.map_nil]); first | done | rfl | (simp only [List.length_drop, List.length_take]; rfl)) ?_; (with_reducible refine (wide_Mul.calls a0 a0 t173 t174 _ A5.out).mono ?_); rintro e w17 ⟨rfl, hb⟩; refine ⟨_, rfl, ?_⟩; have n0_ := Aside0.mk (below_step (by repeat (first | (with_reducible first | exact HB.out | apply below_alloc | apply pw_below_drewN | apply below_drew1) | exact HB.out)) hb); clear HB; have HB := n0_; clear n0_; (try clear hb); (try clear hb2); (try clear hk); (try clear hi)) | (go_at_call 17; (with_reducible refine (wide_Sqrt.calls k t173 t174 t175 _ A8.out).mono ?_); rintro e w' ⟨rfl, ⟨nd, rfl⟩⟩)))
        all_goals (go_ret)
        all_goals (exact ⟨by first | rfl | (simp [errW_none, errW_some] <;> rfl) | (simp [*, errW_none, errW_some] <;> rfl), by repeat (first | (with_reducible first | exact HB.out | apply below_alloc | apply pw_below_drewN | apply below_drew1) | exact HB.out)⟩)
    · rw [if_neg c7] at H
      have c7b0 : (t170 == t172) = false := beq_eq_false_iff_ne.mpr c7
      have c7b1 : (t170 != t172) = true := bne_iff_ne.mpr c7
      first | exact absurd ((Option.some.inj H).trans hr.out) Bool.false_ne_true | skip
      all_goals (obtain rfl := Option.some.inj H)
      all_goals (go_enter Try.func9, Try.ntmps9)
      all_goals (go_wp2_with (first | ((with_reducible refine gate_callee (f := 14) rfl ?_); refine goesL_ (some 14) rfl rfl Try.func14 (by kernel_rfl) rfl #[.int .u64 a0, .int .u64 a1] rfl (by (try simp only [List.map_toArray, List.map_cons, List.map_nil]); first | done | rfl | (simp only [List.length_drop, List.length_take]; rfl)) ?_; (with_reducible refine (wide_Mul.calls a0 a1 t169 t170 _ A3.out).mono ?_); rintro e w18 ⟨rfl, hb⟩; refine ⟨_, rfl, ?_⟩; have n0_ := Aside0.mk (below_step (by repeat (first | (with_reducible first | exact HB.out | apply below_alloc | apply pw_below_drewN | apply below_drew1) | exact HB.out)) hb); clear HB; have HB := n0_; clear n0_; (try clear hb); (try clear hb2); (try clear hk); (try clear hi)) | ((with_reducible refine gate_callee (f := 14) rfl ?_); refine goesL_ (some 20) rfl rfl Try.func14 (by kernel_rfl) rfl #[.int .u64 a1, .int .u64 a0] rfl (by (try simp only [List.map_toArray, List.map_cons, List.map_nil]); first | done | rfl | (simp only [List.length_drop, List.length_take]; rfl)) ?_; (with_reducible refine (wide_Mul.calls a1 a0 t171 t172 _ A4.out).mono ?_); rintro e w19 ⟨rfl, hb⟩; refine ⟨_, rfl, ?_⟩; have n0_ := Aside0.mk (below_step (by repeat (first | (with_reducible first | exact HB.out | apply below_alloc | apply pw_below_drewN | apply below_drew1) | exact HB.out)) hb); clear HB; have HB := n0_; clear n0_; (try clear hb); (try clear hb2); (try clear hk); (try clear hi)) | ((with_reducible refine gate_callee (f := 14) rfl ?_); refine goesL_ (some 26) rfl rfl Try.func14 (by kernel_rfl) rfl #[.int .u64 a0, .int .u64 a0] rfl (by (try simp only [List.map_toArray, List.map_cons, List.map_nil]); first | done | rfl | (simp only [List.length_drop, List.length_take]; rfl)) ?_; (with_reducible refine (wide_Mul.calls a0 a0 t173 t174 _ A5.out).mono ?_); rintro e w20 ⟨rfl, hb⟩; refine ⟨_, rfl, ?_⟩; have n0_ := Aside0.mk (below_step (by repeat (first | (with_reducible first | exact HB.out | apply below_alloc | apply pw_below_drewN | apply below_drew1) | exact HB.out)) hb); clear HB; have HB := n0_; clear n0_; (try clear hb); (try clear hb2); (try clear hk); (try clear hi))))
      all_goals (go_ret)
      all_goals (exact ⟨by first | rfl | (simp [errW_none, errW_some] <;> rfl) | (simp [*, errW_none, errW_some] <;> rfl), by repeat (first | (with_reducible first | exact HB.out | apply below_alloc | apply pw_below_drewN | apply below_drew1) | exact HB.out)⟩)
  · rw [if_neg c6] at H
    have c6b0 : (t169 == t171) = false := beq_eq_false_iff_ne.mpr c6
    have c6b1 : (t169 != t171) = true := bne_iff_ne.mpr c6
    first | exact absurd ((Option.some.inj H).trans hr.out) Bool.false_ne_true | skip
    all_goals (obtain rfl := Option.some.inj H)
    all_goals (go_enter Try.func9, Try.ntmps9)
    all_goals (go_wp2_with (first | ((with_reducible refine gate_callee (f := 14) rfl ?_); refine goesL_ (some 14) rfl rfl Try.func14 (by kernel_rfl) rfl #[.int .u64 a0, .int .u64 a1] rfl (by (try simp only [List.map_toArray, List.map_cons, List.map_nil]); first | done | rfl | (simp only [List.length_drop, List.length_take]; rfl)) ?_; (with_reducible refine (wide_Mul.calls a0 a1 t169 t170 _ A3.out).mono ?_); rintro e w21 ⟨rfl, hb⟩; refine ⟨_, rfl, ?_⟩; have n0_ := Aside0.mk (below_step (by repeat (first | (with_reducible first | exact HB.out | apply below_alloc | apply pw_below_drewN | apply below_drew1) | exact HB.out)) hb); clear HB; have HB := n0_; clear n0_; (try clear hb); (try clear hb2); (try clear hk); (try clear hi)) | ((with_reducible refine gate_callee (f := 14) rfl ?_); refine goesL_ (some 20) rfl rfl Try.func14 (by kernel_rfl) rfl #[.int .u64 a1, .int .u64 a0] rfl (by (try simp only [List.map_toArray, List.map_cons, List.map_nil]); first | done | rfl | (simp only [List.length_drop, List.length_take]; rfl)) ?_; (with_reducible refine (wide_Mul.calls a1 a0 t171 t172 _ A4.out).mono ?_); rintro e w22 ⟨rfl, hb⟩; refine ⟨_, rfl, ?_⟩; have n0_ := Aside0.mk (below_step (by repeat (first | (with_reducible first | exact HB.out | apply below_alloc | apply pw_below_drewN | apply below_drew1) | exact HB.out)) hb); clear HB; have HB := n0_; clear n0_; (try clear hb); (try clear hb2); (try clear hk); (try clear hi)) | ((with_reducible refine gate_callee (f := 14) rfl ?_); refine goesL_ (some 26) rfl rfl Try.func14 (by kernel_rfl) rfl #[.int .u64 a0, .int .u64 a0] rfl (by (try simp only [List.map_toArray, List.map_cons, List.map_nil]); first | done | rfl | (simp only [List.length_drop, List.length_take]; rfl)) ?_; (with_reducible refine (wide_Mul.calls a0 a0 t173 t174 _ A5.out).mono ?_); rintro e w23 ⟨rfl, hb⟩; refine ⟨_, rfl, ?_⟩; have n0_ := Aside0.mk (below_step (by repeat (first | (with_reducible first | exact HB.out | apply below_alloc | apply pw_below_drewN | apply below_drew1) | exact HB.out)) hb); clear HB; have HB := n0_; clear n0_; (try clear hb); (try clear hb2); (try clear hk); (try clear hi))))
    all_goals (go_ret)
    all_goals (exact ⟨by first | rfl | (simp [errW_none, errW_some] <;> rfl) | (simp [*, errW_none, errW_some] <;> rfl), by repeat (first | (with_reducible first | exact HB.out | apply below_alloc | apply pw_below_drewN | apply below_drew1) | exact HB.out)⟩)

/-- THE ONE PURE STATEMENT of analemmalaw01_WideSquares: yours. -/
def analemmalaw01_WideSquares.Pure : Prop := ∀ (a0 : Int) (a1 : Int), (Lit.int .u64 a0).wf = true → (Lit.int .u64 a1).wf = true → ∃ k, analemmalaw01_WideSquares.f k a0 a1 = some true
theorem analemmalaw01_WideSquares.walk (P : analemmalaw01_WideSquares.Pure) (a0 : Int) (a1 : Int) (w : World) (w0 : (Lit.int .u64 a0).wf = true) (w1 : (Lit.int .u64 a1).wf = true) :
    Calls Try.prog 9 #[.int .u64 a0, .int .u64 a1] w fun e w' => e = .returned (.bool true) ∧ Below w.heap.size w w' := by
  obtain ⟨k, h⟩ := P a0 a1 w0 w1
  refine (analemmalaw01_WideSquares.calls k a0 a1 true w h (Aside0.mk rfl)).mono ?_
  rintro e w' ⟨rfl, hd⟩
  exact ⟨rfl, hd⟩

/-! ### analemmaref01_Plus: function 20 -/
def analemmaref01_Plus.f (a0 : Int) (a1 : Int) (a2 : Int) (a3 : Int) : Option (Int × Int × Bool) := if (IntKind.u64.wrap (a1 + a3)) < a1 then (if (IntKind.u64.wrap (a0 + a2)) < a0 then (some (IntKind.u64.wrap ((IntKind.u64.wrap (a0 + a2)) + 1), IntKind.u64.wrap (a1 + a3), true)) else (some (IntKind.u64.wrap ((IntKind.u64.wrap (a0 + a2)) + 1), IntKind.u64.wrap (a1 + a3), decide ((IntKind.u64.wrap ((IntKind.u64.wrap (a0 + a2)) + 1)) < (IntKind.u64.wrap (a0 + a2)))))) else (if (IntKind.u64.wrap (a0 + a2)) < a0 then (some (IntKind.u64.wrap ((IntKind.u64.wrap (a0 + a2)) + 0), IntKind.u64.wrap (a1 + a3), true)) else (some (IntKind.u64.wrap ((IntKind.u64.wrap (a0 + a2)) + 0), IntKind.u64.wrap (a1 + a3), decide ((IntKind.u64.wrap ((IntKind.u64.wrap (a0 + a2)) + 0)) < (IntKind.u64.wrap (a0 + a2))))))
set_option maxHeartbeats 8000000 in
set_option maxRecDepth 100000 in
theorem analemmaref01_Plus.calls (a0 : Int) (a1 : Int) (a2 : Int) (a3 : Int) (r1 : Int) (r2 : Int) (r3 : Bool) (w : World) (h : analemmaref01_Plus.f a0 a1 a2 a3 = some (r1, r2, r3)) :
    Calls Try.prog 20 #[.int .u64 a0, .int .u64 a1, .int .u64 a2, .int .u64 a3] w fun e w' => e = .returned (.tuple #[.int .u64 r1, .int .u64 r2, .bool r3]) ∧ Drawn0 w w' := by
  have H : (if (IntKind.u64.wrap (a1 + a3)) < a1 then (if (IntKind.u64.wrap (a0 + a2)) < a0 then (some (IntKind.u64.wrap ((IntKind.u64.wrap (a0 + a2)) + 1), IntKind.u64.wrap (a1 + a3), true)) else (some (IntKind.u64.wrap ((IntKind.u64.wrap (a0 + a2)) + 1), IntKind.u64.wrap (a1 + a3), decide ((IntKind.u64.wrap ((IntKind.u64.wrap (a0 + a2)) + 1)) < (IntKind.u64.wrap (a0 + a2)))))) else (if (IntKind.u64.wrap (a0 + a2)) < a0 then (some (IntKind.u64.wrap ((IntKind.u64.wrap (a0 + a2)) + 0), IntKind.u64.wrap (a1 + a3), true)) else (some (IntKind.u64.wrap ((IntKind.u64.wrap (a0 + a2)) + 0), IntKind.u64.wrap (a1 + a3), decide ((IntKind.u64.wrap ((IntKind.u64.wrap (a0 + a2)) + 0)) < (IntKind.u64.wrap (a0 + a2))))))) = some (r1, r2, r3) := h
  clear h
  by_cases c5 : (IntKind.u64.wrap (a1 + a3)) < a1
  · rw [if_pos c5] at H
    have c5b0 : decide ((IntKind.u64.wrap (a1 + a3)) < a1) = true := decide_eq_true c5
    clear c5
    by_cases c6 : (IntKind.u64.wrap (a0 + a2)) < a0
    · rw [if_pos c6] at H
      have c6b0 : decide ((IntKind.u64.wrap (a0 + a2)) < a0) = true := decide_eq_true c6
      clear c6
      simp only [Option.some.injEq, Prod.mk.injEq] at H
      obtain ⟨rfl, rfl, rfl⟩ := H
      go_enter Try.func20, Try.ntmps20
      go_wp2
      go_ret3
      exact ⟨by first | rfl | (simp; done) | (simp [*]; done), by repeat (first | exact Drawn0.refl _ | apply Drawn0.step)⟩
    · rw [if_neg c6] at H
      have c6b0 : decide ((IntKind.u64.wrap (a0 + a2)) < a0) = false := decide_eq_false c6
      clear c6
      simp only [Option.some.injEq, Prod.mk.injEq] at H
      obtain ⟨rfl, rfl, rfl⟩ := H
      go_enter Try.func20, Try.ntmps20
      go_wp2
      go_ret3
      exact ⟨by first | rfl | (simp; done) | (simp [*]; done), by repeat (first | exact Drawn0.refl _ | apply Drawn0.step)⟩
  · rw [if_neg c5] at H
    have c5b0 : decide ((IntKind.u64.wrap (a1 + a3)) < a1) = false := decide_eq_false c5
    clear c5
    by_cases c7 : (IntKind.u64.wrap (a0 + a2)) < a0
    · rw [if_pos c7] at H
      have c7b0 : decide ((IntKind.u64.wrap (a0 + a2)) < a0) = true := decide_eq_true c7
      clear c7
      simp only [Option.some.injEq, Prod.mk.injEq] at H
      obtain ⟨rfl, rfl, rfl⟩ := H
      go_enter Try.func20, Try.ntmps20
      go_wp2
      go_ret3
      exact ⟨by first | rfl | (simp; done) | (simp [*]; done), by repeat (first | exact Drawn0.refl _ | apply Drawn0.step)⟩
    · rw [if_neg c7] at H
      have c7b0 : decide ((IntKind.u64.wrap (a0 + a2)) < a0) = false := decide_eq_false c7
      clear c7
      simp only [Option.some.injEq, Prod.mk.injEq] at H
      obtain ⟨rfl, rfl, rfl⟩ := H
      go_enter Try.func20, Try.ntmps20
      go_wp2
      go_ret3
      exact ⟨by first | rfl | (simp; done) | (simp [*]; done), by repeat (first | exact Drawn0.refl _ | apply Drawn0.step)⟩

/-! ### analemmaref01_bit: function 26 -/
def analemmaref01_bit.f (a0 : Int) (a1 : Int) : Option (Int) := if 0 ≤ a1 then (some (Go.bits .and .u64 (shr .u64 a0 a1) 1)) else (none)
set_option maxHeartbeats 8000000 in
set_option maxRecDepth 100000 in
theorem analemmaref01_bit.calls (a0 : Int) (a1 : Int) (r : Int) (w : World) (h : analemmaref01_bit.f a0 a1 = some r) :
    Calls Try.prog 26 #[.int .u64 a0, .int .i64 a1] w fun e w' => e = .returned (.int .u64 r) ∧ Drawn0 w w' := by
  have H : (if 0 ≤ a1 then (some (Go.bits .and .u64 (shr .u64 a0 a1) 1)) else (none)) = some r := h
  clear h
  by_cases c3 : 0 ≤ a1
  · rw [if_pos c3] at H
    have c3b0 := eq_true c3
    have c3b1 : decide (0 ≤ a1) = true := decide_eq_true c3
    clear c3
    obtain ⟨ji4, hji4⟩ : ∃ j_ : Int, (shr .u64 a0 a1) = j_ := ⟨_, rfl⟩
    replace H : (some (Go.bits .and .u64 (ji4) 1)) = some r := by first | (rw [hji4] at H; exact H) | (simp only [hji4] at H ⊢; exact H)
    have hji4_ : (a0 / 2 ^ min a1.toNat 64) = ji4 := hji4
    have hji4z : a1 ≤ 64 → (a0 / 2 ^ a1.toNat) = ji4 := shr_small hji4
    obtain rfl := Option.some.inj H
    go_enter Try.func26, Try.ntmps26
    go_wp2
    go_ret
    exact ⟨by first | rfl | (simp; done) | (simp only [← hji4] <;> (first | rfl | simp)) | (simp [*]; done), by repeat (first | exact Drawn0.refl _ | apply Drawn0.step)⟩
  · rw [if_neg c3] at H
    exact absurd H (by simp)

/-! ### analemmaref01_Mul: function 18 -/
def analemmaref01_Mul.l0 : Nat → Int → Int → Int → Int → Int → Option (Int × Int)
  | 0, _, _, _, _, _ => none
  | k + 1, x0, x1, x6, x7, x8 => if x8 ≥ 0 then ((analemmaref01_Plus.f x6 x7 x6 x7).bind fun bt177 => ((analemmaref01_bit.f x1 x8).bind fun t180 => (if t180 = 1 then ((analemmaref01_Plus.f bt177.1 bt177.2.1 0 x0).bind fun bt181 => (analemmaref01_Mul.l0 k x0 x1 bt181.1 bt181.2.1 (wrap64 (x8 - 1)))) else (analemmaref01_Mul.l0 k x0 x1 bt177.1 bt177.2.1 (wrap64 (x8 - 1)))))) else (some (x6, x7))
def analemmaref01_Mul.f (k : Nat) (a0 : Int) (a1 : Int) : Option (Int × Int) := analemmaref01_Mul.l0 k a0 a1 0 0 63
theorem analemmaref01_Mul.mono_l : ∀ k, (∀ y0 y1 y2 y3 y4, LeO (analemmaref01_Mul.l0 k y0 y1 y2 y3 y4) (analemmaref01_Mul.l0 (k + 1) y0 y1 y2 y3 y4))
  | 0 => fun _ _ _ _ _ r h => by simp [analemmaref01_Mul.l0] at h
  | k + 1 => by
    have ih0 := analemmaref01_Mul.mono_l k
    · intro y0 y1 y2 y3 y4
      unfold analemmaref01_Mul.l0
      repeat' first
      | (with_reducible exact ih0 _ _ _ _ _)
      | (with_reducible exact LeO.refl _)
      | (with_reducible exact LeO.none _)
      | (with_reducible refine LeO.ite ?_ ?_)
      | (with_reducible refine LeO.bind ?_ (fun _ => ?_))
      | exact ih0 _ _ _ _ _
      | exact LeO.none _
      | refine LeO.ite ?_ ?_
      | refine LeO.bind ?_ (fun _ => ?_)
theorem analemmaref01_Mul.mono : ∀ a0 a1 k, LeO (analemmaref01_Mul.f k a0 a1) (analemmaref01_Mul.f (k + 1) a0 a1) := by
  intro a0 a1 k
  have ih0 := analemmaref01_Mul.mono_l k
  unfold analemmaref01_Mul.f
  repeat' first
      | (with_reducible exact ih0 _ _ _ _ _)
      | (with_reducible exact LeO.refl _)
      | (with_reducible exact LeO.none _)
      | (with_reducible refine LeO.ite ?_ ?_)
      | (with_reducible refine LeO.bind ?_ (fun _ => ?_))
      | exact ih0 _ _ _ _ _
      | exact LeO.none _
      | refine LeO.ite ?_ ?_
      | refine LeO.bind ?_ (fun _ => ?_)
set_option maxHeartbeats 8000000 in
set_option maxRecDepth 100000 in
theorem analemmaref01_Mul.calls (k : Nat) (a0 : Int) (a1 : Int) (r1 : Int) (r2 : Int) (w : World) (h : analemmaref01_Mul.f k a0 a1 = some (r1, r2)) :
    Calls Try.prog 18 #[.int .u64 a0, .int .u64 a1] w fun e w' => e = .returned (.tuple #[.int .u64 r1, .int .u64 r2]) ∧ Drawn0 w w' := by
  have H : (analemmaref01_Mul.l0 k a0 a1 0 0 63) = some (r1, r2) := h
  clear h
  have H' := Aside0.mk H
  clear H
  go_enter Try.func18, Try.ntmps18
  go_wp2
  go_loopg [6, 7, 8] k (fun kq v6 v7 v8 w' => ∃ (x6_1 : Int) (x7_1 : Int) (x8_1 : Int), v6 = .int .u64 x6_1 ∧ v7 = .int .u64 x7_1 ∧ v8 = .int .i64 x8_1 ∧ Aside0 (analemmaref01_Mul.l0 kq a0 a1 x6_1 x7_1 x8_1 = some (r1, r2)) ∧ Aside0 (kq ≤ k) ∧ Drawn0 w w')
  case atStart => exact ⟨(0), (0), (63), (by first | rfl | (simp; done) | (simp [*]; done)), (by first | rfl | (simp; done) | (simp [*]; done)), (by first | rfl | (simp; done) | (simp [*]; done)), H', ⟨Nat.le_refl _⟩, by repeat (first | exact Drawn0.refl _ | apply Drawn0.step)⟩
  case round =>
    clear H'
    try clear c1
    try clear p2
    obtain ⟨x6_1, x7_1, x8_1, rfl, rfl, rfl, HA, HK1, ⟨m1, rfl⟩⟩ := hrel
    cases gk with
    | zero => exact absurd HA.out (by simp [analemmaref01_Mul.l0])
    | succ k1 =>
      have H := HA.out
      clear HA
      simp only [analemmaref01_Mul.l0] at H
      by_cases c3 : x8_1 ≥ 0
      · rw [if_pos c3] at H
        have c3b0 : decide (0 ≤ x8_1) = true := decide_eq_true c3
        clear c3
        replace H := Option.bind_eq_some_iff.mp H
        obtain ⟨⟨t177, t178, t179⟩, A40, H⟩ := H
        replace H : ((analemmaref01_bit.f a1 x8_1).bind fun t180 => (if t180 = 1 then ((analemmaref01_Plus.f t177 t178 0 a0).bind fun bt181 => (analemmaref01_Mul.l0 k1 a0 a1 bt181.1 bt181.2.1 (wrap64 (x8_1 - 1)))) else (analemmaref01_Mul.l0 k1 a0 a1 t177 t178 (wrap64 (x8_1 - 1))))) = some (r1, r2) := H
        have A4 := Aside0.mk A40
        clear A40
        replace H := Option.bind_eq_some_iff.mp H
        obtain ⟨t180, A50, H⟩ := H
        replace H : (if t180 = 1 then ((analemmaref01_Plus.f t177 t178 0 a0).bind fun bt181 => (analemmaref01_Mul.l0 k1 a0 a1 bt181.1 bt181.2.1 (wrap64 (x8_1 - 1)))) else (analemmaref01_Mul.l0 k1 a0 a1 t177 t178 (wrap64 (x8_1 - 1)))) = some (r1, r2) := H
        have A5 := Aside0.mk A50
        clear A50
        by_cases c6 : t180 = 1
        · rw [if_pos c6] at H
          have c6b0 : (t180 == 1) = true := beq_iff_eq.mpr c6
          have c6b1 : (t180 != 1) = false := bne_eq_false_iff_eq.mpr c6
          clear c6
          replace H := Option.bind_eq_some_iff.mp H
          obtain ⟨⟨t181, t182, t183⟩, A70, H⟩ := H
          replace H : (analemmaref01_Mul.l0 k1 a0 a1 t181 t182 (wrap64 (x8_1 - 1))) = some (r1, r2) := H
          have A7 := Aside0.mk A70
          clear A70
          have H' := Aside0.mk H
          clear H
          go_wp2_with (first | ((with_reducible refine gate_callee (f := 20) rfl ?_); refine goesL_ (some 18) rfl rfl Try.func20 (by kernel_rfl) rfl #[.int .u64 x6_1, .int .u64 x7_1, .int .u64 x6_1, .int .u64 x7_1] rfl (by (try simp only [List.map_toArray, List.map_cons, List.map_nil]); first | done | rfl | (simp only [List.length_drop, List.length_take]; rfl)) ?_; (with_reducible refine (analemmaref01_Plus.calls x6_1 x7_1 x6_1 x7_1 t177 t178 t179 _ A4.out).mono ?_); rintro e w' ⟨rfl, ⟨nd, rfl⟩⟩; refine ⟨_, rfl, ?_⟩) | ((with_reducible refine gate_callee (f := 26) rfl ?_); refine goesL_ (some 24) rfl rfl Try.func26 (by kernel_rfl) rfl #[.int .u64 a1, .int .i64 x8_1] rfl (by (try simp only [List.map_toArray, List.map_cons, List.map_nil]); first | done | rfl | (simp only [List.length_drop, List.length_take]; rfl)) ?_; (with_reducible refine (analemmaref01_bit.calls a1 x8_1 t180 _ A5.out).mono ?_); rintro e w' ⟨rfl, ⟨nd, rfl⟩⟩; refine ⟨_, rfl, ?_⟩) | ((with_reducible refine gate_callee (f := 20) rfl ?_); refine goesL_ (some 30) rfl rfl Try.func20 (by kernel_rfl) rfl #[.int .u64 t177, .int .u64 t178, .int .u64 0, .int .u64 a0] rfl (by (try simp only [List.map_toArray, List.map_cons, List.map_nil]); first | done | rfl | (simp only [List.length_drop, List.length_take]; rfl)) ?_; (with_reducible refine (analemmaref01_Plus.calls t177 t178 0 a0 t181 t182 t183 _ A7.out).mono ?_); rintro e w' ⟨rfl, ⟨nd, rfl⟩⟩; refine ⟨_, rfl, ?_⟩))
          go_roundg k1
          case measure => have := HK1.out; omega
          case rel => exact ⟨(t181), (t182), (wrap64 (x8_1 - 1)), (by first | rfl | (simp; done) | (simp [*]; done)), (by first | rfl | (simp; done) | (simp [*]; done)), (by first | rfl | (simp; done) | (simp [*]; done)), H', ⟨by have := HK1.out; omega⟩, by repeat (first | exact Drawn0.refl _ | apply Drawn0.step)⟩
        · rw [if_neg c6] at H
          have c6b0 : (t180 == 1) = false := beq_eq_false_iff_ne.mpr c6
          have c6b1 : (t180 != 1) = true := bne_iff_ne.mpr c6
          have H' := Aside0.mk H
          clear H
          go_wp2_with (first | ((with_reducible refine gate_callee (f := 20) rfl ?_); refine goesL_ (some 18) rfl rfl Try.func20 (by kernel_rfl) rfl #[.int .u64 x6_1, .int .u64 x7_1, .int .u64 x6_1, .int .u64 x7_1] rfl (by (try simp only [List.map_toArray, List.map_cons, List.map_nil]); first | done | rfl | (simp only [List.length_drop, List.length_take]; rfl)) ?_; (with_reducible refine (analemmaref01_Plus.calls x6_1 x7_1 x6_1 x7_1 t177 t178 t179 _ A4.out).mono ?_); rintro e w' ⟨rfl, ⟨nd, rfl⟩⟩; refine ⟨_, rfl, ?_⟩) | ((with_reducible refine gate_callee (f := 26) rfl ?_); refine goesL_ (some 24) rfl rfl Try.func26 (by kernel_rfl) rfl #[.int .u64 a1, .int .i64 x8_1] rfl (by (try simp only [List.map_toArray, List.map_cons, List.map_nil]); first | done | rfl | (simp only [List.length_drop, List.length_take]; rfl)) ?_; (with_reducible refine (analemmaref01_bit.calls a1 x8_1 t180 _ A5.out).mono ?_); rintro e w' ⟨rfl, ⟨nd, rfl⟩⟩; refine ⟨_, rfl, ?_⟩))
          go_roundg k1
          case measure => have := HK1.out; omega
          case rel => exact ⟨(t177), (t178), (wrap64 (x8_1 - 1)), (by first | rfl | (simp; done) | (simp [*]; done)), (by first | rfl | (simp; done) | (simp [*]; done)), (by first | rfl | (simp; done) | (simp [*]; done)), H', ⟨by have := HK1.out; omega⟩, by repeat (first | exact Drawn0.refl _ | apply Drawn0.step)⟩
      · rw [if_neg c3] at H
        have c3b0 : decide (0 ≤ x8_1) = false := decide_eq_false c3
        clear c3
        simp only [Option.some.injEq, Prod.mk.injEq] at H
        obtain ⟨rfl, rfl⟩ := H
        go_wp2
        go_ret2
        exact ⟨by first | rfl | (simp; done) | (simp [*]; done), by repeat (first | exact Drawn0.refl _ | apply Drawn0.step)⟩

/-! ### analemmaref01_Div: function 19 -/
def analemmaref01_Div.l0 : Nat → Int → Int → Int → Int → Int → Option (Int × Int × Bool)
  | 0, _, _, _, _, _ => none
  | k + 1, x1, x2, x9, x10, x11 => if x11 ≥ 0 then ((analemmaref01_bit.f x10 63).bind fun t184 => ((analemmaref01_bit.f x1 x11).bind fun t185 => (if t184 = 1 then (analemmaref01_Div.l0 k x1 x2 (Go.bits .or .u64 (IntKind.u64.wrap (x9 * 2)) 1) (IntKind.u64.wrap ((Go.bits .or .u64 (IntKind.u64.wrap (x10 * 2)) t185) - x2)) (wrap64 (x11 - 1))) else (if (Go.bits .or .u64 (IntKind.u64.wrap (x10 * 2)) t185) ≥ x2 then (analemmaref01_Div.l0 k x1 x2 (Go.bits .or .u64 (IntKind.u64.wrap (x9 * 2)) 1) (IntKind.u64.wrap ((Go.bits .or .u64 (IntKind.u64.wrap (x10 * 2)) t185) - x2)) (wrap64 (x11 - 1))) else (analemmaref01_Div.l0 k x1 x2 (IntKind.u64.wrap (x9 * 2)) (Go.bits .or .u64 (IntKind.u64.wrap (x10 * 2)) t185) (wrap64 (x11 - 1))))))) else (some (x9, x10, true))
def analemmaref01_Div.f (k : Nat) (a0 : Int) (a1 : Int) (a2 : Int) : Option (Int × Int × Bool) := if a0 ≥ a2 then (some (0, 0, false)) else (analemmaref01_Div.l0 k a1 a2 0 a0 63)
theorem analemmaref01_Div.mono_l : ∀ k, (∀ y0 y1 y2 y3 y4, LeO (analemmaref01_Div.l0 k y0 y1 y2 y3 y4) (analemmaref01_Div.l0 (k + 1) y0 y1 y2 y3 y4))
  | 0 => fun _ _ _ _ _ r h => by simp [analemmaref01_Div.l0] at h
  | k + 1 => by
    have ih0 := analemmaref01_Div.mono_l k
    · intro y0 y1 y2 y3 y4
      unfold analemmaref01_Div.l0
      repeat' first
      | (with_reducible exact ih0 _ _ _ _ _)
      | (with_reducible exact LeO.refl _)
      | (with_reducible exact LeO.none _)
      | (with_reducible refine LeO.ite ?_ ?_)
      | (with_reducible refine LeO.bind ?_ (fun _ => ?_))
      | exact ih0 _ _ _ _ _
      | exact LeO.none _
      | refine LeO.ite ?_ ?_
      | refine LeO.bind ?_ (fun _ => ?_)
theorem analemmaref01_Div.mono : ∀ a0 a1 a2 k, LeO (analemmaref01_Div.f k a0 a1 a2) (analemmaref01_Div.f (k + 1) a0 a1 a2) := by
  intro a0 a1 a2 k
  have ih0 := analemmaref01_Div.mono_l k
  unfold analemmaref01_Div.f
  repeat' first
      | (with_reducible exact ih0 _ _ _ _ _)
      | (with_reducible exact LeO.refl _)
      | (with_reducible exact LeO.none _)
      | (with_reducible refine LeO.ite ?_ ?_)
      | (with_reducible refine LeO.bind ?_ (fun _ => ?_))
      | exact ih0 _ _ _ _ _
      | exact LeO.none _
      | refine LeO.ite ?_ ?_
      | refine LeO.bind ?_ (fun _ => ?_)
set_option maxHeartbeats 8000000 in
set_option maxRecDepth 100000 in
theorem analemmaref01_Div.calls (k : Nat) (a0 : Int) (a1 : Int) (a2 : Int) (r1 : Int) (r2 : Int) (r3 : Bool) (w : World) (h : analemmaref01_Div.f k a0 a1 a2 = some (r1, r2, r3)) :
    Calls Try.prog 19 #[.int .u64 a0, .int .u64 a1, .int .u64 a2] w fun e w' => e = .returned (.tuple #[.int .u64 r1, .int .u64 r2, .bool r3]) ∧ Drawn0 w w' := by
  have H : (if a0 ≥ a2 then (some (0, 0, false)) else (analemmaref01_Div.l0 k a1 a2 0 a0 63)) = some (r1, r2, r3) := h
  clear h
  by_cases c4 : a0 ≥ a2
  · rw [if_pos c4] at H
    have c4b0 : decide (a2 ≤ a0) = true := decide_eq_true c4
    clear c4
    simp only [Option.some.injEq, Prod.mk.injEq] at H
    obtain ⟨rfl, rfl, rfl⟩ := H
    go_enter Try.func19, Try.ntmps19
    go_wp2
    go_ret3
    exact ⟨by first | rfl | (simp; done) | (simp [*]; done), by repeat (first | exact Drawn0.refl _ | apply Drawn0.step)⟩
  · rw [if_neg c4] at H
    have c4b0 : decide (a2 ≤ a0) = false := decide_eq_false c4
    clear c4
    have H' := Aside0.mk H
    clear H
    go_enter Try.func19, Try.ntmps19
    go_wp2
    go_loopg [9, 10, 11] k (fun kq v9 v10 v11 w' => ∃ (x9_1 : Int) (x10_1 : Int) (x11_1 : Int), v9 = .int .u64 x9_1 ∧ v10 = .int .u64 x10_1 ∧ v11 = .int .i64 x11_1 ∧ Aside0 (analemmaref01_Div.l0 kq a1 a2 x9_1 x10_1 x11_1 = some (r1, r2, r3)) ∧ Aside0 (kq ≤ k) ∧ Drawn0 w w')
    case atStart => exact ⟨(0), (a0), (63), (by first | rfl | (simp; done) | (simp [*]; done)), (by first | rfl | (simp; done) | (simp [*]; done)), (by first | rfl | (simp; done) | (simp [*]; done)), H', ⟨Nat.le_refl _⟩, by repeat (first | exact Drawn0.refl _ | apply Drawn0.step)⟩
    case round =>
      clear H'
      try clear c1
      try clear p2
      try clear c4
      try clear c4b0
      obtain ⟨x9_1, x10_1, x11_1, rfl, rfl, rfl, HA, HK1, ⟨m1, rfl⟩⟩ := hrel
      cases gk with
      | zero => exact absurd HA.out (by simp [analemmaref01_Div.l0])
      | succ k1 =>
        have H := HA.out
        clear HA
        simp only [analemmaref01_Div.l0] at H
        by_cases c5 : x11_1 ≥ 0
        · rw [if_pos c5] at H
          have c5b0 : decide (0 ≤ x11_1) = true := decide_eq_true c5
          clear c5
          replace H := Option.bind_eq_some_iff.mp H
          obtain ⟨t184, A60, H⟩ := H
          replace H : ((analemmaref01_bit.f a1 x11_1).bind fun t185 => (if t184 = 1 then (analemmaref01_Div.l0 k1 a1 a2 (Go.bits .or .u64 (IntKind.u64.wrap (x9_1 * 2)) 1) (IntKind.u64.wrap ((Go.bits .or .u64 (IntKind.u64.wrap (x10_1 * 2)) t185) - a2)) (wrap64 (x11_1 - 1))) else (if (Go.bits .or .u64 (IntKind.u64.wrap (x10_1 * 2)) t185) ≥ a2 then (analemmaref01_Div.l0 k1 a1 a2 (Go.bits .or .u64 (IntKind.u64.wrap (x9_1 * 2)) 1) (IntKind.u64.wrap ((Go.bits .or .u64 (IntKind.u64.wrap (x10_1 * 2)) t185) - a2)) (wrap64 (x11_1 - 1))) else (analemmaref01_Div.l0 k1 a1 a2 (IntKind.u64.wrap (x9_1 * 2)) (Go.bits .or .u64 (IntKind.u64.wrap (x10_1 * 2)) t185) (wrap64 (x11_1 - 1)))))) = some (r1, r2, r3) := H
          have A6 := Aside0.mk A60
          clear A60
          replace H := Option.bind_eq_some_iff.mp H
          obtain ⟨t185, A70, H⟩ := H
          replace H : (if t184 = 1 then (analemmaref01_Div.l0 k1 a1 a2 (Go.bits .or .u64 (IntKind.u64.wrap (x9_1 * 2)) 1) (IntKind.u64.wrap ((Go.bits .or .u64 (IntKind.u64.wrap (x10_1 * 2)) t185) - a2)) (wrap64 (x11_1 - 1))) else (if (Go.bits .or .u64 (IntKind.u64.wrap (x10_1 * 2)) t185) ≥ a2 then (analemmaref01_Div.l0 k1 a1 a2 (Go.bits .or .u64 (IntKind.u64.wrap (x9_1 * 2)) 1) (IntKind.u64.wrap ((Go.bits .or .u64 (IntKind.u64.wrap (x10_1 * 2)) t185) - a2)) (wrap64 (x11_1 - 1))) else (analemmaref01_Div.l0 k1 a1 a2 (IntKind.u64.wrap (x9_1 * 2)) (Go.bits .or .u64 (IntKind.u64.wrap (x10_1 * 2)) t185) (wrap64 (x11_1 - 1))))) = some (r1, r2, r3) := H
          have A7 := Aside0.mk A70
          clear A70
          by_cases c8 : t184 = 1
          · rw [if_pos c8] at H
            have c8b0 : (t184 == 1) = true := beq_iff_eq.mpr c8
            have c8b1 : (t184 != 1) = false := bne_eq_false_iff_eq.mpr c8
            clear c8
            have H' := Aside0.mk H
            clear H
            go_wp2_with (first | ((with_reducible refine gate_callee (f := 26) rfl ?_); refine goesL_ (some 22) rfl rfl Try.func26 (by kernel_rfl) rfl #[.int .u64 x10_1, .int .i64 63] rfl (by (try simp only [List.map_toArray, List.map_cons, List.map_nil]); first | done | rfl | (simp only [List.length_drop, List.length_take]; rfl)) ?_; (with_reducible refine (analemmaref01_bit.calls x10_1 63 t184 _ A6.out).mono ?_); rintro e w' ⟨rfl, ⟨nd, rfl⟩⟩; refine ⟨_, rfl, ?_⟩) | ((with_reducible refine gate_callee (f := 26) rfl ?_); refine goesL_ (some 28) rfl rfl Try.func26 (by kernel_rfl) rfl #[.int .u64 a1, .int .i64 x11_1] rfl (by (try simp only [List.map_toArray, List.map_cons, List.map_nil]); first | done | rfl | (simp only [List.length_drop, List.length_take]; rfl)) ?_; (with_reducible refine (analemmaref01_bit.calls a1 x11_1 t185 _ A7.out).mono ?_); rintro e w' ⟨rfl, ⟨nd, rfl⟩⟩; refine ⟨_, rfl, ?_⟩))
            go_roundg k1
            case measure => have := HK1.out; omega
            case rel => exact ⟨(Go.bits .or .u64 (IntKind.u64.wrap (x9_1 * 2)) 1), (IntKind.u64.wrap ((Go.bits .or .u64 (IntKind.u64.wrap (x10_1 * 2)) t185) - a2)), (wrap64 (x11_1 - 1)), (by first | rfl | (simp; done) | (simp [*]; done)), (by first | rfl | (simp; done) | (simp [*]; done)), (by first | rfl | (simp; done) | (simp [*]; done)), H', ⟨by have := HK1.out; omega⟩, by repeat (first | exact Drawn0.refl _ | apply Drawn0.step)⟩
          · rw [if_neg c8] at H
            have c8b0 : (t184 == 1) = false := beq_eq_false_iff_ne.mpr c8
            have c8b1 : (t184 != 1) = true := bne_iff_ne.mpr c8
            by_cases c9 : (Go.bits .or .u64 (IntKind.u64.wrap (x10_1 * 2)) t185) ≥ a2
            · rw [if_pos c9] at H
              have c9b0 : decide (a2 ≤ (Go.bits .or .u64 (IntKind.u64.wrap (x10_1 * 2)) t185)) = true := decide_eq_true c9
              clear c9
              have H' := Aside0.mk H
              clear H
              go_wp2_with (first | ((with_reducible refine gate_callee (f := 26) rfl ?_); refine goesL_ (some 22) rfl rfl Try.func26 (by kernel_rfl) rfl #[.int .u64 x10_1, .int .i64 63] rfl (by (try simp only [List.map_toArray, List.map_cons, List.map_nil]); first | done | rfl | (simp only [List.length_drop, List.length_take]; rfl)) ?_; (with_reducible refine (analemmaref01_bit.calls x10_1 63 t184 _ A6.out).mono ?_); rintro e w' ⟨rfl, ⟨nd, rfl⟩⟩; refine ⟨_, rfl, ?_⟩) | ((with_reducible refine gate_callee (f := 26) rfl ?_); refine goesL_ (some 28) rfl rfl Try.func26 (by kernel_rfl) rfl #[.int .u64 a1, .int .i64 x11_1] rfl (by (try simp only [List.map_toArray, List.map_cons, List.map_nil]); first | done | rfl | (simp only [List.length_drop, List.length_take]; rfl)) ?_; (with_reducible refine (analemmaref01_bit.calls a1 x11_1 t185 _ A7.out).mono ?_); rintro e w' ⟨rfl, ⟨nd, rfl⟩⟩; refine ⟨_, rfl, ?_⟩))
              go_roundg k1
              case measure => have := HK1.out; omega
              case rel => exact ⟨(Go.bits .or .u64 (IntKind.u64.wrap (x9_1 * 2)) 1), (IntKind.u64.wrap ((Go.bits .or .u64 (IntKind.u64.wrap (x10_1 * 2)) t185) - a2)), (wrap64 (x11_1 - 1)), (by first | rfl | (simp; done) | (simp [*]; done)), (by first | rfl | (simp; done) | (simp [*]; done)), (by first | rfl | (simp; done) | (simp [*]; done)), H', ⟨by have := HK1.out; omega⟩, by repeat (first | exact Drawn0.refl _ | apply Drawn0.step)⟩
            · rw [if_neg c9] at H
              have c9b0 : decide (a2 ≤ (Go.bits .or .u64 (IntKind.u64.wrap (x10_1 * 2)) t185)) = false := decide_eq_false c9
              clear c9
              have H' := Aside0.mk H
              clear H
              go_wp2_with (first | ((with_reducible refine gate_callee (f := 26) rfl ?_); refine goesL_ (some 22) rfl rfl Try.func26 (by kernel_rfl) rfl #[.int .u64 x10_1, .int .i64 63] rfl (by (try simp only [List.map_toArray, List.map_cons, List.map_nil]); first | done | rfl | (simp only [List.length_drop, List.length_take]; rfl)) ?_; (with_reducible refine (analemmaref01_bit.calls x10_1 63 t184 _ A6.out).mono ?_); rintro e w' ⟨rfl, ⟨nd, rfl⟩⟩; refine ⟨_, rfl, ?_⟩) | ((with_reducible refine gate_callee (f := 26) rfl ?_); refine goesL_ (some 28) rfl rfl Try.func26 (by kernel_rfl) rfl #[.int .u64 a1, .int .i64 x11_1] rfl (by (try simp only [List.map_toArray, List.map_cons, List.map_nil]); first | done | rfl | (simp only [List.length_drop, List.length_take]; rfl)) ?_; (with_reducible refine (analemmaref01_bit.calls a1 x11_1 t185 _ A7.out).mono ?_); rintro e w' ⟨rfl, ⟨nd, rfl⟩⟩; refine ⟨_, rfl, ?_⟩))
              go_roundg k1
              case measure => have := HK1.out; omega
              case rel => exact ⟨(IntKind.u64.wrap (x9_1 * 2)), (Go.bits .or .u64 (IntKind.u64.wrap (x10_1 * 2)) t185), (wrap64 (x11_1 - 1)), (by first | rfl | (simp; done) | (simp [*]; done)), (by first | rfl | (simp; done) | (simp [*]; done)), (by first | rfl | (simp; done) | (simp [*]; done)), H', ⟨by have := HK1.out; omega⟩, by repeat (first | exact Drawn0.refl _ | apply Drawn0.step)⟩
        · rw [if_neg c5] at H
          have c5b0 : decide (0 ≤ x11_1) = false := decide_eq_false c5
          clear c5
          simp only [Option.some.injEq, Prod.mk.injEq] at H
          obtain ⟨rfl, rfl, rfl⟩ := H
          go_wp2
          go_ret3
          exact ⟨by first | rfl | (simp; done) | (simp [*]; done), by repeat (first | exact Drawn0.refl _ | apply Drawn0.step)⟩

/-! ### analemmaref01_Less: function 21 -/
def analemmaref01_Less.f (a0 : Int) (a1 : Int) (a2 : Int) (a3 : Int) : Option (Bool) := if a0 < a2 then (some true) else (if a0 = a2 then (some (decide (a1 < a3))) else (some false))
set_option maxHeartbeats 8000000 in
set_option maxRecDepth 100000 in
theorem analemmaref01_Less.calls (a0 : Int) (a1 : Int) (a2 : Int) (a3 : Int) (r : Bool) (w : World) (h : analemmaref01_Less.f a0 a1 a2 a3 = some r) :
    Calls Try.prog 21 #[.int .u64 a0, .int .u64 a1, .int .u64 a2, .int .u64 a3] w fun e w' => e = .returned (.bool r) ∧ Drawn0 w w' := by
  have H : (if a0 < a2 then (some true) else (if a0 = a2 then (some (decide (a1 < a3))) else (some false))) = some r := h
  clear h
  by_cases c5 : a0 < a2
  · rw [if_pos c5] at H
    have c5b0 : decide (a0 < a2) = true := decide_eq_true c5
    clear c5
    obtain rfl := Option.some.inj H
    go_enter Try.func21, Try.ntmps21
    go_wp2
    go_ret
    exact ⟨by first | rfl | (simp; done) | (simp [*]; done), by repeat (first | exact Drawn0.refl _ | apply Drawn0.step)⟩
  · rw [if_neg c5] at H
    have c5b0 : decide (a0 < a2) = false := decide_eq_false c5
    clear c5
    by_cases c6 : a0 = a2
    · rw [if_pos c6] at H
      have c6b0 : (a0 == a2) = true := beq_iff_eq.mpr c6
      have c6b1 : (a0 != a2) = false := bne_eq_false_iff_eq.mpr c6
      clear c6
      obtain rfl := Option.some.inj H
      go_enter Try.func21, Try.ntmps21
      go_wp2
      go_ret
      exact ⟨by first | rfl | (simp; done) | (simp [*]; done), by repeat (first | exact Drawn0.refl _ | apply Drawn0.step)⟩
    · rw [if_neg c6] at H
      have c6b0 : (a0 == a2) = false := beq_eq_false_iff_ne.mpr c6
      have c6b1 : (a0 != a2) = true := bne_iff_ne.mpr c6
      obtain rfl := Option.some.inj H
      go_enter Try.func21, Try.ntmps21
      go_wp2
      go_ret
      exact ⟨by first | rfl | (simp; done) | (simp [*]; done), by repeat (first | exact Drawn0.refl _ | apply Drawn0.step)⟩

/-! ### analemmaref01_Sqrt: function 22 -/
def analemmaref01_Sqrt.l0 : Nat → Int → Int → Int → Int → Option (Int)
  | 0, _, _, _, _ => none
  | k + 1, x0, x1, x5, x6 => if x6 ≥ 0 then (if 0 ≤ x6 then ((analemmaref01_Mul.f k (Go.bits .or .u64 x5 (shl .u64 1 x6)) (Go.bits .or .u64 x5 (shl .u64 1 x6))).bind fun bt186 => ((analemmaref01_Less.f x0 x1 bt186.1 bt186.2).bind fun t188 => (if t188 = true then (analemmaref01_Sqrt.l0 k x0 x1 x5 (wrap64 (x6 - 1))) else (analemmaref01_Sqrt.l0 k x0 x1 (Go.bits .or .u64 x5 (shl .u64 1 x6)) (wrap64 (x6 - 1)))))) else (none)) else (some x5)
def analemmaref01_Sqrt.f (k : Nat) (a0 : Int) (a1 : Int) : Option (Int) := analemmaref01_Sqrt.l0 k a0 a1 0 63
theorem analemmaref01_Sqrt.mono_l : ∀ k, (∀ y0 y1 y2 y3, LeO (analemmaref01_Sqrt.l0 k y0 y1 y2 y3) (analemmaref01_Sqrt.l0 (k + 1) y0 y1 y2 y3))
  | 0 => fun _ _ _ _ r h => by simp [analemmaref01_Sqrt.l0] at h
  | k + 1 => by
    have ih0 := analemmaref01_Sqrt.mono_l k
    · intro y0 y1 y2 y3
      unfold analemmaref01_Sqrt.l0
      repeat' first
      | (with_reducible exact ih0 _ _ _ _)
      | (with_reducible exact analemmaref01_Mul.mono _ _ _)
      | (with_reducible exact LeO.refl _)
      | (with_reducible exact LeO.none _)
      | (with_reducible refine LeO.ite ?_ ?_)
      | (with_reducible refine LeO.bind ?_ (fun _ => ?_))
      | exact ih0 _ _ _ _
      | exact analemmaref01_Mul.mono _ _ _
      | exact LeO.none _
      | refine LeO.ite ?_ ?_
      | refine LeO.bind ?_ (fun _ => ?_)
theorem analemmaref01_Sqrt.mono : ∀ a0 a1 k, LeO (analemmaref01_Sqrt.f k a0 a1) (analemmaref01_Sqrt.f (k + 1) a0 a1) := by
  intro a0 a1 k
  have ih0 := analemmaref01_Sqrt.mono_l k
  unfold analemmaref01_Sqrt.f
  repeat' first
      | (with_reducible exact ih0 _ _ _ _)
      | (with_reducible exact analemmaref01_Mul.mono _ _ _)
      | (with_reducible exact LeO.refl _)
      | (with_reducible exact LeO.none _)
      | (with_reducible refine LeO.ite ?_ ?_)
      | (with_reducible refine LeO.bind ?_ (fun _ => ?_))
      | exact ih0 _ _ _ _
      | exact analemmaref01_Mul.mono _ _ _
      | exact LeO.none _
      | refine LeO.ite ?_ ?_
      | refine LeO.bind ?_ (fun _ => ?_)
set_option maxHeartbeats 8000000 in
set_option maxRecDepth 100000 in
theorem analemmaref01_Sqrt.calls (k : Nat) (a0 : Int) (a1 : Int) (r : Int) (w : World) (h : analemmaref01_Sqrt.f k a0 a1 = some r) :
    Calls Try.prog 22 #[.int .u64 a0, .int .u64 a1] w fun e w' => e = .returned (.int .u64 r) ∧ Drawn0 w w' := by
  have H : (analemmaref01_Sqrt.l0 k a0 a1 0 63) = some r := h
  clear h
  have H' := Aside0.mk H
  clear H
  go_enter Try.func22, Try.ntmps22
  go_wp2
  go_loopg [5, 6] k (fun kq v5 v6 w' => ∃ (x5_1 : Int) (x6_1 : Int), v5 = .int .u64 x5_1 ∧ v6 = .int .i64 x6_1 ∧ Aside0 (analemmaref01_Sqrt.l0 kq a0 a1 x5_1 x6_1 = some r) ∧ Aside0 (kq ≤ k) ∧ Drawn0 w w')
  case atStart => exact ⟨(0), (63), (by first | rfl | (simp; done) | (simp [*]; done)), (by first | rfl | (simp; done) | (simp [*]; done)), H', ⟨Nat.le_refl _⟩, by repeat (first | exact Drawn0.refl _ | apply Drawn0.step)⟩
  case round =>
    clear H'
    try clear c2
    try clear p2
    obtain ⟨x5_1, x6_1, rfl, rfl, HA, HK1, ⟨m1, rfl⟩⟩ := hrel
    cases gk with
    | zero => exact absurd HA.out (by simp [analemmaref01_Sqrt.l0])
    | succ k1 =>
      have H := HA.out
      clear HA
      simp only [analemmaref01_Sqrt.l0] at H
      by_cases c3 : x6_1 ≥ 0
      · rw [if_pos c3] at H
        have c3b0 : decide (0 ≤ x6_1) = true := decide_eq_true c3
        clear c3
        by_cases c4 : 0 ≤ x6_1
        · rw [if_pos c4] at H
          have c4b0 := eq_true c4
          have c4b1 : decide (0 ≤ x6_1) = true := decide_eq_true c4
          clear c4
          obtain ⟨ji5, hji5⟩ : ∃ j_ : Int, (shl .u64 1 x6_1) = j_ := ⟨_, rfl⟩
          replace H : ((analemmaref01_Mul.f k1 (Go.bits .or .u64 x5_1 (ji5)) (Go.bits .or .u64 x5_1 (ji5))).bind fun bt186 => ((analemmaref01_Less.f a0 a1 bt186.1 bt186.2).bind fun t188 => (if t188 = true then (analemmaref01_Sqrt.l0 k1 a0 a1 x5_1 (wrap64 (x6_1 - 1))) else (analemmaref01_Sqrt.l0 k1 a0 a1 (Go.bits .or .u64 x5_1 (ji5)) (wrap64 (x6_1 - 1)))))) = some r := by first | (rw [hji5] at H; exact H) | (simp only [hji5] at H ⊢; exact H)
          have hji5_ : (IntKind.u64.wrap (1 * 2 ^ min x6_1.toNat 64)) = ji5 := hji5
          have hji5z : x6_1 ≤ 64 → (IntKind.u64.wrap (1 * 2 ^ x6_1.toNat)) = ji5 := shl_small hji5
          have hji5u : (IntKind.u64.wrap (2 ^ min x6_1.toNat 64)) = ji5 := by have h_ := hji5_; rw [Int.one_mul] at h_; exact h_
          have hji5v : x6_1 ≤ 64 → (IntKind.u64.wrap (2 ^ x6_1.toNat)) = ji5 := fun hle_ => by have h_ := hji5z hle_; rw [Int.one_mul] at h_; exact h_
          replace H := Option.bind_eq_some_iff.mp H
          obtain ⟨⟨t186, t187⟩, A60, H⟩ := H
          replace H : ((analemmaref01_Less.f a0 a1 t186 t187).bind fun t188 => (if t188 = true then (analemmaref01_Sqrt.l0 k1 a0 a1 x5_1 (wrap64 (x6_1 - 1))) else (analemmaref01_Sqrt.l0 k1 a0 a1 (Go.bits .or .u64 x5_1 (ji5)) (wrap64 (x6_1 - 1))))) = some r := H
          have A6 := Aside0.mk A60
          clear A60
          replace H := Option.bind_eq_some_iff.mp H
          obtain ⟨t188, A70, H⟩ := H
          replace H : (if t188 = true then (analemmaref01_Sqrt.l0 k1 a0 a1 x5_1 (wrap64 (x6_1 - 1))) else (analemmaref01_Sqrt.l0 k1 a0 a1 (Go.bits .or .u64 x5_1 (ji5)) (wrap64 (x6_1 - 1)))) = some r := H
          have A7 := Aside0.mk A70
          clear A70
          by_cases c8 : t188 = true
          · subst c8
            have H1 : (analemmaref01_Sqrt.l0 k1 a0 a1 x5_1 (wrap64 (x6_1 - 1))) = some r := by rw [if_pos rfl] at H; exact H
            clear H
            have H := H1
            clear H1
            have H' := Aside0.mk H
            clear H
            go_wp2_with (first | ((with_reducible refine gate_callee (f := 18) rfl ?_); refine goesL_ (some 21) rfl rfl Try.func18 (by kernel_rfl) rfl #[.int .u64 (Go.bits .or .u64 x5_1 (ji5)), .int .u64 (Go.bits .or .u64 x5_1 (ji5))] rfl (by (try simp only [List.map_toArray, List.map_cons, List.map_nil]); first | done | (simp only [hji5]; rfl) | rfl | (simp only [List.length_drop, List.length_take]; rfl)) ?_; (with_reducible refine (analemmaref01_Mul.calls k1 (Go.bits .or .u64 x5_1 (ji5)) (Go.bits .or .u64 x5_1 (ji5)) t186 t187 _ A6.out).mono ?_); rintro e w' ⟨rfl, ⟨nd, rfl⟩⟩; refine ⟨_, rfl, ?_⟩) | ((with_reducible refine gate_callee (f := 21) rfl ?_); refine goesL_ (some 28) rfl rfl Try.func21 (by kernel_rfl) rfl #[.int .u64 a0, .int .u64 a1, .int .u64 t186, .int .u64 t187] rfl (by (try simp only [List.map_toArray, List.map_cons, List.map_nil]); first | done | rfl | (simp only [List.length_drop, List.length_take]; rfl)) ?_; (with_reducible refine (analemmaref01_Less.calls a0 a1 t186 t187 true _ A7.out).mono ?_); rintro e w' ⟨rfl, ⟨nd, rfl⟩⟩; refine ⟨_, rfl, ?_⟩))
            go_roundg k1
            case measure => have := HK1.out; omega
            case rel => exact ⟨(x5_1), (wrap64 (x6_1 - 1)), (by first | rfl | (simp; done) | (simp [*]; done)), (by first | rfl | (simp; done) | (simp [*]; done)), H', ⟨by have := HK1.out; omega⟩, by repeat (first | exact Drawn0.refl _ | apply Drawn0.step)⟩
          · replace c8 := Bool.eq_false_iff.mpr c8
            subst c8
            have H1 : (analemmaref01_Sqrt.l0 k1 a0 a1 (Go.bits .or .u64 x5_1 (ji5)) (wrap64 (x6_1 - 1))) = some r := by rw [if_neg (show ¬ (false = true) by decide)] at H; exact H
            clear H
            have H := H1
            clear H1
            have H' := Aside0.mk H
            clear H
            go_wp2_with (first | ((with_reducible refine gate_callee (f := 18) rfl ?_); refine goesL_ (some 21) rfl rfl Try.func18 (by kernel_rfl) rfl #[.int .u64 (Go.bits .or .u64 x5_1 (ji5)), .int .u64 (Go.bits .or .u64 x5_1 (ji5))] rfl (by (try simp only [List.map_toArray, List.map_cons, List.map_nil]); first | done | (simp only [hji5]; rfl) | rfl | (simp only [List.length_drop, List.length_take]; rfl)) ?_; (with_reducible refine (analemmaref01_Mul.calls k1 (Go.bits .or .u64 x5_1 (ji5)) (Go.bits .or .u64 x5_1 (ji5)) t186 t187 _ A6.out).mono ?_); rintro e w' ⟨rfl, ⟨nd, rfl⟩⟩; refine ⟨_, rfl, ?_⟩) | ((with_reducible refine gate_callee (f := 21) rfl ?_); refine goesL_ (some 28) rfl rfl Try.func21 (by kernel_rfl) rfl #[.int .u64 a0, .int .u64 a1, .int .u64 t186, .int .u64 t187] rfl (by (try simp only [List.map_toArray, List.map_cons, List.map_nil]); first | done | rfl | (simp only [List.length_drop, List.length_take]; rfl)) ?_; (with_reducible refine (analemmaref01_Less.calls a0 a1 t186 t187 false _ A7.out).mono ?_); rintro e w' ⟨rfl, ⟨nd, rfl⟩⟩; refine ⟨_, rfl, ?_⟩))
            go_roundg k1
            case measure => have := HK1.out; omega
            case rel => exact ⟨(Go.bits .or .u64 x5_1 (ji5)), (wrap64 (x6_1 - 1)), (by first | rfl | (simp; done) | (simp only [← hji5] <;> (first | rfl | simp)) | (simp [*]; done)), (by first | rfl | (simp; done) | (simp [*]; done)), H', ⟨by have := HK1.out; omega⟩, by repeat (first | exact Drawn0.refl _ | apply Drawn0.step)⟩
        · rw [if_neg c4] at H
          exact absurd H (by simp)
      · rw [if_neg c3] at H
        have c3b0 : decide (0 ≤ x6_1) = false := decide_eq_false c3
        clear c3
        obtain rfl := Option.some.inj H
        go_wp2
        go_ret
        exact ⟨by first | rfl | (simp; done) | (simp [*]; done), by repeat (first | exact Drawn0.refl _ | apply Drawn0.step)⟩

/-! ### analemmaref01_Log: function 23 -/
def analemmaref01_Log.l0 : Nat → Int → Int → Option (Int)
  | 0, _, _ => none
  | k + 1, x0, x3 => if x0 > 0 then (analemmaref01_Log.l0 k (x0 / 2) (wrap64 (x3 + 1))) else (some x3)
def analemmaref01_Log.f (k : Nat) (a0 : Int) : Option (Int) := analemmaref01_Log.l0 k a0 (-1)
theorem analemmaref01_Log.mono_l : ∀ k, (∀ y0 y1, LeO (analemmaref01_Log.l0 k y0 y1) (analemmaref01_Log.l0 (k + 1) y0 y1))
  | 0 => fun _ _ r h => by simp [analemmaref01_Log.l0] at h
  | k + 1 => by
    have ih0 := analemmaref01_Log.mono_l k
    · intro y0 y1
      unfold analemmaref01_Log.l0
      repeat' first
      | (with_reducible exact ih0 _ _)
      | (with_reducible exact LeO.refl _)
      | (with_reducible exact LeO.none _)
      | (with_reducible refine LeO.ite ?_ ?_)
      | (with_reducible refine LeO.bind ?_ (fun _ => ?_))
      | exact ih0 _ _
      | exact LeO.none _
      | refine LeO.ite ?_ ?_
      | refine LeO.bind ?_ (fun _ => ?_)
theorem analemmaref01_Log.mono : ∀ a0 k, LeO (analemmaref01_Log.f k a0) (analemmaref01_Log.f (k + 1) a0) := by
  intro a0 k
  have ih0 := analemmaref01_Log.mono_l k
  unfold analemmaref01_Log.f
  repeat' first
      | (with_reducible exact ih0 _ _)
      | (with_reducible exact LeO.refl _)
      | (with_reducible exact LeO.none _)
      | (with_reducible refine LeO.ite ?_ ?_)
      | (with_reducible refine LeO.bind ?_ (fun _ => ?_))
      | exact ih0 _ _
      | exact LeO.none _
      | refine LeO.ite ?_ ?_
      | refine LeO.bind ?_ (fun _ => ?_)
set_option maxHeartbeats 8000000 in
set_option maxRecDepth 100000 in
theorem analemmaref01_Log.calls (k : Nat) (a0 : Int) (r : Int) (w : World) (h : analemmaref01_Log.f k a0 = some r) :
    Calls Try.prog 23 #[.int .u64 a0] w fun e w' => e = .returned (.int .i64 r) ∧ Drawn0 w w' := by
  have H : (analemmaref01_Log.l0 k a0 (-1)) = some r := h
  clear h
  have H' := Aside0.mk H
  clear H
  go_enter Try.func23, Try.ntmps23
  go_wp2
  go_loopg [0, 3] k (fun kq v0 v3 w' => ∃ (x0_1 : Int) (x3_1 : Int), v0 = .int .u64 x0_1 ∧ v3 = .int .i64 x3_1 ∧ Aside0 (analemmaref01_Log.l0 kq x0_1 x3_1 = some r) ∧ Aside0 (kq ≤ k) ∧ Drawn0 w w')
  case atStart => exact ⟨(a0), ((-1)), (by first | rfl | (simp; done) | (simp [*]; done)), (by first | rfl | (simp; done) | (simp [*]; done)), H', ⟨Nat.le_refl _⟩, by repeat (first | exact Drawn0.refl _ | apply Drawn0.step)⟩
  case round =>
    clear H'
    obtain ⟨x0_1, x3_1, rfl, rfl, HA, HK1, ⟨m1, rfl⟩⟩ := hrel
    cases gk with
    | zero => exact absurd HA.out (by simp [analemmaref01_Log.l0])
    | succ k1 =>
      have H := HA.out
      clear HA
      simp only [analemmaref01_Log.l0] at H
      by_cases c2 : x0_1 > 0
      · rw [if_pos c2] at H
        have c2b0 : decide (0 < x0_1) = true := decide_eq_true c2
        clear c2
        have H' := Aside0.mk H
        clear H
        go_wp2
        go_roundg k1
        case measure => have := HK1.out; omega
        case rel => exact ⟨(x0_1 / 2), (wrap64 (x3_1 + 1)), (by first | rfl | (simp; done) | (simp [*]; done)), (by first | rfl | (simp; done) | (simp [*]; done)), H', ⟨by have := HK1.out; omega⟩, by repeat (first | exact Drawn0.refl _ | apply Drawn0.step)⟩
      · rw [if_neg c2] at H
        have c2b0 : decide (0 < x0_1) = false := decide_eq_false c2
        clear c2
        obtain rfl := Option.some.inj H
        go_wp2
        go_ret
        exact ⟨by first | rfl | (simp; done) | (simp [*]; done), by repeat (first | exact Drawn0.refl _ | apply Drawn0.step)⟩

end Go.Proofs.Ytanpjfejnlfpmaa.MWide
