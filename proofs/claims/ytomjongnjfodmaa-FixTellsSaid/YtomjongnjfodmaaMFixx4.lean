/- Functions that the statements of this seat reach, each as a plain Lean function, with a proof that the Go code comes to its answers; no condition. -/
import Derived.Test.YtomjongnjfodmaaMFixx0
import Derived.Test.YtomjongnjfodmaaMFixx1
import Derived.Test.YtomjongnjfodmaaMFixx2
import Derived.Test.YtomjongnjfodmaaMFixx3
namespace Go.Proofs.Ytomjongnjfodmaa.MFix
open Go.RowKit Go.Proofs.YtomjongnjfodmaaW.PrintWords Go.Proofs.YtomjongnjfodmaaW.PrintLast Go.Proofs.YtomjongnjfodmaaW.PrintMore
attribute [local go_sem] max2_int min2_int max_two min_two max_three min_three max_four min_four   -- for this text's walks alone
set_option linter.unusedVariables false
set_option linter.unusedSimpArgs false

/-! ### analemmalaw02_FixBack: function 6 -/
def analemmalaw02_FixBack.f (k : Nat) (a0 : Int) (a1 : Int) : Option (Bool) := (fix_Add.f k (wrap64 (Int.tdiv a0 4)) (wrap64 (Int.tdiv a1 4))).bind fun t146 => ((fix_Sub.f k t146 (wrap64 (Int.tdiv a1 4))).bind fun t147 => (if t147 = (wrap64 (Int.tdiv a0 4)) then ((fix_Add.f k (wrap64 (Int.tdiv a0 4)) (wrap64 (Int.tdiv a1 4))).bind fun t148 => ((fix_Add.f k (wrap64 (Int.tdiv a1 4)) (wrap64 (Int.tdiv a0 4))).bind fun t149 => (if t148 = t149 then ((fix_Sub.f k 0 (mx a0 (-9223372036854775807))).bind fun t150 => ((fix_Sub.f k 0 t150).bind fun t151 => (if t151 = (mx a0 (-9223372036854775807)) then ((fix_Mul.f (mx a0 (-9223372036854775807)) 4294967296).bind fun t152 => (if t152 = (mx a0 (-9223372036854775807)) then ((fix_Div.f (mx a0 (-9223372036854775807)) 4294967296).bind fun t153 => (if t153 = (mx a0 (-9223372036854775807)) then ((fix_Mul.f a0 a1).bind fun t154 => ((fix_Mul.f a1 a0).bind fun t155 => (if t154 = t155 then ((analemmalaw02_shown.f k).bind fun t156 => (some t156)) else (some false)))) else (some false))) else (some false))) else (some false)))) else (some false)))) else (some false)))
theorem analemmalaw02_FixBack.mono : ∀ a0 a1 k, LeO (analemmalaw02_FixBack.f k a0 a1) (analemmalaw02_FixBack.f (k + 1) a0 a1) := by
  intro a0 a1 k
  unfold analemmalaw02_FixBack.f
  repeat' first
      | (with_reducible exact analemmalaw02_shown.mono _)
      | (with_reducible exact fix_Add.mono _ _ _)
      | (with_reducible exact fix_Sub.mono _ _ _)
      | (with_reducible exact LeO.refl _)
      | (with_reducible exact LeO.none _)
      | (with_reducible refine LeO.ite ?_ ?_)
      | (with_reducible refine LeO.bind ?_ (fun _ => ?_))
      | exact analemmalaw02_shown.mono _
      | exact fix_Add.mono _ _ _
      | exact fix_Sub.mono _ _ _
      | exact LeO.none _
      | refine LeO.ite ?_ ?_
      | refine LeO.bind ?_ (fun _ => ?_)
set_option maxHeartbeats 8000000 in
set_option maxRecDepth 100000 in
theorem analemmalaw02_FixBack.calls (k : Nat) (a0 : Int) (a1 : Int) (r : Bool) (w : World) (h : analemmalaw02_FixBack.f k a0 a1 = some r) :
    Calls Try.prog 6 #[.int .i64 a0, .int .i64 a1] w fun e w' => e = .returned (.bool r) ∧ Below w.heap.size w w' := by
  have HB := Aside0.mk (Below.refl w.heap.size w)
  have H : ((fix_Add.f k (wrap64 (Int.tdiv a0 4)) (wrap64 (Int.tdiv a1 4))).bind fun t146 => ((fix_Sub.f k t146 (wrap64 (Int.tdiv a1 4))).bind fun t147 => (if t147 = (wrap64 (Int.tdiv a0 4)) then ((fix_Add.f k (wrap64 (Int.tdiv a0 4)) (wrap64 (Int.tdiv a1 4))).bind fun t148 => ((fix_Add.f k (wrap64 (Int.tdiv a1 4)) (wrap64 (Int.tdiv a0 4))).bind fun t149 => (if t148 = t149 then ((fix_Sub.f k 0 (mx a0 (-9223372036854775807))).bind fun t150 => ((fix_Sub.f k 0 t150).bind fun t151 => (if t151 = (mx a0 (-9223372036854775807)) then ((fix_Mul.f (mx a0 (-9223372036854775807)) 4294967296).bind fun t152 => (if t152 = (mx a0 (-9223372036854775807)) then ((fix_Div.f (mx a0 (-9223372036854775807)) 4294967296).bind fun t153 => (if t153 = (mx a0 (-9223372036854775807)) then ((fix_Mul.f a0 a1).bind fun t154 => ((fix_Mul.f a1 a0).bind fun t155 => (if t154 = t155 then ((analemmalaw02_shown.f k).bind fun t156 => (some t156)) else (some false)))) else (some false))) else (some false))) else (some false)))) else (some false)))) else (some false)))) = some r := h
  clear h
  obtain ⟨ji3, hji3⟩ : ∃ j_ : Int, (mx a0 (-9223372036854775807)) = j_ := ⟨_, rfl⟩
  replace H : ((fix_Add.f k (wrap64 (Int.tdiv a0 4)) (wrap64 (Int.tdiv a1 4))).bind fun t146 => ((fix_Sub.f k t146 (wrap64 (Int.tdiv a1 4))).bind fun t147 => (if t147 = (wrap64 (Int.tdiv a0 4)) then ((fix_Add.f k (wrap64 (Int.tdiv a0 4)) (wrap64 (Int.tdiv a1 4))).bind fun t148 => ((fix_Add.f k (wrap64 (Int.tdiv a1 4)) (wrap64 (Int.tdiv a0 4))).bind fun t149 => (if t148 = t149 then ((fix_Sub.f k 0 (ji3)).bind fun t150 => ((fix_Sub.f k 0 t150).bind fun t151 => (if t151 = (ji3) then ((fix_Mul.f (ji3) 4294967296).bind fun t152 => (if t152 = (ji3) then ((fix_Div.f (ji3) 4294967296).bind fun t153 => (if t153 = (ji3) then ((fix_Mul.f a0 a1).bind fun t154 => ((fix_Mul.f a1 a0).bind fun t155 => (if t154 = t155 then ((analemmalaw02_shown.f k).bind fun t156 => (some t156)) else (some false)))) else (some false))) else (some false))) else (some false)))) else (some false)))) else (some false)))) = some r := by first | (rw [hji3] at H; exact H) | (simp only [hji3] at H ⊢; exact H)
  have hji3_ : (if a0 < (-9223372036854775807) then (-9223372036854775807) else a0) = ji3 := hji3
  replace H := Option.bind_eq_some_iff.mp H
  obtain ⟨t146, A40, H⟩ := H
  replace H : ((fix_Sub.f k t146 (wrap64 (Int.tdiv a1 4))).bind fun t147 => (if t147 = (wrap64 (Int.tdiv a0 4)) then ((fix_Add.f k (wrap64 (Int.tdiv a0 4)) (wrap64 (Int.tdiv a1 4))).bind fun t148 => ((fix_Add.f k (wrap64 (Int.tdiv a1 4)) (wrap64 (Int.tdiv a0 4))).bind fun t149 => (if t148 = t149 then ((fix_Sub.f k 0 (ji3)).bind fun t150 => ((fix_Sub.f k 0 t150).bind fun t151 => (if t151 = (ji3) then ((fix_Mul.f (ji3) 4294967296).bind fun t152 => (if t152 = (ji3) then ((fix_Div.f (ji3) 4294967296).bind fun t153 => (if t153 = (ji3) then ((fix_Mul.f a0 a1).bind fun t154 => ((fix_Mul.f a1 a0).bind fun t155 => (if t154 = t155 then ((analemmalaw02_shown.f k).bind fun t156 => (some t156)) else (some false)))) else (some false))) else (some false))) else (some false)))) else (some false)))) else (some false))) = some r := H
  have A4 := Aside0.mk A40
  clear A40
  replace H := Option.bind_eq_some_iff.mp H
  obtain ⟨t147, A50, H⟩ := H
  replace H : (if t147 = (wrap64 (Int.tdiv a0 4)) then ((fix_Add.f k (wrap64 (Int.tdiv a0 4)) (wrap64 (Int.tdiv a1 4))).bind fun t148 => ((fix_Add.f k (wrap64 (Int.tdiv a1 4)) (wrap64 (Int.tdiv a0 4))).bind fun t149 => (if t148 = t149 then ((fix_Sub.f k 0 (ji3)).bind fun t150 => ((fix_Sub.f k 0 t150).bind fun t151 => (if t151 = (ji3) then ((fix_Mul.f (ji3) 4294967296).bind fun t152 => (if t152 = (ji3) then ((fix_Div.f (ji3) 4294967296).bind fun t153 => (if t153 = (ji3) then ((fix_Mul.f a0 a1).bind fun t154 => ((fix_Mul.f a1 a0).bind fun t155 => (if t154 = t155 then ((analemmalaw02_shown.f k).bind fun t156 => (some t156)) else (some false)))) else (some false))) else (some false))) else (some false)))) else (some false)))) else (some false)) = some r := H
  have A5 := Aside0.mk A50
  clear A50
  by_cases c6 : t147 = (wrap64 (Int.tdiv a0 4))
  · rw [if_pos c6] at H
    have c6b0 : (t147 == (wrap64 (Int.tdiv a0 4))) = true := beq_iff_eq.mpr c6
    have c6b1 : (t147 != (wrap64 (Int.tdiv a0 4))) = false := bne_eq_false_iff_eq.mpr c6
    clear c6
    replace H := Option.bind_eq_some_iff.mp H
    obtain ⟨t148, A70, H⟩ := H
    replace H : ((fix_Add.f k (wrap64 (Int.tdiv a1 4)) (wrap64 (Int.tdiv a0 4))).bind fun t149 => (if t148 = t149 then ((fix_Sub.f k 0 (ji3)).bind fun t150 => ((fix_Sub.f k 0 t150).bind fun t151 => (if t151 = (ji3) then ((fix_Mul.f (ji3) 4294967296).bind fun t152 => (if t152 = (ji3) then ((fix_Div.f (ji3) 4294967296).bind fun t153 => (if t153 = (ji3) then ((fix_Mul.f a0 a1).bind fun t154 => ((fix_Mul.f a1 a0).bind fun t155 => (if t154 = t155 then ((analemmalaw02_shown.f k).bind fun t156 => (some t156)) else (some false)))) else (some false))) else (some false))) else (some false)))) else (some false))) = some r := H
    have A7 := Aside0.mk A70
    clear A70
    replace H := Option.bind_eq_some_iff.mp H
    obtain ⟨t149, A80, H⟩ := H
    replace H : (if t148 = t149 then ((fix_Sub.f k 0 (ji3)).bind fun t150 => ((fix_Sub.f k 0 t150).bind fun t151 => (if t151 = (ji3) then ((fix_Mul.f (ji3) 4294967296).bind fun t152 => (if t152 = (ji3) then ((fix_Div.f (ji3) 4294967296).bind fun t153 => (if t153 = (ji3) then ((fix_Mul.f a0 a1).bind fun t154 => ((fix_Mul.f a1 a0).bind fun t155 => (if t154 = t155 then ((analemmalaw02_shown.f k).bind fun t156 => (some t156)) else (some false)))) else (some false))) else (some false))) else (some false)))) else (some false)) = some r := H
    have A8 := Aside0.mk A80
    clear A80
    by_cases c9 : t148 = t149
    · rw [if_pos c9] at H
      have c9b0 : (t148 == t149) = true := beq_iff_eq.mpr c9
      have c9b1 : (t148 != t149) = false := bne_eq_false_iff_eq.mpr c9
      clear c9
      replace H := Option.bind_eq_some_iff.mp H
      obtain ⟨t150, A100, H⟩ := H
      replace H : ((fix_Sub.f k 0 t150).bind fun t151 => (if t151 = (ji3) then ((fix_Mul.f (ji3) 4294967296).bind fun t152 => (if t152 = (ji3) then ((fix_Div.f (ji3) 4294967296).bind fun t153 => (if t153 = (ji3) then ((fix_Mul.f a0 a1).bind fun t154 => ((fix_Mul.f a1 a0).bind fun t155 => (if t154 = t155 then ((analemmalaw02_shown.f k).bind fun t156 => (some t156)) else (some false)))) else (some false))) else (some false))) else (some false))) = some r := H
      have A10 := Aside0.mk A100
      clear A100
      replace H := Option.bind_eq_some_iff.mp H
      obtain ⟨t151, A110, H⟩ := H
      replace H : (if t151 = (ji3) then ((fix_Mul.f (ji3) 4294967296).bind fun t152 => (if t152 = (ji3) then ((fix_Div.f (ji3) 4294967296).bind fun t153 => (if t153 = (ji3) then ((fix_Mul.f a0 a1).bind fun t154 => ((fix_Mul.f a1 a0).bind fun t155 => (if t154 = t155 then ((analemmalaw02_shown.f k).bind fun t156 => (some t156)) else (some false)))) else (some false))) else (some false))) else (some false)) = some r := H
      have A11 := Aside0.mk A110
      clear A110
      by_cases c12 : t151 = (ji3)
      · rw [if_pos c12] at H
        have c12b0 : (t151 == (ji3)) = true := beq_iff_eq.mpr c12
        have c12b1 : (t151 != (ji3)) = false := bne_eq_false_iff_eq.mpr c12
        clear c12
        replace H := Option.bind_eq_some_iff.mp H
        obtain ⟨t152, A130, H⟩ := H
        replace H : (if t152 = (ji3) then ((fix_Div.f (ji3) 4294967296).bind fun t153 => (if t153 = (ji3) then ((fix_Mul.f a0 a1).bind fun t154 => ((fix_Mul.f a1 a0).bind fun t155 => (if t154 = t155 then ((analemmalaw02_shown.f k).bind fun t156 => (some t156)) else (some false)))) else (some false))) else (some false)) = some r := H
        have A13 := Aside0.mk A130
        clear A130
        by_cases c14 : t152 = (ji3)
        · rw [if_pos c14] at H
          have c14b0 : (t152 == (ji3)) = true := beq_iff_eq.mpr c14
          have c14b1 : (t152 != (ji3)) = false := bne_eq_false_iff_eq.mpr c14
          clear c14
          replace H := Option.bind_eq_some_iff.mp H
          obtain ⟨t153, A150, H⟩ := H
          replace H : (if t153 = (ji3) then ((fix_Mul.f a0 a1).bind fun t154 => ((fix_Mul.f a1 a0).bind fun t155 => (if t154 = t155 then ((analemmalaw02_shown.f k).bind fun t156 => (some t156)) else (some false)))) else (some false)) = some r := H
          have A15 := Aside0.mk A150
          clear A150
          by_cases c16 : t153 = (ji3)
          · rw [if_pos c16] at H
            have c16b0 : (t153 == (ji3)) = true := beq_iff_eq.mpr c16
            have c16b1 : (t153 != (ji3)) = false := bne_eq_false_iff_eq.mpr c16
            clear c16
            replace H := Option.bind_eq_some_iff.mp H
            obtain ⟨t154, A170, H⟩ := H
            replace H : ((fix_Mul.f a1 a0).bind fun t155 => (if t154 = t155 then ((analemmalaw02_shown.f k).bind fun t156 => (some t156)) else (some false))) = some r := H
            have A17 := Aside0.mk A170
            clear A170
            replace H := Option.bind_eq_some_iff.mp H
            obtain ⟨t155, A180, H⟩ := H
            replace H : (if t154 = t155 then ((analemmalaw02_shown.f k).bind fun t156 => (some t156)) else (some false)) = some r := H
            have A18 := Aside0.mk A180
            clear A180
            by_cases c19 : t154 = t155
            · rw [if_pos c19] at H
              have c19b0 : (t154 == t155) = true := beq_iff_eq.mpr c19
              have c19b1 : (t154 != t155) = false := bne_eq_false_iff_eq.mpr c19
              clear c19
              replace H := Option.bind_eq_some_iff.mp H
              obtain ⟨t156, A200, H⟩ := H
              replace H : (some t156) = some r := H
              have A20 := Aside0.mk A200
              clear A200
              obtain rfl := Option.some.inj H
              go_enter Try.func6, Try.ntmps6
              go_wp2_with (first | ((with_reducible refine gate_callee (f := 18) rfl ?_); refine goesL_ (some 16) rfl rfl Try.func18 (by kernel_rfl) rfl #[.int .i64 (wrap64 (Int.tdiv a0 4)), .int .i64 (wrap64 (Int.tdiv a1 4))] rfl (by (try simp only [List.map_toArray, List.map_cons, List.map_nil]); first | done | rfl | (simp only [List.length_drop, List.length_take]; rfl)) ?_; (with_reducible refine (fix_Add.calls k (wrap64 (Int.tdiv a0 4)) (wrap64 (Int.tdiv a1 4)) t146 _ A4.out).mono ?_); rintro e w21 ⟨rfl, hb⟩; refine ⟨_, rfl, ?_⟩; have n0_ := Aside0.mk (below_step (by repeat (first | (with_reducible first | exact HB.out | apply below_alloc | apply pw_below_drewN | apply below_drew1) | exact HB.out)) hb); clear HB; have HB := n0_; clear n0_; (try clear hb); (try clear hb2); (try clear hk); (try clear hi)) | ((with_reducible refine gate_callee (f := 17) rfl ?_); refine goesL_ (some 18) rfl rfl Try.func17 (by kernel_rfl) rfl #[.int .i64 t146, .int .i64 (wrap64 (Int.tdiv a1 4))] rfl (by (try simp only [List.map_toArray, List.map_cons, List.map_nil]); first | done | rfl | (simp only [List.length_drop, List.length_take]; rfl)) ?_; (with_reducible refine (fix_Sub.calls k t146 (wrap64 (Int.tdiv a1 4)) t147 _ A5.out).mono ?_); rintro e w22 ⟨rfl, hb⟩; refine ⟨_, rfl, ?_⟩; have n0_ := Aside0.mk (below_step (by repeat (first | (with_reducible first | exact HB.out | apply below_alloc | apply pw_below_drewN | apply below_drew1) | exact HB.out)) hb); clear HB; have HB := n0_; clear n0_; (try clear hb); (try clear hb2); (try clear hk); (try clear hi)) | (go_at_call 18; (with_reducible refine (fix_Add.calls k (wrap64 (Int.tdiv a0 4)) (wrap64 (Int.tdiv a1 4)) t148 _ A7.out).mono ?_); rintro e w23 ⟨rfl, hb⟩; have n0_ := Aside0.mk (below_step (by repeat (first | (with_reducible first | exact HB.out | apply below_alloc | apply pw_below_drewN | apply below_drew1) | exact HB.out)) hb); clear HB; have HB := n0_; clear n0_; (try clear hb); (try clear hb2); (try clear hk); (try clear hi)) | (go_at_call 18; (with_reducible refine (fix_Add.calls k (wrap64 (Int.tdiv a1 4)) (wrap64 (Int.tdiv a0 4)) t149 _ A8.out).mono ?_); rintro e w24 ⟨rfl, hb⟩; have n0_ := Aside0.mk (below_step (by repeat (first | (with_reducible first | exact HB.out | apply below_alloc | apply pw_below_drewN | apply below_drew1) | exact HB.out)) hb); clear HB; have HB := n0_; clear n0_; (try clear hb); (try clear hb2); (try clear hk); (try clear hi)) | (go_at_call 17; (with_reducible refine (fix_Sub.calls k 0 ji3 t150 _ A10.out).mono ?_); rintro e w25 ⟨rfl, hb⟩; have n0_ := Aside0.mk (below_step (by repeat (first | (with_reducible first | exact HB.out | apply below_alloc | apply pw_below_drewN | apply below_drew1) | exact HB.out)) hb); clear HB; have HB := n0_; clear n0_; (try clear hb); (try clear hb2); (try clear hk); (try clear hi)) | (go_at_call 17; (with_reducible refine (fix_Sub.calls k 0 t150 t151 _ A11.out).mono ?_); rintro e w26 ⟨rfl, hb⟩; have n0_ := Aside0.mk (below_step (by repeat (first | (with_reducible first | exact HB.out | apply below_alloc | apply pw_below_drewN | apply below_drew1) | exact HB.out)) hb); clear HB; have HB := n0_; clear n0_; (try clear hb); (try clear hb2); (try clear hk); (try clear hi)) | (go_at_call 13; (with_reducible refine (fix_Mul.calls ji3 4294967296 t152 _ A13.out).mono ?_); rintro e w27 ⟨rfl, hb⟩; have n0_ := Aside0.mk (below_step (by repeat (first | (with_reducible first | exact HB.out | apply below_alloc | apply pw_below_drewN | apply below_drew1) | exact HB.out)) hb); clear HB; have HB := n0_; clear n0_; (try clear hb); (try clear hb2); (try clear hk); (try clear hi)) | (go_at_call 16; (with_reducible refine (fix_Div.calls ji3 4294967296 t153 _ A15.out).mono ?_); rintro e w28 ⟨rfl, hb⟩; have n0_ := Aside0.mk (below_step (by repeat (first | (with_reducible first | exact HB.out | apply below_alloc | apply pw_below_drewN | apply below_drew1) | exact HB.out)) hb); clear HB; have HB := n0_; clear n0_; (try clear hb); (try clear hb2); (try clear hk); (try clear hi)) | (go_at_call 13; (with_reducible refine (fix_Mul.calls a0 a1 t154 _ A17.out).mono ?_); rintro e w29 ⟨rfl, hb⟩; have n0_ := Aside0.mk (below_step (by repeat (first | (with_reducible first | exact HB.out | apply below_alloc | apply pw_below_drewN | apply below_drew1) | exact HB.out)) hb); clear HB; have HB := n0_; clear n0_; (try clear hb); (try clear hb2); (try clear hk); (try clear hi)) | (go_at_call 13; (with_reducible refine (fix_Mul.calls a1 a0 t155 _ A18.out).mono ?_); rintro e w30 ⟨rfl, hb⟩; have n0_ := Aside0.mk (below_step (by repeat (first | (with_reducible first | exact HB.out | apply below_alloc | apply pw_below_drewN | apply below_drew1) | exact HB.out)) hb); clear HB; have HB := n0_; clear n0_; (try clear hb); (try clear hb2); (try clear hk); (try clear hi)) | (go_at_call 14; (with_reducible refine (analemmalaw02_shown.calls k  t156 _ A20.out).mono ?_); rintro e w31 ⟨rfl, hb⟩; have n0_ := Aside0.mk (below_step (by repeat (first | (with_reducible first | exact HB.out | apply below_alloc | apply pw_below_drewN | apply below_drew1) | exact HB.out)) hb); clear HB; have HB := n0_; clear n0_; (try clear hb); (try clear hb2); (try clear hk); (try clear hi)))
              go_ret
              exact ⟨by first | rfl | (simp [errW_none, errW_some] <;> rfl) | (simp only [← hji3]; first | rfl | (simp [errW_none, errW_some] <;> rfl)) | (simp [*, errW_none, errW_some] <;> rfl), by repeat (first | (with_reducible first | exact HB.out | apply below_alloc | apply pw_below_drewN | apply below_drew1) | exact HB.out)⟩
            · rw [if_neg c19] at H
              have c19b0 : (t154 == t155) = false := beq_eq_false_iff_ne.mpr c19
              have c19b1 : (t154 != t155) = true := bne_iff_ne.mpr c19
              obtain rfl := Option.some.inj H
              go_enter Try.func6, Try.ntmps6
              go_wp2_with (first | ((with_reducible refine gate_callee (f := 18) rfl ?_); refine goesL_ (some 16) rfl rfl Try.func18 (by kernel_rfl) rfl #[.int .i64 (wrap64 (Int.tdiv a0 4)), .int .i64 (wrap64 (Int.tdiv a1 4))] rfl (by (try simp only [List.map_toArray, List.map_cons, List.map_nil]); first | done | rfl | (simp only [List.length_drop, List.length_take]; rfl)) ?_; (with_reducible refine (fix_Add.calls k (wrap64 (Int.tdiv a0 4)) (wrap64 (Int.tdiv a1 4)) t146 _ A4.out).mono ?_); rintro e w32 ⟨rfl, hb⟩; refine ⟨_, rfl, ?_⟩; have n0_ := Aside0.mk (below_step (by repeat (first | (with_reducible first | exact HB.out | apply below_alloc | apply pw_below_drewN | apply below_drew1) | exact HB.out)) hb); clear HB; have HB := n0_; clear n0_; (try clear hb); (try clear hb2); (try clear hk); (try clear hi)) | ((with_reducible refine gate_callee (f := 17) rfl ?_); refine goesL_ (some 18) rfl rfl Try.func17 (by kernel_rfl) rfl #[.int .i64 t146, .int .i64 (wrap64 (Int.tdiv a1 4))] rfl (by (try simp only [List.map_toArray, List.map_cons, List.map_nil]); first | done | rfl | (simp only [List.length_drop, List.length_take]; rfl)) ?_; (with_reducible refine (fix_Sub.calls k t146 (wrap64 (Int.tdiv a1 4)) t147 _ A5.out).mono ?_); rintro e w33 ⟨rfl, hb⟩; refine ⟨_, rfl, ?_⟩; have n0_ := Aside0.mk (below_step (by repeat (first | (with_reducible first | exact HB.out | apply below_alloc | apply pw_below_drewN | apply below_drew1) | exact HB.out)) hb); clear HB; have HB := n0_; clear n0_; (try clear hb); (try clear hb2); (try clear hk); (try clear hi)) | (go_at_call 18; (with_reducible refine (fix_Add.calls k (wrap64 (Int.tdiv a0 4)) (wrap64 (Int.tdiv a1 4)) t148 _ A7.out).mono ?_); rintro e w34 ⟨rfl, hb⟩; have n0_ := Aside0.mk (below_step (by repeat (first | (with_reducible first | exact HB.out | apply below_alloc | apply pw_below_drewN | apply below_drew1) | exact HB.out)) hb); clear HB; have HB := n0_; clear n0_; (try clear hb); (try clear hb2); (try clear hk); (try clear hi)) | (go_at_call 18; (with_reducible refine (fix_Add.calls k (wrap64 (Int.tdiv a1 4)) (wrap64 (Int.tdiv a0 4)) t149 _ A8.out).mono ?_); rintro e w35 ⟨rfl, hb⟩; have n0_ := Aside0.mk (below_step (by repeat (first | (with_reducible first | exact HB.out | apply below_alloc | apply pw_below_drewN | apply below_drew1) | exact HB.out)) hb); clear HB; have HB := n0_; clear n0_; (try clear hb); (try clear hb2); (try clear hk); (try clear hi)) | (go_at_call 17; (with_reducible refine (fix_Sub.calls k 0 ji3 t150 _ A10.out).mono ?_); rintro e w36 ⟨rfl, hb⟩; have n0_ := Aside0.mk (below_step (by repeat (first | (with_reducible first | exact HB.out | apply below_alloc | apply pw_below_drewN | apply below_drew1) | exact HB.out)) hb); clear HB; have HB := n0_; clear n0_; (try clear hb); (try clear hb2); (try clear hk); (try clear hi)) | (go_at_call 17; (with_reducible refine (fix_Sub.calls k 0 t150 t151 _ A11.out).mono ?_); rintro e w37 ⟨rfl, hb⟩; have n0_ := Aside0.mk (below_step (by repeat (first | (with_reducible first | exact HB.out | apply below_alloc | apply pw_below_drewN | apply below_drew1) | exact HB.out)) hb); clear HB; have HB := n0_; clear n0_; (try clear hb); (try clear hb2); (try clear hk); (try clear hi)) | (go_at_call 13; (with_reducible refine (fix_Mul.calls ji3 4294967296 t152 _ A13.out).mono ?_); rintro e w38 ⟨rfl, hb⟩; have n0_ := Aside0.mk (below_step (by repeat (first | (with_reducible first | exact HB.out | apply below_alloc | apply pw_below_drewN | apply below_drew1) | exact HB.out)) hb); clear HB; have HB := n0_; clear n0_; (try clear hb); (try clear hb2); (try clear hk); (try clear hi)) | (go_at_call 16; (with_reducible refine (fix_Div.calls ji3 4294967296 t153 _ A15.out).mono ?_); rintro e w39 ⟨rfl, hb⟩; have n0_ := Aside0.mk (below_step (by repeat (first | (with_reducible first | exact HB.out | apply below_alloc | apply pw_below_drewN | apply below_drew1) | exact HB.out)) hb); clear HB; have HB := n0_; clear n0_; (try clear hb); (try clear hb2); (try clear hk); (try clear hi)) | (go_at_call 13; (with_reducible refine (fix_Mul.calls a0 a1 t154 _ A17.out).mono ?_); rintro e w40 ⟨rfl, hb⟩; have n0_ := Aside0.mk (below_step (by repeat (first | (with_reducible first | exact HB.out | apply below_alloc | apply pw_below_drewN | apply below_drew1) | exact HB.out)) hb); clear HB; have HB := n0_; clear n0_; (try clear hb); (try clear hb2); (try clear hk); (try clear hi)) | (go_at_call 13; (with_reducible refine (fix_Mul.calls a1 a0 t155 _ A18.out).mono ?_); rintro e w41 ⟨rfl, hb⟩; have n0_ := Aside0.mk (below_step (by repeat (first | (with_reducible first | exact HB.out | apply below_alloc | apply pw_below_drewN | apply below_drew1) | exact HB.out)) hb); clear HB; have HB := n0_; clear n0_; (try clear hb); (try clear hb2); (try clear hk); (try clear hi)))
              go_ret
              exact ⟨by first | rfl | (simp [errW_none, errW_some] <;> rfl) | (simp only [← hji3]; first | rfl | (simp [errW_none, errW_some] <;> rfl)) | (simp [*, errW_none, errW_some] <;> rfl), by repeat (first | (with_reducible first | exact HB.out | apply below_alloc | apply pw_below_drewN | apply below_drew1) | exact HB.out)⟩
          · rw [if_neg c16] at H
            have c16b0 : (t153 == (ji3)) = false := beq_eq_false_iff_ne.mpr c16
            have c16b1 : (t153 != (ji3)) = true := bne_iff_ne.mpr c16
            obtain rfl := Option.some.inj H
            go_enter Try.func6, Try.ntmps6
            go_wp2_with (first | ((with_reducible refine gate_callee (f := 18) rfl ?_); refine goesL_ (some 16) rfl rfl Try.func18 (by kernel_rfl) rfl #[.int .i64 (wrap64 (Int.tdiv a0 4)), .int .i64 (wrap64 (Int.tdiv a1 4))] rfl (by (try simp only [List.map_toArray, List.map_cons, List.map_nil]); first | done | rfl | (simp only [List.length_drop, List.length_take]; rfl)) ?_; (with_reducible refine (fix_Add.calls k (wrap64 (Int.tdiv a0 4)) (wrap64 (Int.tdiv a1 4)) t146 _ A4.out).mono ?_); rintro e w42 ⟨rfl, hb⟩; refine ⟨_, rfl, ?_⟩; have n0_ := Aside0.mk (below_step (by repeat (first | (with_reducible first | exact HB.out | apply below_alloc | apply pw_below_drewN | apply below_drew1) | exact HB.out)) hb); clear HB; have HB := n0_; clear n0_; (try clear hb); (try clear hb2); (try clear hk); (try clear hi)) | ((with_reducible refine gate_callee (f := 17) rfl ?_); refine goesL_ (some 18) rfl rfl Try.func17 (by kernel_rfl) rfl #[.int .i64 t146, .int .i64 (wrap64 (Int.tdiv a1 4))] rfl (by (try simp only [List.map_toArray, List.map_cons, List.map_nil]); first | done | rfl | (simp only [List.length_drop, List.length_take]; rfl)) ?_; (with_reducible refine (fix_Sub.calls k t146 (wrap64 (Int.tdiv a1 4)) t147 _ A5.out).mono ?_); rintro e w43 ⟨rfl, hb⟩; refine ⟨_, rfl, ?_⟩; have n0_ := Aside0.mk (below_step (by repeat (first | (with_reducible first | exact HB.out | apply below_alloc | apply pw_below_drewN | apply below_drew1) | exact HB.out)) hb); clear HB; have HB := n0_; clear n0_; (try clear hb); (try clear hb2); (try clear hk); (try clear hi)) | (go_at_call 18; (with_reducible refine (fix_Add.calls k (wrap64 (Int.tdiv a0 4)) (wrap64 (Int.tdiv a1 4)) t148 _ A7.out).mono ?_); rintro e w44 ⟨rfl, hb⟩; have n0_ := Aside0.mk (below_step (by repeat (first | (with_reducible first | exact HB.out | apply below_alloc | apply pw_below_drewN | apply below_drew1) | exact HB.out)) hb); clear HB; have HB := n0_; clear n0_; (try clear hb); (try clear hb2); (try clear hk); (try clear hi)) | (go_at_call 18; (with_reducible refine (fix_Add.calls k (wrap64 (Int.tdiv a1 4)) (wrap64 (Int.tdiv a0 4)) t149 _ A8.out).mono ?_); rintro e w45 ⟨rfl, hb⟩; have n0_ := Aside0.mk (below_step (by repeat (first | (with_reducible first | exact HB.out | apply below_alloc | apply pw_below_drewN | apply below_drew1) | exact HB.out)) hb); clear HB; have HB := n0_; clear n0_; (try clear hb); (try clear hb2); (try clear hk); (try clear hi)) | (go_at_call 17; (with_reducible refine (fix_Sub.calls k 0 ji3 t150 _ A10.out).mono ?_); rintro e w46 ⟨rfl, hb⟩; have n0_ := Aside0.mk (below_step (by repeat (first | (with_reducible first | exact HB.out | apply below_alloc | apply pw_below_drewN | apply below_drew1) | exact HB.out)) hb); clear HB; have HB := n0_; clear n0_; (try clear hb); (try clear hb2); (try clear hk); (try clear hi)) | (go_at_call 17; (with_reducible refine (fix_Sub.calls k 0 t150 t151 _ A11.out).mono ?_); rintro e w47 ⟨rfl, hb⟩; have n0_ := Aside0.mk (below_step (by repeat (first | (with_reducible first | exact HB.out | apply below_alloc | apply pw_below_drewN | apply below_drew1) | exact HB.out)) hb); clear HB; have HB := n0_; clear n0_; (try clear hb); (try clear hb2); (try clear hk); (try clear hi)) | (go_at_call 13; (with_reducible refine (fix_Mul.calls ji3 4294967296 t152 _ A13.out).mono ?_); rintro e w48 ⟨rfl, hb⟩; have n0_ := Aside0.mk (below_step (by repeat (first | (with_reducible first | exact HB.out | apply below_alloc | apply pw_below_drewN | apply below_drew1) | exact HB.out)) hb); clear HB; have HB := n0_; clear n0_; (try clear hb); (try clear hb2); (try clear hk); (try clear hi)) | (go_at_call 16; (with_reducible refine (fix_Div.calls ji3 4294967296 t153 _ A15.out).mono ?_); rintro e w49 ⟨rfl, hb⟩; have n0_ := Aside0.mk (below_step (by repeat (first | (with_reducible first | exact HB.out | apply below_alloc | apply pw_below_drewN | apply below_drew1) | exact HB.out)) hb); clear HB; have HB := n0_; clear n0_; (try clear hb); (try clear hb2); (try clear hk); (try clear hi)))
            go_ret
            exact ⟨by first | rfl | (simp [errW_none, errW_some] <;> rfl) | (simp only [← hji3]; first | rfl | (simp [errW_none, errW_some] <;> rfl)) | (simp [*, errW_none, errW_some] <;> rfl), by repeat (first | (with_reducible first | exact HB.out | apply below_alloc | apply pw_below_drewN | apply below_drew1) | exact HB.out)⟩
        · rw [if_neg c14] at H
          have c14b0 : (t152 == (ji3)) = false := beq_eq_false_iff_ne.mpr c14
          have c14b1 : (t152 != (ji3)) = true := bne_iff_ne.mpr c14
          obtain rfl := Option.some.inj H
          go_enter Try.func6, Try.ntmps6
          go_wp2_with (first | ((with_reducible refine gate_callee (f := 18) rfl ?_); refine goesL_ (some 16) rfl rfl Try.func18 (by kernel_rfl) rfl #[.int .i64 (wrap64 (Int.tdiv a0 4)), .int .i64 (wrap64 (Int.tdiv a1 4))] rfl (by (try simp only [List.map_toArray, List.map_cons, List.map_nil]); first | done | rfl | (simp only [List.length_drop, List.length_take]; rfl)) ?_; (with_reducible refine (fix_Add.calls k (wrap64 (Int.tdiv a0 4)) (wrap64 (Int.tdiv a1 4)) t146 _ A4.out).mono ?_); rintro e w50 ⟨rfl, hb⟩; refine ⟨_, rfl, ?_⟩; have n0_ := Aside0.mk (below_step (by repeat (first | (with_reducible first | exact HB.out | apply below_alloc | apply pw_below_drewN | apply below_drew1) | exact HB.out)) hb); clear HB; have HB := n0_; clear n0_; (try clear hb); (try clear hb2); (try clear hk); (try clear hi)) | ((with_reducible refine gate_callee (f := 17) rfl ?_); refine goesL_ (some 18) rfl rfl Try.func17 (by kernel_rfl) rfl #[.int .i64 t146, .int .i64 (wrap64 (Int.tdiv a1 4))] rfl (by (try simp only [List.map_toArray, List.map_cons, List.map_nil]); first | done | rfl | (simp only [List.length_drop, List.length_take]; rfl)) ?_; (with_reducible refine (fix_Sub.calls k t146 (wrap64 (Int.tdiv a1 4)) t147 _ A5.out).mono ?_); rintro e w51 ⟨rfl, hb⟩; refine ⟨_, rfl, ?_⟩; have n0_ := Aside0.mk (below_step (by repeat (first | (with_reducible first | exact HB.out | apply below_alloc | apply pw_below_drewN | apply below_drew1) | exact HB.out)) hb); clear HB; have HB := n0_; clear n0_; (try clear hb); (try clear hb2); (try clear hk); (try clear hi)) | (go_at_call 18; (with_reducible refine (fix_Add.calls k (wrap64 (Int.tdiv a0 4)) (wrap64 (Int.tdiv a1 4)) t148 _ A7.out).mono ?_); rintro e w52 ⟨rfl, hb⟩; have n0_ := Aside0.mk (below_step (by repeat (first | (with_reducible first | exact HB.out | apply below_alloc | apply pw_below_drewN | apply below_drew1) | exact HB.out)) hb); clear HB; have HB := n0_; clear n0_; (try clear hb); (try clear hb2); (try clear hk); (try clear hi)) | (go_at_call 18; (with_reducible refine (fix_Add.calls k (wrap64 (Int.tdiv a1 4)) (wrap64 (Int.tdiv a0 4)) t149 _ A8.out).mono ?_); rintro e w53 ⟨rfl, hb⟩; have n0_ := Aside0.mk (below_step (by repeat (first | (with_reducible first | exact HB.out | apply below_alloc | apply pw_below_drewN | apply below_drew1) | exact HB.out)) hb); clear HB; have HB := n0_; clear n0_; (try clear hb); (try clear hb2); (try clear hk); (try clear hi)) | (go_at_call 17; (with_reducible refine (fix_Sub.calls k 0 ji3 t150 _ A10.out).mono ?_); rintro e w54 ⟨rfl, hb⟩; have n0_ := Aside0.mk (below_step (by repeat (first | (with_reducible first | exact HB.out | apply below_alloc | apply pw_below_drewN | apply below_drew1) | exact HB.out)) hb); clear HB; have HB := n0_; clear n0_; (try clear hb); (try clear hb2); (try clear hk); (try clear hi)) | (go_at_call 17; (with_reducible refine (fix_Sub.calls k 0 t150 t151 _ A11.out).mono ?_); rintro e w55 ⟨rfl, hb⟩; have n0_ := Aside0.mk (below_step (by repeat (first | (with_reducible first | exact HB.out | apply below_alloc | apply pw_below_drewN | apply below_drew1) | exact HB.out)) hb); clear HB; have HB := n0_; clear n0_; (try clear hb); (try clear hb2); (try clear hk); (try clear hi)) | (go_at_call 13; (with_reducible refine (fix_Mul.calls ji3 4294967296 t152 _ A13.out).mono ?_); rintro e w56 ⟨rfl, hb⟩; have n0_ := Aside0.mk (below_step (by repeat (first | (with_reducible first | exact HB.out | apply below_alloc | apply pw_below_drewN | apply below_drew1) | exact HB.out)) hb); clear HB; have HB := n0_; clear n0_; (try clear hb); (try clear hb2); (try clear hk); (try clear hi)))
          go_ret
          exact ⟨by first | rfl | (simp [errW_none, errW_some] <;> rfl) | (simp only [← hji3]; first | rfl | (simp [errW_none, errW_some] <;> rfl)) | (simp [*, errW_none, errW_some] <;> rfl), by repeat (first | (with_reducible first | exact HB.out | apply below_alloc | apply pw_below_drewN | apply below_drew1) | exact HB.out)⟩
      · rw [if_neg c12] at H
        have c12b0 : (t151 == (ji3)) = false := beq_eq_false_iff_ne.mpr c12
        have c12b1 : (t151 != (ji3)) = true := bne_iff_ne.mpr c12
        obtain rfl := Option.some.inj H
        go_enter Try.func6, Try.ntmps6
        go_wp2_with (first | ((with_reducible refine gate_callee (f := 18) rfl ?_); refine goesL_ (some 16) rfl rfl Try.func18 (by kernel_rfl) rfl #[.int .i64 (wrap64 (Int.tdiv a0 4)), .int .i64 (wrap64 (Int.tdiv a1 4))] rfl (by (try simp only [List.map_toArray, List.map_cons, List.map_nil]); first | done | rfl | (simp only [List.length_drop, List.length_take]; rfl)) ?_; (with_reducible refine (fix_Add.calls k (wrap64 (Int.tdiv a0 4)) (wrap64 (Int.tdiv a1 4)) t146 _ A4.out).mono ?_); rintro e w57 ⟨rfl, hb⟩; refine ⟨_, rfl, ?_⟩; have n0_ := Aside0.mk (below_step (by repeat (first | (with_reducible first | exact HB.out | apply below_alloc | apply pw_below_drewN | apply below_drew1) | exact HB.out)) hb); clear HB; have HB := n0_; clear n0_; (try clear hb); (try clear hb2); (try clear hk); (try clear hi)) | ((with_reducible refine gate_callee (f := 17) rfl ?_); refine goesL_ (some 18) rfl rfl Try.func17 (by kernel_rfl) rfl #[.int .i64 t146, .int .i64 (wrap64 (Int.tdiv a1 4))] rfl (by (try simp only [List.map_toArray, List.map_cons, List.map_nil]); first | done | rfl | (simp only [List.length_drop, List.length_take]; rfl)) ?_; (with_reducible refine (fix_Sub.calls k t146 (wrap64 (Int.tdiv a1 4)) t147 _ A5.out).mono ?_); rintro e w58 ⟨rfl, hb⟩; refine ⟨_, rfl, ?_⟩; have n0_ := Aside0.mk (below_step (by repeat (first | (with_reducible first | exact HB.out | apply below_alloc | apply pw_below_drewN | apply below_drew1) | exact HB.out)) hb); clear HB; have HB := n0_; clear n0_; (try clear hb); (try clear hb2); (try clear hk); (try clear hi)) | (go_at_call 18; (with_reducible refine (fix_Add.calls k (wrap64 (Int.tdiv a0 4)) (wrap64 (Int.tdiv a1 4)) t148 _ A7.out).mono ?_); rintro e w59 ⟨rfl, hb⟩; have n0_ := Aside0.mk (below_step (by repeat (first | (with_reducible first | exact HB.out | apply below_alloc | apply pw_below_drewN | apply below_drew1) | exact HB.out)) hb); clear HB; have HB := n0_; clear n0_; (try clear hb); (try clear hb2); (try clear hk); (try clear hi)) | (go_at_call 18; (with_reducible refine (fix_Add.calls k (wrap64 (Int.tdiv a1 4)) (wrap64 (Int.tdiv a0 4)) t149 _ A8.out).mono ?_); rintro e w60 ⟨rfl, hb⟩; have n0_ := Aside0.mk (below_step (by repeat (first | (with_reducible first | exact HB.out | apply below_alloc | apply pw_below_drewN | apply below_drew1) | exact HB.out)) hb); clear HB; have HB := n0_; clear n0_; (try clear hb); (try clear hb2); (try clear hk); (try clear hi)) | (go_at_call 17; (with_reducible refine (fix_Sub.calls k 0 ji3 t150 _ A10.out).mono ?_); rintro e w61 ⟨rfl, hb⟩; have n0_ := Aside0.mk (below_step (by repeat (first | (with_reducible first | exact HB.out | apply below_alloc | apply pw_below_drewN | apply below_drew1) | exact HB.out)) hb); clear HB; have HB := n0_; clear n0_; (try clear hb); (try clear hb2); (try clear hk); (try clear hi)) | (go_at_call 17; (with_reducible refine (fix_Sub.calls k 0 t150 t151 _ A11.out).mono ?_); rintro e w62 ⟨rfl, hb⟩; have n0_ := Aside0.mk (below_step (by repeat (first | (with_reducible first | exact HB.out | apply below_alloc | apply pw_below_drewN | apply below_drew1) | exact HB.out)) hb); clear HB; have HB := n0_; clear n0_; (try clear hb); (try clear hb2); (try clear hk); (try clear hi)))
        go_ret
        exact ⟨by first | rfl | (simp [errW_none, errW_some] <;> rfl) | (simp only [← hji3]; first | rfl | (simp [errW_none, errW_some] <;> rfl)) | (simp [*, errW_none, errW_some] <;> rfl), by repeat (first | (with_reducible first | exact HB.out | apply below_alloc | apply pw_below_drewN | apply below_drew1) | exact HB.out)⟩
    · rw [if_neg c9] at H
      have c9b0 : (t148 == t149) = false := beq_eq_false_iff_ne.mpr c9
      have c9b1 : (t148 != t149) = true := bne_iff_ne.mpr c9
      obtain rfl := Option.some.inj H
      go_enter Try.func6, Try.ntmps6
      go_wp2_with (first | ((with_reducible refine gate_callee (f := 18) rfl ?_); refine goesL_ (some 16) rfl rfl Try.func18 (by kernel_rfl) rfl #[.int .i64 (wrap64 (Int.tdiv a0 4)), .int .i64 (wrap64 (Int.tdiv a1 4))] rfl (by (try simp only [List.map_toArray, List.map_cons, List.map_nil]); first | done | rfl | (simp only [List.length_drop, List.length_take]; rfl)) ?_; (with_reducible refine (fix_Add.calls k (wrap64 (Int.tdiv a0 4)) (wrap64 (Int.tdiv a1 4)) t146 _ A4.out).mono ?_); rintro e w63 ⟨rfl, hb⟩; refine ⟨_, rfl, ?_⟩; have n0_ := Aside0.mk (below_step (by repeat (first | (with_reducible first | exact HB.out | apply below_alloc | apply pw_below_drewN | apply below_drew1) | exact HB.out)) hb); clear HB; have HB := n0_; clear n0_; (try clear hb); (try clear hb2); (try clear hk); (try clear hi)) | ((with_reducible refine gate_callee (f := 17) rfl ?_); refine goesL_ (some 18) rfl rfl Try.func17 (by kernel_rfl) rfl #[.int .i64 t146, .int .i64 (wrap64 (Int.tdiv a1 4))] rfl (by (try simp only [List.map_toArray, List.map_cons, List.map_nil]); first | done | rfl | (simp only [List.length_drop, List.length_take]; rfl)) ?_; (with_reducible refine (fix_Sub.calls k t146 (wrap64 (Int.tdiv a1 4)) t147 _ A5.out).mono ?_); rintro e w64 ⟨rfl, hb⟩; refine ⟨_, rfl, ?_⟩; have n0_ := Aside0.mk (below_step (by repeat (first | (with_reducible first | exact HB.out | apply below_alloc | apply pw_below_drewN | apply below_drew1) | exact HB.out)) hb); clear HB; have HB := n0_; clear n0_; (try clear hb); (try clear hb2); (try clear hk); (try clear hi)) | (go_at_call 18; (with_reducible refine (fix_Add.calls k (wrap64 (Int.tdiv a0 4)) (wrap64 (Int.tdiv a1 4)) t148 _ A7.out).mono ?_); rintro e w65 ⟨rfl, hb⟩; have n0_ := Aside0.mk (below_step (by repeat (first | (with_reducible first | exact HB.out | apply below_alloc | apply pw_below_drewN | apply below_drew1) | exact HB.out)) hb); clear HB; have HB := n0_; clear n0_; (try clear hb); (try clear hb2); (try clear hk); (try clear hi)) | (go_at_call 18; (with_reducible refine (fix_Add.calls k (wrap64 (Int.tdiv a1 4)) (wrap64 (Int.tdiv a0 4)) t149 _ A8.out).mono ?_); rintro e w66 ⟨rfl, hb⟩; have n0_ := Aside0.mk (below_step (by repeat (first | (with_reducible first | exact HB.out | apply below_alloc | apply pw_below_drewN | apply below_drew1) | exact HB.out)) hb); clear HB; have HB := n0_; clear n0_; (try clear hb); (try clear hb2); (try clear hk); (try clear hi)))
      go_ret
      exact ⟨by first | rfl | (simp [errW_none, errW_some] <;> rfl) | (simp only [← hji3]; first | rfl | (simp [errW_none, errW_some] <;> rfl)) | (simp [*, errW_none, errW_some] <;> rfl), by repeat (first | (with_reducible first | exact HB.out | apply below_alloc | apply pw_below_drewN | apply below_drew1) | exact HB.out)⟩
  · rw [if_neg c6] at H
    have c6b0 : (t147 == (wrap64 (Int.tdiv a0 4))) = false := beq_eq_false_iff_ne.mpr c6
    have c6b1 : (t147 != (wrap64 (Int.tdiv a0 4))) = true := bne_iff_ne.mpr c6
    obtain rfl := Option.some.inj H
    go_enter Try.func6, Try.ntmps6
    go_wp2_with (first | ((with_reducible refine gate_callee (f := 18) rfl ?_); refine goesL_ (some 16) rfl rfl Try.func18 (by kernel_rfl) rfl #[.int .i64 (wrap64 (Int.tdiv a0 4)), .int .i64 (wrap64 (Int.tdiv a1 4))] rfl (by (try simp only [List.map_toArray, List.map_cons, List.map_nil]); first | done | rfl | (simp only [List.length_drop, List.length_take]; rfl)) ?_; (with_reducible refine (fix_Add.calls k (wrap64 (Int.tdiv a0 4)) (wrap64 (Int.tdiv a1 4)) t146 _ A4.out).mono ?_); rintro e w67 ⟨rfl, hb⟩; refine ⟨_, rfl, ?_⟩; have n0_ := Aside0.mk (below_step (by repeat (first | (with_reducible first | exact HB.out | apply below_alloc | apply pw_below_drewN | apply below_drew1) | exact HB.out)) hb); clear HB; have HB := n0_; clear n0_; (try clear hb); (try clear hb2); (try clear hk); (try clear hi)) | ((with_reducible refine gate_callee (f := 17) rfl ?_); refine goesL_ (some 18) rfl rfl Try.func17 (by kernel_rfl) rfl #[.int .i64 t146, .int .i64 (wrap64 (Int.tdiv a1 4))] rfl (by (try simp only [List.map_toArray, List.map_cons, List.map_nil]); first | done | rfl | (simp only [List.length_drop, List.length_take]; rfl)) ?_; (with_reducible refine (fix_Sub.calls k t146 (wrap64 (Int.tdiv a1 4)) t147 _ A5.out).mono ?_); rintro e w68 ⟨rfl, hb⟩; refine ⟨_, rfl, ?_⟩; have n0_ := Aside0.mk (below_step (by repeat (first | (with_reducible first | exact HB.out | apply below_alloc | apply pw_below_drewN | apply below_drew1) | exact HB.out)) hb); clear HB; have HB := n0_; clear n0_; (try clear hb); (try clear hb2); (try clear hk); (try clear hi)))
    go_ret
    exact ⟨by first | rfl | (simp [errW_none, errW_some] <;> rfl) | (simp only [← hji3]; first | rfl | (simp [errW_none, errW_some] <;> rfl)) | (simp [*, errW_none, errW_some] <;> rfl), by repeat (first | (with_reducible first | exact HB.out | apply below_alloc | apply pw_below_drewN | apply below_drew1) | exact HB.out)⟩

/-- THE ONE PURE STATEMENT of analemmalaw02_FixBack: yours. -/
def analemmalaw02_FixBack.Pure : Prop := ∀ (a0 : Int) (a1 : Int), (Lit.int .i64 a0).wf = true → (Lit.int .i64 a1).wf = true → ∃ k, analemmalaw02_FixBack.f k a0 a1 = some true
theorem analemmalaw02_FixBack.walk (P : analemmalaw02_FixBack.Pure) (a0 : Int) (a1 : Int) (w : World) (w0 : (Lit.int .i64 a0).wf = true) (w1 : (Lit.int .i64 a1).wf = true) :
    Calls Try.prog 6 #[.int .i64 a0, .int .i64 a1] w fun e w' => e = .returned (.bool true) ∧ Below w.heap.size w w' := by
  obtain ⟨k, h⟩ := P a0 a1 w0 w1
  refine (analemmalaw02_FixBack.calls k a0 a1 true w h).mono ?_
  rintro e w' ⟨rfl, hd⟩
  exact ⟨rfl, hd⟩

/-! ### fix_Log: function 19 -/
def fix_Log.f (a0 : Int) : Option (Int) := (wide_Log.f (IntKind.u64.wrap (mx a0 0))).bind fun t157 => (some (wrap64 (t157 - 32)))
set_option maxHeartbeats 8000000 in
set_option maxRecDepth 100000 in
theorem fix_Log.calls (a0 : Int) (r : Int) (w : World) (h : fix_Log.f a0 = some r) :
    Calls Try.prog 19 #[.int .i64 a0] w fun e w' => e = .returned (.int .i64 r) ∧ Below w.heap.size w w' := by
  have HB := Aside0.mk (Below.refl w.heap.size w)
  have H : ((wide_Log.f (IntKind.u64.wrap (mx a0 0))).bind fun t157 => (some (wrap64 (t157 - 32)))) = some r := h
  clear h
  obtain ⟨ji2, hji2⟩ : ∃ j_ : Int, (mx a0 0) = j_ := ⟨_, rfl⟩
  replace H : ((wide_Log.f (IntKind.u64.wrap (ji2))).bind fun t157 => (some (wrap64 (t157 - 32)))) = some r := by first | (rw [hji2] at H; exact H) | (simp only [hji2] at H ⊢; exact H)
  (try (have hji2l : 0 ≤ ji2 := by (rw [← hji2]; unfold mx; (repeat' split) <;> omega)))
  (try (have hji2m : 0 ≤ ji2 := by omega))
  have hji2_ : (if a0 < 0 then 0 else a0) = ji2 := hji2
  replace H := Option.bind_eq_some_iff.mp H
  obtain ⟨t157, A30, H⟩ := H
  replace H : (some (wrap64 (t157 - 32))) = some r := H
  have A3 := Aside0.mk A30
  clear A30
  obtain rfl := Option.some.inj H
  go_enter Try.func19, Try.ntmps19
  go_wp2_with (first | ((with_reducible refine gate_callee (f := 41) rfl ?_); refine goesL_ (some 6) rfl rfl Try.func41 (by kernel_rfl) rfl #[.int .u64 (IntKind.u64.wrap (ji2))] rfl (by (try simp only [List.map_toArray, List.map_cons, List.map_nil]); first | done | (simp only [hji2]; rfl) | rfl | (simp only [List.length_drop, List.length_take]; rfl)) ?_; (with_reducible refine (wide_Log.calls (IntKind.u64.wrap (ji2)) t157 _ A3.out).mono ?_); rintro e w' ⟨rfl, ⟨nd, rfl⟩⟩; refine ⟨_, rfl, ?_⟩))
  go_ret
  exact ⟨by first | rfl | (simp [errW_none, errW_some] <;> rfl) | (simp only [← hji2]; first | rfl | (simp [errW_none, errW_some] <;> rfl)) | (simp [*, errW_none, errW_some] <;> rfl), by repeat (first | (with_reducible first | exact HB.out | apply below_alloc | apply pw_below_drewN | apply below_drew1) | exact HB.out)⟩

/-! ### analemmalaw02_FixRises: function 7 -/
def analemmalaw02_FixRises.j0 : Nat → Int → Int → Int → Bool → Option (Bool)
  | 0, _, _, _, _ => none
  | k + 1, x2, x9, x10, x59 => if x59 = true then (some false) else (if x2 ≤ 0 then (some true) else ((fix_Mul.f x9 x2).bind fun t169 => ((fix_Mul.f x10 x2).bind fun t170 => (if t169 ≤ t170 then ((fix_Div.f x9 x2).bind fun t171 => ((fix_Div.f x10 x2).bind fun t172 => (some (decide (t171 ≤ t172))))) else (some false)))))
def analemmalaw02_FixRises.f (k : Nat) (a0 : Int) (a1 : Int) (a2 : Int) (a3 : Int) : Option (Bool) := (fix_Add.f k (mn a0 a1) a2).bind fun t158 => ((fix_Add.f k (mx a0 a1) a2).bind fun t159 => (if t158 > t159 then (analemmalaw02_FixRises.j0 k a2 (mn a0 a1) (mx a0 a1) true) else ((fix_Sub.f k (mn a0 a1) a2).bind fun t160 => ((fix_Sub.f k (mx a0 a1) a2).bind fun t161 => (if t160 > t161 then (analemmalaw02_FixRises.j0 k a2 (mn a0 a1) (mx a0 a1) true) else ((fix_Shift.f (mn a0 a1) a3).bind fun t162 => ((fix_Shift.f (mx a0 a1) a3).bind fun t163 => (if t162 > t163 then (analemmalaw02_FixRises.j0 k a2 (mn a0 a1) (mx a0 a1) true) else ((fix_Sqrt.f k (mn a0 a1)).bind fun t164 => ((fix_Sqrt.f k (mx a0 a1)).bind fun t165 => (if t164 > t165 then (analemmalaw02_FixRises.j0 k a2 (mn a0 a1) (mx a0 a1) true) else ((fix_Log.f (mn a0 a1)).bind fun t166 => ((fix_Log.f (mx a0 a1)).bind fun t167 => (if t166 > t167 then (analemmalaw02_FixRises.j0 k a2 (mn a0 a1) (mx a0 a1) true) else ((analemmalaw02_shown.f k).bind fun t168 => (analemmalaw02_FixRises.j0 k a2 (mn a0 a1) (mx a0 a1) (!t168)))))))))))))))))
theorem analemmalaw02_FixRises.mono_l : ∀ k, (∀ y0 y1 y2 y3, LeO (analemmalaw02_FixRises.j0 k y0 y1 y2 y3) (analemmalaw02_FixRises.j0 (k + 1) y0 y1 y2 y3))
  | 0 => fun _ _ _ _ r h => by simp [analemmalaw02_FixRises.j0] at h
  | k + 1 => by
    have ih0 := analemmalaw02_FixRises.mono_l k
    · intro y0 y1 y2 y3
      unfold analemmalaw02_FixRises.j0
      repeat' first
      | (with_reducible exact ih0 _ _ _ _)
      | (with_reducible exact analemmalaw02_shown.mono _)
      | (with_reducible exact fix_Add.mono _ _ _)
      | (with_reducible exact fix_Sqrt.mono _ _)
      | (with_reducible exact fix_Sub.mono _ _ _)
      | (with_reducible exact LeO.refl _)
      | (with_reducible exact LeO.none _)
      | (with_reducible refine LeO.ite ?_ ?_)
      | (with_reducible refine LeO.bind ?_ (fun _ => ?_))
      | exact ih0 _ _ _ _
      | exact analemmalaw02_shown.mono _
      | exact fix_Add.mono _ _ _
      | exact fix_Sqrt.mono _ _
      | exact fix_Sub.mono _ _ _
      | exact LeO.none _
      | refine LeO.ite ?_ ?_
      | refine LeO.bind ?_ (fun _ => ?_)
theorem analemmalaw02_FixRises.mono : ∀ a0 a1 a2 a3 k, LeO (analemmalaw02_FixRises.f k a0 a1 a2 a3) (analemmalaw02_FixRises.f (k + 1) a0 a1 a2 a3) := by
  intro a0 a1 a2 a3 k
  have ih0 := analemmalaw02_FixRises.mono_l k
  unfold analemmalaw02_FixRises.f
  repeat' first
      | (with_reducible exact ih0 _ _ _ _)
      | (with_reducible exact analemmalaw02_shown.mono _)
      | (with_reducible exact fix_Add.mono _ _ _)
      | (with_reducible exact fix_Sqrt.mono _ _)
      | (with_reducible exact fix_Sub.mono _ _ _)
      | (with_reducible exact LeO.refl _)
      | (with_reducible exact LeO.none _)
      | (with_reducible refine LeO.ite ?_ ?_)
      | (with_reducible refine LeO.bind ?_ (fun _ => ?_))
      | exact ih0 _ _ _ _
      | exact analemmalaw02_shown.mono _
      | exact fix_Add.mono _ _ _
      | exact fix_Sqrt.mono _ _
      | exact fix_Sub.mono _ _ _
      | exact LeO.none _
      | refine LeO.ite ?_ ?_
      | refine LeO.bind ?_ (fun _ => ?_)
set_option maxHeartbeats 8000000 in
set_option maxRecDepth 100000 in
theorem analemmalaw02_FixRises.calls (k : Nat) (a0 : Int) (a1 : Int) (a2 : Int) (a3 : Int) (r : Bool) (w : World) (h : analemmalaw02_FixRises.f k a0 a1 a2 a3 = some r) :
    Calls Try.prog 7 #[.int .i64 a0, .int .i64 a1, .int .i64 a2, .int .i64 a3] w fun e w' => e = .returned (.bool r) ∧ Below w.heap.size w w' := by
  have HB := Aside0.mk (Below.refl w.heap.size w)
  have H : ((fix_Add.f k (mn a0 a1) a2).bind fun t158 => ((fix_Add.f k (mx a0 a1) a2).bind fun t159 => (if t158 > t159 then (analemmalaw02_FixRises.j0 k a2 (mn a0 a1) (mx a0 a1) true) else ((fix_Sub.f k (mn a0 a1) a2).bind fun t160 => ((fix_Sub.f k (mx a0 a1) a2).bind fun t161 => (if t160 > t161 then (analemmalaw02_FixRises.j0 k a2 (mn a0 a1) (mx a0 a1) true) else ((fix_Shift.f (mn a0 a1) a3).bind fun t162 => ((fix_Shift.f (mx a0 a1) a3).bind fun t163 => (if t162 > t163 then (analemmalaw02_FixRises.j0 k a2 (mn a0 a1) (mx a0 a1) true) else ((fix_Sqrt.f k (mn a0 a1)).bind fun t164 => ((fix_Sqrt.f k (mx a0 a1)).bind fun t165 => (if t164 > t165 then (analemmalaw02_FixRises.j0 k a2 (mn a0 a1) (mx a0 a1) true) else ((fix_Log.f (mn a0 a1)).bind fun t166 => ((fix_Log.f (mx a0 a1)).bind fun t167 => (if t166 > t167 then (analemmalaw02_FixRises.j0 k a2 (mn a0 a1) (mx a0 a1) true) else ((analemmalaw02_shown.f k).bind fun t168 => (analemmalaw02_FixRises.j0 k a2 (mn a0 a1) (mx a0 a1) (!t168)))))))))))))))))) = some r := h
  clear h
  obtain ⟨ji5, hji5⟩ : ∃ j_ : Int, (mn a0 a1) = j_ := ⟨_, rfl⟩
  replace H : ((fix_Add.f k (ji5) a2).bind fun t158 => ((fix_Add.f k (mx a0 a1) a2).bind fun t159 => (if t158 > t159 then (analemmalaw02_FixRises.j0 k a2 ji5 (mx a0 a1) true) else ((fix_Sub.f k (ji5) a2).bind fun t160 => ((fix_Sub.f k (mx a0 a1) a2).bind fun t161 => (if t160 > t161 then (analemmalaw02_FixRises.j0 k a2 ji5 (mx a0 a1) true) else ((fix_Shift.f (ji5) a3).bind fun t162 => ((fix_Shift.f (mx a0 a1) a3).bind fun t163 => (if t162 > t163 then (analemmalaw02_FixRises.j0 k a2 ji5 (mx a0 a1) true) else ((fix_Sqrt.f k (ji5)).bind fun t164 => ((fix_Sqrt.f k (mx a0 a1)).bind fun t165 => (if t164 > t165 then (analemmalaw02_FixRises.j0 k a2 ji5 (mx a0 a1) true) else ((fix_Log.f (ji5)).bind fun t166 => ((fix_Log.f (mx a0 a1)).bind fun t167 => (if t166 > t167 then (analemmalaw02_FixRises.j0 k a2 ji5 (mx a0 a1) true) else ((analemmalaw02_shown.f k).bind fun t168 => (analemmalaw02_FixRises.j0 k a2 ji5 (mx a0 a1) (!t168)))))))))))))))))) = some r := by first | (rw [hji5] at H; exact H) | (simp only [hji5] at H ⊢; exact H)
  have hji5_ : (if a1 < a0 then a1 else a0) = ji5 := hji5
  obtain ⟨ji6, hji6⟩ : ∃ j_ : Int, (mx a0 a1) = j_ := ⟨_, rfl⟩
  replace H : ((fix_Add.f k (ji5) a2).bind fun t158 => ((fix_Add.f k (ji6) a2).bind fun t159 => (if t158 > t159 then (analemmalaw02_FixRises.j0 k a2 ji5 ji6 true) else ((fix_Sub.f k (ji5) a2).bind fun t160 => ((fix_Sub.f k (ji6) a2).bind fun t161 => (if t160 > t161 then (analemmalaw02_FixRises.j0 k a2 ji5 ji6 true) else ((fix_Shift.f (ji5) a3).bind fun t162 => ((fix_Shift.f (ji6) a3).bind fun t163 => (if t162 > t163 then (analemmalaw02_FixRises.j0 k a2 ji5 ji6 true) else ((fix_Sqrt.f k (ji5)).bind fun t164 => ((fix_Sqrt.f k (ji6)).bind fun t165 => (if t164 > t165 then (analemmalaw02_FixRises.j0 k a2 ji5 ji6 true) else ((fix_Log.f (ji5)).bind fun t166 => ((fix_Log.f (ji6)).bind fun t167 => (if t166 > t167 then (analemmalaw02_FixRises.j0 k a2 ji5 ji6 true) else ((analemmalaw02_shown.f k).bind fun t168 => (analemmalaw02_FixRises.j0 k a2 ji5 ji6 (!t168)))))))))))))))))) = some r := by first | (rw [hji6] at H; exact H) | (simp only [hji6] at H ⊢; exact H)
  have hji6_ : (if a0 < a1 then a1 else a0) = ji6 := hji6
  have HC7 := Aside0.mk H
  clear H
  go_enter Try.func7, Try.ntmps7
  go_upto_region 3 with (fail)
  go_cut [59] (fun v59 wc => ∃ (kq : Nat) (x59_6 : Bool), v59 = .bool x59_6 ∧ Aside0 (analemmalaw02_FixRises.j0 kq a2 ji5 ji6 x59_6 = some r) ∧ Aside0 (kq ≤ k) ∧ Aside0 (Below w.heap.size w wc))
  case first =>
    have H := HC7.out
    clear HC7
    replace H := Option.bind_eq_some_iff.mp H
    obtain ⟨t158, A80, H⟩ := H
    replace H : ((fix_Add.f k (ji6) a2).bind fun t159 => (if t158 > t159 then (analemmalaw02_FixRises.j0 k a2 ji5 ji6 true) else ((fix_Sub.f k (ji5) a2).bind fun t160 => ((fix_Sub.f k (ji6) a2).bind fun t161 => (if t160 > t161 then (analemmalaw02_FixRises.j0 k a2 ji5 ji6 true) else ((fix_Shift.f (ji5) a3).bind fun t162 => ((fix_Shift.f (ji6) a3).bind fun t163 => (if t162 > t163 then (analemmalaw02_FixRises.j0 k a2 ji5 ji6 true) else ((fix_Sqrt.f k (ji5)).bind fun t164 => ((fix_Sqrt.f k (ji6)).bind fun t165 => (if t164 > t165 then (analemmalaw02_FixRises.j0 k a2 ji5 ji6 true) else ((fix_Log.f (ji5)).bind fun t166 => ((fix_Log.f (ji6)).bind fun t167 => (if t166 > t167 then (analemmalaw02_FixRises.j0 k a2 ji5 ji6 true) else ((analemmalaw02_shown.f k).bind fun t168 => (analemmalaw02_FixRises.j0 k a2 ji5 ji6 (!t168))))))))))))))))) = some r := H
    have A8 := Aside0.mk A80
    clear A80
    replace H := Option.bind_eq_some_iff.mp H
    obtain ⟨t159, A90, H⟩ := H
    replace H : (if t158 > t159 then (analemmalaw02_FixRises.j0 k a2 ji5 ji6 true) else ((fix_Sub.f k (ji5) a2).bind fun t160 => ((fix_Sub.f k (ji6) a2).bind fun t161 => (if t160 > t161 then (analemmalaw02_FixRises.j0 k a2 ji5 ji6 true) else ((fix_Shift.f (ji5) a3).bind fun t162 => ((fix_Shift.f (ji6) a3).bind fun t163 => (if t162 > t163 then (analemmalaw02_FixRises.j0 k a2 ji5 ji6 true) else ((fix_Sqrt.f k (ji5)).bind fun t164 => ((fix_Sqrt.f k (ji6)).bind fun t165 => (if t164 > t165 then (analemmalaw02_FixRises.j0 k a2 ji5 ji6 true) else ((fix_Log.f (ji5)).bind fun t166 => ((fix_Log.f (ji6)).bind fun t167 => (if t166 > t167 then (analemmalaw02_FixRises.j0 k a2 ji5 ji6 true) else ((analemmalaw02_shown.f k).bind fun t168 => (analemmalaw02_FixRises.j0 k a2 ji5 ji6 (!t168)))))))))))))))) = some r := H
    have A9 := Aside0.mk A90
    clear A90
    by_cases c10 : t158 > t159
    · rw [if_pos c10] at H
      have c10b0 : decide (t159 < t158) = true := decide_eq_true c10
      clear c10
      (first | rw [c10b0] | (simp only [i64_w, i32_w]; rw [c10b0]) | skip)
      have H' := Aside0.mk H
      clear H
      go_wp2_with (first | ((with_reducible refine gate_callee (f := 18) rfl ?_); refine goesL_ (some 19) rfl rfl Try.func18 (by kernel_rfl) rfl #[.int .i64 ji5, .int .i64 a2] rfl (by (try simp only [List.map_toArray, List.map_cons, List.map_nil]); first | done | (simp only [hji5]; rfl) | rfl | (simp only [List.length_drop, List.length_take]; rfl)) ?_; (with_reducible refine (fix_Add.calls k ji5 a2 t158 _ A8.out).mono ?_); rintro e w11 ⟨rfl, hb⟩; refine ⟨_, rfl, ?_⟩; have n0_ := Aside0.mk (below_step (by repeat (first | (with_reducible first | exact HB.out | apply below_alloc | apply pw_below_drewN | apply below_drew1) | exact HB.out)) hb); clear HB; have HB := n0_; clear n0_; (try clear hb); (try clear hb2); (try clear hk); (try clear hi)) | ((with_reducible refine gate_callee (f := 18) rfl ?_); refine goesL_ (some 22) rfl rfl Try.func18 (by kernel_rfl) rfl #[.int .i64 ji6, .int .i64 a2] rfl (by (try simp only [List.map_toArray, List.map_cons, List.map_nil]); first | done | (simp only [hji6]; rfl) | rfl | (simp only [List.length_drop, List.length_take]; rfl)) ?_; (with_reducible refine (fix_Add.calls k ji6 a2 t159 _ A9.out).mono ?_); rintro e w12 ⟨rfl, hb⟩; refine ⟨_, rfl, ?_⟩; have n0_ := Aside0.mk (below_step (by repeat (first | (with_reducible first | exact HB.out | apply below_alloc | apply pw_below_drewN | apply below_drew1) | exact HB.out)) hb); clear HB; have HB := n0_; clear n0_; (try clear hb); (try clear hb2); (try clear hk); (try clear hi)))
      go_meet
      case rel => exact ⟨_, (true), (by first | rfl | (simp; done) | (simp [*]; done)), H', ⟨by first | omega | exact Nat.le_refl _⟩, ⟨by repeat (first | (with_reducible first | exact HB.out | apply below_alloc | apply pw_below_drewN | apply below_drew1) | exact HB.out)⟩⟩
    · rw [if_neg c10] at H
      have c10b0 : decide (t159 < t158) = false := decide_eq_false c10
      clear c10
      (first | rw [c10b0] | (simp only [i64_w, i32_w]; rw [c10b0]) | skip)
      replace H := Option.bind_eq_some_iff.mp H
      obtain ⟨t160, A130, H⟩ := H
      replace H : ((fix_Sub.f k (ji6) a2).bind fun t161 => (if t160 > t161 then (analemmalaw02_FixRises.j0 k a2 ji5 ji6 true) else ((fix_Shift.f (ji5) a3).bind fun t162 => ((fix_Shift.f (ji6) a3).bind fun t163 => (if t162 > t163 then (analemmalaw02_FixRises.j0 k a2 ji5 ji6 true) else ((fix_Sqrt.f k (ji5)).bind fun t164 => ((fix_Sqrt.f k (ji6)).bind fun t165 => (if t164 > t165 then (analemmalaw02_FixRises.j0 k a2 ji5 ji6 true) else ((fix_Log.f (ji5)).bind fun t166 => ((fix_Log.f (ji6)).bind fun t167 => (if t166 > t167 then (analemmalaw02_FixRises.j0 k a2 ji5 ji6 true) else ((analemmalaw02_shown.f k).bind fun t168 => (analemmalaw02_FixRises.j0 k a2 ji5 ji6 (!t168)))))))))))))) = some r := H
      have A13 := Aside0.mk A130
      clear A130
      replace H := Option.bind_eq_some_iff.mp H
      obtain ⟨t161, A140, H⟩ := H
      replace H : (if t160 > t161 then (analemmalaw02_FixRises.j0 k a2 ji5 ji6 true) else ((fix_Shift.f (ji5) a3).bind fun t162 => ((fix_Shift.f (ji6) a3).bind fun t163 => (if t162 > t163 then (analemmalaw02_FixRises.j0 k a2 ji5 ji6 true) else ((fix_Sqrt.f k (ji5)).bind fun t164 => ((fix_Sqrt.f k (ji6)).bind fun t165 => (if t164 > t165 then (analemmalaw02_FixRises.j0 k a2 ji5 ji6 true) else ((fix_Log.f (ji5)).bind fun t166 => ((fix_Log.f (ji6)).bind fun t167 => (if t166 > t167 then (analemmalaw02_FixRises.j0 k a2 ji5 ji6 true) else ((analemmalaw02_shown.f k).bind fun t168 => (analemmalaw02_FixRises.j0 k a2 ji5 ji6 (!t168))))))))))))) = some r := H
      have A14 := Aside0.mk A140
      clear A140
      by_cases c15 : t160 > t161
      · rw [if_pos c15] at H
        have c15b0 : decide (t161 < t160) = true := decide_eq_true c15
        clear c15
        have H' := Aside0.mk H
        clear H
        go_wp2_with (first | ((with_reducible refine gate_callee (f := 18) rfl ?_); refine goesL_ (some 19) rfl rfl Try.func18 (by kernel_rfl) rfl #[.int .i64 ji5, .int .i64 a2] rfl (by (try simp only [List.map_toArray, List.map_cons, List.map_nil]); first | done | (simp only [hji5]; rfl) | rfl | (simp only [List.length_drop, List.length_take]; rfl)) ?_; (with_reducible refine (fix_Add.calls k ji5 a2 t158 _ A8.out).mono ?_); rintro e w16 ⟨rfl, hb⟩; refine ⟨_, rfl, ?_⟩; have n0_ := Aside0.mk (below_step (by repeat (first | (with_reducible first | exact HB.out | apply below_alloc | apply pw_below_drewN | apply below_drew1) | exact HB.out)) hb); clear HB; have HB := n0_; clear n0_; (try clear hb); (try clear hb2); (try clear hk); (try clear hi)) | ((with_reducible refine gate_callee (f := 18) rfl ?_); refine goesL_ (some 22) rfl rfl Try.func18 (by kernel_rfl) rfl #[.int .i64 ji6, .int .i64 a2] rfl (by (try simp only [List.map_toArray, List.map_cons, List.map_nil]); first | done | (simp only [hji6]; rfl) | rfl | (simp only [List.length_drop, List.length_take]; rfl)) ?_; (with_reducible refine (fix_Add.calls k ji6 a2 t159 _ A9.out).mono ?_); rintro e w17 ⟨rfl, hb⟩; refine ⟨_, rfl, ?_⟩; have n0_ := Aside0.mk (below_step (by repeat (first | (with_reducible first | exact HB.out | apply below_alloc | apply pw_below_drewN | apply below_drew1) | exact HB.out)) hb); clear HB; have HB := n0_; clear n0_; (try clear hb); (try clear hb2); (try clear hk); (try clear hi)) | (go_at_call 17; (with_reducible refine (fix_Sub.calls k ji5 a2 t160 _ A13.out).mono ?_); rintro e w18 ⟨rfl, hb⟩; have n0_ := Aside0.mk (below_step (by repeat (first | (with_reducible first | exact HB.out | apply below_alloc | apply pw_below_drewN | apply below_drew1) | exact HB.out)) hb); clear HB; have HB := n0_; clear n0_; (try clear hb); (try clear hb2); (try clear hk); (try clear hi)) | (go_at_call 17; (with_reducible refine (fix_Sub.calls k ji6 a2 t161 _ A14.out).mono ?_); rintro e w19 ⟨rfl, hb⟩; have n0_ := Aside0.mk (below_step (by repeat (first | (with_reducible first | exact HB.out | apply below_alloc | apply pw_below_drewN | apply below_drew1) | exact HB.out)) hb); clear HB; have HB := n0_; clear n0_; (try clear hb); (try clear hb2); (try clear hk); (try clear hi)))
        go_meet
        case rel => exact ⟨_, (true), (by first | rfl | (simp; done) | (simp [*]; done)), H', ⟨by first | omega | exact Nat.le_refl _⟩, ⟨by repeat (first | (with_reducible first | exact HB.out | apply below_alloc | apply pw_below_drewN | apply below_drew1) | exact HB.out)⟩⟩
      · rw [if_neg c15] at H
        have c15b0 : decide (t161 < t160) = false := decide_eq_false c15
        clear c15
        replace H := Option.bind_eq_some_iff.mp H
        obtain ⟨t162, A200, H⟩ := H
        replace H : ((fix_Shift.f (ji6) a3).bind fun t163 => (if t162 > t163 then (analemmalaw02_FixRises.j0 k a2 ji5 ji6 true) else ((fix_Sqrt.f k (ji5)).bind fun t164 => ((fix_Sqrt.f k (ji6)).bind fun t165 => (if t164 > t165 then (analemmalaw02_FixRises.j0 k a2 ji5 ji6 true) else ((fix_Log.f (ji5)).bind fun t166 => ((fix_Log.f (ji6)).bind fun t167 => (if t166 > t167 then (analemmalaw02_FixRises.j0 k a2 ji5 ji6 true) else ((analemmalaw02_shown.f k).bind fun t168 => (analemmalaw02_FixRises.j0 k a2 ji5 ji6 (!t168))))))))))) = some r := H
        have A20 := Aside0.mk A200
        clear A200
        replace H := Option.bind_eq_some_iff.mp H
        obtain ⟨t163, A210, H⟩ := H
        replace H : (if t162 > t163 then (analemmalaw02_FixRises.j0 k a2 ji5 ji6 true) else ((fix_Sqrt.f k (ji5)).bind fun t164 => ((fix_Sqrt.f k (ji6)).bind fun t165 => (if t164 > t165 then (analemmalaw02_FixRises.j0 k a2 ji5 ji6 true) else ((fix_Log.f (ji5)).bind fun t166 => ((fix_Log.f (ji6)).bind fun t167 => (if t166 > t167 then (analemmalaw02_FixRises.j0 k a2 ji5 ji6 true) else ((analemmalaw02_shown.f k).bind fun t168 => (analemmalaw02_FixRises.j0 k a2 ji5 ji6 (!t168)))))))))) = some r := H
        have A21 := Aside0.mk A210
        clear A210
        by_cases c22 : t162 > t163
        · rw [if_pos c22] at H
          have c22b0 : decide (t163 < t162) = true := decide_eq_true c22
          clear c22
          have H' := Aside0.mk H
          clear H
          go_wp2_with (first | ((with_reducible refine gate_callee (f := 18) rfl ?_); refine goesL_ (some 19) rfl rfl Try.func18 (by kernel_rfl) rfl #[.int .i64 ji5, .int .i64 a2] rfl (by (try simp only [List.map_toArray, List.map_cons, List.map_nil]); first | done | (simp only [hji5]; rfl) | rfl | (simp only [List.length_drop, List.length_take]; rfl)) ?_; (with_reducible refine (fix_Add.calls k ji5 a2 t158 _ A8.out).mono ?_); rintro e w23 ⟨rfl, hb⟩; refine ⟨_, rfl, ?_⟩; have n0_ := Aside0.mk (below_step (by repeat (first | (with_reducible first | exact HB.out | apply below_alloc | apply pw_below_drewN | apply below_drew1) | exact HB.out)) hb); clear HB; have HB := n0_; clear n0_; (try clear hb); (try clear hb2); (try clear hk); (try clear hi)) | ((with_reducible refine gate_callee (f := 18) rfl ?_); refine goesL_ (some 22) rfl rfl Try.func18 (by kernel_rfl) rfl #[.int .i64 ji6, .int .i64 a2] rfl (by (try simp only [List.map_toArray, List.map_cons, List.map_nil]); first | done | (simp only [hji6]; rfl) | rfl | (simp only [List.length_drop, List.length_take]; rfl)) ?_; (with_reducible refine (fix_Add.calls k ji6 a2 t159 _ A9.out).mono ?_); rintro e w24 ⟨rfl, hb⟩; refine ⟨_, rfl, ?_⟩; have n0_ := Aside0.mk (below_step (by repeat (first | (with_reducible first | exact HB.out | apply below_alloc | apply pw_below_drewN | apply below_drew1) | exact HB.out)) hb); clear HB; have HB := n0_; clear n0_; (try clear hb); (try clear hb2); (try clear hk); (try clear hi)) | (go_at_call 17; (with_reducible refine (fix_Sub.calls k ji5 a2 t160 _ A13.out).mono ?_); rintro e w25 ⟨rfl, hb⟩; have n0_ := Aside0.mk (below_step (by repeat (first | (with_reducible first | exact HB.out | apply below_alloc | apply pw_below_drewN | apply below_drew1) | exact HB.out)) hb); clear HB; have HB := n0_; clear n0_; (try clear hb); (try clear hb2); (try clear hk); (try clear hi)) | (go_at_call 17; (with_reducible refine (fix_Sub.calls k ji6 a2 t161 _ A14.out).mono ?_); rintro e w26 ⟨rfl, hb⟩; have n0_ := Aside0.mk (below_step (by repeat (first | (with_reducible first | exact HB.out | apply below_alloc | apply pw_below_drewN | apply below_drew1) | exact HB.out)) hb); clear HB; have HB := n0_; clear n0_; (try clear hb); (try clear hb2); (try clear hk); (try clear hi)) | (go_at_call 15; (with_reducible refine (fix_Shift.calls ji5 a3 t162 _ A20.out).mono ?_); rintro e w27 ⟨rfl, hb⟩; have n0_ := Aside0.mk (below_step (by repeat (first | (with_reducible first | exact HB.out | apply below_alloc | apply pw_below_drewN | apply below_drew1) | exact HB.out)) hb); clear HB; have HB := n0_; clear n0_; (try clear hb); (try clear hb2); (try clear hk); (try clear hi)) | (go_at_call 15; (with_reducible refine (fix_Shift.calls ji6 a3 t163 _ A21.out).mono ?_); rintro e w28 ⟨rfl, hb⟩; have n0_ := Aside0.mk (below_step (by repeat (first | (with_reducible first | exact HB.out | apply below_alloc | apply pw_below_drewN | apply below_drew1) | exact HB.out)) hb); clear HB; have HB := n0_; clear n0_; (try clear hb); (try clear hb2); (try clear hk); (try clear hi)))
          go_meet
          case rel => exact ⟨_, (true), (by first | rfl | (simp; done) | (simp [*]; done)), H', ⟨by first | omega | exact Nat.le_refl _⟩, ⟨by repeat (first | (with_reducible first | exact HB.out | apply below_alloc | apply pw_below_drewN | apply below_drew1) | exact HB.out)⟩⟩
        · rw [if_neg c22] at H
          have c22b0 : decide (t163 < t162) = false := decide_eq_false c22
          clear c22
          replace H := Option.bind_eq_some_iff.mp H
          obtain ⟨t164, A290, H⟩ := H
          replace H : ((fix_Sqrt.f k (ji6)).bind fun t165 => (if t164 > t165 then (analemmalaw02_FixRises.j0 k a2 ji5 ji6 true) else ((fix_Log.f (ji5)).bind fun t166 => ((fix_Log.f (ji6)).bind fun t167 => (if t166 > t167 then (analemmalaw02_FixRises.j0 k a2 ji5 ji6 true) else ((analemmalaw02_shown.f k).bind fun t168 => (analemmalaw02_FixRises.j0 k a2 ji5 ji6 (!t168)))))))) = some r := H
          have A29 := Aside0.mk A290
          clear A290
          replace H := Option.bind_eq_some_iff.mp H
          obtain ⟨t165, A300, H⟩ := H
          replace H : (if t164 > t165 then (analemmalaw02_FixRises.j0 k a2 ji5 ji6 true) else ((fix_Log.f (ji5)).bind fun t166 => ((fix_Log.f (ji6)).bind fun t167 => (if t166 > t167 then (analemmalaw02_FixRises.j0 k a2 ji5 ji6 true) else ((analemmalaw02_shown.f k).bind fun t168 => (analemmalaw02_FixRises.j0 k a2 ji5 ji6 (!t168))))))) = some r := H
          have A30 := Aside0.mk A300
          clear A300
          by_cases c31 : t164 > t165
          · rw [if_pos c31] at H
            have c31b0 : decide (t165 < t164) = true := decide_eq_true c31
            clear c31
            have H' := Aside0.mk H
            clear H
            go_wp2_with (first | ((with_reducible refine gate_callee (f := 18) rfl ?_); refine goesL_ (some 19) rfl rfl Try.func18 (by kernel_rfl) rfl #[.int .i64 ji5, .int .i64 a2] rfl (by (try simp only [List.map_toArray, List.map_cons, List.map_nil]); first | done | (simp only [hji5]; rfl) | rfl | (simp only [List.length_drop, List.length_take]; rfl)) ?_; (with_reducible refine (fix_Add.calls k ji5 a2 t158 _ A8.out).mono ?_); rintro e w32 ⟨rfl, hb⟩; refine ⟨_, rfl, ?_⟩; have n0_ := Aside0.mk (below_step (by repeat (first | (with_reducible first | exact HB.out | apply below_alloc | apply pw_below_drewN | apply below_drew1) | exact HB.out)) hb); clear HB; have HB := n0_; clear n0_; (try clear hb); (try clear hb2); (try clear hk); (try clear hi)) | ((with_reducible refine gate_callee (f := 18) rfl ?_); refine goesL_ (some 22) rfl rfl Try.func18 (by kernel_rfl) rfl #[.int .i64 ji6, .int .i64 a2] rfl (by (try simp only [List.map_toArray, List.map_cons, List.map_nil]); first | done | (simp only [hji6]; rfl) | rfl | (simp only [List.length_drop, List.length_take]; rfl)) ?_; (with_reducible refine (fix_Add.calls k ji6 a2 t159 _ A9.out).mono ?_); rintro e w33 ⟨rfl, hb⟩; refine ⟨_, rfl, ?_⟩; have n0_ := Aside0.mk (below_step (by repeat (first | (with_reducible first | exact HB.out | apply below_alloc | apply pw_below_drewN | apply below_drew1) | exact HB.out)) hb); clear HB; have HB := n0_; clear n0_; (try clear hb); (try clear hb2); (try clear hk); (try clear hi)) | (go_at_call 17; (with_reducible refine (fix_Sub.calls k ji5 a2 t160 _ A13.out).mono ?_); rintro e w34 ⟨rfl, hb⟩; have n0_ := Aside0.mk (below_step (by repeat (first | (with_reducible first | exact HB.out | apply below_alloc | apply pw_below_drewN | apply below_drew1) | exact HB.out)) hb); clear HB; have HB := n0_; clear n0_; (try clear hb); (try clear hb2); (try clear hk); (try clear hi)) | (go_at_call 17; (with_reducible refine (fix_Sub.calls k ji6 a2 t161 _ A14.out).mono ?_); rintro e w35 ⟨rfl, hb⟩; have n0_ := Aside0.mk (below_step (by repeat (first | (with_reducible first | exact HB.out | apply below_alloc | apply pw_below_drewN | apply below_drew1) | exact HB.out)) hb); clear HB; have HB := n0_; clear n0_; (try clear hb); (try clear hb2); (try clear hk); (try clear hi)) | (go_at_call 15; (with_reducible refine (fix_Shift.calls ji5 a3 t162 _ A20.out).mono ?_); rintro e w36 ⟨rfl, hb⟩; have n0_ := Aside0.mk (below_step (by repeat (first | (with_reducible first | exact HB.out | apply below_alloc | apply pw_below_drewN | apply below_drew1) | exact HB.out)) hb); clear HB; have HB := n0_; clear n0_; (try clear hb); (try clear hb2); (try clear hk); (try clear hi)) | (go_at_call 15; (with_reducible refine (fix_Shift.calls ji6 a3 t163 _ A21.out).mono ?_); rintro e w37 ⟨rfl, hb⟩; have n0_ := Aside0.mk (below_step (by repeat (first | (with_reducible first | exact HB.out | apply below_alloc | apply pw_below_drewN | apply below_drew1) | exact HB.out)) hb); clear HB; have HB := n0_; clear n0_; (try clear hb); (try clear hb2); (try clear hk); (try clear hi)) | (go_at_call 12; (with_reducible refine (fix_Sqrt.calls k ji5 t164 _ A29.out).mono ?_); rintro e w38 ⟨rfl, hb⟩; have n0_ := Aside0.mk (below_step (by repeat (first | (with_reducible first | exact HB.out | apply below_alloc | apply pw_below_drewN | apply below_drew1) | exact HB.out)) hb); clear HB; have HB := n0_; clear n0_; (try clear hb); (try clear hb2); (try clear hk); (try clear hi)) | (go_at_call 12; (with_reducible refine (fix_Sqrt.calls k ji6 t165 _ A30.out).mono ?_); rintro e w39 ⟨rfl, hb⟩; have n0_ := Aside0.mk (below_step (by repeat (first | (with_reducible first | exact HB.out | apply below_alloc | apply pw_below_drewN | apply below_drew1) | exact HB.out)) hb); clear HB; have HB := n0_; clear n0_; (try clear hb); (try clear hb2); (try clear hk); (try clear hi)))
            go_meet
            case rel => exact ⟨_, (true), (by first | rfl | (simp; done) | (simp [*]; done)), H', ⟨by first | omega | exact Nat.le_refl _⟩, ⟨by repeat (first | (with_reducible first | exact HB.out | apply below_alloc | apply pw_below_drewN | apply below_drew1) | exact HB.out)⟩⟩
          · rw [if_neg c31] at H
            have c31b0 : decide (t165 < t164) = false := decide_eq_false c31
            clear c31
            replace H := Option.bind_eq_some_iff.mp H
            obtain ⟨t166, A400, H⟩ := H
            replace H : ((fix_Log.f (ji6)).bind fun t167 => (if t166 > t167 then (analemmalaw02_FixRises.j0 k a2 ji5 ji6 true) else ((analemmalaw02_shown.f k).bind fun t168 => (analemmalaw02_FixRises.j0 k a2 ji5 ji6 (!t168))))) = some r := H
            have A40 := Aside0.mk A400
            clear A400
            replace H := Option.bind_eq_some_iff.mp H
            obtain ⟨t167, A410, H⟩ := H
            replace H : (if t166 > t167 then (analemmalaw02_FixRises.j0 k a2 ji5 ji6 true) else ((analemmalaw02_shown.f k).bind fun t168 => (analemmalaw02_FixRises.j0 k a2 ji5 ji6 (!t168)))) = some r := H
            have A41 := Aside0.mk A410
            clear A410
            by_cases c42 : t166 > t167
            · rw [if_pos c42] at H
              have c42b0 : decide (t167 < t166) = true := decide_eq_true c42
              clear c42
              have H' := Aside0.mk H
              clear H
              go_wp2_with (first | ((with_reducible refine gate_callee (f := 18) rfl ?_); refine goesL_ (some 19) rfl rfl Try.func18 (by kernel_rfl) rfl #[.int .i64 ji5, .int .i64 a2] rfl (by (try simp only [List.map_toArray, List.map_cons, List.map_nil]); first | done | (simp only [hji5]; rfl) | rfl | (simp only [List.length_drop, List.length_take]; rfl)) ?_; (with_reducible refine (fix_Add.calls k ji5 a2 t158 _ A8.out).mono ?_); rintro e w43 ⟨rfl, hb⟩; refine ⟨_, rfl, ?_⟩; have n0_ := Aside0.mk (below_step (by repeat (first | (with_reducible first | exact HB.out | apply below_alloc | apply pw_below_drewN | apply below_drew1) | exact HB.out)) hb); clear HB; have HB := n0_; clear n0_; (try clear hb); (try clear hb2); (try clear hk); (try clear hi)) | ((with_reducible refine gate_callee (f := 18) rfl ?_); refine goesL_ (some 22) rfl rfl Try.func18 (by kernel_rfl) rfl #[.int .i64 ji6, .int .i64 a2] rfl (by (try simp only [List.map_toArray, List.map_cons, List.map_nil]); first | done | (simp only [hji6]; rfl) | rfl | (simp only [List.length_drop, List.length_take]; rfl)) ?_; (with_reducible refine (fix_Add.calls k ji6 a2 t159 _ A9.out).mono ?_); rintro e w44 ⟨rfl, hb⟩; refine ⟨_, rfl, ?_⟩; have n0_ := Aside0.mk (below_step (by repeat (first | (with_reducible first | exact HB.out | apply below_alloc | apply pw_below_drewN | apply below_drew1) | exact HB.out)) hb); clear HB; have HB := n0_; clear n0_; (try clear hb); (try clear hb2); (try clear hk); (try clear hi)) | (go_at_call 17; (with_reducible refine (fix_Sub.calls k ji5 a2 t160 _ A13.out).mono ?_); rintro e w45 ⟨rfl, hb⟩; have n0_ := Aside0.mk (below_step (by repeat (first | (with_reducible first | exact HB.out | apply below_alloc | apply pw_below_drewN | apply below_drew1) | exact HB.out)) hb); clear HB; have HB := n0_; clear n0_; (try clear hb); (try clear hb2); (try clear hk); (try clear hi)) | (go_at_call 17; (with_reducible refine (fix_Sub.calls k ji6 a2 t161 _ A14.out).mono ?_); rintro e w46 ⟨rfl, hb⟩; have n0_ := Aside0.mk (below_step (by repeat (first | (with_reducible first | exact HB.out | apply below_alloc | apply pw_below_drewN | apply below_drew1) | exact HB.out)) hb); clear HB; have HB := n0_; clear n0_; (try clear hb); (try clear hb2); (try clear hk); (try clear hi)) | (go_at_call 15; (with_reducible refine (fix_Shift.calls ji5 a3 t162 _ A20.out).mono ?_); rintro e w47 ⟨rfl, hb⟩; have n0_ := Aside0.mk (below_step (by repeat (first | (with_reducible first | exact HB.out | apply below_alloc | apply pw_below_drewN | apply below_drew1) | exact HB.out)) hb); clear HB; have HB := n0_; clear n0_; (try clear hb); (try clear hb2); (try clear hk); (try clear hi)) | (go_at_call 15; (with_reducible refine (fix_Shift.calls ji6 a3 t163 _ A21.out).mono ?_); rintro e w48 ⟨rfl, hb⟩; have n0_ := Aside0.mk (below_step (by repeat (first | (with_reducible first | exact HB.out | apply below_alloc | apply pw_below_drewN | apply below_drew1) | exact HB.out)) hb); clear HB; have HB := n0_; clear n0_; (try clear hb); (try clear hb2); (try clear hk); (try clear hi)) | (go_at_call 12; (with_reducible refine (fix_Sqrt.calls k ji5 t164 _ A29.out).mono ?_); rintro e w49 ⟨rfl, hb⟩; have n0_ := Aside0.mk (below_step (by repeat (first | (with_reducible first | exact HB.out | apply below_alloc | apply pw_below_drewN | apply below_drew1) | exact HB.out)) hb); clear HB; have HB := n0_; clear n0_; (try clear hb); (try clear hb2); (try clear hk); (try clear hi)) | (go_at_call 12; (with_reducible refine (fix_Sqrt.calls k ji6 t165 _ A30.out).mono ?_); rintro e w50 ⟨rfl, hb⟩; have n0_ := Aside0.mk (below_step (by repeat (first | (with_reducible first | exact HB.out | apply below_alloc | apply pw_below_drewN | apply below_drew1) | exact HB.out)) hb); clear HB; have HB := n0_; clear n0_; (try clear hb); (try clear hb2); (try clear hk); (try clear hi)) | (go_at_call 19; (with_reducible refine (fix_Log.calls ji5 t166 _ A40.out).mono ?_); rintro e w51 ⟨rfl, hb⟩; have n0_ := Aside0.mk (below_step (by repeat (first | (with_reducible first | exact HB.out | apply below_alloc | apply pw_below_drewN | apply below_drew1) | exact HB.out)) hb); clear HB; have HB := n0_; clear n0_; (try clear hb); (try clear hb2); (try clear hk); (try clear hi)) | (go_at_call 19; (with_reducible refine (fix_Log.calls ji6 t167 _ A41.out).mono ?_); rintro e w52 ⟨rfl, hb⟩; have n0_ := Aside0.mk (below_step (by repeat (first | (with_reducible first | exact HB.out | apply below_alloc | apply pw_below_drewN | apply below_drew1) | exact HB.out)) hb); clear HB; have HB := n0_; clear n0_; (try clear hb); (try clear hb2); (try clear hk); (try clear hi)))
              go_meet
              case rel => exact ⟨_, (true), (by first | rfl | (simp; done) | (simp [*]; done)), H', ⟨by first | omega | exact Nat.le_refl _⟩, ⟨by repeat (first | (with_reducible first | exact HB.out | apply below_alloc | apply pw_below_drewN | apply below_drew1) | exact HB.out)⟩⟩
            · rw [if_neg c42] at H
              have c42b0 : decide (t167 < t166) = false := decide_eq_false c42
              clear c42
              replace H := Option.bind_eq_some_iff.mp H
              obtain ⟨t168, A530, H⟩ := H
              replace H : (analemmalaw02_FixRises.j0 k a2 ji5 ji6 (!t168)) = some r := H
              have A53 := Aside0.mk A530
              clear A530
              have H' := Aside0.mk H
              clear H
              go_wp2_with (first | ((with_reducible refine gate_callee (f := 18) rfl ?_); refine goesL_ (some 19) rfl rfl Try.func18 (by kernel_rfl) rfl #[.int .i64 ji5, .int .i64 a2] rfl (by (try simp only [List.map_toArray, List.map_cons, List.map_nil]); first | done | (simp only [hji5]; rfl) | rfl | (simp only [List.length_drop, List.length_take]; rfl)) ?_; (with_reducible refine (fix_Add.calls k ji5 a2 t158 _ A8.out).mono ?_); rintro e w54 ⟨rfl, hb⟩; refine ⟨_, rfl, ?_⟩; have n0_ := Aside0.mk (below_step (by repeat (first | (with_reducible first | exact HB.out | apply below_alloc | apply pw_below_drewN | apply below_drew1) | exact HB.out)) hb); clear HB; have HB := n0_; clear n0_; (try clear hb); (try clear hb2); (try clear hk); (try clear hi)) | ((with_reducible refine gate_callee (f := 18) rfl ?_); refine goesL_ (some 22) rfl rfl Try.func18 (by kernel_rfl) rfl #[.int .i64 ji6, .int .i64 a2] rfl (by (try simp only [List.map_toArray, List.map_cons, List.map_nil]); first | done | (simp only [hji6]; rfl) | rfl | (simp only [List.length_drop, List.length_take]; rfl)) ?_; (with_reducible refine (fix_Add.calls k ji6 a2 t159 _ A9.out).mono ?_); rintro e w55 ⟨rfl, hb⟩; refine ⟨_, rfl, ?_⟩; have n0_ := Aside0.mk (below_step (by repeat (first | (with_reducible first | exact HB.out | apply below_alloc | apply pw_below_drewN | apply below_drew1) | exact HB.out)) hb); clear HB; have HB := n0_; clear n0_; (try clear hb); (try clear hb2); (try clear hk); (try clear hi)) | (go_at_call 17; (with_reducible refine (fix_Sub.calls k ji5 a2 t160 _ A13.out).mono ?_); rintro e w56 ⟨rfl, hb⟩; have n0_ := Aside0.mk (below_step (by repeat (first | (with_reducible first | exact HB.out | apply below_alloc | apply pw_below_drewN | apply below_drew1) | exact HB.out)) hb); clear HB; have HB := n0_; clear n0_; (try clear hb); (try clear hb2); (try clear hk); (try clear hi)) | (go_at_call 17; (with_reducible refine (fix_Sub.calls k ji6 a2 t161 _ A14.out).mono ?_); rintro e w57 ⟨rfl, hb⟩; have n0_ := Aside0.mk (below_step (by repeat (first | (with_reducible first | exact HB.out | apply below_alloc | apply pw_below_drewN | apply below_drew1) | exact HB.out)) hb); clear HB; have HB := n0_; clear n0_; (try clear hb); (try clear hb2); (try clear hk); (try clear hi)) | (go_at_call 15; (with_reducible refine (fix_Shift.calls ji5 a3 t162 _ A20.out).mono ?_); rintro e w58 ⟨rfl, hb⟩; have n0_ := Aside0.mk (below_step (by repeat (first | (with_reducible first | exact HB.out | apply below_alloc | apply pw_below_drewN | apply below_drew1) | exact HB.out)) hb); clear HB; have HB := n0_; clear n0_; (try clear hb); (try clear hb2); (try clear hk); (try clear hi)) | (go_at_call 15; (with_reducible refine (fix_Shift.calls ji6 a3 t163 _ A21.out).mono ?_); rintro e w59 ⟨rfl, hb⟩; have n0_ := Aside0.mk (below_step (by repeat (first | (with_reducible first | exact HB.out | apply below_alloc | apply pw_below_drewN | apply below_drew1) | exact HB.out)) hb); clear HB; have HB := n0_; clear n0_; (try clear hb); (try clear hb2); (try clear hk); (try clear hi)) | (go_at_call 12; (with_reducible refine (fix_Sqrt.calls k ji5 t164 _ A29.out).mono ?_); rintro e w60 ⟨rfl, hb⟩; have n0_ := Aside0.mk (below_step (by repeat (first | (with_reducible first | exact HB.out | apply below_alloc | apply pw_below_drewN | apply below_drew1) | exact HB.out)) hb); clear HB; have HB := n0_; clear n0_; (try clear hb); (try clear hb2); (try clear hk); (try clear hi)) | (go_at_call 12; (with_reducible refine (fix_Sqrt.calls k ji6 t165 _ A30.out).mono ?_); rintro e w61 ⟨rfl, hb⟩; have n0_ := Aside0.mk (below_step (by repeat (first | (with_reducible first | exact HB.out | apply below_alloc | apply pw_below_drewN | apply below_drew1) | exact HB.out)) hb); clear HB; have HB := n0_; clear n0_; (try clear hb); (try clear hb2); (try clear hk); (try clear hi)) | (go_at_call 19; (with_reducible refine (fix_Log.calls ji5 t166 _ A40.out).mono ?_); rintro e w62 ⟨rfl, hb⟩; have n0_ := Aside0.mk (below_step (by repeat (first | (with_reducible first | exact HB.out | apply below_alloc | apply pw_below_drewN | apply below_drew1) | exact HB.out)) hb); clear HB; have HB := n0_; clear n0_; (try clear hb); (try clear hb2); (try clear hk); (try clear hi)) | (go_at_call 19; (with_reducible refine (fix_Log.calls ji6 t167 _ A41.out).mono ?_); rintro e w63 ⟨rfl, hb⟩; have n0_ := Aside0.mk (below_step (by repeat (first | (with_reducible first | exact HB.out | apply below_alloc | apply pw_below_drewN | apply below_drew1) | exact HB.out)) hb); clear HB; have HB := n0_; clear n0_; (try clear hb); (try clear hb2); (try clear hk); (try clear hi)) | (go_at_call 14; (with_reducible refine (analemmalaw02_shown.calls k  t168 _ A53.out).mono ?_); rintro e w64 ⟨rfl, hb⟩; have n0_ := Aside0.mk (below_step (by repeat (first | (with_reducible first | exact HB.out | apply below_alloc | apply pw_below_drewN | apply below_drew1) | exact HB.out)) hb); clear HB; have HB := n0_; clear n0_; (try clear hb); (try clear hb2); (try clear hk); (try clear hi)))
              go_meet
              case rel => exact ⟨_, (!t168), (by first | rfl | (simp; done) | (simp [*]; done)), H', ⟨by first | omega | exact Nat.le_refl _⟩, ⟨by repeat (first | (with_reducible first | exact HB.out | apply below_alloc | apply pw_below_drewN | apply below_drew1) | exact HB.out)⟩⟩
  case rest =>
    clear HC7
    try clear c1
    try clear c2
    try clear p2
    try clear c3
    try clear c4
    try clear c7
    try clear c10
    try clear c10b0
    try clear c15
    try clear c15b0
    try clear c18
    try clear c22
    try clear c22b0
    try clear c31
    try clear c31b0
    try clear c42
    try clear c42b0
    obtain ⟨kq, x59_6, rfl, HA, HJ6, HB⟩ := hcut
    cases kq with
    | zero => exact absurd HA.out (by simp [analemmalaw02_FixRises.j0])
    | succ kj6 =>
      have H := HA.out
      clear HA
      simp only [analemmalaw02_FixRises.j0] at H
      by_cases c65 : x59_6 = true
      · subst c65
        have H1 : (some false) = some r := by rw [if_pos rfl] at H; exact H
        clear H
        have H := H1
        clear H1
        obtain rfl := Option.some.inj H
        go_wp2
        go_ret
        exact ⟨by first | rfl | (simp [errW_none, errW_some] <;> rfl) | (simp only [← hji5, ← hji6]; first | rfl | (simp [errW_none, errW_some] <;> rfl)) | (simp [*, errW_none, errW_some] <;> rfl), by repeat (first | (with_reducible first | exact HB.out | apply below_alloc | apply pw_below_drewN | apply below_drew1) | exact HB.out)⟩
      · replace c65 := Bool.eq_false_iff.mpr c65
        subst c65
        have H1 : (if a2 ≤ 0 then (some true) else ((fix_Mul.f ji5 a2).bind fun t169 => ((fix_Mul.f ji6 a2).bind fun t170 => (if t169 ≤ t170 then ((fix_Div.f ji5 a2).bind fun t171 => ((fix_Div.f ji6 a2).bind fun t172 => (some (decide (t171 ≤ t172))))) else (some false))))) = some r := by rw [if_neg (show ¬ (false = true) by decide)] at H; exact H
        clear H
        have H := H1
        clear H1
        by_cases c66 : a2 ≤ 0
        · rw [if_pos c66] at H
          have c66b0 : decide (a2 ≤ 0) = true := decide_eq_true c66
          clear c66
          obtain rfl := Option.some.inj H
          go_wp2
          go_ret
          exact ⟨by first | rfl | (simp [errW_none, errW_some] <;> rfl) | (simp only [← hji5, ← hji6]; first | rfl | (simp [errW_none, errW_some] <;> rfl)) | (simp [*, errW_none, errW_some] <;> rfl), by repeat (first | (with_reducible first | exact HB.out | apply below_alloc | apply pw_below_drewN | apply below_drew1) | exact HB.out)⟩
        · rw [if_neg c66] at H
          have c66b0 : decide (a2 ≤ 0) = false := decide_eq_false c66
          clear c66
          replace H := Option.bind_eq_some_iff.mp H
          obtain ⟨t169, A670, H⟩ := H
          replace H : ((fix_Mul.f ji6 a2).bind fun t170 => (if t169 ≤ t170 then ((fix_Div.f ji5 a2).bind fun t171 => ((fix_Div.f ji6 a2).bind fun t172 => (some (decide (t171 ≤ t172))))) else (some false))) = some r := H
          have A67 := Aside0.mk A670
          clear A670
          replace H := Option.bind_eq_some_iff.mp H
          obtain ⟨t170, A680, H⟩ := H
          replace H : (if t169 ≤ t170 then ((fix_Div.f ji5 a2).bind fun t171 => ((fix_Div.f ji6 a2).bind fun t172 => (some (decide (t171 ≤ t172))))) else (some false)) = some r := H
          have A68 := Aside0.mk A680
          clear A680
          by_cases c69 : t169 ≤ t170
          · rw [if_pos c69] at H
            have c69b0 : decide (t169 ≤ t170) = true := decide_eq_true c69
            clear c69
            replace H := Option.bind_eq_some_iff.mp H
            obtain ⟨t171, A700, H⟩ := H
            replace H : ((fix_Div.f ji6 a2).bind fun t172 => (some (decide (t171 ≤ t172)))) = some r := H
            have A70 := Aside0.mk A700
            clear A700
            replace H := Option.bind_eq_some_iff.mp H
            obtain ⟨t172, A710, H⟩ := H
            replace H : (some (decide (t171 ≤ t172))) = some r := H
            have A71 := Aside0.mk A710
            clear A710
            obtain rfl := Option.some.inj H
            go_wp2_with (first | ((with_reducible refine gate_callee (f := 13) rfl ?_); refine goesL_ (some 64) rfl rfl Try.func13 (by kernel_rfl) rfl #[.int .i64 ji5, .int .i64 a2] rfl (by (try simp only [List.map_toArray, List.map_cons, List.map_nil]); first | done | (simp only [hji5]; rfl) | rfl | (simp only [List.length_drop, List.length_take]; rfl)) ?_; (with_reducible refine (fix_Mul.calls ji5 a2 t169 _ A67.out).mono ?_); rintro e w72 ⟨rfl, hb⟩; refine ⟨_, rfl, ?_⟩; have n0_ := Aside0.mk (below_step (by repeat (first | (with_reducible first | exact HB.out | apply below_alloc | apply pw_below_drewN | apply below_drew1) | exact HB.out)) hb); clear HB; have HB := n0_; clear n0_; (try clear hb); (try clear hb2); (try clear hk); (try clear hi)) | ((with_reducible refine gate_callee (f := 13) rfl ?_); refine goesL_ (some 67) rfl rfl Try.func13 (by kernel_rfl) rfl #[.int .i64 ji6, .int .i64 a2] rfl (by (try simp only [List.map_toArray, List.map_cons, List.map_nil]); first | done | (simp only [hji6]; rfl) | rfl | (simp only [List.length_drop, List.length_take]; rfl)) ?_; (with_reducible refine (fix_Mul.calls ji6 a2 t170 _ A68.out).mono ?_); rintro e w73 ⟨rfl, hb⟩; refine ⟨_, rfl, ?_⟩; have n0_ := Aside0.mk (below_step (by repeat (first | (with_reducible first | exact HB.out | apply below_alloc | apply pw_below_drewN | apply below_drew1) | exact HB.out)) hb); clear HB; have HB := n0_; clear n0_; (try clear hb); (try clear hb2); (try clear hk); (try clear hi)) | (go_at_call 16; (with_reducible refine (fix_Div.calls ji5 a2 t171 _ A70.out).mono ?_); rintro e w74 ⟨rfl, hb⟩; have n0_ := Aside0.mk (below_step (by repeat (first | (with_reducible first | exact HB.out | apply below_alloc | apply pw_below_drewN | apply below_drew1) | exact HB.out)) hb); clear HB; have HB := n0_; clear n0_; (try clear hb); (try clear hb2); (try clear hk); (try clear hi)) | (go_at_call 16; (with_reducible refine (fix_Div.calls ji6 a2 t172 _ A71.out).mono ?_); rintro e w75 ⟨rfl, hb⟩; have n0_ := Aside0.mk (below_step (by repeat (first | (with_reducible first | exact HB.out | apply below_alloc | apply pw_below_drewN | apply below_drew1) | exact HB.out)) hb); clear HB; have HB := n0_; clear n0_; (try clear hb); (try clear hb2); (try clear hk); (try clear hi)))
            go_ret
            exact ⟨by first | rfl | (simp [errW_none, errW_some] <;> rfl) | (simp only [← hji5, ← hji6]; first | rfl | (simp [errW_none, errW_some] <;> rfl)) | (simp [*, errW_none, errW_some] <;> rfl), by repeat (first | (with_reducible first | exact HB.out | apply below_alloc | apply pw_below_drewN | apply below_drew1) | exact HB.out)⟩
          · rw [if_neg c69] at H
            have c69b0 : decide (t169 ≤ t170) = false := decide_eq_false c69
            clear c69
            obtain rfl := Option.some.inj H
            go_wp2_with (first | ((with_reducible refine gate_callee (f := 13) rfl ?_); refine goesL_ (some 64) rfl rfl Try.func13 (by kernel_rfl) rfl #[.int .i64 ji5, .int .i64 a2] rfl (by (try simp only [List.map_toArray, List.map_cons, List.map_nil]); first | done | (simp only [hji5]; rfl) | rfl | (simp only [List.length_drop, List.length_take]; rfl)) ?_; (with_reducible refine (fix_Mul.calls ji5 a2 t169 _ A67.out).mono ?_); rintro e w76 ⟨rfl, hb⟩; refine ⟨_, rfl, ?_⟩; have n0_ := Aside0.mk (below_step (by repeat (first | (with_reducible first | exact HB.out | apply below_alloc | apply pw_below_drewN | apply below_drew1) | exact HB.out)) hb); clear HB; have HB := n0_; clear n0_; (try clear hb); (try clear hb2); (try clear hk); (try clear hi)) | ((with_reducible refine gate_callee (f := 13) rfl ?_); refine goesL_ (some 67) rfl rfl Try.func13 (by kernel_rfl) rfl #[.int .i64 ji6, .int .i64 a2] rfl (by (try simp only [List.map_toArray, List.map_cons, List.map_nil]); first | done | (simp only [hji6]; rfl) | rfl | (simp only [List.length_drop, List.length_take]; rfl)) ?_; (with_reducible refine (fix_Mul.calls ji6 a2 t170 _ A68.out).mono ?_); rintro e w77 ⟨rfl, hb⟩; refine ⟨_, rfl, ?_⟩; have n0_ := Aside0.mk (below_step (by repeat (first | (with_reducible first | exact HB.out | apply below_alloc | apply pw_below_drewN | apply below_drew1) | exact HB.out)) hb); clear HB; have HB := n0_; clear n0_; (try clear hb); (try clear hb2); (try clear hk); (try clear hi)))
            go_ret
            exact ⟨by first | rfl | (simp [errW_none, errW_some] <;> rfl) | (simp only [← hji5, ← hji6]; first | rfl | (simp [errW_none, errW_some] <;> rfl)) | (simp [*, errW_none, errW_some] <;> rfl), by repeat (first | (with_reducible first | exact HB.out | apply below_alloc | apply pw_below_drewN | apply below_drew1) | exact HB.out)⟩

/-- THE ONE PURE STATEMENT of analemmalaw02_FixRises: yours. -/
def analemmalaw02_FixRises.Pure : Prop := ∀ (a0 : Int) (a1 : Int) (a2 : Int) (a3 : Int), (Lit.int .i64 a0).wf = true → (Lit.int .i64 a1).wf = true → (Lit.int .i64 a2).wf = true → (Lit.int .i64 a3).wf = true → ∃ k, analemmalaw02_FixRises.f k a0 a1 a2 a3 = some true
theorem analemmalaw02_FixRises.walk (P : analemmalaw02_FixRises.Pure) (a0 : Int) (a1 : Int) (a2 : Int) (a3 : Int) (w : World) (w0 : (Lit.int .i64 a0).wf = true) (w1 : (Lit.int .i64 a1).wf = true) (w2 : (Lit.int .i64 a2).wf = true) (w3 : (Lit.int .i64 a3).wf = true) :
    Calls Try.prog 7 #[.int .i64 a0, .int .i64 a1, .int .i64 a2, .int .i64 a3] w fun e w' => e = .returned (.bool true) ∧ Below w.heap.size w w' := by
  obtain ⟨k, h⟩ := P a0 a1 a2 a3 w0 w1 w2 w3
  refine (analemmalaw02_FixRises.calls k a0 a1 a2 a3 true w h).mono ?_
  rintro e w' ⟨rfl, hd⟩
  exact ⟨rfl, hd⟩

/-! ### wide_Plus: function 43 -/
def wide_Plus.f (a0 : Int) (a1 : Int) (a2 : Int) (a3 : Int) : Option (Int × Int × Bool) :=
  if (IntKind.u64.wrap (a1 + a3)) < a1 then (if (IntKind.u64.wrap (a0 + a2)) < a0 then (some (IntKind.u64.wrap ((IntKind.u64.wrap (a0 + a2)) + 1), IntKind.u64.wrap (a1 + a3), true)) else (some (IntKind.u64.wrap ((IntKind.u64.wrap (a0 + a2)) + 1), IntKind.u64.wrap (a1 + a3), ((IntKind.u64.wrap ((IntKind.u64.wrap (a0 + a2)) + 1)) == 0)))) else (some (IntKind.u64.wrap (a0 + a2), IntKind.u64.wrap (a1 + a3), decide ((IntKind.u64.wrap (a0 + a2)) < a0)))
set_option maxHeartbeats 8000000 in
set_option maxRecDepth 100000 in
theorem wide_Plus.calls (a0 : Int) (a1 : Int) (a2 : Int) (a3 : Int) (r1 : Int) (r2 : Int) (r3 : Bool) (w : World) (h : wide_Plus.f a0 a1 a2 a3 = some (r1, r2, r3)) :
    Calls Try.prog 43 #[.int .u64 a0, .int .u64 a1, .int .u64 a2, .int .u64 a3] w fun e w' => e = .returned (.tuple #[.int .u64 r1, .int .u64 r2, .bool r3]) ∧ Drawn0 w w' := by
  unfold wide_Plus.f at h
  obtain ⟨x, hx⟩ : ∃ x, IntKind.u64.wrap (a0 + a2) = x := ⟨_, rfl⟩
  obtain ⟨y, hy⟩ : ∃ y, IntKind.u64.wrap (a1 + a3) = y := ⟨_, rfl⟩
  obtain ⟨z, hz⟩ : ∃ z, IntKind.u64.wrap (x + 1) = z := ⟨_, rfl⟩
  rw [hx, hy, hz] at h
  by_cases c : y < a1
  · rw [if_pos c] at h
    have c1 : decide (y < a1) = true := decide_eq_true c
    clear c
    by_cases d : x < a0
    · rw [if_pos d] at h
      have d1 : decide (x < a0) = true := decide_eq_true d
      clear d
      have e := Prod.mk.inj (Option.some.inj h)
      have e2 := Prod.mk.inj e.2
      obtain ⟨rfl, rfl, rfl⟩ : z = r1 ∧ y = r2 ∧ true = r3 := ⟨e.1, e2.1, e2.2⟩
      clear h e e2
      go_enter Try.func43, Try.ntmps43
      go_wp2
      go_ret3
      exact ⟨rfl, Drawn0.refl _⟩
    · rw [if_neg d] at h
      have d1 : decide (x < a0) = false := decide_eq_false d
      clear d
      have e := Prod.mk.inj (Option.some.inj h)
      have e2 := Prod.mk.inj e.2
      obtain ⟨rfl, rfl, rfl⟩ : z = r1 ∧ y = r2 ∧ (z == 0) = r3 := ⟨e.1, e2.1, e2.2⟩
      clear h e e2
      obtain ⟨q, hq⟩ : ∃ q, (z == 0) = q := ⟨_, rfl⟩
      rw [hq]
      go_enter Try.func43, Try.ntmps43
      go_wp2
      go_ret3
      exact ⟨rfl, Drawn0.refl _⟩
  · rw [if_neg c] at h
    have c1 : decide (y < a1) = false := decide_eq_false c
    clear c
    have e := Prod.mk.inj (Option.some.inj h)
    have e2 := Prod.mk.inj e.2
    obtain ⟨q, hq⟩ : ∃ q, decide (x < a0) = q := ⟨_, rfl⟩
    rw [hq] at e2
    obtain ⟨rfl, rfl, rfl⟩ : x = r1 ∧ y = r2 ∧ q = r3 := ⟨e.1, e2.1, e2.2⟩
    clear h e e2
    go_enter Try.func43, Try.ntmps43
    go_wp2
    go_ret3
    exact ⟨rfl, Drawn0.refl _⟩

-- NOT PRINTED: function 20 (fix_Mean)

-- NOT PRINTED: function 8 (analemmalaw02_FixMiddle)

/-! ### analemmaref02_Mean: function 21 -/
def analemmaref02_Mean.l0 : Nat → List Int → Int → Int → Int → Int → Option (Int)
  | 0, _, _, _, _, _ => none
  | k + 1, x0, x3, x4, x5, x6 => if x6 < (x0.length : Int) then (if 0 ≤ x6 then (if x3 = 0 then (none) else (if (wrap64 ((rd x0 x6) - (wrap64 ((wrap64 (Int.tdiv (rd x0 x6) x3)) * x3)))) < 0 then (analemmaref02_Mean.l0 k x0 x3 (wrap64 (x4 + (wrap64 ((wrap64 (Int.tdiv (rd x0 x6) x3)) - 1)))) (wrap64 (x5 + (wrap64 ((wrap64 ((rd x0 x6) - (wrap64 ((wrap64 (Int.tdiv (rd x0 x6) x3)) * x3)))) + x3)))) (wrap64 (x6 + 1))) else (analemmaref02_Mean.l0 k x0 x3 (wrap64 (x4 + (wrap64 (Int.tdiv (rd x0 x6) x3)))) (wrap64 (x5 + (wrap64 ((rd x0 x6) - (wrap64 ((wrap64 (Int.tdiv (rd x0 x6) x3)) * x3)))))) (wrap64 (x6 + 1))))) else (none)) else (if x3 = 0 then (none) else (some (mx (wrap64 (x4 + (wrap64 (Int.tdiv x5 x3)))) (-9223372036854775807))))
def analemmaref02_Mean.f (k : Nat) (l0 : List Int) : Option (Int) := if (l0.length : Int) = 0 then (some 0) else (analemmaref02_Mean.l0 k l0 (l0.length : Int) 0 0 0)
theorem analemmaref02_Mean.mono_l : ∀ k, (∀ y0 y1 y2 y3 y4, LeO (analemmaref02_Mean.l0 k y0 y1 y2 y3 y4) (analemmaref02_Mean.l0 (k + 1) y0 y1 y2 y3 y4))
  | 0 => fun _ _ _ _ _ r h => by simp [analemmaref02_Mean.l0] at h
  | k + 1 => by
    have ih0 := analemmaref02_Mean.mono_l k
    · intro y0 y1 y2 y3 y4
      unfold analemmaref02_Mean.l0
      repeat' first
      | (with_reducible exact ih0 _ _ _ _ _)
      | (with_reducible exact LeO.refl _)
      | (with_reducible exact LeO.none _)
      | (with_reducible refine LeO.ite ?_ ?_)
      | (with_reducible refine LeO.bind ?_ (fun _ => ?_))
      | exact ih0 _ _ _ _ _
      | exact LeO.none _
      | refine LeO.ite ?_ ?_
      | refine LeO.bind ?_ (fun _ => ?_)
theorem analemmaref02_Mean.mono : ∀ a0 k, LeO (analemmaref02_Mean.f k a0) (analemmaref02_Mean.f (k + 1) a0) := by
  intro a0 k
  have ih0 := analemmaref02_Mean.mono_l k
  unfold analemmaref02_Mean.f
  repeat' first
      | (with_reducible exact ih0 _ _ _ _ _)
      | (with_reducible exact LeO.refl _)
      | (with_reducible exact LeO.none _)
      | (with_reducible refine LeO.ite ?_ ?_)
      | (with_reducible refine LeO.bind ?_ (fun _ => ?_))
      | exact ih0 _ _ _ _ _
      | exact LeO.none _
      | refine LeO.ite ?_ ?_
      | refine LeO.bind ?_ (fun _ => ?_)
set_option maxHeartbeats 8000000 in
set_option maxRecDepth 100000 in
theorem analemmaref02_Mean.calls (k : Nat) (A0 : Option Addr) (c0 : Nat) (l0 : List Int) (r : Int) (w : World) (hr0 : Kd.C (Kd.int .i64) w A0 l0.length l0) (hc0 : l0.length ≤ c0) (h : analemmaref02_Mean.f k l0 = some r) :
    Calls Try.prog 21 #[.slice A0 l0.length c0] w fun e w' => e = .returned (.int .i64 r) ∧ Below w.heap.size w w' := by
  have HR0 := Aside0.mk hr0
  have HC0 := Aside0.mk hc0
  clear hr0 hc0
  have HB := Aside0.mk (Below.refl w.heap.size w)
  have H : (if (l0.length : Int) = 0 then (some 0) else (analemmaref02_Mean.l0 k l0 (l0.length : Int) 0 0 0)) = some r := h
  clear h
  by_cases c2 : (l0.length : Int) = 0
  · rw [if_pos c2] at H
    have c2b0 : ((l0.length : Int) == 0) = true := beq_iff_eq.mpr c2
    have c2b1 : ((l0.length : Int) != 0) = false := bne_eq_false_iff_eq.mpr c2
    clear c2
    obtain rfl := Option.some.inj H
    go_enter Try.func21, Try.ntmps21
    go_wp2
    go_ret
    exact ⟨by first | rfl | (simp [errW_none, errW_some] <;> rfl) | (simp [*, errW_none, errW_some] <;> rfl), by repeat (first | (with_reducible first | exact HB.out | apply below_alloc | apply pw_below_drewN | apply below_drew1) | exact HB.out)⟩
  · rw [if_neg c2] at H
    have c2b0 : ((l0.length : Int) == 0) = false := beq_eq_false_iff_ne.mpr c2
    have c2b1 : ((l0.length : Int) != 0) = true := bne_iff_ne.mpr c2
    have c2b2 : ¬ (l0 = []) := fun h_ => c2 (by rw [h_]; rfl)
    have H' := Aside0.mk H
    clear H
    go_enter Try.func21, Try.ntmps21
    go_wp2
    go_loopg [4, 5, 6] k (fun kq v4 v5 v6 w' => ∃ (x4_1 : Int) (x5_1 : Int) (x6_1 : Int), v4 = .int .i64 x4_1 ∧ v5 = .int .i64 x5_1 ∧ v6 = .int .i64 x6_1 ∧ Aside0 (analemmaref02_Mean.l0 kq l0 (l0.length : Int) x4_1 x5_1 x6_1 = some r) ∧ Aside0 (kq ≤ k) ∧ Aside0 (Below w.heap.size w w'))
    case atStart => exact ⟨(0), (0), (0), (by first | rfl | (simp; done) | (simp [*]; done)), (by first | rfl | (simp; done) | (simp [*]; done)), (by first | rfl | (simp; done) | (simp [*]; done)), H', ⟨Nat.le_refl _⟩, ⟨by repeat (first | (with_reducible first | exact HB.out | apply below_alloc | apply pw_below_drewN | apply below_drew1) | exact HB.out)⟩⟩
    case round =>
      clear H'
      try clear c2
      try clear c2b0
      try clear c2b1
      try clear c2b2
      try clear p2
      obtain ⟨x4_1, x5_1, x6_1, rfl, rfl, rfl, HA, HK1, HB⟩ := hrel
      cases gk with
      | zero => exact absurd HA.out (by simp [analemmaref02_Mean.l0])
      | succ k1 =>
        have H := HA.out
        clear HA
        simp only [analemmaref02_Mean.l0] at H
        by_cases c3 : x6_1 < (l0.length : Int)
        · rw [if_pos c3] at H
          have c3b0 : decide (x6_1 < (l0.length : Int)) = true := decide_eq_true c3
          clear c3
          by_cases c4 : 0 ≤ x6_1
          · rw [if_pos c4] at H
            have c4b0 : decide (0 ≤ x6_1) = true := decide_eq_true c4
            clear c4
            by_cases c5 : (l0.length : Int) = 0
            · rw [if_pos c5] at H
              exact absurd H (by simp)
            · rw [if_neg c5] at H
              have c5b0 : ((l0.length : Int) == 0) = false := beq_eq_false_iff_ne.mpr c5
              have c5b1 : ((l0.length : Int) != 0) = true := bne_iff_ne.mpr c5
              have c5b2 : ¬ (l0 = []) := fun h_ => c5 (by rw [h_]; rfl)
              by_cases c6 : (wrap64 ((rd l0 x6_1) - (wrap64 ((wrap64 (Int.tdiv (rd l0 x6_1) (l0.length : Int))) * (l0.length : Int))))) < 0
              · rw [if_pos c6] at H
                have c6b0 : decide ((wrap64 ((rd l0 x6_1) - (wrap64 ((wrap64 (Int.tdiv (rd l0 x6_1) (l0.length : Int))) * (l0.length : Int))))) < 0) = true := decide_eq_true c6
                clear c6
                have H' := Aside0.mk H
                clear H
                have p173 : 0 ≤ (x6_1 : Int) := of_decide_eq_true (by first | (with_reducible assumption) | assumption)
                have q173 : x6_1 < (l0.length : Int) := of_decide_eq_true (by first | (with_reducible assumption) | assumption)
                obtain ⟨ad173, e173, hx173_0⟩ := Kd.at_int HR0.out x6_1 p173 q173
                cases e173
                replace hx173_0 := (HB.out.cell (World.block_lt_of_cell? w _ hx173_0)).trans hx173_0
                replace p173 := eq_true p173
                replace q173 := eq_true q173
                have p174 : 0 ≤ (x6_1 : Int) := of_decide_eq_true (by first | (with_reducible assumption) | assumption)
                have q174 : x6_1 < (l0.length : Int) := of_decide_eq_true (by first | (with_reducible assumption) | assumption)
                obtain ⟨ad174, e174, hx174_0⟩ := Kd.at_int HR0.out x6_1 p174 q174
                obtain rfl : ad173 = ad174 := (by injection e174)
                replace hx174_0 := (HB.out.cell (World.block_lt_of_cell? w _ hx174_0)).trans hx174_0
                replace p174 := eq_true p174
                replace q174 := eq_true q174
                go_wp2
                go_roundg k1
                case measure => have := HK1.out; omega
                case rel => exact ⟨(wrap64 (x4_1 + (wrap64 ((wrap64 (Int.tdiv (rd l0 x6_1) (l0.length : Int))) - 1)))), (wrap64 (x5_1 + (wrap64 ((wrap64 ((rd l0 x6_1) - (wrap64 ((wrap64 (Int.tdiv (rd l0 x6_1) (l0.length : Int))) * (l0.length : Int))))) + (l0.length : Int))))), (wrap64 (x6_1 + 1)), (by first | rfl | (simp; done) | (simp [*]; done)), (by first | rfl | (simp; done) | (simp [*]; done)), (by first | rfl | (simp; done) | (simp [*]; done)), H', ⟨by have := HK1.out; omega⟩, ⟨by repeat (first | (with_reducible first | exact HB.out | apply below_alloc | apply pw_below_drewN | apply below_drew1) | exact HB.out)⟩⟩
              · rw [if_neg c6] at H
                have c6b0 : decide ((wrap64 ((rd l0 x6_1) - (wrap64 ((wrap64 (Int.tdiv (rd l0 x6_1) (l0.length : Int))) * (l0.length : Int))))) < 0) = false := decide_eq_false c6
                clear c6
                have H' := Aside0.mk H
                clear H
                have p173 : 0 ≤ (x6_1 : Int) := of_decide_eq_true (by first | (with_reducible assumption) | assumption)
                have q173 : x6_1 < (l0.length : Int) := of_decide_eq_true (by first | (with_reducible assumption) | assumption)
                obtain ⟨ad173, e173, hx173_0⟩ := Kd.at_int HR0.out x6_1 p173 q173
                cases e173
                replace hx173_0 := (HB.out.cell (World.block_lt_of_cell? w _ hx173_0)).trans hx173_0
                replace p173 := eq_true p173
                replace q173 := eq_true q173
                have p174 : 0 ≤ (x6_1 : Int) := of_decide_eq_true (by first | (with_reducible assumption) | assumption)
                have q174 : x6_1 < (l0.length : Int) := of_decide_eq_true (by first | (with_reducible assumption) | assumption)
                obtain ⟨ad174, e174, hx174_0⟩ := Kd.at_int HR0.out x6_1 p174 q174
                obtain rfl : ad173 = ad174 := (by injection e174)
                replace hx174_0 := (HB.out.cell (World.block_lt_of_cell? w _ hx174_0)).trans hx174_0
                replace p174 := eq_true p174
                replace q174 := eq_true q174
                go_wp2
                go_roundg k1
                case measure => have := HK1.out; omega
                case rel => exact ⟨(wrap64 (x4_1 + (wrap64 (Int.tdiv (rd l0 x6_1) (l0.length : Int))))), (wrap64 (x5_1 + (wrap64 ((rd l0 x6_1) - (wrap64 ((wrap64 (Int.tdiv (rd l0 x6_1) (l0.length : Int))) * (l0.length : Int))))))), (wrap64 (x6_1 + 1)), (by first | rfl | (simp; done) | (simp [*]; done)), (by first | rfl | (simp; done) | (simp [*]; done)), (by first | rfl | (simp; done) | (simp [*]; done)), H', ⟨by have := HK1.out; omega⟩, ⟨by repeat (first | (with_reducible first | exact HB.out | apply below_alloc | apply pw_below_drewN | apply below_drew1) | exact HB.out)⟩⟩
          · rw [if_neg c4] at H
            exact absurd H (by simp)
        · rw [if_neg c3] at H
          have c3b0 : decide (x6_1 < (l0.length : Int)) = false := decide_eq_false c3
          clear c3
          by_cases c7 : (l0.length : Int) = 0
          · rw [if_pos c7] at H
            exact absurd H (by simp)
          · rw [if_neg c7] at H
            have c7b0 : ((l0.length : Int) == 0) = false := beq_eq_false_iff_ne.mpr c7
            have c7b1 : ((l0.length : Int) != 0) = true := bne_iff_ne.mpr c7
            have c7b2 : ¬ (l0 = []) := fun h_ => c7 (by rw [h_]; rfl)
            obtain ⟨ji8, hji8⟩ : ∃ j_ : Int, (mx (wrap64 (x4_1 + (wrap64 (Int.tdiv x5_1 (l0.length : Int))))) (-9223372036854775807)) = j_ := ⟨_, rfl⟩
            replace H : (some ji8) = some r := by first | (rw [hji8] at H; exact H) | (simp only [hji8] at H ⊢; exact H)
            have hji8_ : (if (wrap64 (x4_1 + (wrap64 (Int.tdiv x5_1 (l0.length : Int))))) < (-9223372036854775807) then (-9223372036854775807) else (wrap64 (x4_1 + (wrap64 (Int.tdiv x5_1 (l0.length : Int)))))) = ji8 := hji8
            obtain rfl := Option.some.inj H
            go_wp2
            go_ret
            exact ⟨by first | rfl | (simp [errW_none, errW_some] <;> rfl) | (simp only [← hji8]; first | rfl | (simp [errW_none, errW_some] <;> rfl)) | (simp [*, errW_none, errW_some] <;> rfl), by repeat (first | (with_reducible first | exact HB.out | apply below_alloc | apply pw_below_drewN | apply below_drew1) | exact HB.out)⟩

-- NOT PRINTED: function 22 (fix_Root)

/-! ### analemmaref02_size: function 46 -/
def analemmaref02_size.f (a0 : Int) : Option (Int) := if a0 < 0 then (some (IntKind.u64.wrap (-(IntKind.u64.wrap (a0))))) else (some (IntKind.u64.wrap (a0)))
set_option maxHeartbeats 8000000 in
set_option maxRecDepth 100000 in
theorem analemmaref02_size.calls (a0 : Int) (r : Int) (w : World) (h : analemmaref02_size.f a0 = some r) :
    Calls Try.prog 46 #[.int .i64 a0] w fun e w' => e = .returned (.int .u64 r) ∧ Drawn0 w w' := by
  have H : (if a0 < 0 then (some (IntKind.u64.wrap (-(IntKind.u64.wrap (a0))))) else (some (IntKind.u64.wrap (a0)))) = some r := h
  clear h
  by_cases c2 : a0 < 0
  · rw [if_pos c2] at H
    have c2b0 : decide (a0 < 0) = true := decide_eq_true c2
    clear c2
    obtain rfl := Option.some.inj H
    go_enter Try.func46, Try.ntmps46
    go_wp2
    go_ret
    exact ⟨by first | rfl | (simp; done) | (simp [*]; done), by repeat (first | exact Drawn0.refl _ | apply Drawn0.step)⟩
  · rw [if_neg c2] at H
    have c2b0 : decide (a0 < 0) = false := decide_eq_false c2
    clear c2
    obtain rfl := Option.some.inj H
    go_enter Try.func46, Try.ntmps46
    go_wp2
    go_ret
    exact ⟨by first | rfl | (simp; done) | (simp [*]; done), by repeat (first | exact Drawn0.refl _ | apply Drawn0.step)⟩

end Go.Proofs.Ytomjongnjfodmaa.MFix
