/- Functions that the statements of this seat reach, each as a plain Lean function, with a proof that the Go code comes to its answers; no condition. -/
import Derived.Test.YtomjongnjfodmaaMFixx0
import Derived.Test.YtomjongnjfodmaaMFixx1
import Derived.Test.YtomjongnjfodmaaMFixx2
import Derived.Test.YtomjongnjfodmaaMFixx3
import Derived.Test.YtomjongnjfodmaaMFixx4
import Derived.Test.YtomjongnjfodmaaMFixx5
import Derived.Test.YtomjongnjfodmaaMFixx6
import Derived.Test.YtomjongnjfodmaaMFixx7
namespace Go.Proofs.Ytomjongnjfodmaa.MFix
open Go.RowKit Go.Proofs.YtomjongnjfodmaaW.PrintWords Go.Proofs.YtomjongnjfodmaaW.PrintLast Go.Proofs.YtomjongnjfodmaaW.PrintMore
attribute [local go_sem] max2_int min2_int max_two min_two max_three min_three max_four min_four   -- for this text's walks alone
set_option linter.unusedVariables false
set_option linter.unusedSimpArgs false

/-! ### analemmalaw02_FixTells: function 10 -/
def analemmalaw02_FixTells.j0 : Nat → Int → Int → Int → Int → Bool → Option (Bool)
  | 0, _, _, _, _, _ => none
  | k + 1, x0, x1, x2, x3, x49 => if x49 = true then (some false) else ((fix_Shift.f x0 x3).bind fun t244 => ((analemmaref02_Shift.f k x0 x3).bind fun t245 => (if t244 = t245 then ((fix_Pow.f x3).bind fun t246 => ((analemmaref02_Pow.f k x3).bind fun t247 => (if t246 = t247 then ((fix_Log.f x0).bind fun t248 => ((analemmaref02_Log.f k x0).bind fun t249 => (if t248 = t249 then ((fix_Sqrt.f k x0).bind fun t250 => ((analemmaref02_Sqrt.f k x0).bind fun t251 => (if t250 = t251 then ((fix_Clamp.f x0 x1 x2).bind fun t252 => ((analemmaref02_Clamp.f x0 x1 x2).bind fun t253 => (if t252 = t253 then ((analemmalaw02_shown.f k).bind fun t254 => (some t254)) else (some false)))) else (some false)))) else (some false)))) else (some false)))) else (some false))))
def analemmalaw02_FixTells.f (k : Nat) (a0 : Int) (a1 : Int) (a2 : Int) (a3 : Int) : Option (Bool) := (fix_Add.f k a0 a1).bind fun t234 => ((analemmaref02_Add.f k a0 a1).bind fun t235 => (if t234 = t235 then ((fix_Sub.f k a0 a1).bind fun t236 => ((analemmaref02_Sub.f k a0 a1).bind fun t237 => (if t236 = t237 then ((fix_Abs.f a0).bind fun t238 => ((analemmaref02_Abs.f k a0).bind fun t239 => (if t238 = t239 then ((fix_Mul.f a0 a1).bind fun t240 => ((analemmaref02_Mul.f k a0 a1).bind fun t241 => (if t240 = t241 then ((fix_Div.f a0 a1).bind fun t242 => ((analemmaref02_Div.f k a0 a1).bind fun t243 => (analemmalaw02_FixTells.j0 k a0 a1 a2 a3 (t242 != t243)))) else (analemmalaw02_FixTells.j0 k a0 a1 a2 a3 true)))) else (analemmalaw02_FixTells.j0 k a0 a1 a2 a3 true)))) else (analemmalaw02_FixTells.j0 k a0 a1 a2 a3 true)))) else (analemmalaw02_FixTells.j0 k a0 a1 a2 a3 true)))
theorem analemmalaw02_FixTells.mono_l : ∀ k, (∀ y0 y1 y2 y3 y4, LeO (analemmalaw02_FixTells.j0 k y0 y1 y2 y3 y4) (analemmalaw02_FixTells.j0 (k + 1) y0 y1 y2 y3 y4))
  | 0 => fun _ _ _ _ _ r h => by simp [analemmalaw02_FixTells.j0] at h
  | k + 1 => by
    have ih0 := analemmalaw02_FixTells.mono_l k
    · intro y0 y1 y2 y3 y4
      unfold analemmalaw02_FixTells.j0
      repeat' first
      | (with_reducible exact ih0 _ _ _ _ _)
      | (with_reducible exact analemmalaw02_shown.mono _)
      | (with_reducible exact analemmaref02_Abs.mono _ _)
      | (with_reducible exact analemmaref02_Add.mono _ _ _)
      | (with_reducible exact analemmaref02_Div.mono _ _ _)
      | (with_reducible exact analemmaref02_Log.mono _ _)
      | (with_reducible exact analemmaref02_Mul.mono _ _ _)
      | (with_reducible exact analemmaref02_Pow.mono _ _)
      | (with_reducible exact analemmaref02_Shift.mono _ _ _)
      | (with_reducible exact analemmaref02_Sqrt.mono _ _)
      | (with_reducible exact analemmaref02_Sub.mono _ _ _)
      | (with_reducible exact fix_Add.mono _ _ _)
      | (with_reducible exact fix_Sqrt.mono _ _)
      | (with_reducible exact fix_Sub.mono _ _ _)
      | (with_reducible exact LeO.refl _)
      | (with_reducible exact LeO.none _)
      | (with_reducible refine LeO.ite ?_ ?_)
      | (with_reducible refine LeO.bind ?_ (fun _ => ?_))
      | exact ih0 _ _ _ _ _
      | exact analemmalaw02_shown.mono _
      | exact analemmaref02_Abs.mono _ _
      | exact analemmaref02_Add.mono _ _ _
      | exact analemmaref02_Div.mono _ _ _
      | exact analemmaref02_Log.mono _ _
      | exact analemmaref02_Mul.mono _ _ _
      | exact analemmaref02_Pow.mono _ _
      | exact analemmaref02_Shift.mono _ _ _
      | exact analemmaref02_Sqrt.mono _ _
      | exact analemmaref02_Sub.mono _ _ _
      | exact fix_Add.mono _ _ _
      | exact fix_Sqrt.mono _ _
      | exact fix_Sub.mono _ _ _
      | exact LeO.none _
      | refine LeO.ite ?_ ?_
      | refine LeO.bind ?_ (fun _ => ?_)
theorem analemmalaw02_FixTells.mono : ∀ a0 a1 a2 a3 k, LeO (analemmalaw02_FixTells.f k a0 a1 a2 a3) (analemmalaw02_FixTells.f (k + 1) a0 a1 a2 a3) := by
  intro a0 a1 a2 a3 k
  have ih0 := analemmalaw02_FixTells.mono_l k
  unfold analemmalaw02_FixTells.f
  repeat' first
      | (with_reducible exact ih0 _ _ _ _ _)
      | (with_reducible exact analemmalaw02_shown.mono _)
      | (with_reducible exact analemmaref02_Abs.mono _ _)
      | (with_reducible exact analemmaref02_Add.mono _ _ _)
      | (with_reducible exact analemmaref02_Div.mono _ _ _)
      | (with_reducible exact analemmaref02_Log.mono _ _)
      | (with_reducible exact analemmaref02_Mul.mono _ _ _)
      | (with_reducible exact analemmaref02_Pow.mono _ _)
      | (with_reducible exact analemmaref02_Shift.mono _ _ _)
      | (with_reducible exact analemmaref02_Sqrt.mono _ _)
      | (with_reducible exact analemmaref02_Sub.mono _ _ _)
      | (with_reducible exact fix_Add.mono _ _ _)
      | (with_reducible exact fix_Sqrt.mono _ _)
      | (with_reducible exact fix_Sub.mono _ _ _)
      | (with_reducible exact LeO.refl _)
      | (with_reducible exact LeO.none _)
      | (with_reducible refine LeO.ite ?_ ?_)
      | (with_reducible refine LeO.bind ?_ (fun _ => ?_))
      | exact ih0 _ _ _ _ _
      | exact analemmalaw02_shown.mono _
      | exact analemmaref02_Abs.mono _ _
      | exact analemmaref02_Add.mono _ _ _
      | exact analemmaref02_Div.mono _ _ _
      | exact analemmaref02_Log.mono _ _
      | exact analemmaref02_Mul.mono _ _ _
      | exact analemmaref02_Pow.mono _ _
      | exact analemmaref02_Shift.mono _ _ _
      | exact analemmaref02_Sqrt.mono _ _
      | exact analemmaref02_Sub.mono _ _ _
      | exact fix_Add.mono _ _ _
      | exact fix_Sqrt.mono _ _
      | exact fix_Sub.mono _ _ _
      | exact LeO.none _
      | refine LeO.ite ?_ ?_
      | refine LeO.bind ?_ (fun _ => ?_)
set_option maxHeartbeats 8000000 in
set_option maxRecDepth 100000 in
theorem analemmalaw02_FixTells.calls (k : Nat) (a0 : Int) (a1 : Int) (a2 : Int) (a3 : Int) (r : Bool) (w : World) (h : analemmalaw02_FixTells.f k a0 a1 a2 a3 = some r) :
    Calls Try.prog 10 #[.int .i64 a0, .int .i64 a1, .int .i64 a2, .int .i64 a3] w fun e w' => e = .returned (.bool r) ∧ Below w.heap.size w w' := by
  have HB := Aside0.mk (Below.refl w.heap.size w)
  have H : ((fix_Add.f k a0 a1).bind fun t234 => ((analemmaref02_Add.f k a0 a1).bind fun t235 => (if t234 = t235 then ((fix_Sub.f k a0 a1).bind fun t236 => ((analemmaref02_Sub.f k a0 a1).bind fun t237 => (if t236 = t237 then ((fix_Abs.f a0).bind fun t238 => ((analemmaref02_Abs.f k a0).bind fun t239 => (if t238 = t239 then ((fix_Mul.f a0 a1).bind fun t240 => ((analemmaref02_Mul.f k a0 a1).bind fun t241 => (if t240 = t241 then ((fix_Div.f a0 a1).bind fun t242 => ((analemmaref02_Div.f k a0 a1).bind fun t243 => (analemmalaw02_FixTells.j0 k a0 a1 a2 a3 (t242 != t243)))) else (analemmalaw02_FixTells.j0 k a0 a1 a2 a3 true)))) else (analemmalaw02_FixTells.j0 k a0 a1 a2 a3 true)))) else (analemmalaw02_FixTells.j0 k a0 a1 a2 a3 true)))) else (analemmalaw02_FixTells.j0 k a0 a1 a2 a3 true)))) = some r := h
  clear h
  have HC5 := Aside0.mk H
  clear H
  go_enter Try.func10, Try.ntmps10
  go_upto_region 1 with (fail)
  go_cut [49] (fun v49 wc => ∃ (kq : Nat) (x49_4 : Bool), v49 = .bool x49_4 ∧ Aside0 (analemmalaw02_FixTells.j0 kq a0 a1 a2 a3 x49_4 = some r) ∧ Aside0 (kq ≤ k) ∧ Aside0 (Below w.heap.size w wc))
  case first =>
    have H := HC5.out
    clear HC5
    replace H := Option.bind_eq_some_iff.mp H
    obtain ⟨t234, A60, H⟩ := H
    replace H : ((analemmaref02_Add.f k a0 a1).bind fun t235 => (if t234 = t235 then ((fix_Sub.f k a0 a1).bind fun t236 => ((analemmaref02_Sub.f k a0 a1).bind fun t237 => (if t236 = t237 then ((fix_Abs.f a0).bind fun t238 => ((analemmaref02_Abs.f k a0).bind fun t239 => (if t238 = t239 then ((fix_Mul.f a0 a1).bind fun t240 => ((analemmaref02_Mul.f k a0 a1).bind fun t241 => (if t240 = t241 then ((fix_Div.f a0 a1).bind fun t242 => ((analemmaref02_Div.f k a0 a1).bind fun t243 => (analemmalaw02_FixTells.j0 k a0 a1 a2 a3 (t242 != t243)))) else (analemmalaw02_FixTells.j0 k a0 a1 a2 a3 true)))) else (analemmalaw02_FixTells.j0 k a0 a1 a2 a3 true)))) else (analemmalaw02_FixTells.j0 k a0 a1 a2 a3 true)))) else (analemmalaw02_FixTells.j0 k a0 a1 a2 a3 true))) = some r := H
    have A6 := Aside0.mk A60
    clear A60
    replace H := Option.bind_eq_some_iff.mp H
    obtain ⟨t235, A70, H⟩ := H
    replace H : (if t234 = t235 then ((fix_Sub.f k a0 a1).bind fun t236 => ((analemmaref02_Sub.f k a0 a1).bind fun t237 => (if t236 = t237 then ((fix_Abs.f a0).bind fun t238 => ((analemmaref02_Abs.f k a0).bind fun t239 => (if t238 = t239 then ((fix_Mul.f a0 a1).bind fun t240 => ((analemmaref02_Mul.f k a0 a1).bind fun t241 => (if t240 = t241 then ((fix_Div.f a0 a1).bind fun t242 => ((analemmaref02_Div.f k a0 a1).bind fun t243 => (analemmalaw02_FixTells.j0 k a0 a1 a2 a3 (t242 != t243)))) else (analemmalaw02_FixTells.j0 k a0 a1 a2 a3 true)))) else (analemmalaw02_FixTells.j0 k a0 a1 a2 a3 true)))) else (analemmalaw02_FixTells.j0 k a0 a1 a2 a3 true)))) else (analemmalaw02_FixTells.j0 k a0 a1 a2 a3 true)) = some r := H
    have A7 := Aside0.mk A70
    clear A70
    by_cases c8 : t234 = t235
    · rw [if_pos c8] at H
      have c8b0 : (t234 == t235) = true := beq_iff_eq.mpr c8
      have c8b1 : (t234 != t235) = false := bne_eq_false_iff_eq.mpr c8
      clear c8
      (first | rw [c8b0] | (simp only [i64_w, i32_w]; rw [c8b0]) | skip)
      replace H := Option.bind_eq_some_iff.mp H
      obtain ⟨t236, A90, H⟩ := H
      replace H : ((analemmaref02_Sub.f k a0 a1).bind fun t237 => (if t236 = t237 then ((fix_Abs.f a0).bind fun t238 => ((analemmaref02_Abs.f k a0).bind fun t239 => (if t238 = t239 then ((fix_Mul.f a0 a1).bind fun t240 => ((analemmaref02_Mul.f k a0 a1).bind fun t241 => (if t240 = t241 then ((fix_Div.f a0 a1).bind fun t242 => ((analemmaref02_Div.f k a0 a1).bind fun t243 => (analemmalaw02_FixTells.j0 k a0 a1 a2 a3 (t242 != t243)))) else (analemmalaw02_FixTells.j0 k a0 a1 a2 a3 true)))) else (analemmalaw02_FixTells.j0 k a0 a1 a2 a3 true)))) else (analemmalaw02_FixTells.j0 k a0 a1 a2 a3 true))) = some r := H
      have A9 := Aside0.mk A90
      clear A90
      replace H := Option.bind_eq_some_iff.mp H
      obtain ⟨t237, A100, H⟩ := H
      replace H : (if t236 = t237 then ((fix_Abs.f a0).bind fun t238 => ((analemmaref02_Abs.f k a0).bind fun t239 => (if t238 = t239 then ((fix_Mul.f a0 a1).bind fun t240 => ((analemmaref02_Mul.f k a0 a1).bind fun t241 => (if t240 = t241 then ((fix_Div.f a0 a1).bind fun t242 => ((analemmaref02_Div.f k a0 a1).bind fun t243 => (analemmalaw02_FixTells.j0 k a0 a1 a2 a3 (t242 != t243)))) else (analemmalaw02_FixTells.j0 k a0 a1 a2 a3 true)))) else (analemmalaw02_FixTells.j0 k a0 a1 a2 a3 true)))) else (analemmalaw02_FixTells.j0 k a0 a1 a2 a3 true)) = some r := H
      have A10 := Aside0.mk A100
      clear A100
      by_cases c11 : t236 = t237
      · rw [if_pos c11] at H
        have c11b0 : (t236 == t237) = true := beq_iff_eq.mpr c11
        have c11b1 : (t236 != t237) = false := bne_eq_false_iff_eq.mpr c11
        clear c11
        replace H := Option.bind_eq_some_iff.mp H
        obtain ⟨t238, A120, H⟩ := H
        replace H : ((analemmaref02_Abs.f k a0).bind fun t239 => (if t238 = t239 then ((fix_Mul.f a0 a1).bind fun t240 => ((analemmaref02_Mul.f k a0 a1).bind fun t241 => (if t240 = t241 then ((fix_Div.f a0 a1).bind fun t242 => ((analemmaref02_Div.f k a0 a1).bind fun t243 => (analemmalaw02_FixTells.j0 k a0 a1 a2 a3 (t242 != t243)))) else (analemmalaw02_FixTells.j0 k a0 a1 a2 a3 true)))) else (analemmalaw02_FixTells.j0 k a0 a1 a2 a3 true))) = some r := H
        have A12 := Aside0.mk A120
        clear A120
        replace H := Option.bind_eq_some_iff.mp H
        obtain ⟨t239, A130, H⟩ := H
        replace H : (if t238 = t239 then ((fix_Mul.f a0 a1).bind fun t240 => ((analemmaref02_Mul.f k a0 a1).bind fun t241 => (if t240 = t241 then ((fix_Div.f a0 a1).bind fun t242 => ((analemmaref02_Div.f k a0 a1).bind fun t243 => (analemmalaw02_FixTells.j0 k a0 a1 a2 a3 (t242 != t243)))) else (analemmalaw02_FixTells.j0 k a0 a1 a2 a3 true)))) else (analemmalaw02_FixTells.j0 k a0 a1 a2 a3 true)) = some r := H
        have A13 := Aside0.mk A130
        clear A130
        by_cases c14 : t238 = t239
        · rw [if_pos c14] at H
          have c14b0 : (t238 == t239) = true := beq_iff_eq.mpr c14
          have c14b1 : (t238 != t239) = false := bne_eq_false_iff_eq.mpr c14
          clear c14
          replace H := Option.bind_eq_some_iff.mp H
          obtain ⟨t240, A150, H⟩ := H
          replace H : ((analemmaref02_Mul.f k a0 a1).bind fun t241 => (if t240 = t241 then ((fix_Div.f a0 a1).bind fun t242 => ((analemmaref02_Div.f k a0 a1).bind fun t243 => (analemmalaw02_FixTells.j0 k a0 a1 a2 a3 (t242 != t243)))) else (analemmalaw02_FixTells.j0 k a0 a1 a2 a3 true))) = some r := H
          have A15 := Aside0.mk A150
          clear A150
          replace H := Option.bind_eq_some_iff.mp H
          obtain ⟨t241, A160, H⟩ := H
          replace H : (if t240 = t241 then ((fix_Div.f a0 a1).bind fun t242 => ((analemmaref02_Div.f k a0 a1).bind fun t243 => (analemmalaw02_FixTells.j0 k a0 a1 a2 a3 (t242 != t243)))) else (analemmalaw02_FixTells.j0 k a0 a1 a2 a3 true)) = some r := H
          have A16 := Aside0.mk A160
          clear A160
          by_cases c17 : t240 = t241
          · rw [if_pos c17] at H
            have c17b0 : (t240 == t241) = true := beq_iff_eq.mpr c17
            have c17b1 : (t240 != t241) = false := bne_eq_false_iff_eq.mpr c17
            clear c17
            replace H := Option.bind_eq_some_iff.mp H
            obtain ⟨t242, A180, H⟩ := H
            replace H : ((analemmaref02_Div.f k a0 a1).bind fun t243 => (analemmalaw02_FixTells.j0 k a0 a1 a2 a3 (t242 != t243))) = some r := H
            have A18 := Aside0.mk A180
            clear A180
            replace H := Option.bind_eq_some_iff.mp H
            obtain ⟨t243, A190, H⟩ := H
            replace H : (analemmalaw02_FixTells.j0 k a0 a1 a2 a3 (t242 != t243)) = some r := H
            have A19 := Aside0.mk A190
            clear A190
            have H' := Aside0.mk H
            clear H
            go_wp2_with (first | ((with_reducible refine gate_callee (f := 18) rfl ?_); refine goesL_ (some 11) rfl rfl Try.func18 (by kernel_rfl) rfl #[.int .i64 a0, .int .i64 a1] rfl (by (try simp only [List.map_toArray, List.map_cons, List.map_nil]); first | done | rfl | (simp only [List.length_drop, List.length_take]; rfl)) ?_; (with_reducible refine (fix_Add.calls k a0 a1 t234 _ A6.out).mono ?_); rintro e w20 ⟨rfl, hb⟩; refine ⟨_, rfl, ?_⟩; have n0_ := Aside0.mk (below_step (by repeat (first | (with_reducible first | exact HB.out | apply below_alloc | apply pw_below_drewN | apply below_drew1) | exact HB.out)) hb); clear HB; have HB := n0_; clear n0_; (try clear hb); (try clear hb2); (try clear hk); (try clear hi)) | ((with_reducible refine gate_callee (f := 24) rfl ?_); refine goesL_ (some 14) rfl rfl Try.func24 (by kernel_rfl) rfl #[.int .i64 a0, .int .i64 a1] rfl (by (try simp only [List.map_toArray, List.map_cons, List.map_nil]); first | done | rfl | (simp only [List.length_drop, List.length_take]; rfl)) ?_; (with_reducible refine (analemmaref02_Add.calls k a0 a1 t235 _ A7.out).mono ?_); rintro e w21 ⟨rfl, hb⟩; refine ⟨_, rfl, ?_⟩; have n0_ := Aside0.mk (below_step (by repeat (first | (with_reducible first | exact HB.out | apply below_alloc | apply pw_below_drewN | apply below_drew1) | exact HB.out)) hb); clear HB; have HB := n0_; clear n0_; (try clear hb); (try clear hb2); (try clear hk); (try clear hi)) | (go_at_call 17; (with_reducible refine (fix_Sub.calls k a0 a1 t236 _ A9.out).mono ?_); rintro e w22 ⟨rfl, hb⟩; have n0_ := Aside0.mk (below_step (by repeat (first | (with_reducible first | exact HB.out | apply below_alloc | apply pw_below_drewN | apply below_drew1) | exact HB.out)) hb); clear HB; have HB := n0_; clear n0_; (try clear hb); (try clear hb2); (try clear hk); (try clear hi)) | (go_at_call 25; (with_reducible refine (analemmaref02_Sub.calls k a0 a1 t237 _ A10.out).mono ?_); rintro e w23 ⟨rfl, hb⟩; have n0_ := Aside0.mk (below_step (by repeat (first | (with_reducible first | exact HB.out | apply below_alloc | apply pw_below_drewN | apply below_drew1) | exact HB.out)) hb); clear HB; have HB := n0_; clear n0_; (try clear hb); (try clear hb2); (try clear hk); (try clear hi)) | (go_at_call 26; (with_reducible refine (fix_Abs.calls a0 t238 _ A12.out).mono ?_); rintro e w24 ⟨rfl, hb⟩; have n0_ := Aside0.mk (below_step (by repeat (first | (with_reducible first | exact HB.out | apply below_alloc | apply pw_below_drewN | apply below_drew1) | exact HB.out)) hb); clear HB; have HB := n0_; clear n0_; (try clear hb); (try clear hb2); (try clear hk); (try clear hi)) | (go_at_call 27; (with_reducible refine (analemmaref02_Abs.calls k a0 t239 _ A13.out).mono ?_); rintro e w' ⟨rfl, ⟨nd, rfl⟩⟩) | (go_at_call 13; (with_reducible refine (fix_Mul.calls a0 a1 t240 _ A15.out).mono ?_); rintro e w25 ⟨rfl, hb⟩; have n0_ := Aside0.mk (below_step (by repeat (first | (with_reducible first | exact HB.out | apply below_alloc | apply pw_below_drewN | apply below_drew1) | exact HB.out)) hb); clear HB; have HB := n0_; clear n0_; (try clear hb); (try clear hb2); (try clear hk); (try clear hi)) | (go_at_call 28; (with_reducible refine (analemmaref02_Mul.calls k a0 a1 t241 _ A16.out).mono ?_); rintro e w' ⟨rfl, ⟨nd, rfl⟩⟩) | (go_at_call 16; (with_reducible refine (fix_Div.calls a0 a1 t242 _ A18.out).mono ?_); rintro e w26 ⟨rfl, hb⟩; have n0_ := Aside0.mk (below_step (by repeat (first | (with_reducible first | exact HB.out | apply below_alloc | apply pw_below_drewN | apply below_drew1) | exact HB.out)) hb); clear HB; have HB := n0_; clear n0_; (try clear hb); (try clear hb2); (try clear hk); (try clear hi)) | (go_at_call 29; (with_reducible refine (analemmaref02_Div.calls k a0 a1 t243 _ A19.out).mono ?_); rintro e w' ⟨rfl, ⟨nd, rfl⟩⟩))
            go_meet
            case rel => exact ⟨_, ((t242 != t243)), (by first | rfl | (simp; done) | (simp [*]; done)), H', ⟨by first | omega | exact Nat.le_refl _⟩, ⟨by repeat (first | (with_reducible first | exact HB.out | apply below_alloc | apply pw_below_drewN | apply below_drew1) | exact HB.out)⟩⟩
          · rw [if_neg c17] at H
            have c17b0 : (t240 == t241) = false := beq_eq_false_iff_ne.mpr c17
            have c17b1 : (t240 != t241) = true := bne_iff_ne.mpr c17
            have H' := Aside0.mk H
            clear H
            go_wp2_with (first | ((with_reducible refine gate_callee (f := 18) rfl ?_); refine goesL_ (some 11) rfl rfl Try.func18 (by kernel_rfl) rfl #[.int .i64 a0, .int .i64 a1] rfl (by (try simp only [List.map_toArray, List.map_cons, List.map_nil]); first | done | rfl | (simp only [List.length_drop, List.length_take]; rfl)) ?_; (with_reducible refine (fix_Add.calls k a0 a1 t234 _ A6.out).mono ?_); rintro e w27 ⟨rfl, hb⟩; refine ⟨_, rfl, ?_⟩; have n0_ := Aside0.mk (below_step (by repeat (first | (with_reducible first | exact HB.out | apply below_alloc | apply pw_below_drewN | apply below_drew1) | exact HB.out)) hb); clear HB; have HB := n0_; clear n0_; (try clear hb); (try clear hb2); (try clear hk); (try clear hi)) | ((with_reducible refine gate_callee (f := 24) rfl ?_); refine goesL_ (some 14) rfl rfl Try.func24 (by kernel_rfl) rfl #[.int .i64 a0, .int .i64 a1] rfl (by (try simp only [List.map_toArray, List.map_cons, List.map_nil]); first | done | rfl | (simp only [List.length_drop, List.length_take]; rfl)) ?_; (with_reducible refine (analemmaref02_Add.calls k a0 a1 t235 _ A7.out).mono ?_); rintro e w28 ⟨rfl, hb⟩; refine ⟨_, rfl, ?_⟩; have n0_ := Aside0.mk (below_step (by repeat (first | (with_reducible first | exact HB.out | apply below_alloc | apply pw_below_drewN | apply below_drew1) | exact HB.out)) hb); clear HB; have HB := n0_; clear n0_; (try clear hb); (try clear hb2); (try clear hk); (try clear hi)) | (go_at_call 17; (with_reducible refine (fix_Sub.calls k a0 a1 t236 _ A9.out).mono ?_); rintro e w29 ⟨rfl, hb⟩; have n0_ := Aside0.mk (below_step (by repeat (first | (with_reducible first | exact HB.out | apply below_alloc | apply pw_below_drewN | apply below_drew1) | exact HB.out)) hb); clear HB; have HB := n0_; clear n0_; (try clear hb); (try clear hb2); (try clear hk); (try clear hi)) | (go_at_call 25; (with_reducible refine (analemmaref02_Sub.calls k a0 a1 t237 _ A10.out).mono ?_); rintro e w30 ⟨rfl, hb⟩; have n0_ := Aside0.mk (below_step (by repeat (first | (with_reducible first | exact HB.out | apply below_alloc | apply pw_below_drewN | apply below_drew1) | exact HB.out)) hb); clear HB; have HB := n0_; clear n0_; (try clear hb); (try clear hb2); (try clear hk); (try clear hi)) | (go_at_call 26; (with_reducible refine (fix_Abs.calls a0 t238 _ A12.out).mono ?_); rintro e w31 ⟨rfl, hb⟩; have n0_ := Aside0.mk (below_step (by repeat (first | (with_reducible first | exact HB.out | apply below_alloc | apply pw_below_drewN | apply below_drew1) | exact HB.out)) hb); clear HB; have HB := n0_; clear n0_; (try clear hb); (try clear hb2); (try clear hk); (try clear hi)) | (go_at_call 27; (with_reducible refine (analemmaref02_Abs.calls k a0 t239 _ A13.out).mono ?_); rintro e w' ⟨rfl, ⟨nd, rfl⟩⟩) | (go_at_call 13; (with_reducible refine (fix_Mul.calls a0 a1 t240 _ A15.out).mono ?_); rintro e w32 ⟨rfl, hb⟩; have n0_ := Aside0.mk (below_step (by repeat (first | (with_reducible first | exact HB.out | apply below_alloc | apply pw_below_drewN | apply below_drew1) | exact HB.out)) hb); clear HB; have HB := n0_; clear n0_; (try clear hb); (try clear hb2); (try clear hk); (try clear hi)) | (go_at_call 28; (with_reducible refine (analemmaref02_Mul.calls k a0 a1 t241 _ A16.out).mono ?_); rintro e w' ⟨rfl, ⟨nd, rfl⟩⟩))
            go_meet
            case rel => exact ⟨_, (true), (by first | rfl | (simp; done) | (simp [*]; done)), H', ⟨by first | omega | exact Nat.le_refl _⟩, ⟨by repeat (first | (with_reducible first | exact HB.out | apply below_alloc | apply pw_below_drewN | apply below_drew1) | exact HB.out)⟩⟩
        · rw [if_neg c14] at H
          have c14b0 : (t238 == t239) = false := beq_eq_false_iff_ne.mpr c14
          have c14b1 : (t238 != t239) = true := bne_iff_ne.mpr c14
          have H' := Aside0.mk H
          clear H
          go_wp2_with (first | ((with_reducible refine gate_callee (f := 18) rfl ?_); refine goesL_ (some 11) rfl rfl Try.func18 (by kernel_rfl) rfl #[.int .i64 a0, .int .i64 a1] rfl (by (try simp only [List.map_toArray, List.map_cons, List.map_nil]); first | done | rfl | (simp only [List.length_drop, List.length_take]; rfl)) ?_; (with_reducible refine (fix_Add.calls k a0 a1 t234 _ A6.out).mono ?_); rintro e w33 ⟨rfl, hb⟩; refine ⟨_, rfl, ?_⟩; have n0_ := Aside0.mk (below_step (by repeat (first | (with_reducible first | exact HB.out | apply below_alloc | apply pw_below_drewN | apply below_drew1) | exact HB.out)) hb); clear HB; have HB := n0_; clear n0_; (try clear hb); (try clear hb2); (try clear hk); (try clear hi)) | ((with_reducible refine gate_callee (f := 24) rfl ?_); refine goesL_ (some 14) rfl rfl Try.func24 (by kernel_rfl) rfl #[.int .i64 a0, .int .i64 a1] rfl (by (try simp only [List.map_toArray, List.map_cons, List.map_nil]); first | done | rfl | (simp only [List.length_drop, List.length_take]; rfl)) ?_; (with_reducible refine (analemmaref02_Add.calls k a0 a1 t235 _ A7.out).mono ?_); rintro e w34 ⟨rfl, hb⟩; refine ⟨_, rfl, ?_⟩; have n0_ := Aside0.mk (below_step (by repeat (first | (with_reducible first | exact HB.out | apply below_alloc | apply pw_below_drewN | apply below_drew1) | exact HB.out)) hb); clear HB; have HB := n0_; clear n0_; (try clear hb); (try clear hb2); (try clear hk); (try clear hi)) | (go_at_call 17; (with_reducible refine (fix_Sub.calls k a0 a1 t236 _ A9.out).mono ?_); rintro e w35 ⟨rfl, hb⟩; have n0_ := Aside0.mk (below_step (by repeat (first | (with_reducible first | exact HB.out | apply below_alloc | apply pw_below_drewN | apply below_drew1) | exact HB.out)) hb); clear HB; have HB := n0_; clear n0_; (try clear hb); (try clear hb2); (try clear hk); (try clear hi)) | (go_at_call 25; (with_reducible refine (analemmaref02_Sub.calls k a0 a1 t237 _ A10.out).mono ?_); rintro e w36 ⟨rfl, hb⟩; have n0_ := Aside0.mk (below_step (by repeat (first | (with_reducible first | exact HB.out | apply below_alloc | apply pw_below_drewN | apply below_drew1) | exact HB.out)) hb); clear HB; have HB := n0_; clear n0_; (try clear hb); (try clear hb2); (try clear hk); (try clear hi)) | (go_at_call 26; (with_reducible refine (fix_Abs.calls a0 t238 _ A12.out).mono ?_); rintro e w37 ⟨rfl, hb⟩; have n0_ := Aside0.mk (below_step (by repeat (first | (with_reducible first | exact HB.out | apply below_alloc | apply pw_below_drewN | apply below_drew1) | exact HB.out)) hb); clear HB; have HB := n0_; clear n0_; (try clear hb); (try clear hb2); (try clear hk); (try clear hi)) | (go_at_call 27; (with_reducible refine (analemmaref02_Abs.calls k a0 t239 _ A13.out).mono ?_); rintro e w' ⟨rfl, ⟨nd, rfl⟩⟩))
          go_meet
          case rel => exact ⟨_, (true), (by first | rfl | (simp; done) | (simp [*]; done)), H', ⟨by first | omega | exact Nat.le_refl _⟩, ⟨by repeat (first | (with_reducible first | exact HB.out | apply below_alloc | apply pw_below_drewN | apply below_drew1) | exact HB.out)⟩⟩
      · rw [if_neg c11] at H
        have c11b0 : (t236 == t237) = false := beq_eq_false_iff_ne.mpr c11
        have c11b1 : (t236 != t237) = true := bne_iff_ne.mpr c11
        have H' := Aside0.mk H
        clear H
        go_wp2_with (first | ((with_reducible refine gate_callee (f := 18) rfl ?_); refine goesL_ (some 11) rfl rfl Try.func18 (by kernel_rfl) rfl #[.int .i64 a0, .int .i64 a1] rfl (by (try simp only [List.map_toArray, List.map_cons, List.map_nil]); first | done | rfl | (simp only [List.length_drop, List.length_take]; rfl)) ?_; (with_reducible refine (fix_Add.calls k a0 a1 t234 _ A6.out).mono ?_); rintro e w38 ⟨rfl, hb⟩; refine ⟨_, rfl, ?_⟩; have n0_ := Aside0.mk (below_step (by repeat (first | (with_reducible first | exact HB.out | apply below_alloc | apply pw_below_drewN | apply below_drew1) | exact HB.out)) hb); clear HB; have HB := n0_; clear n0_; (try clear hb); (try clear hb2); (try clear hk); (try clear hi)) | ((with_reducible refine gate_callee (f := 24) rfl ?_); refine goesL_ (some 14) rfl rfl Try.func24 (by kernel_rfl) rfl #[.int .i64 a0, .int .i64 a1] rfl (by (try simp only [List.map_toArray, List.map_cons, List.map_nil]); first | done | rfl | (simp only [List.length_drop, List.length_take]; rfl)) ?_; (with_reducible refine (analemmaref02_Add.calls k a0 a1 t235 _ A7.out).mono ?_); rintro e w39 ⟨rfl, hb⟩; refine ⟨_, rfl, ?_⟩; have n0_ := Aside0.mk (below_step (by repeat (first | (with_reducible first | exact HB.out | apply below_alloc | apply pw_below_drewN | apply below_drew1) | exact HB.out)) hb); clear HB; have HB := n0_; clear n0_; (try clear hb); (try clear hb2); (try clear hk); (try clear hi)) | (go_at_call 17; (with_reducible refine (fix_Sub.calls k a0 a1 t236 _ A9.out).mono ?_); rintro e w40 ⟨rfl, hb⟩; have n0_ := Aside0.mk (below_step (by repeat (first | (with_reducible first | exact HB.out | apply below_alloc | apply pw_below_drewN | apply below_drew1) | exact HB.out)) hb); clear HB; have HB := n0_; clear n0_; (try clear hb); (try clear hb2); (try clear hk); (try clear hi)) | (go_at_call 25; (with_reducible refine (analemmaref02_Sub.calls k a0 a1 t237 _ A10.out).mono ?_); rintro e w41 ⟨rfl, hb⟩; have n0_ := Aside0.mk (below_step (by repeat (first | (with_reducible first | exact HB.out | apply below_alloc | apply pw_below_drewN | apply below_drew1) | exact HB.out)) hb); clear HB; have HB := n0_; clear n0_; (try clear hb); (try clear hb2); (try clear hk); (try clear hi)))
        go_meet
        case rel => exact ⟨_, (true), (by first | rfl | (simp; done) | (simp [*]; done)), H', ⟨by first | omega | exact Nat.le_refl _⟩, ⟨by repeat (first | (with_reducible first | exact HB.out | apply below_alloc | apply pw_below_drewN | apply below_drew1) | exact HB.out)⟩⟩
    · rw [if_neg c8] at H
      have c8b0 : (t234 == t235) = false := beq_eq_false_iff_ne.mpr c8
      have c8b1 : (t234 != t235) = true := bne_iff_ne.mpr c8
      (first | rw [c8b0] | (simp only [i64_w, i32_w]; rw [c8b0]) | skip)
      have H' := Aside0.mk H
      clear H
      go_wp2_with (first | ((with_reducible refine gate_callee (f := 18) rfl ?_); refine goesL_ (some 11) rfl rfl Try.func18 (by kernel_rfl) rfl #[.int .i64 a0, .int .i64 a1] rfl (by (try simp only [List.map_toArray, List.map_cons, List.map_nil]); first | done | rfl | (simp only [List.length_drop, List.length_take]; rfl)) ?_; (with_reducible refine (fix_Add.calls k a0 a1 t234 _ A6.out).mono ?_); rintro e w42 ⟨rfl, hb⟩; refine ⟨_, rfl, ?_⟩; have n0_ := Aside0.mk (below_step (by repeat (first | (with_reducible first | exact HB.out | apply below_alloc | apply pw_below_drewN | apply below_drew1) | exact HB.out)) hb); clear HB; have HB := n0_; clear n0_; (try clear hb); (try clear hb2); (try clear hk); (try clear hi)) | ((with_reducible refine gate_callee (f := 24) rfl ?_); refine goesL_ (some 14) rfl rfl Try.func24 (by kernel_rfl) rfl #[.int .i64 a0, .int .i64 a1] rfl (by (try simp only [List.map_toArray, List.map_cons, List.map_nil]); first | done | rfl | (simp only [List.length_drop, List.length_take]; rfl)) ?_; (with_reducible refine (analemmaref02_Add.calls k a0 a1 t235 _ A7.out).mono ?_); rintro e w43 ⟨rfl, hb⟩; refine ⟨_, rfl, ?_⟩; have n0_ := Aside0.mk (below_step (by repeat (first | (with_reducible first | exact HB.out | apply below_alloc | apply pw_below_drewN | apply below_drew1) | exact HB.out)) hb); clear HB; have HB := n0_; clear n0_; (try clear hb); (try clear hb2); (try clear hk); (try clear hi)))
      go_meet
      case rel => exact ⟨_, (true), (by first | rfl | (simp; done) | (simp [*]; done)), H', ⟨by first | omega | exact Nat.le_refl _⟩, ⟨by repeat (first | (with_reducible first | exact HB.out | apply below_alloc | apply pw_below_drewN | apply below_drew1) | exact HB.out)⟩⟩
  case rest =>
    clear HC5
    try clear c1
    try clear c2
    try clear p2
    try clear c8
    try clear c8b0
    try clear c8b1
    try clear c10
    try clear c11
    try clear c11b0
    try clear c11b1
    try clear c14
    try clear c14b0
    try clear c14b1
    try clear c17
    try clear c17b0
    try clear c17b1
    try clear c18
    try clear c24
    obtain ⟨kq, x49_4, rfl, HA, HJ4, HB⟩ := hcut
    cases kq with
    | zero => exact absurd HA.out (by simp [analemmalaw02_FixTells.j0])
    | succ kj4 =>
      have H := HA.out
      clear HA
      simp only [analemmalaw02_FixTells.j0] at H
      by_cases c44 : x49_4 = true
      · subst c44
        have H1 : (some false) = some r := by rw [if_pos rfl] at H; exact H
        clear H
        have H := H1
        clear H1
        obtain rfl := Option.some.inj H
        go_wp2
        go_ret
        exact ⟨by first | rfl | (simp [errW_none, errW_some] <;> rfl) | (simp [*, errW_none, errW_some] <;> rfl), by repeat (first | (with_reducible first | exact HB.out | apply below_alloc | apply pw_below_drewN | apply below_drew1) | exact HB.out)⟩
      · replace c44 := Bool.eq_false_iff.mpr c44
        subst c44
        have H1 : ((fix_Shift.f a0 a3).bind fun t244 => ((analemmaref02_Shift.f kj4 a0 a3).bind fun t245 => (if t244 = t245 then ((fix_Pow.f a3).bind fun t246 => ((analemmaref02_Pow.f kj4 a3).bind fun t247 => (if t246 = t247 then ((fix_Log.f a0).bind fun t248 => ((analemmaref02_Log.f kj4 a0).bind fun t249 => (if t248 = t249 then ((fix_Sqrt.f kj4 a0).bind fun t250 => ((analemmaref02_Sqrt.f kj4 a0).bind fun t251 => (if t250 = t251 then ((fix_Clamp.f a0 a1 a2).bind fun t252 => ((analemmaref02_Clamp.f a0 a1 a2).bind fun t253 => (if t252 = t253 then ((analemmalaw02_shown.f kj4).bind fun t254 => (some t254)) else (some false)))) else (some false)))) else (some false)))) else (some false)))) else (some false)))) = some r := by rw [if_neg (show ¬ (false = true) by decide)] at H; exact H
        clear H
        have H := H1
        clear H1
        replace H := Option.bind_eq_some_iff.mp H
        obtain ⟨t244, A450, H⟩ := H
        replace H : ((analemmaref02_Shift.f kj4 a0 a3).bind fun t245 => (if t244 = t245 then ((fix_Pow.f a3).bind fun t246 => ((analemmaref02_Pow.f kj4 a3).bind fun t247 => (if t246 = t247 then ((fix_Log.f a0).bind fun t248 => ((analemmaref02_Log.f kj4 a0).bind fun t249 => (if t248 = t249 then ((fix_Sqrt.f kj4 a0).bind fun t250 => ((analemmaref02_Sqrt.f kj4 a0).bind fun t251 => (if t250 = t251 then ((fix_Clamp.f a0 a1 a2).bind fun t252 => ((analemmaref02_Clamp.f a0 a1 a2).bind fun t253 => (if t252 = t253 then ((analemmalaw02_shown.f kj4).bind fun t254 => (some t254)) else (some false)))) else (some false)))) else (some false)))) else (some false)))) else (some false))) = some r := H
        have A45 := Aside0.mk A450
        clear A450
        replace H := Option.bind_eq_some_iff.mp H
        obtain ⟨t245, A460, H⟩ := H
        replace H : (if t244 = t245 then ((fix_Pow.f a3).bind fun t246 => ((analemmaref02_Pow.f kj4 a3).bind fun t247 => (if t246 = t247 then ((fix_Log.f a0).bind fun t248 => ((analemmaref02_Log.f kj4 a0).bind fun t249 => (if t248 = t249 then ((fix_Sqrt.f kj4 a0).bind fun t250 => ((analemmaref02_Sqrt.f kj4 a0).bind fun t251 => (if t250 = t251 then ((fix_Clamp.f a0 a1 a2).bind fun t252 => ((analemmaref02_Clamp.f a0 a1 a2).bind fun t253 => (if t252 = t253 then ((analemmalaw02_shown.f kj4).bind fun t254 => (some t254)) else (some false)))) else (some false)))) else (some false)))) else (some false)))) else (some false)) = some r := H
        have A46 := Aside0.mk A460
        clear A460
        by_cases c47 : t244 = t245
        · rw [if_pos c47] at H
          have c47b0 : (t244 == t245) = true := beq_iff_eq.mpr c47
          have c47b1 : (t244 != t245) = false := bne_eq_false_iff_eq.mpr c47
          clear c47
          replace H := Option.bind_eq_some_iff.mp H
          obtain ⟨t246, A480, H⟩ := H
          replace H : ((analemmaref02_Pow.f kj4 a3).bind fun t247 => (if t246 = t247 then ((fix_Log.f a0).bind fun t248 => ((analemmaref02_Log.f kj4 a0).bind fun t249 => (if t248 = t249 then ((fix_Sqrt.f kj4 a0).bind fun t250 => ((analemmaref02_Sqrt.f kj4 a0).bind fun t251 => (if t250 = t251 then ((fix_Clamp.f a0 a1 a2).bind fun t252 => ((analemmaref02_Clamp.f a0 a1 a2).bind fun t253 => (if t252 = t253 then ((analemmalaw02_shown.f kj4).bind fun t254 => (some t254)) else (some false)))) else (some false)))) else (some false)))) else (some false))) = some r := H
          have A48 := Aside0.mk A480
          clear A480
          replace H := Option.bind_eq_some_iff.mp H
          obtain ⟨t247, A490, H⟩ := H
          replace H : (if t246 = t247 then ((fix_Log.f a0).bind fun t248 => ((analemmaref02_Log.f kj4 a0).bind fun t249 => (if t248 = t249 then ((fix_Sqrt.f kj4 a0).bind fun t250 => ((analemmaref02_Sqrt.f kj4 a0).bind fun t251 => (if t250 = t251 then ((fix_Clamp.f a0 a1 a2).bind fun t252 => ((analemmaref02_Clamp.f a0 a1 a2).bind fun t253 => (if t252 = t253 then ((analemmalaw02_shown.f kj4).bind fun t254 => (some t254)) else (some false)))) else (some false)))) else (some false)))) else (some false)) = some r := H
          have A49 := Aside0.mk A490
          clear A490
          by_cases c50 : t246 = t247
          · rw [if_pos c50] at H
            have c50b0 : (t246 == t247) = true := beq_iff_eq.mpr c50
            have c50b1 : (t246 != t247) = false := bne_eq_false_iff_eq.mpr c50
            clear c50
            replace H := Option.bind_eq_some_iff.mp H
            obtain ⟨t248, A510, H⟩ := H
            replace H : ((analemmaref02_Log.f kj4 a0).bind fun t249 => (if t248 = t249 then ((fix_Sqrt.f kj4 a0).bind fun t250 => ((analemmaref02_Sqrt.f kj4 a0).bind fun t251 => (if t250 = t251 then ((fix_Clamp.f a0 a1 a2).bind fun t252 => ((analemmaref02_Clamp.f a0 a1 a2).bind fun t253 => (if t252 = t253 then ((analemmalaw02_shown.f kj4).bind fun t254 => (some t254)) else (some false)))) else (some false)))) else (some false))) = some r := H
            have A51 := Aside0.mk A510
            clear A510
            replace H := Option.bind_eq_some_iff.mp H
            obtain ⟨t249, A520, H⟩ := H
            replace H : (if t248 = t249 then ((fix_Sqrt.f kj4 a0).bind fun t250 => ((analemmaref02_Sqrt.f kj4 a0).bind fun t251 => (if t250 = t251 then ((fix_Clamp.f a0 a1 a2).bind fun t252 => ((analemmaref02_Clamp.f a0 a1 a2).bind fun t253 => (if t252 = t253 then ((analemmalaw02_shown.f kj4).bind fun t254 => (some t254)) else (some false)))) else (some false)))) else (some false)) = some r := H
            have A52 := Aside0.mk A520
            clear A520
            by_cases c53 : t248 = t249
            · rw [if_pos c53] at H
              have c53b0 : (t248 == t249) = true := beq_iff_eq.mpr c53
              have c53b1 : (t248 != t249) = false := bne_eq_false_iff_eq.mpr c53
              clear c53
              replace H := Option.bind_eq_some_iff.mp H
              obtain ⟨t250, A540, H⟩ := H
              replace H : ((analemmaref02_Sqrt.f kj4 a0).bind fun t251 => (if t250 = t251 then ((fix_Clamp.f a0 a1 a2).bind fun t252 => ((analemmaref02_Clamp.f a0 a1 a2).bind fun t253 => (if t252 = t253 then ((analemmalaw02_shown.f kj4).bind fun t254 => (some t254)) else (some false)))) else (some false))) = some r := H
              have A54 := Aside0.mk A540
              clear A540
              replace H := Option.bind_eq_some_iff.mp H
              obtain ⟨t251, A550, H⟩ := H
              replace H : (if t250 = t251 then ((fix_Clamp.f a0 a1 a2).bind fun t252 => ((analemmaref02_Clamp.f a0 a1 a2).bind fun t253 => (if t252 = t253 then ((analemmalaw02_shown.f kj4).bind fun t254 => (some t254)) else (some false)))) else (some false)) = some r := H
              have A55 := Aside0.mk A550
              clear A550
              by_cases c56 : t250 = t251
              · rw [if_pos c56] at H
                have c56b0 : (t250 == t251) = true := beq_iff_eq.mpr c56
                have c56b1 : (t250 != t251) = false := bne_eq_false_iff_eq.mpr c56
                clear c56
                replace H := Option.bind_eq_some_iff.mp H
                obtain ⟨t252, A570, H⟩ := H
                replace H : ((analemmaref02_Clamp.f a0 a1 a2).bind fun t253 => (if t252 = t253 then ((analemmalaw02_shown.f kj4).bind fun t254 => (some t254)) else (some false))) = some r := H
                have A57 := Aside0.mk A570
                clear A570
                replace H := Option.bind_eq_some_iff.mp H
                obtain ⟨t253, A580, H⟩ := H
                replace H : (if t252 = t253 then ((analemmalaw02_shown.f kj4).bind fun t254 => (some t254)) else (some false)) = some r := H
                have A58 := Aside0.mk A580
                clear A580
                by_cases c59 : t252 = t253
                · rw [if_pos c59] at H
                  have c59b0 : (t252 == t253) = true := beq_iff_eq.mpr c59
                  have c59b1 : (t252 != t253) = false := bne_eq_false_iff_eq.mpr c59
                  clear c59
                  replace H := Option.bind_eq_some_iff.mp H
                  obtain ⟨t254, A600, H⟩ := H
                  replace H : (some t254) = some r := H
                  have A60 := Aside0.mk A600
                  clear A600
                  obtain rfl := Option.some.inj H
                  go_wp2_with (first | ((with_reducible refine gate_callee (f := 15) rfl ?_); refine goesL_ (some 52) rfl rfl Try.func15 (by kernel_rfl) rfl #[.int .i64 a0, .int .i64 a3] rfl (by (try simp only [List.map_toArray, List.map_cons, List.map_nil]); first | done | rfl | (simp only [List.length_drop, List.length_take]; rfl)) ?_; (with_reducible refine (fix_Shift.calls a0 a3 t244 _ A45.out).mono ?_); rintro e w61 ⟨rfl, hb⟩; refine ⟨_, rfl, ?_⟩; have n0_ := Aside0.mk (below_step (by repeat (first | (with_reducible first | exact HB.out | apply below_alloc | apply pw_below_drewN | apply below_drew1) | exact HB.out)) hb); clear HB; have HB := n0_; clear n0_; (try clear hb); (try clear hb2); (try clear hk); (try clear hi)) | ((with_reducible refine gate_callee (f := 30) rfl ?_); refine goesL_ (some 55) rfl rfl Try.func30 (by kernel_rfl) rfl #[.int .i64 a0, .int .i64 a3] rfl (by (try simp only [List.map_toArray, List.map_cons, List.map_nil]); first | done | rfl | (simp only [List.length_drop, List.length_take]; rfl)) ?_; (with_reducible refine (analemmaref02_Shift.calls kj4 a0 a3 t245 _ A46.out).mono ?_); rintro e w62 ⟨rfl, hb⟩; refine ⟨_, rfl, ?_⟩; have n0_ := Aside0.mk (below_step (by repeat (first | (with_reducible first | exact HB.out | apply below_alloc | apply pw_below_drewN | apply below_drew1) | exact HB.out)) hb); clear HB; have HB := n0_; clear n0_; (try clear hb); (try clear hb2); (try clear hk); (try clear hi)) | (go_at_call 31; (with_reducible refine (fix_Pow.calls a3 t246 _ A48.out).mono ?_); rintro e w63 ⟨rfl, hb⟩; have n0_ := Aside0.mk (below_step (by repeat (first | (with_reducible first | exact HB.out | apply below_alloc | apply pw_below_drewN | apply below_drew1) | exact HB.out)) hb); clear HB; have HB := n0_; clear n0_; (try clear hb); (try clear hb2); (try clear hk); (try clear hi)) | (go_at_call 32; (with_reducible refine (analemmaref02_Pow.calls kj4 a3 t247 _ A49.out).mono ?_); rintro e w64 ⟨rfl, hb⟩; have n0_ := Aside0.mk (below_step (by repeat (first | (with_reducible first | exact HB.out | apply below_alloc | apply pw_below_drewN | apply below_drew1) | exact HB.out)) hb); clear HB; have HB := n0_; clear n0_; (try clear hb); (try clear hb2); (try clear hk); (try clear hi)) | (go_at_call 19; (with_reducible refine (fix_Log.calls a0 t248 _ A51.out).mono ?_); rintro e w65 ⟨rfl, hb⟩; have n0_ := Aside0.mk (below_step (by repeat (first | (with_reducible first | exact HB.out | apply below_alloc | apply pw_below_drewN | apply below_drew1) | exact HB.out)) hb); clear HB; have HB := n0_; clear n0_; (try clear hb); (try clear hb2); (try clear hk); (try clear hi)) | (go_at_call 33; (with_reducible refine (analemmaref02_Log.calls kj4 a0 t249 _ A52.out).mono ?_); rintro e w' ⟨rfl, ⟨nd, rfl⟩⟩) | (go_at_call 12; (with_reducible refine (fix_Sqrt.calls kj4 a0 t250 _ A54.out).mono ?_); rintro e w66 ⟨rfl, hb⟩; have n0_ := Aside0.mk (below_step (by repeat (first | (with_reducible first | exact HB.out | apply below_alloc | apply pw_below_drewN | apply below_drew1) | exact HB.out)) hb); clear HB; have HB := n0_; clear n0_; (try clear hb); (try clear hb2); (try clear hk); (try clear hi)) | (go_at_call 34; (with_reducible refine (analemmaref02_Sqrt.calls kj4 a0 t251 _ A55.out).mono ?_); rintro e w' ⟨rfl, ⟨nd, rfl⟩⟩) | (go_at_call 35; (with_reducible refine (fix_Clamp.calls a0 a1 a2 t252 _ A57.out).mono ?_); rintro e w67 ⟨rfl, hb⟩; have n0_ := Aside0.mk (below_step (by repeat (first | (with_reducible first | exact HB.out | apply below_alloc | apply pw_below_drewN | apply below_drew1) | exact HB.out)) hb); clear HB; have HB := n0_; clear n0_; (try clear hb); (try clear hb2); (try clear hk); (try clear hi)) | (go_at_call 36; (with_reducible refine (analemmaref02_Clamp.calls a0 a1 a2 t253 _ A58.out).mono ?_); rintro e w68 ⟨rfl, hb⟩; have n0_ := Aside0.mk (below_step (by repeat (first | (with_reducible first | exact HB.out | apply below_alloc | apply pw_below_drewN | apply below_drew1) | exact HB.out)) hb); clear HB; have HB := n0_; clear n0_; (try clear hb); (try clear hb2); (try clear hk); (try clear hi)) | (go_at_call 14; (with_reducible refine (analemmalaw02_shown.calls kj4  t254 _ A60.out).mono ?_); rintro e w69 ⟨rfl, hb⟩; have n0_ := Aside0.mk (below_step (by repeat (first | (with_reducible first | exact HB.out | apply below_alloc | apply pw_below_drewN | apply below_drew1) | exact HB.out)) hb); clear HB; have HB := n0_; clear n0_; (try clear hb); (try clear hb2); (try clear hk); (try clear hi)))
                  go_ret
                  exact ⟨by first | rfl | (simp [errW_none, errW_some] <;> rfl) | (simp [*, errW_none, errW_some] <;> rfl), by repeat (first | (with_reducible first | exact HB.out | apply below_alloc | apply pw_below_drewN | apply below_drew1) | exact HB.out)⟩
                · rw [if_neg c59] at H
                  have c59b0 : (t252 == t253) = false := beq_eq_false_iff_ne.mpr c59
                  have c59b1 : (t252 != t253) = true := bne_iff_ne.mpr c59
                  obtain rfl := Option.some.inj H
                  go_wp2_with (first | ((with_reducible refine gate_callee (f := 15) rfl ?_); refine goesL_ (some 52) rfl rfl Try.func15 (by kernel_rfl) rfl #[.int .i64 a0, .int .i64 a3] rfl (by (try simp only [List.map_toArray, List.map_cons, List.map_nil]); first | done | rfl | (simp only [List.length_drop, List.length_take]; rfl)) ?_; (with_reducible refine (fix_Shift.calls a0 a3 t244 _ A45.out).mono ?_); rintro e w70 ⟨rfl, hb⟩; refine ⟨_, rfl, ?_⟩; have n0_ := Aside0.mk (below_step (by repeat (first | (with_reducible first | exact HB.out | apply below_alloc | apply pw_below_drewN | apply below_drew1) | exact HB.out)) hb); clear HB; have HB := n0_; clear n0_; (try clear hb); (try clear hb2); (try clear hk); (try clear hi)) | ((with_reducible refine gate_callee (f := 30) rfl ?_); refine goesL_ (some 55) rfl rfl Try.func30 (by kernel_rfl) rfl #[.int .i64 a0, .int .i64 a3] rfl (by (try simp only [List.map_toArray, List.map_cons, List.map_nil]); first | done | rfl | (simp only [List.length_drop, List.length_take]; rfl)) ?_; (with_reducible refine (analemmaref02_Shift.calls kj4 a0 a3 t245 _ A46.out).mono ?_); rintro e w71 ⟨rfl, hb⟩; refine ⟨_, rfl, ?_⟩; have n0_ := Aside0.mk (below_step (by repeat (first | (with_reducible first | exact HB.out | apply below_alloc | apply pw_below_drewN | apply below_drew1) | exact HB.out)) hb); clear HB; have HB := n0_; clear n0_; (try clear hb); (try clear hb2); (try clear hk); (try clear hi)) | (go_at_call 31; (with_reducible refine (fix_Pow.calls a3 t246 _ A48.out).mono ?_); rintro e w72 ⟨rfl, hb⟩; have n0_ := Aside0.mk (below_step (by repeat (first | (with_reducible first | exact HB.out | apply below_alloc | apply pw_below_drewN | apply below_drew1) | exact HB.out)) hb); clear HB; have HB := n0_; clear n0_; (try clear hb); (try clear hb2); (try clear hk); (try clear hi)) | (go_at_call 32; (with_reducible refine (analemmaref02_Pow.calls kj4 a3 t247 _ A49.out).mono ?_); rintro e w73 ⟨rfl, hb⟩; have n0_ := Aside0.mk (below_step (by repeat (first | (with_reducible first | exact HB.out | apply below_alloc | apply pw_below_drewN | apply below_drew1) | exact HB.out)) hb); clear HB; have HB := n0_; clear n0_; (try clear hb); (try clear hb2); (try clear hk); (try clear hi)) | (go_at_call 19; (with_reducible refine (fix_Log.calls a0 t248 _ A51.out).mono ?_); rintro e w74 ⟨rfl, hb⟩; have n0_ := Aside0.mk (below_step (by repeat (first | (with_reducible first | exact HB.out | apply below_alloc | apply pw_below_drewN | apply below_drew1) | exact HB.out)) hb); clear HB; have HB := n0_; clear n0_; (try clear hb); (try clear hb2); (try clear hk); (try clear hi)) | (go_at_call 33; (with_reducible refine (analemmaref02_Log.calls kj4 a0 t249 _ A52.out).mono ?_); rintro e w' ⟨rfl, ⟨nd, rfl⟩⟩) | (go_at_call 12; (with_reducible refine (fix_Sqrt.calls kj4 a0 t250 _ A54.out).mono ?_); rintro e w75 ⟨rfl, hb⟩; have n0_ := Aside0.mk (below_step (by repeat (first | (with_reducible first | exact HB.out | apply below_alloc | apply pw_below_drewN | apply below_drew1) | exact HB.out)) hb); clear HB; have HB := n0_; clear n0_; (try clear hb); (try clear hb2); (try clear hk); (try clear hi)) | (go_at_call 34; (with_reducible refine (analemmaref02_Sqrt.calls kj4 a0 t251 _ A55.out).mono ?_); rintro e w' ⟨rfl, ⟨nd, rfl⟩⟩) | (go_at_call 35; (with_reducible refine (fix_Clamp.calls a0 a1 a2 t252 _ A57.out).mono ?_); rintro e w76 ⟨rfl, hb⟩; have n0_ := Aside0.mk (below_step (by repeat (first | (with_reducible first | exact HB.out | apply below_alloc | apply pw_below_drewN | apply below_drew1) | exact HB.out)) hb); clear HB; have HB := n0_; clear n0_; (try clear hb); (try clear hb2); (try clear hk); (try clear hi)) | (go_at_call 36; (with_reducible refine (analemmaref02_Clamp.calls a0 a1 a2 t253 _ A58.out).mono ?_); rintro e w77 ⟨rfl, hb⟩; have n0_ := Aside0.mk (below_step (by repeat (first | (with_reducible first | exact HB.out | apply below_alloc | apply pw_below_drewN | apply below_drew1) | exact HB.out)) hb); clear HB; have HB := n0_; clear n0_; (try clear hb); (try clear hb2); (try clear hk); (try clear hi)))
                  go_ret
                  exact ⟨by first | rfl | (simp [errW_none, errW_some] <;> rfl) | (simp [*, errW_none, errW_some] <;> rfl), by repeat (first | (with_reducible first | exact HB.out | apply below_alloc | apply pw_below_drewN | apply below_drew1) | exact HB.out)⟩
              · rw [if_neg c56] at H
                have c56b0 : (t250 == t251) = false := beq_eq_false_iff_ne.mpr c56
                have c56b1 : (t250 != t251) = true := bne_iff_ne.mpr c56
                obtain rfl := Option.some.inj H
                go_wp2_with (first | ((with_reducible refine gate_callee (f := 15) rfl ?_); refine goesL_ (some 52) rfl rfl Try.func15 (by kernel_rfl) rfl #[.int .i64 a0, .int .i64 a3] rfl (by (try simp only [List.map_toArray, List.map_cons, List.map_nil]); first | done | rfl | (simp only [List.length_drop, List.length_take]; rfl)) ?_; (with_reducible refine (fix_Shift.calls a0 a3 t244 _ A45.out).mono ?_); rintro e w78 ⟨rfl, hb⟩; refine ⟨_, rfl, ?_⟩; have n0_ := Aside0.mk (below_step (by repeat (first | (with_reducible first | exact HB.out | apply below_alloc | apply pw_below_drewN | apply below_drew1) | exact HB.out)) hb); clear HB; have HB := n0_; clear n0_; (try clear hb); (try clear hb2); (try clear hk); (try clear hi)) | ((with_reducible refine gate_callee (f := 30) rfl ?_); refine goesL_ (some 55) rfl rfl Try.func30 (by kernel_rfl) rfl #[.int .i64 a0, .int .i64 a3] rfl (by (try simp only [List.map_toArray, List.map_cons, List.map_nil]); first | done | rfl | (simp only [List.length_drop, List.length_take]; rfl)) ?_; (with_reducible refine (analemmaref02_Shift.calls kj4 a0 a3 t245 _ A46.out).mono ?_); rintro e w79 ⟨rfl, hb⟩; refine ⟨_, rfl, ?_⟩; have n0_ := Aside0.mk (below_step (by repeat (first | (with_reducible first | exact HB.out | apply below_alloc | apply pw_below_drewN | apply below_drew1) | exact HB.out)) hb); clear HB; have HB := n0_; clear n0_; (try clear hb); (try clear hb2); (try clear hk); (try clear hi)) | (go_at_call 31; (with_reducible refine (fix_Pow.calls a3 t246 _ A48.out).mono ?_); rintro e w80 ⟨rfl, hb⟩; have n0_ := Aside0.mk (below_step (by repeat (first | (with_reducible first | exact HB.out | apply below_alloc | apply pw_below_drewN | apply below_drew1) | exact HB.out)) hb); clear HB; have HB := n0_; clear n0_; (try clear hb); (try clear hb2); (try clear hk); (try clear hi)) | (go_at_call 32; (with_reducible refine (analemmaref02_Pow.calls kj4 a3 t247 _ A49.out).mono ?_); rintro e w81 ⟨rfl, hb⟩; have n0_ := Aside0.mk (below_step (by repeat (first | (with_reducible first | exact HB.out | apply below_alloc | apply pw_below_drewN | apply below_drew1) | exact HB.out)) hb); clear HB; have HB := n0_; clear n0_; (try clear hb); (try clear hb2); (try clear hk); (try clear hi)) | (go_at_call 19; (with_reducible refine (fix_Log.calls a0 t248 _ A51.out).mono ?_); rintro e w82 ⟨rfl, hb⟩; have n0_ := Aside0.mk (below_step (by repeat (first | (with_reducible first | exact HB.out | apply below_alloc | apply pw_below_drewN | apply below_drew1) | exact HB.out)) hb); clear HB; have HB := n0_; clear n0_; (try clear hb); (try clear hb2); (try clear hk); (try clear hi)) | (go_at_call 33; (with_reducible refine (analemmaref02_Log.calls kj4 a0 t249 _ A52.out).mono ?_); rintro e w' ⟨rfl, ⟨nd, rfl⟩⟩) | (go_at_call 12; (with_reducible refine (fix_Sqrt.calls kj4 a0 t250 _ A54.out).mono ?_); rintro e w83 ⟨rfl, hb⟩; have n0_ := Aside0.mk (below_step (by repeat (first | (with_reducible first | exact HB.out | apply below_alloc | apply pw_below_drewN | apply below_drew1) | exact HB.out)) hb); clear HB; have HB := n0_; clear n0_; (try clear hb); (try clear hb2); (try clear hk); (try clear hi)) | (go_at_call 34; (with_reducible refine (analemmaref02_Sqrt.calls kj4 a0 t251 _ A55.out).mono ?_); rintro e w' ⟨rfl, ⟨nd, rfl⟩⟩))
                go_ret
                exact ⟨by first | rfl | (simp [errW_none, errW_some] <;> rfl) | (simp [*, errW_none, errW_some] <;> rfl), by repeat (first | (with_reducible first | exact HB.out | apply below_alloc | apply pw_below_drewN | apply below_drew1) | exact HB.out)⟩
            · rw [if_neg c53] at H
              have c53b0 : (t248 == t249) = false := beq_eq_false_iff_ne.mpr c53
              have c53b1 : (t248 != t249) = true := bne_iff_ne.mpr c53
              obtain rfl := Option.some.inj H
              go_wp2_with (first | ((with_reducible refine gate_callee (f := 15) rfl ?_); refine goesL_ (some 52) rfl rfl Try.func15 (by kernel_rfl) rfl #[.int .i64 a0, .int .i64 a3] rfl (by (try simp only [List.map_toArray, List.map_cons, List.map_nil]); first | done | rfl | (simp only [List.length_drop, List.length_take]; rfl)) ?_; (with_reducible refine (fix_Shift.calls a0 a3 t244 _ A45.out).mono ?_); rintro e w84 ⟨rfl, hb⟩; refine ⟨_, rfl, ?_⟩; have n0_ := Aside0.mk (below_step (by repeat (first | (with_reducible first | exact HB.out | apply below_alloc | apply pw_below_drewN | apply below_drew1) | exact HB.out)) hb); clear HB; have HB := n0_; clear n0_; (try clear hb); (try clear hb2); (try clear hk); (try clear hi)) | ((with_reducible refine gate_callee (f := 30) rfl ?_); refine goesL_ (some 55) rfl rfl Try.func30 (by kernel_rfl) rfl #[.int .i64 a0, .int .i64 a3] rfl (by (try simp only [List.map_toArray, List.map_cons, List.map_nil]); first | done | rfl | (simp only [List.length_drop, List.length_take]; rfl)) ?_; (with_reducible refine (analemmaref02_Shift.calls kj4 a0 a3 t245 _ A46.out).mono ?_); rintro e w85 ⟨rfl, hb⟩; refine ⟨_, rfl, ?_⟩; have n0_ := Aside0.mk (below_step (by repeat (first | (with_reducible first | exact HB.out | apply below_alloc | apply pw_below_drewN | apply below_drew1) | exact HB.out)) hb); clear HB; have HB := n0_; clear n0_; (try clear hb); (try clear hb2); (try clear hk); (try clear hi)) | (go_at_call 31; (with_reducible refine (fix_Pow.calls a3 t246 _ A48.out).mono ?_); rintro e w86 ⟨rfl, hb⟩; have n0_ := Aside0.mk (below_step (by repeat (first | (with_reducible first | exact HB.out | apply below_alloc | apply pw_below_drewN | apply below_drew1) | exact HB.out)) hb); clear HB; have HB := n0_; clear n0_; (try clear hb); (try clear hb2); (try clear hk); (try clear hi)) | (go_at_call 32; (with_reducible refine (analemmaref02_Pow.calls kj4 a3 t247 _ A49.out).mono ?_); rintro e w87 ⟨rfl, hb⟩; have n0_ := Aside0.mk (below_step (by repeat (first | (with_reducible first | exact HB.out | apply below_alloc | apply pw_below_drewN | apply below_drew1) | exact HB.out)) hb); clear HB; have HB := n0_; clear n0_; (try clear hb); (try clear hb2); (try clear hk); (try clear hi)) | (go_at_call 19; (with_reducible refine (fix_Log.calls a0 t248 _ A51.out).mono ?_); rintro e w88 ⟨rfl, hb⟩; have n0_ := Aside0.mk (below_step (by repeat (first | (with_reducible first | exact HB.out | apply below_alloc | apply pw_below_drewN | apply below_drew1) | exact HB.out)) hb); clear HB; have HB := n0_; clear n0_; (try clear hb); (try clear hb2); (try clear hk); (try clear hi)) | (go_at_call 33; (with_reducible refine (analemmaref02_Log.calls kj4 a0 t249 _ A52.out).mono ?_); rintro e w' ⟨rfl, ⟨nd, rfl⟩⟩))
              go_ret
              exact ⟨by first | rfl | (simp [errW_none, errW_some] <;> rfl) | (simp [*, errW_none, errW_some] <;> rfl), by repeat (first | (with_reducible first | exact HB.out | apply below_alloc | apply pw_below_drewN | apply below_drew1) | exact HB.out)⟩
          · rw [if_neg c50] at H
            have c50b0 : (t246 == t247) = false := beq_eq_false_iff_ne.mpr c50
            have c50b1 : (t246 != t247) = true := bne_iff_ne.mpr c50
            obtain rfl := Option.some.inj H
            go_wp2_with (first | ((with_reducible refine gate_callee (f := 15) rfl ?_); refine goesL_ (some 52) rfl rfl Try.func15 (by kernel_rfl) rfl #[.int .i64 a0, .int .i64 a3] rfl (by (try simp only [List.map_toArray, List.map_cons, List.map_nil]); first | done | rfl | (simp only [List.length_drop, List.length_take]; rfl)) ?_; (with_reducible refine (fix_Shift.calls a0 a3 t244 _ A45.out).mono ?_); rintro e w89 ⟨rfl, hb⟩; refine ⟨_, rfl, ?_⟩; have n0_ := Aside0.mk (below_step (by repeat (first | (with_reducible first | exact HB.out | apply below_alloc | apply pw_below_drewN | apply below_drew1) | exact HB.out)) hb); clear HB; have HB := n0_; clear n0_; (try clear hb); (try clear hb2); (try clear hk); (try clear hi)) | ((with_reducible refine gate_callee (f := 30) rfl ?_); refine goesL_ (some 55) rfl rfl Try.func30 (by kernel_rfl) rfl #[.int .i64 a0, .int .i64 a3] rfl (by (try simp only [List.map_toArray, List.map_cons, List.map_nil]); first | done | rfl | (simp only [List.length_drop, List.length_take]; rfl)) ?_; (with_reducible refine (analemmaref02_Shift.calls kj4 a0 a3 t245 _ A46.out).mono ?_); rintro e w90 ⟨rfl, hb⟩; refine ⟨_, rfl, ?_⟩; have n0_ := Aside0.mk (below_step (by repeat (first | (with_reducible first | exact HB.out | apply below_alloc | apply pw_below_drewN | apply below_drew1) | exact HB.out)) hb); clear HB; have HB := n0_; clear n0_; (try clear hb); (try clear hb2); (try clear hk); (try clear hi)) | (go_at_call 31; (with_reducible refine (fix_Pow.calls a3 t246 _ A48.out).mono ?_); rintro e w91 ⟨rfl, hb⟩; have n0_ := Aside0.mk (below_step (by repeat (first | (with_reducible first | exact HB.out | apply below_alloc | apply pw_below_drewN | apply below_drew1) | exact HB.out)) hb); clear HB; have HB := n0_; clear n0_; (try clear hb); (try clear hb2); (try clear hk); (try clear hi)) | (go_at_call 32; (with_reducible refine (analemmaref02_Pow.calls kj4 a3 t247 _ A49.out).mono ?_); rintro e w92 ⟨rfl, hb⟩; have n0_ := Aside0.mk (below_step (by repeat (first | (with_reducible first | exact HB.out | apply below_alloc | apply pw_below_drewN | apply below_drew1) | exact HB.out)) hb); clear HB; have HB := n0_; clear n0_; (try clear hb); (try clear hb2); (try clear hk); (try clear hi)))
            go_ret
            exact ⟨by first | rfl | (simp [errW_none, errW_some] <;> rfl) | (simp [*, errW_none, errW_some] <;> rfl), by repeat (first | (with_reducible first | exact HB.out | apply below_alloc | apply pw_below_drewN | apply below_drew1) | exact HB.out)⟩
        · rw [if_neg c47] at H
          have c47b0 : (t244 == t245) = false := beq_eq_false_iff_ne.mpr c47
          have c47b1 : (t244 != t245) = true := bne_iff_ne.mpr c47
          obtain rfl := Option.some.inj H
          go_wp2_with (first | ((with_reducible refine gate_callee (f := 15) rfl ?_); refine goesL_ (some 52) rfl rfl Try.func15 (by kernel_rfl) rfl #[.int .i64 a0, .int .i64 a3] rfl (by (try simp only [List.map_toArray, List.map_cons, List.map_nil]); first | done | rfl | (simp only [List.length_drop, List.length_take]; rfl)) ?_; (with_reducible refine (fix_Shift.calls a0 a3 t244 _ A45.out).mono ?_); rintro e w93 ⟨rfl, hb⟩; refine ⟨_, rfl, ?_⟩; have n0_ := Aside0.mk (below_step (by repeat (first | (with_reducible first | exact HB.out | apply below_alloc | apply pw_below_drewN | apply below_drew1) | exact HB.out)) hb); clear HB; have HB := n0_; clear n0_; (try clear hb); (try clear hb2); (try clear hk); (try clear hi)) | ((with_reducible refine gate_callee (f := 30) rfl ?_); refine goesL_ (some 55) rfl rfl Try.func30 (by kernel_rfl) rfl #[.int .i64 a0, .int .i64 a3] rfl (by (try simp only [List.map_toArray, List.map_cons, List.map_nil]); first | done | rfl | (simp only [List.length_drop, List.length_take]; rfl)) ?_; (with_reducible refine (analemmaref02_Shift.calls kj4 a0 a3 t245 _ A46.out).mono ?_); rintro e w94 ⟨rfl, hb⟩; refine ⟨_, rfl, ?_⟩; have n0_ := Aside0.mk (below_step (by repeat (first | (with_reducible first | exact HB.out | apply below_alloc | apply pw_below_drewN | apply below_drew1) | exact HB.out)) hb); clear HB; have HB := n0_; clear n0_; (try clear hb); (try clear hb2); (try clear hk); (try clear hi)))
          go_ret
          exact ⟨by first | rfl | (simp [errW_none, errW_some] <;> rfl) | (simp [*, errW_none, errW_some] <;> rfl), by repeat (first | (with_reducible first | exact HB.out | apply below_alloc | apply pw_below_drewN | apply below_drew1) | exact HB.out)⟩

/-- THE ONE PURE STATEMENT of analemmalaw02_FixTells: yours. -/
def analemmalaw02_FixTells.Pure : Prop := ∀ (a0 : Int) (a1 : Int) (a2 : Int) (a3 : Int), (Lit.int .i64 a0).wf = true → (Lit.int .i64 a1).wf = true → (Lit.int .i64 a2).wf = true → (Lit.int .i64 a3).wf = true → ∃ k, analemmalaw02_FixTells.f k a0 a1 a2 a3 = some true
theorem analemmalaw02_FixTells.walk (P : analemmalaw02_FixTells.Pure) (a0 : Int) (a1 : Int) (a2 : Int) (a3 : Int) (w : World) (w0 : (Lit.int .i64 a0).wf = true) (w1 : (Lit.int .i64 a1).wf = true) (w2 : (Lit.int .i64 a2).wf = true) (w3 : (Lit.int .i64 a3).wf = true) :
    Calls Try.prog 10 #[.int .i64 a0, .int .i64 a1, .int .i64 a2, .int .i64 a3] w fun e w' => e = .returned (.bool true) ∧ Below w.heap.size w w' := by
  obtain ⟨k, h⟩ := P a0 a1 a2 a3 w0 w1 w2 w3
  refine (analemmalaw02_FixTells.calls k a0 a1 a2 a3 true w h).mono ?_
  rintro e w' ⟨rfl, hd⟩
  exact ⟨rfl, hd⟩

-- NOT PRINTED: function 11 (analemmalaw02_FixLeast)

end Go.Proofs.Ytomjongnjfodmaa.MFix
