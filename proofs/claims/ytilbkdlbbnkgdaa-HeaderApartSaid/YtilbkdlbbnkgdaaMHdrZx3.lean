/- Functions that the statements of this seat reach, each as a plain Lean function, with a proof that the Go code comes to its answers; no condition. -/
import Derived.Test.YtilbkdlbbnkgdaaMHdrZx0
import Derived.Test.YtilbkdlbbnkgdaaMHdrZx2
namespace Go.Proofs.Ytilbkdlbbnkgdaa.MHdrZ
open Go.RowKit Go.Proofs.YtilbkdlbbnkgdaaW.PrintWords Go.Proofs.YtilbkdlbbnkgdaaW.PrintLast Go.Proofs.YtilbkdlbbnkgdaaW.PrintMore
attribute [local go_sem] max2_int min2_int max_two min_two max_three min_three max_four min_four   -- for this text's walks alone
set_option linter.unusedVariables false
set_option linter.unusedSimpArgs false

/-! ### analemmaref05_May: function 32 -/
def analemmaref05_May.f (a0_0 : Int) (a0_1 : Int) (a0_2 : Int) (a0_3 : Int) (a0_4 : Int) (a0_5 : Int) (a0_6 : Int) (a0_7 : Int) (a0_8 : Int) (a0_9 : Int) (a0_10 : Int) (a0_11 : Int) (a0_12 : Int) : Option (Bool) := (analemmaref05_within.f a0_0 0 3).bind fun t127 => (if t127 = true then ((analemmaref05_within.f a0_1 1 4).bind fun t128 => (if t128 = true then ((analemmaref05_within.f a0_2 0 7).bind fun t129 => (if t129 = true then ((analemmaref05_within.f a0_3 0 255).bind fun t130 => (if t130 = true then ((analemmaref05_within.f a0_4 (-128) 127).bind fun t131 => (if t131 = true then ((analemmaref05_within.f a0_5 (-128) 127).bind fun t132 => (some t132)) else (some false))) else (some false))) else (some false))) else (some false))) else (some false))
set_option maxHeartbeats 8000000 in
set_option maxRecDepth 100000 in
theorem analemmaref05_May.calls (a0_0 : Int) (a0_1 : Int) (a0_2 : Int) (a0_3 : Int) (a0_4 : Int) (a0_5 : Int) (a0_6 : Int) (a0_7 : Int) (a0_8 : Int) (a0_9 : Int) (a0_10 : Int) (a0_11 : Int) (a0_12 : Int) (r : Bool) (w : World) (h : analemmaref05_May.f a0_0 a0_1 a0_2 a0_3 a0_4 a0_5 a0_6 a0_7 a0_8 a0_9 a0_10 a0_11 a0_12 = some r) :
    Calls Try.prog 32 #[.agg #[.int .i64 a0_0, .int .i64 a0_1, .int .i64 a0_2, .int .i64 a0_3, .int .i64 a0_4, .int .i64 a0_5, .int .u32 a0_6, .int .u32 a0_7, .int .u32 a0_8, .int .u64 a0_9, .int .u64 a0_10, .int .u64 a0_11, .int .u64 a0_12]] w fun e w' => e = .returned (.bool r) ∧ Below w.heap.size w w' := by
  have hu42 := Try.underlying42
  have HB := Aside0.mk (Below.refl w.heap.size w)
  have H : ((analemmaref05_within.f a0_0 0 3).bind fun t127 => (if t127 = true then ((analemmaref05_within.f a0_1 1 4).bind fun t128 => (if t128 = true then ((analemmaref05_within.f a0_2 0 7).bind fun t129 => (if t129 = true then ((analemmaref05_within.f a0_3 0 255).bind fun t130 => (if t130 = true then ((analemmaref05_within.f a0_4 (-128) 127).bind fun t131 => (if t131 = true then ((analemmaref05_within.f a0_5 (-128) 127).bind fun t132 => (some t132)) else (some false))) else (some false))) else (some false))) else (some false))) else (some false))) = some r := h
  clear h
  replace H := Option.bind_eq_some_iff.mp H
  obtain ⟨t127, A20, H⟩ := H
  replace H : (if t127 = true then ((analemmaref05_within.f a0_1 1 4).bind fun t128 => (if t128 = true then ((analemmaref05_within.f a0_2 0 7).bind fun t129 => (if t129 = true then ((analemmaref05_within.f a0_3 0 255).bind fun t130 => (if t130 = true then ((analemmaref05_within.f a0_4 (-128) 127).bind fun t131 => (if t131 = true then ((analemmaref05_within.f a0_5 (-128) 127).bind fun t132 => (some t132)) else (some false))) else (some false))) else (some false))) else (some false))) else (some false)) = some r := H
  have A2 := Aside0.mk A20
  clear A20
  by_cases c3 : t127 = true
  · subst c3
    have H1 : ((analemmaref05_within.f a0_1 1 4).bind fun t128 => (if t128 = true then ((analemmaref05_within.f a0_2 0 7).bind fun t129 => (if t129 = true then ((analemmaref05_within.f a0_3 0 255).bind fun t130 => (if t130 = true then ((analemmaref05_within.f a0_4 (-128) 127).bind fun t131 => (if t131 = true then ((analemmaref05_within.f a0_5 (-128) 127).bind fun t132 => (some t132)) else (some false))) else (some false))) else (some false))) else (some false))) = some r := by rw [if_pos rfl] at H; exact H
    clear H
    have H := H1
    clear H1
    replace H := Option.bind_eq_some_iff.mp H
    obtain ⟨t128, A40, H⟩ := H
    replace H : (if t128 = true then ((analemmaref05_within.f a0_2 0 7).bind fun t129 => (if t129 = true then ((analemmaref05_within.f a0_3 0 255).bind fun t130 => (if t130 = true then ((analemmaref05_within.f a0_4 (-128) 127).bind fun t131 => (if t131 = true then ((analemmaref05_within.f a0_5 (-128) 127).bind fun t132 => (some t132)) else (some false))) else (some false))) else (some false))) else (some false)) = some r := H
    have A4 := Aside0.mk A40
    clear A40
    by_cases c5 : t128 = true
    · subst c5
      have H1 : ((analemmaref05_within.f a0_2 0 7).bind fun t129 => (if t129 = true then ((analemmaref05_within.f a0_3 0 255).bind fun t130 => (if t130 = true then ((analemmaref05_within.f a0_4 (-128) 127).bind fun t131 => (if t131 = true then ((analemmaref05_within.f a0_5 (-128) 127).bind fun t132 => (some t132)) else (some false))) else (some false))) else (some false))) = some r := by rw [if_pos rfl] at H; exact H
      clear H
      have H := H1
      clear H1
      replace H := Option.bind_eq_some_iff.mp H
      obtain ⟨t129, A60, H⟩ := H
      replace H : (if t129 = true then ((analemmaref05_within.f a0_3 0 255).bind fun t130 => (if t130 = true then ((analemmaref05_within.f a0_4 (-128) 127).bind fun t131 => (if t131 = true then ((analemmaref05_within.f a0_5 (-128) 127).bind fun t132 => (some t132)) else (some false))) else (some false))) else (some false)) = some r := H
      have A6 := Aside0.mk A60
      clear A60
      by_cases c7 : t129 = true
      · subst c7
        have H1 : ((analemmaref05_within.f a0_3 0 255).bind fun t130 => (if t130 = true then ((analemmaref05_within.f a0_4 (-128) 127).bind fun t131 => (if t131 = true then ((analemmaref05_within.f a0_5 (-128) 127).bind fun t132 => (some t132)) else (some false))) else (some false))) = some r := by rw [if_pos rfl] at H; exact H
        clear H
        have H := H1
        clear H1
        replace H := Option.bind_eq_some_iff.mp H
        obtain ⟨t130, A80, H⟩ := H
        replace H : (if t130 = true then ((analemmaref05_within.f a0_4 (-128) 127).bind fun t131 => (if t131 = true then ((analemmaref05_within.f a0_5 (-128) 127).bind fun t132 => (some t132)) else (some false))) else (some false)) = some r := H
        have A8 := Aside0.mk A80
        clear A80
        by_cases c9 : t130 = true
        · subst c9
          have H1 : ((analemmaref05_within.f a0_4 (-128) 127).bind fun t131 => (if t131 = true then ((analemmaref05_within.f a0_5 (-128) 127).bind fun t132 => (some t132)) else (some false))) = some r := by rw [if_pos rfl] at H; exact H
          clear H
          have H := H1
          clear H1
          replace H := Option.bind_eq_some_iff.mp H
          obtain ⟨t131, A100, H⟩ := H
          replace H : (if t131 = true then ((analemmaref05_within.f a0_5 (-128) 127).bind fun t132 => (some t132)) else (some false)) = some r := H
          have A10 := Aside0.mk A100
          clear A100
          by_cases c11 : t131 = true
          · subst c11
            have H1 : ((analemmaref05_within.f a0_5 (-128) 127).bind fun t132 => (some t132)) = some r := by rw [if_pos rfl] at H; exact H
            clear H
            have H := H1
            clear H1
            replace H := Option.bind_eq_some_iff.mp H
            obtain ⟨t132, A120, H⟩ := H
            replace H : (some t132) = some r := H
            have A12 := Aside0.mk A120
            clear A120
            obtain rfl := Option.some.inj H
            go_enter Try.func32, Try.ntmps32
            go_wp2_with (first | ((with_reducible refine gate_dst (N := 1) rfl ?_); refine box_event ?hg (N := 1) ?hd (cs := #[.int .i64 a0_0, .int .i64 a0_1, .int .i64 a0_2, .int .i64 a0_3, .int .i64 a0_4, .int .i64 a0_5, .int .u32 a0_6, .int .u32 a0_7, .int .u32 a0_8, .int .u64 a0_9, .int .u64 a0_10, .int .u64 a0_11, .int .u64 a0_12]) (t := 42) ?hr ?_; (case hd => rfl); (case hg => rfl); (case hr => first | (go_simp; done) | (go_simp; rfl)); intro gb126 hg w13 hbox hb; have n0_ := Aside0.mk (below_step (by repeat (first | (with_reducible first | exact HB.out | apply below_alloc | apply pw_below_drewN | apply below_drew1) | exact HB.out)) hb); have n1_ := Aside0.mk (hbox); have n2_ := Aside0.mk ((by rw [hg]; exact (below_size (by repeat (first | (with_reducible first | exact HB.out | apply below_alloc | apply pw_below_drewN | apply below_drew1) | exact HB.out))) : w.heap.size ≤ gb126)); have n3_ := Aside0.mk ((by rw [hg]; exact (below_size (by repeat (first | (with_reducible first | exact HB.out | apply below_alloc | apply pw_below_drewN | apply below_drew1) | exact HB.out))) : w.heap.size ≤ gb126)); clear HB; have HB := n0_; have BK126 := n1_; have GW126 := n2_; have GE126 := n3_; clear n0_ n1_ n2_ n3_; clear hb hbox hg; have hcz14_0 : w13.cell? ⟨gb126, 0, none⟩ = some (.int .i64 a0_0) := (blk_cell BK126.out 0).trans rfl; have hcz14_1 : w13.cell? ⟨gb126, 1, none⟩ = some (.int .i64 a0_1) := (blk_cell BK126.out 1).trans rfl; have hcz14_2 : w13.cell? ⟨gb126, 2, none⟩ = some (.int .i64 a0_2) := (blk_cell BK126.out 2).trans rfl; have hcz14_3 : w13.cell? ⟨gb126, 3, none⟩ = some (.int .i64 a0_3) := (blk_cell BK126.out 3).trans rfl; have hcz14_4 : w13.cell? ⟨gb126, 4, none⟩ = some (.int .i64 a0_4) := (blk_cell BK126.out 4).trans rfl; have hcz14_5 : w13.cell? ⟨gb126, 5, none⟩ = some (.int .i64 a0_5) := (blk_cell BK126.out 5).trans rfl; have hcz14_6 : w13.cell? ⟨gb126, 6, none⟩ = some (.int .u32 a0_6) := (blk_cell BK126.out 6).trans rfl; have hcz14_7 : w13.cell? ⟨gb126, 7, none⟩ = some (.int .u32 a0_7) := (blk_cell BK126.out 7).trans rfl; have hcz14_8 : w13.cell? ⟨gb126, 8, none⟩ = some (.int .u32 a0_8) := (blk_cell BK126.out 8).trans rfl; have hcz14_9 : w13.cell? ⟨gb126, 9, none⟩ = some (.int .u64 a0_9) := (blk_cell BK126.out 9).trans rfl; have hcz14_10 : w13.cell? ⟨gb126, 10, none⟩ = some (.int .u64 a0_10) := (blk_cell BK126.out 10).trans rfl; have hcz14_11 : w13.cell? ⟨gb126, 11, none⟩ = some (.int .u64 a0_11) := (blk_cell BK126.out 11).trans rfl; have hcz14_12 : w13.cell? ⟨gb126, 12, none⟩ = some (.int .u64 a0_12) := (blk_cell BK126.out 12).trans rfl; have hfz14_0 := blk_frozen BK126.out 0; have hfz14_1 := blk_frozen BK126.out 1; have hfz14_2 := blk_frozen BK126.out 2; have hfz14_3 := blk_frozen BK126.out 3; have hfz14_4 := blk_frozen BK126.out 4; have hfz14_5 := blk_frozen BK126.out 5; have hfz14_6 := blk_frozen BK126.out 6; have hfz14_7 := blk_frozen BK126.out 7; have hfz14_8 := blk_frozen BK126.out 8; have hfz14_9 := blk_frozen BK126.out 9; have hfz14_10 := blk_frozen BK126.out 10; have hfz14_11 := blk_frozen BK126.out 11; have hfz14_12 := blk_frozen BK126.out 12) | ((with_reducible refine gate_callee (f := 51) rfl ?_); refine goesL_ (some 5) rfl rfl Try.func51 (by kernel_rfl) rfl #[.int .i64 a0_0, .int .i64 0, .int .i64 3] rfl (by (try simp only [List.map_toArray, List.map_cons, List.map_nil]); first | done | rfl | (simp only [List.length_drop, List.length_take]; rfl)) ?_; (with_reducible refine (analemmaref05_within.calls a0_0 0 3 true _ A2.out).mono ?_); rintro e w' ⟨rfl, ⟨nd, rfl⟩⟩; refine ⟨_, rfl, ?_⟩) | (go_at_call 51; (with_reducible refine (analemmaref05_within.calls a0_1 1 4 true _ A4.out).mono ?_); rintro e w' ⟨rfl, ⟨nd, rfl⟩⟩) | (go_at_call 51; (with_reducible refine (analemmaref05_within.calls a0_2 0 7 true _ A6.out).mono ?_); rintro e w' ⟨rfl, ⟨nd, rfl⟩⟩) | (go_at_call 51; (with_reducible refine (analemmaref05_within.calls a0_3 0 255 true _ A8.out).mono ?_); rintro e w' ⟨rfl, ⟨nd, rfl⟩⟩) | (go_at_call 51; (with_reducible refine (analemmaref05_within.calls a0_4 (-128) 127 true _ A10.out).mono ?_); rintro e w' ⟨rfl, ⟨nd, rfl⟩⟩) | (go_at_call 51; (with_reducible refine (analemmaref05_within.calls a0_5 (-128) 127 t132 _ A12.out).mono ?_); rintro e w' ⟨rfl, ⟨nd, rfl⟩⟩))
            go_ret
            exact ⟨by first | rfl | (simp [errW_none, errW_some] <;> rfl) | (simp [*, errW_none, errW_some] <;> rfl), by repeat (first | (with_reducible first | exact HB.out | apply below_alloc | apply pw_below_drewN | apply below_drew1 | refine below_set ?_ GE126.out) | exact HB.out)⟩
          · replace c11 := Bool.eq_false_iff.mpr c11
            subst c11
            have H1 : (some false) = some r := by rw [if_neg (show ¬ (false = true) by decide)] at H; exact H
            clear H
            have H := H1
            clear H1
            obtain rfl := Option.some.inj H
            go_enter Try.func32, Try.ntmps32
            go_wp2_with (first | ((with_reducible refine gate_dst (N := 1) rfl ?_); refine box_event ?hg (N := 1) ?hd (cs := #[.int .i64 a0_0, .int .i64 a0_1, .int .i64 a0_2, .int .i64 a0_3, .int .i64 a0_4, .int .i64 a0_5, .int .u32 a0_6, .int .u32 a0_7, .int .u32 a0_8, .int .u64 a0_9, .int .u64 a0_10, .int .u64 a0_11, .int .u64 a0_12]) (t := 42) ?hr ?_; (case hd => rfl); (case hg => rfl); (case hr => first | (go_simp; done) | (go_simp; rfl)); intro gb126 hg w15 hbox hb; have n0_ := Aside0.mk (below_step (by repeat (first | (with_reducible first | exact HB.out | apply below_alloc | apply pw_below_drewN | apply below_drew1) | exact HB.out)) hb); have n1_ := Aside0.mk (hbox); have n2_ := Aside0.mk ((by rw [hg]; exact (below_size (by repeat (first | (with_reducible first | exact HB.out | apply below_alloc | apply pw_below_drewN | apply below_drew1) | exact HB.out))) : w.heap.size ≤ gb126)); have n3_ := Aside0.mk ((by rw [hg]; exact (below_size (by repeat (first | (with_reducible first | exact HB.out | apply below_alloc | apply pw_below_drewN | apply below_drew1) | exact HB.out))) : w.heap.size ≤ gb126)); clear HB; have HB := n0_; have BK126 := n1_; have GW126 := n2_; have GE126 := n3_; clear n0_ n1_ n2_ n3_; clear hb hbox hg; have hcz16_0 : w15.cell? ⟨gb126, 0, none⟩ = some (.int .i64 a0_0) := (blk_cell BK126.out 0).trans rfl; have hcz16_1 : w15.cell? ⟨gb126, 1, none⟩ = some (.int .i64 a0_1) := (blk_cell BK126.out 1).trans rfl; have hcz16_2 : w15.cell? ⟨gb126, 2, none⟩ = some (.int .i64 a0_2) := (blk_cell BK126.out 2).trans rfl; have hcz16_3 : w15.cell? ⟨gb126, 3, none⟩ = some (.int .i64 a0_3) := (blk_cell BK126.out 3).trans rfl; have hcz16_4 : w15.cell? ⟨gb126, 4, none⟩ = some (.int .i64 a0_4) := (blk_cell BK126.out 4).trans rfl; have hcz16_5 : w15.cell? ⟨gb126, 5, none⟩ = some (.int .i64 a0_5) := (blk_cell BK126.out 5).trans rfl; have hcz16_6 : w15.cell? ⟨gb126, 6, none⟩ = some (.int .u32 a0_6) := (blk_cell BK126.out 6).trans rfl; have hcz16_7 : w15.cell? ⟨gb126, 7, none⟩ = some (.int .u32 a0_7) := (blk_cell BK126.out 7).trans rfl; have hcz16_8 : w15.cell? ⟨gb126, 8, none⟩ = some (.int .u32 a0_8) := (blk_cell BK126.out 8).trans rfl; have hcz16_9 : w15.cell? ⟨gb126, 9, none⟩ = some (.int .u64 a0_9) := (blk_cell BK126.out 9).trans rfl; have hcz16_10 : w15.cell? ⟨gb126, 10, none⟩ = some (.int .u64 a0_10) := (blk_cell BK126.out 10).trans rfl; have hcz16_11 : w15.cell? ⟨gb126, 11, none⟩ = some (.int .u64 a0_11) := (blk_cell BK126.out 11).trans rfl; have hcz16_12 : w15.cell? ⟨gb126, 12, none⟩ = some (.int .u64 a0_12) := (blk_cell BK126.out 12).trans rfl; have hfz16_0 := blk_frozen BK126.out 0; have hfz16_1 := blk_frozen BK126.out 1; have hfz16_2 := blk_frozen BK126.out 2; have hfz16_3 := blk_frozen BK126.out 3; have hfz16_4 := blk_frozen BK126.out 4; have hfz16_5 := blk_frozen BK126.out 5; have hfz16_6 := blk_frozen BK126.out 6; have hfz16_7 := blk_frozen BK126.out 7; have hfz16_8 := blk_frozen BK126.out 8; have hfz16_9 := blk_frozen BK126.out 9; have hfz16_10 := blk_frozen BK126.out 10; have hfz16_11 := blk_frozen BK126.out 11; have hfz16_12 := blk_frozen BK126.out 12) | ((with_reducible refine gate_callee (f := 51) rfl ?_); refine goesL_ (some 5) rfl rfl Try.func51 (by kernel_rfl) rfl #[.int .i64 a0_0, .int .i64 0, .int .i64 3] rfl (by (try simp only [List.map_toArray, List.map_cons, List.map_nil]); first | done | rfl | (simp only [List.length_drop, List.length_take]; rfl)) ?_; (with_reducible refine (analemmaref05_within.calls a0_0 0 3 true _ A2.out).mono ?_); rintro e w' ⟨rfl, ⟨nd, rfl⟩⟩; refine ⟨_, rfl, ?_⟩) | (go_at_call 51; (with_reducible refine (analemmaref05_within.calls a0_1 1 4 true _ A4.out).mono ?_); rintro e w' ⟨rfl, ⟨nd, rfl⟩⟩) | (go_at_call 51; (with_reducible refine (analemmaref05_within.calls a0_2 0 7 true _ A6.out).mono ?_); rintro e w' ⟨rfl, ⟨nd, rfl⟩⟩) | (go_at_call 51; (with_reducible refine (analemmaref05_within.calls a0_3 0 255 true _ A8.out).mono ?_); rintro e w' ⟨rfl, ⟨nd, rfl⟩⟩) | (go_at_call 51; (with_reducible refine (analemmaref05_within.calls a0_4 (-128) 127 false _ A10.out).mono ?_); rintro e w' ⟨rfl, ⟨nd, rfl⟩⟩))
            go_ret
            exact ⟨by first | rfl | (simp [errW_none, errW_some] <;> rfl) | (simp [*, errW_none, errW_some] <;> rfl), by repeat (first | (with_reducible first | exact HB.out | apply below_alloc | apply pw_below_drewN | apply below_drew1 | refine below_set ?_ GE126.out) | exact HB.out)⟩
        · replace c9 := Bool.eq_false_iff.mpr c9
          subst c9
          have H1 : (some false) = some r := by rw [if_neg (show ¬ (false = true) by decide)] at H; exact H
          clear H
          have H := H1
          clear H1
          obtain rfl := Option.some.inj H
          go_enter Try.func32, Try.ntmps32
          go_wp2_with (first | ((with_reducible refine gate_dst (N := 1) rfl ?_); refine box_event ?hg (N := 1) ?hd (cs := #[.int .i64 a0_0, .int .i64 a0_1, .int .i64 a0_2, .int .i64 a0_3, .int .i64 a0_4, .int .i64 a0_5, .int .u32 a0_6, .int .u32 a0_7, .int .u32 a0_8, .int .u64 a0_9, .int .u64 a0_10, .int .u64 a0_11, .int .u64 a0_12]) (t := 42) ?hr ?_; (case hd => rfl); (case hg => rfl); (case hr => first | (go_simp; done) | (go_simp; rfl)); intro gb126 hg w17 hbox hb; have n0_ := Aside0.mk (below_step (by repeat (first | (with_reducible first | exact HB.out | apply below_alloc | apply pw_below_drewN | apply below_drew1) | exact HB.out)) hb); have n1_ := Aside0.mk (hbox); have n2_ := Aside0.mk ((by rw [hg]; exact (below_size (by repeat (first | (with_reducible first | exact HB.out | apply below_alloc | apply pw_below_drewN | apply below_drew1) | exact HB.out))) : w.heap.size ≤ gb126)); have n3_ := Aside0.mk ((by rw [hg]; exact (below_size (by repeat (first | (with_reducible first | exact HB.out | apply below_alloc | apply pw_below_drewN | apply below_drew1) | exact HB.out))) : w.heap.size ≤ gb126)); clear HB; have HB := n0_; have BK126 := n1_; have GW126 := n2_; have GE126 := n3_; clear n0_ n1_ n2_ n3_; clear hb hbox hg; have hcz18_0 : w17.cell? ⟨gb126, 0, none⟩ = some (.int .i64 a0_0) := (blk_cell BK126.out 0).trans rfl; have hcz18_1 : w17.cell? ⟨gb126, 1, none⟩ = some (.int .i64 a0_1) := (blk_cell BK126.out 1).trans rfl; have hcz18_2 : w17.cell? ⟨gb126, 2, none⟩ = some (.int .i64 a0_2) := (blk_cell BK126.out 2).trans rfl; have hcz18_3 : w17.cell? ⟨gb126, 3, none⟩ = some (.int .i64 a0_3) := (blk_cell BK126.out 3).trans rfl; have hcz18_4 : w17.cell? ⟨gb126, 4, none⟩ = some (.int .i64 a0_4) := (blk_cell BK126.out 4).trans rfl; have hcz18_5 : w17.cell? ⟨gb126, 5, none⟩ = some (.int .i64 a0_5) := (blk_cell BK126.out 5).trans rfl; have hcz18_6 : w17.cell? ⟨gb126, 6, none⟩ = some (.int .u32 a0_6) := (blk_cell BK126.out 6).trans rfl; have hcz18_7 : w17.cell? ⟨gb126, 7, none⟩ = some (.int .u32 a0_7) := (blk_cell BK126.out 7).trans rfl; have hcz18_8 : w17.cell? ⟨gb126, 8, none⟩ = some (.int .u32 a0_8) := (blk_cell BK126.out 8).trans rfl; have hcz18_9 : w17.cell? ⟨gb126, 9, none⟩ = some (.int .u64 a0_9) := (blk_cell BK126.out 9).trans rfl; have hcz18_10 : w17.cell? ⟨gb126, 10, none⟩ = some (.int .u64 a0_10) := (blk_cell BK126.out 10).trans rfl; have hcz18_11 : w17.cell? ⟨gb126, 11, none⟩ = some (.int .u64 a0_11) := (blk_cell BK126.out 11).trans rfl; have hcz18_12 : w17.cell? ⟨gb126, 12, none⟩ = some (.int .u64 a0_12) := (blk_cell BK126.out 12).trans rfl; have hfz18_0 := blk_frozen BK126.out 0; have hfz18_1 := blk_frozen BK126.out 1; have hfz18_2 := blk_frozen BK126.out 2; have hfz18_3 := blk_frozen BK126.out 3; have hfz18_4 := blk_frozen BK126.out 4; have hfz18_5 := blk_frozen BK126.out 5; have hfz18_6 := blk_frozen BK126.out 6; have hfz18_7 := blk_frozen BK126.out 7; have hfz18_8 := blk_frozen BK126.out 8; have hfz18_9 := blk_frozen BK126.out 9; have hfz18_10 := blk_frozen BK126.out 10; have hfz18_11 := blk_frozen BK126.out 11; have hfz18_12 := blk_frozen BK126.out 12) | ((with_reducible refine gate_callee (f := 51) rfl ?_); refine goesL_ (some 5) rfl rfl Try.func51 (by kernel_rfl) rfl #[.int .i64 a0_0, .int .i64 0, .int .i64 3] rfl (by (try simp only [List.map_toArray, List.map_cons, List.map_nil]); first | done | rfl | (simp only [List.length_drop, List.length_take]; rfl)) ?_; (with_reducible refine (analemmaref05_within.calls a0_0 0 3 true _ A2.out).mono ?_); rintro e w' ⟨rfl, ⟨nd, rfl⟩⟩; refine ⟨_, rfl, ?_⟩) | (go_at_call 51; (with_reducible refine (analemmaref05_within.calls a0_1 1 4 true _ A4.out).mono ?_); rintro e w' ⟨rfl, ⟨nd, rfl⟩⟩) | (go_at_call 51; (with_reducible refine (analemmaref05_within.calls a0_2 0 7 true _ A6.out).mono ?_); rintro e w' ⟨rfl, ⟨nd, rfl⟩⟩) | (go_at_call 51; (with_reducible refine (analemmaref05_within.calls a0_3 0 255 false _ A8.out).mono ?_); rintro e w' ⟨rfl, ⟨nd, rfl⟩⟩))
          go_ret
          exact ⟨by first | rfl | (simp [errW_none, errW_some] <;> rfl) | (simp [*, errW_none, errW_some] <;> rfl), by repeat (first | (with_reducible first | exact HB.out | apply below_alloc | apply pw_below_drewN | apply below_drew1 | refine below_set ?_ GE126.out) | exact HB.out)⟩
      · replace c7 := Bool.eq_false_iff.mpr c7
        subst c7
        have H1 : (some false) = some r := by rw [if_neg (show ¬ (false = true) by decide)] at H; exact H
        clear H
        have H := H1
        clear H1
        obtain rfl := Option.some.inj H
        go_enter Try.func32, Try.ntmps32
        go_wp2_with (first | ((with_reducible refine gate_dst (N := 1) rfl ?_); refine box_event ?hg (N := 1) ?hd (cs := #[.int .i64 a0_0, .int .i64 a0_1, .int .i64 a0_2, .int .i64 a0_3, .int .i64 a0_4, .int .i64 a0_5, .int .u32 a0_6, .int .u32 a0_7, .int .u32 a0_8, .int .u64 a0_9, .int .u64 a0_10, .int .u64 a0_11, .int .u64 a0_12]) (t := 42) ?hr ?_; (case hd => rfl); (case hg => rfl); (case hr => first | (go_simp; done) | (go_simp; rfl)); intro gb126 hg w19 hbox hb; have n0_ := Aside0.mk (below_step (by repeat (first | (with_reducible first | exact HB.out | apply below_alloc | apply pw_below_drewN | apply below_drew1) | exact HB.out)) hb); have n1_ := Aside0.mk (hbox); have n2_ := Aside0.mk ((by rw [hg]; exact (below_size (by repeat (first | (with_reducible first | exact HB.out | apply below_alloc | apply pw_below_drewN | apply below_drew1) | exact HB.out))) : w.heap.size ≤ gb126)); have n3_ := Aside0.mk ((by rw [hg]; exact (below_size (by repeat (first | (with_reducible first | exact HB.out | apply below_alloc | apply pw_below_drewN | apply below_drew1) | exact HB.out))) : w.heap.size ≤ gb126)); clear HB; have HB := n0_; have BK126 := n1_; have GW126 := n2_; have GE126 := n3_; clear n0_ n1_ n2_ n3_; clear hb hbox hg; have hcz20_0 : w19.cell? ⟨gb126, 0, none⟩ = some (.int .i64 a0_0) := (blk_cell BK126.out 0).trans rfl; have hcz20_1 : w19.cell? ⟨gb126, 1, none⟩ = some (.int .i64 a0_1) := (blk_cell BK126.out 1).trans rfl; have hcz20_2 : w19.cell? ⟨gb126, 2, none⟩ = some (.int .i64 a0_2) := (blk_cell BK126.out 2).trans rfl; have hcz20_3 : w19.cell? ⟨gb126, 3, none⟩ = some (.int .i64 a0_3) := (blk_cell BK126.out 3).trans rfl; have hcz20_4 : w19.cell? ⟨gb126, 4, none⟩ = some (.int .i64 a0_4) := (blk_cell BK126.out 4).trans rfl; have hcz20_5 : w19.cell? ⟨gb126, 5, none⟩ = some (.int .i64 a0_5) := (blk_cell BK126.out 5).trans rfl; have hcz20_6 : w19.cell? ⟨gb126, 6, none⟩ = some (.int .u32 a0_6) := (blk_cell BK126.out 6).trans rfl; have hcz20_7 : w19.cell? ⟨gb126, 7, none⟩ = some (.int .u32 a0_7) := (blk_cell BK126.out 7).trans rfl; have hcz20_8 : w19.cell? ⟨gb126, 8, none⟩ = some (.int .u32 a0_8) := (blk_cell BK126.out 8).trans rfl; have hcz20_9 : w19.cell? ⟨gb126, 9, none⟩ = some (.int .u64 a0_9) := (blk_cell BK126.out 9).trans rfl; have hcz20_10 : w19.cell? ⟨gb126, 10, none⟩ = some (.int .u64 a0_10) := (blk_cell BK126.out 10).trans rfl; have hcz20_11 : w19.cell? ⟨gb126, 11, none⟩ = some (.int .u64 a0_11) := (blk_cell BK126.out 11).trans rfl; have hcz20_12 : w19.cell? ⟨gb126, 12, none⟩ = some (.int .u64 a0_12) := (blk_cell BK126.out 12).trans rfl; have hfz20_0 := blk_frozen BK126.out 0; have hfz20_1 := blk_frozen BK126.out 1; have hfz20_2 := blk_frozen BK126.out 2; have hfz20_3 := blk_frozen BK126.out 3; have hfz20_4 := blk_frozen BK126.out 4; have hfz20_5 := blk_frozen BK126.out 5; have hfz20_6 := blk_frozen BK126.out 6; have hfz20_7 := blk_frozen BK126.out 7; have hfz20_8 := blk_frozen BK126.out 8; have hfz20_9 := blk_frozen BK126.out 9; have hfz20_10 := blk_frozen BK126.out 10; have hfz20_11 := blk_frozen BK126.out 11; have hfz20_12 := blk_frozen BK126.out 12) | ((with_reducible refine gate_callee (f := 51) rfl ?_); refine goesL_ (some 5) rfl rfl Try.func51 (by kernel_rfl) rfl #[.int .i64 a0_0, .int .i64 0, .int .i64 3] rfl (by (try simp only [List.map_toArray, List.map_cons, List.map_nil]); first | done | rfl | (simp only [List.length_drop, List.length_take]; rfl)) ?_; (with_reducible refine (analemmaref05_within.calls a0_0 0 3 true _ A2.out).mono ?_); rintro e w' ⟨rfl, ⟨nd, rfl⟩⟩; refine ⟨_, rfl, ?_⟩) | (go_at_call 51; (with_reducible refine (analemmaref05_within.calls a0_1 1 4 true _ A4.out).mono ?_); rintro e w' ⟨rfl, ⟨nd, rfl⟩⟩) | (go_at_call 51; (with_reducible refine (analemmaref05_within.calls a0_2 0 7 false _ A6.out).mono ?_); rintro e w' ⟨rfl, ⟨nd, rfl⟩⟩))
        go_ret
        exact ⟨by first | rfl | (simp [errW_none, errW_some] <;> rfl) | (simp [*, errW_none, errW_some] <;> rfl), by repeat (first | (with_reducible first | exact HB.out | apply below_alloc | apply pw_below_drewN | apply below_drew1 | refine below_set ?_ GE126.out) | exact HB.out)⟩
    · replace c5 := Bool.eq_false_iff.mpr c5
      subst c5
      have H1 : (some false) = some r := by rw [if_neg (show ¬ (false = true) by decide)] at H; exact H
      clear H
      have H := H1
      clear H1
      obtain rfl := Option.some.inj H
      go_enter Try.func32, Try.ntmps32
      go_wp2_with (first | ((with_reducible refine gate_dst (N := 1) rfl ?_); refine box_event ?hg (N := 1) ?hd (cs := #[.int .i64 a0_0, .int .i64 a0_1, .int .i64 a0_2, .int .i64 a0_3, .int .i64 a0_4, .int .i64 a0_5, .int .u32 a0_6, .int .u32 a0_7, .int .u32 a0_8, .int .u64 a0_9, .int .u64 a0_10, .int .u64 a0_11, .int .u64 a0_12]) (t := 42) ?hr ?_; (case hd => rfl); (case hg => rfl); (case hr => first | (go_simp; done) | (go_simp; rfl)); intro gb126 hg w21 hbox hb; have n0_ := Aside0.mk (below_step (by repeat (first | (with_reducible first | exact HB.out | apply below_alloc | apply pw_below_drewN | apply below_drew1) | exact HB.out)) hb); have n1_ := Aside0.mk (hbox); have n2_ := Aside0.mk ((by rw [hg]; exact (below_size (by repeat (first | (with_reducible first | exact HB.out | apply below_alloc | apply pw_below_drewN | apply below_drew1) | exact HB.out))) : w.heap.size ≤ gb126)); have n3_ := Aside0.mk ((by rw [hg]; exact (below_size (by repeat (first | (with_reducible first | exact HB.out | apply below_alloc | apply pw_below_drewN | apply below_drew1) | exact HB.out))) : w.heap.size ≤ gb126)); clear HB; have HB := n0_; have BK126 := n1_; have GW126 := n2_; have GE126 := n3_; clear n0_ n1_ n2_ n3_; clear hb hbox hg; have hcz22_0 : w21.cell? ⟨gb126, 0, none⟩ = some (.int .i64 a0_0) := (blk_cell BK126.out 0).trans rfl; have hcz22_1 : w21.cell? ⟨gb126, 1, none⟩ = some (.int .i64 a0_1) := (blk_cell BK126.out 1).trans rfl; have hcz22_2 : w21.cell? ⟨gb126, 2, none⟩ = some (.int .i64 a0_2) := (blk_cell BK126.out 2).trans rfl; have hcz22_3 : w21.cell? ⟨gb126, 3, none⟩ = some (.int .i64 a0_3) := (blk_cell BK126.out 3).trans rfl; have hcz22_4 : w21.cell? ⟨gb126, 4, none⟩ = some (.int .i64 a0_4) := (blk_cell BK126.out 4).trans rfl; have hcz22_5 : w21.cell? ⟨gb126, 5, none⟩ = some (.int .i64 a0_5) := (blk_cell BK126.out 5).trans rfl; have hcz22_6 : w21.cell? ⟨gb126, 6, none⟩ = some (.int .u32 a0_6) := (blk_cell BK126.out 6).trans rfl; have hcz22_7 : w21.cell? ⟨gb126, 7, none⟩ = some (.int .u32 a0_7) := (blk_cell BK126.out 7).trans rfl; have hcz22_8 : w21.cell? ⟨gb126, 8, none⟩ = some (.int .u32 a0_8) := (blk_cell BK126.out 8).trans rfl; have hcz22_9 : w21.cell? ⟨gb126, 9, none⟩ = some (.int .u64 a0_9) := (blk_cell BK126.out 9).trans rfl; have hcz22_10 : w21.cell? ⟨gb126, 10, none⟩ = some (.int .u64 a0_10) := (blk_cell BK126.out 10).trans rfl; have hcz22_11 : w21.cell? ⟨gb126, 11, none⟩ = some (.int .u64 a0_11) := (blk_cell BK126.out 11).trans rfl; have hcz22_12 : w21.cell? ⟨gb126, 12, none⟩ = some (.int .u64 a0_12) := (blk_cell BK126.out 12).trans rfl; have hfz22_0 := blk_frozen BK126.out 0; have hfz22_1 := blk_frozen BK126.out 1; have hfz22_2 := blk_frozen BK126.out 2; have hfz22_3 := blk_frozen BK126.out 3; have hfz22_4 := blk_frozen BK126.out 4; have hfz22_5 := blk_frozen BK126.out 5; have hfz22_6 := blk_frozen BK126.out 6; have hfz22_7 := blk_frozen BK126.out 7; have hfz22_8 := blk_frozen BK126.out 8; have hfz22_9 := blk_frozen BK126.out 9; have hfz22_10 := blk_frozen BK126.out 10; have hfz22_11 := blk_frozen BK126.out 11; have hfz22_12 := blk_frozen BK126.out 12) | ((with_reducible refine gate_callee (f := 51) rfl ?_); refine goesL_ (some 5) rfl rfl Try.func51 (by kernel_rfl) rfl #[.int .i64 a0_0, .int .i64 0, .int .i64 3] rfl (by (try simp only [List.map_toArray, List.map_cons, List.map_nil]); first | done | rfl | (simp only [List.length_drop, List.length_take]; rfl)) ?_; (with_reducible refine (analemmaref05_within.calls a0_0 0 3 true _ A2.out).mono ?_); rintro e w' ⟨rfl, ⟨nd, rfl⟩⟩; refine ⟨_, rfl, ?_⟩) | (go_at_call 51; (with_reducible refine (analemmaref05_within.calls a0_1 1 4 false _ A4.out).mono ?_); rintro e w' ⟨rfl, ⟨nd, rfl⟩⟩))
      go_ret
      exact ⟨by first | rfl | (simp [errW_none, errW_some] <;> rfl) | (simp [*, errW_none, errW_some] <;> rfl), by repeat (first | (with_reducible first | exact HB.out | apply below_alloc | apply pw_below_drewN | apply below_drew1 | refine below_set ?_ GE126.out) | exact HB.out)⟩
  · replace c3 := Bool.eq_false_iff.mpr c3
    subst c3
    have H1 : (some false) = some r := by rw [if_neg (show ¬ (false = true) by decide)] at H; exact H
    clear H
    have H := H1
    clear H1
    obtain rfl := Option.some.inj H
    go_enter Try.func32, Try.ntmps32
    go_wp2_with (first | ((with_reducible refine gate_dst (N := 1) rfl ?_); refine box_event ?hg (N := 1) ?hd (cs := #[.int .i64 a0_0, .int .i64 a0_1, .int .i64 a0_2, .int .i64 a0_3, .int .i64 a0_4, .int .i64 a0_5, .int .u32 a0_6, .int .u32 a0_7, .int .u32 a0_8, .int .u64 a0_9, .int .u64 a0_10, .int .u64 a0_11, .int .u64 a0_12]) (t := 42) ?hr ?_; (case hd => rfl); (case hg => rfl); (case hr => first | (go_simp; done) | (go_simp; rfl)); intro gb126 hg w23 hbox hb; have n0_ := Aside0.mk (below_step (by repeat (first | (with_reducible first | exact HB.out | apply below_alloc | apply pw_below_drewN | apply below_drew1) | exact HB.out)) hb); have n1_ := Aside0.mk (hbox); have n2_ := Aside0.mk ((by rw [hg]; exact (below_size (by repeat (first | (with_reducible first | exact HB.out | apply below_alloc | apply pw_below_drewN | apply below_drew1) | exact HB.out))) : w.heap.size ≤ gb126)); have n3_ := Aside0.mk ((by rw [hg]; exact (below_size (by repeat (first | (with_reducible first | exact HB.out | apply below_alloc | apply pw_below_drewN | apply below_drew1) | exact HB.out))) : w.heap.size ≤ gb126)); clear HB; have HB := n0_; have BK126 := n1_; have GW126 := n2_; have GE126 := n3_; clear n0_ n1_ n2_ n3_; clear hb hbox hg; have hcz24_0 : w23.cell? ⟨gb126, 0, none⟩ = some (.int .i64 a0_0) := (blk_cell BK126.out 0).trans rfl; have hcz24_1 : w23.cell? ⟨gb126, 1, none⟩ = some (.int .i64 a0_1) := (blk_cell BK126.out 1).trans rfl; have hcz24_2 : w23.cell? ⟨gb126, 2, none⟩ = some (.int .i64 a0_2) := (blk_cell BK126.out 2).trans rfl; have hcz24_3 : w23.cell? ⟨gb126, 3, none⟩ = some (.int .i64 a0_3) := (blk_cell BK126.out 3).trans rfl; have hcz24_4 : w23.cell? ⟨gb126, 4, none⟩ = some (.int .i64 a0_4) := (blk_cell BK126.out 4).trans rfl; have hcz24_5 : w23.cell? ⟨gb126, 5, none⟩ = some (.int .i64 a0_5) := (blk_cell BK126.out 5).trans rfl; have hcz24_6 : w23.cell? ⟨gb126, 6, none⟩ = some (.int .u32 a0_6) := (blk_cell BK126.out 6).trans rfl; have hcz24_7 : w23.cell? ⟨gb126, 7, none⟩ = some (.int .u32 a0_7) := (blk_cell BK126.out 7).trans rfl; have hcz24_8 : w23.cell? ⟨gb126, 8, none⟩ = some (.int .u32 a0_8) := (blk_cell BK126.out 8).trans rfl; have hcz24_9 : w23.cell? ⟨gb126, 9, none⟩ = some (.int .u64 a0_9) := (blk_cell BK126.out 9).trans rfl; have hcz24_10 : w23.cell? ⟨gb126, 10, none⟩ = some (.int .u64 a0_10) := (blk_cell BK126.out 10).trans rfl; have hcz24_11 : w23.cell? ⟨gb126, 11, none⟩ = some (.int .u64 a0_11) := (blk_cell BK126.out 11).trans rfl; have hcz24_12 : w23.cell? ⟨gb126, 12, none⟩ = some (.int .u64 a0_12) := (blk_cell BK126.out 12).trans rfl; have hfz24_0 := blk_frozen BK126.out 0; have hfz24_1 := blk_frozen BK126.out 1; have hfz24_2 := blk_frozen BK126.out 2; have hfz24_3 := blk_frozen BK126.out 3; have hfz24_4 := blk_frozen BK126.out 4; have hfz24_5 := blk_frozen BK126.out 5; have hfz24_6 := blk_frozen BK126.out 6; have hfz24_7 := blk_frozen BK126.out 7; have hfz24_8 := blk_frozen BK126.out 8; have hfz24_9 := blk_frozen BK126.out 9; have hfz24_10 := blk_frozen BK126.out 10; have hfz24_11 := blk_frozen BK126.out 11; have hfz24_12 := blk_frozen BK126.out 12) | ((with_reducible refine gate_callee (f := 51) rfl ?_); refine goesL_ (some 5) rfl rfl Try.func51 (by kernel_rfl) rfl #[.int .i64 a0_0, .int .i64 0, .int .i64 3] rfl (by (try simp only [List.map_toArray, List.map_cons, List.map_nil]); first | done | rfl | (simp only [List.length_drop, List.length_take]; rfl)) ?_; (with_reducible refine (analemmaref05_within.calls a0_0 0 3 false _ A2.out).mono ?_); rintro e w' ⟨rfl, ⟨nd, rfl⟩⟩; refine ⟨_, rfl, ?_⟩))
    go_ret
    exact ⟨by first | rfl | (simp [errW_none, errW_some] <;> rfl) | (simp [*, errW_none, errW_some] <;> rfl), by repeat (first | (with_reducible first | exact HB.out | apply below_alloc | apply pw_below_drewN | apply below_drew1 | refine below_set ?_ GE126.out) | exact HB.out)⟩

/-! ### header_Ask: function 36 -/
def header_Ask.f (k : Nat) (a0 : Int) (a1 : Int) (a2 : Int) : Option (ByteArray × Int) := (header_Encode.f k 0 a0 3 0 a1 0 0 0 0 0 0 0 a2).bind fun bt133 => (some (bt133.1, bt133.2))
theorem header_Ask.mono : ∀ a0 a1 a2 k, LeO (header_Ask.f k a0 a1 a2) (header_Ask.f (k + 1) a0 a1 a2) := by
  intro a0 a1 a2 k
  unfold header_Ask.f
  repeat' first
      | (with_reducible exact header_Encode.mono _ _ _ _ _ _ _ _ _ _ _ _ _ _)
      | (with_reducible exact LeO.refl _)
      | (with_reducible exact LeO.none _)
      | (with_reducible refine LeO.ite ?_ ?_)
      | (with_reducible refine LeO.bind ?_ (fun _ => ?_))
      | exact header_Encode.mono _ _ _ _ _ _ _ _ _ _ _ _ _ _
      | exact LeO.none _
      | refine LeO.ite ?_ ?_
      | refine LeO.bind ?_ (fun _ => ?_)
set_option maxHeartbeats 8000000 in
set_option maxRecDepth 100000 in
theorem header_Ask.calls (k : Nat) (a0 : Int) (a1 : Int) (a2 : Int) (r1 : ByteArray) (r2 : Int) (w : World) (h : header_Ask.f k a0 a1 a2 = some (r1, r2)) :
    Calls Try.prog 36 #[.int .i64 a0, .int .i64 a1, .int .u64 a2] w fun e w' => e = .returned (.tuple #[.string r1, .int .i64 r2]) ∧ Below w.heap.size w w' := by
  have hu42 := Try.underlying42
  have HB := Aside0.mk (Below.refl w.heap.size w)
  have H : ((header_Encode.f k 0 a0 3 0 a1 0 0 0 0 0 0 0 a2).bind fun bt133 => (some (bt133.1, bt133.2))) = some (r1, r2) := h
  clear h
  replace H := Option.bind_eq_some_iff.mp H
  obtain ⟨⟨t133, t134⟩, A40, H⟩ := H
  replace H : (some (t133, t134)) = some (r1, r2) := H
  have A4 := Aside0.mk A40
  clear A40
  simp only [Option.some.injEq, Prod.mk.injEq] at H
  obtain ⟨rfl, rfl⟩ := H
  go_enter Try.func36, Try.ntmps36
  go_wp2_with (first | ((with_reducible refine gate_callee (f := 29) rfl ?_); refine goesL_ (some 12) rfl rfl Try.func29 (by kernel_rfl) rfl #[.agg #[.int .i64 0, .int .i64 a0, .int .i64 3, .int .i64 0, .int .i64 a1, .int .i64 0, .int .u32 0, .int .u32 0, .int .u32 0, .int .u64 0, .int .u64 0, .int .u64 0, .int .u64 a2]] rfl (by (try simp only [List.map_toArray, List.map_cons, List.map_nil]); first | done | rfl | (simp only [List.length_drop, List.length_take]; rfl)) ?_; (with_reducible refine (header_Encode.calls k 0 a0 3 0 a1 0 0 0 0 0 0 0 a2 t133 t134 _ A4.out).mono ?_); rintro e w5 ⟨rfl, hb⟩; refine ⟨_, rfl, ?_⟩; have n0_ := Aside0.mk (below_step (by repeat (first | (with_reducible first | exact HB.out | apply below_alloc | apply pw_below_drewN | apply below_drew1) | exact HB.out)) hb); clear HB; have HB := n0_; clear n0_; (try clear hb); (try clear hb2); (try clear hk); (try clear hi)))
  go_ret2
  exact ⟨by first | rfl | (simp [errW_none, errW_some] <;> rfl) | (simp [*, errW_none, errW_some] <;> rfl), by repeat (first | (with_reducible first | exact HB.out | apply below_alloc | apply pw_below_drewN | apply below_drew1) | exact HB.out)⟩

/-! ### analemmalaw05_shown: function 33 -/
def analemmalaw05_shown.f (k : Nat)  : Option (Bool) := (header_Ask.f k 4 6 1).bind fun bt135 => (if (bt135.1.size : Int) = 48 then (if bt135.2 = 0 then (if 0 < (bt135.1.size : Int) then (some ((bt bt135.1 0) == 35)) else (none)) else (some false)) else (some false))
theorem analemmalaw05_shown.mono : ∀ k, LeO (analemmalaw05_shown.f k ) (analemmalaw05_shown.f (k + 1) ) := by
  intro  k
  unfold analemmalaw05_shown.f
  repeat' first
      | (with_reducible exact header_Ask.mono _ _ _ _)
      | (with_reducible exact LeO.refl _)
      | (with_reducible exact LeO.none _)
      | (with_reducible refine LeO.ite ?_ ?_)
      | (with_reducible refine LeO.bind ?_ (fun _ => ?_))
      | exact header_Ask.mono _ _ _ _
      | exact LeO.none _
      | refine LeO.ite ?_ ?_
      | refine LeO.bind ?_ (fun _ => ?_)
set_option maxHeartbeats 8000000 in
set_option maxRecDepth 100000 in
theorem analemmalaw05_shown.calls (k : Nat)  (r : Bool) (w : World) (h : analemmalaw05_shown.f k  = some r) :
    Calls Try.prog 33 #[] w fun e w' => e = .returned (.bool r) ∧ Below w.heap.size w w' := by
  have HB := Aside0.mk (Below.refl w.heap.size w)
  have H : ((header_Ask.f k 4 6 1).bind fun bt135 => (if (bt135.1.size : Int) = 48 then (if bt135.2 = 0 then (if 0 < (bt135.1.size : Int) then (some ((bt bt135.1 0) == 35)) else (none)) else (some false)) else (some false))) = some r := h
  clear h
  replace H := Option.bind_eq_some_iff.mp H
  obtain ⟨⟨t135, t136⟩, A10, H⟩ := H
  replace H : (if (t135.size : Int) = 48 then (if t136 = 0 then (if 0 < (t135.size : Int) then (some ((bt t135 0) == 35)) else (none)) else (some false)) else (some false)) = some r := H
  have A1 := Aside0.mk A10
  clear A10
  by_cases c2 : (t135.size : Int) = 48
  · rw [if_pos c2] at H
    have c2b0 : ((t135.size : Int) == 48) = true := beq_iff_eq.mpr c2
    have c2b1 : ((t135.size : Int) != 48) = false := bne_eq_false_iff_eq.mpr c2
    clear c2
    by_cases c3 : t136 = 0
    · rw [if_pos c3] at H
      have c3b0 : (t136 == 0) = true := beq_iff_eq.mpr c3
      have c3b1 : (t136 != 0) = false := bne_eq_false_iff_eq.mpr c3
      clear c3
      by_cases c4 : 0 < (t135.size : Int)
      · rw [if_pos c4] at H
        have c4b0 : decide (0 < (t135.size : Int)) = true := decide_eq_true c4
        have c4b1 : decide (0 < t135.size) = true := decide_eq_true (by omega)
        clear c4
        obtain rfl := Option.some.inj H
        go_enter Try.func33, Try.ntmps33
        go_wp2_with (first | ((with_reducible refine gate_callee (f := 36) rfl ?_); refine goesL_ (some 4) rfl rfl Try.func36 (by kernel_rfl) rfl #[.int .i64 4, .int .i64 6, .int .u64 1] rfl (by (try simp only [List.map_toArray, List.map_cons, List.map_nil]); first | done | rfl | (simp only [List.length_drop, List.length_take]; rfl)) ?_; (with_reducible refine (header_Ask.calls k 4 6 1 t135 t136 _ A1.out).mono ?_); rintro e w6 ⟨rfl, hb⟩; refine ⟨_, rfl, ?_⟩; have n0_ := Aside0.mk (below_step (by repeat (first | (with_reducible first | exact HB.out | apply below_alloc | apply pw_below_drewN | apply below_drew1) | exact HB.out)) hb); clear HB; have HB := n0_; clear n0_; (try clear hb); (try clear hb2); (try clear hk); (try clear hi); have p5 : 0 ≤ (0 : Int) := (by omega); have q5 : 0 < t135.size := (by have : (0 : Int) < (t135.size : Int) := of_decide_eq_true (by first | (with_reducible assumption) | assumption); omega); have hx5 : ∀ h : 0 < t135.size, ((t135[0]'h).toNat : Int) = bt t135 0 := bt_at t135 0; clear p5; have qi5 : (0 < (t135.size : Int)) = True := eq_true (of_decide_eq_true (by first | (with_reducible assumption) | assumption)); replace q5 := eq_true q5))
        go_ret
        exact ⟨by first | rfl | (simp [errW_none, errW_some] <;> rfl) | (simp [*, errW_none, errW_some] <;> rfl), by repeat (first | (with_reducible first | exact HB.out | apply below_alloc | apply pw_below_drewN | apply below_drew1) | exact HB.out)⟩
      · rw [if_neg c4] at H
        exact absurd H (by simp)
    · rw [if_neg c3] at H
      have c3b0 : (t136 == 0) = false := beq_eq_false_iff_ne.mpr c3
      have c3b1 : (t136 != 0) = true := bne_iff_ne.mpr c3
      obtain rfl := Option.some.inj H
      go_enter Try.func33, Try.ntmps33
      go_wp2_with (first | ((with_reducible refine gate_callee (f := 36) rfl ?_); refine goesL_ (some 4) rfl rfl Try.func36 (by kernel_rfl) rfl #[.int .i64 4, .int .i64 6, .int .u64 1] rfl (by (try simp only [List.map_toArray, List.map_cons, List.map_nil]); first | done | rfl | (simp only [List.length_drop, List.length_take]; rfl)) ?_; (with_reducible refine (header_Ask.calls k 4 6 1 t135 t136 _ A1.out).mono ?_); rintro e w7 ⟨rfl, hb⟩; refine ⟨_, rfl, ?_⟩; have n0_ := Aside0.mk (below_step (by repeat (first | (with_reducible first | exact HB.out | apply below_alloc | apply pw_below_drewN | apply below_drew1) | exact HB.out)) hb); clear HB; have HB := n0_; clear n0_; (try clear hb); (try clear hb2); (try clear hk); (try clear hi)))
      go_ret
      exact ⟨by first | rfl | (simp [errW_none, errW_some] <;> rfl) | (simp [*, errW_none, errW_some] <;> rfl), by repeat (first | (with_reducible first | exact HB.out | apply below_alloc | apply pw_below_drewN | apply below_drew1) | exact HB.out)⟩
  · rw [if_neg c2] at H
    have c2b0 : ((t135.size : Int) == 48) = false := beq_eq_false_iff_ne.mpr c2
    have c2b1 : ((t135.size : Int) != 48) = true := bne_iff_ne.mpr c2
    obtain rfl := Option.some.inj H
    go_enter Try.func33, Try.ntmps33
    go_wp2_with (first | ((with_reducible refine gate_callee (f := 36) rfl ?_); refine goesL_ (some 4) rfl rfl Try.func36 (by kernel_rfl) rfl #[.int .i64 4, .int .i64 6, .int .u64 1] rfl (by (try simp only [List.map_toArray, List.map_cons, List.map_nil]); first | done | rfl | (simp only [List.length_drop, List.length_take]; rfl)) ?_; (with_reducible refine (header_Ask.calls k 4 6 1 t135 t136 _ A1.out).mono ?_); rintro e w8 ⟨rfl, hb⟩; refine ⟨_, rfl, ?_⟩; have n0_ := Aside0.mk (below_step (by repeat (first | (with_reducible first | exact HB.out | apply below_alloc | apply pw_below_drewN | apply below_drew1) | exact HB.out)) hb); clear HB; have HB := n0_; clear n0_; (try clear hb); (try clear hb2); (try clear hk); (try clear hi)))
    go_ret
    exact ⟨by first | rfl | (simp [errW_none, errW_some] <;> rfl) | (simp [*, errW_none, errW_some] <;> rfl), by repeat (first | (with_reducible first | exact HB.out | apply below_alloc | apply pw_below_drewN | apply below_drew1) | exact HB.out)⟩

/-! ### header_get_uint8: function 53 -/
/-- The number of m bytes of s from o on, the first one highest. -/
def header_get.num (s : ByteArray) (o : Nat) : Nat → Int
  | 0 => 0
  | m + 1 => header_get.num s o m * 256 + bt s ((o + m : Nat) : Int)
theorem header_get.num_bd (s : ByteArray) (o : Nat) (m : Nat) : 0 ≤ header_get.num s o m ∧ header_get.num s o m < 256 ^ m := by
  induction m with
  | zero => exact ⟨Int.le_refl 0, by simp [header_get.num]⟩
  | succ m ih =>
    have b := bt_range s ((o + m : Nat) : Int)
    have e : (256 : Int) ^ (m + 1) = 256 ^ m * 256 := Int.pow_succ _ _
    simp only [header_get.num]
    omega
theorem header_get.num_56 (s : ByteArray) (o : Nat) (m : Nat) (h : m ≤ 7) : 0 ≤ header_get.num s o m ∧ header_get.num s o m < 72057594037927936 := by
  have b := header_get.num_bd s o m
  have p : (256 : Nat) ^ m ≤ 256 ^ 7 := Nat.pow_le_pow_right (by decide) h
  have q : ((256 : Int) ^ m) = ((256 ^ m : Nat) : Int) := by simp
  rw [q] at b
  have r : (256 : Nat) ^ 7 = 72057594037927936 := by decide
  omega
theorem header_get.or_ (x y : Int) (h0 : 0 ≤ x) (h1 : x < 72057594037927936) (h2 : 0 ≤ y) (h3 : y ≤ 255) : Go.bits .or .u64 (x * 256) y = x * 256 + y :=
  bits_join .u64 64 (by decide) (fun n q0 q1 => by rw [IntKind.wrap_u64]; omega) 8 _ _ (by omega) (by omega) (by omega) (by omega) (by omega) (by omega)
theorem header_get.bt_ex (s : ByteArray) (m j : Nat) (hj : j < m) (hm : m ≤ s.size) : bt (s.extract 0 m) (j : Int) = bt s (j : Int) := by
  unfold bt
  rw [Int.toNat_natCast, dif_pos (by rw [ByteArray.size_extract]; omega), dif_pos (by omega)]
  simp [ByteArray.getElem_extract]
set_option maxHeartbeats 16000000 in
set_option maxRecDepth 100000 in
theorem header_get_uint8.at_ (g : Nat) (s : ByteArray) (m : Nat) (mi : Int) (hmi : mi = (m : Int)) (w0 w : World) (B : Nat) (hB : Below B w0 w) (hBg : B ≤ g) (hb : w.heap[g]? = some (.cells #[.string s] 9 (0, 0))) (hm : m ≤ s.size) (hm8 : m ≤ 8) (hs : s.size ≤ 140737488355328) :
    Calls Try.prog 53 #[.pointer (some ⟨g, 0, none⟩), .int .i64 mi] w fun e w' => e = .returned (.int .u8 (header_get.num s 0 m % 256)) ∧ w'.heap[g]? = some (.cells #[.string (s.extract m s.size)] 9 (0, 0)) ∧ KeepBut w w' g none ∧ Below B w0 w' := by
  subst hmi
  have HB := Aside0.mk hB
  have HBG := Aside0.mk hBg
  have HG := Aside0.mk hb
  have cg := (blk_cell hb 0).trans (show _ = some (Value.string s) from rfl)
  have hsz : (s.extract 0 m).size = m := by rw [ByteArray.size_extract]; omega
  have kc := fun (W : World) => print_bytes (P := Try.prog) 9 50 5 Try.underlying9 Try.underlying50 Try.underlying5 (s.extract 0 m) W
  rw [hsz] at kc
  have HS := Aside0.mk hsz
  have hmi : (m : Int) ≤ (s.size : Int) := by omega
  clear hB hBg hb hsz
  go_enter Try.func53, Try.ntmps53
  go_wp2
  have hbel : Below B w0 (Lib.bytesWorld w 5 (s.extract 0 m)) := bytes_below HB.out (by have := blk_lt HG.out; have := HBG.out; omega) _ _
  have hkeep : KeepBut w (Lib.bytesWorld w 5 (s.extract 0 m)) g none := KeepBut.of_below (bytes_below (Below.refl _ _) (Nat.le_refl _) _ _) g none
  have hrd := bytes_reads w 5 (s.extract 0 m) (by rw [HS.out]; omega)
  have hgb : (Lib.bytesWorld w 5 (s.extract 0 m)).heap[g]? = some (.cells #[.string s] 9 (0, 0)) := (Lib.bytesWorld_at_old w _ _ g (blk_lt HG.out)).trans HG.out
  have hbl : w.heap.size < (Lib.bytesWorld w 5 (s.extract 0 m)).heap.size := by rw [Lib.bytesWorld_size]; omega
  have hgl : g < w.heap.size := blk_lt HG.out
  generalize Lib.bytesWorld w 5 (s.extract 0 m) = wb at hbel hkeep hrd hgb hbl ⊢
  have HBEL := Aside0.mk hbel
  have HKEEP := Aside0.mk hkeep
  have HRD := Aside0.mk hrd
  have HGB := Aside0.mk hgb
  clear hbel hkeep hrd hgb kc cg
  have HGL := Aside0.mk hgl
  have HBL := Aside0.mk hbl
  clear hgl hbl
  go_loopg [5, 15] m (fun gk v i wr => ∃ j : Nat, j ≤ m ∧ gk = m - j ∧ i = .int .i64 j ∧ v = .int .u64 (header_get.num s 0 j) ∧ wr = wb)
  case atStart => exact ⟨0, by omega, by omega, rfl, rfl, rfl⟩
  case round =>
    obtain ⟨j, hj, hg, rfl, rfl, rfl⟩ := hrel
    have HG2 := Aside0.mk hg
    clear hg
    by_cases hlt : j < m
    · have hn := header_get.num_56 s 0 j (by omega)
      have hc := bt_range s (j : Int)
      obtain ⟨ad, ead, hx⟩ := HRD.out.at_ (j : Int) (by omega) (by rw [HS.out]; omega)
      rw [rd_bytesOf, header_get.bt_ex s m j hlt hm, Int.toNat_natCast] at hx
      obtain rfl : (⟨w.heap.size, 0, none⟩ : Addr) = ad := Option.some.inj ead
      rw [add_plain] at hx
      obtain ⟨c, hcc⟩ : ∃ c, bt s (j : Int) = c := ⟨_, rfl⟩
      obtain ⟨n, hnn⟩ : ∃ n, header_get.num s 0 j = n := ⟨_, rfl⟩
      have hnx : header_get.num s 0 (j + 1) = n * 256 + c := by
        simp only [header_get.num]
        rw [hnn, Nat.zero_add, hcc]
      rw [hcc] at hx hc
      rw [hnn] at hn ⊢
      have w1 : IntKind.u64.wrap (n * 256) = n * 256 := by rw [IntKind.wrap_u64]; omega
      have o1 := header_get.or_ n c hn.1 hn.2 hc.1 hc.2
      have HNX := Aside0.mk hnx
      clear hcc hnn hnx
      go_wp2
      have hg := HG2.out
      go_roundg (m - (j + 1))
      case measure => omega
      case rel => exact ⟨j + 1, by omega, rfl, by first | rfl | go_num, by rw [HNX.out], rfl⟩
    · obtain rfl : j = m := by omega
      have cg := (blk_cell HGB.out 0).trans (show _ = some (Value.string s) from rfl)
      have fg := blk_frozen HGB.out 0
      go_wp2
      go_ret
      exact ⟨rfl, blk_put HGB.out 0 _ rfl, KeepBut.set_ HKEEP.out 0 _, Below.setCell HBEL.out HBG.out _⟩

/-! ### header_get_uint32: function 54 -/
set_option maxHeartbeats 16000000 in
set_option maxRecDepth 100000 in
theorem header_get_uint32.at_ (g : Nat) (s : ByteArray) (m : Nat) (mi : Int) (hmi : mi = (m : Int)) (w0 w : World) (B : Nat) (hB : Below B w0 w) (hBg : B ≤ g) (hb : w.heap[g]? = some (.cells #[.string s] 9 (0, 0))) (hm : m ≤ s.size) (hm8 : m ≤ 8) (hs : s.size ≤ 140737488355328) :
    Calls Try.prog 54 #[.pointer (some ⟨g, 0, none⟩), .int .i64 mi] w fun e w' => e = .returned (.int .u32 (header_get.num s 0 m % 4294967296)) ∧ w'.heap[g]? = some (.cells #[.string (s.extract m s.size)] 9 (0, 0)) ∧ KeepBut w w' g none ∧ Below B w0 w' := by
  subst hmi
  have HB := Aside0.mk hB
  have HBG := Aside0.mk hBg
  have HG := Aside0.mk hb
  have cg := (blk_cell hb 0).trans (show _ = some (Value.string s) from rfl)
  have hsz : (s.extract 0 m).size = m := by rw [ByteArray.size_extract]; omega
  have kc := fun (W : World) => print_bytes (P := Try.prog) 9 50 5 Try.underlying9 Try.underlying50 Try.underlying5 (s.extract 0 m) W
  rw [hsz] at kc
  have HS := Aside0.mk hsz
  have hmi : (m : Int) ≤ (s.size : Int) := by omega
  clear hB hBg hb hsz
  go_enter Try.func54, Try.ntmps54
  go_wp2
  have hbel : Below B w0 (Lib.bytesWorld w 5 (s.extract 0 m)) := bytes_below HB.out (by have := blk_lt HG.out; have := HBG.out; omega) _ _
  have hkeep : KeepBut w (Lib.bytesWorld w 5 (s.extract 0 m)) g none := KeepBut.of_below (bytes_below (Below.refl _ _) (Nat.le_refl _) _ _) g none
  have hrd := bytes_reads w 5 (s.extract 0 m) (by rw [HS.out]; omega)
  have hgb : (Lib.bytesWorld w 5 (s.extract 0 m)).heap[g]? = some (.cells #[.string s] 9 (0, 0)) := (Lib.bytesWorld_at_old w _ _ g (blk_lt HG.out)).trans HG.out
  have hbl : w.heap.size < (Lib.bytesWorld w 5 (s.extract 0 m)).heap.size := by rw [Lib.bytesWorld_size]; omega
  have hgl : g < w.heap.size := blk_lt HG.out
  generalize Lib.bytesWorld w 5 (s.extract 0 m) = wb at hbel hkeep hrd hgb hbl ⊢
  have HBEL := Aside0.mk hbel
  have HKEEP := Aside0.mk hkeep
  have HRD := Aside0.mk hrd
  have HGB := Aside0.mk hgb
  clear hbel hkeep hrd hgb kc cg
  have HGL := Aside0.mk hgl
  have HBL := Aside0.mk hbl
  clear hgl hbl
  go_loopg [5, 15] m (fun gk v i wr => ∃ j : Nat, j ≤ m ∧ gk = m - j ∧ i = .int .i64 j ∧ v = .int .u64 (header_get.num s 0 j) ∧ wr = wb)
  case atStart => exact ⟨0, by omega, by omega, rfl, rfl, rfl⟩
  case round =>
    obtain ⟨j, hj, hg, rfl, rfl, rfl⟩ := hrel
    have HG2 := Aside0.mk hg
    clear hg
    by_cases hlt : j < m
    · have hn := header_get.num_56 s 0 j (by omega)
      have hc := bt_range s (j : Int)
      obtain ⟨ad, ead, hx⟩ := HRD.out.at_ (j : Int) (by omega) (by rw [HS.out]; omega)
      rw [rd_bytesOf, header_get.bt_ex s m j hlt hm, Int.toNat_natCast] at hx
      obtain rfl : (⟨w.heap.size, 0, none⟩ : Addr) = ad := Option.some.inj ead
      rw [add_plain] at hx
      obtain ⟨c, hcc⟩ : ∃ c, bt s (j : Int) = c := ⟨_, rfl⟩
      obtain ⟨n, hnn⟩ : ∃ n, header_get.num s 0 j = n := ⟨_, rfl⟩
      have hnx : header_get.num s 0 (j + 1) = n * 256 + c := by
        simp only [header_get.num]
        rw [hnn, Nat.zero_add, hcc]
      rw [hcc] at hx hc
      rw [hnn] at hn ⊢
      have w1 : IntKind.u64.wrap (n * 256) = n * 256 := by rw [IntKind.wrap_u64]; omega
      have o1 := header_get.or_ n c hn.1 hn.2 hc.1 hc.2
      have HNX := Aside0.mk hnx
      clear hcc hnn hnx
      go_wp2
      have hg := HG2.out
      go_roundg (m - (j + 1))
      case measure => omega
      case rel => exact ⟨j + 1, by omega, rfl, by first | rfl | go_num, by rw [HNX.out], rfl⟩
    · obtain rfl : j = m := by omega
      have cg := (blk_cell HGB.out 0).trans (show _ = some (Value.string s) from rfl)
      have fg := blk_frozen HGB.out 0
      go_wp2
      go_ret
      exact ⟨rfl, blk_put HGB.out 0 _ rfl, KeepBut.set_ HKEEP.out 0 _, Below.setCell HBEL.out HBG.out _⟩

/-! ### header_get_uint64: function 55 -/
set_option maxHeartbeats 16000000 in
set_option maxRecDepth 100000 in
theorem header_get_uint64.at_ (g : Nat) (s : ByteArray) (m : Nat) (mi : Int) (hmi : mi = (m : Int)) (w0 w : World) (B : Nat) (hB : Below B w0 w) (hBg : B ≤ g) (hb : w.heap[g]? = some (.cells #[.string s] 9 (0, 0))) (hm : m ≤ s.size) (hm8 : m ≤ 8) (hs : s.size ≤ 140737488355328) :
    Calls Try.prog 55 #[.pointer (some ⟨g, 0, none⟩), .int .i64 mi] w fun e w' => e = .returned (.int .u64 (header_get.num s 0 m)) ∧ w'.heap[g]? = some (.cells #[.string (s.extract m s.size)] 9 (0, 0)) ∧ KeepBut w w' g none ∧ Below B w0 w' := by
  subst hmi
  have HB := Aside0.mk hB
  have HBG := Aside0.mk hBg
  have HG := Aside0.mk hb
  have cg := (blk_cell hb 0).trans (show _ = some (Value.string s) from rfl)
  have hsz : (s.extract 0 m).size = m := by rw [ByteArray.size_extract]; omega
  have kc := fun (W : World) => print_bytes (P := Try.prog) 9 50 5 Try.underlying9 Try.underlying50 Try.underlying5 (s.extract 0 m) W
  rw [hsz] at kc
  have HS := Aside0.mk hsz
  have hmi : (m : Int) ≤ (s.size : Int) := by omega
  clear hB hBg hb hsz
  go_enter Try.func55, Try.ntmps55
  go_wp2
  have hbel : Below B w0 (Lib.bytesWorld w 5 (s.extract 0 m)) := bytes_below HB.out (by have := blk_lt HG.out; have := HBG.out; omega) _ _
  have hkeep : KeepBut w (Lib.bytesWorld w 5 (s.extract 0 m)) g none := KeepBut.of_below (bytes_below (Below.refl _ _) (Nat.le_refl _) _ _) g none
  have hrd := bytes_reads w 5 (s.extract 0 m) (by rw [HS.out]; omega)
  have hgb : (Lib.bytesWorld w 5 (s.extract 0 m)).heap[g]? = some (.cells #[.string s] 9 (0, 0)) := (Lib.bytesWorld_at_old w _ _ g (blk_lt HG.out)).trans HG.out
  have hbl : w.heap.size < (Lib.bytesWorld w 5 (s.extract 0 m)).heap.size := by rw [Lib.bytesWorld_size]; omega
  have hgl : g < w.heap.size := blk_lt HG.out
  generalize Lib.bytesWorld w 5 (s.extract 0 m) = wb at hbel hkeep hrd hgb hbl ⊢
  have HBEL := Aside0.mk hbel
  have HKEEP := Aside0.mk hkeep
  have HRD := Aside0.mk hrd
  have HGB := Aside0.mk hgb
  clear hbel hkeep hrd hgb kc cg
  have HGL := Aside0.mk hgl
  have HBL := Aside0.mk hbl
  clear hgl hbl
  go_loopg [5, 15] m (fun gk v i wr => ∃ j : Nat, j ≤ m ∧ gk = m - j ∧ i = .int .i64 j ∧ v = .int .u64 (header_get.num s 0 j) ∧ wr = wb)
  case atStart => exact ⟨0, by omega, by omega, rfl, rfl, rfl⟩
  case round =>
    obtain ⟨j, hj, hg, rfl, rfl, rfl⟩ := hrel
    have HG2 := Aside0.mk hg
    clear hg
    by_cases hlt : j < m
    · have hn := header_get.num_56 s 0 j (by omega)
      have hc := bt_range s (j : Int)
      obtain ⟨ad, ead, hx⟩ := HRD.out.at_ (j : Int) (by omega) (by rw [HS.out]; omega)
      rw [rd_bytesOf, header_get.bt_ex s m j hlt hm, Int.toNat_natCast] at hx
      obtain rfl : (⟨w.heap.size, 0, none⟩ : Addr) = ad := Option.some.inj ead
      rw [add_plain] at hx
      obtain ⟨c, hcc⟩ : ∃ c, bt s (j : Int) = c := ⟨_, rfl⟩
      obtain ⟨n, hnn⟩ : ∃ n, header_get.num s 0 j = n := ⟨_, rfl⟩
      have hnx : header_get.num s 0 (j + 1) = n * 256 + c := by
        simp only [header_get.num]
        rw [hnn, Nat.zero_add, hcc]
      rw [hcc] at hx hc
      rw [hnn] at hn ⊢
      have w1 : IntKind.u64.wrap (n * 256) = n * 256 := by rw [IntKind.wrap_u64]; omega
      have o1 := header_get.or_ n c hn.1 hn.2 hc.1 hc.2
      have HNX := Aside0.mk hnx
      clear hcc hnn hnx
      go_wp2
      have hg := HG2.out
      go_roundg (m - (j + 1))
      case measure => omega
      case rel => exact ⟨j + 1, by omega, rfl, by first | rfl | go_num, by rw [HNX.out], rfl⟩
    · obtain rfl : j = m := by omega
      have cg := (blk_cell HGB.out 0).trans (show _ = some (Value.string s) from rfl)
      have fg := blk_frozen HGB.out 0
      go_wp2
      go_ret
      exact ⟨rfl, blk_put HGB.out 0 _ rfl, KeepBut.set_ HKEEP.out 0 _, Below.setCell HBEL.out HBG.out _⟩

end Go.Proofs.Ytilbkdlbbnkgdaa.MHdrZ
