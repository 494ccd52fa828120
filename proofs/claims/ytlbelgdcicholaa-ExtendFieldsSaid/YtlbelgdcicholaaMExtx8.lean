/- Functions that the statements of this seat reach, each as a plain Lean function, with a proof that the Go code comes to its answers; no condition. -/
import Derived.Test.YtlbelgdcicholaaMExtx0
import Derived.Test.YtlbelgdcicholaaMExtx5
import Derived.Test.YtlbelgdcicholaaMExtx6
import Derived.Test.YtlbelgdcicholaaMExtx7
namespace Go.Proofs.Ytlbelgdcicholaa.MExt
open Go.RowKit Go.Proofs.YtlbelgdcicholaaW.PrintWords Go.Proofs.YtlbelgdcicholaaW.PrintLast Go.Proofs.YtlbelgdcicholaaW.PrintMore
attribute [local go_sem] max2_int min2_int max_two min_two max_three min_three max_four min_four   -- for this text's walks alone
set_option linter.unusedVariables false
set_option linter.unusedSimpArgs false

/-! ### analemmalaw06_ExtendWalks: function 10 -/
mutual
def analemmalaw06_ExtendWalks.j0 : Nat → ByteArray → Bool → Option (Bool)
  | 0, _, _ => none
  | k + 1, x0, x17 => if x17 = true then ((analemmalaw06_shown.f k).bind fun t159 => (some t159)) else ((extend_Walk.f x0).bind fun bt160 => ((analemmaref06_Walk.f k x0).bind fun bt165 => (if bt160.2.2 = bt165.2.2 then (if bt160.2.1.toList = bt165.2.1.toList then ((analemmalaw06_theirs.f k bt160.1).bind fun t170 => ((analemmaref06_Same.f k t170 bt165.1).bind fun t173 => (analemmalaw06_ExtendWalks.j1 k x0 bt160.1 bt160.2.1 bt160.2.2 (!t173)))) else (analemmalaw06_ExtendWalks.j1 k x0 bt160.1 bt160.2.1 bt160.2.2 true)) else (analemmalaw06_ExtendWalks.j1 k x0 bt160.1 bt160.2.1 bt160.2.2 true))))
def analemmalaw06_ExtendWalks.j1 : Nat → ByteArray → List (S36) → ByteArray → Int → Bool → Option (Bool)
  | 0, _, _, _, _, _ => none
  | k + 1, x0, x3, x4, x5, x45 => if x45 = true then (some false) else (if x5 = 0 then ((extend_Join.f x3 x4).bind fun bt174 => (if bt174.2 = 0 then (some (bt174.1.toList == x0.toList)) else (some false))) else (if (x3.length : Int) = 0 then (some (x4.toList == ([] : List UInt8))) else (some false)))
end
def analemmalaw06_ExtendWalks.f (k : Nat) (a0 : ByteArray) : Option (Bool) := if (a0.size : Int) > 4096 then (analemmalaw06_ExtendWalks.j0 k a0 true) else ((analemmalaw06_shown.f k).bind fun t158 => (analemmalaw06_ExtendWalks.j0 k a0 (!t158)))
theorem analemmalaw06_ExtendWalks.mono_l : ∀ k, (∀ y0 y1, LeO (analemmalaw06_ExtendWalks.j0 k y0 y1) (analemmalaw06_ExtendWalks.j0 (k + 1) y0 y1)) ∧ (∀ y0 y1 y2 y3 y4, LeO (analemmalaw06_ExtendWalks.j1 k y0 y1 y2 y3 y4) (analemmalaw06_ExtendWalks.j1 (k + 1) y0 y1 y2 y3 y4))
  | 0 => ⟨fun _ _ r h => by simp [analemmalaw06_ExtendWalks.j0] at h, fun _ _ _ _ _ r h => by simp [analemmalaw06_ExtendWalks.j1] at h⟩
  | k + 1 => by
    obtain ⟨ih0, ih1⟩ := analemmalaw06_ExtendWalks.mono_l k
    refine ⟨?_, ?_⟩
    · intro y0 y1
      unfold analemmalaw06_ExtendWalks.j0
      repeat' first
      | (with_reducible exact ih0 _ _)
      | (with_reducible exact ih1 _ _ _ _ _)
      | (with_reducible exact analemmalaw06_shown.mono _)
      | (with_reducible exact analemmalaw06_theirs.mono _ _)
      | (with_reducible exact analemmaref06_Same.mono _ _ _)
      | (with_reducible exact analemmaref06_Walk.mono _ _)
      | (with_reducible exact LeO.refl _)
      | (with_reducible exact LeO.none _)
      | (with_reducible refine LeO.ite ?_ ?_)
      | (with_reducible refine LeO.bind ?_ (fun _ => ?_))
      | exact ih0 _ _
      | exact ih1 _ _ _ _ _
      | exact analemmalaw06_shown.mono _
      | exact analemmalaw06_theirs.mono _ _
      | exact analemmaref06_Same.mono _ _ _
      | exact analemmaref06_Walk.mono _ _
      | exact LeO.none _
      | refine LeO.ite ?_ ?_
      | refine LeO.bind ?_ (fun _ => ?_)
    · intro y0 y1 y2 y3 y4
      unfold analemmalaw06_ExtendWalks.j1
      repeat' first
      | (with_reducible exact ih0 _ _)
      | (with_reducible exact ih1 _ _ _ _ _)
      | (with_reducible exact analemmalaw06_shown.mono _)
      | (with_reducible exact analemmalaw06_theirs.mono _ _)
      | (with_reducible exact analemmaref06_Same.mono _ _ _)
      | (with_reducible exact analemmaref06_Walk.mono _ _)
      | (with_reducible exact LeO.refl _)
      | (with_reducible exact LeO.none _)
      | (with_reducible refine LeO.ite ?_ ?_)
      | (with_reducible refine LeO.bind ?_ (fun _ => ?_))
      | exact ih0 _ _
      | exact ih1 _ _ _ _ _
      | exact analemmalaw06_shown.mono _
      | exact analemmalaw06_theirs.mono _ _
      | exact analemmaref06_Same.mono _ _ _
      | exact analemmaref06_Walk.mono _ _
      | exact LeO.none _
      | refine LeO.ite ?_ ?_
      | refine LeO.bind ?_ (fun _ => ?_)
theorem analemmalaw06_ExtendWalks.mono : ∀ a0 k, LeO (analemmalaw06_ExtendWalks.f k a0) (analemmalaw06_ExtendWalks.f (k + 1) a0) := by
  intro a0 k
  obtain ⟨ih0, ih1⟩ := analemmalaw06_ExtendWalks.mono_l k
  unfold analemmalaw06_ExtendWalks.f
  repeat' first
      | (with_reducible exact ih0 _ _)
      | (with_reducible exact ih1 _ _ _ _ _)
      | (with_reducible exact analemmalaw06_shown.mono _)
      | (with_reducible exact analemmalaw06_theirs.mono _ _)
      | (with_reducible exact analemmaref06_Same.mono _ _ _)
      | (with_reducible exact analemmaref06_Walk.mono _ _)
      | (with_reducible exact LeO.refl _)
      | (with_reducible exact LeO.none _)
      | (with_reducible refine LeO.ite ?_ ?_)
      | (with_reducible refine LeO.bind ?_ (fun _ => ?_))
      | exact ih0 _ _
      | exact ih1 _ _ _ _ _
      | exact analemmalaw06_shown.mono _
      | exact analemmalaw06_theirs.mono _ _
      | exact analemmaref06_Same.mono _ _ _
      | exact analemmaref06_Walk.mono _ _
      | exact LeO.none _
      | refine LeO.ite ?_ ?_
      | refine LeO.bind ?_ (fun _ => ?_)
set_option maxHeartbeats 8000000 in
set_option maxRecDepth 100000 in
theorem analemmalaw06_ExtendWalks.calls (k : Nat) (a0 : ByteArray) (r : Bool) (w : World) (h : analemmalaw06_ExtendWalks.f k a0 = some r) (hr : Aside0 (r = true)) :
    Calls Try.prog 10 #[.string a0] w fun e w' => e = .returned (.bool r) ∧ Below w.heap.size w w' := by
  have HB := Aside0.mk (Below.refl w.heap.size w)
  have H : (if (a0.size : Int) > 4096 then (analemmalaw06_ExtendWalks.j0 k a0 true) else ((analemmalaw06_shown.f k).bind fun t158 => (analemmalaw06_ExtendWalks.j0 k a0 (!t158)))) = some r := h
  clear h
  have HC2 := Aside0.mk H
  clear H
  go_enter Try.func10, Try.ntmps10
  go_upto_region 1 with (fail)
  go_cut [17] (fun v17 wc => ∃ (kq : Nat) (x17_1 : Bool), v17 = .bool x17_1 ∧ Aside0 (analemmalaw06_ExtendWalks.j0 kq a0 x17_1 = some r) ∧ Aside0 (kq ≤ k) ∧ Aside0 (Below w.heap.size w wc))
  case first =>
    have H := HC2.out
    clear HC2
    by_cases c3 : (a0.size : Int) > 4096
    · rw [if_pos c3] at H
      have c3b0 : decide (4096 < (a0.size : Int)) = true := decide_eq_true c3
      have c3b1 : decide (4096 < a0.size) = true := decide_eq_true (by omega)
      clear c3
      (first | rw [c3b0] | (simp only [i64_w, i32_w]; rw [c3b0]) | skip)
      have H' := Aside0.mk H
      clear H
      go_wp2
      go_meet
      case rel => exact ⟨_, (true), (by first | rfl | (simp; done) | (simp [*]; done)), H', ⟨by first | omega | exact Nat.le_refl _⟩, ⟨by repeat (first | (with_reducible first | exact HB.out | apply below_alloc | apply pw_below_drewN | apply below_drew1) | exact HB.out)⟩⟩
    · rw [if_neg c3] at H
      have c3b0 : decide (4096 < (a0.size : Int)) = false := decide_eq_false c3
      have c3b1 : decide (4096 < a0.size) = false := decide_eq_false (by omega)
      clear c3
      (first | rw [c3b0] | (simp only [i64_w, i32_w]; rw [c3b0]) | skip)
      replace H := Option.bind_eq_some_iff.mp H
      obtain ⟨t158, A40, H⟩ := H
      replace H : (analemmalaw06_ExtendWalks.j0 k a0 (!t158)) = some r := H
      have A4 := Aside0.mk A40
      clear A40
      have H' := Aside0.mk H
      clear H
      go_wp2_with (first | (go_at_call 20; (with_reducible refine (analemmalaw06_shown.calls k  t158 _ A4.out).mono ?_); rintro e w5 ⟨rfl, hb⟩; have n0_ := Aside0.mk (below_step (by repeat (first | (with_reducible first | exact HB.out | apply below_alloc | apply pw_below_drewN | apply below_drew1) | exact HB.out)) hb); clear HB; have HB := n0_; clear n0_; (try clear hb); (try clear hb2); (try clear hk); (try clear hi)))
      go_meet
      case rel => exact ⟨_, (!t158), (by first | rfl | (simp; done) | (simp [*]; done)), H', ⟨by first | omega | exact Nat.le_refl _⟩, ⟨by repeat (first | (with_reducible first | exact HB.out | apply below_alloc | apply pw_below_drewN | apply below_drew1) | exact HB.out)⟩⟩
  case rest =>
    clear HC2
    try clear c1
    try clear p2
    try clear c3
    try clear c3b0
    try clear c3b1
    obtain ⟨kq, x17_1, rfl, HA, HJ1, HB⟩ := hcut
    cases kq with
    | zero => exact absurd HA.out (by simp [analemmalaw06_ExtendWalks.j0])
    | succ kj1 =>
      have H := HA.out
      clear HA
      simp only [analemmalaw06_ExtendWalks.j0] at H
      by_cases c6 : x17_1 = true
      · subst c6
        have H1 : ((analemmalaw06_shown.f kj1).bind fun t159 => (some t159)) = some r := by rw [if_pos rfl] at H; exact H
        clear H
        have H := H1
        clear H1
        replace H := Option.bind_eq_some_iff.mp H
        obtain ⟨t159, A70, H⟩ := H
        replace H : (some t159) = some r := H
        have A7 := Aside0.mk A70
        clear A70
        obtain rfl := Option.some.inj H
        go_wp2_with (first | ((with_reducible refine gate_callee (f := 20) rfl ?_); refine goesL_ (some 18) rfl rfl Try.func20 (by kernel_rfl) rfl #[] rfl (by (try simp only [List.map_toArray, List.map_cons, List.map_nil]); first | done | rfl | (simp only [List.length_drop, List.length_take]; rfl)) ?_; (with_reducible refine (analemmalaw06_shown.calls kj1  t159 _ A7.out).mono ?_); rintro e w8 ⟨rfl, hb⟩; refine ⟨_, rfl, ?_⟩; have n0_ := Aside0.mk (below_step (by repeat (first | (with_reducible first | exact HB.out | apply below_alloc | apply pw_below_drewN | apply below_drew1) | exact HB.out)) hb); clear HB; have HB := n0_; clear n0_; (try clear hb); (try clear hb2); (try clear hk); (try clear hi)))
        go_ret
        exact ⟨by first | rfl | (simp [errW_none, errW_some] <;> rfl) | (simp [*, errW_none, errW_some] <;> rfl), by repeat (first | (with_reducible first | exact HB.out | apply below_alloc | apply pw_below_drewN | apply below_drew1) | exact HB.out)⟩
      · replace c6 := Bool.eq_false_iff.mpr c6
        subst c6
        have H1 : ((extend_Walk.f a0).bind fun bt160 => ((analemmaref06_Walk.f kj1 a0).bind fun bt165 => (if bt160.2.2 = bt165.2.2 then (if bt160.2.1.toList = bt165.2.1.toList then ((analemmalaw06_theirs.f kj1 bt160.1).bind fun t170 => ((analemmaref06_Same.f kj1 t170 bt165.1).bind fun t173 => (analemmalaw06_ExtendWalks.j1 kj1 a0 bt160.1 bt160.2.1 bt160.2.2 (!t173)))) else (analemmalaw06_ExtendWalks.j1 kj1 a0 bt160.1 bt160.2.1 bt160.2.2 true)) else (analemmalaw06_ExtendWalks.j1 kj1 a0 bt160.1 bt160.2.1 bt160.2.2 true)))) = some r := by rw [if_neg (show ¬ (false = true) by decide)] at H; exact H
        clear H
        have H := H1
        clear H1
        replace H := Option.bind_eq_some_iff.mp H
        obtain ⟨⟨t160, t161, t162⟩, A90, H⟩ := H
        replace H : ((analemmaref06_Walk.f kj1 a0).bind fun bt165 => (if t162 = bt165.2.2 then (if t161.toList = bt165.2.1.toList then ((analemmalaw06_theirs.f kj1 t160).bind fun t170 => ((analemmaref06_Same.f kj1 t170 bt165.1).bind fun t173 => (analemmalaw06_ExtendWalks.j1 kj1 a0 t160 t161 t162 (!t173)))) else (analemmalaw06_ExtendWalks.j1 kj1 a0 t160 t161 t162 true)) else (analemmalaw06_ExtendWalks.j1 kj1 a0 t160 t161 t162 true))) = some r := H
        have A9 := Aside0.mk A90
        clear A90
        replace H := Option.bind_eq_some_iff.mp H
        obtain ⟨⟨t165, t166, t167⟩, A100, H⟩ := H
        replace H : (if t162 = t167 then (if t161.toList = t166.toList then ((analemmalaw06_theirs.f kj1 t160).bind fun t170 => ((analemmaref06_Same.f kj1 t170 t165).bind fun t173 => (analemmalaw06_ExtendWalks.j1 kj1 a0 t160 t161 t162 (!t173)))) else (analemmalaw06_ExtendWalks.j1 kj1 a0 t160 t161 t162 true)) else (analemmalaw06_ExtendWalks.j1 kj1 a0 t160 t161 t162 true)) = some r := H
        have A10 := Aside0.mk A100
        clear A100
        have HC11 := Aside0.mk H
        clear H
        go_upto_region 5 with (first | ((with_reducible refine gate_callee (f := 21) rfl ?_); refine goesL_ (some 21) rfl rfl Try.func21 (by kernel_rfl) rfl #[.string a0] rfl (by (try simp only [List.map_toArray, List.map_cons, List.map_nil]); first | done | rfl | (simp only [List.length_drop, List.length_take]; rfl)) ?_; (with_reducible refine (extend_Walk.calls a0 t160 t161 t162 _ A9.out).mono ?_); rintro e w12 ⟨v163, rfl, ho0, hb⟩; refine ⟨_, rfl, ?_⟩; have n0_ := Aside0.mk (Kd.R_lower ho0 (below_size (by repeat (first | (with_reducible first | exact HB.out | apply below_alloc | apply pw_below_drewN | apply below_drew1) | exact HB.out)))); have n1_ := Aside0.mk (below_step (by repeat (first | (with_reducible first | exact HB.out | apply below_alloc | apply pw_below_drewN | apply below_drew1) | exact HB.out)) hb); clear HB; have HO164 := n0_; have HB := n1_; clear n0_ n1_; (try clear hb); (try clear hb2); (try clear hk); (try clear hi); (try clear ho0)) | ((with_reducible refine gate_callee (f := 28) rfl ?_); refine goesL_ (some 27) rfl rfl Try.func28 (by kernel_rfl) rfl #[.string a0] rfl (by (try simp only [List.map_toArray, List.map_cons, List.map_nil]); first | done | rfl | (simp only [List.length_drop, List.length_take]; rfl)) ?_; (with_reducible refine (analemmaref06_Walk.calls kj1 a0 t165 t166 t167 _ A10.out).mono ?_); rintro e w13 ⟨v168, rfl, ho0, hb⟩; refine ⟨_, rfl, ?_⟩; have n0_ := Aside0.mk (Kd.R_below (by (with_reducible repeat (first | apply Kd.R_alloc | apply Kd.R_drewN | apply Kd.R_drew)); exact HO164.out) hb); have n1_ := Aside0.mk (Kd.R_lower ho0 (below_size (by repeat (first | (with_reducible first | exact HB.out | apply below_alloc | apply pw_below_drewN | apply below_drew1) | exact HB.out)))); have n2_ := Aside0.mk (below_step (by repeat (first | (with_reducible first | exact HB.out | apply below_alloc | apply pw_below_drewN | apply below_drew1) | exact HB.out)) hb); clear HO164; clear HB; have HO164 := n0_; have HO169 := n1_; have HB := n2_; clear n0_ n1_ n2_; (try clear hb); (try clear hb2); (try clear hk); (try clear hi); (try clear ho0)))
        (try simp only [Act.put, List.setIfInBounds_toArray, List.set_cons_zero, List.set_cons_succ])
        go_cut [45] (fun v45 wc => ∃ (kq : Nat) (x45_10 : Bool), v45 = .bool x45_10 ∧ Aside0 (analemmalaw06_ExtendWalks.j1 kq a0 t160 t161 t162 x45_10 = some r) ∧ Aside0 (kq ≤ kj1) ∧ Aside0 (Kd.R k36 36 wc w.heap.size (fun _ => True) v163 t160) ∧ Aside0 (Below w.heap.size w wc))
        case first =>
          have H := HC11.out
          clear HC11
          by_cases c14 : t162 = t167
          · rw [if_pos c14] at H
            have c14b0 : (t162 == t167) = true := beq_iff_eq.mpr c14
            have c14b1 : (t162 != t167) = false := bne_eq_false_iff_eq.mpr c14
            clear c14
            (first | rw [c14b0] | (simp only [i64_w, i32_w]; rw [c14b0]) | skip)
            by_cases c15 : t161.toList = t166.toList
            · rw [if_pos c15] at H
              have c15b0 : (t161.toList == t166.toList) = true := beq_iff_eq.mpr c15
              have c15b1 : (t161.toList != t166.toList) = false := bne_eq_false_iff_eq.mpr c15
              clear c15
              replace H := Option.bind_eq_some_iff.mp H
              obtain ⟨t170, A160, H⟩ := H
              replace H : ((analemmaref06_Same.f kj1 t170 t165).bind fun t173 => (analemmalaw06_ExtendWalks.j1 kj1 a0 t160 t161 t162 (!t173))) = some r := H
              have A16 := Aside0.mk A160
              clear A160
              replace H := Option.bind_eq_some_iff.mp H
              obtain ⟨t173, A170, H⟩ := H
              replace H : (analemmalaw06_ExtendWalks.j1 kj1 a0 t160 t161 t162 (!t173)) = some r := H
              have A17 := Aside0.mk A170
              clear A170
              have H' := Aside0.mk H
              clear H
              obtain ⟨Ao18, co18, eo18⟩ := Kd.R_slice HO164.out
              subst eo18
              go_wp2_with (first | (go_at_call 30; (with_reducible refine (analemmalaw06_theirs.calls kj1 _ _ t160 t170 _ ?side1 ?side2 A16.out).mono ?_); (case side1 => repeat (first | exact (Kd.R_reads' HO164.out).2.2 | (with_reducible refine Kd.C_alloc ?_ _) | (with_reducible refine Kd.C_drewN ?_ _) | (with_reducible refine Kd.C_drew ?_))); (case side2 => exact (Kd.R_reads' HO164.out).2.1); rintro e w19 ⟨v171, rfl, ho0, hb⟩; have n0_ := Aside0.mk (Kd.R_below (by (with_reducible repeat (first | apply Kd.R_alloc | apply Kd.R_drewN | apply Kd.R_drew)); exact HO164.out) hb); have n1_ := Aside0.mk (Kd.R_elder' (by (with_reducible repeat (first | apply Kd.R_alloc | apply Kd.R_drewN | apply Kd.R_drew)); exact HO169.out) (Kd.R_base ho0) hb); have n2_ := Aside0.mk (Kd.R_lower (Kd.R_new' ho0 (Kd.R_lt (by (with_reducible repeat (first | apply Kd.R_alloc | apply Kd.R_drewN | apply Kd.R_drew)); exact HO169.out))) (below_size (by repeat (first | (with_reducible first | exact HB.out | apply below_alloc | apply pw_below_drewN | apply below_drew1) | exact HB.out)))); have n3_ := Aside0.mk (below_step (by repeat (first | (with_reducible first | exact HB.out | apply below_alloc | apply pw_below_drewN | apply below_drew1) | exact HB.out)) hb); clear HO164; clear HO169; clear HB; have HO164 := n0_; have HO169 := n1_; have HO172 := n2_; have HB := n3_; clear n0_ n1_ n2_ n3_; (try clear hb); (try clear hb2); (try clear hk); (try clear hi); (try clear ho0); obtain ⟨Ao20, co20, eo20⟩ := Kd.R_slice HO172.out; subst eo20; obtain ⟨Ao21, co21, eo21⟩ := Kd.R_slice HO169.out; subst eo21) | (go_at_call 29; (with_reducible refine (analemmaref06_Same.calls kj1 _ _ t170 _ _ t165 t173 _ ?side1 ?side2 ?side3 ?side4 A17.out).mono ?_); (case side1 => repeat (first | exact (Kd.R_reads' HO172.out).2.2 | (with_reducible refine Kd.C_alloc ?_ _) | (with_reducible refine Kd.C_drewN ?_ _) | (with_reducible refine Kd.C_drew ?_))); (case side2 => exact (Kd.R_reads' HO172.out).2.1); (case side3 => repeat (first | exact (Kd.R_reads' HO169.out).2.2 | (with_reducible refine Kd.C_alloc ?_ _) | (with_reducible refine Kd.C_drewN ?_ _) | (with_reducible refine Kd.C_drew ?_))); (case side4 => exact (Kd.R_reads' HO169.out).2.1); rintro e w' ⟨rfl, ⟨nd, rfl⟩⟩))
              go_meet
              case rel => exact ⟨_, (!t173), (by first | rfl | (simp; done) | (simp [*]; done)), H', ⟨by have := HJ1.out; first | omega | exact Nat.le_refl _⟩, ⟨by (with_reducible repeat (first | apply Kd.R_alloc | apply Kd.R_drewN | apply Kd.R_drew)); exact HO164.out⟩, ⟨by repeat (first | (with_reducible first | exact HB.out | apply below_alloc | apply pw_below_drewN | apply below_drew1) | exact HB.out)⟩⟩
            · rw [if_neg c15] at H
              have c15b0 : (t161.toList == t166.toList) = false := beq_eq_false_iff_ne.mpr c15
              have c15b1 : (t161.toList != t166.toList) = true := bne_iff_ne.mpr c15
              have H' := Aside0.mk H
              clear H
              go_wp2
              go_meet
              case rel => exact ⟨_, (true), (by first | rfl | (simp; done) | (simp [*]; done)), H', ⟨by have := HJ1.out; first | omega | exact Nat.le_refl _⟩, ⟨by (with_reducible repeat (first | apply Kd.R_alloc | apply Kd.R_drewN | apply Kd.R_drew)); exact HO164.out⟩, ⟨by repeat (first | (with_reducible first | exact HB.out | apply below_alloc | apply pw_below_drewN | apply below_drew1) | exact HB.out)⟩⟩
          · rw [if_neg c14] at H
            have c14b0 : (t162 == t167) = false := beq_eq_false_iff_ne.mpr c14
            have c14b1 : (t162 != t167) = true := bne_iff_ne.mpr c14
            (first | rw [c14b0] | (simp only [i64_w, i32_w]; rw [c14b0]) | skip)
            have H' := Aside0.mk H
            clear H
            go_wp2
            go_meet
            case rel => exact ⟨_, (true), (by first | rfl | (simp; done) | (simp [*]; done)), H', ⟨by have := HJ1.out; first | omega | exact Nat.le_refl _⟩, ⟨by (with_reducible repeat (first | apply Kd.R_alloc | apply Kd.R_drewN | apply Kd.R_drew)); exact HO164.out⟩, ⟨by repeat (first | (with_reducible first | exact HB.out | apply below_alloc | apply pw_below_drewN | apply below_drew1) | exact HB.out)⟩⟩
        case rest =>
          clear HC11
          try clear c1
          try clear c2
          try clear p2
          try clear c3
          try clear c3b0
          try clear c3b1
          try clear c6
          try clear c10
          try clear c14
          try clear c14b0
          try clear c14b1
          try clear c15
          try clear c15b0
          try clear c15b1
          try clear c20
          try clear c21
          try clear p2
          obtain ⟨kq, x45_10, rfl, HA, HJ10, HO_3, HB⟩ := hcut
          cases kq with
          | zero => exact absurd HA.out (by simp [analemmalaw06_ExtendWalks.j1])
          | succ kj10 =>
            have H := HA.out
            clear HA
            simp only [analemmalaw06_ExtendWalks.j1] at H
            by_cases c22 : x45_10 = true
            · subst c22
              have H1 : (some false) = some r := by rw [if_pos rfl] at H; exact H
              clear H
              have H := H1
              clear H1
              first | exact absurd ((Option.some.inj H).trans hr.out) Bool.false_ne_true | skip
              all_goals (obtain rfl := Option.some.inj H)
              all_goals (go_wp2)
              all_goals (go_ret)
              all_goals (exact ⟨by first | rfl | (simp [errW_none, errW_some] <;> rfl) | (simp [*, errW_none, errW_some] <;> rfl), by repeat (first | (with_reducible first | exact HB.out | apply below_alloc | apply pw_below_drewN | apply below_drew1) | exact HB.out)⟩)
            · replace c22 := Bool.eq_false_iff.mpr c22
              subst c22
              have H1 : (if t162 = 0 then ((extend_Join.f t160 t161).bind fun bt174 => (if bt174.2 = 0 then (some (bt174.1.toList == a0.toList)) else (some false))) else (if (t160.length : Int) = 0 then (some (t161.toList == ([] : List UInt8))) else (some false))) = some r := by rw [if_neg (show ¬ (false = true) by decide)] at H; exact H
              clear H
              have H := H1
              clear H1
              by_cases c23 : t162 = 0
              · rw [if_pos c23] at H
                have c23b0 : (t162 == 0) = true := beq_iff_eq.mpr c23
                have c23b1 : (t162 != 0) = false := bne_eq_false_iff_eq.mpr c23
                clear c23
                replace H := Option.bind_eq_some_iff.mp H
                obtain ⟨⟨t174, t175⟩, A240, H⟩ := H
                replace H : (if t175 = 0 then (some (t174.toList == a0.toList)) else (some false)) = some r := H
                have A24 := Aside0.mk A240
                clear A240
                by_cases c25 : t175 = 0
                · rw [if_pos c25] at H
                  have c25b0 : (t175 == 0) = true := beq_iff_eq.mpr c25
                  have c25b1 : (t175 != 0) = false := bne_eq_false_iff_eq.mpr c25
                  clear c25
                  obtain rfl := Option.some.inj H
                  obtain ⟨Ao26, co26, eo26⟩ := Kd.R_slice HO_3.out
                  subst eo26
                  go_wp2_with (first | ((with_reducible refine gate_callee (f := 31) rfl ?_); refine goesL_ (some 58) rfl rfl Try.func31 (by kernel_rfl) rfl #[.slice Ao26 t160.length co26, .string t161] rfl (by (try simp only [List.map_toArray, List.map_cons, List.map_nil]); first | done | rfl | (simp only [List.length_drop, List.length_take]; rfl)) ?_; (with_reducible refine (extend_Join.calls _ _ t160 t161 t174 t175 _ ?side1 ?side2 A24.out).mono ?_); (case side1 => repeat (first | exact (Kd.R_reads' HO_3.out).2.2 | (with_reducible refine Kd.C_alloc ?_ _) | (with_reducible refine Kd.C_drewN ?_ _) | (with_reducible refine Kd.C_drew ?_))); (case side2 => exact (Kd.R_reads' HO_3.out).2.1); rintro e w27 ⟨rfl, hb⟩; refine ⟨_, rfl, ?_⟩; have n0_ := Aside0.mk (Kd.R_below (by (with_reducible repeat (first | apply Kd.R_alloc | apply Kd.R_drewN | apply Kd.R_drew)); exact HO_3.out) hb); have n1_ := Aside0.mk (below_step (by repeat (first | (with_reducible first | exact HB.out | apply below_alloc | apply pw_below_drewN | apply below_drew1) | exact HB.out)) hb); clear HO_3; clear HB; have HO_3 := n0_; have HB := n1_; clear n0_ n1_; (try clear hb); (try clear hb2); (try clear hk); (try clear hi)))
                  go_ret
                  exact ⟨by first | rfl | (simp [errW_none, errW_some] <;> rfl) | (simp [*, errW_none, errW_some] <;> rfl), by repeat (first | (with_reducible first | exact HB.out | apply below_alloc | apply pw_below_drewN | apply below_drew1) | exact HB.out)⟩
                · rw [if_neg c25] at H
                  have c25b0 : (t175 == 0) = false := beq_eq_false_iff_ne.mpr c25
                  have c25b1 : (t175 != 0) = true := bne_iff_ne.mpr c25
                  exact absurd ((Option.some.inj H).trans hr.out) Bool.false_ne_true
              · rw [if_neg c23] at H
                have c23b0 : (t162 == 0) = false := beq_eq_false_iff_ne.mpr c23
                have c23b1 : (t162 != 0) = true := bne_iff_ne.mpr c23
                by_cases c30 : (t160.length : Int) = 0
                · rw [if_pos c30] at H
                  have c30b0 : ((t160.length : Int) == 0) = true := beq_iff_eq.mpr c30
                  have c30b1 : ((t160.length : Int) != 0) = false := bne_eq_false_iff_eq.mpr c30
                  clear c30
                  first | exact absurd ((Option.some.inj H).trans hr.out) Bool.false_ne_true | skip
                  all_goals (obtain rfl := Option.some.inj H)
                  all_goals (obtain ⟨Ao31, co31, eo31⟩ := Kd.R_slice HO_3.out)
                  all_goals (subst eo31)
                  all_goals (go_wp2)
                  all_goals (go_ret)
                  all_goals (exact ⟨by first | rfl | (simp [errW_none, errW_some] <;> rfl) | (simp [*, errW_none, errW_some] <;> rfl), by repeat (first | (with_reducible first | exact HB.out | apply below_alloc | apply pw_below_drewN | apply below_drew1) | exact HB.out)⟩)
                · rw [if_neg c30] at H
                  have c30b0 : ((t160.length : Int) == 0) = false := beq_eq_false_iff_ne.mpr c30
                  have c30b1 : ((t160.length : Int) != 0) = true := bne_iff_ne.mpr c30
                  have c30b2 : ¬ (t160 = []) := fun h_ => c30 (by rw [h_]; rfl)
                  first | exact absurd ((Option.some.inj H).trans hr.out) Bool.false_ne_true | skip
                  all_goals (obtain rfl := Option.some.inj H)
                  all_goals (obtain ⟨Ao32, co32, eo32⟩ := Kd.R_slice HO_3.out)
                  all_goals (subst eo32)
                  all_goals (go_wp2)
                  all_goals (go_ret)
                  all_goals (exact ⟨by first | rfl | (simp [errW_none, errW_some] <;> rfl) | (simp [*, errW_none, errW_some] <;> rfl), by repeat (first | (with_reducible first | exact HB.out | apply below_alloc | apply pw_below_drewN | apply below_drew1) | exact HB.out)⟩)

/-- THE ONE PURE STATEMENT of analemmalaw06_ExtendWalks: yours. -/
def analemmalaw06_ExtendWalks.Pure : Prop := ∀ (a0 : ByteArray), a0.size ≤ 140737488351232 → ∃ k, analemmalaw06_ExtendWalks.f k a0 = some true
theorem analemmalaw06_ExtendWalks.walk (P : analemmalaw06_ExtendWalks.Pure) (a0 : ByteArray) (w : World) (w0 : a0.size ≤ 140737488351232) :
    Calls Try.prog 10 #[.string a0] w fun e w' => e = .returned (.bool true) ∧ Below w.heap.size w w' := by
  obtain ⟨k, h⟩ := P a0 w0
  refine (analemmalaw06_ExtendWalks.calls k a0 true w h (Aside0.mk rfl)).mono ?_
  rintro e w' ⟨rfl, hd⟩
  exact ⟨rfl, hd⟩

/-! ### analemmalaw06_heavy: function 32 -/
def analemmalaw06_heavy.l0 : Nat → List (S36) → Int → Int → Option (Bool)
  | 0, _, _, _ => none
  | k + 1, x0, x3, x4 => if x4 < (x0.length : Int) then (if x3 ≤ 4096 then (if 0 ≤ x4 then (analemmalaw06_heavy.l0 k x0 (wrap64 (x3 + (1 + (mn (((rd_T36 x0 x4).f1).size : Int) 8192)))) (wrap64 (x4 + 1))) else (none)) else (some (decide (x3 > 4096)))) else (some (decide (x3 > 4096)))
def analemmalaw06_heavy.f (k : Nat) (l0 : List (S36)) : Option (Bool) := analemmalaw06_heavy.l0 k l0 0 0
theorem analemmalaw06_heavy.mono_l : ∀ k, (∀ y0 y1 y2, LeO (analemmalaw06_heavy.l0 k y0 y1 y2) (analemmalaw06_heavy.l0 (k + 1) y0 y1 y2))
  | 0 => fun _ _ _ r h => by simp [analemmalaw06_heavy.l0] at h
  | k + 1 => by
    have ih0 := analemmalaw06_heavy.mono_l k
    · intro y0 y1 y2
      unfold analemmalaw06_heavy.l0
      repeat' first
      | (with_reducible exact ih0 _ _ _)
      | (with_reducible exact LeO.refl _)
      | (with_reducible exact LeO.none _)
      | (with_reducible refine LeO.ite ?_ ?_)
      | (with_reducible refine LeO.bind ?_ (fun _ => ?_))
      | exact ih0 _ _ _
      | exact LeO.none _
      | refine LeO.ite ?_ ?_
      | refine LeO.bind ?_ (fun _ => ?_)
theorem analemmalaw06_heavy.mono : ∀ a0 k, LeO (analemmalaw06_heavy.f k a0) (analemmalaw06_heavy.f (k + 1) a0) := by
  intro a0 k
  have ih0 := analemmalaw06_heavy.mono_l k
  unfold analemmalaw06_heavy.f
  repeat' first
      | (with_reducible exact ih0 _ _ _)
      | (with_reducible exact LeO.refl _)
      | (with_reducible exact LeO.none _)
      | (with_reducible refine LeO.ite ?_ ?_)
      | (with_reducible refine LeO.bind ?_ (fun _ => ?_))
      | exact ih0 _ _ _
      | exact LeO.none _
      | refine LeO.ite ?_ ?_
      | refine LeO.bind ?_ (fun _ => ?_)
set_option maxHeartbeats 8000000 in
set_option maxRecDepth 100000 in
theorem analemmalaw06_heavy.calls (k : Nat) (A0 : Option Addr) (c0 : Nat) (l0 : List (S36)) (r : Bool) (w : World) (hr0 : Kd.C k36 w A0 l0.length l0) (hc0 : l0.length ≤ c0) (h : analemmalaw06_heavy.f k l0 = some r) :
    Calls Try.prog 32 #[.slice A0 l0.length c0] w fun e w' => e = .returned (.bool r) ∧ Below w.heap.size w w' := by
  have HR0 := Aside0.mk hr0
  have HC0 := Aside0.mk hc0
  clear hr0 hc0
  have HB := Aside0.mk (Below.refl w.heap.size w)
  have H : (analemmalaw06_heavy.l0 k l0 0 0) = some r := h
  clear h
  have H' := Aside0.mk H
  clear H
  go_enter Try.func32, Try.ntmps32
  go_wp2
  go_loopg [3, 4] k (fun kq v3 v4 w' => ∃ (x3_1 : Int) (x4_1 : Int), v3 = .int .i64 x3_1 ∧ v4 = .int .i64 x4_1 ∧ Aside0 (analemmalaw06_heavy.l0 kq l0 x3_1 x4_1 = some r) ∧ Aside0 (kq ≤ k) ∧ Aside0 (Below w.heap.size w w'))
  case atStart => exact ⟨(0), (0), (by first | rfl | (simp; done) | (simp [*]; done)), (by first | rfl | (simp; done) | (simp [*]; done)), H', ⟨Nat.le_refl _⟩, ⟨by repeat (first | (with_reducible first | exact HB.out | apply below_alloc | apply pw_below_drewN | apply below_drew1) | exact HB.out)⟩⟩
  case round =>
    clear H'
    obtain ⟨x3_1, x4_1, rfl, rfl, HA, HK1, HB⟩ := hrel
    cases gk with
    | zero => exact absurd HA.out (by simp [analemmalaw06_heavy.l0])
    | succ k1 =>
      have H := HA.out
      clear HA
      simp only [analemmalaw06_heavy.l0] at H
      by_cases c2 : x4_1 < (l0.length : Int)
      · rw [if_pos c2] at H
        have c2b0 : decide (x4_1 < (l0.length : Int)) = true := decide_eq_true c2
        clear c2
        by_cases c3 : x3_1 ≤ 4096
        · rw [if_pos c3] at H
          have c3b0 : decide (x3_1 ≤ 4096) = true := decide_eq_true c3
          clear c3
          by_cases c4 : 0 ≤ x4_1
          · rw [if_pos c4] at H
            have c4b0 : decide (0 ≤ x4_1) = true := decide_eq_true c4
            clear c4
            obtain ⟨ji5, hji5⟩ : ∃ j_ : Int, (mn (((rd_T36 l0 x4_1).f1).size : Int) 8192) = j_ := ⟨_, rfl⟩
            replace H : (analemmalaw06_heavy.l0 k1 l0 (wrap64 (x3_1 + (1 + (ji5)))) (wrap64 (x4_1 + 1))) = some r := by first | (rw [hji5] at H; exact H) | (simp only [hji5] at H ⊢; exact H)
            have hji5_ : (if 8192 < (((rd_T36 l0 x4_1).f1).size : Int) then 8192 else (((rd_T36 l0 x4_1).f1).size : Int)) = ji5 := hji5
            have H' := Aside0.mk H
            clear H
            have p176 : 0 ≤ (x4_1 : Int) := of_decide_eq_true (by first | (with_reducible assumption) | assumption)
            have q176 : x4_1 < (l0.length : Int) := of_decide_eq_true (by first | (with_reducible assumption) | assumption)
            obtain ⟨ad176, e176, hx176_0, hx176_1⟩ := at_T36 HR0.out x4_1 p176 q176
            cases e176
            replace hx176_0 := (HB.out.cell (World.block_lt_of_cell? w _ hx176_0)).trans hx176_0
            replace hx176_1 := (HB.out.cell (World.block_lt_of_cell? w _ hx176_1)).trans hx176_1
            replace p176 := eq_true p176
            replace q176 := eq_true q176
            go_wp2
            go_roundg k1
            case measure => have := HK1.out; omega
            case rel => exact ⟨(wrap64 (x3_1 + (1 + (ji5)))), (wrap64 (x4_1 + 1)), (by first | rfl | (simp; done) | (simp only [← hji5] <;> (first | rfl | simp)) | (simp [*]; done)), (by first | rfl | (simp; done) | (simp [*]; done)), H', ⟨by have := HK1.out; omega⟩, ⟨by repeat (first | (with_reducible first | exact HB.out | apply below_alloc | apply pw_below_drewN | apply below_drew1) | exact HB.out)⟩⟩
          · rw [if_neg c4] at H
            exact absurd H (by simp)
        · rw [if_neg c3] at H
          have c3b0 : decide (x3_1 ≤ 4096) = false := decide_eq_false c3
          clear c3
          obtain rfl := Option.some.inj H
          go_wp2
          go_ret
          exact ⟨by first | rfl | (simp [errW_none, errW_some] <;> rfl) | (simp [*, errW_none, errW_some] <;> rfl), by repeat (first | (with_reducible first | exact HB.out | apply below_alloc | apply pw_below_drewN | apply below_drew1) | exact HB.out)⟩
      · rw [if_neg c2] at H
        have c2b0 : decide (x4_1 < (l0.length : Int)) = false := decide_eq_false c2
        clear c2
        obtain rfl := Option.some.inj H
        go_wp2
        go_ret
        exact ⟨by first | rfl | (simp [errW_none, errW_some] <;> rfl) | (simp [*, errW_none, errW_some] <;> rfl), by repeat (first | (with_reducible first | exact HB.out | apply below_alloc | apply pw_below_drewN | apply below_drew1) | exact HB.out)⟩

end Go.Proofs.Ytlbelgdcicholaa.MExt
