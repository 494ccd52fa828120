/- Functions that the statements of this seat reach, each as a plain Lean function, with a proof that the Go code comes to its answers; no condition. -/
import Derived.Test.YtlbelgdcicholaaMExtx0
import Derived.Test.YtlbelgdcicholaaMExtx5
namespace Go.Proofs.Ytlbelgdcicholaa.MExt
open Go.RowKit Go.Proofs.YtlbelgdcicholaaW.PrintWords Go.Proofs.YtlbelgdcicholaaW.PrintLast Go.Proofs.YtlbelgdcicholaaW.PrintMore
attribute [local go_sem] max2_int min2_int max_two min_two max_three min_three max_four min_four   -- for this text's walks alone
set_option linter.unusedVariables false
set_option linter.unusedSimpArgs false

/-! ### analemmalaw06_ExtendMacs: function 5 -/
mutual
def analemmalaw06_ExtendMacs.l0 : Nat → Int → ByteArray → Int → Option (Bool)
  | 0, _, _, _ => none
  | k + 1, x3, x4, x5 => if x5 < x3 then (if x4.size + 1 ≤ 9223372036854775807 then (analemmalaw06_ExtendMacs.l0 k x3 (x4 ++ (⟨#[109]⟩ : ByteArray)) (wrap64 (x5 + 1))) else (none)) else ((extend_Walk.f x4).bind fun bt238 => (if x3 = 0 then (analemmalaw06_ExtendMacs.j1 k x4 bt238.1 bt238.2.1 bt238.2.2 true) else (if x3 = 4 then (analemmalaw06_ExtendMacs.j1 k x4 bt238.1 bt238.2.1 bt238.2.2 true) else (if x3 = 20 then (analemmalaw06_ExtendMacs.j1 k x4 bt238.1 bt238.2.1 bt238.2.2 true) else (analemmalaw06_ExtendMacs.j1 k x4 bt238.1 bt238.2.1 bt238.2.2 (x3 == 24))))))
def analemmalaw06_ExtendMacs.j1 : Nat → ByteArray → List (S36) → ByteArray → Int → Bool → Option (Bool)
  | 0, _, _, _, _, _ => none
  | k + 1, x4, x6, x7, x8, x9 => if 28 + x4.size ≤ 9223372036854775807 then ((extend_Walk.f ((⟨#[0, 7, 0, 28, 97, 98, 99, 100, 101, 102, 103, 104, 105, 106, 107, 108, 109, 110, 111, 112, 113, 114, 115, 116, 117, 118, 119, 120]⟩ : ByteArray) ++ x4)).bind fun bt243 => (if ((x8 == 0) != x9) = true then (some false) else (if ((bt243.2.2 == 0) != x9) = true then (some false) else ((analemmalaw06_shown.f k).bind fun t248 => (if t248 = true then (if x9 = true then (if (x6.length : Int) = 0 then (if x7.toList = x4.toList then (if (bt243.1.length : Int) = 1 then (if 0 < (bt243.1.length : Int) then (if ((rd_T36 bt243.1 0).f0) = 7 then (some (bt243.2.1.toList == x4.toList)) else (some false)) else (none)) else (some false)) else (some false)) else (some false)) else (some true)) else (some false)))))) else (none)
end
def analemmalaw06_ExtendMacs.f (k : Nat) (a0 : Int) : Option (Bool) := analemmalaw06_ExtendMacs.l0 k (Int.tmod (wrap64 (a0)) 25) (⟨#[]⟩ : ByteArray) 0
theorem analemmalaw06_ExtendMacs.mono_l : ∀ k, (∀ y0 y1 y2, LeO (analemmalaw06_ExtendMacs.l0 k y0 y1 y2) (analemmalaw06_ExtendMacs.l0 (k + 1) y0 y1 y2)) ∧ (∀ y0 y1 y2 y3 y4, LeO (analemmalaw06_ExtendMacs.j1 k y0 y1 y2 y3 y4) (analemmalaw06_ExtendMacs.j1 (k + 1) y0 y1 y2 y3 y4))
  | 0 => ⟨fun _ _ _ r h => by simp [analemmalaw06_ExtendMacs.l0] at h, fun _ _ _ _ _ r h => by simp [analemmalaw06_ExtendMacs.j1] at h⟩
  | k + 1 => by
    obtain ⟨ih0, ih1⟩ := analemmalaw06_ExtendMacs.mono_l k
    refine ⟨?_, ?_⟩
    · intro y0 y1 y2
      unfold analemmalaw06_ExtendMacs.l0
      repeat' first
      | (with_reducible exact ih0 _ _ _)
      | (with_reducible exact ih1 _ _ _ _ _)
      | (with_reducible exact analemmalaw06_shown.mono _)
      | (with_reducible exact LeO.refl _)
      | (with_reducible exact LeO.none _)
      | (with_reducible refine LeO.ite ?_ ?_)
      | (with_reducible refine LeO.bind ?_ (fun _ => ?_))
      | exact ih0 _ _ _
      | exact ih1 _ _ _ _ _
      | exact analemmalaw06_shown.mono _
      | exact LeO.none _
      | refine LeO.ite ?_ ?_
      | refine LeO.bind ?_ (fun _ => ?_)
    · intro y0 y1 y2 y3 y4
      unfold analemmalaw06_ExtendMacs.j1
      repeat' first
      | (with_reducible exact ih0 _ _ _)
      | (with_reducible exact ih1 _ _ _ _ _)
      | (with_reducible exact analemmalaw06_shown.mono _)
      | (with_reducible exact LeO.refl _)
      | (with_reducible exact LeO.none _)
      | (with_reducible refine LeO.ite ?_ ?_)
      | (with_reducible refine LeO.bind ?_ (fun _ => ?_))
      | exact ih0 _ _ _
      | exact ih1 _ _ _ _ _
      | exact analemmalaw06_shown.mono _
      | exact LeO.none _
      | refine LeO.ite ?_ ?_
      | refine LeO.bind ?_ (fun _ => ?_)
theorem analemmalaw06_ExtendMacs.mono : ∀ a0 k, LeO (analemmalaw06_ExtendMacs.f k a0) (analemmalaw06_ExtendMacs.f (k + 1) a0) := by
  intro a0 k
  obtain ⟨ih0, ih1⟩ := analemmalaw06_ExtendMacs.mono_l k
  unfold analemmalaw06_ExtendMacs.f
  repeat' first
      | (with_reducible exact ih0 _ _ _)
      | (with_reducible exact ih1 _ _ _ _ _)
      | (with_reducible exact analemmalaw06_shown.mono _)
      | (with_reducible exact LeO.refl _)
      | (with_reducible exact LeO.none _)
      | (with_reducible refine LeO.ite ?_ ?_)
      | (with_reducible refine LeO.bind ?_ (fun _ => ?_))
      | exact ih0 _ _ _
      | exact ih1 _ _ _ _ _
      | exact analemmalaw06_shown.mono _
      | exact LeO.none _
      | refine LeO.ite ?_ ?_
      | refine LeO.bind ?_ (fun _ => ?_)
set_option maxHeartbeats 8000000 in
set_option maxRecDepth 100000 in
theorem analemmalaw06_ExtendMacs.calls (k : Nat) (a0 : Int) (r : Bool) (w : World) (h : analemmalaw06_ExtendMacs.f k a0 = some r) (hr : Aside0 (r = true)) :
    Calls Try.prog 5 #[.int .u8 a0] w fun e w' => e = .returned (.bool r) ∧ Below w.heap.size w w' := by
  have HB := Aside0.mk (Below.refl w.heap.size w)
  have H : (analemmalaw06_ExtendMacs.l0 k (Int.tmod (wrap64 (a0)) 25) (⟨#[]⟩ : ByteArray) 0) = some r := h
  clear h
  have H' := Aside0.mk H
  clear H
  go_enter Try.func5, Try.ntmps5
  go_wp2
  go_loopg [4, 5] k (fun kq v4 v5 w' => ∃ (x4_1 : ByteArray) (x5_1 : Int), v4 = .string x4_1 ∧ v5 = .int .i64 x5_1 ∧ Aside0 (analemmalaw06_ExtendMacs.l0 kq (Int.tmod (wrap64 (a0)) 25) x4_1 x5_1 = some r) ∧ Aside0 (kq ≤ k) ∧ Aside0 (Below w.heap.size w w'))
  case atStart => exact ⟨((⟨#[]⟩ : ByteArray)), (0), (by first | rfl | (simp; done) | (simp [*]; done)), (by first | rfl | (simp; done) | (simp [*]; done)), H', ⟨Nat.le_refl _⟩, ⟨by repeat (first | (with_reducible first | exact HB.out | apply below_alloc | apply pw_below_drewN | apply below_drew1) | exact HB.out)⟩⟩
  case round =>
    clear H'
    obtain ⟨x4_1, x5_1, rfl, rfl, HA, HK1, HB⟩ := hrel
    cases gk with
    | zero => exact absurd HA.out (by simp [analemmalaw06_ExtendMacs.l0])
    | succ k1 =>
      have H := HA.out
      clear HA
      simp only [analemmalaw06_ExtendMacs.l0] at H
      by_cases c2 : x5_1 < (Int.tmod (wrap64 (a0)) 25)
      · rw [if_pos c2] at H
        have c2b0 : decide (x5_1 < (Int.tmod (wrap64 (a0)) 25)) = true := decide_eq_true c2
        clear c2
        by_cases c3 : x4_1.size + 1 ≤ 9223372036854775807
        · rw [if_pos c3] at H
          have c3b0 := eq_true c3
          have c3b1 : decide (x4_1.size + 1 ≤ 9223372036854775807) = true := decide_eq_true c3
          try have c3b2 : (9223372036854775807 < x4_1.size + 1) = False := eq_false (Nat.not_lt.2 c3)
          have H' := Aside0.mk H
          clear H
          go_wp2
          go_roundg k1
          case measure => have := HK1.out; omega
          case rel => exact ⟨(x4_1 ++ (⟨#[109]⟩ : ByteArray)), (wrap64 (x5_1 + 1)), (by first | rfl | (simp; done) | (simp [*]; done)), (by first | rfl | (simp; done) | (simp [*]; done)), H', ⟨by have := HK1.out; omega⟩, ⟨by repeat (first | (with_reducible first | exact HB.out | apply below_alloc | apply pw_below_drewN | apply below_drew1) | exact HB.out)⟩⟩
        · rw [if_neg c3] at H
          exact absurd H (by simp)
      · rw [if_neg c2] at H
        have c2b0 : decide (x5_1 < (Int.tmod (wrap64 (a0)) 25)) = false := decide_eq_false c2
        clear c2
        replace H := Option.bind_eq_some_iff.mp H
        obtain ⟨⟨t238, t239, t240⟩, A40, H⟩ := H
        replace H : (if (Int.tmod (wrap64 (a0)) 25) = 0 then (analemmalaw06_ExtendMacs.j1 k1 x4_1 t238 t239 t240 true) else (if (Int.tmod (wrap64 (a0)) 25) = 4 then (analemmalaw06_ExtendMacs.j1 k1 x4_1 t238 t239 t240 true) else (if (Int.tmod (wrap64 (a0)) 25) = 20 then (analemmalaw06_ExtendMacs.j1 k1 x4_1 t238 t239 t240 true) else (analemmalaw06_ExtendMacs.j1 k1 x4_1 t238 t239 t240 ((Int.tmod (wrap64 (a0)) 25) == 24))))) = some r := H
        have A4 := Aside0.mk A40
        clear A40
        have HC5 := Aside0.mk H
        clear H
        go_upto_region 8 with (first | ((with_reducible refine gate_callee (f := 21) rfl ?_); refine goesL_ (some 26) rfl rfl Try.func21 (by kernel_rfl) rfl #[.string x4_1] rfl (by (try simp only [List.map_toArray, List.map_cons, List.map_nil]); first | done | rfl | (simp only [List.length_drop, List.length_take]; rfl)) ?_; (with_reducible refine (extend_Walk.calls x4_1 t238 t239 t240 _ A4.out).mono ?_); rintro e w6 ⟨v241, rfl, ho0, hb⟩; refine ⟨_, rfl, ?_⟩; have n0_ := Aside0.mk (Kd.R_lower ho0 (below_size (by repeat (first | (with_reducible first | exact HB.out | apply below_alloc | apply pw_below_drewN | apply below_drew1) | exact HB.out)))); have n1_ := Aside0.mk (below_step (by repeat (first | (with_reducible first | exact HB.out | apply below_alloc | apply pw_below_drewN | apply below_drew1) | exact HB.out)) hb); clear HB; have HO242 := n0_; have HB := n1_; clear n0_ n1_; (try clear hb); (try clear hb2); (try clear hk); (try clear hi); (try clear ho0)))
        (try simp only [Act.put, List.setIfInBounds_toArray, List.set_cons_zero, List.set_cons_succ])
        go_cut [9] (fun v9 wc => ∃ (kq : Nat) (x9_4 : Bool), v9 = .bool x9_4 ∧ Aside0 (analemmalaw06_ExtendMacs.j1 kq x4_1 t238 t239 t240 x9_4 = some r) ∧ Aside0 (kq ≤ k1) ∧ Aside0 (Kd.R k36 36 wc w.heap.size (fun _ => True) v241 t238) ∧ Aside0 (Below w.heap.size w wc))
        case first =>
          have H := HC5.out
          clear HC5
          by_cases c7 : (Int.tmod (wrap64 (a0)) 25) = 0
          · rw [if_pos c7] at H
            have c7b0 : ((Int.tmod (wrap64 (a0)) 25) == 0) = true := beq_iff_eq.mpr c7
            have c7b1 : ((Int.tmod (wrap64 (a0)) 25) != 0) = false := bne_eq_false_iff_eq.mpr c7
            clear c7
            (first | rw [c7b0] | (simp only [i64_w, i32_w]; rw [c7b0]) | skip)
            have H' := Aside0.mk H
            clear H
            go_wp2
            go_meet
            case rel => exact ⟨_, (true), (by first | rfl | (simp; done) | (simp [*]; done)), H', ⟨by have := HK1.out; first | omega | exact Nat.le_refl _⟩, ⟨by (with_reducible repeat (first | apply Kd.R_alloc | apply Kd.R_drewN | apply Kd.R_drew)); exact HO242.out⟩, ⟨by repeat (first | (with_reducible first | exact HB.out | apply below_alloc | apply pw_below_drewN | apply below_drew1) | exact HB.out)⟩⟩
          · rw [if_neg c7] at H
            have c7b0 : ((Int.tmod (wrap64 (a0)) 25) == 0) = false := beq_eq_false_iff_ne.mpr c7
            have c7b1 : ((Int.tmod (wrap64 (a0)) 25) != 0) = true := bne_iff_ne.mpr c7
            (first | rw [c7b0] | (simp only [i64_w, i32_w]; rw [c7b0]) | skip)
            by_cases c8 : (Int.tmod (wrap64 (a0)) 25) = 4
            · rw [if_pos c8] at H
              have c8b0 : ((Int.tmod (wrap64 (a0)) 25) == 4) = true := beq_iff_eq.mpr c8
              have c8b1 : ((Int.tmod (wrap64 (a0)) 25) != 4) = false := bne_eq_false_iff_eq.mpr c8
              clear c8
              have H' := Aside0.mk H
              clear H
              go_wp2
              go_meet
              case rel => exact ⟨_, (true), (by first | rfl | (simp; done) | (simp [*]; done)), H', ⟨by have := HK1.out; first | omega | exact Nat.le_refl _⟩, ⟨by (with_reducible repeat (first | apply Kd.R_alloc | apply Kd.R_drewN | apply Kd.R_drew)); exact HO242.out⟩, ⟨by repeat (first | (with_reducible first | exact HB.out | apply below_alloc | apply pw_below_drewN | apply below_drew1) | exact HB.out)⟩⟩
            · rw [if_neg c8] at H
              have c8b0 : ((Int.tmod (wrap64 (a0)) 25) == 4) = false := beq_eq_false_iff_ne.mpr c8
              have c8b1 : ((Int.tmod (wrap64 (a0)) 25) != 4) = true := bne_iff_ne.mpr c8
              by_cases c9 : (Int.tmod (wrap64 (a0)) 25) = 20
              · rw [if_pos c9] at H
                have c9b0 : ((Int.tmod (wrap64 (a0)) 25) == 20) = true := beq_iff_eq.mpr c9
                have c9b1 : ((Int.tmod (wrap64 (a0)) 25) != 20) = false := bne_eq_false_iff_eq.mpr c9
                clear c9
                have H' := Aside0.mk H
                clear H
                go_wp2
                go_meet
                case rel => exact ⟨_, (true), (by first | rfl | (simp; done) | (simp [*]; done)), H', ⟨by have := HK1.out; first | omega | exact Nat.le_refl _⟩, ⟨by (with_reducible repeat (first | apply Kd.R_alloc | apply Kd.R_drewN | apply Kd.R_drew)); exact HO242.out⟩, ⟨by repeat (first | (with_reducible first | exact HB.out | apply below_alloc | apply pw_below_drewN | apply below_drew1) | exact HB.out)⟩⟩
              · rw [if_neg c9] at H
                have c9b0 : ((Int.tmod (wrap64 (a0)) 25) == 20) = false := beq_eq_false_iff_ne.mpr c9
                have c9b1 : ((Int.tmod (wrap64 (a0)) 25) != 20) = true := bne_iff_ne.mpr c9
                have H' := Aside0.mk H
                clear H
                go_wp2
                go_meet
                case rel => exact ⟨_, (((Int.tmod (wrap64 (a0)) 25) == 24)), (by first | rfl | (simp; done) | (simp [*]; done)), H', ⟨by have := HK1.out; first | omega | exact Nat.le_refl _⟩, ⟨by (with_reducible repeat (first | apply Kd.R_alloc | apply Kd.R_drewN | apply Kd.R_drew)); exact HO242.out⟩, ⟨by repeat (first | (with_reducible first | exact HB.out | apply below_alloc | apply pw_below_drewN | apply below_drew1) | exact HB.out)⟩⟩
        case rest =>
          clear HC5
          try clear c2
          try clear c2b0
          try clear p2
          try clear c3
          try clear c3b0
          try clear c3b1
          try clear c3b2
          try clear c5
          try clear p6
          try clear c7
          try clear c7b0
          try clear c7b1
          try clear c8
          try clear c8b0
          try clear c8b1
          try clear c9
          try clear c9b0
          try clear c9b1
          obtain ⟨kq, x9_4, rfl, HA, HJ4, HO_6, HB⟩ := hcut
          cases kq with
          | zero => exact absurd HA.out (by simp [analemmalaw06_ExtendMacs.j1])
          | succ kj4 =>
            have H := HA.out
            clear HA
            simp only [analemmalaw06_ExtendMacs.j1] at H
            by_cases c10 : 28 + x4_1.size ≤ 9223372036854775807
            · rw [if_pos c10] at H
              have c10b0 := eq_true c10
              have c10b1 : decide (28 + x4_1.size ≤ 9223372036854775807) = true := decide_eq_true c10
              try have c10b2 : (9223372036854775807 < 28 + x4_1.size) = False := eq_false (Nat.not_lt.2 c10)
              replace H := Option.bind_eq_some_iff.mp H
              obtain ⟨⟨t243, t244, t245⟩, A110, H⟩ := H
              replace H : (if ((t240 == 0) != x9_4) = true then (some false) else (if ((t245 == 0) != x9_4) = true then (some false) else ((analemmalaw06_shown.f kj4).bind fun t248 => (if t248 = true then (if x9_4 = true then (if (t238.length : Int) = 0 then (if t239.toList = x4_1.toList then (if (t243.length : Int) = 1 then (if 0 < (t243.length : Int) then (if ((rd_T36 t243 0).f0) = 7 then (some (t244.toList == x4_1.toList)) else (some false)) else (none)) else (some false)) else (some false)) else (some false)) else (some true)) else (some false))))) = some r := H
              have A11 := Aside0.mk A110
              clear A110
              by_cases c12 : ((t240 == 0) != x9_4) = true
              · rw [if_pos c12] at H
                have c12b0 : ((t240 == 0) != x9_4) = true := c12
                (try (have c12b1 : decide ((t240 == 0) = x9_4) = false := by simpa using c12))
                (try (have c12b2 : ((t240 == 0) == x9_4) = false := by simpa using c12))
                (try (have c12b3 : ¬ ((t240 == 0) = x9_4) := by simpa using c12))
                clear c12
                exact absurd ((Option.some.inj H).trans hr.out) Bool.false_ne_true
              · rw [if_neg c12] at H
                have c12b0 : ((t240 == 0) != x9_4) = false := by simpa using c12
                (try (have c12b1 : decide ((t240 == 0) = x9_4) = true := by simpa using c12))
                (try (have c12b2 : ((t240 == 0) == x9_4) = true := by simpa using c12))
                clear c12
                by_cases c14 : ((t245 == 0) != x9_4) = true
                · rw [if_pos c14] at H
                  have c14b0 : ((t245 == 0) != x9_4) = true := c14
                  (try (have c14b1 : decide ((t245 == 0) = x9_4) = false := by simpa using c14))
                  (try (have c14b2 : ((t245 == 0) == x9_4) = false := by simpa using c14))
                  (try (have c14b3 : ¬ ((t245 == 0) = x9_4) := by simpa using c14))
                  clear c14
                  exact absurd ((Option.some.inj H).trans hr.out) Bool.false_ne_true
                · rw [if_neg c14] at H
                  have c14b0 : ((t245 == 0) != x9_4) = false := by simpa using c14
                  (try (have c14b1 : decide ((t245 == 0) = x9_4) = true := by simpa using c14))
                  (try (have c14b2 : ((t245 == 0) == x9_4) = true := by simpa using c14))
                  clear c14
                  replace H := Option.bind_eq_some_iff.mp H
                  obtain ⟨t248, A160, H⟩ := H
                  replace H : (if t248 = true then (if x9_4 = true then (if (t238.length : Int) = 0 then (if t239.toList = x4_1.toList then (if (t243.length : Int) = 1 then (if 0 < (t243.length : Int) then (if ((rd_T36 t243 0).f0) = 7 then (some (t244.toList == x4_1.toList)) else (some false)) else (none)) else (some false)) else (some false)) else (some false)) else (some true)) else (some false)) = some r := H
                  have A16 := Aside0.mk A160
                  clear A160
                  by_cases c17 : t248 = true
                  · subst c17
                    have H1 : (if x9_4 = true then (if (t238.length : Int) = 0 then (if t239.toList = x4_1.toList then (if (t243.length : Int) = 1 then (if 0 < (t243.length : Int) then (if ((rd_T36 t243 0).f0) = 7 then (some (t244.toList == x4_1.toList)) else (some false)) else (none)) else (some false)) else (some false)) else (some false)) else (some true)) = some r := by rw [if_pos rfl] at H; exact H
                    clear H
                    have H := H1
                    clear H1
                    by_cases c18 : x9_4 = true
                    · subst c18
                      have H1 : (if (t238.length : Int) = 0 then (if t239.toList = x4_1.toList then (if (t243.length : Int) = 1 then (if 0 < (t243.length : Int) then (if ((rd_T36 t243 0).f0) = 7 then (some (t244.toList == x4_1.toList)) else (some false)) else (none)) else (some false)) else (some false)) else (some false)) = some r := by rw [if_pos rfl] at H; exact H
                      clear H
                      have H := H1
                      clear H1
                      by_cases c19 : (t238.length : Int) = 0
                      · rw [if_pos c19] at H
                        have c19b0 : ((t238.length : Int) == 0) = true := beq_iff_eq.mpr c19
                        have c19b1 : ((t238.length : Int) != 0) = false := bne_eq_false_iff_eq.mpr c19
                        clear c19
                        by_cases c20 : t239.toList = x4_1.toList
                        · rw [if_pos c20] at H
                          have c20b0 : (t239.toList == x4_1.toList) = true := beq_iff_eq.mpr c20
                          have c20b1 : (t239.toList != x4_1.toList) = false := bne_eq_false_iff_eq.mpr c20
                          clear c20
                          by_cases c21 : (t243.length : Int) = 1
                          · rw [if_pos c21] at H
                            have c21b0 : ((t243.length : Int) == 1) = true := beq_iff_eq.mpr c21
                            have c21b1 : ((t243.length : Int) != 1) = false := bne_eq_false_iff_eq.mpr c21
                            clear c21
                            by_cases c22 : 0 < (t243.length : Int)
                            · rw [if_pos c22] at H
                              have c22b0 : decide (0 < (t243.length : Int)) = true := decide_eq_true c22
                              have c22b1 : decide (0 < t243.length) = true := decide_eq_true (by omega)
                              clear c22
                              by_cases c23 : ((rd_T36 t243 0).f0) = 7
                              · rw [if_pos c23] at H
                                have c23b0 : (((rd_T36 t243 0).f0) == 7) = true := beq_iff_eq.mpr c23
                                have c23b1 : (((rd_T36 t243 0).f0) != 7) = false := bne_eq_false_iff_eq.mpr c23
                                clear c23
                                first | exact absurd ((Option.some.inj H).trans hr.out) Bool.false_ne_true | skip
                                all_goals (obtain rfl := Option.some.inj H)
                                all_goals (go_wp2_with (first | ((with_reducible refine gate_callee (f := 21) rfl ?_); refine goesL_ (some 48) rfl rfl Try.func21 (by kernel_rfl) rfl #[.string ((⟨#[0, 7, 0, 28, 97, 98, 99, 100, 101, 102, 103, 104, 105, 106, 107, 108, 109, 110, 111, 112, 113, 114, 115, 116, 117, 118, 119, 120]⟩ : ByteArray) ++ x4_1)] rfl (by (try simp only [List.map_toArray, List.map_cons, List.map_nil]); first | done | rfl | (simp only [List.length_drop, List.length_take]; rfl)) ?_; (with_reducible refine (extend_Walk.calls ((⟨#[0, 7, 0, 28, 97, 98, 99, 100, 101, 102, 103, 104, 105, 106, 107, 108, 109, 110, 111, 112, 113, 114, 115, 116, 117, 118, 119, 120]⟩ : ByteArray) ++ x4_1) t243 t244 t245 _ A11.out).mono ?_); rintro e w24 ⟨v246, rfl, ho0, hb⟩; refine ⟨_, rfl, ?_⟩; have n0_ := Aside0.mk (Kd.R_elder' (by (with_reducible repeat (first | apply Kd.R_alloc | apply Kd.R_drewN | apply Kd.R_drew)); exact HO_6.out) (Kd.R_base ho0) hb); have n1_ := Aside0.mk (Kd.R_lower (Kd.R_new' ho0 (Kd.R_lt (by (with_reducible repeat (first | apply Kd.R_alloc | apply Kd.R_drewN | apply Kd.R_drew)); exact HO_6.out))) (below_size (by repeat (first | (with_reducible first | exact HB.out | apply below_alloc | apply pw_below_drewN | apply below_drew1) | exact HB.out)))); have n2_ := Aside0.mk (below_step (by repeat (first | (with_reducible first | exact HB.out | apply below_alloc | apply pw_below_drewN | apply below_drew1) | exact HB.out)) hb); clear HO_6; clear HB; have HO_6 := n0_; have HO247 := n1_; have HB := n2_; clear n0_ n1_ n2_; (try clear hb); (try clear hb2); (try clear hk); (try clear hi); (try clear ho0)) | (go_at_call 20; (with_reducible refine (analemmalaw06_shown.calls kj4  true _ A16.out).mono ?_); rintro e w25 ⟨rfl, hb⟩; have n0_ := Aside0.mk (Kd.R_below (by (with_reducible repeat (first | apply Kd.R_alloc | apply Kd.R_drewN | apply Kd.R_drew)); exact HO_6.out) hb); have n1_ := Aside0.mk (Kd.R_below (by (with_reducible repeat (first | apply Kd.R_alloc | apply Kd.R_drewN | apply Kd.R_drew)); exact HO247.out) hb); have n2_ := Aside0.mk (below_step (by repeat (first | (with_reducible first | exact HB.out | apply below_alloc | apply pw_below_drewN | apply below_drew1) | exact HB.out)) hb); clear HO_6; clear HO247; clear HB; have HO_6 := n0_; have HO247 := n1_; have HB := n2_; clear n0_ n1_ n2_; (try clear hb); (try clear hb2); (try clear hk); (try clear hi); obtain ⟨Ao26, co26, eo26⟩ := Kd.R_slice HO_6.out; subst eo26; obtain ⟨Ao27, co27, eo27⟩ := Kd.R_slice HO247.out; subst eo27; have p249 : 0 ≤ (0 : Int) := (by omega); have q249 : 0 < (t243.length : Int) := of_decide_eq_true (by first | (with_reducible assumption) | assumption); obtain ⟨ad249, e249, hx249_0, hx249_1⟩ := at_T36 (Kd.R_reads' HO247.out).2.2 0 p249 q249; cases e249; have qi249 : (0 < t243.length) = True := eq_true (by omega); (try rw [show ((0 : Int)).toNat = 0 from rfl] at hx249_0); (try rw [show 0 * 2 = 0 from rfl] at hx249_0); (try rw [Addr.add_zero'] at hx249_0); (try rw [show ((0 : Int)).toNat = 0 from rfl] at hx249_1); (try rw [show 0 * 2 = 0 from rfl] at hx249_1); (try rw [Addr.add_zero'] at hx249_1); replace p249 := eq_true p249; replace q249 := eq_true q249)))
                                all_goals (go_ret)
                                all_goals (exact ⟨by first | rfl | (simp [errW_none, errW_some] <;> rfl) | (simp [*, errW_none, errW_some] <;> rfl), by repeat (first | (with_reducible first | exact HB.out | apply below_alloc | apply pw_below_drewN | apply below_drew1) | exact HB.out)⟩)
                              · rw [if_neg c23] at H
                                have c23b0 : (((rd_T36 t243 0).f0) == 7) = false := beq_eq_false_iff_ne.mpr c23
                                have c23b1 : (((rd_T36 t243 0).f0) != 7) = true := bne_iff_ne.mpr c23
                                first | exact absurd ((Option.some.inj H).trans hr.out) Bool.false_ne_true | skip
                                all_goals (obtain rfl := Option.some.inj H)
                                all_goals (go_wp2_with (first | ((with_reducible refine gate_callee (f := 21) rfl ?_); refine goesL_ (some 48) rfl rfl Try.func21 (by kernel_rfl) rfl #[.string ((⟨#[0, 7, 0, 28, 97, 98, 99, 100, 101, 102, 103, 104, 105, 106, 107, 108, 109, 110, 111, 112, 113, 114, 115, 116, 117, 118, 119, 120]⟩ : ByteArray) ++ x4_1)] rfl (by (try simp only [List.map_toArray, List.map_cons, List.map_nil]); first | done | rfl | (simp only [List.length_drop, List.length_take]; rfl)) ?_; (with_reducible refine (extend_Walk.calls ((⟨#[0, 7, 0, 28, 97, 98, 99, 100, 101, 102, 103, 104, 105, 106, 107, 108, 109, 110, 111, 112, 113, 114, 115, 116, 117, 118, 119, 120]⟩ : ByteArray) ++ x4_1) t243 t244 t245 _ A11.out).mono ?_); rintro e w28 ⟨v246, rfl, ho0, hb⟩; refine ⟨_, rfl, ?_⟩; have n0_ := Aside0.mk (Kd.R_elder' (by (with_reducible repeat (first | apply Kd.R_alloc | apply Kd.R_drewN | apply Kd.R_drew)); exact HO_6.out) (Kd.R_base ho0) hb); have n1_ := Aside0.mk (Kd.R_lower (Kd.R_new' ho0 (Kd.R_lt (by (with_reducible repeat (first | apply Kd.R_alloc | apply Kd.R_drewN | apply Kd.R_drew)); exact HO_6.out))) (below_size (by repeat (first | (with_reducible first | exact HB.out | apply below_alloc | apply pw_below_drewN | apply below_drew1) | exact HB.out)))); have n2_ := Aside0.mk (below_step (by repeat (first | (with_reducible first | exact HB.out | apply below_alloc | apply pw_below_drewN | apply below_drew1) | exact HB.out)) hb); clear HO_6; clear HB; have HO_6 := n0_; have HO247 := n1_; have HB := n2_; clear n0_ n1_ n2_; (try clear hb); (try clear hb2); (try clear hk); (try clear hi); (try clear ho0)) | (go_at_call 20; (with_reducible refine (analemmalaw06_shown.calls kj4  true _ A16.out).mono ?_); rintro e w29 ⟨rfl, hb⟩; have n0_ := Aside0.mk (Kd.R_below (by (with_reducible repeat (first | apply Kd.R_alloc | apply Kd.R_drewN | apply Kd.R_drew)); exact HO_6.out) hb); have n1_ := Aside0.mk (Kd.R_below (by (with_reducible repeat (first | apply Kd.R_alloc | apply Kd.R_drewN | apply Kd.R_drew)); exact HO247.out) hb); have n2_ := Aside0.mk (below_step (by repeat (first | (with_reducible first | exact HB.out | apply below_alloc | apply pw_below_drewN | apply below_drew1) | exact HB.out)) hb); clear HO_6; clear HO247; clear HB; have HO_6 := n0_; have HO247 := n1_; have HB := n2_; clear n0_ n1_ n2_; (try clear hb); (try clear hb2); (try clear hk); (try clear hi); obtain ⟨Ao30, co30, eo30⟩ := Kd.R_slice HO_6.out; subst eo30; obtain ⟨Ao31, co31, eo31⟩ := Kd.R_slice HO247.out; subst eo31; have p249 : 0 ≤ (0 : Int) := (by omega); have q249 : 0 < (t243.length : Int) := of_decide_eq_true (by first | (with_reducible assumption) | assumption); obtain ⟨ad249, e249, hx249_0, hx249_1⟩ := at_T36 (Kd.R_reads' HO247.out).2.2 0 p249 q249; cases e249; have qi249 : (0 < t243.length) = True := eq_true (by omega); (try rw [show ((0 : Int)).toNat = 0 from rfl] at hx249_0); (try rw [show 0 * 2 = 0 from rfl] at hx249_0); (try rw [Addr.add_zero'] at hx249_0); (try rw [show ((0 : Int)).toNat = 0 from rfl] at hx249_1); (try rw [show 0 * 2 = 0 from rfl] at hx249_1); (try rw [Addr.add_zero'] at hx249_1); replace p249 := eq_true p249; replace q249 := eq_true q249)))
                                all_goals (go_ret)
                                all_goals (exact ⟨by first | rfl | (simp [errW_none, errW_some] <;> rfl) | (simp [*, errW_none, errW_some] <;> rfl), by repeat (first | (with_reducible first | exact HB.out | apply below_alloc | apply pw_below_drewN | apply below_drew1) | exact HB.out)⟩)
                            · rw [if_neg c22] at H
                              exact absurd H (by simp)
                          · rw [if_neg c21] at H
                            have c21b0 : ((t243.length : Int) == 1) = false := beq_eq_false_iff_ne.mpr c21
                            have c21b1 : ((t243.length : Int) != 1) = true := bne_iff_ne.mpr c21
                            first | exact absurd ((Option.some.inj H).trans hr.out) Bool.false_ne_true | skip
                            all_goals (obtain rfl := Option.some.inj H)
                            all_goals (go_wp2_with (first | ((with_reducible refine gate_callee (f := 21) rfl ?_); refine goesL_ (some 48) rfl rfl Try.func21 (by kernel_rfl) rfl #[.string ((⟨#[0, 7, 0, 28, 97, 98, 99, 100, 101, 102, 103, 104, 105, 106, 107, 108, 109, 110, 111, 112, 113, 114, 115, 116, 117, 118, 119, 120]⟩ : ByteArray) ++ x4_1)] rfl (by (try simp only [List.map_toArray, List.map_cons, List.map_nil]); first | done | rfl | (simp only [List.length_drop, List.length_take]; rfl)) ?_; (with_reducible refine (extend_Walk.calls ((⟨#[0, 7, 0, 28, 97, 98, 99, 100, 101, 102, 103, 104, 105, 106, 107, 108, 109, 110, 111, 112, 113, 114, 115, 116, 117, 118, 119, 120]⟩ : ByteArray) ++ x4_1) t243 t244 t245 _ A11.out).mono ?_); rintro e w32 ⟨v246, rfl, ho0, hb⟩; refine ⟨_, rfl, ?_⟩; have n0_ := Aside0.mk (Kd.R_elder' (by (with_reducible repeat (first | apply Kd.R_alloc | apply Kd.R_drewN | apply Kd.R_drew)); exact HO_6.out) (Kd.R_base ho0) hb); have n1_ := Aside0.mk (Kd.R_lower (Kd.R_new' ho0 (Kd.R_lt (by (with_reducible repeat (first | apply Kd.R_alloc | apply Kd.R_drewN | apply Kd.R_drew)); exact HO_6.out))) (below_size (by repeat (first | (with_reducible first | exact HB.out | apply below_alloc | apply pw_below_drewN | apply below_drew1) | exact HB.out)))); have n2_ := Aside0.mk (below_step (by repeat (first | (with_reducible first | exact HB.out | apply below_alloc | apply pw_below_drewN | apply below_drew1) | exact HB.out)) hb); clear HO_6; clear HB; have HO_6 := n0_; have HO247 := n1_; have HB := n2_; clear n0_ n1_ n2_; (try clear hb); (try clear hb2); (try clear hk); (try clear hi); (try clear ho0)) | (go_at_call 20; (with_reducible refine (analemmalaw06_shown.calls kj4  true _ A16.out).mono ?_); rintro e w33 ⟨rfl, hb⟩; have n0_ := Aside0.mk (Kd.R_below (by (with_reducible repeat (first | apply Kd.R_alloc | apply Kd.R_drewN | apply Kd.R_drew)); exact HO_6.out) hb); have n1_ := Aside0.mk (Kd.R_below (by (with_reducible repeat (first | apply Kd.R_alloc | apply Kd.R_drewN | apply Kd.R_drew)); exact HO247.out) hb); have n2_ := Aside0.mk (below_step (by repeat (first | (with_reducible first | exact HB.out | apply below_alloc | apply pw_below_drewN | apply below_drew1) | exact HB.out)) hb); clear HO_6; clear HO247; clear HB; have HO_6 := n0_; have HO247 := n1_; have HB := n2_; clear n0_ n1_ n2_; (try clear hb); (try clear hb2); (try clear hk); (try clear hi); obtain ⟨Ao34, co34, eo34⟩ := Kd.R_slice HO_6.out; subst eo34; obtain ⟨Ao35, co35, eo35⟩ := Kd.R_slice HO247.out; subst eo35)))
                            all_goals (go_ret)
                            all_goals (exact ⟨by first | rfl | (simp [errW_none, errW_some] <;> rfl) | (simp [*, errW_none, errW_some] <;> rfl), by repeat (first | (with_reducible first | exact HB.out | apply below_alloc | apply pw_below_drewN | apply below_drew1) | exact HB.out)⟩)
                        · rw [if_neg c20] at H
                          have c20b0 : (t239.toList == x4_1.toList) = false := beq_eq_false_iff_ne.mpr c20
                          have c20b1 : (t239.toList != x4_1.toList) = true := bne_iff_ne.mpr c20
                          first | exact absurd ((Option.some.inj H).trans hr.out) Bool.false_ne_true | skip
                          all_goals (obtain rfl := Option.some.inj H)
                          all_goals (go_wp2_with (first | ((with_reducible refine gate_callee (f := 21) rfl ?_); refine goesL_ (some 48) rfl rfl Try.func21 (by kernel_rfl) rfl #[.string ((⟨#[0, 7, 0, 28, 97, 98, 99, 100, 101, 102, 103, 104, 105, 106, 107, 108, 109, 110, 111, 112, 113, 114, 115, 116, 117, 118, 119, 120]⟩ : ByteArray) ++ x4_1)] rfl (by (try simp only [List.map_toArray, List.map_cons, List.map_nil]); first | done | rfl | (simp only [List.length_drop, List.length_take]; rfl)) ?_; (with_reducible refine (extend_Walk.calls ((⟨#[0, 7, 0, 28, 97, 98, 99, 100, 101, 102, 103, 104, 105, 106, 107, 108, 109, 110, 111, 112, 113, 114, 115, 116, 117, 118, 119, 120]⟩ : ByteArray) ++ x4_1) t243 t244 t245 _ A11.out).mono ?_); rintro e w36 ⟨v246, rfl, ho0, hb⟩; refine ⟨_, rfl, ?_⟩; have n0_ := Aside0.mk (Kd.R_elder' (by (with_reducible repeat (first | apply Kd.R_alloc | apply Kd.R_drewN | apply Kd.R_drew)); exact HO_6.out) (Kd.R_base ho0) hb); have n1_ := Aside0.mk (Kd.R_lower (Kd.R_new' ho0 (Kd.R_lt (by (with_reducible repeat (first | apply Kd.R_alloc | apply Kd.R_drewN | apply Kd.R_drew)); exact HO_6.out))) (below_size (by repeat (first | (with_reducible first | exact HB.out | apply below_alloc | apply pw_below_drewN | apply below_drew1) | exact HB.out)))); have n2_ := Aside0.mk (below_step (by repeat (first | (with_reducible first | exact HB.out | apply below_alloc | apply pw_below_drewN | apply below_drew1) | exact HB.out)) hb); clear HO_6; clear HB; have HO_6 := n0_; have HO247 := n1_; have HB := n2_; clear n0_ n1_ n2_; (try clear hb); (try clear hb2); (try clear hk); (try clear hi); (try clear ho0)) | (go_at_call 20; (with_reducible refine (analemmalaw06_shown.calls kj4  true _ A16.out).mono ?_); rintro e w37 ⟨rfl, hb⟩; have n0_ := Aside0.mk (Kd.R_below (by (with_reducible repeat (first | apply Kd.R_alloc | apply Kd.R_drewN | apply Kd.R_drew)); exact HO_6.out) hb); have n1_ := Aside0.mk (Kd.R_below (by (with_reducible repeat (first | apply Kd.R_alloc | apply Kd.R_drewN | apply Kd.R_drew)); exact HO247.out) hb); have n2_ := Aside0.mk (below_step (by repeat (first | (with_reducible first | exact HB.out | apply below_alloc | apply pw_below_drewN | apply below_drew1) | exact HB.out)) hb); clear HO_6; clear HO247; clear HB; have HO_6 := n0_; have HO247 := n1_; have HB := n2_; clear n0_ n1_ n2_; (try clear hb); (try clear hb2); (try clear hk); (try clear hi); obtain ⟨Ao38, co38, eo38⟩ := Kd.R_slice HO_6.out; subst eo38)))
                          all_goals (go_ret)
                          all_goals (exact ⟨by first | rfl | (simp [errW_none, errW_some] <;> rfl) | (simp [*, errW_none, errW_some] <;> rfl), by repeat (first | (with_reducible first | exact HB.out | apply below_alloc | apply pw_below_drewN | apply below_drew1) | exact HB.out)⟩)
                      · rw [if_neg c19] at H
                        have c19b0 : ((t238.length : Int) == 0) = false := beq_eq_false_iff_ne.mpr c19
                        have c19b1 : ((t238.length : Int) != 0) = true := bne_iff_ne.mpr c19
                        have c19b2 : ¬ (t238 = []) := fun h_ => c19 (by rw [h_]; rfl)
                        first | exact absurd ((Option.some.inj H).trans hr.out) Bool.false_ne_true | skip
                        all_goals (obtain rfl := Option.some.inj H)
                        all_goals (go_wp2_with (first | ((with_reducible refine gate_callee (f := 21) rfl ?_); refine goesL_ (some 48) rfl rfl Try.func21 (by kernel_rfl) rfl #[.string ((⟨#[0, 7, 0, 28, 97, 98, 99, 100, 101, 102, 103, 104, 105, 106, 107, 108, 109, 110, 111, 112, 113, 114, 115, 116, 117, 118, 119, 120]⟩ : ByteArray) ++ x4_1)] rfl (by (try simp only [List.map_toArray, List.map_cons, List.map_nil]); first | done | rfl | (simp only [List.length_drop, List.length_take]; rfl)) ?_; (with_reducible refine (extend_Walk.calls ((⟨#[0, 7, 0, 28, 97, 98, 99, 100, 101, 102, 103, 104, 105, 106, 107, 108, 109, 110, 111, 112, 113, 114, 115, 116, 117, 118, 119, 120]⟩ : ByteArray) ++ x4_1) t243 t244 t245 _ A11.out).mono ?_); rintro e w39 ⟨v246, rfl, ho0, hb⟩; refine ⟨_, rfl, ?_⟩; have n0_ := Aside0.mk (Kd.R_elder' (by (with_reducible repeat (first | apply Kd.R_alloc | apply Kd.R_drewN | apply Kd.R_drew)); exact HO_6.out) (Kd.R_base ho0) hb); have n1_ := Aside0.mk (Kd.R_lower (Kd.R_new' ho0 (Kd.R_lt (by (with_reducible repeat (first | apply Kd.R_alloc | apply Kd.R_drewN | apply Kd.R_drew)); exact HO_6.out))) (below_size (by repeat (first | (with_reducible first | exact HB.out | apply below_alloc | apply pw_below_drewN | apply below_drew1) | exact HB.out)))); have n2_ := Aside0.mk (below_step (by repeat (first | (with_reducible first | exact HB.out | apply below_alloc | apply pw_below_drewN | apply below_drew1) | exact HB.out)) hb); clear HO_6; clear HB; have HO_6 := n0_; have HO247 := n1_; have HB := n2_; clear n0_ n1_ n2_; (try clear hb); (try clear hb2); (try clear hk); (try clear hi); (try clear ho0)) | (go_at_call 20; (with_reducible refine (analemmalaw06_shown.calls kj4  true _ A16.out).mono ?_); rintro e w40 ⟨rfl, hb⟩; have n0_ := Aside0.mk (Kd.R_below (by (with_reducible repeat (first | apply Kd.R_alloc | apply Kd.R_drewN | apply Kd.R_drew)); exact HO_6.out) hb); have n1_ := Aside0.mk (Kd.R_below (by (with_reducible repeat (first | apply Kd.R_alloc | apply Kd.R_drewN | apply Kd.R_drew)); exact HO247.out) hb); have n2_ := Aside0.mk (below_step (by repeat (first | (with_reducible first | exact HB.out | apply below_alloc | apply pw_below_drewN | apply below_drew1) | exact HB.out)) hb); clear HO_6; clear HO247; clear HB; have HO_6 := n0_; have HO247 := n1_; have HB := n2_; clear n0_ n1_ n2_; (try clear hb); (try clear hb2); (try clear hk); (try clear hi); obtain ⟨Ao41, co41, eo41⟩ := Kd.R_slice HO_6.out; subst eo41)))
                        all_goals (go_ret)
                        all_goals (exact ⟨by first | rfl | (simp [errW_none, errW_some] <;> rfl) | (simp [*, errW_none, errW_some] <;> rfl), by repeat (first | (with_reducible first | exact HB.out | apply below_alloc | apply pw_below_drewN | apply below_drew1) | exact HB.out)⟩)
                    · replace c18 := Bool.eq_false_iff.mpr c18
                      subst c18
                      have H1 : (some true) = some r := by rw [if_neg (show ¬ (false = true) by decide)] at H; exact H
                      clear H
                      have H := H1
                      clear H1
                      first | exact absurd ((Option.some.inj H).trans hr.out) Bool.false_ne_true | skip
                      all_goals (obtain rfl := Option.some.inj H)
                      all_goals (go_wp2_with (first | ((with_reducible refine gate_callee (f := 21) rfl ?_); refine goesL_ (some 48) rfl rfl Try.func21 (by kernel_rfl) rfl #[.string ((⟨#[0, 7, 0, 28, 97, 98, 99, 100, 101, 102, 103, 104, 105, 106, 107, 108, 109, 110, 111, 112, 113, 114, 115, 116, 117, 118, 119, 120]⟩ : ByteArray) ++ x4_1)] rfl (by (try simp only [List.map_toArray, List.map_cons, List.map_nil]); first | done | rfl | (simp only [List.length_drop, List.length_take]; rfl)) ?_; (with_reducible refine (extend_Walk.calls ((⟨#[0, 7, 0, 28, 97, 98, 99, 100, 101, 102, 103, 104, 105, 106, 107, 108, 109, 110, 111, 112, 113, 114, 115, 116, 117, 118, 119, 120]⟩ : ByteArray) ++ x4_1) t243 t244 t245 _ A11.out).mono ?_); rintro e w42 ⟨v246, rfl, ho0, hb⟩; refine ⟨_, rfl, ?_⟩; have n0_ := Aside0.mk (Kd.R_elder' (by (with_reducible repeat (first | apply Kd.R_alloc | apply Kd.R_drewN | apply Kd.R_drew)); exact HO_6.out) (Kd.R_base ho0) hb); have n1_ := Aside0.mk (Kd.R_lower (Kd.R_new' ho0 (Kd.R_lt (by (with_reducible repeat (first | apply Kd.R_alloc | apply Kd.R_drewN | apply Kd.R_drew)); exact HO_6.out))) (below_size (by repeat (first | (with_reducible first | exact HB.out | apply below_alloc | apply pw_below_drewN | apply below_drew1) | exact HB.out)))); have n2_ := Aside0.mk (below_step (by repeat (first | (with_reducible first | exact HB.out | apply below_alloc | apply pw_below_drewN | apply below_drew1) | exact HB.out)) hb); clear HO_6; clear HB; have HO_6 := n0_; have HO247 := n1_; have HB := n2_; clear n0_ n1_ n2_; (try clear hb); (try clear hb2); (try clear hk); (try clear hi); (try clear ho0)) | (go_at_call 20; (with_reducible refine (analemmalaw06_shown.calls kj4  true _ A16.out).mono ?_); rintro e w43 ⟨rfl, hb⟩; have n0_ := Aside0.mk (Kd.R_below (by (with_reducible repeat (first | apply Kd.R_alloc | apply Kd.R_drewN | apply Kd.R_drew)); exact HO_6.out) hb); have n1_ := Aside0.mk (Kd.R_below (by (with_reducible repeat (first | apply Kd.R_alloc | apply Kd.R_drewN | apply Kd.R_drew)); exact HO247.out) hb); have n2_ := Aside0.mk (below_step (by repeat (first | (with_reducible first | exact HB.out | apply below_alloc | apply pw_below_drewN | apply below_drew1) | exact HB.out)) hb); clear HO_6; clear HO247; clear HB; have HO_6 := n0_; have HO247 := n1_; have HB := n2_; clear n0_ n1_ n2_; (try clear hb); (try clear hb2); (try clear hk); (try clear hi))))
                      all_goals (go_ret)
                      all_goals (exact ⟨by first | rfl | (simp [errW_none, errW_some] <;> rfl) | (simp [*, errW_none, errW_some] <;> rfl), by repeat (first | (with_reducible first | exact HB.out | apply below_alloc | apply pw_below_drewN | apply below_drew1) | exact HB.out)⟩)
                  · replace c17 := Bool.eq_false_iff.mpr c17
                    subst c17
                    have H1 : (some false) = some r := by rw [if_neg (show ¬ (false = true) by decide)] at H; exact H
                    clear H
                    have H := H1
                    clear H1
                    first | exact absurd ((Option.some.inj H).trans hr.out) Bool.false_ne_true | skip
                    all_goals (obtain rfl := Option.some.inj H)
                    all_goals (go_wp2_with (first | ((with_reducible refine gate_callee (f := 21) rfl ?_); refine goesL_ (some 48) rfl rfl Try.func21 (by kernel_rfl) rfl #[.string ((⟨#[0, 7, 0, 28, 97, 98, 99, 100, 101, 102, 103, 104, 105, 106, 107, 108, 109, 110, 111, 112, 113, 114, 115, 116, 117, 118, 119, 120]⟩ : ByteArray) ++ x4_1)] rfl (by (try simp only [List.map_toArray, List.map_cons, List.map_nil]); first | done | rfl | (simp only [List.length_drop, List.length_take]; rfl)) ?_; (with_reducible refine (extend_Walk.calls ((⟨#[0, 7, 0, 28, 97, 98, 99, 100, 101, 102, 103, 104, 105, 106, 107, 108, 109, 110, 111, 112, 113, 114, 115, 116, 117, 118, 119, 120]⟩ : ByteArray) ++ x4_1) t243 t244 t245 _ A11.out).mono ?_); rintro e w44 ⟨v246, rfl, ho0, hb⟩; refine ⟨_, rfl, ?_⟩; have n0_ := Aside0.mk (Kd.R_elder' (by (with_reducible repeat (first | apply Kd.R_alloc | apply Kd.R_drewN | apply Kd.R_drew)); exact HO_6.out) (Kd.R_base ho0) hb); have n1_ := Aside0.mk (Kd.R_lower (Kd.R_new' ho0 (Kd.R_lt (by (with_reducible repeat (first | apply Kd.R_alloc | apply Kd.R_drewN | apply Kd.R_drew)); exact HO_6.out))) (below_size (by repeat (first | (with_reducible first | exact HB.out | apply below_alloc | apply pw_below_drewN | apply below_drew1) | exact HB.out)))); have n2_ := Aside0.mk (below_step (by repeat (first | (with_reducible first | exact HB.out | apply below_alloc | apply pw_below_drewN | apply below_drew1) | exact HB.out)) hb); clear HO_6; clear HB; have HO_6 := n0_; have HO247 := n1_; have HB := n2_; clear n0_ n1_ n2_; (try clear hb); (try clear hb2); (try clear hk); (try clear hi); (try clear ho0)) | (go_at_call 20; (with_reducible refine (analemmalaw06_shown.calls kj4  false _ A16.out).mono ?_); rintro e w45 ⟨rfl, hb⟩; have n0_ := Aside0.mk (Kd.R_below (by (with_reducible repeat (first | apply Kd.R_alloc | apply Kd.R_drewN | apply Kd.R_drew)); exact HO_6.out) hb); have n1_ := Aside0.mk (Kd.R_below (by (with_reducible repeat (first | apply Kd.R_alloc | apply Kd.R_drewN | apply Kd.R_drew)); exact HO247.out) hb); have n2_ := Aside0.mk (below_step (by repeat (first | (with_reducible first | exact HB.out | apply below_alloc | apply pw_below_drewN | apply below_drew1) | exact HB.out)) hb); clear HO_6; clear HO247; clear HB; have HO_6 := n0_; have HO247 := n1_; have HB := n2_; clear n0_ n1_ n2_; (try clear hb); (try clear hb2); (try clear hk); (try clear hi))))
                    all_goals (go_ret)
                    all_goals (exact ⟨by first | rfl | (simp [errW_none, errW_some] <;> rfl) | (simp [*, errW_none, errW_some] <;> rfl), by repeat (first | (with_reducible first | exact HB.out | apply below_alloc | apply pw_below_drewN | apply below_drew1) | exact HB.out)⟩)
            · rw [if_neg c10] at H
              exact absurd H (by simp)

/-- THE ONE PURE STATEMENT of analemmalaw06_ExtendMacs: yours. -/
def analemmalaw06_ExtendMacs.Pure : Prop := ∀ (a0 : Int), (Lit.int .u8 a0).wf = true → ∃ k, analemmalaw06_ExtendMacs.f k a0 = some true
theorem analemmalaw06_ExtendMacs.walk (P : analemmalaw06_ExtendMacs.Pure) (a0 : Int) (w : World) (w0 : (Lit.int .u8 a0).wf = true) :
    Calls Try.prog 5 #[.int .u8 a0] w fun e w' => e = .returned (.bool true) ∧ Below w.heap.size w w' := by
  obtain ⟨k, h⟩ := P a0 w0
  refine (analemmalaw06_ExtendMacs.calls k a0 true w h (Aside0.mk rfl)).mono ?_
  rintro e w' ⟨rfl, hd⟩
  exact ⟨rfl, hd⟩

end Go.Proofs.Ytlbelgdcicholaa.MExt
