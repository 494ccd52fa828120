/- Functions that the statements of this seat reach, each as a plain Lean function, with a proof that the Go code comes to its answers; no condition. -/
import Derived.Test.YtanpjfejnlfpmaaMWidex0
import Derived.Test.YtanpjfejnlfpmaaMWidex1
namespace Go.Proofs.Ytanpjfejnlfpmaa.MWide
open Go.RowKit Go.Proofs.YtanpjfejnlfpmaaW.PrintWords Go.Proofs.YtanpjfejnlfpmaaW.PrintLast Go.Proofs.YtanpjfejnlfpmaaW.PrintMore
attribute [local go_sem] max2_int min2_int max_two min_two max_three min_three max_four min_four   -- for this text's walks alone
set_option linter.unusedVariables false
set_option linter.unusedSimpArgs false

/-! ### wide_Mul: function 14 -/
def wide_Mul.f (a0 : Int) (a1 : Int) : Option (Int × Int) :=
  if 0 ≤ a0 ∧ a0 ≤ 18446744073709551615 ∧ 0 ≤ a1 ∧ a1 ≤ 18446744073709551615 then some (a0 * a1 / 18446744073709551616, a0 * a1 % 18446744073709551616) else none
def wide_Mul.St (V n s0 s1 s2 s3 : Int) : Prop :=
  0 ≤ s0 ∧ s0 ≤ n * 4294967295 ∧ 0 ≤ s1 ∧ s1 ≤ n * 4294967295 ∧ 0 ≤ s2 ∧ s2 ≤ n * 4294967295 ∧ 0 ≤ s3 ∧ s3 ≤ n * 4294967295 ∧ s0 + 4294967296 * s1 + 18446744073709551616 * s2 + 79228162514264337593543950336 * s3 = V
def wide_Mul.V (x0 x1 y0 y1 : Int) : Nat → Int
  | 0 => 0
  | 1 => x0 * y0
  | 2 => x0 * y0 + 4294967296 * (x0 * y1)
  | 3 => x0 * y0 + 4294967296 * (x0 * y1) + 4294967296 * (x1 * y0)
  | _ => x0 * y0 + 4294967296 * (x0 * y1) + 4294967296 * (x1 * y0) + 18446744073709551616 * (x1 * y1)
def wide_Mul.Cr (V c s0 s1 s2 s3 : Int) : Prop :=
  0 ≤ s0 ∧ s0 ≤ 20000000000 ∧ 0 ≤ s1 ∧ s1 ≤ 20000000000 ∧ 0 ≤ s2 ∧ s2 ≤ 20000000000 ∧ 0 ≤ s3 ∧ s3 ≤ 20000000000 ∧ (1 ≤ c → s0 ≤ 4294967295) ∧ (2 ≤ c → s1 ≤ 4294967295) ∧ (3 ≤ c → s2 ≤ 4294967295) ∧ (c ≤ 1 → s2 ≤ 17179869180) ∧ (c ≤ 2 → s3 ≤ 17179869180) ∧ (c ≤ 0 → s1 ≤ 17179869180) ∧ s0 + 4294967296 * s1 + 18446744073709551616 * s2 + 79228162514264337593543950336 * s3 = V
theorem wide_Mul.all (x0 x1 y0 y1 : Int) : wide_Mul.V x0 x1 y0 y1 4 = (x0 + 4294967296 * x1) * (y0 + 4294967296 * y1) := by
  have e1 : x0 * (4294967296 * y1) = 4294967296 * (x0 * y1) := Int.mul_left_comm _ _ _
  have e2 : 4294967296 * x1 * (4294967296 * y1) = 18446744073709551616 * (x1 * y1) := by
    rw [Int.mul_assoc, Int.mul_left_comm x1]
    omega
  have e3 : 4294967296 * x1 * y0 = 4294967296 * (x1 * y0) := Int.mul_assoc _ _ _
  simp only [wide_Mul.V, Int.add_mul, Int.mul_add]
  rw [e1, e2, e3]
  omega
set_option maxHeartbeats 16000000 in
set_option maxRecDepth 100000 in
theorem wide_Mul.calls (a0 : Int) (a1 : Int) (r1 : Int) (r2 : Int) (w : World) (h : wide_Mul.f a0 a1 = some (r1, r2)) :
    Calls Try.prog 14 #[.int .u64 a0, .int .u64 a1] w fun e w' => e = .returned (.tuple #[.int .u64 r1, .int .u64 r2]) ∧ Below w.heap.size w w' := by
  have hb : 0 ≤ a0 ∧ a0 ≤ 18446744073709551615 ∧ 0 ≤ a1 ∧ a1 ≤ 18446744073709551615 ∧ a0 * a1 / 18446744073709551616 = r1 ∧ a0 * a1 % 18446744073709551616 = r2 := by
    unfold wide_Mul.f at h
    split at h
    · rename_i c
      have e := Prod.mk.inj (Option.some.inj h)
      exact ⟨c.1, c.2.1, c.2.2.1, c.2.2.2, e.1, e.2⟩
    · cases h
  have HA := Aside0.mk hb
  clear h hb
  go_enter Try.func14, Try.ntmps14
  go_wp2_with (first | (go_at_call 24; (with_reducible refine (wide_halves.calls a0 _ HA.out.1 HA.out.2.1).mono ?_); rintro e w' ⟨rfl, rfl⟩) | (go_at_call 24; (with_reducible refine (wide_halves.calls a1 _ HA.out.2.2.1 HA.out.2.2.2.1).mono ?_); rintro e w' ⟨rfl, rfl⟩))
  obtain ⟨x0, e0⟩ : ∃ x, a0 % 4294967296 = x := ⟨_, rfl⟩
  obtain ⟨x1, e1⟩ : ∃ x, a0 / 4294967296 = x := ⟨_, rfl⟩
  obtain ⟨y0, e2⟩ : ∃ x, a1 % 4294967296 = x := ⟨_, rfl⟩
  obtain ⟨y1, e3⟩ : ∃ x, a1 / 4294967296 = x := ⟨_, rfl⟩
  rw [e0, e1, e2, e3]
  have hx : 0 ≤ x0 ∧ x0 ≤ 4294967295 ∧ 0 ≤ x1 ∧ x1 ≤ 4294967295 ∧ 0 ≤ y0 ∧ y0 ≤ 4294967295 ∧ 0 ≤ y1 ∧ y1 ≤ 4294967295 ∧ a0 = x0 + 4294967296 * x1 ∧ a1 = y0 + 4294967296 * y1 := by
    have := HA.out
    omega
  have HX := Aside0.mk hx
  clear e0 e1 e2 e3 hx
  have hbel : Below w.heap.size w (((((w.alloc (Obj.cells #[Value.int IntKind.u64 x0, Value.int IntKind.u64 x1] 35)).alloc (Obj.cells #[Value.int IntKind.u64 y0, Value.int IntKind.u64 y1] 35)).alloc (Obj.cells #[Value.int IntKind.u64 x0, Value.int IntKind.u64 x1] 35)).alloc (Obj.cells #[Value.int IntKind.u64 y0, Value.int IntKind.u64 y1] 35)).alloc (Obj.cells #[Value.int IntKind.u64 0, Value.int IntKind.u64 0, Value.int IntKind.u64 0, Value.int IntKind.u64 0] 38)) := by
    repeat (first | exact Below.refl _ _ | apply below_alloc)
  obtain ⟨X, hX⟩ : ∃ X, w.heap.size + 1 + 1 = X := ⟨_, rfl⟩
  rw [hX]
  have hXw : w.heap.size ≤ X := by omega
  have hcx : (((((w.alloc (Obj.cells #[Value.int IntKind.u64 x0, Value.int IntKind.u64 x1] 35)).alloc (Obj.cells #[Value.int IntKind.u64 y0, Value.int IntKind.u64 y1] 35)).alloc (Obj.cells #[Value.int IntKind.u64 x0, Value.int IntKind.u64 x1] 35)).alloc (Obj.cells #[Value.int IntKind.u64 y0, Value.int IntKind.u64 y1] 35)).alloc (Obj.cells #[Value.int IntKind.u64 0, Value.int IntKind.u64 0, Value.int IntKind.u64 0, Value.int IntKind.u64 0] 38)).heap[X]? = some (Obj.cells #[Value.int IntKind.u64 x0, Value.int IntKind.u64 x1] 35 (0, 0)) := blk_alloc (blk_alloc (wide_halves.blk_at_new ((w.alloc _).alloc _) _ X (by simp; omega)) _) _
  have hcy : (((((w.alloc (Obj.cells #[Value.int IntKind.u64 x0, Value.int IntKind.u64 x1] 35)).alloc (Obj.cells #[Value.int IntKind.u64 y0, Value.int IntKind.u64 y1] 35)).alloc (Obj.cells #[Value.int IntKind.u64 x0, Value.int IntKind.u64 x1] 35)).alloc (Obj.cells #[Value.int IntKind.u64 y0, Value.int IntKind.u64 y1] 35)).alloc (Obj.cells #[Value.int IntKind.u64 0, Value.int IntKind.u64 0, Value.int IntKind.u64 0, Value.int IntKind.u64 0] 38)).heap[X + 1]? = some (Obj.cells #[Value.int IntKind.u64 y0, Value.int IntKind.u64 y1] 35 (0, 0)) := blk_alloc (wide_halves.blk_at_new (((w.alloc _).alloc _).alloc _) _ (X + 1) (by simp; omega)) _
  have hcz : (((((w.alloc (Obj.cells #[Value.int IntKind.u64 x0, Value.int IntKind.u64 x1] 35)).alloc (Obj.cells #[Value.int IntKind.u64 y0, Value.int IntKind.u64 y1] 35)).alloc (Obj.cells #[Value.int IntKind.u64 x0, Value.int IntKind.u64 x1] 35)).alloc (Obj.cells #[Value.int IntKind.u64 y0, Value.int IntKind.u64 y1] 35)).alloc (Obj.cells #[Value.int IntKind.u64 0, Value.int IntKind.u64 0, Value.int IntKind.u64 0, Value.int IntKind.u64 0] 38)).heap[X + 1 + 1]? = some (Obj.cells #[Value.int IntKind.u64 0, Value.int IntKind.u64 0, Value.int IntKind.u64 0, Value.int IntKind.u64 0] 38 (0, 0)) := wide_halves.blk_at_new ((((w.alloc _).alloc _).alloc _).alloc _) _ (X + 1 + 1) (by simp; omega)
  generalize (((((w.alloc (Obj.cells #[Value.int IntKind.u64 x0, Value.int IntKind.u64 x1] 35)).alloc (Obj.cells #[Value.int IntKind.u64 y0, Value.int IntKind.u64 y1] 35)).alloc (Obj.cells #[Value.int IntKind.u64 x0, Value.int IntKind.u64 x1] 35)).alloc (Obj.cells #[Value.int IntKind.u64 y0, Value.int IntKind.u64 y1] 35)).alloc (Obj.cells #[Value.int IntKind.u64 0, Value.int IntKind.u64 0, Value.int IntKind.u64 0, Value.int IntKind.u64 0] 38)) = w0 at hbel hcx hcy hcz ⊢
  have HXW := Aside0.mk hXw
  have HB := Aside0.mk hbel
  have HCX := Aside0.mk hcx
  have HCY := Aside0.mk hcy
  have HCZ := Aside0.mk hcz
  clear hbel hcx hcy hcz hX hXw
  go_loopg [17] 2 (fun g i wr => ∃ j : Nat, ∃ c s0 s1 s2 s3 : Int, (j = 0 ∧ c = 0 ∧ g = 2 ∨ j = 2 ∧ c = 1 ∧ g = 1 ∨ j = 4 ∧ c = 2 ∧ g = 0) ∧ i = .int .i64 c ∧ wide_Mul.St (wide_Mul.V x0 x1 y0 y1 j) j s0 s1 s2 s3 ∧ wr.heap[X]? = some (Obj.cells #[Value.int IntKind.u64 x0, Value.int IntKind.u64 x1] 35 (0, 0)) ∧ wr.heap[X + 1]? = some (Obj.cells #[Value.int IntKind.u64 y0, Value.int IntKind.u64 y1] 35 (0, 0)) ∧ wr.heap[X + 1 + 1]? = some (Obj.cells #[Value.int IntKind.u64 s0, Value.int IntKind.u64 s1, Value.int IntKind.u64 s2, Value.int IntKind.u64 s3] 38 (0, 0)) ∧ Below w.heap.size w wr)
  case atStart => exact ⟨0, 0, 0, 0, 0, 0, .inl ⟨rfl, rfl, rfl⟩, rfl, by unfold wide_Mul.St wide_Mul.V; simp, HCX.out, HCY.out, HCZ.out, HB.out⟩
  case round =>
    obtain ⟨j, c, s0, s1, s2, s3, hj, rfl, hst, hcx, hcy, hcz, hbel⟩ := hrel
    clear HB HCX HCY HCZ
    have HST := Aside0.mk hst
    have HB := Aside0.mk hbel
    have HCX := Aside0.mk hcx
    have HCY := Aside0.mk hcy
    have HCZ := Aside0.mk hcz
    clear hst hbel hcx hcy hcz
    obtain ⟨wo, rfl⟩ : ∃ wo : World, wo = wr := ⟨_, rfl⟩
    rcases hj with ⟨rfl, rfl, rfl⟩ | ⟨rfl, rfl, rfl⟩ | ⟨rfl, rfl, rfl⟩
    · go_wp2
      go_loopg [20] 2 (fun g q wr => ∃ j : Nat, ∃ c s0 s1 s2 s3 : Int, (j = 0 ∧ c = 0 ∧ g = 2 ∨ j = 1 ∧ c = 1 ∧ g = 1 ∨ j = 2 ∧ c = 2 ∧ g = 0) ∧ q = .int .i64 c ∧ wide_Mul.St (wide_Mul.V x0 x1 y0 y1 j) j s0 s1 s2 s3 ∧ wr.heap[X]? = some (Obj.cells #[Value.int IntKind.u64 x0, Value.int IntKind.u64 x1] 35 (0, 0)) ∧ wr.heap[X + 1]? = some (Obj.cells #[Value.int IntKind.u64 y0, Value.int IntKind.u64 y1] 35 (0, 0)) ∧ wr.heap[X + 1 + 1]? = some (Obj.cells #[Value.int IntKind.u64 s0, Value.int IntKind.u64 s1, Value.int IntKind.u64 s2, Value.int IntKind.u64 s3] 38 (0, 0)) ∧ Below w.heap.size w wr)
      case atStart => exact ⟨0, 0, s0, s1, s2, s3, .inl ⟨rfl, rfl, rfl⟩, rfl, HST.out, HCX.out, HCY.out, HCZ.out, HB.out⟩
      case round =>
        clear HB HCX HCY HCZ HST
        obtain ⟨j, c, s0, s1, s2, s3, hj, rfl, hst, hcx, hcy, hcz, hbel⟩ := hrel
        have HST := Aside0.mk hst
        have HB := Aside0.mk hbel
        have HCX := Aside0.mk hcx
        have HCY := Aside0.mk hcy
        have HCZ := Aside0.mk hcz
        clear hst hbel hcx hcy hcz
        rcases hj with ⟨rfl, rfl, rfl⟩ | ⟨rfl, rfl, rfl⟩ | ⟨rfl, rfl, rfl⟩
        · obtain ⟨p, hp⟩ : ∃ p, x0 * y0 = p := ⟨_, rfl⟩
          have hpb : 0 ≤ p ∧ p ≤ 18446744073709551615 := by
            have := HX.out
            rw [← hp]
            exact wide_halves.prod_bd _ _ (by omega) (by omega) (by omega) (by omega)
          have hw : IntKind.u64.wrap (x0 * y0) = p := by rw [IntKind.wrap_u64, hp]; omega
          have HP := Aside0.mk hp
          have HPB := Aside0.mk hpb
          clear hp hpb
          have cx := (blk_cell HCX.out 0).trans (show _ = some (Value.int IntKind.u64 x0) from rfl)
          have cy := (blk_cell HCY.out 0).trans (show _ = some (Value.int IntKind.u64 y0) from rfl)
          have hx1 : X < wr.heap.size := blk_lt HCX.out
          have hy1 : X + 1 < wr.heap.size := blk_lt HCY.out
          have hz1 : X + 1 + 1 < wr.heap.size := blk_lt HCZ.out
          have cx0 : ∀ o, (wr.alloc o).cell? ⟨X, 0, none⟩ = some (Value.int IntKind.u64 x0) := fun o => (blk_cell (blk_alloc HCX.out o) 0).trans rfl
          have cy0 : ∀ o, (wr.alloc o).cell? ⟨X + 1, 0, none⟩ = some (Value.int IntKind.u64 y0) := fun o => (blk_cell (blk_alloc HCY.out o) 0).trans rfl
          go_upto_region 9 with fail
          go_cut [11] (fun s11 wx => ∃ P : Nat, s11 = .pointer (some ⟨P, 0, none⟩) ∧ w.heap.size ≤ P ∧ wx.heap[P]? = some (Obj.cells #[Value.int IntKind.u64 (p % 4294967296), Value.int IntKind.u64 (p / 4294967296)] 35 (0, 0)) ∧ wx.heap[X]? = some (Obj.cells #[Value.int IntKind.u64 x0, Value.int IntKind.u64 x1] 35 (0, 0)) ∧ wx.heap[X + 1]? = some (Obj.cells #[Value.int IntKind.u64 y0, Value.int IntKind.u64 y1] 35 (0, 0)) ∧ wx.heap[X + 1 + 1]? = some (Obj.cells #[Value.int IntKind.u64 s0, Value.int IntKind.u64 s1, Value.int IntKind.u64 s2, Value.int IntKind.u64 s3] 38 (0, 0)) ∧ Below w.heap.size w wx)
          case first =>
            go_region_held3 (fun w' => w'.cell? ⟨X, 0, none⟩ = some (Value.int IntKind.u64 x0) ∧ w'.cell? ⟨X + 1, 0, none⟩ = some (Value.int IntKind.u64 y0)) (go_keep) (first | (go_at_call 24; (with_reducible refine (wide_halves.calls p _ HPB.out.1 HPB.out.2).mono ?_); rintro e w' ⟨rfl, rfl⟩))
            all_goals (go_wp2_with fail; go_meet)
            all_goals (case rel => first | exact ⟨wr.heap.size + 1, rfl, by have q1 := blk_lt HCX.out; have q2 := HXW.out; omega, blk_drew (wide_halves.blk_at_new (wr.alloc _) _ _ (by simp)), blk_drew (blk_alloc (blk_alloc HCX.out _) _), blk_drew (blk_alloc (blk_alloc HCY.out _) _), blk_drew (blk_alloc (blk_alloc HCZ.out _) _), below_drew (below_alloc (below_alloc HB.out _) _)⟩ | exact ⟨wr.heap.size, rfl, by have q1 := blk_lt HCX.out; have q2 := HXW.out; omega, blk_drew (blk_alloc (blk_new wr _) _), blk_drew (blk_alloc (blk_alloc HCX.out _) _), blk_drew (blk_alloc (blk_alloc HCY.out _) _), blk_drew (blk_alloc (blk_alloc HCZ.out _) _), below_drew (below_alloc (below_alloc HB.out _) _)⟩)
          case rest =>
            obtain ⟨P, rfl, hPw, hp, hcx, hcy, hcz, hbel⟩ := hcut
            clear cx cy hx1 hy1 hz1 cx0 cy0 hw
            obtain ⟨wb, rfl⟩ : ∃ wb : World, wb = wc := ⟨_, rfl⟩
            obtain ⟨pl, e1⟩ : ∃ x, p % 4294967296 = x := ⟨_, rfl⟩
            obtain ⟨ph, e2⟩ : ∃ x, p / 4294967296 = x := ⟨_, rfl⟩
            rw [e1, e2] at hp
            have hq : 0 ≤ pl ∧ pl ≤ 4294967295 ∧ 0 ≤ ph ∧ ph ≤ 4294967295 ∧ p = pl + 4294967296 * ph := by
              have := HPB.out
              omega
            have HQ := Aside0.mk hq
            clear e1 e2 hq
            have cz := (blk_cell hcz 0).trans (show _ = some (Value.int IntKind.u64 s0) from rfl)
            have cz2 := (blk_cell hcz 1).trans (show _ = some (Value.int IntKind.u64 s1) from rfl)
            have cp := (blk_cell hp 0).trans (show _ = some (Value.int IntKind.u64 pl) from rfl)
            have cp2 := (blk_cell hp 1).trans (show _ = some (Value.int IntKind.u64 ph) from rfl)
            have fz := blk_frozen hcz 0
            have fz2 := blk_frozen hcz 1
            have w1 : IntKind.u64.wrap (s0 + pl) = s0 + pl := by
              have h1 := HST.out
              have h2 := HQ.out
              unfold wide_Mul.St at h1
              rw [IntKind.wrap_u64]
              omega
            have w2 : IntKind.u64.wrap (s1 + ph) = s1 + ph := by
              have h1 := HST.out
              have h2 := HQ.out
              unfold wide_Mul.St at h1
              rw [IntKind.wrap_u64]
              omega
            have hpz : P ≠ X + 1 + 1 := beq_eq_false_iff_ne.mp (wide_halves.blk_ne2 hp hcz (by decide))
            have cpS : ∀ v, (wb.setCell ⟨X + 1 + 1, 0, none⟩ v).cell? ⟨P, 1, none⟩ = some (Value.int IntKind.u64 ph) := fun v => (blk_cell (blk_far hp hpz v) 1).trans rfl
            have HCP := Aside0.mk hp
            have HCX := Aside0.mk hcx
            have HCY := Aside0.mk hcy
            have HCZ := Aside0.mk hcz
            have HB := Aside0.mk hbel
            have HPW := Aside0.mk hPw
            clear hp hcx hcy hcz hbel hPw
            go_wp2_with fail
            go_region
            go_wp2_with fail
            go_region
            go_wp2
            go_roundg 1
            case measure => omega
            case rel => exact ⟨1, 1, (s0 + pl), (s1 + ph), s2, s3, .inr (.inl ⟨rfl, rfl, rfl⟩), by first | rfl | go_num, by (have h1 := HST.out; have h2 := HQ.out; have h3 := HP.out; unfold wide_Mul.St at h1 ⊢; simp only [wide_Mul.V] at h1 ⊢; omega), blk_drew (blk_drew (blk_far (blk_far HCX.out (by simp; try omega) _) (by simp; try omega) _)), blk_drew (blk_drew (blk_far (blk_far HCY.out (by simp; try omega) _) (by simp; try omega) _)), blk_drew (blk_drew (blk_put (blk_put HCZ.out 0 _ rfl) 1 _ rfl)), below_drew (below_drew ((HB.out.setCell (by have q := HXW.out; simp; omega) _).setCell (by have q := HXW.out; simp; omega) _))⟩
        · obtain ⟨p, hp⟩ : ∃ p, x0 * y1 = p := ⟨_, rfl⟩
          have hpb : 0 ≤ p ∧ p ≤ 18446744073709551615 := by
            have := HX.out
            rw [← hp]
            exact wide_halves.prod_bd _ _ (by omega) (by omega) (by omega) (by omega)
          have hw : IntKind.u64.wrap (x0 * y1) = p := by rw [IntKind.wrap_u64, hp]; omega
          have HP := Aside0.mk hp
          have HPB := Aside0.mk hpb
          clear hp hpb
          have cx := (blk_cell HCX.out 0).trans (show _ = some (Value.int IntKind.u64 x0) from rfl)
          have cy := (blk_cell HCY.out 1).trans (show _ = some (Value.int IntKind.u64 y1) from rfl)
          have hx1 : X < wr.heap.size := blk_lt HCX.out
          have hy1 : X + 1 < wr.heap.size := blk_lt HCY.out
          have hz1 : X + 1 + 1 < wr.heap.size := blk_lt HCZ.out
          have cx0 : ∀ o, (wr.alloc o).cell? ⟨X, 0, none⟩ = some (Value.int IntKind.u64 x0) := fun o => (blk_cell (blk_alloc HCX.out o) 0).trans rfl
          have cy0 : ∀ o, (wr.alloc o).cell? ⟨X + 1, 1, none⟩ = some (Value.int IntKind.u64 y1) := fun o => (blk_cell (blk_alloc HCY.out o) 1).trans rfl
          go_upto_region 9 with fail
          go_cut [11] (fun s11 wx => ∃ P : Nat, s11 = .pointer (some ⟨P, 0, none⟩) ∧ w.heap.size ≤ P ∧ wx.heap[P]? = some (Obj.cells #[Value.int IntKind.u64 (p % 4294967296), Value.int IntKind.u64 (p / 4294967296)] 35 (0, 0)) ∧ wx.heap[X]? = some (Obj.cells #[Value.int IntKind.u64 x0, Value.int IntKind.u64 x1] 35 (0, 0)) ∧ wx.heap[X + 1]? = some (Obj.cells #[Value.int IntKind.u64 y0, Value.int IntKind.u64 y1] 35 (0, 0)) ∧ wx.heap[X + 1 + 1]? = some (Obj.cells #[Value.int IntKind.u64 s0, Value.int IntKind.u64 s1, Value.int IntKind.u64 s2, Value.int IntKind.u64 s3] 38 (0, 0)) ∧ Below w.heap.size w wx)
          case first =>
            go_region_held3 (fun w' => w'.cell? ⟨X, 0, none⟩ = some (Value.int IntKind.u64 x0) ∧ w'.cell? ⟨X + 1, 1, none⟩ = some (Value.int IntKind.u64 y1)) (go_keep) (first | (go_at_call 24; (with_reducible refine (wide_halves.calls p _ HPB.out.1 HPB.out.2).mono ?_); rintro e w' ⟨rfl, rfl⟩))
            all_goals (go_wp2_with fail; go_meet)
            all_goals (case rel => first | exact ⟨wr.heap.size + 1, rfl, by have q1 := blk_lt HCX.out; have q2 := HXW.out; omega, blk_drew (wide_halves.blk_at_new (wr.alloc _) _ _ (by simp)), blk_drew (blk_alloc (blk_alloc HCX.out _) _), blk_drew (blk_alloc (blk_alloc HCY.out _) _), blk_drew (blk_alloc (blk_alloc HCZ.out _) _), below_drew (below_alloc (below_alloc HB.out _) _)⟩ | exact ⟨wr.heap.size, rfl, by have q1 := blk_lt HCX.out; have q2 := HXW.out; omega, blk_drew (blk_alloc (blk_new wr _) _), blk_drew (blk_alloc (blk_alloc HCX.out _) _), blk_drew (blk_alloc (blk_alloc HCY.out _) _), blk_drew (blk_alloc (blk_alloc HCZ.out _) _), below_drew (below_alloc (below_alloc HB.out _) _)⟩)
          case rest =>
            obtain ⟨P, rfl, hPw, hp, hcx, hcy, hcz, hbel⟩ := hcut
            clear cx cy hx1 hy1 hz1 cx0 cy0 hw
            obtain ⟨wb, rfl⟩ : ∃ wb : World, wb = wc := ⟨_, rfl⟩
            obtain ⟨pl, e1⟩ : ∃ x, p % 4294967296 = x := ⟨_, rfl⟩
            obtain ⟨ph, e2⟩ : ∃ x, p / 4294967296 = x := ⟨_, rfl⟩
            rw [e1, e2] at hp
            have hq : 0 ≤ pl ∧ pl ≤ 4294967295 ∧ 0 ≤ ph ∧ ph ≤ 4294967295 ∧ p = pl + 4294967296 * ph := by
              have := HPB.out
              omega
            have HQ := Aside0.mk hq
            clear e1 e2 hq
            have cz := (blk_cell hcz 1).trans (show _ = some (Value.int IntKind.u64 s1) from rfl)
            have cz2 := (blk_cell hcz 2).trans (show _ = some (Value.int IntKind.u64 s2) from rfl)
            have cp := (blk_cell hp 0).trans (show _ = some (Value.int IntKind.u64 pl) from rfl)
            have cp2 := (blk_cell hp 1).trans (show _ = some (Value.int IntKind.u64 ph) from rfl)
            have fz := blk_frozen hcz 1
            have fz2 := blk_frozen hcz 2
            have w1 : IntKind.u64.wrap (s1 + pl) = s1 + pl := by
              have h1 := HST.out
              have h2 := HQ.out
              unfold wide_Mul.St at h1
              rw [IntKind.wrap_u64]
              omega
            have w2 : IntKind.u64.wrap (s2 + ph) = s2 + ph := by
              have h1 := HST.out
              have h2 := HQ.out
              unfold wide_Mul.St at h1
              rw [IntKind.wrap_u64]
              omega
            have hpz : P ≠ X + 1 + 1 := beq_eq_false_iff_ne.mp (wide_halves.blk_ne2 hp hcz (by decide))
            have cpS : ∀ v, (wb.setCell ⟨X + 1 + 1, 1, none⟩ v).cell? ⟨P, 1, none⟩ = some (Value.int IntKind.u64 ph) := fun v => (blk_cell (blk_far hp hpz v) 1).trans rfl
            have HCP := Aside0.mk hp
            have HCX := Aside0.mk hcx
            have HCY := Aside0.mk hcy
            have HCZ := Aside0.mk hcz
            have HB := Aside0.mk hbel
            have HPW := Aside0.mk hPw
            clear hp hcx hcy hcz hbel hPw
            go_wp2_with fail
            go_region
            go_wp2_with fail
            go_region
            go_wp2
            go_roundg 0
            case measure => omega
            case rel => exact ⟨2, 2, s0, (s1 + pl), (s2 + ph), s3, .inr (.inr ⟨rfl, rfl, rfl⟩), by first | rfl | go_num, by (have h1 := HST.out; have h2 := HQ.out; have h3 := HP.out; unfold wide_Mul.St at h1 ⊢; simp only [wide_Mul.V] at h1 ⊢; omega), blk_drew (blk_drew (blk_far (blk_far HCX.out (by simp; try omega) _) (by simp; try omega) _)), blk_drew (blk_drew (blk_far (blk_far HCY.out (by simp; try omega) _) (by simp; try omega) _)), blk_drew (blk_drew (blk_put (blk_put HCZ.out 1 _ rfl) 2 _ rfl)), below_drew (below_drew ((HB.out.setCell (by have q := HXW.out; simp; omega) _).setCell (by have q := HXW.out; simp; omega) _))⟩
        · go_wp2
          go_roundg 1
          case measure => omega
          case rel => exact ⟨2, 1, s0, s1, s2, s3, .inr (.inl ⟨rfl, rfl, rfl⟩), by first | rfl | go_num, HST.out, HCX.out, HCY.out, HCZ.out, HB.out⟩
    · go_wp2
      go_loopg [20] 2 (fun g q wr => ∃ j : Nat, ∃ c s0 s1 s2 s3 : Int, (j = 2 ∧ c = 0 ∧ g = 2 ∨ j = 3 ∧ c = 1 ∧ g = 1 ∨ j = 4 ∧ c = 2 ∧ g = 0) ∧ q = .int .i64 c ∧ wide_Mul.St (wide_Mul.V x0 x1 y0 y1 j) j s0 s1 s2 s3 ∧ wr.heap[X]? = some (Obj.cells #[Value.int IntKind.u64 x0, Value.int IntKind.u64 x1] 35 (0, 0)) ∧ wr.heap[X + 1]? = some (Obj.cells #[Value.int IntKind.u64 y0, Value.int IntKind.u64 y1] 35 (0, 0)) ∧ wr.heap[X + 1 + 1]? = some (Obj.cells #[Value.int IntKind.u64 s0, Value.int IntKind.u64 s1, Value.int IntKind.u64 s2, Value.int IntKind.u64 s3] 38 (0, 0)) ∧ Below w.heap.size w wr)
      case atStart => exact ⟨2, 0, s0, s1, s2, s3, .inl ⟨rfl, rfl, rfl⟩, rfl, HST.out, HCX.out, HCY.out, HCZ.out, HB.out⟩
      case round =>
        clear HB HCX HCY HCZ HST
        obtain ⟨j, c, s0, s1, s2, s3, hj, rfl, hst, hcx, hcy, hcz, hbel⟩ := hrel
        have HST := Aside0.mk hst
        have HB := Aside0.mk hbel
        have HCX := Aside0.mk hcx
        have HCY := Aside0.mk hcy
        have HCZ := Aside0.mk hcz
        clear hst hbel hcx hcy hcz
        rcases hj with ⟨rfl, rfl, rfl⟩ | ⟨rfl, rfl, rfl⟩ | ⟨rfl, rfl, rfl⟩
        · obtain ⟨p, hp⟩ : ∃ p, x1 * y0 = p := ⟨_, rfl⟩
          have hpb : 0 ≤ p ∧ p ≤ 18446744073709551615 := by
            have := HX.out
            rw [← hp]
            exact wide_halves.prod_bd _ _ (by omega) (by omega) (by omega) (by omega)
          have hw : IntKind.u64.wrap (x1 * y0) = p := by rw [IntKind.wrap_u64, hp]; omega
          have HP := Aside0.mk hp
          have HPB := Aside0.mk hpb
          clear hp hpb
          have cx := (blk_cell HCX.out 1).trans (show _ = some (Value.int IntKind.u64 x1) from rfl)
          have cy := (blk_cell HCY.out 0).trans (show _ = some (Value.int IntKind.u64 y0) from rfl)
          have hx1 : X < wr.heap.size := blk_lt HCX.out
          have hy1 : X + 1 < wr.heap.size := blk_lt HCY.out
          have hz1 : X + 1 + 1 < wr.heap.size := blk_lt HCZ.out
          have cx0 : ∀ o, (wr.alloc o).cell? ⟨X, 1, none⟩ = some (Value.int IntKind.u64 x1) := fun o => (blk_cell (blk_alloc HCX.out o) 1).trans rfl
          have cy0 : ∀ o, (wr.alloc o).cell? ⟨X + 1, 0, none⟩ = some (Value.int IntKind.u64 y0) := fun o => (blk_cell (blk_alloc HCY.out o) 0).trans rfl
          go_upto_region 9 with fail
          go_cut [11] (fun s11 wx => ∃ P : Nat, s11 = .pointer (some ⟨P, 0, none⟩) ∧ w.heap.size ≤ P ∧ wx.heap[P]? = some (Obj.cells #[Value.int IntKind.u64 (p % 4294967296), Value.int IntKind.u64 (p / 4294967296)] 35 (0, 0)) ∧ wx.heap[X]? = some (Obj.cells #[Value.int IntKind.u64 x0, Value.int IntKind.u64 x1] 35 (0, 0)) ∧ wx.heap[X + 1]? = some (Obj.cells #[Value.int IntKind.u64 y0, Value.int IntKind.u64 y1] 35 (0, 0)) ∧ wx.heap[X + 1 + 1]? = some (Obj.cells #[Value.int IntKind.u64 s0, Value.int IntKind.u64 s1, Value.int IntKind.u64 s2, Value.int IntKind.u64 s3] 38 (0, 0)) ∧ Below w.heap.size w wx)
          case first =>
            go_region_held3 (fun w' => w'.cell? ⟨X, 1, none⟩ = some (Value.int IntKind.u64 x1) ∧ w'.cell? ⟨X + 1, 0, none⟩ = some (Value.int IntKind.u64 y0)) (go_keep) (first | (go_at_call 24; (with_reducible refine (wide_halves.calls p _ HPB.out.1 HPB.out.2).mono ?_); rintro e w' ⟨rfl, rfl⟩))
            all_goals (go_wp2_with fail; go_meet)
            all_goals (case rel => first | exact ⟨wr.heap.size + 1, rfl, by have q1 := blk_lt HCX.out; have q2 := HXW.out; omega, blk_drew (wide_halves.blk_at_new (wr.alloc _) _ _ (by simp)), blk_drew (blk_alloc (blk_alloc HCX.out _) _), blk_drew (blk_alloc (blk_alloc HCY.out _) _), blk_drew (blk_alloc (blk_alloc HCZ.out _) _), below_drew (below_alloc (below_alloc HB.out _) _)⟩ | exact ⟨wr.heap.size, rfl, by have q1 := blk_lt HCX.out; have q2 := HXW.out; omega, blk_drew (blk_alloc (blk_new wr _) _), blk_drew (blk_alloc (blk_alloc HCX.out _) _), blk_drew (blk_alloc (blk_alloc HCY.out _) _), blk_drew (blk_alloc (blk_alloc HCZ.out _) _), below_drew (below_alloc (below_alloc HB.out _) _)⟩)
          case rest =>
            obtain ⟨P, rfl, hPw, hp, hcx, hcy, hcz, hbel⟩ := hcut
            clear cx cy hx1 hy1 hz1 cx0 cy0 hw
            obtain ⟨wb, rfl⟩ : ∃ wb : World, wb = wc := ⟨_, rfl⟩
            obtain ⟨pl, e1⟩ : ∃ x, p % 4294967296 = x := ⟨_, rfl⟩
            obtain ⟨ph, e2⟩ : ∃ x, p / 4294967296 = x := ⟨_, rfl⟩
            rw [e1, e2] at hp
            have hq : 0 ≤ pl ∧ pl ≤ 4294967295 ∧ 0 ≤ ph ∧ ph ≤ 4294967295 ∧ p = pl + 4294967296 * ph := by
              have := HPB.out
              omega
            have HQ := Aside0.mk hq
            clear e1 e2 hq
            have cz := (blk_cell hcz 1).trans (show _ = some (Value.int IntKind.u64 s1) from rfl)
            have cz2 := (blk_cell hcz 2).trans (show _ = some (Value.int IntKind.u64 s2) from rfl)
            have cp := (blk_cell hp 0).trans (show _ = some (Value.int IntKind.u64 pl) from rfl)
            have cp2 := (blk_cell hp 1).trans (show _ = some (Value.int IntKind.u64 ph) from rfl)
            have fz := blk_frozen hcz 1
            have fz2 := blk_frozen hcz 2
            have w1 : IntKind.u64.wrap (s1 + pl) = s1 + pl := by
              have h1 := HST.out
              have h2 := HQ.out
              unfold wide_Mul.St at h1
              rw [IntKind.wrap_u64]
              omega
            have w2 : IntKind.u64.wrap (s2 + ph) = s2 + ph := by
              have h1 := HST.out
              have h2 := HQ.out
              unfold wide_Mul.St at h1
              rw [IntKind.wrap_u64]
              omega
            have hpz : P ≠ X + 1 + 1 := beq_eq_false_iff_ne.mp (wide_halves.blk_ne2 hp hcz (by decide))
            have cpS : ∀ v, (wb.setCell ⟨X + 1 + 1, 1, none⟩ v).cell? ⟨P, 1, none⟩ = some (Value.int IntKind.u64 ph) := fun v => (blk_cell (blk_far hp hpz v) 1).trans rfl
            have HCP := Aside0.mk hp
            have HCX := Aside0.mk hcx
            have HCY := Aside0.mk hcy
            have HCZ := Aside0.mk hcz
            have HB := Aside0.mk hbel
            have HPW := Aside0.mk hPw
            clear hp hcx hcy hcz hbel hPw
            go_wp2_with fail
            go_region
            go_wp2_with fail
            go_region
            go_wp2
            go_roundg 1
            case measure => omega
            case rel => exact ⟨3, 1, s0, (s1 + pl), (s2 + ph), s3, .inr (.inl ⟨rfl, rfl, rfl⟩), by first | rfl | go_num, by (have h1 := HST.out; have h2 := HQ.out; have h3 := HP.out; unfold wide_Mul.St at h1 ⊢; simp only [wide_Mul.V] at h1 ⊢; omega), blk_drew (blk_drew (blk_far (blk_far HCX.out (by simp; try omega) _) (by simp; try omega) _)), blk_drew (blk_drew (blk_far (blk_far HCY.out (by simp; try omega) _) (by simp; try omega) _)), blk_drew (blk_drew (blk_put (blk_put HCZ.out 1 _ rfl) 2 _ rfl)), below_drew (below_drew ((HB.out.setCell (by have q := HXW.out; simp; omega) _).setCell (by have q := HXW.out; simp; omega) _))⟩
        · obtain ⟨p, hp⟩ : ∃ p, x1 * y1 = p := ⟨_, rfl⟩
          have hpb : 0 ≤ p ∧ p ≤ 18446744073709551615 := by
            have := HX.out
            rw [← hp]
            exact wide_halves.prod_bd _ _ (by omega) (by omega) (by omega) (by omega)
          have hw : IntKind.u64.wrap (x1 * y1) = p := by rw [IntKind.wrap_u64, hp]; omega
          have HP := Aside0.mk hp
          have HPB := Aside0.mk hpb
          clear hp hpb
          have cx := (blk_cell HCX.out 1).trans (show _ = some (Value.int IntKind.u64 x1) from rfl)
          have cy := (blk_cell HCY.out 1).trans (show _ = some (Value.int IntKind.u64 y1) from rfl)
          have hx1 : X < wr.heap.size := blk_lt HCX.out
          have hy1 : X + 1 < wr.heap.size := blk_lt HCY.out
          have hz1 : X + 1 + 1 < wr.heap.size := blk_lt HCZ.out
          have cx0 : ∀ o, (wr.alloc o).cell? ⟨X, 1, none⟩ = some (Value.int IntKind.u64 x1) := fun o => (blk_cell (blk_alloc HCX.out o) 1).trans rfl
          have cy0 : ∀ o, (wr.alloc o).cell? ⟨X + 1, 1, none⟩ = some (Value.int IntKind.u64 y1) := fun o => (blk_cell (blk_alloc HCY.out o) 1).trans rfl
          go_upto_region 9 with fail
          go_cut [11] (fun s11 wx => ∃ P : Nat, s11 = .pointer (some ⟨P, 0, none⟩) ∧ w.heap.size ≤ P ∧ wx.heap[P]? = some (Obj.cells #[Value.int IntKind.u64 (p % 4294967296), Value.int IntKind.u64 (p / 4294967296)] 35 (0, 0)) ∧ wx.heap[X]? = some (Obj.cells #[Value.int IntKind.u64 x0, Value.int IntKind.u64 x1] 35 (0, 0)) ∧ wx.heap[X + 1]? = some (Obj.cells #[Value.int IntKind.u64 y0, Value.int IntKind.u64 y1] 35 (0, 0)) ∧ wx.heap[X + 1 + 1]? = some (Obj.cells #[Value.int IntKind.u64 s0, Value.int IntKind.u64 s1, Value.int IntKind.u64 s2, Value.int IntKind.u64 s3] 38 (0, 0)) ∧ Below w.heap.size w wx)
          case first =>
            go_region_held3 (fun w' => w'.cell? ⟨X, 1, none⟩ = some (Value.int IntKind.u64 x1) ∧ w'.cell? ⟨X + 1, 1, none⟩ = some (Value.int IntKind.u64 y1)) (go_keep) (first | (go_at_call 24; (with_reducible refine (wide_halves.calls p _ HPB.out.1 HPB.out.2).mono ?_); rintro e w' ⟨rfl, rfl⟩))
            all_goals (go_wp2_with fail; go_meet)
            all_goals (case rel => first | exact ⟨wr.heap.size + 1, rfl, by have q1 := blk_lt HCX.out; have q2 := HXW.out; omega, blk_drew (wide_halves.blk_at_new (wr.alloc _) _ _ (by simp)), blk_drew (blk_alloc (blk_alloc HCX.out _) _), blk_drew (blk_alloc (blk_alloc HCY.out _) _), blk_drew (blk_alloc (blk_alloc HCZ.out _) _), below_drew (below_alloc (below_alloc HB.out _) _)⟩ | exact ⟨wr.heap.size, rfl, by have q1 := blk_lt HCX.out; have q2 := HXW.out; omega, blk_drew (blk_alloc (blk_new wr _) _), blk_drew (blk_alloc (blk_alloc HCX.out _) _), blk_drew (blk_alloc (blk_alloc HCY.out _) _), blk_drew (blk_alloc (blk_alloc HCZ.out _) _), below_drew (below_alloc (below_alloc HB.out _) _)⟩)
          case rest =>
            obtain ⟨P, rfl, hPw, hp, hcx, hcy, hcz, hbel⟩ := hcut
            clear cx cy hx1 hy1 hz1 cx0 cy0 hw
            obtain ⟨wb, rfl⟩ : ∃ wb : World, wb = wc := ⟨_, rfl⟩
            obtain ⟨pl, e1⟩ : ∃ x, p % 4294967296 = x := ⟨_, rfl⟩
            obtain ⟨ph, e2⟩ : ∃ x, p / 4294967296 = x := ⟨_, rfl⟩
            rw [e1, e2] at hp
            have hq : 0 ≤ pl ∧ pl ≤ 4294967295 ∧ 0 ≤ ph ∧ ph ≤ 4294967295 ∧ p = pl + 4294967296 * ph := by
              have := HPB.out
              omega
            have HQ := Aside0.mk hq
            clear e1 e2 hq
            have cz := (blk_cell hcz 2).trans (show _ = some (Value.int IntKind.u64 s2) from rfl)
            have cz2 := (blk_cell hcz 3).trans (show _ = some (Value.int IntKind.u64 s3) from rfl)
            have cp := (blk_cell hp 0).trans (show _ = some (Value.int IntKind.u64 pl) from rfl)
            have cp2 := (blk_cell hp 1).trans (show _ = some (Value.int IntKind.u64 ph) from rfl)
            have fz := blk_frozen hcz 2
            have fz2 := blk_frozen hcz 3
            have w1 : IntKind.u64.wrap (s2 + pl) = s2 + pl := by
              have h1 := HST.out
              have h2 := HQ.out
              unfold wide_Mul.St at h1
              rw [IntKind.wrap_u64]
              omega
            have w2 : IntKind.u64.wrap (s3 + ph) = s3 + ph := by
              have h1 := HST.out
              have h2 := HQ.out
              unfold wide_Mul.St at h1
              rw [IntKind.wrap_u64]
              omega
            have hpz : P ≠ X + 1 + 1 := beq_eq_false_iff_ne.mp (wide_halves.blk_ne2 hp hcz (by decide))
            have cpS : ∀ v, (wb.setCell ⟨X + 1 + 1, 2, none⟩ v).cell? ⟨P, 1, none⟩ = some (Value.int IntKind.u64 ph) := fun v => (blk_cell (blk_far hp hpz v) 1).trans rfl
            have HCP := Aside0.mk hp
            have HCX := Aside0.mk hcx
            have HCY := Aside0.mk hcy
            have HCZ := Aside0.mk hcz
            have HB := Aside0.mk hbel
            have HPW := Aside0.mk hPw
            clear hp hcx hcy hcz hbel hPw
            go_wp2_with fail
            go_region
            go_wp2_with fail
            go_region
            go_wp2
            go_roundg 0
            case measure => omega
            case rel => exact ⟨4, 2, s0, s1, (s2 + pl), (s3 + ph), .inr (.inr ⟨rfl, rfl, rfl⟩), by first | rfl | go_num, by (have h1 := HST.out; have h2 := HQ.out; have h3 := HP.out; unfold wide_Mul.St at h1 ⊢; simp only [wide_Mul.V] at h1 ⊢; omega), blk_drew (blk_drew (blk_far (blk_far HCX.out (by simp; try omega) _) (by simp; try omega) _)), blk_drew (blk_drew (blk_far (blk_far HCY.out (by simp; try omega) _) (by simp; try omega) _)), blk_drew (blk_drew (blk_put (blk_put HCZ.out 2 _ rfl) 3 _ rfl)), below_drew (below_drew ((HB.out.setCell (by have q := HXW.out; simp; omega) _).setCell (by have q := HXW.out; simp; omega) _))⟩
        · go_wp2
          go_roundg 0
          case measure => omega
          case rel => exact ⟨4, 2, s0, s1, s2, s3, .inr (.inr ⟨rfl, rfl, rfl⟩), by first | rfl | go_num, HST.out, HCX.out, HCY.out, HCZ.out, HB.out⟩
    · go_wp2
      have hst := HST.out
      have hcr : wide_Mul.Cr (wide_Mul.V x0 x1 y0 y1 4) 0 s0 s1 s2 s3 := by
        unfold wide_Mul.St at hst
        unfold wide_Mul.Cr
        omega
      have HCR := Aside0.mk hcr
      clear hst hcr HST HCX HCY
      go_loopg [52] 3 (fun g q wr => ∃ c s0 s1 s2 s3 : Int, (c = 0 ∧ g = 3 ∨ c = 1 ∧ g = 2 ∨ c = 2 ∧ g = 1 ∨ c = 3 ∧ g = 0) ∧ q = .int .i64 c ∧ wide_Mul.Cr (wide_Mul.V x0 x1 y0 y1 4) c s0 s1 s2 s3 ∧ wr.heap[X + 1 + 1]? = some (Obj.cells #[Value.int IntKind.u64 s0, Value.int IntKind.u64 s1, Value.int IntKind.u64 s2, Value.int IntKind.u64 s3] 38 (0, 0)) ∧ Below w.heap.size w wr)
      case atStart => exact ⟨0, s0, s1, s2, s3, .inl ⟨rfl, rfl⟩, rfl, HCR.out, HCZ.out, HB.out⟩
      case round =>
        clear HB HCZ HCR
        obtain ⟨c, s0, s1, s2, s3, hj, rfl, hst, hcz, hbel⟩ := hrel
        have HST := Aside0.mk hst
        have HB := Aside0.mk hbel
        have HCZ := Aside0.mk hcz
        clear hst hbel hcz
        rcases hj with ⟨rfl, rfl⟩ | ⟨rfl, rfl⟩ | ⟨rfl, rfl⟩ | ⟨rfl, rfl⟩
        · have cz := (blk_cell HCZ.out 0).trans (show _ = some (Value.int IntKind.u64 s0) from rfl)
          have cz2 := (blk_cell HCZ.out 1).trans (show _ = some (Value.int IntKind.u64 s1) from rfl)
          have fz := blk_frozen HCZ.out 0
          have fz2 := blk_frozen HCZ.out 1
          have w1 : IntKind.u64.wrap (s1 + s0 / 4294967296) = s1 + s0 / 4294967296 := by
            have h1 := HST.out
            unfold wide_Mul.Cr at h1
            rw [IntKind.wrap_u64]
            omega
          have w2 : Go.bits .and .u64 s0 4294967295 = s0 % 4294967296 := by
            have h1 := HST.out
            unfold wide_Mul.Cr at h1
            exact wide_halves.and_ _ (by omega) (by omega)
          go_wp2_with fail
          go_region
          go_wp2
          go_roundg 2
          case measure => omega
          case rel => exact ⟨1, (s0 % 4294967296), (s1 + s0 / 4294967296), s2, s3, .inr (.inl ⟨rfl, rfl⟩), by first | rfl | go_num, by (have h1 := HST.out; unfold wide_Mul.Cr at h1 ⊢; omega), blk_drew (blk_put (blk_put HCZ.out 1 _ rfl) 0 _ rfl), below_drew ((HB.out.setCell (by have q := HXW.out; simp; omega) _).setCell (by have q := HXW.out; simp; omega) _)⟩
        · have cz := (blk_cell HCZ.out 1).trans (show _ = some (Value.int IntKind.u64 s1) from rfl)
          have cz2 := (blk_cell HCZ.out 2).trans (show _ = some (Value.int IntKind.u64 s2) from rfl)
          have fz := blk_frozen HCZ.out 1
          have fz2 := blk_frozen HCZ.out 2
          have w1 : IntKind.u64.wrap (s2 + s1 / 4294967296) = s2 + s1 / 4294967296 := by
            have h1 := HST.out
            unfold wide_Mul.Cr at h1
            rw [IntKind.wrap_u64]
            omega
          have w2 : Go.bits .and .u64 s1 4294967295 = s1 % 4294967296 := by
            have h1 := HST.out
            unfold wide_Mul.Cr at h1
            exact wide_halves.and_ _ (by omega) (by omega)
          go_wp2_with fail
          go_region
          go_wp2
          go_roundg 1
          case measure => omega
          case rel => exact ⟨2, s0, (s1 % 4294967296), (s2 + s1 / 4294967296), s3, .inr (.inr (.inl ⟨rfl, rfl⟩)), by first | rfl | go_num, by (have h1 := HST.out; unfold wide_Mul.Cr at h1 ⊢; omega), blk_drew (blk_put (blk_put HCZ.out 2 _ rfl) 1 _ rfl), below_drew ((HB.out.setCell (by have q := HXW.out; simp; omega) _).setCell (by have q := HXW.out; simp; omega) _)⟩
        · have cz := (blk_cell HCZ.out 2).trans (show _ = some (Value.int IntKind.u64 s2) from rfl)
          have cz2 := (blk_cell HCZ.out 3).trans (show _ = some (Value.int IntKind.u64 s3) from rfl)
          have fz := blk_frozen HCZ.out 2
          have fz2 := blk_frozen HCZ.out 3
          have w1 : IntKind.u64.wrap (s3 + s2 / 4294967296) = s3 + s2 / 4294967296 := by
            have h1 := HST.out
            unfold wide_Mul.Cr at h1
            rw [IntKind.wrap_u64]
            omega
          have w2 : Go.bits .and .u64 s2 4294967295 = s2 % 4294967296 := by
            have h1 := HST.out
            unfold wide_Mul.Cr at h1
            exact wide_halves.and_ _ (by omega) (by omega)
          go_wp2_with fail
          go_region
          go_wp2
          go_roundg 0
          case measure => omega
          case rel => exact ⟨3, s0, s1, (s2 % 4294967296), (s3 + s2 / 4294967296), .inr (.inr (.inr ⟨rfl, rfl⟩)), by first | rfl | go_num, by (have h1 := HST.out; unfold wide_Mul.Cr at h1 ⊢; omega), blk_drew (blk_put (blk_put HCZ.out 3 _ rfl) 2 _ rfl), below_drew ((HB.out.setCell (by have q := HXW.out; simp; omega) _).setCell (by have q := HXW.out; simp; omega) _)⟩
        · have h1 := HST.out
          unfold wide_Mul.Cr at h1
          have hV := wide_Mul.all x0 x1 y0 y1
          have hx := HX.out
          have ha := HA.out
          rw [hV, ← hx.2.2.2.2.2.2.2.2.1, ← hx.2.2.2.2.2.2.2.2.2] at h1
          have hm0 : 0 ≤ a0 * a1 := Int.mul_nonneg ha.1 ha.2.2.1
          have hm1 : a0 * a1 ≤ 18446744073709551615 * a1 := Int.mul_le_mul_of_nonneg_right ha.2.1 ha.2.2.1
          have h3 : s3 ≤ 4294967295 := by omega
          have e1 : s3 * 4294967296 + s2 = r1 := by omega
          have e2 : s1 * 4294967296 + s0 = r2 := by omega
          have w1 : IntKind.u64.wrap (s3 * 4294967296) = s3 * 4294967296 := by rw [IntKind.wrap_u64]; omega
          have w2 : IntKind.u64.wrap (s1 * 4294967296) = s1 * 4294967296 := by rw [IntKind.wrap_u64]; omega
          have o1 : Go.bits .or .u64 (s3 * 4294967296) s2 = r1 := by rw [wide_halves.join s3 s2 (by omega) (by omega) (by omega) (by omega), e1]
          have o2 : Go.bits .or .u64 (s1 * 4294967296) s0 = r2 := by rw [wide_halves.join s1 s0 (by omega) (by omega) (by omega) (by omega), e2]
          clear h1 hV hx ha hm0 hm1 h3 e1 e2
          have c0 := (blk_cell HCZ.out 0).trans (show _ = some (Value.int IntKind.u64 s0) from rfl)
          have c1 := (blk_cell HCZ.out 1).trans (show _ = some (Value.int IntKind.u64 s1) from rfl)
          have c2 := (blk_cell HCZ.out 2).trans (show _ = some (Value.int IntKind.u64 s2) from rfl)
          have c3 := (blk_cell HCZ.out 3).trans (show _ = some (Value.int IntKind.u64 s3) from rfl)
          go_wp2_with fail
          go_quiet (fail)
          go_wp2
          go_ret2
          exact ⟨rfl, pw_below_drewN HB.out _⟩

/-! ### analemmalaw01_shown: function 12 -/
def analemmalaw01_shown.f  : Option (Bool) := (wide_Mul.f 6 7).bind fun bt101 => ((wide_Div.f 0 43 6).bind fun bt103 => (if bt101.1 = 0 then (if bt101.2 = 42 then (if bt103.1 = 7 then (if bt103.2.1 = 1 then (if bt103.2.2 = true then ((wide_Log.f 8).bind fun t106 => (some (t106 == 3))) else (some false)) else (some false)) else (some false)) else (some false)) else (some false)))
set_option maxHeartbeats 8000000 in
set_option maxRecDepth 100000 in
theorem analemmalaw01_shown.calls  (r : Bool) (w : World) (h : analemmalaw01_shown.f  = some r) :
    Calls Try.prog 12 #[] w fun e w' => e = .returned (.bool r) ∧ Below w.heap.size w w' := by
  have HB := Aside0.mk (Below.refl w.heap.size w)
  have H : ((wide_Mul.f 6 7).bind fun bt101 => ((wide_Div.f 0 43 6).bind fun bt103 => (if bt101.1 = 0 then (if bt101.2 = 42 then (if bt103.1 = 7 then (if bt103.2.1 = 1 then (if bt103.2.2 = true then ((wide_Log.f 8).bind fun t106 => (some (t106 == 3))) else (some false)) else (some false)) else (some false)) else (some false)) else (some false)))) = some r := h
  clear h
  replace H := Option.bind_eq_some_iff.mp H
  obtain ⟨⟨t101, t102⟩, A10, H⟩ := H
  replace H : ((wide_Div.f 0 43 6).bind fun bt103 => (if t101 = 0 then (if t102 = 42 then (if bt103.1 = 7 then (if bt103.2.1 = 1 then (if bt103.2.2 = true then ((wide_Log.f 8).bind fun t106 => (some (t106 == 3))) else (some false)) else (some false)) else (some false)) else (some false)) else (some false))) = some r := H
  have A1 := Aside0.mk A10
  clear A10
  replace H := Option.bind_eq_some_iff.mp H
  obtain ⟨⟨t103, t104, t105⟩, A20, H⟩ := H
  replace H : (if t101 = 0 then (if t102 = 42 then (if t103 = 7 then (if t104 = 1 then (if t105 = true then ((wide_Log.f 8).bind fun t106 => (some (t106 == 3))) else (some false)) else (some false)) else (some false)) else (some false)) else (some false)) = some r := H
  have A2 := Aside0.mk A20
  clear A20
  by_cases c3 : t101 = 0
  · rw [if_pos c3] at H
    have c3b0 : (t101 == 0) = true := beq_iff_eq.mpr c3
    have c3b1 : (t101 != 0) = false := bne_eq_false_iff_eq.mpr c3
    clear c3
    by_cases c4 : t102 = 42
    · rw [if_pos c4] at H
      have c4b0 : (t102 == 42) = true := beq_iff_eq.mpr c4
      have c4b1 : (t102 != 42) = false := bne_eq_false_iff_eq.mpr c4
      clear c4
      by_cases c5 : t103 = 7
      · rw [if_pos c5] at H
        have c5b0 : (t103 == 7) = true := beq_iff_eq.mpr c5
        have c5b1 : (t103 != 7) = false := bne_eq_false_iff_eq.mpr c5
        clear c5
        by_cases c6 : t104 = 1
        · rw [if_pos c6] at H
          have c6b0 : (t104 == 1) = true := beq_iff_eq.mpr c6
          have c6b1 : (t104 != 1) = false := bne_eq_false_iff_eq.mpr c6
          clear c6
          by_cases c7 : t105 = true
          · subst c7
            have H1 : ((wide_Log.f 8).bind fun t106 => (some (t106 == 3))) = some r := by rw [if_pos rfl] at H; exact H
            clear H
            have H := H1
            clear H1
            replace H := Option.bind_eq_some_iff.mp H
            obtain ⟨t106, A80, H⟩ := H
            replace H : (some (t106 == 3)) = some r := H
            have A8 := Aside0.mk A80
            clear A80
            obtain rfl := Option.some.inj H
            go_enter Try.func12, Try.ntmps12
            go_wp2_with (first | ((with_reducible refine gate_callee (f := 14) rfl ?_); refine goesL_ (some 7) rfl rfl Try.func14 (by kernel_rfl) rfl #[.int .u64 6, .int .u64 7] rfl (by (try simp only [List.map_toArray, List.map_cons, List.map_nil]); first | done | rfl | (simp only [List.length_drop, List.length_take]; rfl)) ?_; (with_reducible refine (wide_Mul.calls 6 7 t101 t102 _ A1.out).mono ?_); rintro e w9 ⟨rfl, hb⟩; refine ⟨_, rfl, ?_⟩; have n0_ := Aside0.mk (below_step (by repeat (first | (with_reducible first | exact HB.out | apply below_alloc | apply pw_below_drewN | apply below_drew1) | exact HB.out)) hb); clear HB; have HB := n0_; clear n0_; (try clear hb); (try clear hb2); (try clear hk); (try clear hi)) | ((with_reducible refine gate_callee (f := 13) rfl ?_); refine goesL_ (some 11) rfl rfl Try.func13 (by kernel_rfl) rfl #[.int .u64 0, .int .u64 43, .int .u64 6] rfl (by (try simp only [List.map_toArray, List.map_cons, List.map_nil]); first | done | rfl | (simp only [List.length_drop, List.length_take]; rfl)) ?_; (with_reducible refine (wide_Div.calls 0 43 6 t103 t104 true _ A2.out).mono ?_); rintro e w10 ⟨rfl, hb⟩; refine ⟨_, rfl, ?_⟩; have n0_ := Aside0.mk (below_step (by repeat (first | (with_reducible first | exact HB.out | apply below_alloc | apply pw_below_drewN | apply below_drew1) | exact HB.out)) hb); clear HB; have HB := n0_; clear n0_; (try clear hb); (try clear hb2); (try clear hk); (try clear hi)) | (go_at_call 11; (with_reducible refine (wide_Log.calls 8 t106 _ A8.out).mono ?_); rintro e w' ⟨rfl, ⟨nd, rfl⟩⟩))
            go_ret
            exact ⟨by first | rfl | (simp [errW_none, errW_some] <;> rfl) | (simp [*, errW_none, errW_some] <;> rfl), by repeat (first | (with_reducible first | exact HB.out | apply below_alloc | apply pw_below_drewN | apply below_drew1) | exact HB.out)⟩
          · replace c7 := Bool.eq_false_iff.mpr c7
            subst c7
            have H1 : (some false) = some r := by rw [if_neg (show ¬ (false = true) by decide)] at H; exact H
            clear H
            have H := H1
            clear H1
            obtain rfl := Option.some.inj H
            go_enter Try.func12, Try.ntmps12
            go_wp2_with (first | ((with_reducible refine gate_callee (f := 14) rfl ?_); refine goesL_ (some 7) rfl rfl Try.func14 (by kernel_rfl) rfl #[.int .u64 6, .int .u64 7] rfl (by (try simp only [List.map_toArray, List.map_cons, List.map_nil]); first | done | rfl | (simp only [List.length_drop, List.length_take]; rfl)) ?_; (with_reducible refine (wide_Mul.calls 6 7 t101 t102 _ A1.out).mono ?_); rintro e w11 ⟨rfl, hb⟩; refine ⟨_, rfl, ?_⟩; have n0_ := Aside0.mk (below_step (by repeat (first | (with_reducible first | exact HB.out | apply below_alloc | apply pw_below_drewN | apply below_drew1) | exact HB.out)) hb); clear HB; have HB := n0_; clear n0_; (try clear hb); (try clear hb2); (try clear hk); (try clear hi)) | ((with_reducible refine gate_callee (f := 13) rfl ?_); refine goesL_ (some 11) rfl rfl Try.func13 (by kernel_rfl) rfl #[.int .u64 0, .int .u64 43, .int .u64 6] rfl (by (try simp only [List.map_toArray, List.map_cons, List.map_nil]); first | done | rfl | (simp only [List.length_drop, List.length_take]; rfl)) ?_; (with_reducible refine (wide_Div.calls 0 43 6 t103 t104 false _ A2.out).mono ?_); rintro e w12 ⟨rfl, hb⟩; refine ⟨_, rfl, ?_⟩; have n0_ := Aside0.mk (below_step (by repeat (first | (with_reducible first | exact HB.out | apply below_alloc | apply pw_below_drewN | apply below_drew1) | exact HB.out)) hb); clear HB; have HB := n0_; clear n0_; (try clear hb); (try clear hb2); (try clear hk); (try clear hi)))
            go_ret
            exact ⟨by first | rfl | (simp [errW_none, errW_some] <;> rfl) | (simp [*, errW_none, errW_some] <;> rfl), by repeat (first | (with_reducible first | exact HB.out | apply below_alloc | apply pw_below_drewN | apply below_drew1) | exact HB.out)⟩
        · rw [if_neg c6] at H
          have c6b0 : (t104 == 1) = false := beq_eq_false_iff_ne.mpr c6
          have c6b1 : (t104 != 1) = true := bne_iff_ne.mpr c6
          obtain rfl := Option.some.inj H
          go_enter Try.func12, Try.ntmps12
          go_wp2_with (first | ((with_reducible refine gate_callee (f := 14) rfl ?_); refine goesL_ (some 7) rfl rfl Try.func14 (by kernel_rfl) rfl #[.int .u64 6, .int .u64 7] rfl (by (try simp only [List.map_toArray, List.map_cons, List.map_nil]); first | done | rfl | (simp only [List.length_drop, List.length_take]; rfl)) ?_; (with_reducible refine (wide_Mul.calls 6 7 t101 t102 _ A1.out).mono ?_); rintro e w13 ⟨rfl, hb⟩; refine ⟨_, rfl, ?_⟩; have n0_ := Aside0.mk (below_step (by repeat (first | (with_reducible first | exact HB.out | apply below_alloc | apply pw_below_drewN | apply below_drew1) | exact HB.out)) hb); clear HB; have HB := n0_; clear n0_; (try clear hb); (try clear hb2); (try clear hk); (try clear hi)) | ((with_reducible refine gate_callee (f := 13) rfl ?_); refine goesL_ (some 11) rfl rfl Try.func13 (by kernel_rfl) rfl #[.int .u64 0, .int .u64 43, .int .u64 6] rfl (by (try simp only [List.map_toArray, List.map_cons, List.map_nil]); first | done | rfl | (simp only [List.length_drop, List.length_take]; rfl)) ?_; (with_reducible refine (wide_Div.calls 0 43 6 t103 t104 t105 _ A2.out).mono ?_); rintro e w14 ⟨rfl, hb⟩; refine ⟨_, rfl, ?_⟩; have n0_ := Aside0.mk (below_step (by repeat (first | (with_reducible first | exact HB.out | apply below_alloc | apply pw_below_drewN | apply below_drew1) | exact HB.out)) hb); clear HB; have HB := n0_; clear n0_; (try clear hb); (try clear hb2); (try clear hk); (try clear hi)))
          go_ret
          exact ⟨by first | rfl | (simp [errW_none, errW_some] <;> rfl) | (simp [*, errW_none, errW_some] <;> rfl), by repeat (first | (with_reducible first | exact HB.out | apply below_alloc | apply pw_below_drewN | apply below_drew1) | exact HB.out)⟩
      · rw [if_neg c5] at H
        have c5b0 : (t103 == 7) = false := beq_eq_false_iff_ne.mpr c5
        have c5b1 : (t103 != 7) = true := bne_iff_ne.mpr c5
        obtain rfl := Option.some.inj H
        go_enter Try.func12, Try.ntmps12
        go_wp2_with (first | ((with_reducible refine gate_callee (f := 14) rfl ?_); refine goesL_ (some 7) rfl rfl Try.func14 (by kernel_rfl) rfl #[.int .u64 6, .int .u64 7] rfl (by (try simp only [List.map_toArray, List.map_cons, List.map_nil]); first | done | rfl | (simp only [List.length_drop, List.length_take]; rfl)) ?_; (with_reducible refine (wide_Mul.calls 6 7 t101 t102 _ A1.out).mono ?_); rintro e w15 ⟨rfl, hb⟩; refine ⟨_, rfl, ?_⟩; have n0_ := Aside0.mk (below_step (by repeat (first | (with_reducible first | exact HB.out | apply below_alloc | apply pw_below_drewN | apply below_drew1) | exact HB.out)) hb); clear HB; have HB := n0_; clear n0_; (try clear hb); (try clear hb2); (try clear hk); (try clear hi)) | ((with_reducible refine gate_callee (f := 13) rfl ?_); refine goesL_ (some 11) rfl rfl Try.func13 (by kernel_rfl) rfl #[.int .u64 0, .int .u64 43, .int .u64 6] rfl (by (try simp only [List.map_toArray, List.map_cons, List.map_nil]); first | done | rfl | (simp only [List.length_drop, List.length_take]; rfl)) ?_; (with_reducible refine (wide_Div.calls 0 43 6 t103 t104 t105 _ A2.out).mono ?_); rintro e w16 ⟨rfl, hb⟩; refine ⟨_, rfl, ?_⟩; have n0_ := Aside0.mk (below_step (by repeat (first | (with_reducible first | exact HB.out | apply below_alloc | apply pw_below_drewN | apply below_drew1) | exact HB.out)) hb); clear HB; have HB := n0_; clear n0_; (try clear hb); (try clear hb2); (try clear hk); (try clear hi)))
        go_ret
        exact ⟨by first | rfl | (simp [errW_none, errW_some] <;> rfl) | (simp [*, errW_none, errW_some] <;> rfl), by repeat (first | (with_reducible first | exact HB.out | apply below_alloc | apply pw_below_drewN | apply below_drew1) | exact HB.out)⟩
    · rw [if_neg c4] at H
      have c4b0 : (t102 == 42) = false := beq_eq_false_iff_ne.mpr c4
      have c4b1 : (t102 != 42) = true := bne_iff_ne.mpr c4
      obtain rfl := Option.some.inj H
      go_enter Try.func12, Try.ntmps12
      go_wp2_with (first | ((with_reducible refine gate_callee (f := 14) rfl ?_); refine goesL_ (some 7) rfl rfl Try.func14 (by kernel_rfl) rfl #[.int .u64 6, .int .u64 7] rfl (by (try simp only [List.map_toArray, List.map_cons, List.map_nil]); first | done | rfl | (simp only [List.length_drop, List.length_take]; rfl)) ?_; (with_reducible refine (wide_Mul.calls 6 7 t101 t102 _ A1.out).mono ?_); rintro e w17 ⟨rfl, hb⟩; refine ⟨_, rfl, ?_⟩; have n0_ := Aside0.mk (below_step (by repeat (first | (with_reducible first | exact HB.out | apply below_alloc | apply pw_below_drewN | apply below_drew1) | exact HB.out)) hb); clear HB; have HB := n0_; clear n0_; (try clear hb); (try clear hb2); (try clear hk); (try clear hi)) | ((with_reducible refine gate_callee (f := 13) rfl ?_); refine goesL_ (some 11) rfl rfl Try.func13 (by kernel_rfl) rfl #[.int .u64 0, .int .u64 43, .int .u64 6] rfl (by (try simp only [List.map_toArray, List.map_cons, List.map_nil]); first | done | rfl | (simp only [List.length_drop, List.length_take]; rfl)) ?_; (with_reducible refine (wide_Div.calls 0 43 6 t103 t104 t105 _ A2.out).mono ?_); rintro e w18 ⟨rfl, hb⟩; refine ⟨_, rfl, ?_⟩; have n0_ := Aside0.mk (below_step (by repeat (first | (with_reducible first | exact HB.out | apply below_alloc | apply pw_below_drewN | apply below_drew1) | exact HB.out)) hb); clear HB; have HB := n0_; clear n0_; (try clear hb); (try clear hb2); (try clear hk); (try clear hi)))
      go_ret
      exact ⟨by first | rfl | (simp [errW_none, errW_some] <;> rfl) | (simp [*, errW_none, errW_some] <;> rfl), by repeat (first | (with_reducible first | exact HB.out | apply below_alloc | apply pw_below_drewN | apply below_drew1) | exact HB.out)⟩
  · rw [if_neg c3] at H
    have c3b0 : (t101 == 0) = false := beq_eq_false_iff_ne.mpr c3
    have c3b1 : (t101 != 0) = true := bne_iff_ne.mpr c3
    obtain rfl := Option.some.inj H
    go_enter Try.func12, Try.ntmps12
    go_wp2_with (first | ((with_reducible refine gate_callee (f := 14) rfl ?_); refine goesL_ (some 7) rfl rfl Try.func14 (by kernel_rfl) rfl #[.int .u64 6, .int .u64 7] rfl (by (try simp only [List.map_toArray, List.map_cons, List.map_nil]); first | done | rfl | (simp only [List.length_drop, List.length_take]; rfl)) ?_; (with_reducible refine (wide_Mul.calls 6 7 t101 t102 _ A1.out).mono ?_); rintro e w19 ⟨rfl, hb⟩; refine ⟨_, rfl, ?_⟩; have n0_ := Aside0.mk (below_step (by repeat (first | (with_reducible first | exact HB.out | apply below_alloc | apply pw_below_drewN | apply below_drew1) | exact HB.out)) hb); clear HB; have HB := n0_; clear n0_; (try clear hb); (try clear hb2); (try clear hk); (try clear hi)) | ((with_reducible refine gate_callee (f := 13) rfl ?_); refine goesL_ (some 11) rfl rfl Try.func13 (by kernel_rfl) rfl #[.int .u64 0, .int .u64 43, .int .u64 6] rfl (by (try simp only [List.map_toArray, List.map_cons, List.map_nil]); first | done | rfl | (simp only [List.length_drop, List.length_take]; rfl)) ?_; (with_reducible refine (wide_Div.calls 0 43 6 t103 t104 t105 _ A2.out).mono ?_); rintro e w20 ⟨rfl, hb⟩; refine ⟨_, rfl, ?_⟩; have n0_ := Aside0.mk (below_step (by repeat (first | (with_reducible first | exact HB.out | apply below_alloc | apply pw_below_drewN | apply below_drew1) | exact HB.out)) hb); clear HB; have HB := n0_; clear n0_; (try clear hb); (try clear hb2); (try clear hk); (try clear hi)))
    go_ret
    exact ⟨by first | rfl | (simp [errW_none, errW_some] <;> rfl) | (simp [*, errW_none, errW_some] <;> rfl), by repeat (first | (with_reducible first | exact HB.out | apply below_alloc | apply pw_below_drewN | apply below_drew1) | exact HB.out)⟩

/-! ### analemmalaw01_WideLogs: function 3 -/
def analemmalaw01_WideLogs.f (a0 : Int) (a1 : Int) : Option (Bool) := (wide_Log.f a0).bind fun t107 => (if a0 = 0 then (if t107 = (-1) then ((analemmalaw01_shown.f).bind fun t108 => (some t108)) else (some false)) else (if 0 ≤ t107 then (if (shr .u64 a0 t107) = 1 then (if 0 ≤ (Int.tmod (wrap64 (a1)) 64) then ((wide_Log.f (shl .u64 1 (Int.tmod (wrap64 (a1)) 64))).bind fun t109 => (if t109 = (Int.tmod (wrap64 (a1)) 64) then (if ((decide (t107 ≥ (Int.tmod (wrap64 (a1)) 64))) == (decide (a0 ≥ (shl .u64 1 (Int.tmod (wrap64 (a1)) 64))))) = true then ((analemmalaw01_shown.f).bind fun t110 => (some t110)) else (some false)) else (some false))) else (none)) else (some false)) else (none)))
set_option maxHeartbeats 8000000 in
set_option maxRecDepth 100000 in
theorem analemmalaw01_WideLogs.calls (a0 : Int) (a1 : Int) (r : Bool) (w : World) (h : analemmalaw01_WideLogs.f a0 a1 = some r) (hr : Aside0 (r = true)) :
    Calls Try.prog 3 #[.int .u64 a0, .int .u8 a1] w fun e w' => e = .returned (.bool r) ∧ Below w.heap.size w w' := by
  have HB := Aside0.mk (Below.refl w.heap.size w)
  have H : ((wide_Log.f a0).bind fun t107 => (if a0 = 0 then (if t107 = (-1) then ((analemmalaw01_shown.f).bind fun t108 => (some t108)) else (some false)) else (if 0 ≤ t107 then (if (shr .u64 a0 t107) = 1 then (if 0 ≤ (Int.tmod (wrap64 (a1)) 64) then ((wide_Log.f (shl .u64 1 (Int.tmod (wrap64 (a1)) 64))).bind fun t109 => (if t109 = (Int.tmod (wrap64 (a1)) 64) then (if ((decide (t107 ≥ (Int.tmod (wrap64 (a1)) 64))) == (decide (a0 ≥ (shl .u64 1 (Int.tmod (wrap64 (a1)) 64))))) = true then ((analemmalaw01_shown.f).bind fun t110 => (some t110)) else (some false)) else (some false))) else (none)) else (some false)) else (none)))) = some r := h
  clear h
  replace H := Option.bind_eq_some_iff.mp H
  obtain ⟨t107, A30, H⟩ := H
  replace H : (if a0 = 0 then (if t107 = (-1) then ((analemmalaw01_shown.f).bind fun t108 => (some t108)) else (some false)) else (if 0 ≤ t107 then (if (shr .u64 a0 t107) = 1 then (if 0 ≤ (Int.tmod (wrap64 (a1)) 64) then ((wide_Log.f (shl .u64 1 (Int.tmod (wrap64 (a1)) 64))).bind fun t109 => (if t109 = (Int.tmod (wrap64 (a1)) 64) then (if ((decide (t107 ≥ (Int.tmod (wrap64 (a1)) 64))) == (decide (a0 ≥ (shl .u64 1 (Int.tmod (wrap64 (a1)) 64))))) = true then ((analemmalaw01_shown.f).bind fun t110 => (some t110)) else (some false)) else (some false))) else (none)) else (some false)) else (none))) = some r := H
  have A3 := Aside0.mk A30
  clear A30
  by_cases c4 : a0 = 0
  · rw [if_pos c4] at H
    have c4b0 : (a0 == 0) = true := beq_iff_eq.mpr c4
    have c4b1 : (a0 != 0) = false := bne_eq_false_iff_eq.mpr c4
    clear c4
    by_cases c5 : t107 = (-1)
    · rw [if_pos c5] at H
      have c5b0 : (t107 == (-1)) = true := beq_iff_eq.mpr c5
      have c5b1 : (t107 != (-1)) = false := bne_eq_false_iff_eq.mpr c5
      clear c5
      replace H := Option.bind_eq_some_iff.mp H
      obtain ⟨t108, A60, H⟩ := H
      replace H : (some t108) = some r := H
      have A6 := Aside0.mk A60
      clear A60
      first | exact absurd ((Option.some.inj H).trans hr.out) Bool.false_ne_true | skip
      all_goals (obtain rfl := Option.some.inj H)
      all_goals (go_enter Try.func3, Try.ntmps3)
      all_goals (go_wp2_with (first | ((with_reducible refine gate_callee (f := 11) rfl ?_); refine goesL_ (some 8) rfl rfl Try.func11 (by kernel_rfl) rfl #[.int .u64 a0] rfl (by (try simp only [List.map_toArray, List.map_cons, List.map_nil]); first | done | rfl | (simp only [List.length_drop, List.length_take]; rfl)) ?_; (with_reducible refine (wide_Log.calls a0 t107 _ A3.out).mono ?_); rintro e w' ⟨rfl, ⟨nd, rfl⟩⟩; refine ⟨_, rfl, ?_⟩) | (go_at_call 12; (with_reducible refine (analemmalaw01_shown.calls  t108 _ A6.out).mono ?_); rintro e w7 ⟨rfl, hb⟩; have n0_ := Aside0.mk (below_step (by repeat (first | (with_reducible first | exact HB.out | apply below_alloc | apply pw_below_drewN | apply below_drew1) | exact HB.out)) hb); clear HB; have HB := n0_; clear n0_; (try clear hb); (try clear hb2); (try clear hk); (try clear hi))))
      all_goals (go_ret)
      all_goals (exact ⟨by first | rfl | (simp [errW_none, errW_some] <;> rfl) | (simp [*, errW_none, errW_some] <;> rfl), by repeat (first | (with_reducible first | exact HB.out | apply below_alloc | apply pw_below_drewN | apply below_drew1) | exact HB.out)⟩)
    · rw [if_neg c5] at H
      have c5b0 : (t107 == (-1)) = false := beq_eq_false_iff_ne.mpr c5
      have c5b1 : (t107 != (-1)) = true := bne_iff_ne.mpr c5
      first | exact absurd ((Option.some.inj H).trans hr.out) Bool.false_ne_true | skip
      all_goals (obtain rfl := Option.some.inj H)
      all_goals (go_enter Try.func3, Try.ntmps3)
      all_goals (go_wp2_with (first | ((with_reducible refine gate_callee (f := 11) rfl ?_); refine goesL_ (some 8) rfl rfl Try.func11 (by kernel_rfl) rfl #[.int .u64 a0] rfl (by (try simp only [List.map_toArray, List.map_cons, List.map_nil]); first | done | rfl | (simp only [List.length_drop, List.length_take]; rfl)) ?_; (with_reducible refine (wide_Log.calls a0 t107 _ A3.out).mono ?_); rintro e w' ⟨rfl, ⟨nd, rfl⟩⟩; refine ⟨_, rfl, ?_⟩)))
      all_goals (go_ret)
      all_goals (exact ⟨by first | rfl | (simp [errW_none, errW_some] <;> rfl) | (simp [*, errW_none, errW_some] <;> rfl), by repeat (first | (with_reducible first | exact HB.out | apply below_alloc | apply pw_below_drewN | apply below_drew1) | exact HB.out)⟩)
  · rw [if_neg c4] at H
    have c4b0 : (a0 == 0) = false := beq_eq_false_iff_ne.mpr c4
    have c4b1 : (a0 != 0) = true := bne_iff_ne.mpr c4
    by_cases c8 : 0 ≤ t107
    · rw [if_pos c8] at H
      have c8b0 := eq_true c8
      have c8b1 : decide (0 ≤ t107) = true := decide_eq_true c8
      clear c8
      obtain ⟨ji9, hji9⟩ : ∃ j_ : Int, (shr .u64 a0 t107) = j_ := ⟨_, rfl⟩
      replace H : (if (ji9) = 1 then (if 0 ≤ (Int.tmod (wrap64 (a1)) 64) then ((wide_Log.f (shl .u64 1 (Int.tmod (wrap64 (a1)) 64))).bind fun t109 => (if t109 = (Int.tmod (wrap64 (a1)) 64) then (if ((decide (t107 ≥ (Int.tmod (wrap64 (a1)) 64))) == (decide (a0 ≥ (shl .u64 1 (Int.tmod (wrap64 (a1)) 64))))) = true then ((analemmalaw01_shown.f).bind fun t110 => (some t110)) else (some false)) else (some false))) else (none)) else (some false)) = some r := by first | (rw [hji9] at H; exact H) | (simp only [hji9] at H ⊢; exact H)
      (try rw [hji9] at A3)
      have hji9_ : (a0 / 2 ^ min t107.toNat 64) = ji9 := hji9
      have hji9z : t107 ≤ 64 → (a0 / 2 ^ t107.toNat) = ji9 := shr_small hji9
      by_cases c10 : (ji9) = 1
      · rw [if_pos c10] at H
        have c10b0 : ((ji9) == 1) = true := beq_iff_eq.mpr c10
        have c10b1 : ((ji9) != 1) = false := bne_eq_false_iff_eq.mpr c10
        clear c10
        obtain ⟨ji11, hji11⟩ : ∃ j_ : Int, (Int.tmod (wrap64 (a1)) 64) = j_ := ⟨_, rfl⟩
        replace H : (if 0 ≤ (ji11) then ((wide_Log.f (shl .u64 1 (ji11))).bind fun t109 => (if t109 = (ji11) then (if ((decide (t107 ≥ (ji11))) == (decide (a0 ≥ (shl .u64 1 (ji11))))) = true then ((analemmalaw01_shown.f).bind fun t110 => (some t110)) else (some false)) else (some false))) else (none)) = some r := by first | (rw [hji11] at H; exact H) | (simp only [hji11] at H ⊢; exact H)
        (try rw [hji11] at A3)
        by_cases c12 : 0 ≤ (ji11)
        · rw [if_pos c12] at H
          have c12b0 := eq_true c12
          have c12b1 : decide (0 ≤ (ji11)) = true := decide_eq_true c12
          clear c12
          obtain ⟨ji13, hji13⟩ : ∃ j_ : Int, (shl .u64 1 (ji11)) = j_ := ⟨_, rfl⟩
          replace H : ((wide_Log.f (ji13)).bind fun t109 => (if t109 = (ji11) then (if ((decide (t107 ≥ (ji11))) == (decide (a0 ≥ (ji13)))) = true then ((analemmalaw01_shown.f).bind fun t110 => (some t110)) else (some false)) else (some false))) = some r := by first | (rw [hji13] at H; exact H) | (simp only [hji13] at H ⊢; exact H)
          (try rw [hji13] at A3)
          have hji13_ : (IntKind.u64.wrap (1 * 2 ^ min (ji11).toNat 64)) = ji13 := hji13
          have hji13z : (ji11) ≤ 64 → (IntKind.u64.wrap (1 * 2 ^ (ji11).toNat)) = ji13 := shl_small hji13
          have hji13u : (IntKind.u64.wrap (2 ^ min (ji11).toNat 64)) = ji13 := by have h_ := hji13_; rw [Int.one_mul] at h_; exact h_
          have hji13v : (ji11) ≤ 64 → (IntKind.u64.wrap (2 ^ (ji11).toNat)) = ji13 := fun hle_ => by have h_ := hji13z hle_; rw [Int.one_mul] at h_; exact h_
          replace H := Option.bind_eq_some_iff.mp H
          obtain ⟨t109, A140, H⟩ := H
          replace H : (if t109 = (ji11) then (if ((decide (t107 ≥ (ji11))) == (decide (a0 ≥ (ji13)))) = true then ((analemmalaw01_shown.f).bind fun t110 => (some t110)) else (some false)) else (some false)) = some r := H
          have A14 := Aside0.mk A140
          clear A140
          by_cases c15 : t109 = (ji11)
          · rw [if_pos c15] at H
            have c15b0 : (t109 == (ji11)) = true := beq_iff_eq.mpr c15
            have c15b1 : (t109 != (ji11)) = false := bne_eq_false_iff_eq.mpr c15
            clear c15
            have c16b0 := eq_true (of_decide_eq_true (by first | (with_reducible assumption) | assumption) : 0 ≤ (ji11))
            by_cases c18 : ((decide (t107 ≥ (ji11))) == (decide (a0 ≥ (ji13)))) = true
            · rw [if_pos c18] at H
              have c18b0 : ((decide (t107 ≥ (ji11))) == (decide (a0 ≥ (ji13)))) = true := c18
              (try (have c18b1 : decide ((decide (t107 ≥ (ji11))) = (decide (a0 ≥ (ji13)))) = true := by simpa using c18))
              (try (have c18b2 : ((decide (t107 ≥ (ji11))) == (decide (a0 ≥ (ji13)))) = true := by simpa using c18))
              clear c18
              replace H := Option.bind_eq_some_iff.mp H
              obtain ⟨t110, A190, H⟩ := H
              replace H : (some t110) = some r := H
              have A19 := Aside0.mk A190
              clear A190
              first | exact absurd ((Option.some.inj H).trans hr.out) Bool.false_ne_true | skip
              all_goals (obtain rfl := Option.some.inj H)
              all_goals (go_enter Try.func3, Try.ntmps3)
              all_goals (go_wp2_with (first | ((with_reducible refine gate_callee (f := 11) rfl ?_); refine goesL_ (some 8) rfl rfl Try.func11 (by kernel_rfl) rfl #[.int .u64 a0] rfl (by (try simp only [List.map_toArray, List.map_cons, List.map_nil]); first | done | rfl | (simp only [List.length_drop, List.length_take]; rfl)) ?_; (with_reducible refine (wide_Log.calls a0 t107 _ A3.out).mono ?_); rintro e w' ⟨rfl, ⟨nd, rfl⟩⟩; refine ⟨_, rfl, ?_⟩) | (go_at_call 11; (with_reducible refine (wide_Log.calls ji13 t109 _ A14.out).mono ?_); rintro e w' ⟨rfl, ⟨nd, rfl⟩⟩) | (go_at_call 12; (with_reducible refine (analemmalaw01_shown.calls  t110 _ A19.out).mono ?_); rintro e w20 ⟨rfl, hb⟩; have n0_ := Aside0.mk (below_step (by repeat (first | (with_reducible first | exact HB.out | apply below_alloc | apply pw_below_drewN | apply below_drew1) | exact HB.out)) hb); clear HB; have HB := n0_; clear n0_; (try clear hb); (try clear hb2); (try clear hk); (try clear hi))))
              all_goals (go_ret)
              all_goals (exact ⟨by first | rfl | (simp [errW_none, errW_some] <;> rfl) | (simp only [← hji9, ← hji11, ← hji13]; first | rfl | (simp [errW_none, errW_some] <;> rfl)) | (simp [*, errW_none, errW_some] <;> rfl), by repeat (first | (with_reducible first | exact HB.out | apply below_alloc | apply pw_below_drewN | apply below_drew1) | exact HB.out)⟩)
            · rw [if_neg c18] at H
              have c18b0 : ((decide (t107 ≥ (ji11))) == (decide (a0 ≥ (ji13)))) = false := by simpa using c18
              (try (have c18b1 : decide ((decide (t107 ≥ (ji11))) = (decide (a0 ≥ (ji13)))) = false := by simpa using c18))
              (try (have c18b2 : ((decide (t107 ≥ (ji11))) == (decide (a0 ≥ (ji13)))) = false := by simpa using c18))
              (try (have c18b3 : ¬ ((decide (t107 ≥ (ji11))) = (decide (a0 ≥ (ji13)))) := by simpa using c18))
              clear c18
              first | exact absurd ((Option.some.inj H).trans hr.out) Bool.false_ne_true | skip
              all_goals (obtain rfl := Option.some.inj H)
              all_goals (go_enter Try.func3, Try.ntmps3)
              all_goals (go_wp2_with (first | ((with_reducible refine gate_callee (f := 11) rfl ?_); refine goesL_ (some 8) rfl rfl Try.func11 (by kernel_rfl) rfl #[.int .u64 a0] rfl (by (try simp only [List.map_toArray, List.map_cons, List.map_nil]); first | done | rfl | (simp only [List.length_drop, List.length_take]; rfl)) ?_; (with_reducible refine (wide_Log.calls a0 t107 _ A3.out).mono ?_); rintro e w' ⟨rfl, ⟨nd, rfl⟩⟩; refine ⟨_, rfl, ?_⟩) | (go_at_call 11; (with_reducible refine (wide_Log.calls ji13 t109 _ A14.out).mono ?_); rintro e w' ⟨rfl, ⟨nd, rfl⟩⟩)))
              all_goals (go_ret)
              all_goals (exact ⟨by first | rfl | (simp [errW_none, errW_some] <;> rfl) | (simp only [← hji9, ← hji11, ← hji13]; first | rfl | (simp [errW_none, errW_some] <;> rfl)) | (simp [*, errW_none, errW_some] <;> rfl), by repeat (first | (with_reducible first | exact HB.out | apply below_alloc | apply pw_below_drewN | apply below_drew1) | exact HB.out)⟩)
          · rw [if_neg c15] at H
            have c15b0 : (t109 == (ji11)) = false := beq_eq_false_iff_ne.mpr c15
            have c15b1 : (t109 != (ji11)) = true := bne_iff_ne.mpr c15
            first | exact absurd ((Option.some.inj H).trans hr.out) Bool.false_ne_true | skip
            all_goals (obtain rfl := Option.some.inj H)
            all_goals (go_enter Try.func3, Try.ntmps3)
            all_goals (go_wp2_with (first | ((with_reducible refine gate_callee (f := 11) rfl ?_); refine goesL_ (some 8) rfl rfl Try.func11 (by kernel_rfl) rfl #[.int .u64 a0] rfl (by (try simp only [List.map_toArray, List.map_cons, List.map_nil]); first | done | rfl | (simp only [List.length_drop, List.length_take]; rfl)) ?_; (with_reducible refine (wide_Log.calls a0 t107 _ A3.out).mono ?_); rintro e w' ⟨rfl, ⟨nd, rfl⟩⟩; refine ⟨_, rfl, ?_⟩) | (go_at_call 11; (with_reducible refine (wide_Log.calls ji13 t109 _ A14.out).mono ?_); rintro e w' ⟨rfl, ⟨nd, rfl⟩⟩)))
            all_goals (go_ret)
            all_goals (exact ⟨by first | rfl | (simp [errW_none, errW_some] <;> rfl) | (simp only [← hji9, ← hji11, ← hji13]; first | rfl | (simp [errW_none, errW_some] <;> rfl)) | (simp [*, errW_none, errW_some] <;> rfl), by repeat (first | (with_reducible first | exact HB.out | apply below_alloc | apply pw_below_drewN | apply below_drew1) | exact HB.out)⟩)
        · rw [if_neg c12] at H
          exact absurd H (by simp)
      · rw [if_neg c10] at H
        have c10b0 : ((ji9) == 1) = false := beq_eq_false_iff_ne.mpr c10
        have c10b1 : ((ji9) != 1) = true := bne_iff_ne.mpr c10
        first | exact absurd ((Option.some.inj H).trans hr.out) Bool.false_ne_true | skip
        all_goals (obtain rfl := Option.some.inj H)
        all_goals (go_enter Try.func3, Try.ntmps3)
        all_goals (go_wp2_with (first | ((with_reducible refine gate_callee (f := 11) rfl ?_); refine goesL_ (some 8) rfl rfl Try.func11 (by kernel_rfl) rfl #[.int .u64 a0] rfl (by (try simp only [List.map_toArray, List.map_cons, List.map_nil]); first | done | rfl | (simp only [List.length_drop, List.length_take]; rfl)) ?_; (with_reducible refine (wide_Log.calls a0 t107 _ A3.out).mono ?_); rintro e w' ⟨rfl, ⟨nd, rfl⟩⟩; refine ⟨_, rfl, ?_⟩)))
        all_goals (go_ret)
        all_goals (exact ⟨by first | rfl | (simp [errW_none, errW_some] <;> rfl) | (simp only [← hji9]; first | rfl | (simp [errW_none, errW_some] <;> rfl)) | (simp [*, errW_none, errW_some] <;> rfl), by repeat (first | (with_reducible first | exact HB.out | apply below_alloc | apply pw_below_drewN | apply below_drew1) | exact HB.out)⟩)
    · rw [if_neg c8] at H
      exact absurd H (by simp)

/-- THE ONE PURE STATEMENT of analemmalaw01_WideLogs: yours. -/
def analemmalaw01_WideLogs.Pure : Prop := ∀ (a0 : Int) (a1 : Int), (Lit.int .u64 a0).wf = true → (Lit.int .u8 a1).wf = true → analemmalaw01_WideLogs.f a0 a1 = some true
theorem analemmalaw01_WideLogs.walk (P : analemmalaw01_WideLogs.Pure) (a0 : Int) (a1 : Int) (w : World) (w0 : (Lit.int .u64 a0).wf = true) (w1 : (Lit.int .u8 a1).wf = true) :
    Calls Try.prog 3 #[.int .u64 a0, .int .u8 a1] w fun e w' => e = .returned (.bool true) ∧ Below w.heap.size w w' := by
  have h := P a0 a1 w0 w1
  refine (analemmalaw01_WideLogs.calls a0 a1 true w h (Aside0.mk rfl)).mono ?_
  rintro e w' ⟨rfl, hd⟩
  exact ⟨rfl, hd⟩

/-! ### wide_Plus: function 15 -/
def wide_Plus.f (a0 : Int) (a1 : Int) (a2 : Int) (a3 : Int) : Option (Int × Int × Bool) :=
  if (IntKind.u64.wrap (a1 + a3)) < a1 then (if (IntKind.u64.wrap (a0 + a2)) < a0 then (some (IntKind.u64.wrap ((IntKind.u64.wrap (a0 + a2)) + 1), IntKind.u64.wrap (a1 + a3), true)) else (some (IntKind.u64.wrap ((IntKind.u64.wrap (a0 + a2)) + 1), IntKind.u64.wrap (a1 + a3), ((IntKind.u64.wrap ((IntKind.u64.wrap (a0 + a2)) + 1)) == 0)))) else (some (IntKind.u64.wrap (a0 + a2), IntKind.u64.wrap (a1 + a3), decide ((IntKind.u64.wrap (a0 + a2)) < a0)))
set_option maxHeartbeats 8000000 in
set_option maxRecDepth 100000 in
theorem wide_Plus.calls (a0 : Int) (a1 : Int) (a2 : Int) (a3 : Int) (r1 : Int) (r2 : Int) (r3 : Bool) (w : World) (h : wide_Plus.f a0 a1 a2 a3 = some (r1, r2, r3)) :
    Calls Try.prog 15 #[.int .u64 a0, .int .u64 a1, .int .u64 a2, .int .u64 a3] w fun e w' => e = .returned (.tuple #[.int .u64 r1, .int .u64 r2, .bool r3]) ∧ Drawn0 w w' := by
  unfold wide_Plus.f at h
  obtain ⟨x, hx⟩ : ∃ x, IntKind.u64.wrap (a0 + a2) = x := ⟨_, rfl⟩
  obtain ⟨y, hy⟩ : ∃ y, IntKind.u64.wrap (a1 + a3) = y := ⟨_, rfl⟩
  obtain ⟨z, hz⟩ : ∃ z, IntKind.u64.wrap (x + 1) = z := ⟨_, rfl⟩
  rw [hx, hy, hz] at h
  by_cases c : y < a1
  · rw [if_pos c] at h
    have c1 : decide (y < a1) = true := decide_eq_true c
    clear c
    by_cases d : x < a0
    · rw [if_pos d] at h
      have d1 : decide (x < a0) = true := decide_eq_true d
      clear d
      have e := Prod.mk.inj (Option.some.inj h)
      have e2 := Prod.mk.inj e.2
      obtain ⟨rfl, rfl, rfl⟩ : z = r1 ∧ y = r2 ∧ true = r3 := ⟨e.1, e2.1, e2.2⟩
      clear h e e2
      go_enter Try.func15, Try.ntmps15
      go_wp2
      go_ret3
      exact ⟨rfl, Drawn0.refl _⟩
    · rw [if_neg d] at h
      have d1 : decide (x < a0) = false := decide_eq_false d
      clear d
      have e := Prod.mk.inj (Option.some.inj h)
      have e2 := Prod.mk.inj e.2
      obtain ⟨rfl, rfl, rfl⟩ : z = r1 ∧ y = r2 ∧ (z == 0) = r3 := ⟨e.1, e2.1, e2.2⟩
      clear h e e2
      obtain ⟨q, hq⟩ : ∃ q, (z == 0) = q := ⟨_, rfl⟩
      rw [hq]
      go_enter Try.func15, Try.ntmps15
      go_wp2
      go_ret3
      exact ⟨rfl, Drawn0.refl _⟩
  · rw [if_neg c] at h
    have c1 : decide (y < a1) = false := decide_eq_false c
    clear c
    have e := Prod.mk.inj (Option.some.inj h)
    have e2 := Prod.mk.inj e.2
    obtain ⟨q, hq⟩ : ∃ q, decide (x < a0) = q := ⟨_, rfl⟩
    rw [hq] at e2
    obtain ⟨rfl, rfl, rfl⟩ : x = r1 ∧ y = r2 ∧ q = r3 := ⟨e.1, e2.1, e2.2⟩
    clear h e e2
    go_enter Try.func15, Try.ntmps15
    go_wp2
    go_ret3
    exact ⟨rfl, Drawn0.refl _⟩

end Go.Proofs.Ytanpjfejnlfpmaa.MWide
