/- Functions that the statements of this seat reach, each as a plain Lean function, with a proof that the Go code comes to its answers; no condition. -/
import Derived.Test.YtoddgpaopejeoaaMClux0
import Derived.Test.YtoddgpaopejeoaaMClux1
namespace Go.Proofs.Ytoddgpaopejeoaa.MClu
open Go.RowKit Go.Proofs.YtoddgpaopejeoaaW.PrintWords Go.Proofs.YtoddgpaopejeoaaW.PrintLast Go.Proofs.YtoddgpaopejeoaaW.PrintMore
attribute [local go_sem] max2_int min2_int max_two min_two max_three min_three max_four min_four   -- for this text's walks alone
set_option linter.unusedVariables false
set_option linter.unusedSimpArgs false

/-! ### wide_Mul: function 79 -/
def wide_Mul.f (a0 : Int) (a1 : Int) : Option (Int × Int) :=
  if 0 ≤ a0 ∧ a0 ≤ 18446744073709551615 ∧ 0 ≤ a1 ∧ a1 ≤ 18446744073709551615 then some (a0 * a1 / 18446744073709551616, a0 * a1 % 18446744073709551616) else none
def wide_Mul.St (V n s0 s1 s2 s3 : Int) : Prop :=
  0 ≤ s0 ∧ s0 ≤ n * 4294967295 ∧ 0 ≤ s1 ∧ s1 ≤ n * 4294967295 ∧ 0 ≤ s2 ∧ s2 ≤ n * 4294967295 ∧ 0 ≤ s3 ∧ s3 ≤ n * 4294967295 ∧ s0 + 4294967296 * s1 + 18446744073709551616 * s2 + 79228162514264337593543950336 * s3 = V
def wide_Mul.V (x0 x1 y0 y1 : Int) : Nat → Int
  | 0 => 0
  | 1 => x0 * y0
  | 2 => x0 * y0 + 4294967296 * (x0 * y1)
  | 3 => x0 * y0 + 4294967296 * (x0 * y1) + 4294967296 * (x1 * y0)
  | _ => x0 * y0 + 4294967296 * (x0 * y1) + 4294967296 * (x1 * y0) + 18446744073709551616 * (x1 * y1)
def wide_Mul.Cr (V c s0 s1 s2 s3 : Int) : Prop :=
  0 ≤ s0 ∧ s0 ≤ 20000000000 ∧ 0 ≤ s1 ∧ s1 ≤ 20000000000 ∧ 0 ≤ s2 ∧ s2 ≤ 20000000000 ∧ 0 ≤ s3 ∧ s3 ≤ 20000000000 ∧ (1 ≤ c → s0 ≤ 4294967295) ∧ (2 ≤ c → s1 ≤ 4294967295) ∧ (3 ≤ c → s2 ≤ 4294967295) ∧ (c ≤ 1 → s2 ≤ 17179869180) ∧ (c ≤ 2 → s3 ≤ 17179869180) ∧ (c ≤ 0 → s1 ≤ 17179869180) ∧ s0 + 4294967296 * s1 + 18446744073709551616 * s2 + 79228162514264337593543950336 * s3 = V
theorem wide_Mul.all (x0 x1 y0 y1 : Int) : wide_Mul.V x0 x1 y0 y1 4 = (x0 + 4294967296 * x1) * (y0 + 4294967296 * y1) := by
  have e1 : x0 * (4294967296 * y1) = 4294967296 * (x0 * y1) := Int.mul_left_comm _ _ _
  have e2 : 4294967296 * x1 * (4294967296 * y1) = 18446744073709551616 * (x1 * y1) := by
    rw [Int.mul_assoc, Int.mul_left_comm x1]
    omega
  have e3 : 4294967296 * x1 * y0 = 4294967296 * (x1 * y0) := Int.mul_assoc _ _ _
  simp only [wide_Mul.V, Int.add_mul, Int.mul_add]
  rw [e1, e2, e3]
  omega
set_option maxHeartbeats 16000000 in
set_option maxRecDepth 100000 in
theorem wide_Mul.calls (a0 : Int) (a1 : Int) (r1 : Int) (r2 : Int) (w : World) (h : wide_Mul.f a0 a1 = some (r1, r2)) :
    Calls Try.prog 79 #[.int .u64 a0, .int .u64 a1] w fun e w' => e = .returned (.tuple #[.int .u64 r1, .int .u64 r2]) ∧ Below w.heap.size w w' := by
  have hb : 0 ≤ a0 ∧ a0 ≤ 18446744073709551615 ∧ 0 ≤ a1 ∧ a1 ≤ 18446744073709551615 ∧ a0 * a1 / 18446744073709551616 = r1 ∧ a0 * a1 % 18446744073709551616 = r2 := by
    unfold wide_Mul.f at h
    split at h
    · rename_i c
      have e := Prod.mk.inj (Option.some.inj h)
      exact ⟨c.1, c.2.1, c.2.2.1, c.2.2.2, e.1, e.2⟩
    · cases h
  have HA := Aside0.mk hb
  clear h hb
  go_enter Try.func79, Try.ntmps79
  go_wp2_with (first | (go_at_call 88; (with_reducible refine (wide_halves.calls a0 _ HA.out.1 HA.out.2.1).mono ?_); rintro e w' ⟨rfl, rfl⟩) | (go_at_call 88; (with_reducible refine (wide_halves.calls a1 _ HA.out.2.2.1 HA.out.2.2.2.1).mono ?_); rintro e w' ⟨rfl, rfl⟩))
  obtain ⟨x0, e0⟩ : ∃ x, a0 % 4294967296 = x := ⟨_, rfl⟩
  obtain ⟨x1, e1⟩ : ∃ x, a0 / 4294967296 = x := ⟨_, rfl⟩
  obtain ⟨y0, e2⟩ : ∃ x, a1 % 4294967296 = x := ⟨_, rfl⟩
  obtain ⟨y1, e3⟩ : ∃ x, a1 / 4294967296 = x := ⟨_, rfl⟩
  rw [e0, e1, e2, e3]
  have hx : 0 ≤ x0 ∧ x0 ≤ 4294967295 ∧ 0 ≤ x1 ∧ x1 ≤ 4294967295 ∧ 0 ≤ y0 ∧ y0 ≤ 4294967295 ∧ 0 ≤ y1 ∧ y1 ≤ 4294967295 ∧ a0 = x0 + 4294967296 * x1 ∧ a1 = y0 + 4294967296 * y1 := by
    have := HA.out
    omega
  have HX := Aside0.mk hx
  clear e0 e1 e2 e3 hx
  have hbel : Below w.heap.size w (((((w.alloc (Obj.cells #[Value.int IntKind.u64 x0, Value.int IntKind.u64 x1] 122)).alloc (Obj.cells #[Value.int IntKind.u64 y0, Value.int IntKind.u64 y1] 122)).alloc (Obj.cells #[Value.int IntKind.u64 x0, Value.int IntKind.u64 x1] 122)).alloc (Obj.cells #[Value.int IntKind.u64 y0, Value.int IntKind.u64 y1] 122)).alloc (Obj.cells #[Value.int IntKind.u64 0, Value.int IntKind.u64 0, Value.int IntKind.u64 0, Value.int IntKind.u64 0] 128)) := by
    repeat (first | exact Below.refl _ _ | apply below_alloc)
  obtain ⟨X, hX⟩ : ∃ X, w.heap.size + 1 + 1 = X := ⟨_, rfl⟩
  rw [hX]
  have hXw : w.heap.size ≤ X := by omega
  have hcx : (((((w.alloc (Obj.cells #[Value.int IntKind.u64 x0, Value.int IntKind.u64 x1] 122)).alloc (Obj.cells #[Value.int IntKind.u64 y0, Value.int IntKind.u64 y1] 122)).alloc (Obj.cells #[Value.int IntKind.u64 x0, Value.int IntKind.u64 x1] 122)).alloc (Obj.cells #[Value.int IntKind.u64 y0, Value.int IntKind.u64 y1] 122)).alloc (Obj.cells #[Value.int IntKind.u64 0, Value.int IntKind.u64 0, Value.int IntKind.u64 0, Value.int IntKind.u64 0] 128)).heap[X]? = some (Obj.cells #[Value.int IntKind.u64 x0, Value.int IntKind.u64 x1] 122 (0, 0)) := blk_alloc (blk_alloc (wide_halves.blk_at_new ((w.alloc _).alloc _) _ X (by simp; omega)) _) _
  have hcy : (((((w.alloc (Obj.cells #[Value.int IntKind.u64 x0, Value.int IntKind.u64 x1] 122)).alloc (Obj.cells #[Value.int IntKind.u64 y0, Value.int IntKind.u64 y1] 122)).alloc (Obj.cells #[Value.int IntKind.u64 x0, Value.int IntKind.u64 x1] 122)).alloc (Obj.cells #[Value.int IntKind.u64 y0, Value.int IntKind.u64 y1] 122)).alloc (Obj.cells #[Value.int IntKind.u64 0, Value.int IntKind.u64 0, Value.int IntKind.u64 0, Value.int IntKind.u64 0] 128)).heap[X + 1]? = some (Obj.cells #[Value.int IntKind.u64 y0, Value.int IntKind.u64 y1] 122 (0, 0)) := blk_alloc (wide_halves.blk_at_new (((w.alloc _).alloc _).alloc _) _ (X + 1) (by simp; omega)) _
  have hcz : (((((w.alloc (Obj.cells #[Value.int IntKind.u64 x0, Value.int IntKind.u64 x1] 122)).alloc (Obj.cells #[Value.int IntKind.u64 y0, Value.int IntKind.u64 y1] 122)).alloc (Obj.cells #[Value.int IntKind.u64 x0, Value.int IntKind.u64 x1] 122)).alloc (Obj.cells #[Value.int IntKind.u64 y0, Value.int IntKind.u64 y1] 122)).alloc (Obj.cells #[Value.int IntKind.u64 0, Value.int IntKind.u64 0, Value.int IntKind.u64 0, Value.int IntKind.u64 0] 128)).heap[X + 1 + 1]? = some (Obj.cells #[Value.int IntKind.u64 0, Value.int IntKind.u64 0, Value.int IntKind.u64 0, Value.int IntKind.u64 0] 128 (0, 0)) := wide_halves.blk_at_new ((((w.alloc _).alloc _).alloc _).alloc _) _ (X + 1 + 1) (by simp; omega)
  generalize (((((w.alloc (Obj.cells #[Value.int IntKind.u64 x0, Value.int IntKind.u64 x1] 122)).alloc (Obj.cells #[Value.int IntKind.u64 y0, Value.int IntKind.u64 y1] 122)).alloc (Obj.cells #[Value.int IntKind.u64 x0, Value.int IntKind.u64 x1] 122)).alloc (Obj.cells #[Value.int IntKind.u64 y0, Value.int IntKind.u64 y1] 122)).alloc (Obj.cells #[Value.int IntKind.u64 0, Value.int IntKind.u64 0, Value.int IntKind.u64 0, Value.int IntKind.u64 0] 128)) = w0 at hbel hcx hcy hcz ⊢
  have HXW := Aside0.mk hXw
  have HB := Aside0.mk hbel
  have HCX := Aside0.mk hcx
  have HCY := Aside0.mk hcy
  have HCZ := Aside0.mk hcz
  clear hbel hcx hcy hcz hX hXw
  go_loopg [17] 2 (fun g i wr => ∃ j : Nat, ∃ c s0 s1 s2 s3 : Int, (j = 0 ∧ c = 0 ∧ g = 2 ∨ j = 2 ∧ c = 1 ∧ g = 1 ∨ j = 4 ∧ c = 2 ∧ g = 0) ∧ i = .int .i64 c ∧ wide_Mul.St (wide_Mul.V x0 x1 y0 y1 j) j s0 s1 s2 s3 ∧ wr.heap[X]? = some (Obj.cells #[Value.int IntKind.u64 x0, Value.int IntKind.u64 x1] 122 (0, 0)) ∧ wr.heap[X + 1]? = some (Obj.cells #[Value.int IntKind.u64 y0, Value.int IntKind.u64 y1] 122 (0, 0)) ∧ wr.heap[X + 1 + 1]? = some (Obj.cells #[Value.int IntKind.u64 s0, Value.int IntKind.u64 s1, Value.int IntKind.u64 s2, Value.int IntKind.u64 s3] 128 (0, 0)) ∧ Below w.heap.size w wr)
  case atStart => exact ⟨0, 0, 0, 0, 0, 0, .inl ⟨rfl, rfl, rfl⟩, rfl, by unfold wide_Mul.St wide_Mul.V; simp, HCX.out, HCY.out, HCZ.out, HB.out⟩
  case round =>
    obtain ⟨j, c, s0, s1, s2, s3, hj, rfl, hst, hcx, hcy, hcz, hbel⟩ := hrel
    clear HB HCX HCY HCZ
    have HST := Aside0.mk hst
    have HB := Aside0.mk hbel
    have HCX := Aside0.mk hcx
    have HCY := Aside0.mk hcy
    have HCZ := Aside0.mk hcz
    clear hst hbel hcx hcy hcz
    obtain ⟨wo, rfl⟩ : ∃ wo : World, wo = wr := ⟨_, rfl⟩
    rcases hj with ⟨rfl, rfl, rfl⟩ | ⟨rfl, rfl, rfl⟩ | ⟨rfl, rfl, rfl⟩
    · go_wp2
      go_loopg [20] 2 (fun g q wr => ∃ j : Nat, ∃ c s0 s1 s2 s3 : Int, (j = 0 ∧ c = 0 ∧ g = 2 ∨ j = 1 ∧ c = 1 ∧ g = 1 ∨ j = 2 ∧ c = 2 ∧ g = 0) ∧ q = .int .i64 c ∧ wide_Mul.St (wide_Mul.V x0 x1 y0 y1 j) j s0 s1 s2 s3 ∧ wr.heap[X]? = some (Obj.cells #[Value.int IntKind.u64 x0, Value.int IntKind.u64 x1] 122 (0, 0)) ∧ wr.heap[X + 1]? = some (Obj.cells #[Value.int IntKind.u64 y0, Value.int IntKind.u64 y1] 122 (0, 0)) ∧ wr.heap[X + 1 + 1]? = some (Obj.cells #[Value.int IntKind.u64 s0, Value.int IntKind.u64 s1, Value.int IntKind.u64 s2, Value.int IntKind.u64 s3] 128 (0, 0)) ∧ Below w.heap.size w wr)
      case atStart => exact ⟨0, 0, s0, s1, s2, s3, .inl ⟨rfl, rfl, rfl⟩, rfl, HST.out, HCX.out, HCY.out, HCZ.out, HB.out⟩
      case round =>
        clear HB HCX HCY HCZ HST
        obtain ⟨j, c, s0, s1, s2, s3, hj, rfl, hst, hcx, hcy, hcz, hbel⟩ := hrel
        have HST := Aside0.mk hst
        have HB := Aside0.mk hbel
        have HCX := Aside0.mk hcx
        have HCY := Aside0.mk hcy
        have HCZ := Aside0.mk hcz
        clear hst hbel hcx hcy hcz
        rcases hj with ⟨rfl, rfl, rfl⟩ | ⟨rfl, rfl, rfl⟩ | ⟨rfl, rfl, rfl⟩
        · obtain ⟨p, hp⟩ : ∃ p, x0 * y0 = p := ⟨_, rfl⟩
          have hpb : 0 ≤ p ∧ p ≤ 18446744073709551615 := by
            have := HX.out
            rw [← hp]
            exact wide_halves.prod_bd _ _ (by omega) (by omega) (by omega) (by omega)
          have hw : IntKind.u64.wrap (x0 * y0) = p := by rw [IntKind.wrap_u64, hp]; omega
          have HP := Aside0.mk hp
          have HPB := Aside0.mk hpb
          clear hp hpb
          have cx := (blk_cell HCX.out 0).trans (show _ = some (Value.int IntKind.u64 x0) from rfl)
          have cy := (blk_cell HCY.out 0).trans (show _ = some (Value.int IntKind.u64 y0) from rfl)
          have hx1 : X < wr.heap.size := blk_lt HCX.out
          have hy1 : X + 1 < wr.heap.size := blk_lt HCY.out
          have hz1 : X + 1 + 1 < wr.heap.size := blk_lt HCZ.out
          have cx0 : ∀ o, (wr.alloc o).cell? ⟨X, 0, none⟩ = some (Value.int IntKind.u64 x0) := fun o => (blk_cell (blk_alloc HCX.out o) 0).trans rfl
          have cy0 : ∀ o, (wr.alloc o).cell? ⟨X + 1, 0, none⟩ = some (Value.int IntKind.u64 y0) := fun o => (blk_cell (blk_alloc HCY.out o) 0).trans rfl
          go_upto_region 9 with fail
          go_cut [11] (fun s11 wx => ∃ P : Nat, s11 = .pointer (some ⟨P, 0, none⟩) ∧ w.heap.size ≤ P ∧ wx.heap[P]? = some (Obj.cells #[Value.int IntKind.u64 (p % 4294967296), Value.int IntKind.u64 (p / 4294967296)] 122 (0, 0)) ∧ wx.heap[X]? = some (Obj.cells #[Value.int IntKind.u64 x0, Value.int IntKind.u64 x1] 122 (0, 0)) ∧ wx.heap[X + 1]? = some (Obj.cells #[Value.int IntKind.u64 y0, Value.int IntKind.u64 y1] 122 (0, 0)) ∧ wx.heap[X + 1 + 1]? = some (Obj.cells #[Value.int IntKind.u64 s0, Value.int IntKind.u64 s1, Value.int IntKind.u64 s2, Value.int IntKind.u64 s3] 128 (0, 0)) ∧ Below w.heap.size w wx)
          case first =>
            go_region_held3 (fun w' => w'.cell? ⟨X, 0, none⟩ = some (Value.int IntKind.u64 x0) ∧ w'.cell? ⟨X + 1, 0, none⟩ = some (Value.int IntKind.u64 y0)) (go_keep) (first | (go_at_call 88; (with_reducible refine (wide_halves.calls p _ HPB.out.1 HPB.out.2).mono ?_); rintro e w' ⟨rfl, rfl⟩))
            all_goals (go_wp2_with fail; go_meet)
            all_goals (case rel => first | exact ⟨wr.heap.size + 1, rfl, by have q1 := blk_lt HCX.out; have q2 := HXW.out; omega, blk_drew (wide_halves.blk_at_new (wr.alloc _) _ _ (by simp)), blk_drew (blk_alloc (blk_alloc HCX.out _) _), blk_drew (blk_alloc (blk_alloc HCY.out _) _), blk_drew (blk_alloc (blk_alloc HCZ.out _) _), below_drew (below_alloc (below_alloc HB.out _) _)⟩ | exact ⟨wr.heap.size, rfl, by have q1 := blk_lt HCX.out; have q2 := HXW.out; omega, blk_drew (blk_alloc (blk_new wr _) _), blk_drew (blk_alloc (blk_alloc HCX.out _) _), blk_drew (blk_alloc (blk_alloc HCY.out _) _), blk_drew (blk_alloc (blk_alloc HCZ.out _) _), below_drew (below_alloc (below_alloc HB.out _) _)⟩)
          case rest =>
            obtain ⟨P, rfl, hPw, hp, hcx, hcy, hcz, hbel⟩ := hcut
            clear cx cy hx1 hy1 hz1 cx0 cy0 hw
            obtain ⟨wb, rfl⟩ : ∃ wb : World, wb = wc := ⟨_, rfl⟩
            obtain ⟨pl, e1⟩ : ∃ x, p % 4294967296 = x := ⟨_, rfl⟩
            obtain ⟨ph, e2⟩ : ∃ x, p / 4294967296 = x := ⟨_, rfl⟩
            rw [e1, e2] at hp
            have hq : 0 ≤ pl ∧ pl ≤ 4294967295 ∧ 0 ≤ ph ∧ ph ≤ 4294967295 ∧ p = pl + 4294967296 * ph := by
              have := HPB.out
              omega
            have HQ := Aside0.mk hq
            clear e1 e2 hq
            have cz := (blk_cell hcz 0).trans (show _ = some (Value.int IntKind.u64 s0) from rfl)
            have cz2 := (blk_cell hcz 1).trans (show _ = some (Value.int IntKind.u64 s1) from rfl)
            have cp := (blk_cell hp 0).trans (show _ = some (Value.int IntKind.u64 pl) from rfl)
            have cp2 := (blk_cell hp 1).trans (show _ = some (Value.int IntKind.u64 ph) from rfl)
            have fz := blk_frozen hcz 0
            have fz2 := blk_frozen hcz 1
            have w1 : IntKind.u64.wrap (s0 + pl) = s0 + pl := by
              have h1 := HST.out
              have h2 := HQ.out
              unfold wide_Mul.St at h1
              rw [IntKind.wrap_u64]
              omega
            have w2 : IntKind.u64.wrap (s1 + ph) = s1 + ph := by
              have h1 := HST.out
              have h2 := HQ.out
              unfold wide_Mul.St at h1
              rw [IntKind.wrap_u64]
              omega
            have hpz : P ≠ X + 1 + 1 := beq_eq_false_iff_ne.mp (wide_halves.blk_ne2 hp hcz (by decide))
            have cpS : ∀ v, (wb.setCell ⟨X + 1 + 1, 0, none⟩ v).cell? ⟨P, 1, none⟩ = some (Value.int IntKind.u64 ph) := fun v => (blk_cell (blk_far hp hpz v) 1).trans rfl
            have HCP := Aside0.mk hp
            have HCX := Aside0.mk hcx
            have HCY := Aside0.mk hcy
            have HCZ := Aside0.mk hcz
            have HB := Aside0.mk hbel
            have HPW := Aside0.mk hPw
            clear hp hcx hcy hcz hbel hPw
            go_wp2_with fail
            go_region
            go_wp2_with fail
            go_region
            go_wp2
            go_roundg 1
            case measure => omega
            case rel => exact ⟨1, 1, (s0 + pl), (s1 + ph), s2, s3, .inr (.inl ⟨rfl, rfl, rfl⟩), by first | rfl | go_num, by (have h1 := HST.out; have h2 := HQ.out; have h3 := HP.out; unfold wide_Mul.St at h1 ⊢; simp only [wide_Mul.V] at h1 ⊢; omega), blk_drew (blk_drew (blk_far (blk_far HCX.out (by simp; try omega) _) (by simp; try omega) _)), blk_drew (blk_drew (blk_far (blk_far HCY.out (by simp; try omega) _) (by simp; try omega) _)), blk_drew (blk_drew (blk_put (blk_put HCZ.out 0 _ rfl) 1 _ rfl)), below_drew (below_drew ((HB.out.setCell (by have q := HXW.out; simp; omega) _).setCell (by have q := HXW.out; simp; omega) _))⟩
        · obtain ⟨p, hp⟩ : ∃ p, x0 * y1 = p := ⟨_, rfl⟩
          have hpb : 0 ≤ p ∧ p ≤ 18446744073709551615 := by
            have := HX.out
            rw [← hp]
            exact wide_halves.prod_bd _ _ (by omega) (by omega) (by omega) (by omega)
          have hw : IntKind.u64.wrap (x0 * y1) = p := by rw [IntKind.wrap_u64, hp]; omega
          have HP := Aside0.mk hp
          have HPB := Aside0.mk hpb
          clear hp hpb
          have cx := (blk_cell HCX.out 0).trans (show _ = some (Value.int IntKind.u64 x0) from rfl)
          have cy := (blk_cell HCY.out 1).trans (show _ = some (Value.int IntKind.u64 y1) from rfl)
          have hx1 : X < wr.heap.size := blk_lt HCX.out
          have hy1 : X + 1 < wr.heap.size := blk_lt HCY.out
          have hz1 : X + 1 + 1 < wr.heap.size := blk_lt HCZ.out
          have cx0 : ∀ o, (wr.alloc o).cell? ⟨X, 0, none⟩ = some (Value.int IntKind.u64 x0) := fun o => (blk_cell (blk_alloc HCX.out o) 0).trans rfl
          have cy0 : ∀ o, (wr.alloc o).cell? ⟨X + 1, 1, none⟩ = some (Value.int IntKind.u64 y1) := fun o => (blk_cell (blk_alloc HCY.out o) 1).trans rfl
          go_upto_region 9 with fail
          go_cut [11] (fun s11 wx => ∃ P : Nat, s11 = .pointer (some ⟨P, 0, none⟩) ∧ w.heap.size ≤ P ∧ wx.heap[P]? = some (Obj.cells #[Value.int IntKind.u64 (p % 4294967296), Value.int IntKind.u64 (p / 4294967296)] 122 (0, 0)) ∧ wx.heap[X]? = some (Obj.cells #[Value.int IntKind.u64 x0, Value.int IntKind.u64 x1] 122 (0, 0)) ∧ wx.heap[X + 1]? = some (Obj.cells #[Value.int IntKind.u64 y0, Value.int IntKind.u64 y1] 122 (0, 0)) ∧ wx.heap[X + 1 + 1]? = some (Obj.cells #[Value.int IntKind.u64 s0, Value.int IntKind.u64 s1, Value.int IntKind.u64 s2, Value.int IntKind.u64 s3] 128 (0, 0)) ∧ Below w.heap.size w wx)
          case first =>
            go_region_held3 (fun w' => w'.cell? ⟨X, 0, none⟩ = some (Value.int IntKind.u64 x0) ∧ w'.cell? ⟨X + 1, 1, none⟩ = some (Value.int IntKind.u64 y1)) (go_keep) (first | (go_at_call 88; (with_reducible refine (wide_halves.calls p _ HPB.out.1 HPB.out.2).mono ?_); rintro e w' ⟨rfl, rfl⟩))
            all_goals (go_wp2_with fail; go_meet)
            all_goals (case rel => first | exact ⟨wr.heap.size + 1, rfl, by have q1 := blk_lt HCX.out; have q2 := HXW.out; omega, blk_drew (wide_halves.blk_at_new (wr.alloc _) _ _ (by simp)), blk_drew (blk_alloc (blk_alloc HCX.out _) _), blk_drew (blk_alloc (blk_alloc HCY.out _) _), blk_drew (blk_alloc (blk_alloc HCZ.out _) _), below_drew (below_alloc (below_alloc HB.out _) _)⟩ | exact ⟨wr.heap.size, rfl, by have q1 := blk_lt HCX.out; have q2 := HXW.out; omega, blk_drew (blk_alloc (blk_new wr _) _), blk_drew (blk_alloc (blk_alloc HCX.out _) _), blk_drew (blk_alloc (blk_alloc HCY.out _) _), blk_drew (blk_alloc (blk_alloc HCZ.out _) _), below_drew (below_alloc (below_alloc HB.out _) _)⟩)
          case rest =>
            obtain ⟨P, rfl, hPw, hp, hcx, hcy, hcz, hbel⟩ := hcut
            clear cx cy hx1 hy1 hz1 cx0 cy0 hw
            obtain ⟨wb, rfl⟩ : ∃ wb : World, wb = wc := ⟨_, rfl⟩
            obtain ⟨pl, e1⟩ : ∃ x, p % 4294967296 = x := ⟨_, rfl⟩
            obtain ⟨ph, e2⟩ : ∃ x, p / 4294967296 = x := ⟨_, rfl⟩
            rw [e1, e2] at hp
            have hq : 0 ≤ pl ∧ pl ≤ 4294967295 ∧ 0 ≤ ph ∧ ph ≤ 4294967295 ∧ p = pl + 4294967296 * ph := by
              have := HPB.out
              omega
            have HQ := Aside0.mk hq
            clear e1 e2 hq
            have cz := (blk_cell hcz 1).trans (show _ = some (Value.int IntKind.u64 s1) from rfl)
            have cz2 := (blk_cell hcz 2).trans (show _ = some (Value.int IntKind.u64 s2) from rfl)
            have cp := (blk_cell hp 0).trans (show _ = some (Value.int IntKind.u64 pl) from rfl)
            have cp2 := (blk_cell hp 1).trans (show _ = some (Value.int IntKind.u64 ph) from rfl)
            have fz := blk_frozen hcz 1
            have fz2 := blk_frozen hcz 2
            have w1 : IntKind.u64.wrap (s1 + pl) = s1 + pl := by
              have h1 := HST.out
              have h2 := HQ.out
              unfold wide_Mul.St at h1
              rw [IntKind.wrap_u64]
              omega
            have w2 : IntKind.u64.wrap (s2 + ph) = s2 + ph := by
              have h1 := HST.out
              have h2 := HQ.out
              unfold wide_Mul.St at h1
              rw [IntKind.wrap_u64]
              omega
            have hpz : P ≠ X + 1 + 1 := beq_eq_false_iff_ne.mp (wide_halves.blk_ne2 hp hcz (by decide))
            have cpS : ∀ v, (wb.setCell ⟨X + 1 + 1, 1, none⟩ v).cell? ⟨P, 1, none⟩ = some (Value.int IntKind.u64 ph) := fun v => (blk_cell (blk_far hp hpz v) 1).trans rfl
            have HCP := Aside0.mk hp
            have HCX := Aside0.mk hcx
            have HCY := Aside0.mk hcy
            have HCZ := Aside0.mk hcz
            have HB := Aside0.mk hbel
            have HPW := Aside0.mk hPw
            clear hp hcx hcy hcz hbel hPw
            go_wp2_with fail
            go_region
            go_wp2_with fail
            go_region
            go_wp2
            go_roundg 0
            case measure => omega
            case rel => exact ⟨2, 2, s0, (s1 + pl), (s2 + ph), s3, .inr (.inr ⟨rfl, rfl, rfl⟩), by first | rfl | go_num, by (have h1 := HST.out; have h2 := HQ.out; have h3 := HP.out; unfold wide_Mul.St at h1 ⊢; simp only [wide_Mul.V] at h1 ⊢; omega), blk_drew (blk_drew (blk_far (blk_far HCX.out (by simp; try omega) _) (by simp; try omega) _)), blk_drew (blk_drew (blk_far (blk_far HCY.out (by simp; try omega) _) (by simp; try omega) _)), blk_drew (blk_drew (blk_put (blk_put HCZ.out 1 _ rfl) 2 _ rfl)), below_drew (below_drew ((HB.out.setCell (by have q := HXW.out; simp; omega) _).setCell (by have q := HXW.out; simp; omega) _))⟩
        · go_wp2
          go_roundg 1
          case measure => omega
          case rel => exact ⟨2, 1, s0, s1, s2, s3, .inr (.inl ⟨rfl, rfl, rfl⟩), by first | rfl | go_num, HST.out, HCX.out, HCY.out, HCZ.out, HB.out⟩
    · go_wp2
      go_loopg [20] 2 (fun g q wr => ∃ j : Nat, ∃ c s0 s1 s2 s3 : Int, (j = 2 ∧ c = 0 ∧ g = 2 ∨ j = 3 ∧ c = 1 ∧ g = 1 ∨ j = 4 ∧ c = 2 ∧ g = 0) ∧ q = .int .i64 c ∧ wide_Mul.St (wide_Mul.V x0 x1 y0 y1 j) j s0 s1 s2 s3 ∧ wr.heap[X]? = some (Obj.cells #[Value.int IntKind.u64 x0, Value.int IntKind.u64 x1] 122 (0, 0)) ∧ wr.heap[X + 1]? = some (Obj.cells #[Value.int IntKind.u64 y0, Value.int IntKind.u64 y1] 122 (0, 0)) ∧ wr.heap[X + 1 + 1]? = some (Obj.cells #[Value.int IntKind.u64 s0, Value.int IntKind.u64 s1, Value.int IntKind.u64 s2, Value.int IntKind.u64 s3] 128 (0, 0)) ∧ Below w.heap.size w wr)
      case atStart => exact ⟨2, 0, s0, s1, s2, s3, .inl ⟨rfl, rfl, rfl⟩, rfl, HST.out, HCX.out, HCY.out, HCZ.out, HB.out⟩
      case round =>
        clear HB HCX HCY HCZ HST
        obtain ⟨j, c, s0, s1, s2, s3, hj, rfl, hst, hcx, hcy, hcz, hbel⟩ := hrel
        have HST := Aside0.mk hst
        have HB := Aside0.mk hbel
        have HCX := Aside0.mk hcx
        have HCY := Aside0.mk hcy
        have HCZ := Aside0.mk hcz
        clear hst hbel hcx hcy hcz
        rcases hj with ⟨rfl, rfl, rfl⟩ | ⟨rfl, rfl, rfl⟩ | ⟨rfl, rfl, rfl⟩
        · obtain ⟨p, hp⟩ : ∃ p, x1 * y0 = p := ⟨_, rfl⟩
          have hpb : 0 ≤ p ∧ p ≤ 18446744073709551615 := by
            have := HX.out
            rw [← hp]
            exact wide_halves.prod_bd _ _ (by omega) (by omega) (by omega) (by omega)
          have hw : IntKind.u64.wrap (x1 * y0) = p := by rw [IntKind.wrap_u64, hp]; omega
          have HP := Aside0.mk hp
          have HPB := Aside0.mk hpb
          clear hp hpb
          have cx := (blk_cell HCX.out 1).trans (show _ = some (Value.int IntKind.u64 x1) from rfl)
          have cy := (blk_cell HCY.out 0).trans (show _ = some (Value.int IntKind.u64 y0) from rfl)
          have hx1 : X < wr.heap.size := blk_lt HCX.out
          have hy1 : X + 1 < wr.heap.size := blk_lt HCY.out
          have hz1 : X + 1 + 1 < wr.heap.size := blk_lt HCZ.out
          have cx0 : ∀ o, (wr.alloc o).cell? ⟨X, 1, none⟩ = some (Value.int IntKind.u64 x1) := fun o => (blk_cell (blk_alloc HCX.out o) 1).trans rfl
          have cy0 : ∀ o, (wr.alloc o).cell? ⟨X + 1, 0, none⟩ = some (Value.int IntKind.u64 y0) := fun o => (blk_cell (blk_alloc HCY.out o) 0).trans rfl
          go_upto_region 9 with fail
          go_cut [11] (fun s11 wx => ∃ P : Nat, s11 = .pointer (some ⟨P, 0, none⟩) ∧ w.heap.size ≤ P ∧ wx.heap[P]? = some (Obj.cells #[Value.int IntKind.u64 (p % 4294967296), Value.int IntKind.u64 (p / 4294967296)] 122 (0, 0)) ∧ wx.heap[X]? = some (Obj.cells #[Value.int IntKind.u64 x0, Value.int IntKind.u64 x1] 122 (0, 0)) ∧ wx.heap[X + 1]? = some (Obj.cells #[Value.int IntKind.u64 y0, Value.int IntKind.u64 y1] 122 (0, 0)) ∧ wx.heap[X + 1 + 1]? = some (Obj.cells #[Value.int IntKind.u64 s0, Value.int IntKind.u64 s1, Value.int IntKind.u64 s2, Value.int IntKind.u64 s3] 128 (0, 0)) ∧ Below w.heap.size w wx)
          case first =>
            go_region_held3 (fun w' => w'.cell? ⟨X, 1, none⟩ = some (Value.int IntKind.u64 x1) ∧ w'.cell? ⟨X + 1, 0, none⟩ = some (Value.int IntKind.u64 y0)) (go_keep) (first | (go_at_call 88; (with_reducible refine (wide_halves.calls p _ HPB.out.1 HPB.out.2).mono ?_); rintro e w' ⟨rfl, rfl⟩))
            all_goals (go_wp2_with fail; go_meet)
            all_goals (case rel => first | exact ⟨wr.heap.size + 1, rfl, by have q1 := blk_lt HCX.out; have q2 := HXW.out; omega, blk_drew (wide_halves.blk_at_new (wr.alloc _) _ _ (by simp)), blk_drew (blk_alloc (blk_alloc HCX.out _) _), blk_drew (blk_alloc (blk_alloc HCY.out _) _), blk_drew (blk_alloc (blk_alloc HCZ.out _) _), below_drew (below_alloc (below_alloc HB.out _) _)⟩ | exact ⟨wr.heap.size, rfl, by have q1 := blk_lt HCX.out; have q2 := HXW.out; omega, blk_drew (blk_alloc (blk_new wr _) _), blk_drew (blk_alloc (blk_alloc HCX.out _) _), blk_drew (blk_alloc (blk_alloc HCY.out _) _), blk_drew (blk_alloc (blk_alloc HCZ.out _) _), below_drew (below_alloc (below_alloc HB.out _) _)⟩)
          case rest =>
            obtain ⟨P, rfl, hPw, hp, hcx, hcy, hcz, hbel⟩ := hcut
            clear cx cy hx1 hy1 hz1 cx0 cy0 hw
            obtain ⟨wb, rfl⟩ : ∃ wb : World, wb = wc := ⟨_, rfl⟩
            obtain ⟨pl, e1⟩ : ∃ x, p % 4294967296 = x := ⟨_, rfl⟩
            obtain ⟨ph, e2⟩ : ∃ x, p / 4294967296 = x := ⟨_, rfl⟩
            rw [e1, e2] at hp
            have hq : 0 ≤ pl ∧ pl ≤ 4294967295 ∧ 0 ≤ ph ∧ ph ≤ 4294967295 ∧ p = pl + 4294967296 * ph := by
              have := HPB.out
              omega
            have HQ := Aside0.mk hq
            clear e1 e2 hq
            have cz := (blk_cell hcz 1).trans (show _ = some (Value.int IntKind.u64 s1) from rfl)
            have cz2 := (blk_cell hcz 2).trans (show _ = some (Value.int IntKind.u64 s2) from rfl)
            have cp := (blk_cell hp 0).trans (show _ = some (Value.int IntKind.u64 pl) from rfl)
            have cp2 := (blk_cell hp 1).trans (show _ = some (Value.int IntKind.u64 ph) from rfl)
            have fz := blk_frozen hcz 1
            have fz2 := blk_frozen hcz 2
            have w1 : IntKind.u64.wrap (s1 + pl) = s1 + pl := by
              have h1 := HST.out
              have h2 := HQ.out
              unfold wide_Mul.St at h1
              rw [IntKind.wrap_u64]
              omega
            have w2 : IntKind.u64.wrap (s2 + ph) = s2 + ph := by
              have h1 := HST.out
              have h2 := HQ.out
              unfold wide_Mul.St at h1
              rw [IntKind.wrap_u64]
              omega
            have hpz : P ≠ X + 1 + 1 := beq_eq_false_iff_ne.mp (wide_halves.blk_ne2 hp hcz (by decide))
            have cpS : ∀ v, (wb.setCell ⟨X + 1 + 1, 1, none⟩ v).cell? ⟨P, 1, none⟩ = some (Value.int IntKind.u64 ph) := fun v => (blk_cell (blk_far hp hpz v) 1).trans rfl
            have HCP := Aside0.mk hp
            have HCX := Aside0.mk hcx
            have HCY := Aside0.mk hcy
            have HCZ := Aside0.mk hcz
            have HB := Aside0.mk hbel
            have HPW := Aside0.mk hPw
            clear hp hcx hcy hcz hbel hPw
            go_wp2_with fail
            go_region
            go_wp2_with fail
            go_region
            go_wp2
            go_roundg 1
            case measure => omega
            case rel => exact ⟨3, 1, s0, (s1 + pl), (s2 + ph), s3, .inr (.inl ⟨rfl, rfl, rfl⟩), by first | rfl | go_num, by (have h1 := HST.out; have h2 := HQ.out; have h3 := HP.out; unfold wide_Mul.St at h1 ⊢; simp only [wide_Mul.V] at h1 ⊢; omega), blk_drew (blk_drew (blk_far (blk_far HCX.out (by simp; try omega) _) (by simp; try omega) _)), blk_drew (blk_drew (blk_far (blk_far HCY.out (by simp; try omega) _) (by simp; try omega) _)), blk_drew (blk_drew (blk_put (blk_put HCZ.out 1 _ rfl) 2 _ rfl)), below_drew (below_drew ((HB.out.setCell (by have q := HXW.out; simp; omega) _).setCell (by have q := HXW.out; simp; omega) _))⟩
        · obtain ⟨p, hp⟩ : ∃ p, x1 * y1 = p := ⟨_, rfl⟩
          have hpb : 0 ≤ p ∧ p ≤ 18446744073709551615 := by
            have := HX.out
            rw [← hp]
            exact wide_halves.prod_bd _ _ (by omega) (by omega) (by omega) (by omega)
          have hw : IntKind.u64.wrap (x1 * y1) = p := by rw [IntKind.wrap_u64, hp]; omega
          have HP := Aside0.mk hp
          have HPB := Aside0.mk hpb
          clear hp hpb
          have cx := (blk_cell HCX.out 1).trans (show _ = some (Value.int IntKind.u64 x1) from rfl)
          have cy := (blk_cell HCY.out 1).trans (show _ = some (Value.int IntKind.u64 y1) from rfl)
          have hx1 : X < wr.heap.size := blk_lt HCX.out
          have hy1 : X + 1 < wr.heap.size := blk_lt HCY.out
          have hz1 : X + 1 + 1 < wr.heap.size := blk_lt HCZ.out
          have cx0 : ∀ o, (wr.alloc o).cell? ⟨X, 1, none⟩ = some (Value.int IntKind.u64 x1) := fun o => (blk_cell (blk_alloc HCX.out o) 1).trans rfl
          have cy0 : ∀ o, (wr.alloc o).cell? ⟨X + 1, 1, none⟩ = some (Value.int IntKind.u64 y1) := fun o => (blk_cell (blk_alloc HCY.out o) 1).trans rfl
          go_upto_region 9 with fail
          go_cut [11] (fun s11 wx => ∃ P : Nat, s11 = .pointer (some ⟨P, 0, none⟩) ∧ w.heap.size ≤ P ∧ wx.heap[P]? = some (Obj.cells #[Value.int IntKind.u64 (p % 4294967296), Value.int IntKind.u64 (p / 4294967296)] 122 (0, 0)) ∧ wx.heap[X]? = some (Obj.cells #[Value.int IntKind.u64 x0, Value.int IntKind.u64 x1] 122 (0, 0)) ∧ wx.heap[X + 1]? = some (Obj.cells #[Value.int IntKind.u64 y0, Value.int IntKind.u64 y1] 122 (0, 0)) ∧ wx.heap[X + 1 + 1]? = some (Obj.cells #[Value.int IntKind.u64 s0, Value.int IntKind.u64 s1, Value.int IntKind.u64 s2, Value.int IntKind.u64 s3] 128 (0, 0)) ∧ Below w.heap.size w wx)
          case first =>
            go_region_held3 (fun w' => w'.cell? ⟨X, 1, none⟩ = some (Value.int IntKind.u64 x1) ∧ w'.cell? ⟨X + 1, 1, none⟩ = some (Value.int IntKind.u64 y1)) (go_keep) (first | (go_at_call 88; (with_reducible refine (wide_halves.calls p _ HPB.out.1 HPB.out.2).mono ?_); rintro e w' ⟨rfl, rfl⟩))
            all_goals (go_wp2_with fail; go_meet)
            all_goals (case rel => first | exact ⟨wr.heap.size + 1, rfl, by have q1 := blk_lt HCX.out; have q2 := HXW.out; omega, blk_drew (wide_halves.blk_at_new (wr.alloc _) _ _ (by simp)), blk_drew (blk_alloc (blk_alloc HCX.out _) _), blk_drew (blk_alloc (blk_alloc HCY.out _) _), blk_drew (blk_alloc (blk_alloc HCZ.out _) _), below_drew (below_alloc (below_alloc HB.out _) _)⟩ | exact ⟨wr.heap.size, rfl, by have q1 := blk_lt HCX.out; have q2 := HXW.out; omega, blk_drew (blk_alloc (blk_new wr _) _), blk_drew (blk_alloc (blk_alloc HCX.out _) _), blk_drew (blk_alloc (blk_alloc HCY.out _) _), blk_drew (blk_alloc (blk_alloc HCZ.out _) _), below_drew (below_alloc (below_alloc HB.out _) _)⟩)
          case rest =>
            obtain ⟨P, rfl, hPw, hp, hcx, hcy, hcz, hbel⟩ := hcut
            clear cx cy hx1 hy1 hz1 cx0 cy0 hw
            obtain ⟨wb, rfl⟩ : ∃ wb : World, wb = wc := ⟨_, rfl⟩
            obtain ⟨pl, e1⟩ : ∃ x, p % 4294967296 = x := ⟨_, rfl⟩
            obtain ⟨ph, e2⟩ : ∃ x, p / 4294967296 = x := ⟨_, rfl⟩
            rw [e1, e2] at hp
            have hq : 0 ≤ pl ∧ pl ≤ 4294967295 ∧ 0 ≤ ph ∧ ph ≤ 4294967295 ∧ p = pl + 4294967296 * ph := by
              have := HPB.out
              omega
            have HQ := Aside0.mk hq
            clear e1 e2 hq
            have cz := (blk_cell hcz 2).trans (show _ = some (Value.int IntKind.u64 s2) from rfl)
            have cz2 := (blk_cell hcz 3).trans (show _ = some (Value.int IntKind.u64 s3) from rfl)
            have cp := (blk_cell hp 0).trans (show _ = some (Value.int IntKind.u64 pl) from rfl)
            have cp2 := (blk_cell hp 1).trans (show _ = some (Value.int IntKind.u64 ph) from rfl)
            have fz := blk_frozen hcz 2
            have fz2 := blk_frozen hcz 3
            have w1 : IntKind.u64.wrap (s2 + pl) = s2 + pl := by
              have h1 := HST.out
              have h2 := HQ.out
              unfold wide_Mul.St at h1
              rw [IntKind.wrap_u64]
              omega
            have w2 : IntKind.u64.wrap (s3 + ph) = s3 + ph := by
              have h1 := HST.out
              have h2 := HQ.out
              unfold wide_Mul.St at h1
              rw [IntKind.wrap_u64]
              omega
            have hpz : P ≠ X + 1 + 1 := beq_eq_false_iff_ne.mp (wide_halves.blk_ne2 hp hcz (by decide))
            have cpS : ∀ v, (wb.setCell ⟨X + 1 + 1, 2, none⟩ v).cell? ⟨P, 1, none⟩ = some (Value.int IntKind.u64 ph) := fun v => (blk_cell (blk_far hp hpz v) 1).trans rfl
            have HCP := Aside0.mk hp
            have HCX := Aside0.mk hcx
            have HCY := Aside0.mk hcy
            have HCZ := Aside0.mk hcz
            have HB := Aside0.mk hbel
            have HPW := Aside0.mk hPw
            clear hp hcx hcy hcz hbel hPw
            go_wp2_with fail
            go_region
            go_wp2_with fail
            go_region
            go_wp2
            go_roundg 0
            case measure => omega
            case rel => exact ⟨4, 2, s0, s1, (s2 + pl), (s3 + ph), .inr (.inr ⟨rfl, rfl, rfl⟩), by first | rfl | go_num, by (have h1 := HST.out; have h2 := HQ.out; have h3 := HP.out; unfold wide_Mul.St at h1 ⊢; simp only [wide_Mul.V] at h1 ⊢; omega), blk_drew (blk_drew (blk_far (blk_far HCX.out (by simp; try omega) _) (by simp; try omega) _)), blk_drew (blk_drew (blk_far (blk_far HCY.out (by simp; try omega) _) (by simp; try omega) _)), blk_drew (blk_drew (blk_put (blk_put HCZ.out 2 _ rfl) 3 _ rfl)), below_drew (below_drew ((HB.out.setCell (by have q := HXW.out; simp; omega) _).setCell (by have q := HXW.out; simp; omega) _))⟩
        · go_wp2
          go_roundg 0
          case measure => omega
          case rel => exact ⟨4, 2, s0, s1, s2, s3, .inr (.inr ⟨rfl, rfl, rfl⟩), by first | rfl | go_num, HST.out, HCX.out, HCY.out, HCZ.out, HB.out⟩
    · go_wp2
      have hst := HST.out
      have hcr : wide_Mul.Cr (wide_Mul.V x0 x1 y0 y1 4) 0 s0 s1 s2 s3 := by
        unfold wide_Mul.St at hst
        unfold wide_Mul.Cr
        omega
      have HCR := Aside0.mk hcr
      clear hst hcr HST HCX HCY
      go_loopg [52] 3 (fun g q wr => ∃ c s0 s1 s2 s3 : Int, (c = 0 ∧ g = 3 ∨ c = 1 ∧ g = 2 ∨ c = 2 ∧ g = 1 ∨ c = 3 ∧ g = 0) ∧ q = .int .i64 c ∧ wide_Mul.Cr (wide_Mul.V x0 x1 y0 y1 4) c s0 s1 s2 s3 ∧ wr.heap[X + 1 + 1]? = some (Obj.cells #[Value.int IntKind.u64 s0, Value.int IntKind.u64 s1, Value.int IntKind.u64 s2, Value.int IntKind.u64 s3] 128 (0, 0)) ∧ Below w.heap.size w wr)
      case atStart => exact ⟨0, s0, s1, s2, s3, .inl ⟨rfl, rfl⟩, rfl, HCR.out, HCZ.out, HB.out⟩
      case round =>
        clear HB HCZ HCR
        obtain ⟨c, s0, s1, s2, s3, hj, rfl, hst, hcz, hbel⟩ := hrel
        have HST := Aside0.mk hst
        have HB := Aside0.mk hbel
        have HCZ := Aside0.mk hcz
        clear hst hbel hcz
        rcases hj with ⟨rfl, rfl⟩ | ⟨rfl, rfl⟩ | ⟨rfl, rfl⟩ | ⟨rfl, rfl⟩
        · have cz := (blk_cell HCZ.out 0).trans (show _ = some (Value.int IntKind.u64 s0) from rfl)
          have cz2 := (blk_cell HCZ.out 1).trans (show _ = some (Value.int IntKind.u64 s1) from rfl)
          have fz := blk_frozen HCZ.out 0
          have fz2 := blk_frozen HCZ.out 1
          have w1 : IntKind.u64.wrap (s1 + s0 / 4294967296) = s1 + s0 / 4294967296 := by
            have h1 := HST.out
            unfold wide_Mul.Cr at h1
            rw [IntKind.wrap_u64]
            omega
          have w2 : Go.bits .and .u64 s0 4294967295 = s0 % 4294967296 := by
            have h1 := HST.out
            unfold wide_Mul.Cr at h1
            exact wide_halves.and_ _ (by omega) (by omega)
          go_wp2_with fail
          go_region
          go_wp2
          go_roundg 2
          case measure => omega
          case rel => exact ⟨1, (s0 % 4294967296), (s1 + s0 / 4294967296), s2, s3, .inr (.inl ⟨rfl, rfl⟩), by first | rfl | go_num, by (have h1 := HST.out; unfold wide_Mul.Cr at h1 ⊢; omega), blk_drew (blk_put (blk_put HCZ.out 1 _ rfl) 0 _ rfl), below_drew ((HB.out.setCell (by have q := HXW.out; simp; omega) _).setCell (by have q := HXW.out; simp; omega) _)⟩
        · have cz := (blk_cell HCZ.out 1).trans (show _ = some (Value.int IntKind.u64 s1) from rfl)
          have cz2 := (blk_cell HCZ.out 2).trans (show _ = some (Value.int IntKind.u64 s2) from rfl)
          have fz := blk_frozen HCZ.out 1
          have fz2 := blk_frozen HCZ.out 2
          have w1 : IntKind.u64.wrap (s2 + s1 / 4294967296) = s2 + s1 / 4294967296 := by
            have h1 := HST.out
            unfold wide_Mul.Cr at h1
            rw [IntKind.wrap_u64]
            omega
          have w2 : Go.bits .and .u64 s1 4294967295 = s1 % 4294967296 := by
            have h1 := HST.out
            unfold wide_Mul.Cr at h1
            exact wide_halves.and_ _ (by omega) (by omega)
          go_wp2_with fail
          go_region
          go_wp2
          go_roundg 1
          case measure => omega
          case rel => exact ⟨2, s0, (s1 % 4294967296), (s2 + s1 / 4294967296), s3, .inr (.inr (.inl ⟨rfl, rfl⟩)), by first | rfl | go_num, by (have h1 := HST.out; unfold wide_Mul.Cr at h1 ⊢; omega), blk_drew (blk_put (blk_put HCZ.out 2 _ rfl) 1 _ rfl), below_drew ((HB.out.setCell (by have q := HXW.out; simp; omega) _).setCell (by have q := HXW.out; simp; omega) _)⟩
        · have cz := (blk_cell HCZ.out 2).trans (show _ = some (Value.int IntKind.u64 s2) from rfl)
          have cz2 := (blk_cell HCZ.out 3).trans (show _ = some (Value.int IntKind.u64 s3) from rfl)
          have fz := blk_frozen HCZ.out 2
          have fz2 := blk_frozen HCZ.out 3
          have w1 : IntKind.u64.wrap (s3 + s2 / 4294967296) = s3 + s2 / 4294967296 := by
            have h1 := HST.out
            unfold wide_Mul.Cr at h1
            rw [IntKind.wrap_u64]
            omega
          have w2 : Go.bits .and .u64 s2 4294967295 = s2 % 4294967296 := by
            have h1 := HST.out
            unfold wide_Mul.Cr at h1
            exact wide_halves.and_ _ (by omega) (by omega)
          go_wp2_with fail
          go_region
          go_wp2
          go_roundg 0
          case measure => omega
          case rel => exact ⟨3, s0, s1, (s2 % 4294967296), (s3 + s2 / 4294967296), .inr (.inr (.inr ⟨rfl, rfl⟩)), by first | rfl | go_num, by (have h1 := HST.out; unfold wide_Mul.Cr at h1 ⊢; omega), blk_drew (blk_put (blk_put HCZ.out 3 _ rfl) 2 _ rfl), below_drew ((HB.out.setCell (by have q := HXW.out; simp; omega) _).setCell (by have q := HXW.out; simp; omega) _)⟩
        · have h1 := HST.out
          unfold wide_Mul.Cr at h1
          have hV := wide_Mul.all x0 x1 y0 y1
          have hx := HX.out
          have ha := HA.out
          rw [hV, ← hx.2.2.2.2.2.2.2.2.1, ← hx.2.2.2.2.2.2.2.2.2] at h1
          have hm0 : 0 ≤ a0 * a1 := Int.mul_nonneg ha.1 ha.2.2.1
          have hm1 : a0 * a1 ≤ 18446744073709551615 * a1 := Int.mul_le_mul_of_nonneg_right ha.2.1 ha.2.2.1
          have h3 : s3 ≤ 4294967295 := by omega
          have e1 : s3 * 4294967296 + s2 = r1 := by omega
          have e2 : s1 * 4294967296 + s0 = r2 := by omega
          have w1 : IntKind.u64.wrap (s3 * 4294967296) = s3 * 4294967296 := by rw [IntKind.wrap_u64]; omega
          have w2 : IntKind.u64.wrap (s1 * 4294967296) = s1 * 4294967296 := by rw [IntKind.wrap_u64]; omega
          have o1 : Go.bits .or .u64 (s3 * 4294967296) s2 = r1 := by rw [wide_halves.join s3 s2 (by omega) (by omega) (by omega) (by omega), e1]
          have o2 : Go.bits .or .u64 (s1 * 4294967296) s0 = r2 := by rw [wide_halves.join s1 s0 (by omega) (by omega) (by omega) (by omega), e2]
          clear h1 hV hx ha hm0 hm1 h3 e1 e2
          have c0 := (blk_cell HCZ.out 0).trans (show _ = some (Value.int IntKind.u64 s0) from rfl)
          have c1 := (blk_cell HCZ.out 1).trans (show _ = some (Value.int IntKind.u64 s1) from rfl)
          have c2 := (blk_cell HCZ.out 2).trans (show _ = some (Value.int IntKind.u64 s2) from rfl)
          have c3 := (blk_cell HCZ.out 3).trans (show _ = some (Value.int IntKind.u64 s3) from rfl)
          go_wp2_with fail
          go_quiet (fail)
          go_wp2
          go_ret2
          exact ⟨rfl, pw_below_drewN HB.out _⟩

/-! ### fix_Mul: function 66 -/
def fix_Mul.f (a0 : Int) (a1 : Int) : Option (Int) := (fix_size.f a0).bind fun bt107 => ((fix_size.f a1).bind fun bt109 => ((wide_Mul.f bt107.1 bt109.1).bind fun bt111 => (if (bt111.1 / 2147483648) > 0 then ((fix_cut.f 9223372036854775807 0 (bt107.2 != bt109.2)).bind fun t113 => (some t113)) else ((fix_cut.f (Go.bits .or .u64 (IntKind.u64.wrap (bt111.1 * 4294967296)) (bt111.2 / 4294967296)) (IntKind.u64.wrap (bt111.2 * 4294967296)) (bt107.2 != bt109.2)).bind fun t114 => (some t114)))))
set_option maxHeartbeats 8000000 in
set_option maxRecDepth 100000 in
theorem fix_Mul.calls (a0 : Int) (a1 : Int) (r : Int) (w : World) (h : fix_Mul.f a0 a1 = some r) :
    Calls Try.prog 66 #[.int .i64 a0, .int .i64 a1] w fun e w' => e = .returned (.int .i64 r) ∧ Below w.heap.size w w' := by
  have HB := Aside0.mk (Below.refl w.heap.size w)
  have H : ((fix_size.f a0).bind fun bt107 => ((fix_size.f a1).bind fun bt109 => ((wide_Mul.f bt107.1 bt109.1).bind fun bt111 => (if (bt111.1 / 2147483648) > 0 then ((fix_cut.f 9223372036854775807 0 (bt107.2 != bt109.2)).bind fun t113 => (some t113)) else ((fix_cut.f (Go.bits .or .u64 (IntKind.u64.wrap (bt111.1 * 4294967296)) (bt111.2 / 4294967296)) (IntKind.u64.wrap (bt111.2 * 4294967296)) (bt107.2 != bt109.2)).bind fun t114 => (some t114)))))) = some r := h
  clear h
  replace H := Option.bind_eq_some_iff.mp H
  obtain ⟨⟨t107, t108⟩, A30, H⟩ := H
  replace H : ((fix_size.f a1).bind fun bt109 => ((wide_Mul.f t107 bt109.1).bind fun bt111 => (if (bt111.1 / 2147483648) > 0 then ((fix_cut.f 9223372036854775807 0 (t108 != bt109.2)).bind fun t113 => (some t113)) else ((fix_cut.f (Go.bits .or .u64 (IntKind.u64.wrap (bt111.1 * 4294967296)) (bt111.2 / 4294967296)) (IntKind.u64.wrap (bt111.2 * 4294967296)) (t108 != bt109.2)).bind fun t114 => (some t114))))) = some r := H
  have A3 := Aside0.mk A30
  clear A30
  replace H := Option.bind_eq_some_iff.mp H
  obtain ⟨⟨t109, t110⟩, A40, H⟩ := H
  replace H : ((wide_Mul.f t107 t109).bind fun bt111 => (if (bt111.1 / 2147483648) > 0 then ((fix_cut.f 9223372036854775807 0 (t108 != t110)).bind fun t113 => (some t113)) else ((fix_cut.f (Go.bits .or .u64 (IntKind.u64.wrap (bt111.1 * 4294967296)) (bt111.2 / 4294967296)) (IntKind.u64.wrap (bt111.2 * 4294967296)) (t108 != t110)).bind fun t114 => (some t114)))) = some r := H
  have A4 := Aside0.mk A40
  clear A40
  replace H := Option.bind_eq_some_iff.mp H
  obtain ⟨⟨t111, t112⟩, A50, H⟩ := H
  replace H : (if (t111 / 2147483648) > 0 then ((fix_cut.f 9223372036854775807 0 (t108 != t110)).bind fun t113 => (some t113)) else ((fix_cut.f (Go.bits .or .u64 (IntKind.u64.wrap (t111 * 4294967296)) (t112 / 4294967296)) (IntKind.u64.wrap (t112 * 4294967296)) (t108 != t110)).bind fun t114 => (some t114))) = some r := H
  have A5 := Aside0.mk A50
  clear A50
  by_cases c6 : (t111 / 2147483648) > 0
  · rw [if_pos c6] at H
    have c6b0 : decide (0 < (t111 / 2147483648)) = true := decide_eq_true c6
    clear c6
    replace H := Option.bind_eq_some_iff.mp H
    obtain ⟨t113, A70, H⟩ := H
    replace H : (some t113) = some r := H
    have A7 := Aside0.mk A70
    clear A70
    obtain rfl := Option.some.inj H
    go_enter Try.func66, Try.ntmps66
    go_wp2_with (first | ((with_reducible refine gate_callee (f := 78) rfl ?_); refine goesL_ (some 13) rfl rfl Try.func78 (by kernel_rfl) rfl #[.int .i64 a0] rfl (by (try simp only [List.map_toArray, List.map_cons, List.map_nil]); first | done | rfl | (simp only [List.length_drop, List.length_take]; rfl)) ?_; (with_reducible refine (fix_size.calls a0 t107 t108 _ A3.out).mono ?_); rintro e w' ⟨rfl, ⟨nd, rfl⟩⟩; refine ⟨_, rfl, ?_⟩) | ((with_reducible refine gate_callee (f := 78) rfl ?_); refine goesL_ (some 18) rfl rfl Try.func78 (by kernel_rfl) rfl #[.int .i64 a1] rfl (by (try simp only [List.map_toArray, List.map_cons, List.map_nil]); first | done | rfl | (simp only [List.length_drop, List.length_take]; rfl)) ?_; (with_reducible refine (fix_size.calls a1 t109 t110 _ A4.out).mono ?_); rintro e w' ⟨rfl, ⟨nd, rfl⟩⟩; refine ⟨_, rfl, ?_⟩) | ((with_reducible refine gate_callee (f := 79) rfl ?_); refine goesL_ (some 24) rfl rfl Try.func79 (by kernel_rfl) rfl #[.int .u64 t107, .int .u64 t109] rfl (by (try simp only [List.map_toArray, List.map_cons, List.map_nil]); first | done | rfl | (simp only [List.length_drop, List.length_take]; rfl)) ?_; (with_reducible refine (wide_Mul.calls t107 t109 t111 t112 _ A5.out).mono ?_); rintro e w8 ⟨rfl, hb⟩; refine ⟨_, rfl, ?_⟩; have n0_ := Aside0.mk (below_step (by repeat (first | (with_reducible first | exact HB.out | apply below_alloc | apply pw_below_drewN | apply below_drew1) | exact HB.out)) hb); clear HB; have HB := n0_; clear n0_; (try clear hb); (try clear hb2); (try clear hk); (try clear hi)) | ((with_reducible refine gate_callee (f := 80) rfl ?_); refine goesL_ (some 33) rfl rfl Try.func80 (by kernel_rfl) rfl #[.int .u64 9223372036854775807, .int .u64 0, .bool (t108 != t110)] rfl (by (try simp only [List.map_toArray, List.map_cons, List.map_nil]); first | done | rfl | (simp only [List.length_drop, List.length_take]; rfl)) ?_; (with_reducible refine (fix_cut.calls 9223372036854775807 0 (t108 != t110) t113 _ A7.out).mono ?_); rintro e w9 ⟨rfl, hb⟩; refine ⟨_, rfl, ?_⟩; have n0_ := Aside0.mk (below_step (by repeat (first | (with_reducible first | exact HB.out | apply below_alloc | apply pw_below_drewN | apply below_drew1) | exact HB.out)) hb); clear HB; have HB := n0_; clear n0_; (try clear hb); (try clear hb2); (try clear hk); (try clear hi)))
    go_ret
    exact ⟨by first | rfl | (simp [errW_none, errW_some] <;> rfl) | (simp [*, errW_none, errW_some] <;> rfl), by repeat (first | (with_reducible first | exact HB.out | apply below_alloc | apply pw_below_drewN | apply below_drew1) | exact HB.out)⟩
  · rw [if_neg c6] at H
    have c6b0 : decide (0 < (t111 / 2147483648)) = false := decide_eq_false c6
    clear c6
    replace H := Option.bind_eq_some_iff.mp H
    obtain ⟨t114, A100, H⟩ := H
    replace H : (some t114) = some r := H
    have A10 := Aside0.mk A100
    clear A100
    obtain rfl := Option.some.inj H
    go_enter Try.func66, Try.ntmps66
    go_wp2_with (first | ((with_reducible refine gate_callee (f := 78) rfl ?_); refine goesL_ (some 13) rfl rfl Try.func78 (by kernel_rfl) rfl #[.int .i64 a0] rfl (by (try simp only [List.map_toArray, List.map_cons, List.map_nil]); first | done | rfl | (simp only [List.length_drop, List.length_take]; rfl)) ?_; (with_reducible refine (fix_size.calls a0 t107 t108 _ A3.out).mono ?_); rintro e w' ⟨rfl, ⟨nd, rfl⟩⟩; refine ⟨_, rfl, ?_⟩) | ((with_reducible refine gate_callee (f := 78) rfl ?_); refine goesL_ (some 18) rfl rfl Try.func78 (by kernel_rfl) rfl #[.int .i64 a1] rfl (by (try simp only [List.map_toArray, List.map_cons, List.map_nil]); first | done | rfl | (simp only [List.length_drop, List.length_take]; rfl)) ?_; (with_reducible refine (fix_size.calls a1 t109 t110 _ A4.out).mono ?_); rintro e w' ⟨rfl, ⟨nd, rfl⟩⟩; refine ⟨_, rfl, ?_⟩) | ((with_reducible refine gate_callee (f := 79) rfl ?_); refine goesL_ (some 24) rfl rfl Try.func79 (by kernel_rfl) rfl #[.int .u64 t107, .int .u64 t109] rfl (by (try simp only [List.map_toArray, List.map_cons, List.map_nil]); first | done | rfl | (simp only [List.length_drop, List.length_take]; rfl)) ?_; (with_reducible refine (wide_Mul.calls t107 t109 t111 t112 _ A5.out).mono ?_); rintro e w11 ⟨rfl, hb⟩; refine ⟨_, rfl, ?_⟩; have n0_ := Aside0.mk (below_step (by repeat (first | (with_reducible first | exact HB.out | apply below_alloc | apply pw_below_drewN | apply below_drew1) | exact HB.out)) hb); clear HB; have HB := n0_; clear n0_; (try clear hb); (try clear hb2); (try clear hk); (try clear hi)) | ((with_reducible refine gate_callee (f := 80) rfl ?_); refine goesL_ (some 44) rfl rfl Try.func80 (by kernel_rfl) rfl #[.int .u64 (Go.bits .or .u64 (IntKind.u64.wrap (t111 * 4294967296)) (t112 / 4294967296)), .int .u64 (IntKind.u64.wrap (t112 * 4294967296)), .bool (t108 != t110)] rfl (by (try simp only [List.map_toArray, List.map_cons, List.map_nil]); first | done | rfl | (simp only [List.length_drop, List.length_take]; rfl)) ?_; (with_reducible refine (fix_cut.calls (Go.bits .or .u64 (IntKind.u64.wrap (t111 * 4294967296)) (t112 / 4294967296)) (IntKind.u64.wrap (t112 * 4294967296)) (t108 != t110) t114 _ A10.out).mono ?_); rintro e w12 ⟨rfl, hb⟩; refine ⟨_, rfl, ?_⟩; have n0_ := Aside0.mk (below_step (by repeat (first | (with_reducible first | exact HB.out | apply below_alloc | apply pw_below_drewN | apply below_drew1) | exact HB.out)) hb); clear HB; have HB := n0_; clear n0_; (try clear hb); (try clear hb2); (try clear hk); (try clear hi)))
    go_ret
    exact ⟨by first | rfl | (simp [errW_none, errW_some] <;> rfl) | (simp [*, errW_none, errW_some] <;> rfl), by repeat (first | (with_reducible first | exact HB.out | apply below_alloc | apply pw_below_drewN | apply below_drew1) | exact HB.out)⟩

/-! ### wide_minus: function 90 -/
def wide_minus.f (a0 : Int) (a1 : Int) (a2 : Int) (a3 : Int) : Option (Int × Int) := if a1 < a3 then (some (IntKind.u64.wrap ((IntKind.u64.wrap (a0 - a2)) - 1), IntKind.u64.wrap (a1 - a3))) else (some (IntKind.u64.wrap (a0 - a2), IntKind.u64.wrap (a1 - a3)))
set_option maxHeartbeats 8000000 in
set_option maxRecDepth 100000 in
theorem wide_minus.calls (a0 : Int) (a1 : Int) (a2 : Int) (a3 : Int) (r1 : Int) (r2 : Int) (w : World) (h : wide_minus.f a0 a1 a2 a3 = some (r1, r2)) :
    Calls Try.prog 90 #[.int .u64 a0, .int .u64 a1, .int .u64 a2, .int .u64 a3] w fun e w' => e = .returned (.tuple #[.int .u64 r1, .int .u64 r2]) ∧ Drawn0 w w' := by
  have H : (if a1 < a3 then (some (IntKind.u64.wrap ((IntKind.u64.wrap (a0 - a2)) - 1), IntKind.u64.wrap (a1 - a3))) else (some (IntKind.u64.wrap (a0 - a2), IntKind.u64.wrap (a1 - a3)))) = some (r1, r2) := h
  clear h
  by_cases c5 : a1 < a3
  · rw [if_pos c5] at H
    have c5b0 : decide (a1 < a3) = true := decide_eq_true c5
    clear c5
    simp only [Option.some.injEq, Prod.mk.injEq] at H
    obtain ⟨rfl, rfl⟩ := H
    go_enter Try.func90, Try.ntmps90
    go_wp2
    go_ret2
    exact ⟨by first | rfl | (simp; done) | (simp [*]; done), by repeat (first | exact Drawn0.refl _ | apply Drawn0.step)⟩
  · rw [if_neg c5] at H
    have c5b0 : decide (a1 < a3) = false := decide_eq_false c5
    clear c5
    simp only [Option.some.injEq, Prod.mk.injEq] at H
    obtain ⟨rfl, rfl⟩ := H
    go_enter Try.func90, Try.ntmps90
    go_wp2
    go_ret2
    exact ⟨by first | rfl | (simp; done) | (simp [*]; done), by repeat (first | exact Drawn0.refl _ | apply Drawn0.step)⟩

/-! ### wide_Sqrt: function 86 -/
def wide_Sqrt.l0 : Nat → Int → Int → Int → Int → Int → Int → Option (Int)
  | 0, _, _, _, _, _, _ => none
  | k + 1, x0, x1, x5, x6, x7, x11 => if x11 < 64 then ((wide_Less.f (Go.bits .or .u64 (IntKind.u64.wrap (x6 * 4)) (x7 / 4611686018427387904)) (Go.bits .or .u64 (IntKind.u64.wrap (x7 * 4)) (x0 / 4611686018427387904)) (x5 / 4611686018427387904) (Go.bits .or .u64 (IntKind.u64.wrap (x5 * 4)) 1)).bind fun t115 => (if t115 = true then (wide_Sqrt.l0 k (Go.bits .or .u64 (IntKind.u64.wrap (x0 * 4)) (x1 / 4611686018427387904)) (IntKind.u64.wrap (x1 * 4)) (IntKind.u64.wrap (x5 * 2)) (Go.bits .or .u64 (IntKind.u64.wrap (x6 * 4)) (x7 / 4611686018427387904)) (Go.bits .or .u64 (IntKind.u64.wrap (x7 * 4)) (x0 / 4611686018427387904)) (wrap64 (x11 + 1))) else ((wide_minus.f (Go.bits .or .u64 (IntKind.u64.wrap (x6 * 4)) (x7 / 4611686018427387904)) (Go.bits .or .u64 (IntKind.u64.wrap (x7 * 4)) (x0 / 4611686018427387904)) (x5 / 4611686018427387904) (Go.bits .or .u64 (IntKind.u64.wrap (x5 * 4)) 1)).bind fun bt116 => (wide_Sqrt.l0 k (Go.bits .or .u64 (IntKind.u64.wrap (x0 * 4)) (x1 / 4611686018427387904)) (IntKind.u64.wrap (x1 * 4)) (Go.bits .or .u64 (IntKind.u64.wrap (x5 * 2)) 1) bt116.1 bt116.2 (wrap64 (x11 + 1)))))) else (some x5)
def wide_Sqrt.f (k : Nat) (a0 : Int) (a1 : Int) : Option (Int) := wide_Sqrt.l0 k a0 a1 0 0 0 0
theorem wide_Sqrt.mono_l : ∀ k, (∀ y0 y1 y2 y3 y4 y5, LeO (wide_Sqrt.l0 k y0 y1 y2 y3 y4 y5) (wide_Sqrt.l0 (k + 1) y0 y1 y2 y3 y4 y5))
  | 0 => fun _ _ _ _ _ _ r h => by simp [wide_Sqrt.l0] at h
  | k + 1 => by
    have ih0 := wide_Sqrt.mono_l k
    · intro y0 y1 y2 y3 y4 y5
      unfold wide_Sqrt.l0
      repeat' first
      | (with_reducible exact ih0 _ _ _ _ _ _)
      | (with_reducible exact LeO.refl _)
      | (with_reducible exact LeO.none _)
      | (with_reducible refine LeO.ite ?_ ?_)
      | (with_reducible refine LeO.bind ?_ (fun _ => ?_))
      | exact ih0 _ _ _ _ _ _
      | exact LeO.none _
      | refine LeO.ite ?_ ?_
      | refine LeO.bind ?_ (fun _ => ?_)
theorem wide_Sqrt.mono : ∀ a0 a1 k, LeO (wide_Sqrt.f k a0 a1) (wide_Sqrt.f (k + 1) a0 a1) := by
  intro a0 a1 k
  have ih0 := wide_Sqrt.mono_l k
  unfold wide_Sqrt.f
  repeat' first
      | (with_reducible exact ih0 _ _ _ _ _ _)
      | (with_reducible exact LeO.refl _)
      | (with_reducible exact LeO.none _)
      | (with_reducible refine LeO.ite ?_ ?_)
      | (with_reducible refine LeO.bind ?_ (fun _ => ?_))
      | exact ih0 _ _ _ _ _ _
      | exact LeO.none _
      | refine LeO.ite ?_ ?_
      | refine LeO.bind ?_ (fun _ => ?_)
set_option maxHeartbeats 8000000 in
set_option maxRecDepth 100000 in
theorem wide_Sqrt.calls (k : Nat) (a0 : Int) (a1 : Int) (r : Int) (w : World) (h : wide_Sqrt.f k a0 a1 = some r) :
    Calls Try.prog 86 #[.int .u64 a0, .int .u64 a1] w fun e w' => e = .returned (.int .u64 r) ∧ Drawn0 w w' := by
  have H : (wide_Sqrt.l0 k a0 a1 0 0 0 0) = some r := h
  clear h
  have H' := Aside0.mk H
  clear H
  go_enter Try.func86, Try.ntmps86
  go_wp2
  go_loopg [0, 1, 5, 6, 7, 11] k (fun kq v0 v1 v5 v6 v7 v11 w' => ∃ (x0_1 : Int) (x1_1 : Int) (x5_1 : Int) (x6_1 : Int) (x7_1 : Int) (x11_1 : Int), v0 = .int .u64 x0_1 ∧ v1 = .int .u64 x1_1 ∧ v5 = .int .u64 x5_1 ∧ v6 = .int .u64 x6_1 ∧ v7 = .int .u64 x7_1 ∧ v11 = .int .i64 x11_1 ∧ Aside0 (wide_Sqrt.l0 kq x0_1 x1_1 x5_1 x6_1 x7_1 x11_1 = some r) ∧ Aside0 (kq ≤ k) ∧ Drawn0 w w')
  case atStart => exact ⟨(a0), (a1), (0), (0), (0), (0), (by first | rfl | (simp; done) | (simp [*]; done)), (by first | rfl | (simp; done) | (simp [*]; done)), (by first | rfl | (simp; done) | (simp [*]; done)), (by first | rfl | (simp; done) | (simp [*]; done)), (by first | rfl | (simp; done) | (simp [*]; done)), (by first | rfl | (simp; done) | (simp [*]; done)), H', ⟨Nat.le_refl _⟩, by repeat (first | exact Drawn0.refl _ | apply Drawn0.step)⟩
  case round =>
    clear H'
    try clear p2
    obtain ⟨x0_1, x1_1, x5_1, x6_1, x7_1, x11_1, rfl, rfl, rfl, rfl, rfl, rfl, HA, HK1, ⟨m1, rfl⟩⟩ := hrel
    cases gk with
    | zero => exact absurd HA.out (by simp [wide_Sqrt.l0])
    | succ k1 =>
      have H := HA.out
      clear HA
      simp only [wide_Sqrt.l0] at H
      by_cases c3 : x11_1 < 64
      · rw [if_pos c3] at H
        have c3b0 : decide (x11_1 < 64) = true := decide_eq_true c3
        clear c3
        replace H := Option.bind_eq_some_iff.mp H
        obtain ⟨t115, A40, H⟩ := H
        replace H : (if t115 = true then (wide_Sqrt.l0 k1 (Go.bits .or .u64 (IntKind.u64.wrap (x0_1 * 4)) (x1_1 / 4611686018427387904)) (IntKind.u64.wrap (x1_1 * 4)) (IntKind.u64.wrap (x5_1 * 2)) (Go.bits .or .u64 (IntKind.u64.wrap (x6_1 * 4)) (x7_1 / 4611686018427387904)) (Go.bits .or .u64 (IntKind.u64.wrap (x7_1 * 4)) (x0_1 / 4611686018427387904)) (wrap64 (x11_1 + 1))) else ((wide_minus.f (Go.bits .or .u64 (IntKind.u64.wrap (x6_1 * 4)) (x7_1 / 4611686018427387904)) (Go.bits .or .u64 (IntKind.u64.wrap (x7_1 * 4)) (x0_1 / 4611686018427387904)) (x5_1 / 4611686018427387904) (Go.bits .or .u64 (IntKind.u64.wrap (x5_1 * 4)) 1)).bind fun bt116 => (wide_Sqrt.l0 k1 (Go.bits .or .u64 (IntKind.u64.wrap (x0_1 * 4)) (x1_1 / 4611686018427387904)) (IntKind.u64.wrap (x1_1 * 4)) (Go.bits .or .u64 (IntKind.u64.wrap (x5_1 * 2)) 1) bt116.1 bt116.2 (wrap64 (x11_1 + 1))))) = some r := H
        have A4 := Aside0.mk A40
        clear A40
        by_cases c5 : t115 = true
        · subst c5
          have H1 : (wide_Sqrt.l0 k1 (Go.bits .or .u64 (IntKind.u64.wrap (x0_1 * 4)) (x1_1 / 4611686018427387904)) (IntKind.u64.wrap (x1_1 * 4)) (IntKind.u64.wrap (x5_1 * 2)) (Go.bits .or .u64 (IntKind.u64.wrap (x6_1 * 4)) (x7_1 / 4611686018427387904)) (Go.bits .or .u64 (IntKind.u64.wrap (x7_1 * 4)) (x0_1 / 4611686018427387904)) (wrap64 (x11_1 + 1))) = some r := by rw [if_pos rfl] at H; exact H
          clear H
          have H := H1
          clear H1
          have H' := Aside0.mk H
          clear H
          go_wp2_with (first | ((with_reducible refine gate_callee (f := 84) rfl ?_); refine goesL_ (some 42) rfl rfl Try.func84 (by kernel_rfl) rfl #[.int .u64 (Go.bits .or .u64 (IntKind.u64.wrap (x6_1 * 4)) (x7_1 / 4611686018427387904)), .int .u64 (Go.bits .or .u64 (IntKind.u64.wrap (x7_1 * 4)) (x0_1 / 4611686018427387904)), .int .u64 (x5_1 / 4611686018427387904), .int .u64 (Go.bits .or .u64 (IntKind.u64.wrap (x5_1 * 4)) 1)] rfl (by (try simp only [List.map_toArray, List.map_cons, List.map_nil]); first | done | rfl | (simp only [List.length_drop, List.length_take]; rfl)) ?_; (with_reducible refine (wide_Less.calls (Go.bits .or .u64 (IntKind.u64.wrap (x6_1 * 4)) (x7_1 / 4611686018427387904)) (Go.bits .or .u64 (IntKind.u64.wrap (x7_1 * 4)) (x0_1 / 4611686018427387904)) (x5_1 / 4611686018427387904) (Go.bits .or .u64 (IntKind.u64.wrap (x5_1 * 4)) 1) true _ A4.out).mono ?_); rintro e w' ⟨rfl, ⟨nd, rfl⟩⟩; refine ⟨_, rfl, ?_⟩))
          go_roundg k1
          case measure => have := HK1.out; omega
          case rel => exact ⟨(Go.bits .or .u64 (IntKind.u64.wrap (x0_1 * 4)) (x1_1 / 4611686018427387904)), (IntKind.u64.wrap (x1_1 * 4)), (IntKind.u64.wrap (x5_1 * 2)), (Go.bits .or .u64 (IntKind.u64.wrap (x6_1 * 4)) (x7_1 / 4611686018427387904)), (Go.bits .or .u64 (IntKind.u64.wrap (x7_1 * 4)) (x0_1 / 4611686018427387904)), (wrap64 (x11_1 + 1)), (by first | rfl | (simp; done) | (simp [*]; done)), (by first | rfl | (simp; done) | (simp [*]; done)), (by first | rfl | (simp; done) | (simp [*]; done)), (by first | rfl | (simp; done) | (simp [*]; done)), (by first | rfl | (simp; done) | (simp [*]; done)), (by first | rfl | (simp; done) | (simp [*]; done)), H', ⟨by have := HK1.out; omega⟩, by repeat (first | exact Drawn0.refl _ | apply Drawn0.step)⟩
        · replace c5 := Bool.eq_false_iff.mpr c5
          subst c5
          have H1 : ((wide_minus.f (Go.bits .or .u64 (IntKind.u64.wrap (x6_1 * 4)) (x7_1 / 4611686018427387904)) (Go.bits .or .u64 (IntKind.u64.wrap (x7_1 * 4)) (x0_1 / 4611686018427387904)) (x5_1 / 4611686018427387904) (Go.bits .or .u64 (IntKind.u64.wrap (x5_1 * 4)) 1)).bind fun bt116 => (wide_Sqrt.l0 k1 (Go.bits .or .u64 (IntKind.u64.wrap (x0_1 * 4)) (x1_1 / 4611686018427387904)) (IntKind.u64.wrap (x1_1 * 4)) (Go.bits .or .u64 (IntKind.u64.wrap (x5_1 * 2)) 1) bt116.1 bt116.2 (wrap64 (x11_1 + 1)))) = some r := by rw [if_neg (show ¬ (false = true) by decide)] at H; exact H
          clear H
          have H := H1
          clear H1
          replace H := Option.bind_eq_some_iff.mp H
          obtain ⟨⟨t116, t117⟩, A60, H⟩ := H
          replace H : (wide_Sqrt.l0 k1 (Go.bits .or .u64 (IntKind.u64.wrap (x0_1 * 4)) (x1_1 / 4611686018427387904)) (IntKind.u64.wrap (x1_1 * 4)) (Go.bits .or .u64 (IntKind.u64.wrap (x5_1 * 2)) 1) t116 t117 (wrap64 (x11_1 + 1))) = some r := H
          have A6 := Aside0.mk A60
          clear A60
          have H' := Aside0.mk H
          clear H
          go_wp2_with (first | ((with_reducible refine gate_callee (f := 84) rfl ?_); refine goesL_ (some 42) rfl rfl Try.func84 (by kernel_rfl) rfl #[.int .u64 (Go.bits .or .u64 (IntKind.u64.wrap (x6_1 * 4)) (x7_1 / 4611686018427387904)), .int .u64 (Go.bits .or .u64 (IntKind.u64.wrap (x7_1 * 4)) (x0_1 / 4611686018427387904)), .int .u64 (x5_1 / 4611686018427387904), .int .u64 (Go.bits .or .u64 (IntKind.u64.wrap (x5_1 * 4)) 1)] rfl (by (try simp only [List.map_toArray, List.map_cons, List.map_nil]); first | done | rfl | (simp only [List.length_drop, List.length_take]; rfl)) ?_; (with_reducible refine (wide_Less.calls (Go.bits .or .u64 (IntKind.u64.wrap (x6_1 * 4)) (x7_1 / 4611686018427387904)) (Go.bits .or .u64 (IntKind.u64.wrap (x7_1 * 4)) (x0_1 / 4611686018427387904)) (x5_1 / 4611686018427387904) (Go.bits .or .u64 (IntKind.u64.wrap (x5_1 * 4)) 1) false _ A4.out).mono ?_); rintro e w' ⟨rfl, ⟨nd, rfl⟩⟩; refine ⟨_, rfl, ?_⟩) | ((with_reducible refine gate_callee (f := 90) rfl ?_); refine goesL_ (some 49) rfl rfl Try.func90 (by kernel_rfl) rfl #[.int .u64 (Go.bits .or .u64 (IntKind.u64.wrap (x6_1 * 4)) (x7_1 / 4611686018427387904)), .int .u64 (Go.bits .or .u64 (IntKind.u64.wrap (x7_1 * 4)) (x0_1 / 4611686018427387904)), .int .u64 (x5_1 / 4611686018427387904), .int .u64 (Go.bits .or .u64 (IntKind.u64.wrap (x5_1 * 4)) 1)] rfl (by (try simp only [List.map_toArray, List.map_cons, List.map_nil]); first | done | rfl | (simp only [List.length_drop, List.length_take]; rfl)) ?_; (with_reducible refine (wide_minus.calls (Go.bits .or .u64 (IntKind.u64.wrap (x6_1 * 4)) (x7_1 / 4611686018427387904)) (Go.bits .or .u64 (IntKind.u64.wrap (x7_1 * 4)) (x0_1 / 4611686018427387904)) (x5_1 / 4611686018427387904) (Go.bits .or .u64 (IntKind.u64.wrap (x5_1 * 4)) 1) t116 t117 _ A6.out).mono ?_); rintro e w' ⟨rfl, ⟨nd, rfl⟩⟩; refine ⟨_, rfl, ?_⟩))
          go_roundg k1
          case measure => have := HK1.out; omega
          case rel => exact ⟨(Go.bits .or .u64 (IntKind.u64.wrap (x0_1 * 4)) (x1_1 / 4611686018427387904)), (IntKind.u64.wrap (x1_1 * 4)), (Go.bits .or .u64 (IntKind.u64.wrap (x5_1 * 2)) 1), (t116), (t117), (wrap64 (x11_1 + 1)), (by first | rfl | (simp; done) | (simp [*]; done)), (by first | rfl | (simp; done) | (simp [*]; done)), (by first | rfl | (simp; done) | (simp [*]; done)), (by first | rfl | (simp; done) | (simp [*]; done)), (by first | rfl | (simp; done) | (simp [*]; done)), (by first | rfl | (simp; done) | (simp [*]; done)), H', ⟨by have := HK1.out; omega⟩, by repeat (first | exact Drawn0.refl _ | apply Drawn0.step)⟩
      · rw [if_neg c3] at H
        have c3b0 : decide (x11_1 < 64) = false := decide_eq_false c3
        clear c3
        obtain rfl := Option.some.inj H
        go_wp2
        go_ret
        exact ⟨by first | rfl | (simp; done) | (simp [*]; done), by repeat (first | exact Drawn0.refl _ | apply Drawn0.step)⟩

/-! ### fix_Sqrt: function 75 -/
def fix_Sqrt.f (k : Nat) (a0 : Int) : Option (Int) := (wide_Sqrt.f k ((IntKind.u64.wrap (mx a0 0)) / 4294967296) (IntKind.u64.wrap ((IntKind.u64.wrap (mx a0 0)) * 4294967296))).bind fun t118 => ((fix_cut.f t118 0 false).bind fun t119 => (some t119))
theorem fix_Sqrt.mono : ∀ a0 k, LeO (fix_Sqrt.f k a0) (fix_Sqrt.f (k + 1) a0) := by
  intro a0 k
  unfold fix_Sqrt.f
  repeat' first
      | (with_reducible exact wide_Sqrt.mono _ _ _)
      | (with_reducible exact LeO.refl _)
      | (with_reducible exact LeO.none _)
      | (with_reducible refine LeO.ite ?_ ?_)
      | (with_reducible refine LeO.bind ?_ (fun _ => ?_))
      | exact wide_Sqrt.mono _ _ _
      | exact LeO.none _
      | refine LeO.ite ?_ ?_
      | refine LeO.bind ?_ (fun _ => ?_)
set_option maxHeartbeats 8000000 in
set_option maxRecDepth 100000 in
theorem fix_Sqrt.calls (k : Nat) (a0 : Int) (r : Int) (w : World) (h : fix_Sqrt.f k a0 = some r) :
    Calls Try.prog 75 #[.int .i64 a0] w fun e w' => e = .returned (.int .i64 r) ∧ Below w.heap.size w w' := by
  have HB := Aside0.mk (Below.refl w.heap.size w)
  have H : ((wide_Sqrt.f k ((IntKind.u64.wrap (mx a0 0)) / 4294967296) (IntKind.u64.wrap ((IntKind.u64.wrap (mx a0 0)) * 4294967296))).bind fun t118 => ((fix_cut.f t118 0 false).bind fun t119 => (some t119))) = some r := h
  clear h
  obtain ⟨ji2, hji2⟩ : ∃ j_ : Int, (mx a0 0) = j_ := ⟨_, rfl⟩
  replace H : ((wide_Sqrt.f k ((IntKind.u64.wrap (ji2)) / 4294967296) (IntKind.u64.wrap ((IntKind.u64.wrap (ji2)) * 4294967296))).bind fun t118 => ((fix_cut.f t118 0 false).bind fun t119 => (some t119))) = some r := by first | (rw [hji2] at H; exact H) | (simp only [hji2] at H ⊢; exact H)
  (try (have hji2l : 0 ≤ ji2 := by (rw [← hji2]; unfold mx; (repeat' split) <;> omega)))
  (try (have hji2m : 0 ≤ ji2 := by omega))
  have hji2_ : (if a0 < 0 then 0 else a0) = ji2 := hji2
  replace H := Option.bind_eq_some_iff.mp H
  obtain ⟨t118, A30, H⟩ := H
  replace H : ((fix_cut.f t118 0 false).bind fun t119 => (some t119)) = some r := H
  have A3 := Aside0.mk A30
  clear A30
  replace H := Option.bind_eq_some_iff.mp H
  obtain ⟨t119, A40, H⟩ := H
  replace H : (some t119) = some r := H
  have A4 := Aside0.mk A40
  clear A40
  obtain rfl := Option.some.inj H
  go_enter Try.func75, Try.ntmps75
  go_wp2_with (first | ((with_reducible refine gate_callee (f := 86) rfl ?_); refine goesL_ (some 11) rfl rfl Try.func86 (by kernel_rfl) rfl #[.int .u64 ((IntKind.u64.wrap (ji2)) / 4294967296), .int .u64 (IntKind.u64.wrap ((IntKind.u64.wrap (ji2)) * 4294967296))] rfl (by (try simp only [List.map_toArray, List.map_cons, List.map_nil]); first | done | (simp only [hji2]; rfl) | rfl | (simp only [List.length_drop, List.length_take]; rfl)) ?_; (with_reducible refine (wide_Sqrt.calls k ((IntKind.u64.wrap (ji2)) / 4294967296) (IntKind.u64.wrap ((IntKind.u64.wrap (ji2)) * 4294967296)) t118 _ A3.out).mono ?_); rintro e w' ⟨rfl, ⟨nd, rfl⟩⟩; refine ⟨_, rfl, ?_⟩) | ((with_reducible refine gate_callee (f := 80) rfl ?_); refine goesL_ (some 12) rfl rfl Try.func80 (by kernel_rfl) rfl #[.int .u64 t118, .int .u64 0, .bool false] rfl (by (try simp only [List.map_toArray, List.map_cons, List.map_nil]); first | done | rfl | (simp only [List.length_drop, List.length_take]; rfl)) ?_; (with_reducible refine (fix_cut.calls t118 0 false t119 _ A4.out).mono ?_); rintro e w5 ⟨rfl, hb⟩; refine ⟨_, rfl, ?_⟩; have n0_ := Aside0.mk (below_step (by repeat (first | (with_reducible first | exact HB.out | apply below_alloc | apply pw_below_drewN | apply below_drew1) | exact HB.out)) hb); clear HB; have HB := n0_; clear n0_; (try clear hb); (try clear hb2); (try clear hk); (try clear hi)))
  go_ret
  exact ⟨by first | rfl | (simp [errW_none, errW_some] <;> rfl) | (simp only [← hji2]; first | rfl | (simp [errW_none, errW_some] <;> rfl)) | (simp [*, errW_none, errW_some] <;> rfl), by repeat (first | (with_reducible first | exact HB.out | apply below_alloc | apply pw_below_drewN | apply below_drew1) | exact HB.out)⟩

end Go.Proofs.Ytoddgpaopejeoaa.MClu
