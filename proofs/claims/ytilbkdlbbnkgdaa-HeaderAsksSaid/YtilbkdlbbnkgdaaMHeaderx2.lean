/- Functions that the statements of this seat reach, each as a plain Lean function, with a proof that the Go code comes to its answers; no condition. -/
import Derived.Test.YtilbkdlbbnkgdaaMHeaderx0
namespace Go.Proofs.Ytilbkdlbbnkgdaa.MHeader
open Go.RowKit Go.Proofs.YtilbkdlbbnkgdaaW.PrintWords Go.Proofs.YtilbkdlbbnkgdaaW.PrintLast Go.Proofs.YtilbkdlbbnkgdaaW.PrintMore
attribute [local go_sem] max2_int min2_int max_two min_two max_three min_three max_four min_four   -- for this text's walks alone
set_option linter.unusedVariables false
set_option linter.unusedSimpArgs false

/-! ### header_May: function 31 -/
def header_May.st (b : Bool) (lo a hi : Int) : Bool := b && decide (lo ≤ a) && decide (a ≤ hi)
def header_May.ok (a0_0 a0_1 a0_2 a0_3 a0_4 a0_5 : Int) : Bool := header_May.st (header_May.st (header_May.st (header_May.st (header_May.st (header_May.st true 0 a0_0 3) 1 a0_1 4) 0 a0_2 7) 0 a0_3 255) (-128) a0_4 127) (-128) a0_5 127
def header_May.f (a0_0 a0_1 a0_2 a0_3 a0_4 a0_5 a0_6 a0_7 a0_8 a0_9 a0_10 a0_11 a0_12 : Int) : Option (Bool) := some (header_May.ok a0_0 a0_1 a0_2 a0_3 a0_4 a0_5)
set_option maxHeartbeats 16000000 in
set_option maxRecDepth 100000 in
theorem header_May.calls (a0_0 a0_1 a0_2 a0_3 a0_4 a0_5 a0_6 a0_7 a0_8 a0_9 a0_10 a0_11 a0_12 : Int) (r : Bool) (w : World) (h : header_May.f a0_0 a0_1 a0_2 a0_3 a0_4 a0_5 a0_6 a0_7 a0_8 a0_9 a0_10 a0_11 a0_12 = some r) :
    Calls Try.prog 31 #[.agg #[.int .i64 a0_0, .int .i64 a0_1, .int .i64 a0_2, .int .i64 a0_3, .int .i64 a0_4, .int .i64 a0_5, .int .u32 a0_6, .int .u32 a0_7, .int .u32 a0_8, .int .u64 a0_9, .int .u64 a0_10, .int .u64 a0_11, .int .u64 a0_12]] w fun e w' => e = .returned (.bool r) ∧ Below w.heap.size w w' := by
  obtain rfl := Option.some.inj h
  clear h
  have HB := Aside0.mk (below_alloc (Below.refl w.heap.size w) (.cells #[.int .i64 a0_0, .int .i64 a0_1, .int .i64 a0_2, .int .i64 a0_3, .int .i64 a0_4, .int .i64 a0_5, .int .u32 a0_6, .int .u32 a0_7, .int .u32 a0_8, .int .u64 a0_9, .int .u64 a0_10, .int .u64 a0_11, .int .u64 a0_12] 42))
  have i0 : ∀ wz, (Instr.index 69 (.agg #[Value.int .i64 0, Value.int .i64 a0_0, Value.int .i64 3, Value.int .i64 1, Value.int .i64 a0_1, Value.int .i64 4, Value.int .i64 0, Value.int .i64 a0_2, Value.int .i64 7, Value.int .i64 0, Value.int .i64 a0_3, Value.int .i64 255, Value.int .i64 (-128), Value.int .i64 a0_4, Value.int .i64 127, Value.int .i64 (-128), Value.int .i64 a0_5, Value.int .i64 127]) (.int .i64 0)).run Try.prog wz = .ok (.agg #[Value.int .i64 0, Value.int .i64 a0_0, Value.int .i64 3]) wz := fun _ => by kernel_rfl
  have i1 : ∀ wz, (Instr.index 69 (.agg #[Value.int .i64 0, Value.int .i64 a0_0, Value.int .i64 3, Value.int .i64 1, Value.int .i64 a0_1, Value.int .i64 4, Value.int .i64 0, Value.int .i64 a0_2, Value.int .i64 7, Value.int .i64 0, Value.int .i64 a0_3, Value.int .i64 255, Value.int .i64 (-128), Value.int .i64 a0_4, Value.int .i64 127, Value.int .i64 (-128), Value.int .i64 a0_5, Value.int .i64 127]) (.int .i64 1)).run Try.prog wz = .ok (.agg #[Value.int .i64 1, Value.int .i64 a0_1, Value.int .i64 4]) wz := fun _ => by kernel_rfl
  have i2 : ∀ wz, (Instr.index 69 (.agg #[Value.int .i64 0, Value.int .i64 a0_0, Value.int .i64 3, Value.int .i64 1, Value.int .i64 a0_1, Value.int .i64 4, Value.int .i64 0, Value.int .i64 a0_2, Value.int .i64 7, Value.int .i64 0, Value.int .i64 a0_3, Value.int .i64 255, Value.int .i64 (-128), Value.int .i64 a0_4, Value.int .i64 127, Value.int .i64 (-128), Value.int .i64 a0_5, Value.int .i64 127]) (.int .i64 2)).run Try.prog wz = .ok (.agg #[Value.int .i64 0, Value.int .i64 a0_2, Value.int .i64 7]) wz := fun _ => by kernel_rfl
  have i3 : ∀ wz, (Instr.index 69 (.agg #[Value.int .i64 0, Value.int .i64 a0_0, Value.int .i64 3, Value.int .i64 1, Value.int .i64 a0_1, Value.int .i64 4, Value.int .i64 0, Value.int .i64 a0_2, Value.int .i64 7, Value.int .i64 0, Value.int .i64 a0_3, Value.int .i64 255, Value.int .i64 (-128), Value.int .i64 a0_4, Value.int .i64 127, Value.int .i64 (-128), Value.int .i64 a0_5, Value.int .i64 127]) (.int .i64 3)).run Try.prog wz = .ok (.agg #[Value.int .i64 0, Value.int .i64 a0_3, Value.int .i64 255]) wz := fun _ => by kernel_rfl
  have i4 : ∀ wz, (Instr.index 69 (.agg #[Value.int .i64 0, Value.int .i64 a0_0, Value.int .i64 3, Value.int .i64 1, Value.int .i64 a0_1, Value.int .i64 4, Value.int .i64 0, Value.int .i64 a0_2, Value.int .i64 7, Value.int .i64 0, Value.int .i64 a0_3, Value.int .i64 255, Value.int .i64 (-128), Value.int .i64 a0_4, Value.int .i64 127, Value.int .i64 (-128), Value.int .i64 a0_5, Value.int .i64 127]) (.int .i64 4)).run Try.prog wz = .ok (.agg #[Value.int .i64 (-128), Value.int .i64 a0_4, Value.int .i64 127]) wz := fun _ => by kernel_rfl
  have i5 : ∀ wz, (Instr.index 69 (.agg #[Value.int .i64 0, Value.int .i64 a0_0, Value.int .i64 3, Value.int .i64 1, Value.int .i64 a0_1, Value.int .i64 4, Value.int .i64 0, Value.int .i64 a0_2, Value.int .i64 7, Value.int .i64 0, Value.int .i64 a0_3, Value.int .i64 255, Value.int .i64 (-128), Value.int .i64 a0_4, Value.int .i64 127, Value.int .i64 (-128), Value.int .i64 a0_5, Value.int .i64 127]) (.int .i64 5)).run Try.prog wz = .ok (.agg #[Value.int .i64 (-128), Value.int .i64 a0_5, Value.int .i64 127]) wz := fun _ => by kernel_rfl
  obtain ⟨q1, hq1⟩ : ∃ q, (header_May.st true 0 a0_0 3) = q := ⟨_, rfl⟩
  obtain ⟨q2, hq2⟩ : ∃ q, (header_May.st (header_May.st true 0 a0_0 3) 1 a0_1 4) = q := ⟨_, rfl⟩
  obtain ⟨q3, hq3⟩ : ∃ q, (header_May.st (header_May.st (header_May.st true 0 a0_0 3) 1 a0_1 4) 0 a0_2 7) = q := ⟨_, rfl⟩
  obtain ⟨q4, hq4⟩ : ∃ q, (header_May.st (header_May.st (header_May.st (header_May.st true 0 a0_0 3) 1 a0_1 4) 0 a0_2 7) 0 a0_3 255) = q := ⟨_, rfl⟩
  obtain ⟨q5, hq5⟩ : ∃ q, (header_May.st (header_May.st (header_May.st (header_May.st (header_May.st true 0 a0_0 3) 1 a0_1 4) 0 a0_2 7) 0 a0_3 255) (-128) a0_4 127) = q := ⟨_, rfl⟩
  obtain ⟨q6, hq6⟩ : ∃ q, (header_May.st (header_May.st (header_May.st (header_May.st (header_May.st (header_May.st true 0 a0_0 3) 1 a0_1 4) 0 a0_2 7) 0 a0_3 255) (-128) a0_4 127) (-128) a0_5 127) = q := ⟨_, rfl⟩
  have hok : header_May.ok a0_0 a0_1 a0_2 a0_3 a0_4 a0_5 = q6 := hq6
  rw [hok]
  rw [hq1] at hq2 hq3 hq4 hq5 hq6
  rw [hq2] at hq3 hq4 hq5 hq6
  rw [hq3] at hq4 hq5 hq6
  rw [hq4] at hq5 hq6
  rw [hq5] at hq6
  have HQ := Aside0.mk (show header_May.st true 0 a0_0 3 = q1 ∧ header_May.st q1 1 a0_1 4 = q2 ∧ header_May.st q2 0 a0_2 7 = q3 ∧ header_May.st q3 0 a0_3 255 = q4 ∧ header_May.st q4 (-128) a0_4 127 = q5 ∧ header_May.st q5 (-128) a0_5 127 = q6 from ⟨hq1, hq2, hq3, hq4, hq5, hq6⟩)
  clear hok hq1 hq2 hq3 hq4 hq5 hq6
  go_enter Try.func31, Try.ntmps31
  go_wp2
  go_loopg [3, 25] 6 (fun g v i wr => ∃ c : Int, ∃ b : Bool, (c = 0 ∧ g = 6 ∧ true = b ∨ c = 1 ∧ g = 5 ∧ q1 = b ∨ c = 2 ∧ g = 4 ∧ q2 = b ∨ c = 3 ∧ g = 3 ∧ q3 = b ∨ c = 4 ∧ g = 2 ∧ q4 = b ∨ c = 5 ∧ g = 1 ∧ q5 = b ∨ c = 6 ∧ g = 0 ∧ q6 = b) ∧ v = .bool b ∧ i = .int .i64 c ∧ Below w.heap.size w wr)
  case atStart => exact ⟨0, true, .inl ⟨rfl, rfl, rfl⟩, rfl, rfl, HB.out⟩
  case round =>
    obtain ⟨c, b, hj, rfl, rfl, hbel⟩ := hrel
    clear HB
    have HB := Aside0.mk hbel
    clear hbel
    rcases hj with ⟨rfl, rfl, rfl⟩ | ⟨rfl, rfl, rfl⟩ | ⟨rfl, rfl, rfl⟩ | ⟨rfl, rfl, rfl⟩ | ⟨rfl, rfl, rfl⟩ | ⟨rfl, rfl, rfl⟩ | ⟨rfl, rfl, rfl⟩
    · by_cases l1 : 0 ≤ a0_0
      · by_cases l2 : a0_0 ≤ 3
        · have d1 : decide (0 ≤ a0_0) = true := decide_eq_true l1
          have d2 : decide (a0_0 ≤ 3) = true := decide_eq_true l2
          clear l1 l2
          go_wp2
          go_roundg 5
          case measure => omega
          case rel => exact ⟨1, q1, .inr (.inl ⟨rfl, rfl, rfl⟩), by rw [← HQ.out.1]; first | rfl | (simp [header_May.st, *]; done), by first | rfl | go_num, below_alloc HB.out _⟩
        · have d1 : decide (0 ≤ a0_0) = true := decide_eq_true l1
          have d2 : decide (a0_0 ≤ 3) = false := decide_eq_false l2
          clear l1 l2
          go_wp2
          go_roundg 5
          case measure => omega
          case rel => exact ⟨1, q1, .inr (.inl ⟨rfl, rfl, rfl⟩), by rw [← HQ.out.1]; first | rfl | (simp [header_May.st, *]; done), by first | rfl | go_num, below_alloc HB.out _⟩
      · have d1 : decide (0 ≤ a0_0) = false := decide_eq_false l1
        clear l1
        go_wp2
        go_roundg 5
        case measure => omega
        case rel => exact ⟨1, q1, .inr (.inl ⟨rfl, rfl, rfl⟩), by rw [← HQ.out.1]; first | rfl | (simp [header_May.st, *]; done), by first | rfl | go_num, below_alloc HB.out _⟩
    · cases q1
      · go_wp2
        go_roundg 4
        case measure => omega
        case rel => exact ⟨2, q2, .inr (.inr (.inl ⟨rfl, rfl, rfl⟩)), by rw [← HQ.out.2.1]; first | rfl | (simp [header_May.st, *]; done), by first | rfl | go_num, below_alloc HB.out _⟩
      · by_cases l1 : 1 ≤ a0_1
        · by_cases l2 : a0_1 ≤ 4
          · have d1 : decide (1 ≤ a0_1) = true := decide_eq_true l1
            have d2 : decide (a0_1 ≤ 4) = true := decide_eq_true l2
            clear l1 l2
            go_wp2
            go_roundg 4
            case measure => omega
            case rel => exact ⟨2, q2, .inr (.inr (.inl ⟨rfl, rfl, rfl⟩)), by rw [← HQ.out.2.1]; first | rfl | (simp [header_May.st, *]; done), by first | rfl | go_num, below_alloc HB.out _⟩
          · have d1 : decide (1 ≤ a0_1) = true := decide_eq_true l1
            have d2 : decide (a0_1 ≤ 4) = false := decide_eq_false l2
            clear l1 l2
            go_wp2
            go_roundg 4
            case measure => omega
            case rel => exact ⟨2, q2, .inr (.inr (.inl ⟨rfl, rfl, rfl⟩)), by rw [← HQ.out.2.1]; first | rfl | (simp [header_May.st, *]; done), by first | rfl | go_num, below_alloc HB.out _⟩
        · have d1 : decide (1 ≤ a0_1) = false := decide_eq_false l1
          clear l1
          go_wp2
          go_roundg 4
          case measure => omega
          case rel => exact ⟨2, q2, .inr (.inr (.inl ⟨rfl, rfl, rfl⟩)), by rw [← HQ.out.2.1]; first | rfl | (simp [header_May.st, *]; done), by first | rfl | go_num, below_alloc HB.out _⟩
    · cases q2
      · go_wp2
        go_roundg 3
        case measure => omega
        case rel => exact ⟨3, q3, .inr (.inr (.inr (.inl ⟨rfl, rfl, rfl⟩))), by rw [← HQ.out.2.2.1]; first | rfl | (simp [header_May.st, *]; done), by first | rfl | go_num, below_alloc HB.out _⟩
      · by_cases l1 : 0 ≤ a0_2
        · by_cases l2 : a0_2 ≤ 7
          · have d1 : decide (0 ≤ a0_2) = true := decide_eq_true l1
            have d2 : decide (a0_2 ≤ 7) = true := decide_eq_true l2
            clear l1 l2
            go_wp2
            go_roundg 3
            case measure => omega
            case rel => exact ⟨3, q3, .inr (.inr (.inr (.inl ⟨rfl, rfl, rfl⟩))), by rw [← HQ.out.2.2.1]; first | rfl | (simp [header_May.st, *]; done), by first | rfl | go_num, below_alloc HB.out _⟩
          · have d1 : decide (0 ≤ a0_2) = true := decide_eq_true l1
            have d2 : decide (a0_2 ≤ 7) = false := decide_eq_false l2
            clear l1 l2
            go_wp2
            go_roundg 3
            case measure => omega
            case rel => exact ⟨3, q3, .inr (.inr (.inr (.inl ⟨rfl, rfl, rfl⟩))), by rw [← HQ.out.2.2.1]; first | rfl | (simp [header_May.st, *]; done), by first | rfl | go_num, below_alloc HB.out _⟩
        · have d1 : decide (0 ≤ a0_2) = false := decide_eq_false l1
          clear l1
          go_wp2
          go_roundg 3
          case measure => omega
          case rel => exact ⟨3, q3, .inr (.inr (.inr (.inl ⟨rfl, rfl, rfl⟩))), by rw [← HQ.out.2.2.1]; first | rfl | (simp [header_May.st, *]; done), by first | rfl | go_num, below_alloc HB.out _⟩
    · cases q3
      · go_wp2
        go_roundg 2
        case measure => omega
        case rel => exact ⟨4, q4, .inr (.inr (.inr (.inr (.inl ⟨rfl, rfl, rfl⟩)))), by rw [← HQ.out.2.2.2.1]; first | rfl | (simp [header_May.st, *]; done), by first | rfl | go_num, below_alloc HB.out _⟩
      · by_cases l1 : 0 ≤ a0_3
        · by_cases l2 : a0_3 ≤ 255
          · have d1 : decide (0 ≤ a0_3) = true := decide_eq_true l1
            have d2 : decide (a0_3 ≤ 255) = true := decide_eq_true l2
            clear l1 l2
            go_wp2
            go_roundg 2
            case measure => omega
            case rel => exact ⟨4, q4, .inr (.inr (.inr (.inr (.inl ⟨rfl, rfl, rfl⟩)))), by rw [← HQ.out.2.2.2.1]; first | rfl | (simp [header_May.st, *]; done), by first | rfl | go_num, below_alloc HB.out _⟩
          · have d1 : decide (0 ≤ a0_3) = true := decide_eq_true l1
            have d2 : decide (a0_3 ≤ 255) = false := decide_eq_false l2
            clear l1 l2
            go_wp2
            go_roundg 2
            case measure => omega
            case rel => exact ⟨4, q4, .inr (.inr (.inr (.inr (.inl ⟨rfl, rfl, rfl⟩)))), by rw [← HQ.out.2.2.2.1]; first | rfl | (simp [header_May.st, *]; done), by first | rfl | go_num, below_alloc HB.out _⟩
        · have d1 : decide (0 ≤ a0_3) = false := decide_eq_false l1
          clear l1
          go_wp2
          go_roundg 2
          case measure => omega
          case rel => exact ⟨4, q4, .inr (.inr (.inr (.inr (.inl ⟨rfl, rfl, rfl⟩)))), by rw [← HQ.out.2.2.2.1]; first | rfl | (simp [header_May.st, *]; done), by first | rfl | go_num, below_alloc HB.out _⟩
    · cases q4
      · go_wp2
        go_roundg 1
        case measure => omega
        case rel => exact ⟨5, q5, .inr (.inr (.inr (.inr (.inr (.inl ⟨rfl, rfl, rfl⟩))))), by rw [← HQ.out.2.2.2.2.1]; first | rfl | (simp [header_May.st, *]; done), by first | rfl | go_num, below_alloc HB.out _⟩
      · by_cases l1 : (-128) ≤ a0_4
        · by_cases l2 : a0_4 ≤ 127
          · have d1 : decide ((-128) ≤ a0_4) = true := decide_eq_true l1
            have d2 : decide (a0_4 ≤ 127) = true := decide_eq_true l2
            clear l1 l2
            go_wp2
            go_roundg 1
            case measure => omega
            case rel => exact ⟨5, q5, .inr (.inr (.inr (.inr (.inr (.inl ⟨rfl, rfl, rfl⟩))))), by rw [← HQ.out.2.2.2.2.1]; first | rfl | (simp [header_May.st, *]; done), by first | rfl | go_num, below_alloc HB.out _⟩
          · have d1 : decide ((-128) ≤ a0_4) = true := decide_eq_true l1
            have d2 : decide (a0_4 ≤ 127) = false := decide_eq_false l2
            clear l1 l2
            go_wp2
            go_roundg 1
            case measure => omega
            case rel => exact ⟨5, q5, .inr (.inr (.inr (.inr (.inr (.inl ⟨rfl, rfl, rfl⟩))))), by rw [← HQ.out.2.2.2.2.1]; first | rfl | (simp [header_May.st, *]; done), by first | rfl | go_num, below_alloc HB.out _⟩
        · have d1 : decide ((-128) ≤ a0_4) = false := decide_eq_false l1
          clear l1
          go_wp2
          go_roundg 1
          case measure => omega
          case rel => exact ⟨5, q5, .inr (.inr (.inr (.inr (.inr (.inl ⟨rfl, rfl, rfl⟩))))), by rw [← HQ.out.2.2.2.2.1]; first | rfl | (simp [header_May.st, *]; done), by first | rfl | go_num, below_alloc HB.out _⟩
    · cases q5
      · go_wp2
        go_roundg 0
        case measure => omega
        case rel => exact ⟨6, q6, .inr (.inr (.inr (.inr (.inr (.inr (⟨rfl, rfl, rfl⟩)))))), by rw [← HQ.out.2.2.2.2.2]; first | rfl | (simp [header_May.st, *]; done), by first | rfl | go_num, below_alloc HB.out _⟩
      · by_cases l1 : (-128) ≤ a0_5
        · by_cases l2 : a0_5 ≤ 127
          · have d1 : decide ((-128) ≤ a0_5) = true := decide_eq_true l1
            have d2 : decide (a0_5 ≤ 127) = true := decide_eq_true l2
            clear l1 l2
            go_wp2
            go_roundg 0
            case measure => omega
            case rel => exact ⟨6, q6, .inr (.inr (.inr (.inr (.inr (.inr (⟨rfl, rfl, rfl⟩)))))), by rw [← HQ.out.2.2.2.2.2]; first | rfl | (simp [header_May.st, *]; done), by first | rfl | go_num, below_alloc HB.out _⟩
          · have d1 : decide ((-128) ≤ a0_5) = true := decide_eq_true l1
            have d2 : decide (a0_5 ≤ 127) = false := decide_eq_false l2
            clear l1 l2
            go_wp2
            go_roundg 0
            case measure => omega
            case rel => exact ⟨6, q6, .inr (.inr (.inr (.inr (.inr (.inr (⟨rfl, rfl, rfl⟩)))))), by rw [← HQ.out.2.2.2.2.2]; first | rfl | (simp [header_May.st, *]; done), by first | rfl | go_num, below_alloc HB.out _⟩
        · have d1 : decide ((-128) ≤ a0_5) = false := decide_eq_false l1
          clear l1
          go_wp2
          go_roundg 0
          case measure => omega
          case rel => exact ⟨6, q6, .inr (.inr (.inr (.inr (.inr (.inr (⟨rfl, rfl, rfl⟩)))))), by rw [← HQ.out.2.2.2.2.2]; first | rfl | (simp [header_May.st, *]; done), by first | rfl | go_num, below_alloc HB.out _⟩
    · go_wp2
      go_ret
      exact ⟨rfl, HB.out⟩

/-! ### header_put_uint32: function 48 -/
def header_put_uint32.l0 : Nat → List Int → Int → Int → Option (List Int)
  | 0, _, _, _ => none
  | k + 1, x0, x1, x7 => if x7 ≥ 0 then (if 0 ≤ (wrap64 (8 * x7)) then (if x0.length < 140737488355328 then (header_put_uint32.l0 k (x0 ++ [(shr .u64 (IntKind.u64.wrap (x1)) (wrap64 (8 * x7))) % 256]) x1 (wrap64 (x7 - 1))) else (none)) else (none)) else (some x0)
def header_put_uint32.f (k : Nat) (l0 : List Int) (a1 : Int) (a2 : Int) : Option (List Int) := header_put_uint32.l0 k l0 a1 (wrap64 (a2 - 1))
theorem header_put_uint32.mono_l : ∀ k, (∀ y0 y1 y2, LeO (header_put_uint32.l0 k y0 y1 y2) (header_put_uint32.l0 (k + 1) y0 y1 y2))
  | 0 => fun _ _ _ r h => by simp [header_put_uint32.l0] at h
  | k + 1 => by
    have ih0 := header_put_uint32.mono_l k
    · intro y0 y1 y2
      unfold header_put_uint32.l0
      repeat' first
      | (with_reducible exact ih0 _ _ _)
      | (with_reducible exact LeO.refl _)
      | (with_reducible exact LeO.none _)
      | (with_reducible refine LeO.ite ?_ ?_)
      | (with_reducible refine LeO.bind ?_ (fun _ => ?_))
      | exact ih0 _ _ _
      | exact LeO.none _
      | refine LeO.ite ?_ ?_
      | refine LeO.bind ?_ (fun _ => ?_)
theorem header_put_uint32.mono : ∀ a0 a1 a2 k, LeO (header_put_uint32.f k a0 a1 a2) (header_put_uint32.f (k + 1) a0 a1 a2) := by
  intro a0 a1 a2 k
  have ih0 := header_put_uint32.mono_l k
  unfold header_put_uint32.f
  repeat' first
      | (with_reducible exact ih0 _ _ _)
      | (with_reducible exact LeO.refl _)
      | (with_reducible exact LeO.none _)
      | (with_reducible refine LeO.ite ?_ ?_)
      | (with_reducible refine LeO.bind ?_ (fun _ => ?_))
      | exact ih0 _ _ _
      | exact LeO.none _
      | refine LeO.ite ?_ ?_
      | refine LeO.bind ?_ (fun _ => ?_)
set_option maxHeartbeats 8000000 in
set_option maxRecDepth 100000 in
theorem header_put_uint32.calls (k : Nat) (P0_ : Nat → Prop) (u9000_ : Value) (l0 : List Int) (a1 : Int) (a2 : Int) (r : List Int) (w0 w : World) (hB : Below w0.heap.size w0 w) (ho0 : Kd.R (Kd.int .u8) 5 w w0.heap.size P0_ u9000_ l0) (h : header_put_uint32.f k l0 a1 a2 = some r) :
    Calls Try.prog 48 #[u9000_, .int .u32 a1, .int .i64 a2] w fun e w' => ∃ v0_ : Value, e = .returned (v0_) ∧ Kd.R (Kd.int .u8) 5 w' w0.heap.size (fun k_ => (P0_ k_ ∨ w.heap.size ≤ k_)) v0_ r ∧ Below w0.heap.size w0 w' ∧ Kept w w' (fun k_ => P0_ k_) := by
  have HO0 := Aside0.mk (show Kd.R (Kd.int .u8) 5 w w0.heap.size (fun k_ => (P0_ k_ ∨ w.heap.size ≤ k_)) u9000_ l0 from Kd.R_mono ho0 (fun k_ hk => (.inl hk)))
  have HK := Aside0.mk (Kept.refl w (fun k_ => P0_ k_))
  have HW0 := Aside0.mk hB.size
  have HB := Aside0.mk hB
  clear hB
  have H : (header_put_uint32.l0 k l0 a1 (wrap64 (a2 - 1))) = some r := h
  clear h
  have H' := Aside0.mk H
  clear H
  go_enter Try.func48, Try.ntmps48
  go_wp2
  go_loopg [0, 7] k (fun kq v0 v7 w' => ∃ (x0_1 : List Int) (x7_1 : Int), v7 = .int .i64 x7_1 ∧ Aside0 (header_put_uint32.l0 kq x0_1 a1 x7_1 = some r) ∧ Aside0 (kq ≤ k) ∧ Aside0 (Kd.R (Kd.int .u8) 5 w' w0.heap.size (fun k_ => (P0_ k_ ∨ w.heap.size ≤ k_)) v0 x0_1) ∧ Aside0 (Kept w w' (fun k_ => P0_ k_)) ∧ Aside0 (Below w0.heap.size w0 w'))
  case atStart => exact ⟨(l0), (wrap64 (a2 - 1)), (by first | rfl | (simp; done) | (simp [*]; done)), H', ⟨Nat.le_refl _⟩, ⟨by (with_reducible repeat (first | apply Kd.R_alloc | apply Kd.R_drewN | apply Kd.R_drew)); exact HO0.out⟩, ⟨by repeat (first | (with_reducible first | exact HK.out | apply Kept.alloc | apply Kept.drewN | apply Kept.drew) | exact HK.out)⟩, ⟨by repeat (first | (with_reducible first | exact HB.out | apply below_alloc | apply pw_below_drewN | apply below_drew1) | exact HB.out)⟩⟩
  case round =>
    clear H'
    try clear p2
    obtain ⟨x0_1, x7_1, rfl, HA, HK1, HO_0, HK, HB⟩ := hrel
    cases gk with
    | zero => exact absurd HA.out (by simp [header_put_uint32.l0])
    | succ k1 =>
      have H := HA.out
      clear HA
      simp only [header_put_uint32.l0] at H
      by_cases c4 : x7_1 ≥ 0
      · rw [if_pos c4] at H
        have c4b0 : decide (0 ≤ x7_1) = true := decide_eq_true c4
        clear c4
        obtain ⟨ji5, hji5⟩ : ∃ j_ : Int, (wrap64 (8 * x7_1)) = j_ := ⟨_, rfl⟩
        replace H : (if 0 ≤ (ji5) then (if x0_1.length < 140737488355328 then (header_put_uint32.l0 k1 (x0_1 ++ [(shr .u64 (IntKind.u64.wrap (a1)) (ji5)) % 256]) a1 (wrap64 (x7_1 - 1))) else (none)) else (none)) = some r := by first | (rw [hji5] at H; exact H) | (simp only [hji5] at H ⊢; exact H)
        have hji5w : (IntKind.i64.wrap (8 * x7_1)) = ji5 := (i64_w _).trans hji5
        by_cases c6 : 0 ≤ (ji5)
        · rw [if_pos c6] at H
          have c6b0 := eq_true c6
          have c6b1 : decide (0 ≤ (ji5)) = true := decide_eq_true c6
          clear c6
          obtain ⟨ji7, hji7⟩ : ∃ j_ : Int, (shr .u64 (IntKind.u64.wrap (a1)) (ji5)) = j_ := ⟨_, rfl⟩
          replace H : (if x0_1.length < 140737488355328 then (header_put_uint32.l0 k1 (x0_1 ++ [(ji7) % 256]) a1 (wrap64 (x7_1 - 1))) else (none)) = some r := by first | (rw [hji7] at H; exact H) | (simp only [hji7] at H ⊢; exact H)
          have hji7_ : ((IntKind.u64.wrap (a1)) / 2 ^ min (ji5).toNat 64) = ji7 := hji7
          have hji7z : (ji5) ≤ 64 → ((IntKind.u64.wrap (a1)) / 2 ^ (ji5).toNat) = ji7 := shr_small hji7
          by_cases c8 : x0_1.length < 140737488355328
          · rw [if_pos c8] at H
            have LMc8 := Aside0.mk c8
            clear c8
            obtain ⟨y101, hy101⟩ : ∃ y_ : List Int, y_ = (x0_1 ++ [(ji7) % 256]) := ⟨_, rfl⟩
            replace H : (header_put_uint32.l0 k1 y101 a1 (wrap64 (x7_1 - 1))) = some r := by first | (rw [hy101]; with_reducible exact H) | (have H2_ := (Option.bind_some _ _).symm.trans H; rw [hy101]; with_reducible exact H2_) | (have H2_ := (Option.bind_some _ _).symm.trans H; with_reducible exact H2_) | with_reducible exact H | (rw [hy101]; exact H) | exact H
            have Ny101 := Aside0.mk hy101
            clear hy101
            have H' := Aside0.mk H
            clear H
            go_wp2_with (first | ((with_reducible refine gate_builtin (b := .append) (xs := #[.tmp 14, .tmp 21]) rfl ?_); at_builtin; refine Kd.R_append (Kd.int .u8) (w0 := w0) w0.heap.size rfl (.tmp 14) (.tmp 21) 50 5 (.int .u8 0) 1 rfl Try.underlying50 info5 rfl (by decide) (by omega) u0 x0_1 ((ji7) % 256) [.int .u8 ((ji7) % 256)] (fun k_ => (P0_ k_ ∨ w.heap.size ≤ k_)) (fun _ => False) rfl rfl ?aP (fun _ hk => hk.elim) ?aF ?aO ?aB ?aS ?aL ?_; (case aP => exact rfl); (case aB => exact (by repeat (first | (with_reducible first | exact HB.out | apply below_alloc | apply pw_below_drewN | apply below_drew1) | exact HB.out))); (case aF => exact (fun k_ hk => (.inr (Nat.le_trans (by first | exact HK.out.1 | exact (show Kept w _ (fun k_ => P0_ k_) from by repeat (first | (with_reducible first | exact HK.out | apply Kept.alloc | apply Kept.drewN | apply Kept.drew) | exact HK.out)).1) hk)))); (case aO => exact (by (with_reducible repeat (first | apply Kd.R_alloc | apply Kd.R_drewN | apply Kd.R_drew)); exact HO_0.out)); (case aS => exact (below_size (by repeat (first | (with_reducible first | exact HB.out | apply below_alloc | apply pw_below_drewN | apply below_drew1) | exact HB.out)))); (case aL => have := LMc8.out; omega); intro v102 w9 ho hb hg hat; rw [← Ny101.out] at ho; have n0_ := Aside0.mk (hb); have n1_ := Aside0.mk (Kept.of_grown (S := (fun k_ => P0_ k_)) hg (by repeat (first | (with_reducible first | exact HK.out | apply Kept.alloc | apply Kept.drewN | apply Kept.drew) | exact HK.out)) (fun k_ e_ => (HO_0.out.1 k_ e_))); have n2_ := Aside0.mk (ho); clear HB; clear HK; clear HO_0; have HB := n0_; have HK := n1_; have HO103 := n2_; clear n0_ n1_ n2_; clear ho hb hg hat))
            go_roundg k1
            case measure => have := HK1.out; omega
            case rel => exact ⟨(y101), (wrap64 (x7_1 - 1)), (by first | rfl | (simp; done) | (simp [*]; done)), H', ⟨by have := HK1.out; omega⟩, ⟨by (with_reducible repeat (first | apply Kd.R_alloc | apply Kd.R_drewN | apply Kd.R_drew)); exact HO103.out⟩, ⟨by repeat (first | (with_reducible first | exact HK.out | apply Kept.alloc | apply Kept.drewN | apply Kept.drew) | exact HK.out)⟩, ⟨by repeat (first | (with_reducible first | exact HB.out | apply below_alloc | apply pw_below_drewN | apply below_drew1) | exact HB.out)⟩⟩
          · rw [if_neg c8] at H
            exact absurd H (by simp)
        · rw [if_neg c6] at H
          exact absurd H (by simp)
      · rw [if_neg c4] at H
        have c4b0 : decide (0 ≤ x7_1) = false := decide_eq_false c4
        clear c4
        obtain rfl := Option.some.inj H
        go_wp2
        go_ret
        exact ⟨_, by first | rfl | (simp [errW_none, errW_some] <;> rfl) | (simp [*, errW_none, errW_some] <;> rfl), by (with_reducible repeat (first | apply Kd.R_alloc | apply Kd.R_drewN | apply Kd.R_drew)); exact HO_0.out, by repeat (first | (with_reducible first | exact HB.out | apply below_alloc | apply pw_below_drewN | apply below_drew1) | exact HB.out), by repeat (first | (with_reducible first | exact HK.out | apply Kept.alloc | apply Kept.drewN | apply Kept.drew) | exact HK.out)⟩

/-! ### header_put_uint64: function 49 -/
def header_put_uint64.l0 : Nat → List Int → Int → Int → Option (List Int)
  | 0, _, _, _ => none
  | k + 1, x0, x1, x7 => if x7 ≥ 0 then (if 0 ≤ (wrap64 (8 * x7)) then (if x0.length < 140737488355328 then (header_put_uint64.l0 k (x0 ++ [(shr .u64 x1 (wrap64 (8 * x7))) % 256]) x1 (wrap64 (x7 - 1))) else (none)) else (none)) else (some x0)
def header_put_uint64.f (k : Nat) (l0 : List Int) (a1 : Int) (a2 : Int) : Option (List Int) := header_put_uint64.l0 k l0 a1 (wrap64 (a2 - 1))
theorem header_put_uint64.mono_l : ∀ k, (∀ y0 y1 y2, LeO (header_put_uint64.l0 k y0 y1 y2) (header_put_uint64.l0 (k + 1) y0 y1 y2))
  | 0 => fun _ _ _ r h => by simp [header_put_uint64.l0] at h
  | k + 1 => by
    have ih0 := header_put_uint64.mono_l k
    · intro y0 y1 y2
      unfold header_put_uint64.l0
      repeat' first
      | (with_reducible exact ih0 _ _ _)
      | (with_reducible exact LeO.refl _)
      | (with_reducible exact LeO.none _)
      | (with_reducible refine LeO.ite ?_ ?_)
      | (with_reducible refine LeO.bind ?_ (fun _ => ?_))
      | exact ih0 _ _ _
      | exact LeO.none _
      | refine LeO.ite ?_ ?_
      | refine LeO.bind ?_ (fun _ => ?_)
theorem header_put_uint64.mono : ∀ a0 a1 a2 k, LeO (header_put_uint64.f k a0 a1 a2) (header_put_uint64.f (k + 1) a0 a1 a2) := by
  intro a0 a1 a2 k
  have ih0 := header_put_uint64.mono_l k
  unfold header_put_uint64.f
  repeat' first
      | (with_reducible exact ih0 _ _ _)
      | (with_reducible exact LeO.refl _)
      | (with_reducible exact LeO.none _)
      | (with_reducible refine LeO.ite ?_ ?_)
      | (with_reducible refine LeO.bind ?_ (fun _ => ?_))
      | exact ih0 _ _ _
      | exact LeO.none _
      | refine LeO.ite ?_ ?_
      | refine LeO.bind ?_ (fun _ => ?_)
set_option maxHeartbeats 8000000 in
set_option maxRecDepth 100000 in
theorem header_put_uint64.calls (k : Nat) (P0_ : Nat → Prop) (u9000_ : Value) (l0 : List Int) (a1 : Int) (a2 : Int) (r : List Int) (w0 w : World) (hB : Below w0.heap.size w0 w) (ho0 : Kd.R (Kd.int .u8) 5 w w0.heap.size P0_ u9000_ l0) (h : header_put_uint64.f k l0 a1 a2 = some r) :
    Calls Try.prog 49 #[u9000_, .int .u64 a1, .int .i64 a2] w fun e w' => ∃ v0_ : Value, e = .returned (v0_) ∧ Kd.R (Kd.int .u8) 5 w' w0.heap.size (fun k_ => (P0_ k_ ∨ w.heap.size ≤ k_)) v0_ r ∧ Below w0.heap.size w0 w' ∧ Kept w w' (fun k_ => P0_ k_) := by
  have HO0 := Aside0.mk (show Kd.R (Kd.int .u8) 5 w w0.heap.size (fun k_ => (P0_ k_ ∨ w.heap.size ≤ k_)) u9000_ l0 from Kd.R_mono ho0 (fun k_ hk => (.inl hk)))
  have HK := Aside0.mk (Kept.refl w (fun k_ => P0_ k_))
  have HW0 := Aside0.mk hB.size
  have HB := Aside0.mk hB
  clear hB
  have H : (header_put_uint64.l0 k l0 a1 (wrap64 (a2 - 1))) = some r := h
  clear h
  have H' := Aside0.mk H
  clear H
  go_enter Try.func49, Try.ntmps49
  go_wp2
  go_loopg [0, 7] k (fun kq v0 v7 w' => ∃ (x0_1 : List Int) (x7_1 : Int), v7 = .int .i64 x7_1 ∧ Aside0 (header_put_uint64.l0 kq x0_1 a1 x7_1 = some r) ∧ Aside0 (kq ≤ k) ∧ Aside0 (Kd.R (Kd.int .u8) 5 w' w0.heap.size (fun k_ => (P0_ k_ ∨ w.heap.size ≤ k_)) v0 x0_1) ∧ Aside0 (Kept w w' (fun k_ => P0_ k_)) ∧ Aside0 (Below w0.heap.size w0 w'))
  case atStart => exact ⟨(l0), (wrap64 (a2 - 1)), (by first | rfl | (simp; done) | (simp [*]; done)), H', ⟨Nat.le_refl _⟩, ⟨by (with_reducible repeat (first | apply Kd.R_alloc | apply Kd.R_drewN | apply Kd.R_drew)); exact HO0.out⟩, ⟨by repeat (first | (with_reducible first | exact HK.out | apply Kept.alloc | apply Kept.drewN | apply Kept.drew) | exact HK.out)⟩, ⟨by repeat (first | (with_reducible first | exact HB.out | apply below_alloc | apply pw_below_drewN | apply below_drew1) | exact HB.out)⟩⟩
  case round =>
    clear H'
    try clear p2
    obtain ⟨x0_1, x7_1, rfl, HA, HK1, HO_0, HK, HB⟩ := hrel
    cases gk with
    | zero => exact absurd HA.out (by simp [header_put_uint64.l0])
    | succ k1 =>
      have H := HA.out
      clear HA
      simp only [header_put_uint64.l0] at H
      by_cases c4 : x7_1 ≥ 0
      · rw [if_pos c4] at H
        have c4b0 : decide (0 ≤ x7_1) = true := decide_eq_true c4
        clear c4
        obtain ⟨ji5, hji5⟩ : ∃ j_ : Int, (wrap64 (8 * x7_1)) = j_ := ⟨_, rfl⟩
        replace H : (if 0 ≤ (ji5) then (if x0_1.length < 140737488355328 then (header_put_uint64.l0 k1 (x0_1 ++ [(shr .u64 a1 (ji5)) % 256]) a1 (wrap64 (x7_1 - 1))) else (none)) else (none)) = some r := by first | (rw [hji5] at H; exact H) | (simp only [hji5] at H ⊢; exact H)
        have hji5w : (IntKind.i64.wrap (8 * x7_1)) = ji5 := (i64_w _).trans hji5
        by_cases c6 : 0 ≤ (ji5)
        · rw [if_pos c6] at H
          have c6b0 := eq_true c6
          have c6b1 : decide (0 ≤ (ji5)) = true := decide_eq_true c6
          clear c6
          obtain ⟨ji7, hji7⟩ : ∃ j_ : Int, (shr .u64 a1 (ji5)) = j_ := ⟨_, rfl⟩
          replace H : (if x0_1.length < 140737488355328 then (header_put_uint64.l0 k1 (x0_1 ++ [(ji7) % 256]) a1 (wrap64 (x7_1 - 1))) else (none)) = some r := by first | (rw [hji7] at H; exact H) | (simp only [hji7] at H ⊢; exact H)
          have hji7_ : (a1 / 2 ^ min (ji5).toNat 64) = ji7 := hji7
          have hji7z : (ji5) ≤ 64 → (a1 / 2 ^ (ji5).toNat) = ji7 := shr_small hji7
          by_cases c8 : x0_1.length < 140737488355328
          · rw [if_pos c8] at H
            have LMc8 := Aside0.mk c8
            clear c8
            obtain ⟨y104, hy104⟩ : ∃ y_ : List Int, y_ = (x0_1 ++ [(ji7) % 256]) := ⟨_, rfl⟩
            replace H : (header_put_uint64.l0 k1 y104 a1 (wrap64 (x7_1 - 1))) = some r := by first | (rw [hy104]; with_reducible exact H) | (have H2_ := (Option.bind_some _ _).symm.trans H; rw [hy104]; with_reducible exact H2_) | (have H2_ := (Option.bind_some _ _).symm.trans H; with_reducible exact H2_) | with_reducible exact H | (rw [hy104]; exact H) | exact H
            have Ny104 := Aside0.mk hy104
            clear hy104
            have H' := Aside0.mk H
            clear H
            go_wp2_with (first | ((with_reducible refine gate_builtin (b := .append) (xs := #[.tmp 14, .tmp 20]) rfl ?_); at_builtin; refine Kd.R_append (Kd.int .u8) (w0 := w0) w0.heap.size rfl (.tmp 14) (.tmp 20) 50 5 (.int .u8 0) 1 rfl Try.underlying50 info5 rfl (by decide) (by omega) u0 x0_1 ((ji7) % 256) [.int .u8 ((ji7) % 256)] (fun k_ => (P0_ k_ ∨ w.heap.size ≤ k_)) (fun _ => False) rfl rfl ?aP (fun _ hk => hk.elim) ?aF ?aO ?aB ?aS ?aL ?_; (case aP => exact rfl); (case aB => exact (by repeat (first | (with_reducible first | exact HB.out | apply below_alloc | apply pw_below_drewN | apply below_drew1) | exact HB.out))); (case aF => exact (fun k_ hk => (.inr (Nat.le_trans (by first | exact HK.out.1 | exact (show Kept w _ (fun k_ => P0_ k_) from by repeat (first | (with_reducible first | exact HK.out | apply Kept.alloc | apply Kept.drewN | apply Kept.drew) | exact HK.out)).1) hk)))); (case aO => exact (by (with_reducible repeat (first | apply Kd.R_alloc | apply Kd.R_drewN | apply Kd.R_drew)); exact HO_0.out)); (case aS => exact (below_size (by repeat (first | (with_reducible first | exact HB.out | apply below_alloc | apply pw_below_drewN | apply below_drew1) | exact HB.out)))); (case aL => have := LMc8.out; omega); intro v105 w9 ho hb hg hat; rw [← Ny104.out] at ho; have n0_ := Aside0.mk (hb); have n1_ := Aside0.mk (Kept.of_grown (S := (fun k_ => P0_ k_)) hg (by repeat (first | (with_reducible first | exact HK.out | apply Kept.alloc | apply Kept.drewN | apply Kept.drew) | exact HK.out)) (fun k_ e_ => (HO_0.out.1 k_ e_))); have n2_ := Aside0.mk (ho); clear HB; clear HK; clear HO_0; have HB := n0_; have HK := n1_; have HO106 := n2_; clear n0_ n1_ n2_; clear ho hb hg hat))
            go_roundg k1
            case measure => have := HK1.out; omega
            case rel => exact ⟨(y104), (wrap64 (x7_1 - 1)), (by first | rfl | (simp; done) | (simp [*]; done)), H', ⟨by have := HK1.out; omega⟩, ⟨by (with_reducible repeat (first | apply Kd.R_alloc | apply Kd.R_drewN | apply Kd.R_drew)); exact HO106.out⟩, ⟨by repeat (first | (with_reducible first | exact HK.out | apply Kept.alloc | apply Kept.drewN | apply Kept.drew) | exact HK.out)⟩, ⟨by repeat (first | (with_reducible first | exact HB.out | apply below_alloc | apply pw_below_drewN | apply below_drew1) | exact HB.out)⟩⟩
          · rw [if_neg c8] at H
            exact absurd H (by simp)
        · rw [if_neg c6] at H
          exact absurd H (by simp)
      · rw [if_neg c4] at H
        have c4b0 : decide (0 ≤ x7_1) = false := decide_eq_false c4
        clear c4
        obtain rfl := Option.some.inj H
        go_wp2
        go_ret
        exact ⟨_, by first | rfl | (simp [errW_none, errW_some] <;> rfl) | (simp [*, errW_none, errW_some] <;> rfl), by (with_reducible repeat (first | apply Kd.R_alloc | apply Kd.R_drewN | apply Kd.R_drew)); exact HO_0.out, by repeat (first | (with_reducible first | exact HB.out | apply below_alloc | apply pw_below_drewN | apply below_drew1) | exact HB.out), by repeat (first | (with_reducible first | exact HK.out | apply Kept.alloc | apply Kept.drewN | apply Kept.drew) | exact HK.out)⟩

/-! ### header_Encode: function 29 -/
mutual
def header_Encode.l0 : Nat → List Int → List Int → Int → Int → Int → Int → Int → Int → Int → Int → Int → Int → Int → Int → Int → Int → Int → Option (ByteArray × Int)
  | 0, _, _, _, _, _, _, _, _, _, _, _, _, _, _, _, _, _ => none
  | k + 1, x4, x39, x40, x41, x108000, x108001, x108002, x108003, x108004, x108005, x108006, x108007, x108008, x108009, x108010, x108011, x108012 => if x41 < x40 then (if 0 ≤ x41 then (if x41 < (x39.length : Int) then ((header_put_uint32.f k x4 (rd x39 x41) 4).bind fun t116 => (header_Encode.l0 k t116 x39 x40 (wrap64 (x41 + 1)) x108000 x108001 x108002 x108003 x108004 x108005 x108006 x108007 x108008 x108009 x108010 x108011 x108012)) else (none)) else (none)) else ((some (([x108009, x108010, x108011, x108012] : List Int) : List Int)).bind fun y119 => (header_Encode.l1 k x4 y119 (y119.length : Int) 0))
def header_Encode.l1 : Nat → List Int → List Int → Int → Int → Option (ByteArray × Int)
  | 0, _, _, _, _ => none
  | k + 1, x4, x57, x58, x59 => if x59 < x58 then (if 0 ≤ x59 then (if x59 < (x57.length : Int) then ((header_put_uint64.f k x4 (rd x57 x59) 8).bind fun t123 => (header_Encode.l1 k t123 x57 x58 (wrap64 (x59 + 1)))) else (none)) else (none)) else (some (strOfNums x4, 0))
end
def header_Encode.f (k : Nat) (a0_0 : Int) (a0_1 : Int) (a0_2 : Int) (a0_3 : Int) (a0_4 : Int) (a0_5 : Int) (a0_6 : Int) (a0_7 : Int) (a0_8 : Int) (a0_9 : Int) (a0_10 : Int) (a0_11 : Int) (a0_12 : Int) : Option (ByteArray × Int) := (header_May.f a0_0 a0_1 a0_2 a0_3 a0_4 a0_5 a0_6 a0_7 a0_8 a0_9 a0_10 a0_11 a0_12).bind fun t108 => (if t108 = true then ((some (([a0_6, a0_7, a0_8] : List Int) : List Int)).bind fun y112 => (header_Encode.l0 k (([(Go.bits .or .i64 (Go.bits .or .i64 (wrap64 (a0_0 * 64)) (wrap64 (a0_1 * 8))) a0_2) % 256, (a0_3) % 256, (a0_4) % 256, (a0_5) % 256] : List Int)) y112 (y112.length : Int) 0 a0_0 a0_1 a0_2 a0_3 a0_4 a0_5 a0_6 a0_7 a0_8 a0_9 a0_10 a0_11 a0_12)) else (some ((⟨#[]⟩ : ByteArray), 1)))
theorem header_Encode.mono_l : ∀ k, (∀ y0 y1 y2 y3 y4 y5 y6 y7 y8 y9 y10 y11 y12 y13 y14 y15 y16, LeO (header_Encode.l0 k y0 y1 y2 y3 y4 y5 y6 y7 y8 y9 y10 y11 y12 y13 y14 y15 y16) (header_Encode.l0 (k + 1) y0 y1 y2 y3 y4 y5 y6 y7 y8 y9 y10 y11 y12 y13 y14 y15 y16)) ∧ (∀ y0 y1 y2 y3, LeO (header_Encode.l1 k y0 y1 y2 y3) (header_Encode.l1 (k + 1) y0 y1 y2 y3))
  | 0 => ⟨fun _ _ _ _ _ _ _ _ _ _ _ _ _ _ _ _ _ r h => by simp [header_Encode.l0] at h, fun _ _ _ _ r h => by simp [header_Encode.l1] at h⟩
  | k + 1 => by
    obtain ⟨ih0, ih1⟩ := header_Encode.mono_l k
    refine ⟨?_, ?_⟩
    · intro y0 y1 y2 y3 y4 y5 y6 y7 y8 y9 y10 y11 y12 y13 y14 y15 y16
      unfold header_Encode.l0
      repeat' first
      | (with_reducible exact ih0 _ _ _ _ _ _ _ _ _ _ _ _ _ _ _ _ _)
      | (with_reducible exact ih1 _ _ _ _)
      | (with_reducible exact header_put_uint32.mono _ _ _ _)
      | (with_reducible exact header_put_uint64.mono _ _ _ _)
      | (with_reducible exact LeO.refl _)
      | (with_reducible exact LeO.none _)
      | (with_reducible refine LeO.ite ?_ ?_)
      | (with_reducible refine LeO.bind ?_ (fun _ => ?_))
      | exact ih0 _ _ _ _ _ _ _ _ _ _ _ _ _ _ _ _ _
      | exact ih1 _ _ _ _
      | exact header_put_uint32.mono _ _ _ _
      | exact header_put_uint64.mono _ _ _ _
      | exact LeO.none _
      | refine LeO.ite ?_ ?_
      | refine LeO.bind ?_ (fun _ => ?_)
    · intro y0 y1 y2 y3
      unfold header_Encode.l1
      repeat' first
      | (with_reducible exact ih0 _ _ _ _ _ _ _ _ _ _ _ _ _ _ _ _ _)
      | (with_reducible exact ih1 _ _ _ _)
      | (with_reducible exact header_put_uint32.mono _ _ _ _)
      | (with_reducible exact header_put_uint64.mono _ _ _ _)
      | (with_reducible exact LeO.refl _)
      | (with_reducible exact LeO.none _)
      | (with_reducible refine LeO.ite ?_ ?_)
      | (with_reducible refine LeO.bind ?_ (fun _ => ?_))
      | exact ih0 _ _ _ _ _ _ _ _ _ _ _ _ _ _ _ _ _
      | exact ih1 _ _ _ _
      | exact header_put_uint32.mono _ _ _ _
      | exact header_put_uint64.mono _ _ _ _
      | exact LeO.none _
      | refine LeO.ite ?_ ?_
      | refine LeO.bind ?_ (fun _ => ?_)
theorem header_Encode.mono : ∀ a0 a1 a2 a3 a4 a5 a6 a7 a8 a9 a10 a11 a12 k, LeO (header_Encode.f k a0 a1 a2 a3 a4 a5 a6 a7 a8 a9 a10 a11 a12) (header_Encode.f (k + 1) a0 a1 a2 a3 a4 a5 a6 a7 a8 a9 a10 a11 a12) := by
  intro a0 a1 a2 a3 a4 a5 a6 a7 a8 a9 a10 a11 a12 k
  obtain ⟨ih0, ih1⟩ := header_Encode.mono_l k
  unfold header_Encode.f
  repeat' first
      | (with_reducible exact ih0 _ _ _ _ _ _ _ _ _ _ _ _ _ _ _ _ _)
      | (with_reducible exact ih1 _ _ _ _)
      | (with_reducible exact header_put_uint32.mono _ _ _ _)
      | (with_reducible exact header_put_uint64.mono _ _ _ _)
      | (with_reducible exact LeO.refl _)
      | (with_reducible exact LeO.none _)
      | (with_reducible refine LeO.ite ?_ ?_)
      | (with_reducible refine LeO.bind ?_ (fun _ => ?_))
      | exact ih0 _ _ _ _ _ _ _ _ _ _ _ _ _ _ _ _ _
      | exact ih1 _ _ _ _
      | exact header_put_uint32.mono _ _ _ _
      | exact header_put_uint64.mono _ _ _ _
      | exact LeO.none _
      | refine LeO.ite ?_ ?_
      | refine LeO.bind ?_ (fun _ => ?_)
set_option maxHeartbeats 8000000 in
set_option maxRecDepth 100000 in
theorem header_Encode.calls (k : Nat) (a0_0 : Int) (a0_1 : Int) (a0_2 : Int) (a0_3 : Int) (a0_4 : Int) (a0_5 : Int) (a0_6 : Int) (a0_7 : Int) (a0_8 : Int) (a0_9 : Int) (a0_10 : Int) (a0_11 : Int) (a0_12 : Int) (r1 : ByteArray) (r2 : Int) (w : World) (h : header_Encode.f k a0_0 a0_1 a0_2 a0_3 a0_4 a0_5 a0_6 a0_7 a0_8 a0_9 a0_10 a0_11 a0_12 = some (r1, r2)) :
    Calls Try.prog 29 #[.agg #[.int .i64 a0_0, .int .i64 a0_1, .int .i64 a0_2, .int .i64 a0_3, .int .i64 a0_4, .int .i64 a0_5, .int .u32 a0_6, .int .u32 a0_7, .int .u32 a0_8, .int .u64 a0_9, .int .u64 a0_10, .int .u64 a0_11, .int .u64 a0_12]] w fun e w' => e = .returned (.tuple #[.string r1, .int .i64 r2]) ∧ Below w.heap.size w w' := by
  have hu42 := Try.underlying42
  have HB := Aside0.mk (Below.refl w.heap.size w)
  have H : ((header_May.f a0_0 a0_1 a0_2 a0_3 a0_4 a0_5 a0_6 a0_7 a0_8 a0_9 a0_10 a0_11 a0_12).bind fun t108 => (if t108 = true then ((some (([a0_6, a0_7, a0_8] : List Int) : List Int)).bind fun y112 => (header_Encode.l0 k (([(Go.bits .or .i64 (Go.bits .or .i64 (wrap64 (a0_0 * 64)) (wrap64 (a0_1 * 8))) a0_2) % 256, (a0_3) % 256, (a0_4) % 256, (a0_5) % 256] : List Int)) y112 (y112.length : Int) 0 a0_0 a0_1 a0_2 a0_3 a0_4 a0_5 a0_6 a0_7 a0_8 a0_9 a0_10 a0_11 a0_12)) else (some ((⟨#[]⟩ : ByteArray), 1)))) = some (r1, r2) := h
  clear h
  replace H := Option.bind_eq_some_iff.mp H
  obtain ⟨t108, A20, H⟩ := H
  replace H : (if t108 = true then ((some (([a0_6, a0_7, a0_8] : List Int) : List Int)).bind fun y112 => (header_Encode.l0 k (([(Go.bits .or .i64 (Go.bits .or .i64 (wrap64 (a0_0 * 64)) (wrap64 (a0_1 * 8))) a0_2) % 256, (a0_3) % 256, (a0_4) % 256, (a0_5) % 256] : List Int)) y112 (y112.length : Int) 0 a0_0 a0_1 a0_2 a0_3 a0_4 a0_5 a0_6 a0_7 a0_8 a0_9 a0_10 a0_11 a0_12)) else (some ((⟨#[]⟩ : ByteArray), 1))) = some (r1, r2) := H
  have A2 := Aside0.mk A20
  clear A20
  by_cases c3 : t108 = true
  · subst c3
    have H1 : ((some (([a0_6, a0_7, a0_8] : List Int) : List Int)).bind fun y112 => (header_Encode.l0 k (([(Go.bits .or .i64 (Go.bits .or .i64 (wrap64 (a0_0 * 64)) (wrap64 (a0_1 * 8))) a0_2) % 256, (a0_3) % 256, (a0_4) % 256, (a0_5) % 256] : List Int)) y112 (y112.length : Int) 0 a0_0 a0_1 a0_2 a0_3 a0_4 a0_5 a0_6 a0_7 a0_8 a0_9 a0_10 a0_11 a0_12)) = some (r1, r2) := by rw [if_pos rfl] at H; exact H
    clear H
    have H := H1
    clear H1
    obtain ⟨y109, hy109⟩ : ∃ y_ : List Int, y_ = (([(Go.bits .or .i64 (Go.bits .or .i64 (wrap64 (a0_0 * 64)) (wrap64 (a0_1 * 8))) a0_2) % 256, (a0_3) % 256, (a0_4) % 256, (a0_5) % 256] : List Int)) := ⟨_, rfl⟩
    replace H : ((some (([a0_6, a0_7, a0_8] : List Int) : List Int)).bind fun y112 => (header_Encode.l0 k y109 y112 (y112.length : Int) 0 a0_0 a0_1 a0_2 a0_3 a0_4 a0_5 a0_6 a0_7 a0_8 a0_9 a0_10 a0_11 a0_12)) = some (r1, r2) := by first | (rw [hy109]; with_reducible exact H) | (have H2_ := (Option.bind_some _ _).symm.trans H; rw [hy109]; with_reducible exact H2_) | (have H2_ := (Option.bind_some _ _).symm.trans H; with_reducible exact H2_) | with_reducible exact H | (rw [hy109]; exact H) | exact H
    have Ny109 := Aside0.mk hy109
    clear hy109
    obtain ⟨y112, hy112⟩ : ∃ y_ : List Int, y_ = (([a0_6, a0_7, a0_8] : List Int)) := ⟨_, rfl⟩
    replace H : (header_Encode.l0 k y109 y112 (y112.length : Int) 0 a0_0 a0_1 a0_2 a0_3 a0_4 a0_5 a0_6 a0_7 a0_8 a0_9 a0_10 a0_11 a0_12) = some (r1, r2) := by first | (rw [hy112]; with_reducible exact H) | (have H2_ := (Option.bind_some _ _).symm.trans H; rw [hy112]; with_reducible exact H2_) | (have H2_ := (Option.bind_some _ _).symm.trans H; with_reducible exact H2_) | with_reducible exact H | (rw [hy112]; exact H) | exact H
    have Ny112 := Aside0.mk hy112
    clear hy112
    have H' := Aside0.mk H
    clear H
    go_enter Try.func29, Try.ntmps29
    go_wp2_with (first | ((with_reducible refine gate_dst (N := 1) rfl ?_); refine box_event ?hg (N := 1) ?hd (cs := #[.int .i64 a0_0, .int .i64 a0_1, .int .i64 a0_2, .int .i64 a0_3, .int .i64 a0_4, .int .i64 a0_5, .int .u32 a0_6, .int .u32 a0_7, .int .u32 a0_8, .int .u64 a0_9, .int .u64 a0_10, .int .u64 a0_11, .int .u64 a0_12]) (t := 42) ?hr ?_; (case hd => rfl); (case hg => rfl); (case hr => first | (go_simp; done) | (go_simp; rfl)); intro gb107 hg w4 hbox hb; have n0_ := Aside0.mk (below_step (by repeat (first | (with_reducible first | exact HB.out | apply below_alloc | apply pw_below_drewN | apply below_drew1) | exact HB.out)) hb); have n1_ := Aside0.mk (hbox); have n2_ := Aside0.mk ((by rw [hg]; exact (below_size (by repeat (first | (with_reducible first | exact HB.out | apply below_alloc | apply pw_below_drewN | apply below_drew1) | exact HB.out))) : w.heap.size ≤ gb107)); have n3_ := Aside0.mk ((by rw [hg]; exact (below_size (by repeat (first | (with_reducible first | exact HB.out | apply below_alloc | apply pw_below_drewN | apply below_drew1) | exact HB.out))) : w.heap.size ≤ gb107)); clear HB; have HB := n0_; have BK107 := n1_; have GW107 := n2_; have GE107 := n3_; clear n0_ n1_ n2_ n3_; clear hb hbox hg; have hcz5_0 : w4.cell? ⟨gb107, 0, none⟩ = some (.int .i64 a0_0) := (blk_cell BK107.out 0).trans rfl; have hcz5_1 : w4.cell? ⟨gb107, 1, none⟩ = some (.int .i64 a0_1) := (blk_cell BK107.out 1).trans rfl; have hcz5_2 : w4.cell? ⟨gb107, 2, none⟩ = some (.int .i64 a0_2) := (blk_cell BK107.out 2).trans rfl; have hcz5_3 : w4.cell? ⟨gb107, 3, none⟩ = some (.int .i64 a0_3) := (blk_cell BK107.out 3).trans rfl; have hcz5_4 : w4.cell? ⟨gb107, 4, none⟩ = some (.int .i64 a0_4) := (blk_cell BK107.out 4).trans rfl; have hcz5_5 : w4.cell? ⟨gb107, 5, none⟩ = some (.int .i64 a0_5) := (blk_cell BK107.out 5).trans rfl; have hcz5_6 : w4.cell? ⟨gb107, 6, none⟩ = some (.int .u32 a0_6) := (blk_cell BK107.out 6).trans rfl; have hcz5_7 : w4.cell? ⟨gb107, 7, none⟩ = some (.int .u32 a0_7) := (blk_cell BK107.out 7).trans rfl; have hcz5_8 : w4.cell? ⟨gb107, 8, none⟩ = some (.int .u32 a0_8) := (blk_cell BK107.out 8).trans rfl; have hcz5_9 : w4.cell? ⟨gb107, 9, none⟩ = some (.int .u64 a0_9) := (blk_cell BK107.out 9).trans rfl; have hcz5_10 : w4.cell? ⟨gb107, 10, none⟩ = some (.int .u64 a0_10) := (blk_cell BK107.out 10).trans rfl; have hcz5_11 : w4.cell? ⟨gb107, 11, none⟩ = some (.int .u64 a0_11) := (blk_cell BK107.out 11).trans rfl; have hcz5_12 : w4.cell? ⟨gb107, 12, none⟩ = some (.int .u64 a0_12) := (blk_cell BK107.out 12).trans rfl; have hfz5_0 := blk_frozen BK107.out 0; have hfz5_1 := blk_frozen BK107.out 1; have hfz5_2 := blk_frozen BK107.out 2; have hfz5_3 := blk_frozen BK107.out 3; have hfz5_4 := blk_frozen BK107.out 4; have hfz5_5 := blk_frozen BK107.out 5; have hfz5_6 := blk_frozen BK107.out 6; have hfz5_7 := blk_frozen BK107.out 7; have hfz5_8 := blk_frozen BK107.out 8; have hfz5_9 := blk_frozen BK107.out 9; have hfz5_10 := blk_frozen BK107.out 10; have hfz5_11 := blk_frozen BK107.out 11; have hfz5_12 := blk_frozen BK107.out 12) | ((with_reducible refine gate_callee (f := 31) rfl ?_); refine goesL_ (some 10) rfl rfl Try.func31 (by kernel_rfl) rfl #[.agg #[.int .i64 a0_0, .int .i64 a0_1, .int .i64 a0_2, .int .i64 a0_3, .int .i64 a0_4, .int .i64 a0_5, .int .u32 a0_6, .int .u32 a0_7, .int .u32 a0_8, .int .u64 a0_9, .int .u64 a0_10, .int .u64 a0_11, .int .u64 a0_12]] rfl (by (try simp only [List.map_toArray, List.map_cons, List.map_nil]); first | done | rfl | (simp only [List.length_drop, List.length_take]; rfl)) ?_; (with_reducible refine (header_May.calls a0_0 a0_1 a0_2 a0_3 a0_4 a0_5 a0_6 a0_7 a0_8 a0_9 a0_10 a0_11 a0_12 true _ A2.out).mono ?_); rintro e w6 ⟨rfl, hb⟩; refine ⟨_, rfl, ?_⟩; have n0_ := Aside0.mk (blk_below (g := gb107) (o := .cells #[.int .i64 a0_0, .int .i64 a0_1, .int .i64 a0_2, .int .i64 a0_3, .int .i64 a0_4, .int .i64 a0_5, .int .u32 a0_6, .int .u32 a0_7, .int .u32 a0_8, .int .u64 a0_9, .int .u64 a0_10, .int .u64 a0_11, .int .u64 a0_12] 42 (0, 0)) (by (with_reducible repeat (first | refine blk_drewN ?_ _ | refine blk_drew ?_ | refine blk_alloc ?_ _)); exact BK107.out) hb); have n1_ := Aside0.mk (below_step (by repeat (first | (with_reducible first | exact HB.out | apply below_alloc | apply pw_below_drewN | apply below_drew1 | refine below_set ?_ GE107.out) | exact HB.out)) hb); clear BK107; clear HB; have BK107 := n0_; have HB := n1_; clear n0_ n1_; (try clear hb); (try clear hb2); (try clear hk); (try clear hi); have hcz7_0 : w6.cell? ⟨gb107, 0, none⟩ = some (.int .i64 a0_0) := (blk_cell BK107.out 0).trans rfl; have hcz7_1 : w6.cell? ⟨gb107, 1, none⟩ = some (.int .i64 a0_1) := (blk_cell BK107.out 1).trans rfl; have hcz7_2 : w6.cell? ⟨gb107, 2, none⟩ = some (.int .i64 a0_2) := (blk_cell BK107.out 2).trans rfl; have hcz7_3 : w6.cell? ⟨gb107, 3, none⟩ = some (.int .i64 a0_3) := (blk_cell BK107.out 3).trans rfl; have hcz7_4 : w6.cell? ⟨gb107, 4, none⟩ = some (.int .i64 a0_4) := (blk_cell BK107.out 4).trans rfl; have hcz7_5 : w6.cell? ⟨gb107, 5, none⟩ = some (.int .i64 a0_5) := (blk_cell BK107.out 5).trans rfl; have hcz7_6 : w6.cell? ⟨gb107, 6, none⟩ = some (.int .u32 a0_6) := (blk_cell BK107.out 6).trans rfl; have hcz7_7 : w6.cell? ⟨gb107, 7, none⟩ = some (.int .u32 a0_7) := (blk_cell BK107.out 7).trans rfl; have hcz7_8 : w6.cell? ⟨gb107, 8, none⟩ = some (.int .u32 a0_8) := (blk_cell BK107.out 8).trans rfl; have hcz7_9 : w6.cell? ⟨gb107, 9, none⟩ = some (.int .u64 a0_9) := (blk_cell BK107.out 9).trans rfl; have hcz7_10 : w6.cell? ⟨gb107, 10, none⟩ = some (.int .u64 a0_10) := (blk_cell BK107.out 10).trans rfl; have hcz7_11 : w6.cell? ⟨gb107, 11, none⟩ = some (.int .u64 a0_11) := (blk_cell BK107.out 11).trans rfl; have hcz7_12 : w6.cell? ⟨gb107, 12, none⟩ = some (.int .u64 a0_12) := (blk_cell BK107.out 12).trans rfl; have hfz7_0 := blk_frozen BK107.out 0; have hfz7_1 := blk_frozen BK107.out 1; have hfz7_2 := blk_frozen BK107.out 2; have hfz7_3 := blk_frozen BK107.out 3; have hfz7_4 := blk_frozen BK107.out 4; have hfz7_5 := blk_frozen BK107.out 5; have hfz7_6 := blk_frozen BK107.out 6; have hfz7_7 := blk_frozen BK107.out 7; have hfz7_8 := blk_frozen BK107.out 8; have hfz7_9 := blk_frozen BK107.out 9; have hfz7_10 := blk_frozen BK107.out 10; have hfz7_11 := blk_frozen BK107.out 11; have hfz7_12 := blk_frozen BK107.out 12) | ((with_reducible refine gate_dst (N := 32) rfl ?_); refine Kd.R_lit (Kd.int .u8) _ 5 ?hg (N := 32) ?hd (xs := ([(Go.bits .or .i64 (Go.bits .or .i64 (wrap64 (a0_0 * 64)) (wrap64 (a0_1 * 8))) a0_2) % 256, (a0_3) % 256, (a0_4) % 256, (a0_5) % 256] : List Int)) (inner := [.int .u8 ((Go.bits .or .i64 (Go.bits .or .i64 (wrap64 (a0_0 * 64)) (wrap64 (a0_1 * 8))) a0_2) % 256), .int .u8 ((a0_3) % 256), .int .u8 ((a0_4) % 256), .int .u8 ((a0_5) % 256)]) (ok := fun _ => True) (okp := fun _ => True) ?hr ?hp (fun _ hk => hk) trivial (Below.refl _ _) (Nat.le_refl _) (by simp) ?_; (case hd => rfl); (case hg => rfl); (case hr => first | (go_simp; done) | (go_simp; rfl)); (case hp => exact (Reps.one (show Kd.M (Kd.int .u8) _ _ _ ((Go.bits .or .i64 (Go.bits .or .i64 (wrap64 (a0_0 * 64)) (wrap64 (a0_1 * 8))) a0_2) % 256) [.int .u8 ((Go.bits .or .i64 (Go.bits .or .i64 (wrap64 (a0_0 * 64)) (wrap64 (a0_1 * 8))) a0_2) % 256)] from rfl) (Reps.one (show Kd.M (Kd.int .u8) _ _ _ ((a0_3) % 256) [.int .u8 ((a0_3) % 256)] from rfl) (Reps.one (show Kd.M (Kd.int .u8) _ _ _ ((a0_4) % 256) [.int .u8 ((a0_4) % 256)] from rfl) (Reps.one (show Kd.M (Kd.int .u8) _ _ _ ((a0_5) % 256) [.int .u8 ((a0_5) % 256)] from rfl) (Reps.none _ _)))))); intro v110 w8 ho9 hb hg_ hnew_; clear hg_ hnew_; (first | rw [← Ny109.out] at ho9 | (simp only [Int.reduceToNat] at ho9; rw [← Ny109.out] at ho9)); have n0_ := Aside0.mk (Kd.R_lower ho9 (below_size (by repeat (first | (with_reducible first | exact HB.out | apply below_alloc | apply pw_below_drewN | apply below_drew1 | refine below_set ?_ GE107.out) | exact HB.out)))); have n1_ := Aside0.mk (blk_below (g := gb107) (o := .cells #[.int .i64 a0_0, .int .i64 a0_1, .int .i64 a0_2, .int .i64 a0_3, .int .i64 a0_4, .int .i64 a0_5, .int .u32 a0_6, .int .u32 a0_7, .int .u32 a0_8, .int .u64 a0_9, .int .u64 a0_10, .int .u64 a0_11, .int .u64 a0_12] 42 (0, 0)) (by (with_reducible repeat (first | refine blk_drewN ?_ _ | refine blk_drew ?_ | refine blk_alloc ?_ _)); exact BK107.out) hb); have n2_ := Aside0.mk (below_step (by repeat (first | (with_reducible first | exact HB.out | apply below_alloc | apply pw_below_drewN | apply below_drew1 | refine below_set ?_ GE107.out) | exact HB.out)) hb); clear BK107; clear HB; have HO111 := n0_; have BK107 := n1_; have HB := n2_; clear n0_ n1_ n2_; clear hb ho9; have hcz10_0 : w8.cell? ⟨gb107, 0, none⟩ = some (.int .i64 a0_0) := (blk_cell BK107.out 0).trans rfl; have hcz10_1 : w8.cell? ⟨gb107, 1, none⟩ = some (.int .i64 a0_1) := (blk_cell BK107.out 1).trans rfl; have hcz10_2 : w8.cell? ⟨gb107, 2, none⟩ = some (.int .i64 a0_2) := (blk_cell BK107.out 2).trans rfl; have hcz10_3 : w8.cell? ⟨gb107, 3, none⟩ = some (.int .i64 a0_3) := (blk_cell BK107.out 3).trans rfl; have hcz10_4 : w8.cell? ⟨gb107, 4, none⟩ = some (.int .i64 a0_4) := (blk_cell BK107.out 4).trans rfl; have hcz10_5 : w8.cell? ⟨gb107, 5, none⟩ = some (.int .i64 a0_5) := (blk_cell BK107.out 5).trans rfl; have hcz10_6 : w8.cell? ⟨gb107, 6, none⟩ = some (.int .u32 a0_6) := (blk_cell BK107.out 6).trans rfl; have hcz10_7 : w8.cell? ⟨gb107, 7, none⟩ = some (.int .u32 a0_7) := (blk_cell BK107.out 7).trans rfl; have hcz10_8 : w8.cell? ⟨gb107, 8, none⟩ = some (.int .u32 a0_8) := (blk_cell BK107.out 8).trans rfl; have hcz10_9 : w8.cell? ⟨gb107, 9, none⟩ = some (.int .u64 a0_9) := (blk_cell BK107.out 9).trans rfl; have hcz10_10 : w8.cell? ⟨gb107, 10, none⟩ = some (.int .u64 a0_10) := (blk_cell BK107.out 10).trans rfl; have hcz10_11 : w8.cell? ⟨gb107, 11, none⟩ = some (.int .u64 a0_11) := (blk_cell BK107.out 11).trans rfl; have hcz10_12 : w8.cell? ⟨gb107, 12, none⟩ = some (.int .u64 a0_12) := (blk_cell BK107.out 12).trans rfl; have hfz10_0 := blk_frozen BK107.out 0; have hfz10_1 := blk_frozen BK107.out 1; have hfz10_2 := blk_frozen BK107.out 2; have hfz10_3 := blk_frozen BK107.out 3; have hfz10_4 := blk_frozen BK107.out 4; have hfz10_5 := blk_frozen BK107.out 5; have hfz10_6 := blk_frozen BK107.out 6; have hfz10_7 := blk_frozen BK107.out 7; have hfz10_8 := blk_frozen BK107.out 8; have hfz10_9 := blk_frozen BK107.out 9; have hfz10_10 := blk_frozen BK107.out 10; have hfz10_11 := blk_frozen BK107.out 11; have hfz10_12 := blk_frozen BK107.out 12) | ((with_reducible refine gate_dst (N := 39) rfl ?_); refine Kd.R_lit (Kd.int .u32) _ 22 ?hg (N := 39) ?hd (xs := ([a0_6, a0_7, a0_8] : List Int)) (inner := [.int .u32 a0_6, .int .u32 a0_7, .int .u32 a0_8]) (ok := fun _ => True) (okp := fun _ => True) ?hr ?hp (fun _ hk => hk) trivial (Below.refl _ _) (Nat.le_refl _) (by simp) ?_; (case hd => rfl); (case hg => rfl); (case hr => first | (go_simp; done) | (go_simp; rfl)); (case hp => exact (Reps.one (show Kd.M (Kd.int .u32) _ _ _ a0_6 [.int .u32 a0_6] from rfl) (Reps.one (show Kd.M (Kd.int .u32) _ _ _ a0_7 [.int .u32 a0_7] from rfl) (Reps.one (show Kd.M (Kd.int .u32) _ _ _ a0_8 [.int .u32 a0_8] from rfl) (Reps.none _ _))))); intro v113 w11 ho12 hb hg_ hnew_; clear hg_ hnew_; (first | rw [← Ny112.out] at ho12 | (simp only [Int.reduceToNat] at ho12; rw [← Ny112.out] at ho12)); have n0_ := Aside0.mk (Kd.R_below (by (with_reducible repeat (first | apply Kd.R_alloc | apply Kd.R_drewN | apply Kd.R_drew)); exact HO111.out) hb); have n1_ := Aside0.mk (Kd.R_lower ho12 (below_size (by repeat (first | (with_reducible first | exact HB.out | apply below_alloc | apply pw_below_drewN | apply below_drew1 | refine below_set ?_ GE107.out) | exact HB.out)))); have n2_ := Aside0.mk (blk_below (g := gb107) (o := .cells #[.int .i64 a0_0, .int .i64 a0_1, .int .i64 a0_2, .int .i64 a0_3, .int .i64 a0_4, .int .i64 a0_5, .int .u32 a0_6, .int .u32 a0_7, .int .u32 a0_8, .int .u64 a0_9, .int .u64 a0_10, .int .u64 a0_11, .int .u64 a0_12] 42 (0, 0)) (by (with_reducible repeat (first | refine blk_drewN ?_ _ | refine blk_drew ?_ | refine blk_alloc ?_ _)); exact BK107.out) hb); have n3_ := Aside0.mk (below_step (by repeat (first | (with_reducible first | exact HB.out | apply below_alloc | apply pw_below_drewN | apply below_drew1 | refine below_set ?_ GE107.out) | exact HB.out)) hb); clear HO111; clear BK107; clear HB; have HO111 := n0_; have HO114 := n1_; have BK107 := n2_; have HB := n3_; clear n0_ n1_ n2_ n3_; clear hb ho12; obtain ⟨Ao13, co13, eo13⟩ := Kd.R_slice HO114.out; subst eo13))
    go_loopg [4, 41] k (fun kq v4 v41 w' => ∃ (x4_1 : List Int) (x41_1 : Int), v41 = .int .i64 x41_1 ∧ Aside0 (header_Encode.l0 kq x4_1 y112 (y112.length : Int) x41_1 a0_0 a0_1 a0_2 a0_3 a0_4 a0_5 a0_6 a0_7 a0_8 a0_9 a0_10 a0_11 a0_12 = some (r1, r2)) ∧ Aside0 (kq ≤ k) ∧ Aside0 (Kd.R (Kd.int .u8) 5 w' w.heap.size (fun _ => True) v4 x4_1) ∧ Aside0 (Kd.R (Kd.int .u32) 22 w' w.heap.size (fun _ => True) (.slice Ao13 y112.length co13) y112) ∧ Aside0 (w'.heap[gb107]? = some (.cells #[.int .i64 a0_0, .int .i64 a0_1, .int .i64 a0_2, .int .i64 a0_3, .int .i64 a0_4, .int .i64 a0_5, .int .u32 a0_6, .int .u32 a0_7, .int .u32 a0_8, .int .u64 a0_9, .int .u64 a0_10, .int .u64 a0_11, .int .u64 a0_12] 42 (0, 0))) ∧ Aside0 (Below w.heap.size w w'))
    case atStart => exact ⟨(y109), (0), (by first | rfl | (simp; done) | (simp [*]; done)), H', ⟨Nat.le_refl _⟩, ⟨by (with_reducible repeat (first | apply Kd.R_alloc | apply Kd.R_drewN | apply Kd.R_drew)); exact HO111.out⟩, ⟨by (with_reducible repeat (first | apply Kd.R_alloc | apply Kd.R_drewN | apply Kd.R_drew)); exact HO114.out⟩, ⟨by (with_reducible repeat (first | refine blk_drewN ?_ _ | refine blk_drew ?_ | refine blk_alloc ?_ _)); exact BK107.out⟩, ⟨by repeat (first | (with_reducible first | exact HB.out | apply below_alloc | apply pw_below_drewN | apply below_drew1 | refine below_set ?_ GE107.out) | exact HB.out)⟩⟩
    case round =>
      clear H'
      try clear c2
      try clear p2
      try clear c3
      try clear p6
      try clear hcz10_0
      try clear hcz10_1
      try clear hcz10_10
      try clear hcz10_11
      try clear hcz10_12
      try clear hcz10_2
      try clear hcz10_3
      try clear hcz10_4
      try clear hcz10_5
      try clear hcz10_6
      try clear hcz10_7
      try clear hcz10_8
      try clear hcz10_9
      try clear hcz5_0
      try clear hcz5_1
      try clear hcz5_10
      try clear hcz5_11
      try clear hcz5_12
      try clear hcz5_2
      try clear hcz5_3
      try clear hcz5_4
      try clear hcz5_5
      try clear hcz5_6
      try clear hcz5_7
      try clear hcz5_8
      try clear hcz5_9
      try clear hcz7_0
      try clear hcz7_1
      try clear hcz7_10
      try clear hcz7_11
      try clear hcz7_12
      try clear hcz7_2
      try clear hcz7_3
      try clear hcz7_4
      try clear hcz7_5
      try clear hcz7_6
      try clear hcz7_7
      try clear hcz7_8
      try clear hcz7_9
      try clear hfz10_0
      try clear hfz10_1
      try clear hfz10_10
      try clear hfz10_11
      try clear hfz10_12
      try clear hfz10_2
      try clear hfz10_3
      try clear hfz10_4
      try clear hfz10_5
      try clear hfz10_6
      try clear hfz10_7
      try clear hfz10_8
      try clear hfz10_9
      try clear hfz5_0
      try clear hfz5_1
      try clear hfz5_10
      try clear hfz5_11
      try clear hfz5_12
      try clear hfz5_2
      try clear hfz5_3
      try clear hfz5_4
      try clear hfz5_5
      try clear hfz5_6
      try clear hfz5_7
      try clear hfz5_8
      try clear hfz5_9
      try clear hfz7_0
      try clear hfz7_1
      try clear hfz7_10
      try clear hfz7_11
      try clear hfz7_12
      try clear hfz7_2
      try clear hfz7_3
      try clear hfz7_4
      try clear hfz7_5
      try clear hfz7_6
      try clear hfz7_7
      try clear hfz7_8
      try clear hfz7_9
      obtain ⟨x4_1, x41_1, rfl, HA, HK1, HO_4, HO_39, BK107, HB⟩ := hrel
      cases gk with
      | zero => exact absurd HA.out (by simp [header_Encode.l0])
      | succ k1 =>
        have H := HA.out
        clear HA
        simp only [header_Encode.l0] at H
        by_cases c14 : x41_1 < (y112.length : Int)
        · rw [if_pos c14] at H
          have c14b0 : decide (x41_1 < (y112.length : Int)) = true := decide_eq_true c14
          clear c14
          by_cases c15 : 0 ≤ x41_1
          · rw [if_pos c15] at H
            have c15b0 : decide (0 ≤ x41_1) = true := decide_eq_true c15
            clear c15
            by_cases c16 : x41_1 < (y112.length : Int)
            · rw [if_pos c16] at H
              have c16b0 : decide (x41_1 < (y112.length : Int)) = true := decide_eq_true c16
              clear c16
              replace H := Option.bind_eq_some_iff.mp H
              obtain ⟨t116, A170, H⟩ := H
              replace H : (header_Encode.l0 k1 t116 y112 (y112.length : Int) (wrap64 (x41_1 + 1)) a0_0 a0_1 a0_2 a0_3 a0_4 a0_5 a0_6 a0_7 a0_8 a0_9 a0_10 a0_11 a0_12) = some (r1, r2) := H
              have A17 := Aside0.mk A170
              clear A170
              have H' := Aside0.mk H
              clear H
              have p115 : 0 ≤ (x41_1 : Int) := of_decide_eq_true (by first | (with_reducible assumption) | assumption)
              have q115 : x41_1 < (y112.length : Int) := of_decide_eq_true (by first | (with_reducible assumption) | assumption)
              obtain ⟨ad115, e115, hx115_0⟩ := Kd.at_int (Kd.R_reads' HO_39.out).2.2 x41_1 p115 q115
              cases e115
              replace p115 := eq_true p115
              replace q115 := eq_true q115
              obtain ⟨Ao18, co18, eo18⟩ := Kd.R_slice HO_4.out
              subst eo18
              go_wp2_with (first | ((with_reducible refine gate_callee (f := 48) rfl ?_); refine goesL_ (some 47) rfl rfl Try.func48 (by kernel_rfl) rfl #[.slice Ao18 x4_1.length co18, .int .u32 (rd y112 x41_1), .int .i64 4] rfl (by (try simp only [List.map_toArray, List.map_cons, List.map_nil]); first | done | rfl | (simp only [List.length_drop, List.length_take]; rfl)) ?_; (with_reducible refine (header_put_uint32.calls k1 (fun k_ => some k_ = (.slice Ao18 x4_1.length co18 : Value).ownBlock) (.slice Ao18 x4_1.length co18) x4_1 (rd y112 x41_1) 4 t116 w _ ?side1 ?side2 A17.out).mono ?_); (case side1 => repeat (first | (with_reducible first | exact HB.out | apply below_alloc | apply pw_below_drewN | apply below_drew1 | refine below_set ?_ GE107.out) | exact HB.out)); (case side2 => exact Kd.R_tight rfl HO_4.out); rintro e w19 ⟨v117, rfl, ho0, hb, hkp⟩; refine ⟨_, rfl, ?_⟩; have n0_ := Aside0.mk (Kd.R_mono (ok' := fun k_ => True) (Kd.R_keptB ((Kd.R_apart' HO_39.out (Kd.R_typed HO_4.out) (by decide))) hkp (fun k_ hk_ hs_ => (hk_.2) hs_)) (fun k_ hk_ => trivial)); have n1_ := Aside0.mk (blk_kept (by (with_reducible repeat (first | refine blk_drewN ?_ _ | refine blk_drew ?_ | refine blk_alloc ?_ _)); exact BK107.out) hkp (fun hs_ => (fun e_ => (Kd.R_ne HO_4.out BK107.out (by decide)) e_) hs_)); have n2_ := Aside0.mk (Kd.R_mono (ok' := fun k_ => True) ho0 (fun k_ hk_ => trivial)); have n3_ := Aside0.mk (hb); clear HO_39; clear BK107; clear HB; clear HO_4; have HO_39 := n0_; have BK107 := n1_; have HO118 := n2_; have HB := n3_; clear n0_ n1_ n2_ n3_; (try clear hb); (try clear hkp); (try clear ho0)))
              go_roundg k1
              case measure => have := HK1.out; omega
              case rel => exact ⟨(t116), (wrap64 (x41_1 + 1)), (by first | rfl | (simp; done) | (simp [*]; done)), H', ⟨by have := HK1.out; omega⟩, ⟨by (with_reducible repeat (first | apply Kd.R_alloc | apply Kd.R_drewN | apply Kd.R_drew)); exact HO118.out⟩, ⟨by (with_reducible repeat (first | apply Kd.R_alloc | apply Kd.R_drewN | apply Kd.R_drew)); exact HO_39.out⟩, ⟨by (with_reducible repeat (first | refine blk_drewN ?_ _ | refine blk_drew ?_ | refine blk_alloc ?_ _)); exact BK107.out⟩, ⟨by repeat (first | (with_reducible first | exact HB.out | apply below_alloc | apply pw_below_drewN | apply below_drew1 | refine below_set ?_ GE107.out) | exact HB.out)⟩⟩
            · rw [if_neg c16] at H
              exact absurd H (by simp)
          · rw [if_neg c15] at H
            exact absurd H (by simp)
        · rw [if_neg c14] at H
          have c14b0 : decide (x41_1 < (y112.length : Int)) = false := decide_eq_false c14
          clear c14
          obtain ⟨y119, hy119⟩ : ∃ y_ : List Int, y_ = (([a0_9, a0_10, a0_11, a0_12] : List Int)) := ⟨_, rfl⟩
          replace H : (header_Encode.l1 k1 x4_1 y119 (y119.length : Int) 0) = some (r1, r2) := by first | (rw [hy119]; with_reducible exact H) | (have H2_ := (Option.bind_some _ _).symm.trans H; rw [hy119]; with_reducible exact H2_) | (have H2_ := (Option.bind_some _ _).symm.trans H; with_reducible exact H2_) | with_reducible exact H | (rw [hy119]; exact H) | exact H
          have Ny119 := Aside0.mk hy119
          clear hy119
          have H' := Aside0.mk H
          clear H
          have hcz20_0 : wr.cell? ⟨gb107, 0, none⟩ = some (.int .i64 a0_0) := (blk_cell BK107.out 0).trans rfl
          have hcz20_1 : wr.cell? ⟨gb107, 1, none⟩ = some (.int .i64 a0_1) := (blk_cell BK107.out 1).trans rfl
          have hcz20_2 : wr.cell? ⟨gb107, 2, none⟩ = some (.int .i64 a0_2) := (blk_cell BK107.out 2).trans rfl
          have hcz20_3 : wr.cell? ⟨gb107, 3, none⟩ = some (.int .i64 a0_3) := (blk_cell BK107.out 3).trans rfl
          have hcz20_4 : wr.cell? ⟨gb107, 4, none⟩ = some (.int .i64 a0_4) := (blk_cell BK107.out 4).trans rfl
          have hcz20_5 : wr.cell? ⟨gb107, 5, none⟩ = some (.int .i64 a0_5) := (blk_cell BK107.out 5).trans rfl
          have hcz20_6 : wr.cell? ⟨gb107, 6, none⟩ = some (.int .u32 a0_6) := (blk_cell BK107.out 6).trans rfl
          have hcz20_7 : wr.cell? ⟨gb107, 7, none⟩ = some (.int .u32 a0_7) := (blk_cell BK107.out 7).trans rfl
          have hcz20_8 : wr.cell? ⟨gb107, 8, none⟩ = some (.int .u32 a0_8) := (blk_cell BK107.out 8).trans rfl
          have hcz20_9 : wr.cell? ⟨gb107, 9, none⟩ = some (.int .u64 a0_9) := (blk_cell BK107.out 9).trans rfl
          have hcz20_10 : wr.cell? ⟨gb107, 10, none⟩ = some (.int .u64 a0_10) := (blk_cell BK107.out 10).trans rfl
          have hcz20_11 : wr.cell? ⟨gb107, 11, none⟩ = some (.int .u64 a0_11) := (blk_cell BK107.out 11).trans rfl
          have hcz20_12 : wr.cell? ⟨gb107, 12, none⟩ = some (.int .u64 a0_12) := (blk_cell BK107.out 12).trans rfl
          have hfz20_0 := blk_frozen BK107.out 0
          have hfz20_1 := blk_frozen BK107.out 1
          have hfz20_2 := blk_frozen BK107.out 2
          have hfz20_3 := blk_frozen BK107.out 3
          have hfz20_4 := blk_frozen BK107.out 4
          have hfz20_5 := blk_frozen BK107.out 5
          have hfz20_6 := blk_frozen BK107.out 6
          have hfz20_7 := blk_frozen BK107.out 7
          have hfz20_8 := blk_frozen BK107.out 8
          have hfz20_9 := blk_frozen BK107.out 9
          have hfz20_10 := blk_frozen BK107.out 10
          have hfz20_11 := blk_frozen BK107.out 11
          have hfz20_12 := blk_frozen BK107.out 12
          go_wp2_with (first | ((with_reducible refine gate_dst (N := 57) rfl ?_); refine Kd.R_lit (Kd.int .u64) _ 27 ?hg (N := 57) ?hd (xs := ([a0_9, a0_10, a0_11, a0_12] : List Int)) (inner := [.int .u64 a0_9, .int .u64 a0_10, .int .u64 a0_11, .int .u64 a0_12]) (ok := fun _ => True) (okp := fun _ => True) ?hr ?hp (fun _ hk => hk) trivial (Below.refl _ _) (Nat.le_refl _) (by simp) ?_; (case hd => rfl); (case hg => rfl); (case hr => first | (go_simp; done) | (go_simp; rfl)); (case hp => exact (Reps.one (show Kd.M (Kd.int .u64) _ _ _ a0_9 [.int .u64 a0_9] from rfl) (Reps.one (show Kd.M (Kd.int .u64) _ _ _ a0_10 [.int .u64 a0_10] from rfl) (Reps.one (show Kd.M (Kd.int .u64) _ _ _ a0_11 [.int .u64 a0_11] from rfl) (Reps.one (show Kd.M (Kd.int .u64) _ _ _ a0_12 [.int .u64 a0_12] from rfl) (Reps.none _ _)))))); intro v120 w21 ho22 hb hg_ hnew_; clear hg_ hnew_; (first | rw [← Ny119.out] at ho22 | (simp only [Int.reduceToNat] at ho22; rw [← Ny119.out] at ho22)); have n0_ := Aside0.mk (Kd.R_below (by (with_reducible repeat (first | apply Kd.R_alloc | apply Kd.R_drewN | apply Kd.R_drew)); exact HO_4.out) hb); have n1_ := Aside0.mk (Kd.R_below (by (with_reducible repeat (first | apply Kd.R_alloc | apply Kd.R_drewN | apply Kd.R_drew)); exact HO_39.out) hb); have n2_ := Aside0.mk (Kd.R_lower ho22 (below_size (by repeat (first | (with_reducible first | exact HB.out | apply below_alloc | apply pw_below_drewN | apply below_drew1 | refine below_set ?_ GE107.out) | exact HB.out)))); have n3_ := Aside0.mk (blk_below (g := gb107) (o := .cells #[.int .i64 a0_0, .int .i64 a0_1, .int .i64 a0_2, .int .i64 a0_3, .int .i64 a0_4, .int .i64 a0_5, .int .u32 a0_6, .int .u32 a0_7, .int .u32 a0_8, .int .u64 a0_9, .int .u64 a0_10, .int .u64 a0_11, .int .u64 a0_12] 42 (0, 0)) (by (with_reducible repeat (first | refine blk_drewN ?_ _ | refine blk_drew ?_ | refine blk_alloc ?_ _)); exact BK107.out) hb); have n4_ := Aside0.mk (below_step (by repeat (first | (with_reducible first | exact HB.out | apply below_alloc | apply pw_below_drewN | apply below_drew1 | refine below_set ?_ GE107.out) | exact HB.out)) hb); clear HO_4; clear HO_39; clear BK107; clear HB; have HO_4 := n0_; have HO_39 := n1_; have HO121 := n2_; have BK107 := n3_; have HB := n4_; clear n0_ n1_ n2_ n3_ n4_; clear hb ho22; obtain ⟨Ao23, co23, eo23⟩ := Kd.R_slice HO121.out; subst eo23))
          go_loopg [4, 59] k1 (fun kq v4 v59 w' => ∃ (x4_2 : List Int) (x59_2 : Int), v59 = .int .i64 x59_2 ∧ Aside0 (header_Encode.l1 kq x4_2 y119 (y119.length : Int) x59_2 = some (r1, r2)) ∧ Aside0 (kq ≤ k1) ∧ Aside0 (Kd.R (Kd.int .u8) 5 w' w.heap.size (fun _ => True) v4 x4_2) ∧ Aside0 (Kd.R (Kd.int .u64) 27 w' w.heap.size (fun _ => True) (.slice Ao23 y119.length co23) y119) ∧ Aside0 (w'.heap[gb107]? = some (.cells #[.int .i64 a0_0, .int .i64 a0_1, .int .i64 a0_2, .int .i64 a0_3, .int .i64 a0_4, .int .i64 a0_5, .int .u32 a0_6, .int .u32 a0_7, .int .u32 a0_8, .int .u64 a0_9, .int .u64 a0_10, .int .u64 a0_11, .int .u64 a0_12] 42 (0, 0))) ∧ Aside0 (Below w.heap.size w w'))
          case atStart => exact ⟨(x4_1), (0), (by first | rfl | (simp; done) | (simp [*]; done)), H', ⟨Nat.le_refl _⟩, ⟨by (with_reducible repeat (first | apply Kd.R_alloc | apply Kd.R_drewN | apply Kd.R_drew)); exact HO_4.out⟩, ⟨by (with_reducible repeat (first | apply Kd.R_alloc | apply Kd.R_drewN | apply Kd.R_drew)); exact HO121.out⟩, ⟨by (with_reducible repeat (first | refine blk_drewN ?_ _ | refine blk_drew ?_ | refine blk_alloc ?_ _)); exact BK107.out⟩, ⟨by repeat (first | (with_reducible first | exact HB.out | apply below_alloc | apply pw_below_drewN | apply below_drew1 | refine below_set ?_ GE107.out) | exact HB.out)⟩⟩
          case round =>
            clear H'
            try clear c1
            try clear p1
            try clear q1
            try clear hx1
            try clear c2
            try clear p2
            try clear c3
            try clear c4
            try clear p6
            try clear p11
            try clear q11
            try clear hx11
            try clear c14
            try clear c14b0
            try clear c15
            try clear c15b0
            try clear c16
            try clear c16b0
            try clear hcz10_0
            try clear hcz10_1
            try clear hcz10_10
            try clear hcz10_11
            try clear hcz10_12
            try clear hcz10_2
            try clear hcz10_3
            try clear hcz10_4
            try clear hcz10_5
            try clear hcz10_6
            try clear hcz10_7
            try clear hcz10_8
            try clear hcz10_9
            try clear hcz20_0
            try clear hcz20_1
            try clear hcz20_10
            try clear hcz20_11
            try clear hcz20_12
            try clear hcz20_2
            try clear hcz20_3
            try clear hcz20_4
            try clear hcz20_5
            try clear hcz20_6
            try clear hcz20_7
            try clear hcz20_8
            try clear hcz20_9
            try clear hcz5_0
            try clear hcz5_1
            try clear hcz5_10
            try clear hcz5_11
            try clear hcz5_12
            try clear hcz5_2
            try clear hcz5_3
            try clear hcz5_4
            try clear hcz5_5
            try clear hcz5_6
            try clear hcz5_7
            try clear hcz5_8
            try clear hcz5_9
            try clear hcz7_0
            try clear hcz7_1
            try clear hcz7_10
            try clear hcz7_11
            try clear hcz7_12
            try clear hcz7_2
            try clear hcz7_3
            try clear hcz7_4
            try clear hcz7_5
            try clear hcz7_6
            try clear hcz7_7
            try clear hcz7_8
            try clear hcz7_9
            try clear hfz10_0
            try clear hfz10_1
            try clear hfz10_10
            try clear hfz10_11
            try clear hfz10_12
            try clear hfz10_2
            try clear hfz10_3
            try clear hfz10_4
            try clear hfz10_5
            try clear hfz10_6
            try clear hfz10_7
            try clear hfz10_8
            try clear hfz10_9
            try clear hfz20_0
            try clear hfz20_1
            try clear hfz20_10
            try clear hfz20_11
            try clear hfz20_12
            try clear hfz20_2
            try clear hfz20_3
            try clear hfz20_4
            try clear hfz20_5
            try clear hfz20_6
            try clear hfz20_7
            try clear hfz20_8
            try clear hfz20_9
            try clear hfz5_0
            try clear hfz5_1
            try clear hfz5_10
            try clear hfz5_11
            try clear hfz5_12
            try clear hfz5_2
            try clear hfz5_3
            try clear hfz5_4
            try clear hfz5_5
            try clear hfz5_6
            try clear hfz5_7
            try clear hfz5_8
            try clear hfz5_9
            try clear hfz7_0
            try clear hfz7_1
            try clear hfz7_10
            try clear hfz7_11
            try clear hfz7_12
            try clear hfz7_2
            try clear hfz7_3
            try clear hfz7_4
            try clear hfz7_5
            try clear hfz7_6
            try clear hfz7_7
            try clear hfz7_8
            try clear hfz7_9
            try clear hx115_0
            try clear p115
            try clear p2
            try clear p6
            try clear q115
            obtain ⟨x4_2, x59_2, rfl, HA, HK2, HO_4, HO_57, BK107, HB⟩ := hrel
            cases gk with
            | zero => exact absurd HA.out (by simp [header_Encode.l1])
            | succ k2 =>
              have H := HA.out
              clear HA
              simp only [header_Encode.l1] at H
              by_cases c24 : x59_2 < (y119.length : Int)
              · rw [if_pos c24] at H
                have c24b0 : decide (x59_2 < (y119.length : Int)) = true := decide_eq_true c24
                clear c24
                by_cases c25 : 0 ≤ x59_2
                · rw [if_pos c25] at H
                  have c25b0 : decide (0 ≤ x59_2) = true := decide_eq_true c25
                  clear c25
                  by_cases c26 : x59_2 < (y119.length : Int)
                  · rw [if_pos c26] at H
                    have c26b0 : decide (x59_2 < (y119.length : Int)) = true := decide_eq_true c26
                    clear c26
                    replace H := Option.bind_eq_some_iff.mp H
                    obtain ⟨t123, A270, H⟩ := H
                    replace H : (header_Encode.l1 k2 t123 y119 (y119.length : Int) (wrap64 (x59_2 + 1))) = some (r1, r2) := H
                    have A27 := Aside0.mk A270
                    clear A270
                    have H' := Aside0.mk H
                    clear H
                    have p122 : 0 ≤ (x59_2 : Int) := of_decide_eq_true (by first | (with_reducible assumption) | assumption)
                    have q122 : x59_2 < (y119.length : Int) := of_decide_eq_true (by first | (with_reducible assumption) | assumption)
                    obtain ⟨ad122, e122, hx122_0⟩ := Kd.at_int (Kd.R_reads' HO_57.out).2.2 x59_2 p122 q122
                    cases e122
                    replace p122 := eq_true p122
                    replace q122 := eq_true q122
                    obtain ⟨Ao28, co28, eo28⟩ := Kd.R_slice HO_4.out
                    subst eo28
                    go_wp2_with (first | ((with_reducible refine gate_callee (f := 49) rfl ?_); refine goesL_ (some 65) rfl rfl Try.func49 (by kernel_rfl) rfl #[.slice Ao28 x4_2.length co28, .int .u64 (rd y119 x59_2), .int .i64 8] rfl (by (try simp only [List.map_toArray, List.map_cons, List.map_nil]); first | done | rfl | (simp only [List.length_drop, List.length_take]; rfl)) ?_; (with_reducible refine (header_put_uint64.calls k2 (fun k_ => some k_ = (.slice Ao28 x4_2.length co28 : Value).ownBlock) (.slice Ao28 x4_2.length co28) x4_2 (rd y119 x59_2) 8 t123 w _ ?side1 ?side2 A27.out).mono ?_); (case side1 => repeat (first | (with_reducible first | exact HB.out | apply below_alloc | apply pw_below_drewN | apply below_drew1 | refine below_set ?_ GE107.out) | exact HB.out)); (case side2 => exact Kd.R_tight rfl HO_4.out); rintro e w29 ⟨v124, rfl, ho0, hb, hkp⟩; refine ⟨_, rfl, ?_⟩; have n0_ := Aside0.mk (Kd.R_mono (ok' := fun k_ => True) (Kd.R_keptB ((Kd.R_apart' HO_57.out (Kd.R_typed HO_4.out) (by decide))) hkp (fun k_ hk_ hs_ => (hk_.2) hs_)) (fun k_ hk_ => trivial)); have n1_ := Aside0.mk (blk_kept (by (with_reducible repeat (first | refine blk_drewN ?_ _ | refine blk_drew ?_ | refine blk_alloc ?_ _)); exact BK107.out) hkp (fun hs_ => (fun e_ => (Kd.R_ne HO_4.out BK107.out (by decide)) e_) hs_)); have n2_ := Aside0.mk (Kd.R_mono (ok' := fun k_ => True) ho0 (fun k_ hk_ => trivial)); have n3_ := Aside0.mk (hb); clear HO_57; clear BK107; clear HB; clear HO_4; have HO_57 := n0_; have BK107 := n1_; have HO125 := n2_; have HB := n3_; clear n0_ n1_ n2_ n3_; (try clear hb); (try clear hkp); (try clear ho0)))
                    go_roundg k2
                    case measure => have := HK1.out; have := HK2.out; omega
                    case rel => exact ⟨(t123), (wrap64 (x59_2 + 1)), (by first | rfl | (simp; done) | (simp [*]; done)), H', ⟨by have := HK1.out; have := HK2.out; omega⟩, ⟨by (with_reducible repeat (first | apply Kd.R_alloc | apply Kd.R_drewN | apply Kd.R_drew)); exact HO125.out⟩, ⟨by (with_reducible repeat (first | apply Kd.R_alloc | apply Kd.R_drewN | apply Kd.R_drew)); exact HO_57.out⟩, ⟨by (with_reducible repeat (first | refine blk_drewN ?_ _ | refine blk_drew ?_ | refine blk_alloc ?_ _)); exact BK107.out⟩, ⟨by repeat (first | (with_reducible first | exact HB.out | apply below_alloc | apply pw_below_drewN | apply below_drew1 | refine below_set ?_ GE107.out) | exact HB.out)⟩⟩
                  · rw [if_neg c26] at H
                    exact absurd H (by simp)
                · rw [if_neg c25] at H
                  exact absurd H (by simp)
              · rw [if_neg c24] at H
                have c24b0 : decide (x59_2 < (y119.length : Int)) = false := decide_eq_false c24
                clear c24
                simp only [Option.some.injEq, Prod.mk.injEq] at H
                obtain ⟨rfl, rfl⟩ := H
                have hcv30 := own_string (P := Try.prog) Try.underlying50 Try.underlying5 Try.underlying9 (Kd.own_of_R HO_4.out)
                go_wp2
                go_ret2
                exact ⟨by first | rfl | (simp [errW_none, errW_some] <;> rfl) | (simp [*, errW_none, errW_some] <;> rfl), by repeat (first | (with_reducible first | exact HB.out | apply below_alloc | apply pw_below_drewN | apply below_drew1 | refine below_set ?_ GE107.out) | exact HB.out)⟩
  · replace c3 := Bool.eq_false_iff.mpr c3
    subst c3
    have H1 : (some ((⟨#[]⟩ : ByteArray), 1)) = some (r1, r2) := by rw [if_neg (show ¬ (false = true) by decide)] at H; exact H
    clear H
    have H := H1
    clear H1
    simp only [Option.some.injEq, Prod.mk.injEq] at H
    obtain ⟨rfl, rfl⟩ := H
    go_enter Try.func29, Try.ntmps29
    go_wp2_with (first | ((with_reducible refine gate_dst (N := 1) rfl ?_); refine box_event ?hg (N := 1) ?hd (cs := #[.int .i64 a0_0, .int .i64 a0_1, .int .i64 a0_2, .int .i64 a0_3, .int .i64 a0_4, .int .i64 a0_5, .int .u32 a0_6, .int .u32 a0_7, .int .u32 a0_8, .int .u64 a0_9, .int .u64 a0_10, .int .u64 a0_11, .int .u64 a0_12]) (t := 42) ?hr ?_; (case hd => rfl); (case hg => rfl); (case hr => first | (go_simp; done) | (go_simp; rfl)); intro gb107 hg w31 hbox hb; have n0_ := Aside0.mk (below_step (by repeat (first | (with_reducible first | exact HB.out | apply below_alloc | apply pw_below_drewN | apply below_drew1) | exact HB.out)) hb); have n1_ := Aside0.mk (hbox); have n2_ := Aside0.mk ((by rw [hg]; exact (below_size (by repeat (first | (with_reducible first | exact HB.out | apply below_alloc | apply pw_below_drewN | apply below_drew1) | exact HB.out))) : w.heap.size ≤ gb107)); have n3_ := Aside0.mk ((by rw [hg]; exact (below_size (by repeat (first | (with_reducible first | exact HB.out | apply below_alloc | apply pw_below_drewN | apply below_drew1) | exact HB.out))) : w.heap.size ≤ gb107)); clear HB; have HB := n0_; have BK107 := n1_; have GW107 := n2_; have GE107 := n3_; clear n0_ n1_ n2_ n3_; clear hb hbox hg; have hcz32_0 : w31.cell? ⟨gb107, 0, none⟩ = some (.int .i64 a0_0) := (blk_cell BK107.out 0).trans rfl; have hcz32_1 : w31.cell? ⟨gb107, 1, none⟩ = some (.int .i64 a0_1) := (blk_cell BK107.out 1).trans rfl; have hcz32_2 : w31.cell? ⟨gb107, 2, none⟩ = some (.int .i64 a0_2) := (blk_cell BK107.out 2).trans rfl; have hcz32_3 : w31.cell? ⟨gb107, 3, none⟩ = some (.int .i64 a0_3) := (blk_cell BK107.out 3).trans rfl; have hcz32_4 : w31.cell? ⟨gb107, 4, none⟩ = some (.int .i64 a0_4) := (blk_cell BK107.out 4).trans rfl; have hcz32_5 : w31.cell? ⟨gb107, 5, none⟩ = some (.int .i64 a0_5) := (blk_cell BK107.out 5).trans rfl; have hcz32_6 : w31.cell? ⟨gb107, 6, none⟩ = some (.int .u32 a0_6) := (blk_cell BK107.out 6).trans rfl; have hcz32_7 : w31.cell? ⟨gb107, 7, none⟩ = some (.int .u32 a0_7) := (blk_cell BK107.out 7).trans rfl; have hcz32_8 : w31.cell? ⟨gb107, 8, none⟩ = some (.int .u32 a0_8) := (blk_cell BK107.out 8).trans rfl; have hcz32_9 : w31.cell? ⟨gb107, 9, none⟩ = some (.int .u64 a0_9) := (blk_cell BK107.out 9).trans rfl; have hcz32_10 : w31.cell? ⟨gb107, 10, none⟩ = some (.int .u64 a0_10) := (blk_cell BK107.out 10).trans rfl; have hcz32_11 : w31.cell? ⟨gb107, 11, none⟩ = some (.int .u64 a0_11) := (blk_cell BK107.out 11).trans rfl; have hcz32_12 : w31.cell? ⟨gb107, 12, none⟩ = some (.int .u64 a0_12) := (blk_cell BK107.out 12).trans rfl; have hfz32_0 := blk_frozen BK107.out 0; have hfz32_1 := blk_frozen BK107.out 1; have hfz32_2 := blk_frozen BK107.out 2; have hfz32_3 := blk_frozen BK107.out 3; have hfz32_4 := blk_frozen BK107.out 4; have hfz32_5 := blk_frozen BK107.out 5; have hfz32_6 := blk_frozen BK107.out 6; have hfz32_7 := blk_frozen BK107.out 7; have hfz32_8 := blk_frozen BK107.out 8; have hfz32_9 := blk_frozen BK107.out 9; have hfz32_10 := blk_frozen BK107.out 10; have hfz32_11 := blk_frozen BK107.out 11; have hfz32_12 := blk_frozen BK107.out 12) | ((with_reducible refine gate_callee (f := 31) rfl ?_); refine goesL_ (some 10) rfl rfl Try.func31 (by kernel_rfl) rfl #[.agg #[.int .i64 a0_0, .int .i64 a0_1, .int .i64 a0_2, .int .i64 a0_3, .int .i64 a0_4, .int .i64 a0_5, .int .u32 a0_6, .int .u32 a0_7, .int .u32 a0_8, .int .u64 a0_9, .int .u64 a0_10, .int .u64 a0_11, .int .u64 a0_12]] rfl (by (try simp only [List.map_toArray, List.map_cons, List.map_nil]); first | done | rfl | (simp only [List.length_drop, List.length_take]; rfl)) ?_; (with_reducible refine (header_May.calls a0_0 a0_1 a0_2 a0_3 a0_4 a0_5 a0_6 a0_7 a0_8 a0_9 a0_10 a0_11 a0_12 false _ A2.out).mono ?_); rintro e w33 ⟨rfl, hb⟩; refine ⟨_, rfl, ?_⟩; have n0_ := Aside0.mk (blk_below (g := gb107) (o := .cells #[.int .i64 a0_0, .int .i64 a0_1, .int .i64 a0_2, .int .i64 a0_3, .int .i64 a0_4, .int .i64 a0_5, .int .u32 a0_6, .int .u32 a0_7, .int .u32 a0_8, .int .u64 a0_9, .int .u64 a0_10, .int .u64 a0_11, .int .u64 a0_12] 42 (0, 0)) (by (with_reducible repeat (first | refine blk_drewN ?_ _ | refine blk_drew ?_ | refine blk_alloc ?_ _)); exact BK107.out) hb); have n1_ := Aside0.mk (below_step (by repeat (first | (with_reducible first | exact HB.out | apply below_alloc | apply pw_below_drewN | apply below_drew1 | refine below_set ?_ GE107.out) | exact HB.out)) hb); clear BK107; clear HB; have BK107 := n0_; have HB := n1_; clear n0_ n1_; (try clear hb); (try clear hb2); (try clear hk); (try clear hi)))
    go_ret2
    exact ⟨by first | rfl | (simp [errW_none, errW_some] <;> rfl) | (simp [*, errW_none, errW_some] <;> rfl), by repeat (first | (with_reducible first | exact HB.out | apply below_alloc | apply pw_below_drewN | apply below_drew1 | refine below_set ?_ GE107.out) | exact HB.out)⟩

/-! ### analemmaref05_within: function 51 -/
def analemmaref05_within.f (a0 : Int) (a1 : Int) (a2 : Int) : Option (Bool) := if a0 ≥ a1 then (some (decide (a0 ≤ a2))) else (some false)
set_option maxHeartbeats 8000000 in
set_option maxRecDepth 100000 in
theorem analemmaref05_within.calls (a0 : Int) (a1 : Int) (a2 : Int) (r : Bool) (w : World) (h : analemmaref05_within.f a0 a1 a2 = some r) :
    Calls Try.prog 51 #[.int .i64 a0, .int .i64 a1, .int .i64 a2] w fun e w' => e = .returned (.bool r) ∧ Drawn0 w w' := by
  have H : (if a0 ≥ a1 then (some (decide (a0 ≤ a2))) else (some false)) = some r := h
  clear h
  by_cases c4 : a0 ≥ a1
  · rw [if_pos c4] at H
    have c4b0 : decide (a1 ≤ a0) = true := decide_eq_true c4
    clear c4
    obtain rfl := Option.some.inj H
    go_enter Try.func51, Try.ntmps51
    go_wp2
    go_ret
    exact ⟨by first | rfl | (simp; done) | (simp [*]; done), by repeat (first | exact Drawn0.refl _ | apply Drawn0.step)⟩
  · rw [if_neg c4] at H
    have c4b0 : decide (a1 ≤ a0) = false := decide_eq_false c4
    clear c4
    obtain rfl := Option.some.inj H
    go_enter Try.func51, Try.ntmps51
    go_wp2
    go_ret
    exact ⟨by first | rfl | (simp; done) | (simp [*]; done), by repeat (first | exact Drawn0.refl _ | apply Drawn0.step)⟩

end Go.Proofs.Ytilbkdlbbnkgdaa.MHeader
