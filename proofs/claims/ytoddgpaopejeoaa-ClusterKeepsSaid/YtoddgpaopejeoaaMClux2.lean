/- Functions that the statements of this seat reach, each as a plain Lean function, with a proof that the Go code comes to its answers; no condition. -/
import Derived.Test.YtoddgpaopejeoaaMClux0
import Derived.Test.YtoddgpaopejeoaaMClux1
namespace Go.Proofs.Ytoddgpaopejeoaa.MClu
open Go.RowKit Go.Proofs.YtoddgpaopejeoaaW.PrintWords Go.Proofs.YtoddgpaopejeoaaW.PrintLast Go.Proofs.YtoddgpaopejeoaaW.PrintMore
attribute [local go_sem] max2_int min2_int max_two min_two max_three min_three max_four min_four   -- for this text's walks alone
set_option linter.unusedVariables false
set_option linter.unusedSimpArgs false

/-! ### wide_Div: function 85 -/
def wide_Div.f (a0 : Int) (a1 : Int) (a2 : Int) : Option (Int × Int × Bool) :=
  if 0 ≤ a0 ∧ a0 ≤ 18446744073709551615 ∧ 0 ≤ a1 ∧ a1 ≤ 18446744073709551615 ∧ 0 ≤ a2 ∧ a2 ≤ 18446744073709551615 then
    (if a0 ≥ a2 then some (0, 0, false) else some ((a0 * 18446744073709551616 + a1) / a2, (a0 * 18446744073709551616 + a1) % a2, true)) else none
theorem wide_Div.pow_pos (n : Nat) : (0 : Int) < 2 ^ n := Int.pow_pos (by decide)
theorem wide_Div.by_ (a b q r : Int) (hb : 0 < b) (h : a = q * b + r) (h0 : 0 ≤ r) (h1 : r < b) : a / b = q ∧ a % b = r := by
  have e1 : a / b = q := by
    rw [h, Int.add_comm, Int.add_mul_ediv_right _ _ (by omega), Int.ediv_eq_zero_of_lt h0 h1]
    omega
  refine ⟨e1, ?_⟩
  have e2 := Int.mul_ediv_add_emod a b
  rw [e1, Int.mul_comm] at e2
  omega
/-- What a round of the inner loop goes by. -/
def wide_Div.Go_ (h nx d d0 d1 n r : Int) : Prop := n * d1 + r = h ∧ 0 ≤ r ∧ r ≤ 4294967295 ∧ (h * 4294967296 + nx) / d ≤ n ∧ n ≤ 4294967297
/-- What is known of a divisor and what is divided. -/
def wide_Div.Kn (h nx d d0 d1 : Int) : Prop := d = d1 * 4294967296 + d0 ∧ 0 ≤ d0 ∧ d0 ≤ 4294967295 ∧ 2147483648 ≤ d1 ∧ d1 ≤ 4294967295 ∧ 0 ≤ h ∧ h < d ∧ 0 ≤ nx ∧ nx ≤ 4294967295
theorem wide_Div.quot (h nx d d0 d1 : Int) (k : wide_Div.Kn h nx d d0 d1) : 0 ≤ (h * 4294967296 + nx) / d ∧ (h * 4294967296 + nx) / d ≤ 4294967295 := by
  unfold wide_Div.Kn at k
  refine ⟨Int.ediv_nonneg (by omega) (by omega), ?_⟩
  have : (h * 4294967296 + nx) / d < 4294967296 := Int.ediv_lt_of_lt_mul (by omega) (by omega)
  omega
theorem wide_Div.start (h nx d d0 d1 : Int) (k : wide_Div.Kn h nx d d0 d1) : wide_Div.Go_ h nx d d0 d1 (h / d1) (h - h / d1 * d1) := by
  have q := wide_Div.quot h nx d d0 d1 k
  unfold wide_Div.Kn at k
  have e := Int.mul_ediv_add_emod h d1
  have e2 : h / d1 * d1 = d1 * (h / d1) := Int.mul_comm _ _
  have m0 := Int.emod_nonneg h (b := d1) (by omega)
  have m1 := Int.emod_lt_of_pos h (b := d1) (by omega)
  refine ⟨by omega, by omega, by omega, ?_, ?_⟩
  · obtain ⟨Q, hQ⟩ : ∃ Q, (h * 4294967296 + nx) / d = Q := ⟨_, rfl⟩
    rw [hQ] at q ⊢
    have l : Q * d ≤ h * 4294967296 + nx := by
      rw [← hQ]
      exact Int.ediv_mul_le _ (by omega)
    have l2 : Q * d1 * 4294967296 ≤ Q * d := by
      rw [k.1, Int.mul_add, ← Int.mul_assoc]
      have := Int.mul_nonneg q.1 k.2.1
      omega
    have l3 : Q * d1 ≤ h := by omega
    exact Int.le_ediv_of_mul_le (by omega) l3
  · have : h / d1 < 4294967298 := Int.ediv_lt_of_lt_mul (by omega) (by omega)
    omega
theorem wide_Div.above (h nx d d0 d1 n r : Int) (k : wide_Div.Kn h nx d d0 d1) (g : wide_Div.Go_ h nx d d0 d1 n r) (c : n > 4294967295 ∨ n * d0 > r * 4294967296 + nx) : (h * 4294967296 + nx) / d ≤ n - 1 := by
  have q := wide_Div.quot h nx d d0 d1 k
  unfold wide_Div.Kn at k
  unfold wide_Div.Go_ at g
  rcases c with c | c
  · omega
  · have e : n * d = n * d1 * 4294967296 + n * d0 := by rw [k.1, Int.mul_add, ← Int.mul_assoc]
    have : (h * 4294967296 + nx) / d < n := Int.ediv_lt_of_lt_mul (by omega) (by omega)
    omega
theorem wide_Div.atq (h nx d d0 d1 n r : Int) (k : wide_Div.Kn h nx d d0 d1) (g : wide_Div.Go_ h nx d d0 d1 n r) (c : n * d0 ≤ r * 4294967296 + nx) : n = (h * 4294967296 + nx) / d := by
  unfold wide_Div.Kn at k
  unfold wide_Div.Go_ at g
  have e : n * d = n * d1 * 4294967296 + n * d0 := by rw [k.1, Int.mul_add, ← Int.mul_assoc]
  have : n ≤ (h * 4294967296 + nx) / d := Int.le_ediv_of_mul_le (by omega) (by omega)
  omega
theorem wide_Div.next_ (h nx d d0 d1 n r : Int) (k : wide_Div.Kn h nx d d0 d1) (g : wide_Div.Go_ h nx d d0 d1 n r) (c : n > 4294967295 ∨ n * d0 > r * 4294967296 + nx) (s : r + d1 ≤ 4294967295) : wide_Div.Go_ h nx d d0 d1 (n - 1) (r + d1) := by
  have a := wide_Div.above h nx d d0 d1 n r k g c
  unfold wide_Div.Kn at k
  unfold wide_Div.Go_ at g ⊢
  have e : (n - 1) * d1 = n * d1 - d1 := by rw [Int.sub_mul]; omega
  omega
theorem wide_Div.broke (h nx d d0 d1 n r : Int) (k : wide_Div.Kn h nx d d0 d1) (g : wide_Div.Go_ h nx d d0 d1 n r) (c : n > 4294967295 ∨ n * d0 > r * 4294967296 + nx) (s : r + d1 > 4294967295) : n - 1 = (h * 4294967296 + nx) / d := by
  have a := wide_Div.above h nx d d0 d1 n r k g c
  have q := wide_Div.quot h nx d d0 d1 k
  unfold wide_Div.Kn at k
  unfold wide_Div.Go_ at g
  have e : (n - 1) * d1 = n * d1 - d1 := by rw [Int.sub_mul]; omega
  have b : n - 1 ≤ 4294967295 := by
    by_cases z : n - 1 ≤ 4294967295
    · exact z
    · have z1 : n - 1 = 4294967296 ∨ n - 1 = 4294967297 := by omega
      rcases z1 with z1 | z1
      · rw [z1] at e
        omega
      · omega
  have b0 : (n - 1) * d0 ≤ 4294967295 * d0 := Int.mul_le_mul_of_nonneg_right b k.2.1
  have e2 : (n - 1) * d = (n - 1) * d1 * 4294967296 + (n - 1) * d0 := by rw [k.1, Int.mul_add, ← Int.mul_assoc]
  have : n - 1 ≤ (h * 4294967296 + nx) / d := Int.le_ediv_of_mul_le (by omega) (by omega)
  omega
theorem wide_Div.rest (h nx d d0 d1 : Int) (k : wide_Div.Kn h nx d d0 d1) (z : d ≤ 18446744073709551615) : IntKind.u64.wrap (IntKind.u64.wrap (IntKind.u64.wrap (h * 4294967296) + nx) - IntKind.u64.wrap ((h * 4294967296 + nx) / d * d)) = (h * 4294967296 + nx) % d := by
  unfold wide_Div.Kn at k
  have e := Int.mul_ediv_add_emod (h * 4294967296 + nx) d
  have e2 : (h * 4294967296 + nx) / d * d = d * ((h * 4294967296 + nx) / d) := Int.mul_comm _ _
  have m0 := Int.emod_nonneg (h * 4294967296 + nx) (b := d) (by omega)
  have m1 := Int.emod_lt_of_pos (h * 4294967296 + nx) (b := d) (by omega)
  rw [IntKind.wrap_u64, IntKind.wrap_u64, IntKind.wrap_u64, IntKind.wrap_u64]
  omega
theorem wide_Div.whole (N d p d2 h0 n0 n1 q0 h1 q1 h2 : Int) (hp : 0 < p) (hd : d2 = d * p) (hdp : 0 < d) (hN : N * p = h0 * 18446744073709551616 + (n0 * 4294967296 + n1))
    (e1 : h0 * 4294967296 + n0 = q0 * d2 + h1) (e2 : h1 * 4294967296 + n1 = q1 * d2 + h2) (z0 : 0 ≤ h2) (z1 : h2 < d2) : N / d = q0 * 4294967296 + q1 ∧ N % d = h2 / p := by
  have a1 : q0 * 4294967296 * d2 = q0 * d2 * 4294967296 := Int.mul_right_comm _ _ _
  have a2 : N * p = (q0 * 4294967296 + q1) * d2 + h2 := by
    rw [Int.add_mul, a1]
    omega
  have a3 : (q0 * 4294967296 + q1) * d2 = (q0 * 4294967296 + q1) * d * p := by rw [hd, Int.mul_assoc]
  have a4 : h2 = (N - (q0 * 4294967296 + q1) * d) * p := by
    rw [Int.sub_mul]
    omega
  have a5 : h2 / p = N - (q0 * 4294967296 + q1) * d := by
    rw [a4]
    exact Int.mul_ediv_cancel _ (by omega)
  have b0 : 0 ≤ h2 / p := Int.ediv_nonneg z0 (by omega)
  have b1 : h2 / p < d := Int.ediv_lt_of_lt_mul hp (by omega)
  exact wide_Div.by_ N d _ (h2 / p) hdp (by omega) b0 b1
theorem wide_Div.log (n : Int) (h : 0 < n) (h1 : n ≤ 18446744073709551615) : ∃ l : Nat, wide_Log.f n = some (l : Int) ∧ (2 : Int) ^ l ≤ n ∧ n < 2 ^ (l + 1) ∧ l ≤ 63 := by
  have g1 := Nat.log2_self_le (n := n.toNat) (by omega)
  have g2 : ((2 : Int) ^ Nat.log2 n.toNat) = ((2 ^ Nat.log2 n.toNat : Nat) : Int) := by simp
  have g3 : n.toNat < 2 ^ (Nat.log2 n.toNat + 1) := Nat.lt_log2_self
  have g4 : ((2 : Int) ^ (Nat.log2 n.toNat + 1)) = ((2 ^ (Nat.log2 n.toNat + 1) : Nat) : Int) := by simp
  refine ⟨Nat.log2 n.toNat, ?_, ?_, ?_, ?_⟩
  · unfold wide_Log.f wide_Log.v
    rw [if_pos ⟨by omega, h1⟩, if_neg (by omega)]
  · rw [g2]
    omega
  · rw [g4]
    omega
  · by_cases c : Nat.log2 n.toNat ≤ 63
    · exact c
    · have m : (2 : Nat) ^ 64 ≤ 2 ^ Nat.log2 n.toNat := Nat.pow_le_pow_right (by decide) (by omega)
      have m2 : (2 : Nat) ^ 64 = 18446744073709551616 := by decide
      omega
set_option maxHeartbeats 16000000 in
set_option maxRecDepth 100000 in
theorem wide_Div.no (a0 : Int) (a1 : Int) (a2 : Int) (w : World) (c : a0 ≥ a2) :
    Calls Try.prog 85 #[.int .u64 a0, .int .u64 a1, .int .u64 a2] w fun e w' => e = .returned (.tuple #[.int .u64 0, .int .u64 0, .bool false]) ∧ Below w.heap.size w w' := by
  have c0 : decide (a0 ≥ a2) = true := decide_eq_true c
  clear c
  go_enter Try.func85, Try.ntmps85
  go_wp2
  go_ret3
  exact ⟨rfl, Below.refl _ _⟩
theorem wide_Div.shifted (a0 a1 a2 : Int) (l u v : Nat) (b0 : 0 ≤ a0) (b1 : 0 ≤ a1) (b2 : a1 ≤ 18446744073709551615) (c : a0 < a2) (g1 : (2 : Int) ^ l ≤ a2) (g2 : a2 < 2 ^ (l + 1)) (e : l + u = 63) (e2 : v + u = 64) :
    9223372036854775808 ≤ a2 * 2 ^ u ∧ a2 * 2 ^ u ≤ 18446744073709551615 ∧ 0 ≤ a0 * 2 ^ u ∧ a0 * 2 ^ u + a1 / 2 ^ v < a2 * 2 ^ u ∧ 0 ≤ a1 / 2 ^ v ∧ a1 / 2 ^ v < 2 ^ u ∧ a0 * 2 ^ u % 2 ^ u = 0 ∧ 0 ≤ a1 * 2 ^ u ∧
      (a0 * 18446744073709551616 + a1) * 2 ^ u = (a0 * 2 ^ u + a1 / 2 ^ v) * 18446744073709551616 + a1 * 2 ^ u % 18446744073709551616 := by
  have pu := wide_Div.pow_pos u
  have pv := wide_Div.pow_pos v
  have k1 : (2 : Int) ^ l * 2 ^ u = 9223372036854775808 := by rw [← Int.pow_add, e]; decide
  have k2 : (2 : Int) ^ (l + 1) * 2 ^ u = 18446744073709551616 := by rw [← Int.pow_add, show l + 1 + u = 64 by omega]; decide
  have k3 : (2 : Int) ^ v * 2 ^ u = 18446744073709551616 := by rw [← Int.pow_add, e2]; decide
  have m1 : (2 : Int) ^ l * 2 ^ u ≤ a2 * 2 ^ u := Int.mul_le_mul_of_nonneg_right g1 (by omega)
  have m2 : a2 * 2 ^ u < 2 ^ (l + 1) * 2 ^ u := Int.mul_lt_mul_of_pos_right g2 pu
  have m3 : 0 ≤ a0 * 2 ^ u := Int.mul_nonneg b0 (by omega)
  have m4 : (a0 + 1) * 2 ^ u ≤ a2 * 2 ^ u := Int.mul_le_mul_of_nonneg_right (by omega) (by omega)
  have m5 : (a0 + 1) * 2 ^ u = a0 * 2 ^ u + 2 ^ u := by rw [Int.add_mul, Int.one_mul]
  have d0 : 0 ≤ a1 / 2 ^ v := Int.ediv_nonneg b1 (by omega)
  have d1 : a1 / 2 ^ v < 2 ^ u := Int.ediv_lt_of_lt_mul pv (by rw [Int.mul_comm, k3]; omega)
  have em := Int.mul_ediv_add_emod a1 (2 ^ v)
  have r0 := Int.emod_nonneg a1 (b := 2 ^ v) (by omega)
  have r1 := Int.emod_lt_of_pos a1 pv
  have n1 : a1 * 2 ^ u = 18446744073709551616 * (a1 / 2 ^ v) + a1 % 2 ^ v * 2 ^ u := by
    have q1 : (2 ^ v * (a1 / 2 ^ v) + a1 % 2 ^ v) * 2 ^ u = a1 * 2 ^ u := by rw [em]
    rw [← q1, Int.add_mul, Int.mul_right_comm, k3]
  have n2 : 0 ≤ a1 % 2 ^ v * 2 ^ u := Int.mul_nonneg r0 (by omega)
  have n3 : a1 % 2 ^ v * 2 ^ u < 2 ^ v * 2 ^ u := Int.mul_lt_mul_of_pos_right r1 pu
  have n4 : (a0 * 18446744073709551616 + a1) * 2 ^ u = a0 * 2 ^ u * 18446744073709551616 + a1 * 2 ^ u := by rw [Int.add_mul, Int.mul_right_comm]
  refine ⟨by omega, by omega, m3, by omega, d0, d1, Int.mul_emod_left _ _, Int.mul_nonneg b1 (by omega), ?_⟩
  rw [n4]
  omega
set_option maxHeartbeats 16000000 in
set_option maxRecDepth 100000 in
theorem wide_Div.yes (a0 : Int) (a1 : Int) (a2 : Int) (w : World) (b0 : 0 ≤ a0) (b1 : 0 ≤ a1) (b2 : a1 ≤ 18446744073709551615) (b3 : a2 ≤ 18446744073709551615) (c : a0 < a2) :
    Calls Try.prog 85 #[.int .u64 a0, .int .u64 a1, .int .u64 a2] w fun e w' => e = .returned (.tuple #[.int .u64 ((a0 * 18446744073709551616 + a1) / a2), .int .u64 ((a0 * 18446744073709551616 + a1) % a2), .bool true]) ∧ Below w.heap.size w w' := by
  have c0 : decide (a0 ≥ a2) = false := decide_eq_false (by omega)
  obtain ⟨l, hl, g1, g2, g3⟩ := wide_Div.log a2 (by omega) b3
  obtain ⟨u, hu⟩ : ∃ u : Nat, l + u = 63 := ⟨63 - l, by omega⟩
  obtain ⟨v, hv⟩ : ∃ v : Nat, v + u = 64 := ⟨64 - u, by omega⟩
  obtain ⟨s1, s2, s3, s4, s5, s6, s7, s8, s9⟩ := wide_Div.shifted a0 a1 a2 l u v b0 b1 b2 c g1 g2 hu hv
  have pu := wide_Div.pow_pos u
  have hu63 : u ≤ 63 := by omega
  have hlu : (63 : Int) - (l : Int) = (u : Int) := by omega
  have huv : (64 : Int) - (u : Int) = (v : Int) := by omega
  have hv64 : v ≤ 64 := by omega
  obtain ⟨d2, hd2⟩ : ∃ d2, a2 * 2 ^ u = d2 := ⟨_, rfl⟩
  obtain ⟨x1, hx1⟩ : ∃ x, a0 * 2 ^ u = x := ⟨_, rfl⟩
  obtain ⟨x2, hx2⟩ : ∃ x, a1 / 2 ^ v = x := ⟨_, rfl⟩
  obtain ⟨x3, hx3⟩ : ∃ x, a1 * 2 ^ u = x := ⟨_, rfl⟩
  rw [hd2] at s1 s2 s4
  rw [hx1] at s3 s4 s7 s9
  rw [hx2] at s4 s5 s6 s9
  rw [hx3] at s8 s9
  obtain ⟨h0, hh0⟩ : ∃ h0, x1 + x2 = h0 := ⟨_, rfl⟩
  obtain ⟨L, hL⟩ : ∃ L, x3 % 18446744073709551616 = L := ⟨_, rfl⟩
  have o1 : Go.bits .or .u64 x1 x2 = h0 := by
    rw [bits_join .u64 64 (by decide) (fun n q0 q1 => by rw [IntKind.wrap_u64]; omega) u _ _ s3 s7 (by omega) s5 s6 (by omega), hh0]
  have wd : IntKind.u64.wrap (a2 * 2 ^ u) = d2 := by rw [IntKind.wrap_u64, hd2]; omega
  have w1 : IntKind.u64.wrap (a0 * 2 ^ u) = x1 := by rw [IntKind.wrap_u64, hx1]; omega
  have w3 : IntKind.u64.wrap (a1 * 2 ^ u) = L := by rw [IntKind.wrap_u64, hx3]; exact hL
  have hN : (a0 * 18446744073709551616 + a1) * 2 ^ u = h0 * 18446744073709551616 + L := by rw [s9, hh0, hL]
  have hLb : 0 ≤ L ∧ L ≤ 18446744073709551615 := by omega
  have hh : 0 ≤ h0 ∧ h0 < d2 := by omega
  have zero_ : u = 0 → h0 = a0 ∧ L = a1 := by
    intro z
    subst z
    have p0 : (2 : Int) ^ 0 = 1 := rfl
    have v0 : v = 64 := by omega
    subst v0
    have p1 : (2 : Int) ^ 64 = 18446744073709551616 := by decide
    rw [p0] at hx1 hx3
    rw [p1] at hx2
    have y2 : a1 / 18446744073709551616 = 0 := Int.ediv_eq_zero_of_lt b1 (by omega)
    omega
  have HL := Aside0.mk hl
  have HF := Aside0.mk (show 9223372036854775808 ≤ d2 ∧ d2 ≤ 18446744073709551615 ∧ (0 ≤ h0 ∧ h0 < d2) ∧ (0 ≤ L ∧ L ≤ 18446744073709551615) ∧ (a0 * 18446744073709551616 + a1) * 2 ^ u = h0 * 18446744073709551616 + L ∧ d2 = a2 * 2 ^ u ∧ 0 < a2 ∧ (0 : Int) < 2 ^ u from ⟨s1, s2, hh, hLb, hN, hd2.symm, by omega, pu⟩)
  have HZ := Aside0.mk zero_
  have HX2 := hx2
  clear hl g1 g2 hu hv s1 s2 s3 s4 s5 s6 s7 s8 s9 pu hd2 hx1 hx2 hx3 hh0 hL hN hLb hh zero_ c b0 b1 b2 b3
  go_enter Try.func85, Try.ntmps85
  go_upto_if 26 with (first | (go_at_call 89; (with_reducible refine (wide_Log.calls a2 (l : Int) _ HL.out).mono ?_); rintro e w' ⟨rfl, ⟨nd, rfl⟩⟩))
  go_cut [0, 1] (fun s0 s1 wx => s0 = .int .u64 h0 ∧ s1 = .int .u64 L ∧ Below w.heap.size w wx)
  case first =>
    by_cases z : u = 0
    · obtain ⟨z1, z2⟩ := HZ.out z
      have z0 : u ≤ 0 := by omega
      clear z
      go_wp2_with fail
      go_meet
      case rel => exact ⟨by rw [z1], by rw [z2], by repeat (first | exact Below.refl _ _ | apply pw_below_drewN)⟩
    · have z0 : 1 ≤ u := by omega
      clear z
      go_wp2_with fail
      go_quiet (fail)
      go_wp2_with fail
      go_meet
      case rel => exact ⟨rfl, rfl, by repeat (first | exact Below.refl _ _ | apply pw_below_drewN)⟩
  case rest =>
    obtain ⟨rfl, rfl, hbel⟩ := hcut
    obtain ⟨wx, rfl⟩ : ∃ wx : World, wx = wc := ⟨_, rfl⟩
    clear o1 wd w1 w3 HX2 c0
    obtain ⟨d0, hd0⟩ : ∃ x, d2 % 4294967296 = x := ⟨_, rfl⟩
    obtain ⟨d1, hd1⟩ : ∃ x, d2 / 4294967296 = x := ⟨_, rfl⟩
    obtain ⟨n0, hn0⟩ : ∃ x, L / 4294967296 = x := ⟨_, rfl⟩
    obtain ⟨n1, hn1⟩ : ∃ x, L % 4294967296 = x := ⟨_, rfl⟩
    have la : Go.bits .and .u64 L 4294967295 = n1 := by rw [wide_halves.and_ L HF.out.2.2.2.1.1 HF.out.2.2.2.1.2, hn1]
    have hk : wide_Div.Kn h0 n0 d2 d0 d1 := by
      have := HF.out
      unfold wide_Div.Kn
      omega
    obtain ⟨q0, hq0⟩ : ∃ x, (h0 * 4294967296 + n0) / d2 = x := ⟨_, rfl⟩
    obtain ⟨h1, hh1⟩ : ∃ x, (h0 * 4294967296 + n0) % d2 = x := ⟨_, rfl⟩
    have hk2 : wide_Div.Kn h1 n1 d2 d0 d1 := by
      have := HF.out
      have m0 := Int.emod_nonneg (h0 * 4294967296 + n0) (b := d2) (by omega)
      have m1 := Int.emod_lt_of_pos (h0 * 4294967296 + n0) (b := d2) (by omega)
      unfold wide_Div.Kn at hk ⊢
      omega
    obtain ⟨q1, hq1⟩ : ∃ x, (h1 * 4294967296 + n1) / d2 = x := ⟨_, rfl⟩
    obtain ⟨h2, hh2⟩ : ∃ x, (h1 * 4294967296 + n1) % d2 = x := ⟨_, rfl⟩
    have b0 := wide_Div.quot h0 n0 d2 d0 d1 hk
    have b1 := wide_Div.quot h1 n1 d2 d0 d1 hk2
    rw [hq0] at b0
    rw [hq1] at b1
    have fin : (a0 * 18446744073709551616 + a1) / a2 = q0 * 4294967296 + q1 ∧ (a0 * 18446744073709551616 + a1) % a2 = h2 / 2 ^ u := by
      obtain ⟨f1, f2, f3, f4, f5, f6, f7, f8⟩ := HF.out
      have e1 := Int.mul_ediv_add_emod (h0 * 4294967296 + n0) d2
      have e2 := Int.mul_ediv_add_emod (h1 * 4294967296 + n1) d2
      have m0 := Int.emod_nonneg (h1 * 4294967296 + n1) (b := d2) (by omega)
      have m1 := Int.emod_lt_of_pos (h1 * 4294967296 + n1) (b := d2) (by omega)
      rw [hq0, hh1, Int.mul_comm] at e1
      rw [hq1, hh2, Int.mul_comm] at e2
      rw [hh2] at m0 m1
      exact wide_Div.whole (a0 * 18446744073709551616 + a1) a2 (2 ^ u) d2 h0 n0 n1 q0 h1 q1 h2 f8 f6 f7 (by omega) e1.symm e2.symm m0 m1
    have FIN := Aside0.mk fin
    have HK := Aside0.mk hk
    have HK2 := Aside0.mk hk2
    have HQ := Aside0.mk (show (h0 * 4294967296 + n0) / d2 = q0 ∧ (h0 * 4294967296 + n0) % d2 = h1 ∧ (h1 * 4294967296 + n1) / d2 = q1 ∧ (h1 * 4294967296 + n1) % d2 = h2 from ⟨hq0, hh1, hq1, hh2⟩)
    have HB0 := Aside0.mk (show 0 ≤ q0 ∧ q0 ≤ 4294967295 ∧ 0 ≤ q1 ∧ q1 ≤ 4294967295 from ⟨b0.1, b0.2, b1.1, b1.2⟩)
    have HB := Aside0.mk hbel
    clear hk hk2 hq0 hq1 hh1 hh2 b0 b1 fin hbel
    go_wp2_with (first | (go_at_call 88; (with_reducible refine (wide_halves.calls d2 _ (by have := HF.out; omega) HF.out.2.1).mono ?_); rintro e w' ⟨rfl, rfl⟩))
    obtain ⟨D, hD⟩ : ∃ D, wx.heap.size + 1 = D := ⟨_, rfl⟩
    rw [hD]
    have hbel : Below w.heap.size w (((wx.alloc (Obj.cells #[Value.int IntKind.u64 d0, Value.int IntKind.u64 d1] 122)).alloc (Obj.cells #[Value.int IntKind.u64 d0, Value.int IntKind.u64 d1] 122)).alloc (Obj.cells #[Value.int IntKind.u64 0, Value.int IntKind.u64 0] 122)) := by
      refine Below.alloc (Below.alloc (Below.alloc HB.out ?_ _) ?_ _) ?_ _ <;> (have q := HB.out.size; simp; omega)
    have hcd : (((wx.alloc (Obj.cells #[Value.int IntKind.u64 d0, Value.int IntKind.u64 d1] 122)).alloc (Obj.cells #[Value.int IntKind.u64 d0, Value.int IntKind.u64 d1] 122)).alloc (Obj.cells #[Value.int IntKind.u64 0, Value.int IntKind.u64 0] 122)).heap[D]? = some (Obj.cells #[Value.int IntKind.u64 d0, Value.int IntKind.u64 d1] 122 (0, 0)) := blk_alloc (wide_halves.blk_at_new (wx.alloc _) _ D (by simp; omega)) _
    have hcq : (((wx.alloc (Obj.cells #[Value.int IntKind.u64 d0, Value.int IntKind.u64 d1] 122)).alloc (Obj.cells #[Value.int IntKind.u64 d0, Value.int IntKind.u64 d1] 122)).alloc (Obj.cells #[Value.int IntKind.u64 0, Value.int IntKind.u64 0] 122)).heap[D + 1]? = some (Obj.cells #[Value.int IntKind.u64 0, Value.int IntKind.u64 0] 122 (0, 0)) := wide_halves.blk_at_new ((wx.alloc _).alloc _) _ (D + 1) (by simp; omega)
    have hDw : w.heap.size ≤ D := by have q := HB.out.size; omega
    generalize (((wx.alloc (Obj.cells #[Value.int IntKind.u64 d0, Value.int IntKind.u64 d1] 122)).alloc (Obj.cells #[Value.int IntKind.u64 d0, Value.int IntKind.u64 d1] 122)).alloc (Obj.cells #[Value.int IntKind.u64 0, Value.int IntKind.u64 0] 122)) = w0 at hbel hcd hcq ⊢
    clear HB
    have HB := Aside0.mk hbel
    have HD := Aside0.mk hcd
    have HQQ := Aside0.mk hcq
    have HDW := Aside0.mk hDw
    clear hbel hcd hcq hDw hD hd0 hd1 hn0 hn1
    have i0 : ∀ wz, (Instr.index 122 (.agg #[Value.int IntKind.u64 n0, Value.int IntKind.u64 n1]) (.int .i64 0)).run Try.prog wz = .ok (Value.int IntKind.u64 n0) wz := fun _ => by kernel_rfl
    have i1 : ∀ wz, (Instr.index 122 (.agg #[Value.int IntKind.u64 n0, Value.int IntKind.u64 n1]) (.int .i64 1)).run Try.prog wz = .ok (Value.int IntKind.u64 n1) wz := fun _ => by kernel_rfl
    go_loopg [0, 45] 2 (fun g s0 q wr => ∃ c h a b : Int, (c = 0 ∧ g = 2 ∧ h0 = h ∧ a = 0 ∧ b = 0 ∨ c = 1 ∧ g = 1 ∧ h1 = h ∧ q0 = a ∧ b = 0 ∨ c = 2 ∧ g = 0 ∧ h2 = h ∧ q0 = a ∧ q1 = b) ∧ s0 = .int .u64 h ∧ q = .int .i64 c ∧ wr.heap[D]? = some (Obj.cells #[Value.int IntKind.u64 d0, Value.int IntKind.u64 d1] 122 (0, 0)) ∧ wr.heap[D + 1]? = some (Obj.cells #[Value.int IntKind.u64 a, Value.int IntKind.u64 b] 122 (0, 0)) ∧ Below w.heap.size w wr)
    case atStart => exact ⟨0, h0, 0, 0, .inl ⟨rfl, rfl, rfl, rfl, rfl⟩, rfl, rfl, HD.out, HQQ.out, HB.out⟩
    case round =>
      obtain ⟨c, h, a, b, hj, rfl, rfl, hcd, hcq, hbel⟩ := hrel
      clear HB HD HQQ
      have HB := Aside0.mk hbel
      have HD := Aside0.mk hcd
      have HQQ := Aside0.mk hcq
      clear hbel hcd hcq
      obtain ⟨wo, rfl⟩ : ∃ wo : World, wo = wr := ⟨_, rfl⟩
      rcases hj with ⟨rfl, rfl, rfl, rfl, rfl⟩ | ⟨rfl, rfl, rfl, rfl, rfl⟩ | ⟨rfl, rfl, rfl, rfl, rfl⟩
      · have ks := wide_Div.start h0 n0 d2 d0 d1 HK.out
        have kk := HK.out
        unfold wide_Div.Kn at kk
        have kg := ks
        unfold wide_Div.Go_ at kg
        have p0 : 0 ≤ h0 := kk.2.2.2.2.2.1
        have p1 : 1 ≤ d1 := by omega
        have p2 : (d1 == 0) = false := by rw [beq_eq_false_iff_ne]; omega
        have p4 : h0 ≤ 18446744073709551615 := by have := HF.out.2.1; omega
        have p5 : 0 ≤ h0 / d1 := Int.ediv_nonneg p0 (by omega)
        have p3 : IntKind.u64.wrap (h0.tdiv d1) = h0 / d1 := by rw [Int.tdiv_eq_ediv_of_nonneg p0, IntKind.wrap_u64]; omega
        have p6 : 0 ≤ h0 / d1 * d1 := Int.mul_nonneg p5 (by omega)
        have wq : IntKind.u64.wrap (h0 / d1 * d1) = h0 / d1 * d1 := by rw [IntKind.wrap_u64]; omega
        have ws : IntKind.u64.wrap (h0 - h0 / d1 * d1) = h0 - h0 / d1 * d1 := by rw [IntKind.wrap_u64]; omega
        have KS := Aside0.mk ks
        clear ks kk kg
        have cd1 := (blk_cell HD.out 1).trans (show _ = some (Value.int IntKind.u64 d1) from rfl)
        have cd0 := (blk_cell HD.out 0).trans (show _ = some (Value.int IntKind.u64 d0) from rfl)
        have cq := (blk_cell HQQ.out 0).trans (show _ = some (Value.int IntKind.u64 0) from rfl)
        have fq := blk_frozen HQQ.out 0
        go_wp2
        go_step3
        go_wp2
        go_step3
        go_wp2
        go_loopg [14, 15] (h0 / d1).toNat (fun g s14 s15 wr => ∃ n r : Int, s14 = .int .u64 n ∧ s15 = .int .u64 r ∧ g = n.toNat ∧ wide_Div.Go_ h0 n0 d2 d0 d1 n r ∧ wr = wo)
        case atStart => exact ⟨_, _, rfl, rfl, rfl, KS.out, rfl⟩
        case round =>
          obtain ⟨n, r, rfl, rfl, hg, hgo, rfl⟩ := hrel
          have hq := wide_Div.quot h0 n0 d2 d0 d1 HK.out
          have kk := HK.out
          unfold wide_Div.Kn at kk
          have kg := hgo
          unfold wide_Div.Go_ at kg
          have wr1 : IntKind.u64.wrap (r * 4294967296) = r * 4294967296 := by rw [IntKind.wrap_u64]; omega
          have wo1 : Go.bits .or .u64 (r * 4294967296) n0 = r * 4294967296 + n0 := wide_halves.join r n0 (by omega) (by omega) (by omega) (by omega)
          have wa : IntKind.u64.wrap (r + d1) = r + d1 := by rw [IntKind.wrap_u64]; omega
          have HGO := Aside0.mk hgo
          have HG := Aside0.mk hg
          have HQB := Aside0.mk hq
          by_cases c2 : n > 4294967295 ∨ n * d0 > r * 4294967296 + n0
          · have ab := wide_Div.above h0 n0 d2 d0 d1 n r HK.out hgo c2
            have wn : IntKind.u64.wrap (n - 1) = n - 1 := by rw [IntKind.wrap_u64]; omega
            have ht : decide (n > 4294967295) = true ∨ decide (n > 4294967295) = false ∧ IntKind.u64.wrap (n * d0) = n * d0 ∧ decide (n * d0 > r * 4294967296 + n0) = true := by
              by_cases c3 : n > 4294967295
              · exact .inl (decide_eq_true c3)
              · refine .inr ⟨decide_eq_false c3, ?_, decide_eq_true (by omega)⟩
                have z := wide_halves.prod_bd n d0 (by omega) (by omega) (by omega) (by omega)
                rw [IntKind.wrap_u64]
                omega
            have n1_ : 0 < n := by omega
            by_cases c4 : r + d1 > 4294967295
            · have br := wide_Div.broke h0 n0 d2 d0 d1 n r HK.out hgo c2 c4
              have t4 : decide (r + d1 > 4294967295) = true := decide_eq_true c4
              rw [HQ.out.1] at br
              have wn2 : IntKind.u64.wrap q0 = q0 := by rw [← br]; exact wn
              clear wn
              clear hgo hg hq kk kg c2 c4 ab n1_
              have C2 := ht
              clear ht
              rcases C2 with ht | ⟨ht, ht2, ht3⟩
              all_goals
                go_wp2
                rw [Exit.noGoto_normal]
                go_wp2
                go_roundg 1
                case measure => omega
                case rel => exact ⟨1, h1, q0, 0, .inr (.inl ⟨rfl, rfl, rfl, rfl, rfl⟩), by rw [← HQ.out.2.1, ← wide_Div.rest h0 n0 d2 d0 d1 HK.out HF.out.2.1, HQ.out.1], by first | rfl | go_num, blk_far HD.out (by simp; try omega) _, blk_put HQQ.out 0 _ rfl, HB.out.setCell (by have q := HDW.out; simp; omega) _⟩
            · have nx_ := wide_Div.next_ h0 n0 d2 d0 d1 n r HK.out hgo c2 (by omega)
              have t4 : decide (r + d1 > 4294967295) = false := decide_eq_false c4
              have NX := Aside0.mk nx_
              have N1 := Aside0.mk n1_
              clear hgo hg hq kk kg c2 c4 ab n1_ nx_
              have C2 := ht
              clear ht
              rcases C2 with ht | ⟨ht, ht2, ht3⟩
              all_goals
                go_wp2
                have hg := HG.out
                have n1_ := N1.out
                go_roundg (n - 1).toNat
                case measure => omega
                case rel => exact ⟨n - 1, r + d1, rfl, rfl, rfl, NX.out, rfl⟩
          · have aq := wide_Div.atq h0 n0 d2 d0 d1 n r HK.out hgo (by omega)
            rw [HQ.out.1] at aq
            have t1 : decide (n > 4294967295) = false := decide_eq_false (by omega)
            have t2 : IntKind.u64.wrap (n * d0) = n * d0 := by
              have z := wide_halves.prod_bd n d0 (by omega) (by omega) (by omega) (by omega)
              rw [IntKind.wrap_u64]
              omega
            have t3 : decide (n * d0 > r * 4294967296 + n0) = false := decide_eq_false (by omega)
            have aq2 := aq.symm
            clear aq
            subst aq2
            clear hgo hg hq kk kg c2
            go_wp2
            rw [Exit.noGoto_normal]
            go_wp2
            go_roundg 1
            case measure => omega
            case rel => exact ⟨1, h1, q0, 0, .inr (.inl ⟨rfl, rfl, rfl, rfl, rfl⟩), by rw [← HQ.out.2.1, ← wide_Div.rest h0 n0 d2 d0 d1 HK.out HF.out.2.1, HQ.out.1], by first | rfl | go_num, blk_far HD.out (by simp; try omega) _, blk_put HQQ.out 0 _ rfl, HB.out.setCell (by have q := HDW.out; simp; omega) _⟩
      · have ks := wide_Div.start h1 n1 d2 d0 d1 HK2.out
        have kk := HK2.out
        unfold wide_Div.Kn at kk
        have kg := ks
        unfold wide_Div.Go_ at kg
        have p0 : 0 ≤ h1 := kk.2.2.2.2.2.1
        have p1 : 1 ≤ d1 := by omega
        have p2 : (d1 == 0) = false := by rw [beq_eq_false_iff_ne]; omega
        have p4 : h1 ≤ 18446744073709551615 := by have := HF.out.2.1; omega
        have p5 : 0 ≤ h1 / d1 := Int.ediv_nonneg p0 (by omega)
        have p3 : IntKind.u64.wrap (h1.tdiv d1) = h1 / d1 := by rw [Int.tdiv_eq_ediv_of_nonneg p0, IntKind.wrap_u64]; omega
        have p6 : 0 ≤ h1 / d1 * d1 := Int.mul_nonneg p5 (by omega)
        have wq : IntKind.u64.wrap (h1 / d1 * d1) = h1 / d1 * d1 := by rw [IntKind.wrap_u64]; omega
        have ws : IntKind.u64.wrap (h1 - h1 / d1 * d1) = h1 - h1 / d1 * d1 := by rw [IntKind.wrap_u64]; omega
        have KS := Aside0.mk ks
        clear ks kk kg
        have cd1 := (blk_cell HD.out 1).trans (show _ = some (Value.int IntKind.u64 d1) from rfl)
        have cd0 := (blk_cell HD.out 0).trans (show _ = some (Value.int IntKind.u64 d0) from rfl)
        have cq := (blk_cell HQQ.out 1).trans (show _ = some (Value.int IntKind.u64 0) from rfl)
        have fq := blk_frozen HQQ.out 1
        go_wp2
        go_step3
        go_wp2
        go_step3
        go_wp2
        go_loopg [14, 15] (h1 / d1).toNat (fun g s14 s15 wr => ∃ n r : Int, s14 = .int .u64 n ∧ s15 = .int .u64 r ∧ g = n.toNat ∧ wide_Div.Go_ h1 n1 d2 d0 d1 n r ∧ wr = wo)
        case atStart => exact ⟨_, _, rfl, rfl, rfl, KS.out, rfl⟩
        case round =>
          obtain ⟨n, r, rfl, rfl, hg, hgo, rfl⟩ := hrel
          have hq := wide_Div.quot h1 n1 d2 d0 d1 HK2.out
          have kk := HK2.out
          unfold wide_Div.Kn at kk
          have kg := hgo
          unfold wide_Div.Go_ at kg
          have wr1 : IntKind.u64.wrap (r * 4294967296) = r * 4294967296 := by rw [IntKind.wrap_u64]; omega
          have wo1 : Go.bits .or .u64 (r * 4294967296) n1 = r * 4294967296 + n1 := wide_halves.join r n1 (by omega) (by omega) (by omega) (by omega)
          have wa : IntKind.u64.wrap (r + d1) = r + d1 := by rw [IntKind.wrap_u64]; omega
          have HGO := Aside0.mk hgo
          have HG := Aside0.mk hg
          have HQB := Aside0.mk hq
          by_cases c2 : n > 4294967295 ∨ n * d0 > r * 4294967296 + n1
          · have ab := wide_Div.above h1 n1 d2 d0 d1 n r HK2.out hgo c2
            have wn : IntKind.u64.wrap (n - 1) = n - 1 := by rw [IntKind.wrap_u64]; omega
            have ht : decide (n > 4294967295) = true ∨ decide (n > 4294967295) = false ∧ IntKind.u64.wrap (n * d0) = n * d0 ∧ decide (n * d0 > r * 4294967296 + n1) = true := by
              by_cases c3 : n > 4294967295
              · exact .inl (decide_eq_true c3)
              · refine .inr ⟨decide_eq_false c3, ?_, decide_eq_true (by omega)⟩
                have z := wide_halves.prod_bd n d0 (by omega) (by omega) (by omega) (by omega)
                rw [IntKind.wrap_u64]
                omega
            have n1_ : 0 < n := by omega
            by_cases c4 : r + d1 > 4294967295
            · have br := wide_Div.broke h1 n1 d2 d0 d1 n r HK2.out hgo c2 c4
              have t4 : decide (r + d1 > 4294967295) = true := decide_eq_true c4
              rw [HQ.out.2.2.1] at br
              have wn2 : IntKind.u64.wrap q1 = q1 := by rw [← br]; exact wn
              clear wn
              clear hgo hg hq kk kg c2 c4 ab n1_
              have C2 := ht
              clear ht
              rcases C2 with ht | ⟨ht, ht2, ht3⟩
              all_goals
                go_wp2
                rw [Exit.noGoto_normal]
                go_wp2
                go_roundg 0
                case measure => omega
                case rel => exact ⟨2, h2, q0, q1, .inr (.inr ⟨rfl, rfl, rfl, rfl, rfl⟩), by rw [← HQ.out.2.2.2, ← wide_Div.rest h1 n1 d2 d0 d1 HK2.out HF.out.2.1, HQ.out.2.2.1], by first | rfl | go_num, blk_far HD.out (by simp; try omega) _, blk_put HQQ.out 1 _ rfl, HB.out.setCell (by have q := HDW.out; simp; omega) _⟩
            · have nx_ := wide_Div.next_ h1 n1 d2 d0 d1 n r HK2.out hgo c2 (by omega)
              have t4 : decide (r + d1 > 4294967295) = false := decide_eq_false c4
              have NX := Aside0.mk nx_
              have N1 := Aside0.mk n1_
              clear hgo hg hq kk kg c2 c4 ab n1_ nx_
              have C2 := ht
              clear ht
              rcases C2 with ht | ⟨ht, ht2, ht3⟩
              all_goals
                go_wp2
                have hg := HG.out
                have n1_ := N1.out
                go_roundg (n - 1).toNat
                case measure => omega
                case rel => exact ⟨n - 1, r + d1, rfl, rfl, rfl, NX.out, rfl⟩
          · have aq := wide_Div.atq h1 n1 d2 d0 d1 n r HK2.out hgo (by omega)
            rw [HQ.out.2.2.1] at aq
            have t1 : decide (n > 4294967295) = false := decide_eq_false (by omega)
            have t2 : IntKind.u64.wrap (n * d0) = n * d0 := by
              have z := wide_halves.prod_bd n d0 (by omega) (by omega) (by omega) (by omega)
              rw [IntKind.wrap_u64]
              omega
            have t3 : decide (n * d0 > r * 4294967296 + n1) = false := decide_eq_false (by omega)
            have aq2 := aq.symm
            clear aq
            subst aq2
            clear hgo hg hq kk kg c2
            go_wp2
            rw [Exit.noGoto_normal]
            go_wp2
            go_roundg 0
            case measure => omega
            case rel => exact ⟨2, h2, q0, q1, .inr (.inr ⟨rfl, rfl, rfl, rfl, rfl⟩), by rw [← HQ.out.2.2.2, ← wide_Div.rest h1 n1 d2 d0 d1 HK2.out HF.out.2.1, HQ.out.2.2.1], by first | rfl | go_num, blk_far HD.out (by simp; try omega) _, blk_put HQQ.out 1 _ rfl, HB.out.setCell (by have q := HDW.out; simp; omega) _⟩
      · have hb := HB0.out
        have w1 : IntKind.u64.wrap (q0 * 4294967296) = q0 * 4294967296 := by rw [IntKind.wrap_u64]; omega
        have o1 : Go.bits .or .u64 (q0 * 4294967296) q1 = q0 * 4294967296 + q1 := wide_halves.join q0 q1 (by omega) (by omega) (by omega) (by omega)
        clear hb
        have c0 := (blk_cell HQQ.out 0).trans (show _ = some (Value.int IntKind.u64 q0) from rfl)
        have c1 := (blk_cell HQQ.out 1).trans (show _ = some (Value.int IntKind.u64 q1) from rfl)
        go_wp2_with fail
        go_quiet (fail)
        go_wp2
        go_ret3
        exact ⟨by rw [FIN.out.1, FIN.out.2]; rfl, pw_below_drewN HB.out _⟩
theorem wide_Div.calls (a0 : Int) (a1 : Int) (a2 : Int) (r1 : Int) (r2 : Int) (r3 : Bool) (w : World) (h : wide_Div.f a0 a1 a2 = some (r1, r2, r3)) :
    Calls Try.prog 85 #[.int .u64 a0, .int .u64 a1, .int .u64 a2] w fun e w' => e = .returned (.tuple #[.int .u64 r1, .int .u64 r2, .bool r3]) ∧ Below w.heap.size w w' := by
  unfold wide_Div.f at h
  split at h
  · rename_i b
    split at h
    · rename_i c
      have e := Prod.mk.inj (Option.some.inj h)
      have e2 := Prod.mk.inj e.2
      rw [← e.1, ← e2.1, ← e2.2]
      exact wide_Div.no a0 a1 a2 w c
    · rename_i c
      have e := Prod.mk.inj (Option.some.inj h)
      have e2 := Prod.mk.inj e.2
      rw [← e.1, ← e2.1, ← e2.2]
      exact wide_Div.yes a0 a1 a2 w b.1 b.2.2.1 b.2.2.2.1 b.2.2.2.2.2 (by omega)
  · cases h

/-! ### fix_Mean: function 74 -/
def fix_Mean.psum : List Int → Int
  | [] => 0
  | x :: xs => (if x < 0 then 0 else x) + fix_Mean.psum xs
def fix_Mean.nsum : List Int → Int
  | [] => 0
  | x :: xs => (if x < 0 then -x else 0) + fix_Mean.nsum xs
def fix_Mean.In (x : Int) : Bool := decide (-9223372036854775808 ≤ x) && decide (x ≤ 9223372036854775807)
/-- What the difference of both sums, a size and a sign, divided by how many there are, is cut to. -/
def fix_Mean.fin (p n len : Int) : Option Int :=
  if p < n then fix_cut.f ((n - p) / len) ((n - p) % len) true else fix_cut.f ((p - n) / len) ((p - n) % len) false
def fix_Mean.f (l0 : List Int) : Option (Int) :=
  if l0.length = 0 then some 0 else if l0.all fix_Mean.In = true ∧ l0.length ≤ 17592186044416 then fix_Mean.fin (fix_Mean.psum l0) (fix_Mean.nsum l0) l0.length else none
theorem fix_Mean.psum_snoc (l : List Int) (x : Int) : fix_Mean.psum (l ++ [x]) = fix_Mean.psum l + (if x < 0 then 0 else x) := by
  induction l with
  | nil => simp [fix_Mean.psum]
  | cons y ys ih => simp only [List.cons_append, fix_Mean.psum, ih]; omega
theorem fix_Mean.nsum_snoc (l : List Int) (x : Int) : fix_Mean.nsum (l ++ [x]) = fix_Mean.nsum l + (if x < 0 then -x else 0) := by
  induction l with
  | nil => simp [fix_Mean.nsum]
  | cons y ys ih => simp only [List.cons_append, fix_Mean.nsum, ih]; omega
theorem fix_Mean.bd (l : List Int) (h : l.all fix_Mean.In = true) : 0 ≤ fix_Mean.psum l ∧ 0 ≤ fix_Mean.nsum l ∧ fix_Mean.psum l + fix_Mean.nsum l ≤ l.length * 9223372036854775808 := by
  induction l with
  | nil => simp [fix_Mean.psum, fix_Mean.nsum]
  | cons y ys ih =>
    simp only [List.all_cons, Bool.and_eq_true] at h
    have h1 := ih h.2
    have h2 := h.1
    unfold fix_Mean.In at h2
    rw [Bool.and_eq_true, decide_eq_true_iff, decide_eq_true_iff] at h2
    simp only [fix_Mean.psum, fix_Mean.nsum, List.length_cons]
    split <;> omega
theorem fix_Mean.take_all (l : List Int) (j : Nat) (h : l.all fix_Mean.In = true) : (l.take j).all fix_Mean.In = true := by
  rw [List.all_eq_true] at h ⊢
  exact fun x hx => h x (List.mem_of_mem_take hx)
theorem fix_Mean.take_snoc (l : List Int) (j : Nat) (h : j < l.length) : l.take (j + 1) = l.take j ++ [rd l (j : Int)] := by
  rw [List.take_succ_eq_append_getElem h]
  congr 2
  unfold rd
  simp [h]
theorem fix_Mean.at_in (l : List Int) (j : Nat) (h : l.all fix_Mean.In = true) (hj : j < l.length) : -9223372036854775808 ≤ rd l (j : Int) ∧ rd l (j : Int) ≤ 9223372036854775807 := by
  rw [List.all_eq_true] at h
  have e : rd l (j : Int) = l[j] := by unfold rd; simp [hj]
  have := h l[j] (List.getElem_mem hj)
  unfold fix_Mean.In at this
  rw [Bool.and_eq_true, decide_eq_true_iff, decide_eq_true_iff] at this
  rw [e]
  exact this
theorem fix_Mean.plus (p x : Int) (h0 : 0 ≤ p) (h1 : 0 ≤ x) (h2 : x ≤ 18446744073709551615) (h3 : p + x < 340282366920938463463374607431768211456) :
    wide_Plus.f (p / 18446744073709551616) (p % 18446744073709551616) 0 x = some ((p + x) / 18446744073709551616, (p + x) % 18446744073709551616, false) := by
  unfold wide_Plus.f
  simp only [IntKind.wrap_u64]
  by_cases c : (p % 18446744073709551616 + x) % 18446744073709551616 < p % 18446744073709551616
  · rw [if_pos c, if_neg (by omega)]
    congr 2
    · omega
    · congr 1
      · omega
      · rw [beq_eq_false_iff_ne]
        omega
  · rw [if_neg c]
    congr 2
    · omega
    · congr 1
      · omega
      · exact decide_eq_false (by omega)
theorem fix_Mean.bset {w w1 : World} (h : Below w.heap.size w w1) (i : Nat) (u : Value) : Below w.heap.size w (w1.setCell ⟨w.heap.size, i, none⟩ u) := Below.setCell h (Nat.le_refl _) u
theorem fix_Mean.bset2 {w w1 : World} (h : Below w.heap.size w w1) (b i : Nat) (u : Value) (hb : w.heap.size ≤ b) : Below w.heap.size w (w1.setCell ⟨b, i, none⟩ u) := Below.setCell h hb u
theorem fix_Mean.ret_ {k : IntKind} {a b : Int} (h : a = b) : Ending.returned (.int k a) = .returned (.int k b) := by rw [h]
theorem fix_Mean.size (x : Int) (h0 : -9223372036854775808 ≤ x) (h1 : x ≤ 9223372036854775807) : fix_size.f x = some (if x < 0 then -x else x, decide (x < 0)) := by
  unfold fix_size.f
  rw [IntKind.wrap_u64, IntKind.wrap_u64]
  by_cases c : x < 0
  · rw [if_pos c, if_pos c, decide_eq_true c]
    congr 2
    omega
  · rw [if_neg c, if_neg c, decide_eq_false c]
    congr 2
    omega
set_option maxHeartbeats 16000000 in
set_option maxRecDepth 100000 in
theorem fix_Mean.none_ (A0 : Option Addr) (c0 : Nat) (w : World) :
    Calls Try.prog 74 #[.slice A0 0 c0] w fun e w' => e = .returned (.int .i64 0) ∧ Below w.heap.size w w' := by
  go_enter Try.func74, Try.ntmps74
  go_wp2
  go_ret
  exact ⟨rfl, Below.refl _ _⟩
set_option maxHeartbeats 16000000 in
set_option maxRecDepth 100000 in
theorem fix_Mean.some_ (A0 : Option Addr) (c0 : Nat) (l0 : List Int) (r : Int) (w : World) (hr0 : Kd.C (Kd.int .i64) w A0 l0.length l0) (hc0 : l0.length ≤ c0) (hne : l0.length ≠ 0) (hall : l0.all fix_Mean.In = true) (hlen : l0.length ≤ 17592186044416)
    (h : fix_Mean.fin (fix_Mean.psum l0) (fix_Mean.nsum l0) l0.length = some r) :
    Calls Try.prog 74 #[.slice A0 l0.length c0] w fun e w' => e = .returned (.int .i64 r) ∧ Below w.heap.size w w' := by
  have HR0 := Aside0.mk hr0
  have HC0 := Aside0.mk hc0
  have HALL := Aside0.mk hall
  have HF := Aside0.mk h
  have HLEN := Aside0.mk hlen
  have z0 : ((l0.length : Int) == 0) = false := beq_eq_false_iff_ne.mpr (by omega)
  have hlen2 : (l0.length : Int) ≤ 17592186044416 := by omega
  have HNE := Aside0.mk hne
  clear hr0 hc0 h hall hlen hne
  go_enter Try.func74, Try.ntmps74
  go_wp2
  have hbel : Below w.heap.size w (w.alloc (Obj.cells #[Value.int IntKind.u64 0, Value.int IntKind.u64 0, Value.int IntKind.u64 0, Value.int IntKind.u64 0] 123)) := below_alloc (Below.refl _ _) _
  have hcz : (w.alloc (Obj.cells #[Value.int IntKind.u64 0, Value.int IntKind.u64 0, Value.int IntKind.u64 0, Value.int IntKind.u64 0] 123)).heap[w.heap.size]? = some (Obj.cells #[Value.int IntKind.u64 0, Value.int IntKind.u64 0, Value.int IntKind.u64 0, Value.int IntKind.u64 0] 123 (0, 0)) := blk_new w _
  go_outline
  generalize (w.alloc (Obj.cells #[Value.int IntKind.u64 0, Value.int IntKind.u64 0, Value.int IntKind.u64 0, Value.int IntKind.u64 0] 123)) = w0 at hbel hcz ⊢
  have HB := Aside0.mk hbel
  have HZ := Aside0.mk hcz
  clear hbel hcz
  go_loopg [22] l0.length (fun g i wr => ∃ j : Nat, j ≤ l0.length ∧ g = l0.length - j ∧ i = .int .i64 j ∧ wr.heap[w.heap.size]? = some (Obj.cells #[Value.int IntKind.u64 (fix_Mean.psum (l0.take j) / 18446744073709551616), Value.int IntKind.u64 (fix_Mean.psum (l0.take j) % 18446744073709551616), Value.int IntKind.u64 (fix_Mean.nsum (l0.take j) / 18446744073709551616), Value.int IntKind.u64 (fix_Mean.nsum (l0.take j) % 18446744073709551616)] 123 (0, 0)) ∧ Below w.heap.size w wr)
  case atStart => exact ⟨0, by omega, by omega, rfl, by simpa [fix_Mean.psum, fix_Mean.nsum] using HZ.out, HB.out⟩
  case round =>
    obtain ⟨j, hj, hg, rfl, hcz, hbel⟩ := hrel
    clear HB HZ
    have HB := Aside0.mk hbel
    have HZ := Aside0.mk hcz
    have HG := Aside0.mk hg
    clear hbel hcz hg
    obtain ⟨wo, rfl⟩ : ∃ wo : World, wo = wr := ⟨_, rfl⟩
    by_cases hlt : j < l0.length
    · have tb := fix_Mean.bd (l0.take j) (fix_Mean.take_all l0 j HALL.out)
      have tl : (l0.take j).length = j := by rw [List.length_take]; omega
      have ts := fix_Mean.take_snoc l0 j hlt
      have xb := fix_Mean.at_in l0 j HALL.out hlt
      have ps := fix_Mean.psum_snoc (l0.take j) (rd l0 (j : Int))
      have ns := fix_Mean.nsum_snoc (l0.take j) (rd l0 (j : Int))
      rw [← ts] at ps ns
      obtain ⟨ad, ead, hx⟩ := Kd.at_int HR0.out (j : Int) (by omega) (by omega)
      cases ead
      rw [Int.toNat_natCast] at hx
      replace hx := (HB.out.cell (World.block_lt_of_cell? w _ hx)).trans hx
      obtain ⟨x, hxx⟩ : ∃ x, rd l0 (j : Int) = x := ⟨_, rfl⟩
      obtain ⟨p, hp⟩ : ∃ p, fix_Mean.psum (l0.take j) = p := ⟨_, rfl⟩
      obtain ⟨n, hn⟩ : ∃ n, fix_Mean.nsum (l0.take j) = n := ⟨_, rfl⟩
      have hz := HZ.out
      rw [hxx] at ps ns xb hx
      rw [hp] at ps tb hz
      rw [hn] at ns tb hz
      have HSZ := Aside0.mk (fix_Mean.size x xb.1 xb.2)
      have HPS := Aside0.mk ps
      have HNS := Aside0.mk ns
      have HPN := Aside0.mk (show 0 ≤ p ∧ 0 ≤ n ∧ p + n ≤ 17592186044416 * 9223372036854775808 by have := HLEN.out; omega)
      have HXB := Aside0.mk xb
      clear HZ
      have HZ := Aside0.mk hz
      have hzl : w.heap.size < wo.heap.size := blk_lt hz
      have f0 := blk_frozen hz 0
      have f1 := blk_frozen hz 1
      have f2 := blk_frozen hz 2
      have f3 := blk_frozen hz 3
      have k0 := (blk_cell hz 0).trans (show _ = some (Value.int IntKind.u64 (p / 18446744073709551616)) from rfl)
      have k1 := (blk_cell hz 1).trans (show _ = some (Value.int IntKind.u64 (p % 18446744073709551616)) from rfl)
      have k2 := (blk_cell hz 2).trans (show _ = some (Value.int IntKind.u64 (n / 18446744073709551616)) from rfl)
      have k3 := (blk_cell hz 3).trans (show _ = some (Value.int IntKind.u64 (n % 18446744073709551616)) from rfl)
      clear hz tb tl ts xb ps ns hp hn hxx
      by_cases s : x < 0
      · have HPL := Aside0.mk (fix_Mean.plus n (-x) (by have := HPN.out; omega) (by omega) (by have := HXB.out; omega) (by have := HPN.out; have := HXB.out; omega))
        have hs := HSZ.out
        rw [if_pos s, decide_eq_true s] at hs
        have HS2 := Aside0.mk hs
        have HSX := Aside0.mk s
        clear hs HSZ s
        have e1 : fix_Mean.psum (l0.take (j + 1)) = p := by rw [HPS.out, if_pos HSX.out]; omega
        have e2 : fix_Mean.nsum (l0.take (j + 1)) = n + -x := by rw [HNS.out, if_pos HSX.out]
        have E1 := Aside0.mk e1
        have E2 := Aside0.mk e2
        clear e1 e2
        go_upto_region 11 with (first | (go_at_call 78; (with_reducible refine (fix_size.calls x (-x) true _ HS2.out).mono ?_); rintro e w' ⟨rfl, ⟨nd, rfl⟩⟩))
        go_region_with (go_at_call 83; (with_reducible refine (wide_Plus.calls _ _ 0 (-x) _ _ false _ HPL.out).mono ?_); rintro e w' ⟨rfl, ⟨nd, rfl⟩⟩)
        all_goals
          go_wp2
          have hg := HG.out
          go_roundg (l0.length - (j + 1))
          case measure => omega
          case rel => exact ⟨j + 1, by omega, rfl, by first | rfl | go_num, by rw [E1.out, E2.out]; first | exact blk_put (blk_put (blk_drewN HZ.out _) 2 _ rfl) 3 _ rfl | exact blk_put (blk_put (blk_drewN HZ.out _) 3 _ rfl) 2 _ rfl | exact blk_put (blk_put HZ.out 2 _ rfl) 3 _ rfl, by repeat (first | exact HB.out | apply below_drew | apply pw_below_drewN | refine fix_Mean.bset ?_ _ _)⟩
      · have HPL := Aside0.mk (fix_Mean.plus p x (by have := HPN.out; omega) (by omega) (by have := HXB.out; omega) (by have := HPN.out; have := HXB.out; omega))
        have hs := HSZ.out
        rw [if_neg s, decide_eq_false s] at hs
        have HS2 := Aside0.mk hs
        have HSX := Aside0.mk s
        have e1 : fix_Mean.psum (l0.take (j + 1)) = p + x := by rw [HPS.out, if_neg HSX.out]
        have e2 : fix_Mean.nsum (l0.take (j + 1)) = n := by rw [HNS.out, if_neg HSX.out]; omega
        have E1 := Aside0.mk e1
        have E2 := Aside0.mk e2
        clear hs HSZ s e1 e2
        go_upto_region 11 with (first | (go_at_call 78; (with_reducible refine (fix_size.calls x x false _ HS2.out).mono ?_); rintro e w' ⟨rfl, ⟨nd, rfl⟩⟩))
        go_region_with (go_at_call 83; (with_reducible refine (wide_Plus.calls _ _ 0 x _ _ false _ HPL.out).mono ?_); rintro e w' ⟨rfl, ⟨nd, rfl⟩⟩)
        all_goals
          go_wp2
          have hg := HG.out
          go_roundg (l0.length - (j + 1))
          case measure => omega
          case rel => exact ⟨j + 1, by omega, rfl, by first | rfl | go_num, by rw [E1.out, E2.out]; first | exact blk_put (blk_put (blk_drewN HZ.out _) 0 _ rfl) 1 _ rfl | exact blk_put (blk_put (blk_drewN HZ.out _) 1 _ rfl) 0 _ rfl | exact blk_put (blk_put HZ.out 0 _ rfl) 1 _ rfl, by repeat (first | exact HB.out | apply below_drew | apply pw_below_drewN | refine fix_Mean.bset ?_ _ _)⟩
    · obtain rfl : j = l0.length := by omega
      have hz := HZ.out
      rw [List.take_length] at hz
      have pb := fix_Mean.bd l0 HALL.out
      obtain ⟨p, hpp⟩ : ∃ p, fix_Mean.psum l0 = p := ⟨_, rfl⟩
      obtain ⟨n, hnn⟩ : ∃ n, fix_Mean.nsum l0 = n := ⟨_, rfl⟩
      rw [hpp, hnn] at pb hz
      have pn : 0 ≤ p ∧ 0 ≤ n ∧ p + n ≤ (l0.length : Int) * 9223372036854775808 ∧ 1 ≤ (l0.length : Int) ∧ (l0.length : Int) ≤ 17592186044416 := by
        have := HLEN.out
        have := HNE.out
        omega
      have wl : IntKind.u64.wrap (l0.length : Int) = (l0.length : Int) := by rw [IntKind.wrap_u64]; omega
      obtain ⟨ph, hph⟩ : ∃ x, p / 18446744073709551616 = x := ⟨_, rfl⟩
      obtain ⟨pl, hpl⟩ : ∃ x, p % 18446744073709551616 = x := ⟨_, rfl⟩
      obtain ⟨nh, hnh⟩ : ∃ x, n / 18446744073709551616 = x := ⟨_, rfl⟩
      obtain ⟨nl, hnl⟩ : ∃ x, n % 18446744073709551616 = x := ⟨_, rfl⟩
      rw [hph, hpl, hnh, hnl] at hz
      have hp : p = ph * 18446744073709551616 + pl ∧ 0 ≤ pl ∧ pl ≤ 18446744073709551615 ∧ 0 ≤ ph := by omega
      have hn : n = nh * 18446744073709551616 + nl ∧ 0 ≤ nl ∧ nl ≤ 18446744073709551615 ∧ 0 ≤ nh := by omega
      have hzl : w.heap.size < wo.heap.size := blk_lt hz
      have k0 := (blk_cell hz 0).trans (show _ = some (Value.int IntKind.u64 ph) from rfl)
      have k1 := (blk_cell hz 1).trans (show _ = some (Value.int IntKind.u64 pl) from rfl)
      have k2 := (blk_cell hz 2).trans (show _ = some (Value.int IntKind.u64 nh) from rfl)
      have k3 := (blk_cell hz 3).trans (show _ = some (Value.int IntKind.u64 nl) from rfl)
      clear hph hpl hnh hnl HZ hz pb
      by_cases s : p < n
      · obtain ⟨D, hD⟩ : ∃ D, n - p = D := ⟨_, rfl⟩
        have hle : wide_Less.f ph pl nh nl = some true := by
          unfold wide_Less.f
          by_cases q : ph = nh
          · rw [if_pos q]
            congr 1
            exact decide_eq_true (by omega)
          · rw [if_neg q]
            congr 1
            exact decide_eq_true (by omega)
        have hDb : 0 ≤ D ∧ D ≤ 17592186044416 * 9223372036854775808 := by omega
        obtain ⟨dh, hdh⟩ : ∃ x, D / 18446744073709551616 = x := ⟨_, rfl⟩
        obtain ⟨dl_, hdl⟩ : ∃ x, D % 18446744073709551616 = x := ⟨_, rfl⟩
        have hd : D = dh * 18446744073709551616 + dl_ ∧ 0 ≤ dl_ ∧ dl_ ≤ 18446744073709551615 := by omega
        have hdiv : wide_Div.f dh dl_ l0.length = some (D / l0.length, D % l0.length, true) := by
          unfold wide_Div.f
          rw [if_pos ⟨by omega, by omega, by omega, by omega, by omega, by omega⟩, if_neg (by omega), hd.1]
        have hcut : fix_cut.f (D / l0.length) (D % l0.length) true = some r := by
          have h := HF.out
          unfold fix_Mean.fin at h
          rw [hpp, hnn, if_pos s, hD] at h
          exact h
        have wlo : IntKind.u64.wrap (nl - pl) = dl_ := by rw [IntKind.wrap_u64]; omega
        have HLE := Aside0.mk hle
        have HDIV := Aside0.mk hdiv
        have HCUT := Aside0.mk hcut
        clear hle hdiv hcut s hdh hdl hpp hnn
        by_cases bo : nl < pl
        · have dl : decide (nl < pl) = true := decide_eq_true bo
          have whi : IntKind.u64.wrap (IntKind.u64.wrap (nh - ph) - 1) = dh := by rw [IntKind.wrap_u64, IntKind.wrap_u64]; omega
          clear bo hp hn hd pn hD hDb
          go_wp2_with (fail)
          go_region
          all_goals
            go_wp2_with (first | (go_at_call 84; (with_reducible refine (wide_Less.calls ph pl nh nl true _ HLE.out).mono ?_); rintro e w' ⟨rfl, ⟨nd, rfl⟩⟩))
            go_quiet (fail)
            go_wp2_with (first | (go_at_call 85; (with_reducible refine (wide_Div.calls dh dl_ _ _ _ true _ HDIV.out).mono ?_); rintro e wd ⟨rfl, hbd⟩; have HBD := Aside0.mk hbd; clear hbd) | (go_at_call 80; (with_reducible refine (fix_cut.calls _ _ true r _ HCUT.out).mono ?_); rintro e we ⟨rfl, hbe⟩; have HBE := Aside0.mk hbe; clear hbe))
            go_ret
            exact ⟨fix_Mean.ret_ rfl, below_step (below_step (by repeat (first | exact HB.out | apply below_alloc | apply pw_below_drewN | apply below_drew | refine fix_Mean.bset2 ?_ _ _ _ (by omega))) HBD.out) HBE.out⟩
        · have dl : decide (nl < pl) = false := decide_eq_false bo
          have whi : IntKind.u64.wrap (nh - ph) = dh := by rw [IntKind.wrap_u64]; omega
          clear bo hp hn hd pn hD hDb
          go_wp2_with (fail)
          go_region
          all_goals
            go_wp2_with (first | (go_at_call 84; (with_reducible refine (wide_Less.calls ph pl nh nl true _ HLE.out).mono ?_); rintro e w' ⟨rfl, ⟨nd, rfl⟩⟩))
            go_quiet (fail)
            go_wp2_with (first | (go_at_call 85; (with_reducible refine (wide_Div.calls dh dl_ _ _ _ true _ HDIV.out).mono ?_); rintro e wd ⟨rfl, hbd⟩; have HBD := Aside0.mk hbd; clear hbd) | (go_at_call 80; (with_reducible refine (fix_cut.calls _ _ true r _ HCUT.out).mono ?_); rintro e we ⟨rfl, hbe⟩; have HBE := Aside0.mk hbe; clear hbe))
            go_ret
            exact ⟨fix_Mean.ret_ rfl, below_step (below_step (by repeat (first | exact HB.out | apply below_alloc | apply pw_below_drewN | apply below_drew | refine fix_Mean.bset2 ?_ _ _ _ (by omega))) HBD.out) HBE.out⟩
      · obtain ⟨D, hD⟩ : ∃ D, p - n = D := ⟨_, rfl⟩
        have hle : wide_Less.f ph pl nh nl = some false := by
          unfold wide_Less.f
          by_cases q : ph = nh
          · rw [if_pos q]
            congr 1
            exact decide_eq_false (by omega)
          · rw [if_neg q]
            congr 1
            exact decide_eq_false (by omega)
        have hDb : 0 ≤ D ∧ D ≤ 17592186044416 * 9223372036854775808 := by omega
        obtain ⟨dh, hdh⟩ : ∃ x, D / 18446744073709551616 = x := ⟨_, rfl⟩
        obtain ⟨dl_, hdl⟩ : ∃ x, D % 18446744073709551616 = x := ⟨_, rfl⟩
        have hd : D = dh * 18446744073709551616 + dl_ ∧ 0 ≤ dl_ ∧ dl_ ≤ 18446744073709551615 := by omega
        have hdiv : wide_Div.f dh dl_ l0.length = some (D / l0.length, D % l0.length, true) := by
          unfold wide_Div.f
          rw [if_pos ⟨by omega, by omega, by omega, by omega, by omega, by omega⟩, if_neg (by omega), hd.1]
        have hcut : fix_cut.f (D / l0.length) (D % l0.length) false = some r := by
          have h := HF.out
          unfold fix_Mean.fin at h
          rw [hpp, hnn, if_neg s, hD] at h
          exact h
        have wlo : IntKind.u64.wrap (pl - nl) = dl_ := by rw [IntKind.wrap_u64]; omega
        have HLE := Aside0.mk hle
        have HDIV := Aside0.mk hdiv
        have HCUT := Aside0.mk hcut
        clear hle hdiv hcut s hdh hdl hpp hnn
        by_cases bo : pl < nl
        · have dl : decide (pl < nl) = true := decide_eq_true bo
          have whi : IntKind.u64.wrap (IntKind.u64.wrap (ph - nh) - 1) = dh := by rw [IntKind.wrap_u64, IntKind.wrap_u64]; omega
          clear bo hp hn hd pn hD hDb
          go_wp2_with (fail)
          go_region
          all_goals
            go_wp2_with (first | (go_at_call 84; (with_reducible refine (wide_Less.calls ph pl nh nl false _ HLE.out).mono ?_); rintro e w' ⟨rfl, ⟨nd, rfl⟩⟩))
            go_quiet (fail)
            go_wp2_with (first | (go_at_call 85; (with_reducible refine (wide_Div.calls dh dl_ _ _ _ true _ HDIV.out).mono ?_); rintro e wd ⟨rfl, hbd⟩; have HBD := Aside0.mk hbd; clear hbd) | (go_at_call 80; (with_reducible refine (fix_cut.calls _ _ false r _ HCUT.out).mono ?_); rintro e we ⟨rfl, hbe⟩; have HBE := Aside0.mk hbe; clear hbe))
            go_ret
            exact ⟨fix_Mean.ret_ rfl, below_step (below_step (by repeat (first | exact HB.out | apply below_alloc | apply pw_below_drewN | apply below_drew | refine fix_Mean.bset2 ?_ _ _ _ (by omega))) HBD.out) HBE.out⟩
        · have dl : decide (pl < nl) = false := decide_eq_false bo
          have whi : IntKind.u64.wrap (ph - nh) = dh := by rw [IntKind.wrap_u64]; omega
          clear bo hp hn hd pn hD hDb
          go_wp2_with (fail)
          go_region
          all_goals
            go_wp2_with (first | (go_at_call 84; (with_reducible refine (wide_Less.calls ph pl nh nl false _ HLE.out).mono ?_); rintro e w' ⟨rfl, ⟨nd, rfl⟩⟩))
            go_quiet (fail)
            go_wp2_with (first | (go_at_call 85; (with_reducible refine (wide_Div.calls dh dl_ _ _ _ true _ HDIV.out).mono ?_); rintro e wd ⟨rfl, hbd⟩; have HBD := Aside0.mk hbd; clear hbd) | (go_at_call 80; (with_reducible refine (fix_cut.calls _ _ false r _ HCUT.out).mono ?_); rintro e we ⟨rfl, hbe⟩; have HBE := Aside0.mk hbe; clear hbe))
            go_ret
            exact ⟨fix_Mean.ret_ rfl, below_step (below_step (by repeat (first | exact HB.out | apply below_alloc | apply pw_below_drewN | apply below_drew | refine fix_Mean.bset2 ?_ _ _ _ (by omega))) HBD.out) HBE.out⟩

theorem fix_Mean.calls (A0 : Option Addr) (c0 : Nat) (l0 : List Int) (r : Int) (w : World) (hr0 : Kd.C (Kd.int .i64) w A0 l0.length l0) (hc0 : l0.length ≤ c0) (h : fix_Mean.f l0 = some r) :
    Calls Try.prog 74 #[.slice A0 l0.length c0] w fun e w' => e = .returned (.int .i64 r) ∧ Below w.heap.size w w' := by
  unfold fix_Mean.f at h
  by_cases c : l0.length = 0
  · rw [if_pos c] at h
    obtain rfl := Option.some.inj h
    rw [c]
    exact fix_Mean.none_ A0 c0 w
  · rw [if_neg c] at h
    by_cases d : l0.all fix_Mean.In = true ∧ l0.length ≤ 17592186044416
    · rw [if_pos d] at h
      exact fix_Mean.some_ A0 c0 l0 r w hr0 hc0 c d.1 d.2 h
    · rw [if_neg d] at h
      cases h

-- NOT PRINTED: function 72 (cluster_Node_72)

-- NOT PRINTED: function 61 (cluster_Node_61)

end Go.Proofs.Ytoddgpaopejeoaa.MClu
