/- The statement over numbers and lists that is left of the law HeaderApart; no condition but the kinds of its arguments. -/
import Derived.Test.YtilbkdlbbnkgdaaBHdrZ
import Derived.Test.YtilbkdlbbnkgdaaMHdrZx6
namespace Go.Proofs.Ytilbkdlbbnkgdaa.Pure
open Go.RowKit Go.Proofs.Ytilbkdlbbnkgdaa.MHdrZ Go.Proofs.YtilbkdlbbnkgdaaW.PrintWords Go.Proofs.YtilbkdlbbnkgdaaW.PrintLast Go.Proofs.YtilbkdlbbnkgdaaW.PrintMore
set_option linter.unusedVariables false
set_option linter.unusedSimpArgs false

theorem xor_u8 (a b : Nat) (ha : a < 256) (hb : b < 256) : Go.bits .xor .u8 (a : Int) (b : Int) = ((a ^^^ b : Nat) : Int) := by
  have hx : a ^^^ b < 2 ^ 8 := Nat.xor_lt_two_pow (by omega) (by omega)
  have h1 : (BitVec.ofInt 8 (a : Int)).toNat = a := by
    rw [BitVec.ofInt_natCast, BitVec.toNat_ofNat]; exact Nat.mod_eq_of_lt (by omega)
  have h2 : (BitVec.ofInt 8 (b : Int)).toNat = b := by
    rw [BitVec.ofInt_natCast, BitVec.toNat_ofNat]; exact Nat.mod_eq_of_lt (by omega)
  show IntKind.u8.wrap ((BitVec.ofInt 8 (a : Int) ^^^ BitVec.ofInt 8 (b : Int)).toNat : Int) = _
  rw [BitVec.toNat_xor, h1, h2, IntKind.wrap_u8]
  omega

theorem xor_byte (a b : Int) (h0 : 0 ≤ a) (h1 : a ≤ 255) (h2 : 0 ≤ b) (h3 : b ≤ 255) (hb : b ≠ 0) : Go.bits .xor .u8 a b ≠ a ∧ 0 ≤ Go.bits .xor .u8 a b ∧ Go.bits .xor .u8 a b ≤ 255 := by
  obtain ⟨x, rfl⟩ : ∃ x : Nat, a = x := ⟨a.toNat, by omega⟩
  obtain ⟨y, rfl⟩ : ∃ y : Nat, b = y := ⟨b.toNat, by omega⟩
  have hx : x ^^^ y < 2 ^ 8 := Nat.xor_lt_two_pow (by omega) (by omega)
  rw [xor_u8 x y (by omega) (by omega)]
  refine ⟨fun e => hb ?_, by omega, by omega⟩
  have e1 : x ^^^ y = x := by omega
  have e2 : x ^^^ (x ^^^ y) = x ^^^ x := by rw [e1]
  rw [← Nat.xor_assoc, Nat.xor_self, Nat.zero_xor] at e2
  omega

theorem turned (s : ByteArray) (i : Nat) (y : Int) (hz : s.size = 48) (hi : i < 48) (h0 : 0 ≤ y) (h1 : y ≤ 255) :
    bytesOf ((s.extract 0 i ++ strOfNums [y]) ++ s.extract (i + 1) s.size) = (bytesOf s).set i y := by
  have hl : (bytesOf s).length = 48 := by rw [bytesOf_length]; exact hz
  rw [bytesOf_app, bytesOf_app, bytesOf_nums [y] (By.cons h0 h1 By.nil), bytesOf_extract, bytesOf_extract, List.set_eq_take_append_cons_drop, if_pos (by omega), List.drop_zero, hz, show (bytesOf s).take 48 = bytesOf s from List.take_of_length_le (by omega)]
  simp

theorem rd_set_self (l : List Int) (i : Nat) (y : Int) (h : i < l.length) : rd (l.set i y) (i : Int) = y := by
  unfold rd
  rw [Int.toNat_natCast, List.getD_eq_getElem?_getD, List.getElem?_set_self h]
  rfl

theorem rd_set_ne (l : List Int) (i j : Nat) (y : Int) (h : j ≠ i) : rd (l.set i y) (j : Int) = rd l (j : Int) := by
  unfold rd
  rw [Int.toNat_natCast, List.getD_eq_getElem?_getD, List.getD_eq_getElem?_getD, List.getElem?_set_ne (Ne.symm h)]

theorem hb_inj (a0 a1 a2 a3 a4 a5 a6 a7 a8 a9 a10 a11 a12 b0 b1 b2 b3 b4 b5 b6 b7 b8 b9 b10 b11 b12 : Int) (hr : Rg a0 a1 a2 a3 a4 a5) (hq : Rg b0 b1 b2 b3 b4 b5) (ha6 : 0 ≤ a6 ∧ a6 ≤ 4294967295) (ha7 : 0 ≤ a7 ∧ a7 ≤ 4294967295) (ha8 : 0 ≤ a8 ∧ a8 ≤ 4294967295) (ha9 : 0 ≤ a9 ∧ a9 ≤ 18446744073709551615) (ha10 : 0 ≤ a10 ∧ a10 ≤ 18446744073709551615) (ha11 : 0 ≤ a11 ∧ a11 ≤ 18446744073709551615) (ha12 : 0 ≤ a12 ∧ a12 ≤ 18446744073709551615) (hb6 : 0 ≤ b6 ∧ b6 ≤ 4294967295) (hb7 : 0 ≤ b7 ∧ b7 ≤ 4294967295) (hb8 : 0 ≤ b8 ∧ b8 ≤ 4294967295) (hb9 : 0 ≤ b9 ∧ b9 ≤ 18446744073709551615) (hb10 : 0 ≤ b10 ∧ b10 ≤ 18446744073709551615) (hb11 : 0 ≤ b11 ∧ b11 ≤ 18446744073709551615) (hb12 : 0 ≤ b12 ∧ b12 ≤ 18446744073709551615) (h : hb a0 a1 a2 a3 a4 a5 a6 a7 a8 a9 a10 a11 a12 = hb b0 b1 b2 b3 b4 b5 b6 b7 b8 b9 b10 b11 b12) : a0 = b0 ∧ a1 = b1 ∧ a2 = b2 ∧ a3 = b3 ∧ a4 = b4 ∧ a5 = b5 ∧ a6 = b6 ∧ a7 = b7 ∧ a8 = b8 ∧ a9 = b9 ∧ a10 = b10 ∧ a11 = b11 ∧ a12 = b12 := by
  have e1 := dec_hb (strOfNums (hb a0 a1 a2 a3 a4 a5 a6 a7 a8 a9 a10 a11 a12)) [] a0 a1 a2 a3 a4 a5 a6 a7 a8 a9 a10 a11 a12 hr ha6 ha7 ha8 ha9 ha10 ha11 ha12 (by rw [strOfNums_size, hb_length]; omega) (by rw [bytesOf_nums _ (by_hb _ _ _ _ _ _ _ _ _ _ _ _ _ hr), List.append_nil])
  have e2 := dec_hb (strOfNums (hb b0 b1 b2 b3 b4 b5 b6 b7 b8 b9 b10 b11 b12)) [] b0 b1 b2 b3 b4 b5 b6 b7 b8 b9 b10 b11 b12 hq hb6 hb7 hb8 hb9 hb10 hb11 hb12 (by rw [strOfNums_size, hb_length]; omega) (by rw [bytesOf_nums _ (by_hb _ _ _ _ _ _ _ _ _ _ _ _ _ hq), List.append_nil])
  rw [h, e2] at e1
  injection e1 with e1
  injection e1 with q0 e1
  injection e1 with q1 e1
  injection e1 with q2 e1
  injection e1 with q3 e1
  injection e1 with q4 e1
  injection e1 with q5 e1
  injection e1 with q6 e1
  injection e1 with q7 e1
  injection e1 with q8 e1
  injection e1 with q9 e1
  injection e1 with q10 e1
  injection e1 with q11 e1
  injection e1 with q12 e1
  exact ⟨q0.symm, q1.symm, q2.symm, q3.symm, q4.symm, q5.symm, q6.symm, q7.symm, q8.symm, q9.symm, q10.symm, q11.symm, q12.symm⟩

theorem same_iff (a0 a1 a2 a3 a4 a5 a6 a7 a8 a9 a10 a11 a12 b0 b1 b2 b3 b4 b5 b6 b7 b8 b9 b10 b11 b12 : Int) (hr : Rg a0 a1 a2 a3 a4 a5) (hq : Rg b0 b1 b2 b3 b4 b5) (ha6 : 0 ≤ a6 ∧ a6 ≤ 4294967295) (ha7 : 0 ≤ a7 ∧ a7 ≤ 4294967295) (ha8 : 0 ≤ a8 ∧ a8 ≤ 4294967295) (ha9 : 0 ≤ a9 ∧ a9 ≤ 18446744073709551615) (ha10 : 0 ≤ a10 ∧ a10 ≤ 18446744073709551615) (ha11 : 0 ≤ a11 ∧ a11 ≤ 18446744073709551615) (ha12 : 0 ≤ a12 ∧ a12 ≤ 18446744073709551615) (hb6 : 0 ≤ b6 ∧ b6 ≤ 4294967295) (hb7 : 0 ≤ b7 ∧ b7 ≤ 4294967295) (hb8 : 0 ≤ b8 ∧ b8 ≤ 4294967295) (hb9 : 0 ≤ b9 ∧ b9 ≤ 18446744073709551615) (hb10 : 0 ≤ b10 ∧ b10 ≤ 18446744073709551615) (hb11 : 0 ≤ b11 ∧ b11 ≤ 18446744073709551615) (hb12 : 0 ≤ b12 ∧ b12 ≤ 18446744073709551615) : ((strOfNums (hb a0 a1 a2 a3 a4 a5 a6 a7 a8 a9 a10 a11 a12)).toList == (strOfNums (hb b0 b1 b2 b3 b4 b5 b6 b7 b8 b9 b10 b11 b12)).toList) = (a0 == b0 && (a1 == b1 && (a2 == b2 && (a3 == b3 && (a4 == b4 && (a5 == b5 && (a6 == b6 && (a7 == b7 && (a8 == b8 && (a9 == b9 && (a10 == b10 && (a11 == b11 && (a12 == b12))))))))))))) := by
  rw [Bool.eq_iff_iff]
  simp only [Bool.and_eq_true, beq_iff_eq]
  constructor
  · intro h
    exact hb_inj _ _ _ _ _ _ _ _ _ _ _ _ _ _ _ _ _ _ _ _ _ _ _ _ _ _ hr hq ha6 ha7 ha8 ha9 ha10 ha11 ha12 hb6 hb7 hb8 hb9 hb10 hb11 hb12 (nums_inj _ _ (by_hb _ _ _ _ _ _ _ _ _ _ _ _ _ hr) (by_hb _ _ _ _ _ _ _ _ _ _ _ _ _ hq) (toList_inj _ _ h))
  · rintro ⟨rfl, rfl, rfl, rfl, rfl, rfl, rfl, rfl, rfl, rfl, rfl, rfl, rfl⟩
    rfl

set_option maxHeartbeats 4000000 in
theorem apart_j1 (k : Nat) (x2 x3 a0 a1 a2 a3 a4 a5 a6 a7 a8 a9 a10 a11 a12 : Int) (hr : Rg a0 a1 a2 a3 a4 a5) (ha6 : 0 ≤ a6 ∧ a6 ≤ 4294967295) (ha7 : 0 ≤ a7 ∧ a7 ≤ 4294967295) (ha8 : 0 ≤ a8 ∧ a8 ≤ 4294967295) (ha9 : 0 ≤ a9 ∧ a9 ≤ 18446744073709551615) (ha10 : 0 ≤ a10 ∧ a10 ≤ 18446744073709551615) (ha11 : 0 ≤ a11 ∧ a11 ≤ 18446744073709551615) (ha12 : 0 ≤ a12 ∧ a12 ≤ 18446744073709551615) (hx : 0 ≤ x2 ∧ x2 ≤ 255) (hy : 0 ≤ x3 ∧ x3 ≤ 255) (hy0 : x3 ≠ 0) :
    analemmalaw05_HeaderApart.j1 (k + 1) x2 x3 (strOfNums (hb a0 a1 a2 a3 a4 a5 a6 a7 a8 a9 a10 a11 a12)) 0 false a0 a1 a2 a3 a4 a5 a6 a7 a8 a9 a10 a11 a12 = some true := by
  obtain ⟨t, ht⟩ : ∃ t, strOfNums (hb a0 a1 a2 a3 a4 a5 a6 a7 a8 a9 a10 a11 a12) = t := ⟨_, rfl⟩
  have hbt : bytesOf t = hb a0 a1 a2 a3 a4 a5 a6 a7 a8 a9 a10 a11 a12 := by rw [← ht, bytesOf_nums _ (by_hb _ _ _ _ _ _ _ _ _ _ _ _ _ hr)]
  have hz : t.size = 48 := by rw [← bytesOf_length, hbt]; rfl
  rw [ht]
  obtain ⟨i, hi⟩ : ∃ i : Nat, Int.tmod (wrap64 x2) 48 = (i : Int) ∧ i < 48 := by
    have e : wrap64 x2 = x2 := by unfold wrap64; omega
    refine ⟨(x2 % 48).toNat, ?_, by omega⟩
    rw [e, Int.tmod_eq_emod_of_nonneg hx.1]
    omega
  have c1 : (0 : Int) ≤ (i : Int) := by omega
  have c2 : (i : Int) ≤ (t.size : Int) := by omega
  have c3 : (i : Int) < (t.size : Int) := by omega
  have c4 : (0 : Int) ≤ ((i + 1 : Nat) : Int) := by omega
  have c5 : ((i + 1 : Nat) : Int) ≤ (t.size : Int) := by omega
  have c6 : ∀ y : Int, (t.extract 0 i).size + (strOfNums [y]).size ≤ 9223372036854775807 := fun y => by
    rw [ByteArray.size_extract, strOfNums_size]
    show _ + 1 ≤ _
    omega
  have c7 : ∀ y : Int, (t.extract 0 i ++ strOfNums [y]).size + (t.extract (i + 1) t.size).size ≤ 9223372036854775807 := fun y => by
    rw [ByteArray.size_append, ByteArray.size_extract, ByteArray.size_extract, strOfNums_size]
    show _ + 1 + _ ≤ _
    omega
  have ew : wrap64 ((i : Int) + 1) = ((i + 1 : Nat) : Int) := by unfold wrap64; omega
  have b := bt_range t (i : Int)
  obtain ⟨y, hyv⟩ : ∃ y, Go.bits .xor .u8 (bt t (i : Int)) x3 = y := ⟨_, rfl⟩
  have xb := xor_byte (bt t (i : Int)) x3 b.1 b.2 hy.1 hy.2 hy0
  rw [hyv] at xb
  have hT := turned t i y hz hi.2 xb.2.1 xb.2.2
  obtain ⟨u, hu⟩ : ∃ u, (t.extract 0 i ++ strOfNums [y]) ++ t.extract (i + 1) t.size = u := ⟨_, rfl⟩
  rw [hu] at hT
  have huz : u.size = 48 := by rw [← bytesOf_length, hT, List.length_set, bytesOf_length]; exact hz
  have hlen : i < (bytesOf t).length := by
    rw [bytesOf_length, hz]
    exact hi.2
  have q : rd (bytesOf u) (i : Int) = y := by
    rw [hT]
    exact rd_set_self _ _ _ hlen
  have hne : bytesOf u ≠ bytesOf t := by
    intro e
    rw [e, rd_bytesOf] at q
    exact xb.1 q.symm
  simp only [analemmalaw05_HeaderApart.j1]
  rw [if_neg (by decide), hi.1, if_pos c1, if_pos c2, if_pos c3, hyv]
  simp only [Option.bind_some]
  rw [ew, Int.toNat_natCast, Int.toNat_natCast, if_pos (c6 y), if_pos c4, if_pos c5, if_pos (c7 y), hu]
  have hus : u.size ≤ 140737488355328 := by rw [huz]; decide
  have hu48 : 48 ≤ u.size := by rw [huz]; decide
  have u48 : (bytesOf u).length ≤ 48 := by rw [bytesOf_length, huz]; exact Nat.le_refl _
  clear q xb hyv b c1 c2 c3 c4 c5 c6 c7 ew
  by_cases hv : 1 ≤ bt u 0 / 8 % 8 ∧ bt u 0 / 8 % 8 ≤ 4
  · rw [dec_good u hu48 hus hv]
    simp only [Option.bind_some]
    rw [if_neg (by decide), if_pos trivial]
    have hU := bytes_hb u hu48
    rw [List.drop_of_length_le u48, List.append_nil] at hU
    have hn : ¬ (bt u 0 / 64 = a0 ∧ bt u 0 / 8 % 8 = a1 ∧ bt u 0 % 8 = a2 ∧ bt u 1 = a3 ∧ header_Decode.sgn (bt u 2) = a4 ∧ header_Decode.sgn (bt u 3) = a5 ∧ header_get.num u 4 4 = a6 ∧ header_get.num u 8 4 = a7 ∧ header_get.num u 12 4 = a8 ∧ header_get.num u 16 8 = a9 ∧ header_get.num u 24 8 = a10 ∧ header_get.num u 32 8 = a11 ∧ header_get.num u 40 8 = a12) := by
      rintro ⟨e0, e1, e2, e3, e4, e5, e6, e7, e8, e9, e10, e11, e12⟩
      rw [e0, e1, e2, e3, e4, e5, e6, e7, e8, e9, e10, e11, e12] at hU
      exact hne (hU.trans hbt.symm)
    congr 1
    refine Decidable.byContradiction fun hf => hn ?_
    simp only [Bool.or_eq_true, Bool.not_eq_true', not_or, beq_eq_false_iff_ne, Decidable.not_not] at hf
    exact hf
  · rw [dec_bad u hu48 hus hv]
    simp only [Option.bind_some]
    rw [if_pos trivial]
    by_cases i0 : i = 0
    · rw [if_pos (by omega)]
    · exfalso
      apply hv
      have e : bt u 0 = bt t 0 := by
        rw [← rd_bytesOf, ← rd_bytesOf, hT]
        exact rd_set_ne (bytesOf t) i 0 y (Ne.symm i0)
      have b0 : bt t 0 = 64 * a0 + 8 * a1 + a2 := by rw [← rd_bytesOf, hbt]; rfl
      unfold Rg at hr
      rw [e, b0]
      omega

theorem HeaderApart (a0 a1 a2 a3 a4 a5 a6 a7 a8 a9 a10 a11 a12 b0 b1 b2 b3 b4 b5 b6 b7 b8 b9 b10 b11 b12 at_ by_ : Int) (w0 : (Lit.int .i64 a0).wf = true) (w1 : (Lit.int .i64 a1).wf = true) (w2 : (Lit.int .i64 a2).wf = true) (w3 : (Lit.int .i64 a3).wf = true) (w4 : (Lit.int .i64 a4).wf = true) (w5 : (Lit.int .i64 a5).wf = true) (w6 : (Lit.int .u32 a6).wf = true) (w7 : (Lit.int .u32 a7).wf = true) (w8 : (Lit.int .u32 a8).wf = true) (w9 : (Lit.int .u64 a9).wf = true) (w10 : (Lit.int .u64 a10).wf = true) (w11 : (Lit.int .u64 a11).wf = true) (w12 : (Lit.int .u64 a12).wf = true) (v0 : (Lit.int .i64 b0).wf = true) (v1 : (Lit.int .i64 b1).wf = true) (v2 : (Lit.int .i64 b2).wf = true) (v3 : (Lit.int .i64 b3).wf = true) (v4 : (Lit.int .i64 b4).wf = true) (v5 : (Lit.int .i64 b5).wf = true) (v6 : (Lit.int .u32 b6).wf = true) (v7 : (Lit.int .u32 b7).wf = true) (v8 : (Lit.int .u32 b8).wf = true) (v9 : (Lit.int .u64 b9).wf = true) (v10 : (Lit.int .u64 b10).wf = true) (v11 : (Lit.int .u64 b11).wf = true) (v12 : (Lit.int .u64 b12).wf = true) (wi : (Lit.int .u8 at_).wf = true) (wj : (Lit.int .u8 by_).wf = true) :
    ∃ k, analemmalaw05_HeaderApart.f k a0 a1 a2 a3 a4 a5 a6 a7 a8 a9 a10 a11 a12 b0 b1 b2 b3 b4 b5 b6 b7 b8 b9 b10 b11 b12 at_ by_ = some true := by
  have ha6 := bounds_u32 w6
  have hb6 := bounds_u32 v6
  have ha7 := bounds_u32 w7
  have hb7 := bounds_u32 v7
  have ha8 := bounds_u32 w8
  have hb8 := bounds_u32 v8
  have ha9 := bounds_u64 w9
  have hb9 := bounds_u64 v9
  have ha10 := bounds_u64 w10
  have hb10 := bounds_u64 v10
  have ha11 := bounds_u64 w11
  have hb11 := bounds_u64 v11
  have ha12 := bounds_u64 w12
  have hb12 := bounds_u64 v12
  have hi := bounds_u8 wi
  have hj := bounds_u8 wj
  refine ⟨60, ?_⟩
  have key : ∀ (k : Nat), 30 ≤ k → (∀ e, (e = 0 → Rg a0 a1 a2 a3 a4 a5) → (e = 1 → ¬ Rg a0 a1 a2 a3 a4 a5) → e = 0 ∨ e = 1 → analemmalaw05_HeaderApart.j0 k at_ by_ (if e = 0 then strOfNums (hb a0 a1 a2 a3 a4 a5 a6 a7 a8 a9 a10 a11 a12) else (⟨#[]⟩ : ByteArray)) e false a0 a1 a2 a3 a4 a5 a6 a7 a8 a9 a10 a11 a12 = some true) := by
    intro k hk e e0 e1 ee
    obtain ⟨k, rfl⟩ : ∃ q, k = q + 2 := ⟨k - 2, by omega⟩
    have tail (x9 : ByteArray) : analemmalaw05_HeaderApart.j1 (k + 1) at_ by_ x9 e true a0 a1 a2 a3 a4 a5 a6 a7 a8 a9 a10 a11 a12 = some true := by
      simp only [analemmalaw05_HeaderApart.j1]
      rw [if_pos trivial, refmay]
      simp only [Option.bind_some]
      rcases ee with rfl | rfl
      · rw [(may_iff a0 a1 a2 a3 a4 a5).2 (e0 rfl)]
        rfl
      · have hm : header_May.ok a0 a1 a2 a3 a4 a5 = false := by
          cases c : header_May.ok a0 a1 a2 a3 a4 a5
          · rfl
          · exact absurd ((may_iff a0 a1 a2 a3 a4 a5).1 c) (e1 rfl)
        rw [hm]
        rfl
    simp only [analemmalaw05_HeaderApart.j0]
    rw [if_neg (by decide)]
    by_cases ez : e = 0
    · rw [if_pos ez]
      by_cases hy : by_ = 0
      · rw [if_pos hy]
        exact tail _
      · rw [if_neg hy, if_pos ez]
        subst ez
        have hz : ((strOfNums (hb a0 a1 a2 a3 a4 a5 a6 a7 a8 a9 a10 a11 a12)).size : Int) = 48 := by rw [strOfNums_size, hb_length]; rfl
        rw [hz]
        exact apart_j1 k at_ by_ a0 a1 a2 a3 a4 a5 a6 a7 a8 a9 a10 a11 a12 (e0 rfl) ha6 ha7 ha8 ha9 ha10 ha11 ha12 hi hj hy
    · rw [if_neg ez]
      exact tail _
  unfold analemmalaw05_HeaderApart.f
  have sh : analemmalaw05_shown.f 60 = some true := hdr_shown 60 (by omega)
  by_cases hA : Rg a0 a1 a2 a3 a4 a5
  · have kA := key 60 (by omega) 0 (fun _ => hA) (fun h => by cases h) (Or.inl rfl)
    rw [if_pos rfl] at kA
    rw [enc_ok 60 a0 a1 a2 a3 a4 a5 a6 a7 a8 a9 a10 a11 a12 hA ha6 ha7 ha8 (by omega)]
    by_cases hB : Rg b0 b1 b2 b3 b4 b5
    · rw [enc_ok 60 b0 b1 b2 b3 b4 b5 b6 b7 b8 b9 b10 b11 b12 hB hb6 hb7 hb8 (by omega)]
      simp only [Option.bind_some]
      rw [if_pos trivial, if_pos trivial, same_iff a0 a1 a2 a3 a4 a5 a6 a7 a8 a9 a10 a11 a12 b0 b1 b2 b3 b4 b5 b6 b7 b8 b9 b10 b11 b12 hA hB ha6 ha7 ha8 ha9 ha10 ha11 ha12 hb6 hb7 hb8 hb9 hb10 hb11 hb12, bne_self_eq_false, if_neg (by decide), sh]
      exact kA
    · rw [enc_no 60 b0 b1 b2 b3 b4 b5 b6 b7 b8 b9 b10 b11 b12 hB]
      simp only [Option.bind_some]
      rw [if_pos trivial, if_neg (by decide), sh]
      exact kA
  · have kA := key 60 (by omega) 1 (fun h => by cases h) (fun _ => hA) (Or.inr rfl)
    rw [if_neg (by decide)] at kA
    rw [enc_no 60 a0 a1 a2 a3 a4 a5 a6 a7 a8 a9 a10 a11 a12 hA]
    by_cases hB : Rg b0 b1 b2 b3 b4 b5
    · rw [enc_ok 60 b0 b1 b2 b3 b4 b5 b6 b7 b8 b9 b10 b11 b12 hB hb6 hb7 hb8 (by omega)]
      simp only [Option.bind_some]
      rw [if_neg (by decide), sh]
      exact kA
    · rw [enc_no 60 b0 b1 b2 b3 b4 b5 b6 b7 b8 b9 b10 b11 b12 hB]
      simp only [Option.bind_some]
      rw [if_neg (by decide), sh]
      exact kA


end Go.Proofs.Ytilbkdlbbnkgdaa.Pure
