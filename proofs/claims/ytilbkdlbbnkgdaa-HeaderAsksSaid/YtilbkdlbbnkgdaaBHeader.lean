/- Plain laws of the functions that several statements of this seat reach; each says its own conditions. -/
import Derived.Test.YtilbkdlbbnkgdaaMHeaderx0
import Derived.Test.YtilbkdlbbnkgdaaMHeaderx2
import Derived.Test.YtilbkdlbbnkgdaaMHeaderx3
import Derived.Test.YtilbkdlbbnkgdaaMHeaderx4
import Derived.Test.YtilbkdlbbnkgdaaMHeaderx5
import Derived.Test.YtilbkdlbbnkgdaaMHeaderx6
import Derived.Test.YtilbkdlbbnkgdaaMHeaderx7
import Derived.Test.YtilbkdlbbnkgdaaMHeaderx8
import Derived.OpenShut
import Derived.Laws.Bits64
import Derived.Laws.BitsLemmas
import Derived.Lib.LazyBuf
namespace Go.Proofs.Ytilbkdlbbnkgdaa.Pure
open Go.RowKit Go.Proofs.Ytilbkdlbbnkgdaa.MHeader Go.Proofs.YtilbkdlbbnkgdaaW.PrintWords Go.Proofs.YtilbkdlbbnkgdaaW.PrintLast Go.Proofs.YtilbkdlbbnkgdaaW.PrintMore
set_option linter.unusedVariables false
set_option linter.unusedSimpArgs false

-- import Derived.Lib.LazyBuf
/-- Every one a byte. -/
def By (l : List Int) : Prop := ∀ x ∈ l, 0 ≤ x ∧ x ≤ 255

theorem By.app {a b : List Int} (h : By a) (k : By b) : By (a ++ b) := fun x hx => (List.mem_append.1 hx).elim (h x) (k x)

theorem By.nil : By [] := fun _ hx => by cases hx

theorem By.cons {x : Int} {l : List Int} (h0 : 0 ≤ x) (h1 : x ≤ 255) (h : By l) : By (x :: l) := fun y hy => by
  rcases List.mem_cons.1 hy with e | e
  · rw [e]
    exact ⟨h0, h1⟩
  · exact h y e

theorem by_bytesOf (s : ByteArray) : By (bytesOf s) := fun x hx => by
  unfold bytesOf at hx
  obtain ⟨b, _, rfl⟩ := List.mem_map.1 hx
  have := b.toNat_lt
  omega

theorem bytesOf_nums (l : List Int) (h : By l) : bytesOf (strOfNums l) = l := by
  show ((l.map fun n => UInt8.ofNat n.toNat).toArray.toList).map _ = l
  rw [List.toList_toArray, List.map_map]
  have : ∀ x ∈ l, ((fun b : UInt8 => (b.toNat : Int)) ∘ fun n : Int => UInt8.ofNat n.toNat) x = x := fun x hx => by
    have hb := h x hx
    show ((UInt8.ofNat x.toNat).toNat : Int) = x
    rw [UInt8.toNat_ofNat']
    omega
  exact (List.map_congr_left this).trans (List.map_id _)

theorem nums_bytesOf (s : ByteArray) : strOfNums (bytesOf s) = s := by
  unfold bytesOf
  rw [Lib.Lz.strOfNums_map]

theorem nums_inj (a b : List Int) (ha : By a) (hb : By b) (h : strOfNums a = strOfNums b) : a = b := by
  have := congrArg bytesOf h
  rwa [bytesOf_nums a ha, bytesOf_nums b hb] at this

theorem nums_app (a b : List Int) : strOfNums a ++ strOfNums b = strOfNums (a ++ b) := by
  apply ByteArray.ext
  rw [ByteArray.data_append]
  unfold strOfNums
  simp

theorem toList_inj (s t : ByteArray) (h : s.toList = t.toList) : s = t := by
  rw [ByteArray.toList_eq, ByteArray.toList_eq] at h
  exact ByteArray.ext (Array.toList_inj.1 h)

theorem bytesOf_app (s t : ByteArray) : bytesOf (s ++ t) = bytesOf s ++ bytesOf t := by
  unfold bytesOf
  rw [ByteArray.data_append, Array.toList_append, List.map_append]

theorem bytesOf_inj (s t : ByteArray) (h : bytesOf s = bytesOf t) : s = t := by
  rw [← nums_bytesOf s, ← nums_bytesOf t, h]

theorem bytesOf_extract (s : ByteArray) (a b : Nat) : bytesOf (s.extract a b) = ((bytesOf s).take b).drop a := by
  unfold bytesOf
  rw [ByteArray.data_extract, Array.toList_extract, List.extract_eq_take_drop, ← List.map_take, ← List.map_drop, List.drop_take]

def be4 (n : Int) : List Int := [n / 16777216 % 256, n / 65536 % 256, n / 256 % 256, n % 256]
def be8 (n : Int) : List Int := [n / 72057594037927936 % 256, n / 281474976710656 % 256, n / 1099511627776 % 256, n / 4294967296 % 256, n / 16777216 % 256, n / 65536 % 256, n / 256 % 256, n % 256]

theorem by_mod (x : Int) {l : List Int} (h : By l) : By (x % 256 :: l) := By.cons (by omega) (by omega) h
theorem by_be4 (n : Int) : By (be4 n) := by_mod _ (by_mod _ (by_mod _ (by_mod _ By.nil)))
theorem by_be8 (n : Int) : By (be8 n) := by_mod _ (by_mod _ (by_mod _ (by_mod _ (by_mod _ (by_mod _ (by_mod _ (by_mod _ By.nil)))))))

theorem put4_step (k : Nat) (l : List Int) (n i : Int) (hl : l.length ≤ 10000) (h0 : 0 ≤ n) (h1 : n ≤ 4294967295) (i0 : 0 ≤ i) (i1 : i ≤ 7) :
    header_put_uint32.l0 (k + 1) l n i = header_put_uint32.l0 k (l ++ [n / 2 ^ (8 * i).toNat % 256]) n (i - 1) := by
  have e1 : wrap64 (8 * i) = 8 * i := by unfold wrap64; omega
  have e2 : wrap64 (i - 1) = i - 1 := by unfold wrap64; omega
  have e3 : IntKind.u64.wrap n = n := by rw [IntKind.wrap_u64]; omega
  have e4 : min (8 * i).toNat (IntKind.bits .u64) = (8 * i).toNat := by simp [IntKind.bits]; omega
  simp only [header_put_uint32.l0]
  rw [if_pos i0, e1, if_pos (by omega), if_pos (by omega), e2, e3]
  unfold shr
  rw [e4]

theorem put8_step (k : Nat) (l : List Int) (n i : Int) (hl : l.length ≤ 10000) (i0 : 0 ≤ i) (i1 : i ≤ 7) :
    header_put_uint64.l0 (k + 1) l n i = header_put_uint64.l0 k (l ++ [n / 2 ^ (8 * i).toNat % 256]) n (i - 1) := by
  have e1 : wrap64 (8 * i) = 8 * i := by unfold wrap64; omega
  have e2 : wrap64 (i - 1) = i - 1 := by unfold wrap64; omega
  have e4 : min (8 * i).toNat (IntKind.bits .u64) = (8 * i).toNat := by simp [IntKind.bits]; omega
  simp only [header_put_uint64.l0]
  rw [if_pos i0, e1, if_pos (by omega), if_pos (by omega), e2]
  unfold shr
  rw [e4]

theorem put4 (k : Nat) (l : List Int) (n : Int) (hl : l.length ≤ 1000) (h0 : 0 ≤ n) (h1 : n ≤ 4294967295) (hk : 5 ≤ k) : header_put_uint32.f k l n 4 = some (l ++ be4 n) := by
  obtain ⟨k, rfl⟩ : ∃ q, k = q + 5 := ⟨k - 5, by omega⟩
  unfold header_put_uint32.f
  rw [show wrap64 (4 - 1) = 3 from by unfold wrap64; omega,
    put4_step _ _ _ _ (by omega) h0 h1 (by omega) (by omega), put4_step _ _ _ _ (by rw [List.length_append]; show _ + 1 ≤ _; omega) h0 h1 (by omega) (by omega),
    put4_step _ _ _ _ (by rw [List.length_append, List.length_append]; show _ + 1 + 1 ≤ _; omega) h0 h1 (by omega) (by omega),
    put4_step _ _ _ _ (by rw [List.length_append, List.length_append, List.length_append]; show _ + 1 + 1 + 1 ≤ _; omega) h0 h1 (by omega) (by omega)]
  simp only [header_put_uint32.l0]
  rw [if_neg (by omega)]
  unfold be4
  simp [List.append_assoc]

theorem put8 (k : Nat) (l : List Int) (n : Int) (hl : l.length ≤ 1000) (hk : 9 ≤ k) : header_put_uint64.f k l n 8 = some (l ++ be8 n) := by
  obtain ⟨k, rfl⟩ : ∃ q, k = q + 9 := ⟨k - 9, by omega⟩
  unfold header_put_uint64.f
  rw [show wrap64 (8 - 1) = 7 from by unfold wrap64; omega,
    put8_step _ _ _ _ (by omega) (by omega) (by omega), put8_step _ _ _ _ (by simp; omega) (by omega) (by omega),
    put8_step _ _ _ _ (by simp; omega) (by omega) (by omega), put8_step _ _ _ _ (by simp; omega) (by omega) (by omega),
    put8_step _ _ _ _ (by simp; omega) (by omega) (by omega), put8_step _ _ _ _ (by simp; omega) (by omega) (by omega),
    put8_step _ _ _ _ (by simp; omega) (by omega) (by omega), put8_step _ _ _ _ (by simp; omega) (by omega) (by omega)]
  simp only [header_put_uint64.l0]
  rw [if_neg (by omega)]
  unfold be8
  simp [List.append_assoc]

/-- The bytes of a header. -/
def hb (a0 a1 a2 a3 a4 a5 a6 a7 a8 a9 a10 a11 a12 : Int) : List Int :=
  [64 * a0 + 8 * a1 + a2, a3, a4 % 256, a5 % 256] ++ be4 a6 ++ be4 a7 ++ be4 a8 ++ be8 a9 ++ be8 a10 ++ be8 a11 ++ be8 a12

/-- The six fields are in their ranges. -/
def Rg (a0 a1 a2 a3 a4 a5 : Int) : Prop := (0 ≤ a0 ∧ a0 ≤ 3) ∧ (1 ≤ a1 ∧ a1 ≤ 4) ∧ (0 ≤ a2 ∧ a2 ≤ 7) ∧ (0 ≤ a3 ∧ a3 ≤ 255) ∧ (-128 ≤ a4 ∧ a4 ≤ 127) ∧ (-128 ≤ a5 ∧ a5 ≤ 127)

theorem may_iff (a0 a1 a2 a3 a4 a5 : Int) : header_May.ok a0 a1 a2 a3 a4 a5 = true ↔ Rg a0 a1 a2 a3 a4 a5 := by
  unfold header_May.ok header_May.st Rg
  simp only [Bool.and_eq_true, decide_eq_true_iff, Bool.true_and]
  constructor
  · intro h
    omega
  · intro h
    omega

theorem by_hb (a0 a1 a2 a3 a4 a5 a6 a7 a8 a9 a10 a11 a12 : Int) (h : Rg a0 a1 a2 a3 a4 a5) : By (hb a0 a1 a2 a3 a4 a5 a6 a7 a8 a9 a10 a11 a12) := by
  unfold Rg at h
  unfold hb
  refine By.app (By.app (By.app (By.app (By.app (By.app (By.app ?_ (by_be4 _)) (by_be4 _)) (by_be4 _)) (by_be8 _)) (by_be8 _)) (by_be8 _)) (by_be8 _)
  exact By.cons (by omega) (by omega) (By.cons (by omega) (by omega) (by_mod _ (by_mod _ By.nil)))

theorem hb_length (a0 a1 a2 a3 a4 a5 a6 a7 a8 a9 a10 a11 a12 : Int) : (hb a0 a1 a2 a3 a4 a5 a6 a7 a8 a9 a10 a11 a12).length = 48 := rfl

theorem first_or (a0 a1 a2 : Int) (h0 : 0 ≤ a0 ∧ a0 ≤ 3) (h1 : 1 ≤ a1 ∧ a1 ≤ 4) (h2 : 0 ≤ a2 ∧ a2 ≤ 7) :
    (Go.bits .or .i64 (Go.bits .or .i64 (wrap64 (a0 * 64)) (wrap64 (a1 * 8))) a2) % 256 = 64 * a0 + 8 * a1 + a2 := by
  have e1 : wrap64 (a0 * 64) = a0 * 64 := by unfold wrap64; omega
  have e2 : wrap64 (a1 * 8) = a1 * 8 := by unfold wrap64; omega
  have hk : ∀ n : Int, 0 ≤ n → n < 2 ^ 62 → IntKind.i64.wrap n = n := fun n q0 q1 => by rw [IntKind.wrap_i64]; omega
  have j1 : Go.bits .or .i64 (a0 * 64) (a1 * 8) = a0 * 64 + a1 * 8 := bits_join .i64 62 (by decide) hk 6 _ _ (by omega) (by omega) (by omega) (by omega) (by omega) (by omega)
  have j2 : Go.bits .or .i64 (a0 * 64 + a1 * 8) a2 = a0 * 64 + a1 * 8 + a2 := bits_join .i64 62 (by decide) hk 3 _ _ (by omega) (by omega) (by omega) (by omega) (by omega) (by omega)
  rw [e1, e2, j1, j2]
  omega

theorem enc_s1 (k : Nat) (l y : List Int) (n i v : Int) (h0 : 0 ≤ i) (h1 : i < n) (h2 : i < y.length) (h3 : rd y i = v) (h4 : l.length ≤ 900) (h5 : 9 ≤ k) (h6 : n ≤ 9) :
    header_Encode.l1 (k + 1) l y n i = header_Encode.l1 k (l ++ be8 v) y n (i + 1) := by
  have e : wrap64 (i + 1) = i + 1 := by unfold wrap64; omega
  simp only [header_Encode.l1]
  rw [if_pos h1, if_pos h0, if_pos h2, h3, put8 k l v (by omega) h5, e]
  rfl

theorem enc_l1 (k : Nat) (l : List Int) (a9 a10 a11 a12 : Int) (hl : l.length ≤ 500) (hk : 14 ≤ k) :
    header_Encode.l1 k l [a9, a10, a11, a12] 4 0 = some (strOfNums (l ++ be8 a9 ++ be8 a10 ++ be8 a11 ++ be8 a12), 0) := by
  obtain ⟨k, rfl⟩ : ∃ q, k = q + 5 := ⟨k - 5, by omega⟩
  have b (x : Int) : (be8 x).length = 8 := rfl
  rw [enc_s1 _ l _ 4 0 a9 (by omega) (by omega) (by simp) rfl (by omega) (by omega) (by omega),
    enc_s1 _ _ _ 4 _ a10 (by omega) (by omega) (by simp) rfl (by rw [List.length_append, b]; omega) (by omega) (by omega),
    enc_s1 _ _ _ 4 _ a11 (by omega) (by omega) (by simp) rfl (by rw [List.length_append, List.length_append, b, b]; omega) (by omega) (by omega),
    enc_s1 _ _ _ 4 _ a12 (by omega) (by omega) (by simp) rfl (by rw [List.length_append, List.length_append, List.length_append, b, b, b]; omega) (by omega) (by omega)]
  simp only [header_Encode.l1]
  rw [if_neg (by omega)]

theorem enc_s0 (k : Nat) (l y : List Int) (n i v a0 a1 a2 a3 a4 a5 a6 a7 a8 a9 a10 a11 a12 : Int) (h0 : 0 ≤ i) (h1 : i < n) (h2 : i < y.length) (h3 : rd y i = v) (hv : 0 ≤ v ∧ v ≤ 4294967295) (h4 : l.length ≤ 900) (h5 : 9 ≤ k) (h6 : n ≤ 9) :
    header_Encode.l0 (k + 1) l y n i a0 a1 a2 a3 a4 a5 a6 a7 a8 a9 a10 a11 a12 = header_Encode.l0 k (l ++ be4 v) y n (i + 1) a0 a1 a2 a3 a4 a5 a6 a7 a8 a9 a10 a11 a12 := by
  have e : wrap64 (i + 1) = i + 1 := by unfold wrap64; omega
  conv => lhs; unfold header_Encode.l0
  rw [if_pos h1, if_pos h0, if_pos h2, h3, put4 k l v (by omega) hv.1 hv.2 (by omega), e]
  rfl

theorem enc_l0 (k : Nat) (l : List Int) (a0 a1 a2 a3 a4 a5 a6 a7 a8 a9 a10 a11 a12 : Int) (hl : l.length ≤ 300) (h6 : 0 ≤ a6 ∧ a6 ≤ 4294967295) (h7 : 0 ≤ a7 ∧ a7 ≤ 4294967295) (h8 : 0 ≤ a8 ∧ a8 ≤ 4294967295) (hk : 20 ≤ k) :
    header_Encode.l0 k l [a6, a7, a8] 3 0 a0 a1 a2 a3 a4 a5 a6 a7 a8 a9 a10 a11 a12 = some (strOfNums (l ++ be4 a6 ++ be4 a7 ++ be4 a8 ++ be8 a9 ++ be8 a10 ++ be8 a11 ++ be8 a12), 0) := by
  obtain ⟨k, rfl⟩ : ∃ q, k = q + 4 := ⟨k - 4, by omega⟩
  have b (x : Int) : (be4 x).length = 4 := rfl
  rw [enc_s0 _ l _ 3 0 a6 _ _ _ _ _ _ _ _ _ _ _ _ _ (by omega) (by omega) (by simp) rfl h6 (by omega) (by omega) (by omega),
    enc_s0 _ _ _ 3 _ a7 _ _ _ _ _ _ _ _ _ _ _ _ _ (by omega) (by omega) (by simp) rfl h7 (by rw [List.length_append, b]; omega) (by omega) (by omega),
    enc_s0 _ _ _ 3 _ a8 _ _ _ _ _ _ _ _ _ _ _ _ _ (by omega) (by omega) (by simp) rfl h8 (by rw [List.length_append, List.length_append, b, b]; omega) (by omega) (by omega)]
  unfold header_Encode.l0
  rw [if_neg (by omega)]
  show header_Encode.l1 k _ [a9, a10, a11, a12] 4 0 = _
  rw [enc_l1 k _ a9 a10 a11 a12 (by rw [List.length_append, List.length_append, List.length_append, b, b, b]; omega) (by omega)]

theorem enc_ok (k : Nat) (a0 a1 a2 a3 a4 a5 a6 a7 a8 a9 a10 a11 a12 : Int) (h : Rg a0 a1 a2 a3 a4 a5) (h6 : 0 ≤ a6 ∧ a6 ≤ 4294967295) (h7 : 0 ≤ a7 ∧ a7 ≤ 4294967295) (h8 : 0 ≤ a8 ∧ a8 ≤ 4294967295) (hk : 20 ≤ k) :
    header_Encode.f k a0 a1 a2 a3 a4 a5 a6 a7 a8 a9 a10 a11 a12 = some (strOfNums (hb a0 a1 a2 a3 a4 a5 a6 a7 a8 a9 a10 a11 a12), 0) := by
  have hm := (may_iff a0 a1 a2 a3 a4 a5).2 h
  unfold Rg at h
  unfold header_Encode.f header_May.f
  rw [hm]
  simp only [Option.bind_some, if_true]
  rw [first_or a0 a1 a2 h.1 h.2.1 h.2.2.1, show a3 % 256 = a3 by omega]
  exact enc_l0 k [64 * a0 + 8 * a1 + a2, a3, a4 % 256, a5 % 256] a0 a1 a2 a3 a4 a5 a6 a7 a8 a9 a10 a11 a12 (by simp) h6 h7 h8 hk

theorem enc_no (k : Nat) (a0 a1 a2 a3 a4 a5 a6 a7 a8 a9 a10 a11 a12 : Int) (h : ¬ Rg a0 a1 a2 a3 a4 a5) :
    header_Encode.f k a0 a1 a2 a3 a4 a5 a6 a7 a8 a9 a10 a11 a12 = some ((⟨#[]⟩ : ByteArray), 1) := by
  have hm : header_May.ok a0 a1 a2 a3 a4 a5 = false := by
    cases e : header_May.ok a0 a1 a2 a3 a4 a5
    · rfl
    · exact absurd ((may_iff a0 a1 a2 a3 a4 a5).1 e) h
  unfold header_Encode.f header_May.f
  rw [hm]
  rfl

theorem num1 (s : ByteArray) (o : Nat) : header_get.num s o 1 = bt s (o : Int) := by
  simp only [header_get.num, Nat.add_zero, Int.zero_mul, Int.zero_add]

theorem num4 (s : ByteArray) (o : Nat) : header_get.num s o 4 = ((bt s (o : Int) * 256 + bt s ((o + 1 : Nat) : Int)) * 256 + bt s ((o + 2 : Nat) : Int)) * 256 + bt s ((o + 3 : Nat) : Int) := by
  simp only [header_get.num, Nat.add_zero, Int.zero_mul, Int.zero_add]

theorem num8 (s : ByteArray) (o : Nat) : header_get.num s o 8 = ((((((bt s (o : Int) * 256 + bt s ((o + 1 : Nat) : Int)) * 256 + bt s ((o + 2 : Nat) : Int)) * 256 + bt s ((o + 3 : Nat) : Int)) * 256 + bt s ((o + 4 : Nat) : Int)) * 256 + bt s ((o + 5 : Nat) : Int)) * 256 + bt s ((o + 6 : Nat) : Int)) * 256 + bt s ((o + 7 : Nat) : Int) := by
  simp only [header_get.num, Nat.add_zero, Int.zero_mul, Int.zero_add]

theorem be4_num (a b c d : Int) (ha : 0 ≤ a ∧ a ≤ 255) (hb : 0 ≤ b ∧ b ≤ 255) (hc : 0 ≤ c ∧ c ≤ 255) (hd : 0 ≤ d ∧ d ≤ 255) : be4 (((a * 256 + b) * 256 + c) * 256 + d) = [a, b, c, d] := by
  unfold be4
  rw [show (((a * 256 + b) * 256 + c) * 256 + d) / 16777216 % 256 = a by omega, show (((a * 256 + b) * 256 + c) * 256 + d) / 65536 % 256 = b by omega,
    show (((a * 256 + b) * 256 + c) * 256 + d) / 256 % 256 = c by omega, show (((a * 256 + b) * 256 + c) * 256 + d) % 256 = d by omega]

theorem be8_split (n : Int) : be8 n = be4 (n / 4294967296) ++ be4 n := by
  show [_, _, _, _, _, _, _, _] = [_, _, _, _, _, _, _, _]
  rw [show n / 4294967296 / 16777216 % 256 = n / 72057594037927936 % 256 by omega, show n / 4294967296 / 65536 % 256 = n / 281474976710656 % 256 by omega, show n / 4294967296 / 256 % 256 = n / 1099511627776 % 256 by omega]

theorem be4_mod (n m : Int) (h : n % 4294967296 = m) : be4 n = be4 m := by
  unfold be4
  rw [show n / 16777216 % 256 = m / 16777216 % 256 by omega, show n / 65536 % 256 = m / 65536 % 256 by omega, show n / 256 % 256 = m / 256 % 256 by omega, show n % 256 = m % 256 by omega]

theorem be8_num (a b c d e f g h : Int) (ha : 0 ≤ a ∧ a ≤ 255) (hb : 0 ≤ b ∧ b ≤ 255) (hc : 0 ≤ c ∧ c ≤ 255) (hd : 0 ≤ d ∧ d ≤ 255) (he : 0 ≤ e ∧ e ≤ 255) (hf : 0 ≤ f ∧ f ≤ 255) (hg : 0 ≤ g ∧ g ≤ 255) (hh : 0 ≤ h ∧ h ≤ 255) :
    be8 (((((((a * 256 + b) * 256 + c) * 256 + d) * 256 + e) * 256 + f) * 256 + g) * 256 + h) = [a, b, c, d, e, f, g, h] := by
  have e1 : (((((((a * 256 + b) * 256 + c) * 256 + d) * 256 + e) * 256 + f) * 256 + g) * 256 + h) / 4294967296 = ((a * 256 + b) * 256 + c) * 256 + d := by omega
  have e2 : (((((((a * 256 + b) * 256 + c) * 256 + d) * 256 + e) * 256 + f) * 256 + g) * 256 + h) % 4294967296 = ((e * 256 + f) * 256 + g) * 256 + h := by omega
  rw [be8_split, e1, be4_mod _ _ e2, be4_num a b c d ha hb hc hd, be4_num e f g h he hf hg hh]
  rfl

theorem num_be4 (n : Int) (h0 : 0 ≤ n) (h1 : n ≤ 4294967295) : ((n / 16777216 % 256 * 256 + n / 65536 % 256) * 256 + n / 256 % 256) * 256 + n % 256 = n := by omega

theorem num_be8 (n : Int) (h0 : 0 ≤ n) (h1 : n ≤ 18446744073709551615) :
    ((((((n / 72057594037927936 % 256 * 256 + n / 281474976710656 % 256) * 256 + n / 1099511627776 % 256) * 256 + n / 4294967296 % 256) * 256 + n / 16777216 % 256) * 256 + n / 65536 % 256) * 256 + n / 256 % 256) * 256 + n % 256 = n := by omega

theorem i8_all : ∀ n : Fin 256, IntKind.i8.wrap (n.val : Int) = if (n.val : Int) ≥ 128 then (n.val : Int) - 256 else (n.val : Int) := by decide +kernel

theorem sgn_eq (c : Int) : header_Decode.sgn c = if c % 256 ≥ 128 then c % 256 - 256 else c % 256 := by
  unfold header_Decode.sgn
  have e : IntKind.i8.wrap (c % 256) = if c % 256 ≥ 128 then c % 256 - 256 else c % 256 := by
    have h := i8_all ⟨(c % 256).toNat, by omega⟩
    have q : ((c % 256).toNat : Int) = c % 256 := by omega
    simp only [q] at h
    exact h
  rw [e]
  unfold wrap64
  split <;> omega

/-- What lies behind a header's bytes does not matter: they decode to it. -/
theorem dec_hb (s : ByteArray) (l : List Int) (a0 a1 a2 a3 a4 a5 a6 a7 a8 a9 a10 a11 a12 : Int) (hr : Rg a0 a1 a2 a3 a4 a5) (h6 : 0 ≤ a6 ∧ a6 ≤ 4294967295) (h7 : 0 ≤ a7 ∧ a7 ≤ 4294967295) (h8 : 0 ≤ a8 ∧ a8 ≤ 4294967295) (h9 : 0 ≤ a9 ∧ a9 ≤ 18446744073709551615) (h10 : 0 ≤ a10 ∧ a10 ≤ 18446744073709551615) (h11 : 0 ≤ a11 ∧ a11 ≤ 18446744073709551615) (h12 : 0 ≤ a12 ∧ a12 ≤ 18446744073709551615) (hs : s.size ≤ 140737488355328) (hl : bytesOf s = hb a0 a1 a2 a3 a4 a5 a6 a7 a8 a9 a10 a11 a12 ++ l) :
    header_Decode.f s = some (a0, a1, a2, a3, a4, a5, a6, a7, a8, a9, a10, a11, a12, s.extract 48 s.size, 0) := by
  have hz : 48 ≤ s.size := by
    have := congrArg List.length hl
    rw [bytesOf_length, List.length_append, hb_length] at this
    omega
  have at_ (i : Int) (v : Int) (h : rd (hb a0 a1 a2 a3 a4 a5 a6 a7 a8 a9 a10 a11 a12 ++ l) i = v) : bt s i = v := by rw [← rd_bytesOf, hl, h]
  have b0 : bt s 0 = 64 * a0 + 8 * a1 + a2 := at_ 0 _ rfl
  have b1 : bt s 1 = a3 := at_ 1 _ rfl
  have b2 : bt s 2 = a4 % 256 := at_ 2 _ rfl
  have b3 : bt s 3 = a5 % 256 := at_ 3 _ rfl
  have b4 : bt s 4 = a6 / 16777216 % 256 := at_ 4 _ rfl
  have b5 : bt s 5 = a6 / 65536 % 256 := at_ 5 _ rfl
  have b6 : bt s 6 = a6 / 256 % 256 := at_ 6 _ rfl
  have b7 : bt s 7 = a6 % 256 := at_ 7 _ rfl
  have b8 : bt s 8 = a7 / 16777216 % 256 := at_ 8 _ rfl
  have b9 : bt s 9 = a7 / 65536 % 256 := at_ 9 _ rfl
  have b10 : bt s 10 = a7 / 256 % 256 := at_ 10 _ rfl
  have b11 : bt s 11 = a7 % 256 := at_ 11 _ rfl
  have b12 : bt s 12 = a8 / 16777216 % 256 := at_ 12 _ rfl
  have b13 : bt s 13 = a8 / 65536 % 256 := at_ 13 _ rfl
  have b14 : bt s 14 = a8 / 256 % 256 := at_ 14 _ rfl
  have b15 : bt s 15 = a8 % 256 := at_ 15 _ rfl
  have b16 : bt s 16 = a9 / 72057594037927936 % 256 := at_ 16 _ rfl
  have b17 : bt s 17 = a9 / 281474976710656 % 256 := at_ 17 _ rfl
  have b18 : bt s 18 = a9 / 1099511627776 % 256 := at_ 18 _ rfl
  have b19 : bt s 19 = a9 / 4294967296 % 256 := at_ 19 _ rfl
  have b20 : bt s 20 = a9 / 16777216 % 256 := at_ 20 _ rfl
  have b21 : bt s 21 = a9 / 65536 % 256 := at_ 21 _ rfl
  have b22 : bt s 22 = a9 / 256 % 256 := at_ 22 _ rfl
  have b23 : bt s 23 = a9 % 256 := at_ 23 _ rfl
  have b24 : bt s 24 = a10 / 72057594037927936 % 256 := at_ 24 _ rfl
  have b25 : bt s 25 = a10 / 281474976710656 % 256 := at_ 25 _ rfl
  have b26 : bt s 26 = a10 / 1099511627776 % 256 := at_ 26 _ rfl
  have b27 : bt s 27 = a10 / 4294967296 % 256 := at_ 27 _ rfl
  have b28 : bt s 28 = a10 / 16777216 % 256 := at_ 28 _ rfl
  have b29 : bt s 29 = a10 / 65536 % 256 := at_ 29 _ rfl
  have b30 : bt s 30 = a10 / 256 % 256 := at_ 30 _ rfl
  have b31 : bt s 31 = a10 % 256 := at_ 31 _ rfl
  have b32 : bt s 32 = a11 / 72057594037927936 % 256 := at_ 32 _ rfl
  have b33 : bt s 33 = a11 / 281474976710656 % 256 := at_ 33 _ rfl
  have b34 : bt s 34 = a11 / 1099511627776 % 256 := at_ 34 _ rfl
  have b35 : bt s 35 = a11 / 4294967296 % 256 := at_ 35 _ rfl
  have b36 : bt s 36 = a11 / 16777216 % 256 := at_ 36 _ rfl
  have b37 : bt s 37 = a11 / 65536 % 256 := at_ 37 _ rfl
  have b38 : bt s 38 = a11 / 256 % 256 := at_ 38 _ rfl
  have b39 : bt s 39 = a11 % 256 := at_ 39 _ rfl
  have b40 : bt s 40 = a12 / 72057594037927936 % 256 := at_ 40 _ rfl
  have b41 : bt s 41 = a12 / 281474976710656 % 256 := at_ 41 _ rfl
  have b42 : bt s 42 = a12 / 1099511627776 % 256 := at_ 42 _ rfl
  have b43 : bt s 43 = a12 / 4294967296 % 256 := at_ 43 _ rfl
  have b44 : bt s 44 = a12 / 16777216 % 256 := at_ 44 _ rfl
  have b45 : bt s 45 = a12 / 65536 % 256 := at_ 45 _ rfl
  have b46 : bt s 46 = a12 / 256 % 256 := at_ 46 _ rfl
  have b47 : bt s 47 = a12 % 256 := at_ 47 _ rfl
  have n0 : header_get.num s 0 1 = 64 * a0 + 8 * a1 + a2 := (num1 s 0).trans b0
  have n1 : header_get.num s 1 1 = a3 := (num1 s 1).trans b1
  have n2 : header_get.num s 2 1 = a4 % 256 := (num1 s 2).trans b2
  have n3 : header_get.num s 3 1 = a5 % 256 := (num1 s 3).trans b3
  have n4 : header_get.num s 4 4 = a6 := by
    rw [num4, show bt s ((4 : Nat) : Int) = _ from b4, show bt s ((4 + 1 : Nat) : Int) = _ from b5, show bt s ((4 + 2 : Nat) : Int) = _ from b6, show bt s ((4 + 3 : Nat) : Int) = _ from b7]
    exact num_be4 a6 h6.1 h6.2
  have n8 : header_get.num s 8 4 = a7 := by
    rw [num4, show bt s ((8 : Nat) : Int) = _ from b8, show bt s ((8 + 1 : Nat) : Int) = _ from b9, show bt s ((8 + 2 : Nat) : Int) = _ from b10, show bt s ((8 + 3 : Nat) : Int) = _ from b11]
    exact num_be4 a7 h7.1 h7.2
  have n12 : header_get.num s 12 4 = a8 := by
    rw [num4, show bt s ((12 : Nat) : Int) = _ from b12, show bt s ((12 + 1 : Nat) : Int) = _ from b13, show bt s ((12 + 2 : Nat) : Int) = _ from b14, show bt s ((12 + 3 : Nat) : Int) = _ from b15]
    exact num_be4 a8 h8.1 h8.2
  have n16 : header_get.num s 16 8 = a9 := by
    rw [num8, show bt s ((16 : Nat) : Int) = _ from b16, show bt s ((16 + 1 : Nat) : Int) = _ from b17, show bt s ((16 + 2 : Nat) : Int) = _ from b18, show bt s ((16 + 3 : Nat) : Int) = _ from b19, show bt s ((16 + 4 : Nat) : Int) = _ from b20, show bt s ((16 + 5 : Nat) : Int) = _ from b21, show bt s ((16 + 6 : Nat) : Int) = _ from b22, show bt s ((16 + 7 : Nat) : Int) = _ from b23]
    exact num_be8 a9 h9.1 h9.2
  have n24 : header_get.num s 24 8 = a10 := by
    rw [num8, show bt s ((24 : Nat) : Int) = _ from b24, show bt s ((24 + 1 : Nat) : Int) = _ from b25, show bt s ((24 + 2 : Nat) : Int) = _ from b26, show bt s ((24 + 3 : Nat) : Int) = _ from b27, show bt s ((24 + 4 : Nat) : Int) = _ from b28, show bt s ((24 + 5 : Nat) : Int) = _ from b29, show bt s ((24 + 6 : Nat) : Int) = _ from b30, show bt s ((24 + 7 : Nat) : Int) = _ from b31]
    exact num_be8 a10 h10.1 h10.2
  have n32 : header_get.num s 32 8 = a11 := by
    rw [num8, show bt s ((32 : Nat) : Int) = _ from b32, show bt s ((32 + 1 : Nat) : Int) = _ from b33, show bt s ((32 + 2 : Nat) : Int) = _ from b34, show bt s ((32 + 3 : Nat) : Int) = _ from b35, show bt s ((32 + 4 : Nat) : Int) = _ from b36, show bt s ((32 + 5 : Nat) : Int) = _ from b37, show bt s ((32 + 6 : Nat) : Int) = _ from b38, show bt s ((32 + 7 : Nat) : Int) = _ from b39]
    exact num_be8 a11 h11.1 h11.2
  have n40 : header_get.num s 40 8 = a12 := by
    rw [num8, show bt s ((40 : Nat) : Int) = _ from b40, show bt s ((40 + 1 : Nat) : Int) = _ from b41, show bt s ((40 + 2 : Nat) : Int) = _ from b42, show bt s ((40 + 3 : Nat) : Int) = _ from b43, show bt s ((40 + 4 : Nat) : Int) = _ from b44, show bt s ((40 + 5 : Nat) : Int) = _ from b45, show bt s ((40 + 6 : Nat) : Int) = _ from b46, show bt s ((40 + 7 : Nat) : Int) = _ from b47]
    exact num_be8 a12 h12.1 h12.2
  clear b0 b1 b2 b3 b4 b5 b6 b7 b8 b9 b10 b11 b12 b13 b14 b15 b16 b17 b18 b19 b20 b21 b22 b23 b24 b25 b26 b27 b28 b29 b30 b31 b32 b33 b34 b35 b36 b37 b38 b39 b40 b41 b42 b43 b44 b45 b46 b47 at_
  have hr2 := hr
  unfold Rg at hr2
  have e0 : (64 * a0 + 8 * a1 + a2) % 256 / 64 = a0 := by omega
  have e1 : (64 * a0 + 8 * a1 + a2) % 256 / 8 % 8 = a1 := by omega
  have e2 : (64 * a0 + 8 * a1 + a2) % 8 = a2 := by omega
  have e3 : a3 % 256 = a3 := by omega
  have e4 : header_Decode.sgn (a4 % 256) = a4 := by
    rw [sgn_eq]
    split <;> omega
  have e5 : header_Decode.sgn (a5 % 256) = a5 := by
    rw [sgn_eq]
    split <;> omega
  have ok : header_Decode.ok s = true := by
    unfold header_Decode.ok
    rw [n0, n1, n2, n3, e0, e1, e2, e3, e4, e5]
    exact (may_iff a0 a1 a2 a3 a4 a5).2 hr
  unfold header_Decode.f
  rw [if_neg (by omega), if_pos hs, if_pos ok, n0, n1, n2, n3, n4, n8, n12, n16, n24, n32, n40, e0, e1, e2, e3, e4, e5, show a6 % 4294967296 = a6 by omega, show a7 % 4294967296 = a7 by omega, show a8 % 4294967296 = a8 by omega]

theorem take_rd (l : List Int) (n : Nat) (h : n ≤ l.length) : l.take n = (List.range n).map fun i : Nat => rd l (i : Int) := by
  apply List.ext_getElem
  · simp
    omega
  · intro i h1 h2
    have hi : i < l.length := by
      rw [List.length_take] at h1
      omega
    rw [List.getElem_take, List.getElem_map, List.getElem_range]
    unfold rd
    rw [Int.toNat_natCast]
    simp [hi]

theorem list48 (l : List Int) (h : 48 ≤ l.length) : l = [rd l 0, rd l 1, rd l 2, rd l 3, rd l 4, rd l 5, rd l 6, rd l 7, rd l 8, rd l 9, rd l 10, rd l 11, rd l 12, rd l 13, rd l 14, rd l 15, rd l 16, rd l 17, rd l 18, rd l 19, rd l 20, rd l 21, rd l 22, rd l 23, rd l 24, rd l 25, rd l 26, rd l 27, rd l 28, rd l 29, rd l 30, rd l 31, rd l 32, rd l 33, rd l 34, rd l 35, rd l 36, rd l 37, rd l 38, rd l 39, rd l 40, rd l 41, rd l 42, rd l 43, rd l 44, rd l 45, rd l 46, rd l 47] ++ l.drop 48 := by
  have e : l.take 48 = [rd l 0, rd l 1, rd l 2, rd l 3, rd l 4, rd l 5, rd l 6, rd l 7, rd l 8, rd l 9, rd l 10, rd l 11, rd l 12, rd l 13, rd l 14, rd l 15, rd l 16, rd l 17, rd l 18, rd l 19, rd l 20, rd l 21, rd l 22, rd l 23, rd l 24, rd l 25, rd l 26, rd l 27, rd l 28, rd l 29, rd l 30, rd l 31, rd l 32, rd l 33, rd l 34, rd l 35, rd l 36, rd l 37, rd l 38, rd l 39, rd l 40, rd l 41, rd l 42, rd l 43, rd l 44, rd l 45, rd l 46, rd l 47] := (take_rd l 48 h).trans rfl
  rw [← e, List.take_append_drop]


theorem num4_bd (s : ByteArray) (o : Nat) : 0 ≤ header_get.num s o 4 ∧ header_get.num s o 4 ≤ 4294967295 := by
  have b := header_get.num_bd s o 4
  have e : (256 : Int) ^ 4 = 4294967296 := by decide
  omega

theorem num8_bd (s : ByteArray) (o : Nat) : 0 ≤ header_get.num s o 8 ∧ header_get.num s o 8 ≤ 18446744073709551615 := by
  have b := header_get.num_bd s o 8
  have e : (256 : Int) ^ 8 = 18446744073709551616 := by decide
  omega

theorem sgn_bd (c : Int) : -128 ≤ header_Decode.sgn c ∧ header_Decode.sgn c ≤ 127 := by
  rw [sgn_eq]
  split <;> omega

theorem sgn_mod (c : Int) (h0 : 0 ≤ c) (h1 : c ≤ 255) : header_Decode.sgn c % 256 = c := by
  rw [sgn_eq]
  split <;> omega

theorem rg_bytes (s : ByteArray) (h : 1 ≤ bt s 0 / 8 % 8 ∧ bt s 0 / 8 % 8 ≤ 4) : Rg (bt s 0 / 64) (bt s 0 / 8 % 8) (bt s 0 % 8) (bt s 1) (header_Decode.sgn (bt s 2)) (header_Decode.sgn (bt s 3)) := by
  have b0 := bt_range s 0
  have b1 := bt_range s 1
  exact ⟨⟨by omega, by omega⟩, h, ⟨by omega, by omega⟩, b1, sgn_bd _, sgn_bd _⟩

theorem ok_bytes (s : ByteArray) : header_Decode.ok s = header_May.ok (bt s 0 / 64) (bt s 0 / 8 % 8) (bt s 0 % 8) (bt s 1) (header_Decode.sgn (bt s 2)) (header_Decode.sgn (bt s 3)) := by
  have b0 := bt_range s 0
  have b1 := bt_range s 1
  unfold header_Decode.ok
  rw [show header_get.num s 0 1 = bt s 0 from num1 s 0, show header_get.num s 1 1 = bt s 1 from num1 s 1, show header_get.num s 2 1 = bt s 2 from num1 s 2, show header_get.num s 3 1 = bt s 3 from num1 s 3,
    show bt s 0 % 256 = bt s 0 by omega, show bt s 1 % 256 = bt s 1 by omega]

theorem dec_good (s : ByteArray) (hz : 48 ≤ s.size) (hs : s.size ≤ 140737488355328) (h : 1 ≤ bt s 0 / 8 % 8 ∧ bt s 0 / 8 % 8 ≤ 4) :
    header_Decode.f s = some ((bt s 0 / 64), (bt s 0 / 8 % 8), (bt s 0 % 8), (bt s 1), (header_Decode.sgn (bt s 2)), (header_Decode.sgn (bt s 3)), (header_get.num s 4 4), (header_get.num s 8 4), (header_get.num s 12 4), (header_get.num s 16 8), (header_get.num s 24 8), (header_get.num s 32 8), (header_get.num s 40 8), s.extract 48 s.size, 0) := by
  have b0 := bt_range s 0
  have b1 := bt_range s 1
  have m4 := num4_bd s 4
  have m8 := num4_bd s 8
  have m12 := num4_bd s 12
  unfold header_Decode.f
  rw [if_neg (by omega), if_pos hs, ok_bytes, if_pos ((may_iff _ _ _ _ _ _).2 (rg_bytes s h)),
    show header_get.num s 0 1 = bt s 0 from num1 s 0, show header_get.num s 1 1 = bt s 1 from num1 s 1, show header_get.num s 2 1 = bt s 2 from num1 s 2, show header_get.num s 3 1 = bt s 3 from num1 s 3,
    show bt s 0 % 256 = bt s 0 by omega, show bt s 1 % 256 = bt s 1 by omega, show header_get.num s 4 4 % 4294967296 = header_get.num s 4 4 by omega, show header_get.num s 8 4 % 4294967296 = header_get.num s 8 4 by omega, show header_get.num s 12 4 % 4294967296 = header_get.num s 12 4 by omega]

theorem dec_bad (s : ByteArray) (hz : 48 ≤ s.size) (hs : s.size ≤ 140737488355328) (h : ¬ (1 ≤ bt s 0 / 8 % 8 ∧ bt s 0 / 8 % 8 ≤ 4)) :
    header_Decode.f s = some (0, 0, 0, 0, 0, 0, 0, 0, 0, 0, 0, 0, 0, (⟨#[]⟩ : ByteArray), 51) := by
  have hn : ¬ header_Decode.ok s = true := by
    intro e
    rw [ok_bytes] at e
    exact h ((may_iff _ _ _ _ _ _).1 e).2.1
  unfold header_Decode.f
  rw [if_neg (by omega), if_pos hs, if_neg hn]

theorem dec_short (s : ByteArray) (hz : s.size < 48) : header_Decode.f s = some (0, 0, 0, 0, 0, 0, 0, 0, 0, 0, 0, 0, 0, (⟨#[]⟩ : ByteArray), 50) := by
  unfold header_Decode.f
  rw [if_pos hz]

theorem hb_bytes (s : ByteArray) : hb (bt s 0 / 64) (bt s 0 / 8 % 8) (bt s 0 % 8) (bt s 1) (header_Decode.sgn (bt s 2)) (header_Decode.sgn (bt s 3)) (header_get.num s 4 4) (header_get.num s 8 4) (header_get.num s 12 4) (header_get.num s 16 8) (header_get.num s 24 8) (header_get.num s 32 8) (header_get.num s 40 8) = [bt s 0, bt s 1, bt s 2, bt s 3, bt s 4, bt s 5, bt s 6, bt s 7, bt s 8, bt s 9, bt s 10, bt s 11, bt s 12, bt s 13, bt s 14, bt s 15, bt s 16, bt s 17, bt s 18, bt s 19, bt s 20, bt s 21, bt s 22, bt s 23, bt s 24, bt s 25, bt s 26, bt s 27, bt s 28, bt s 29, bt s 30, bt s 31, bt s 32, bt s 33, bt s 34, bt s 35, bt s 36, bt s 37, bt s 38, bt s 39, bt s 40, bt s 41, bt s 42, bt s 43, bt s 44, bt s 45, bt s 46, bt s 47] := by
  have b0 := bt_range s 0
  have b2 := bt_range s 2
  have b3 := bt_range s 3
  unfold hb
  rw [show 64 * (bt s 0 / 64) + 8 * (bt s 0 / 8 % 8) + bt s 0 % 8 = bt s 0 by omega, sgn_mod _ b2.1 b2.2, sgn_mod _ b3.1 b3.2, num4, num4, num4, num8, num8, num8, num8, be4_num _ _ _ _ (bt_range _ _) (bt_range _ _) (bt_range _ _) (bt_range _ _), be4_num _ _ _ _ (bt_range _ _) (bt_range _ _) (bt_range _ _) (bt_range _ _), be4_num _ _ _ _ (bt_range _ _) (bt_range _ _) (bt_range _ _) (bt_range _ _), be8_num _ _ _ _ _ _ _ _ (bt_range _ _) (bt_range _ _) (bt_range _ _) (bt_range _ _) (bt_range _ _) (bt_range _ _) (bt_range _ _) (bt_range _ _), be8_num _ _ _ _ _ _ _ _ (bt_range _ _) (bt_range _ _) (bt_range _ _) (bt_range _ _) (bt_range _ _) (bt_range _ _) (bt_range _ _) (bt_range _ _), be8_num _ _ _ _ _ _ _ _ (bt_range _ _) (bt_range _ _) (bt_range _ _) (bt_range _ _) (bt_range _ _) (bt_range _ _) (bt_range _ _) (bt_range _ _), be8_num _ _ _ _ _ _ _ _ (bt_range _ _) (bt_range _ _) (bt_range _ _) (bt_range _ _) (bt_range _ _) (bt_range _ _) (bt_range _ _) (bt_range _ _)]
  rfl

theorem bytes_hb (s : ByteArray) (hz : 48 ≤ s.size) : bytesOf s = hb (bt s 0 / 64) (bt s 0 / 8 % 8) (bt s 0 % 8) (bt s 1) (header_Decode.sgn (bt s 2)) (header_Decode.sgn (bt s 3)) (header_get.num s 4 4) (header_get.num s 8 4) (header_get.num s 12 4) (header_get.num s 16 8) (header_get.num s 24 8) (header_get.num s 32 8) (header_get.num s 40 8) ++ (bytesOf s).drop 48 := by
  have e := list48 (bytesOf s) (by rw [bytesOf_length]; exact hz)
  simp only [rd_bytesOf] at e
  rw [hb_bytes]
  exact e


/-- What the number of some bytes is, by the document. -/
theorem number_l (t : ByteArray) (hz : t.size ≤ 8) (d : Nat) : ∀ (k j : Nat), j + d = t.size → d + 1 ≤ k → analemmaref05_Number.l0 k t (header_get.num t 0 j) j = some (header_get.num t 0 t.size) := by
  induction d with
  | zero =>
    intro k j hj hk
    obtain ⟨k, rfl⟩ : ∃ q, k = q + 1 := ⟨k - 1, by omega⟩
    simp only [analemmaref05_Number.l0]
    rw [if_neg (by omega), show j = t.size by omega]
  | succ d ih =>
    intro k j hj hk
    obtain ⟨k, rfl⟩ : ∃ q, k = q + 1 := ⟨k - 1, by omega⟩
    have n := header_get.num_56 t 0 j (by omega)
    have b := bt_range t (j : Int)
    have e1 : IntKind.u64.wrap (header_get.num t 0 j * 256) = header_get.num t 0 j * 256 := by rw [IntKind.wrap_u64]; omega
    have e2 : IntKind.u64.wrap (bt t (j : Int)) = bt t (j : Int) := by rw [IntKind.wrap_u64]; omega
    have e3 : wrap64 ((j : Int) + 1) = ((j + 1 : Nat) : Int) := by unfold wrap64; omega
    have e4 : header_get.num t 0 (j + 1) = header_get.num t 0 j * 256 + bt t (j : Int) := by
      simp only [header_get.num, Nat.zero_add]
    simp only [analemmaref05_Number.l0]
    rw [if_pos (by omega), if_pos (by omega), e1, e2, header_get.or_ _ _ n.1 n.2 b.1 b.2, e3, ← e4]
    exact ih k (j + 1) (by omega) (by omega)

theorem bt_ext (s : ByteArray) (a b : Nat) (j : Int) (h0 : 0 ≤ j) (h1 : a + j < b) (h2 : b ≤ s.size) : bt (s.extract a b) j = bt s (a + j) := by
  unfold bt
  rw [dif_pos (by rw [ByteArray.size_extract]; omega), dif_pos (by omega)]
  have e : ((a : Int) + j).toNat = a + j.toNat := by omega
  simp only [e, ByteArray.getElem_extract]

theorem num_ext (s : ByteArray) (a b m : Nat) (h : a + m ≤ b) (hb : b ≤ s.size) : header_get.num (s.extract a b) 0 m = header_get.num s a m := by
  induction m with
  | zero => rfl
  | succ m ih =>
    simp only [header_get.num]
    rw [ih (by omega), bt_ext s a b _ (by omega) (by omega) hb]
    congr 2
    omega

theorem number_eq (k : Nat) (s : ByteArray) (a b : Nat) (hab : a ≤ b) (h8 : b ≤ a + 8) (hb : b ≤ s.size) (hk : 10 ≤ k) : analemmaref05_Number.f k (s.extract a b) = some (header_get.num s a (b - a)) := by
  have hz : (s.extract a b).size = b - a := by rw [ByteArray.size_extract]; omega
  unfold analemmaref05_Number.f
  have := number_l (s.extract a b) (by omega) (b - a) k 0 (by omega) (by omega)
  rw [hz, num_ext s a b (b - a) (by omega) hb] at this
  exact this

theorem signed_eq (s : ByteArray) (i : Int) : analemmaref05_signed.f (bt s i) = some (header_Decode.sgn (bt s i)) := by
  have b := bt_range s i
  unfold analemmaref05_signed.f
  rw [sgn_eq, show bt s i % 256 = bt s i by omega, show wrap64 (bt s i) = bt s i by unfold wrap64; omega]
  split
  · rw [show wrap64 (bt s i - 256) = bt s i - 256 by unfold wrap64; omega]
  · rfl

theorem refdec (k : Nat) (s : ByteArray) (hs : s.size ≤ 140737488355328) (hk : 20 ≤ k) : analemmaref05_Decode.f k s = header_Decode.f s := by
  obtain ⟨k, rfl⟩ : ∃ q, k = q + 1 := ⟨k - 1, by omega⟩
  unfold analemmaref05_Decode.f
  by_cases hz : s.size < 48
  · rw [dec_short s hz, if_pos (by omega)]
  · have b0 := bt_range s 0
    have b1 := bt_range s 1
    have w0 : wrap64 (bt s 0) = bt s 0 := by unfold wrap64; omega
    have w1 : wrap64 (bt s 1) = bt s 1 := by unfold wrap64; omega
    have t8 : Int.tdiv (bt s 0) 8 = bt s 0 / 8 := Int.tdiv_eq_ediv_of_nonneg b0.1
    have t64 : Int.tdiv (bt s 0) 64 = bt s 0 / 64 := Int.tdiv_eq_ediv_of_nonneg b0.1
    have w8 : wrap64 (bt s 0 / 8) = bt s 0 / 8 := by unfold wrap64; omega
    have w64 : wrap64 (bt s 0 / 64) = bt s 0 / 64 := by unfold wrap64; omega
    have m8 : Int.tmod (bt s 0 / 8) 8 = bt s 0 / 8 % 8 := Int.tmod_eq_emod_of_nonneg (by omega)
    have m0 : Int.tmod (bt s 0) 8 = bt s 0 % 8 := Int.tmod_eq_emod_of_nonneg b0.1
    rw [if_neg (by omega), if_pos (by omega), w0, t8, w8, m8]
    by_cases h1 : bt s 0 / 8 % 8 < 1
    · rw [if_pos h1, dec_bad s (by omega) hs (by omega)]
      simp only [analemmaref05_Decode.j0]
      rw [if_pos trivial]
    · rw [if_neg h1]
      by_cases h2 : bt s 0 / 8 % 8 > 4
      · rw [decide_eq_true h2, dec_bad s (by omega) hs (by omega)]
        simp only [analemmaref05_Decode.j0]
        rw [if_pos trivial]
      · have n4 := num4_bd s 4
        have n8 := num4_bd s 8
        have n12 := num4_bd s 12
        rw [decide_eq_false h2, dec_good s (by omega) hs (by omega)]
        simp only [analemmaref05_Decode.j0]
        rw [if_neg (by decide)]
        have N (a b : Nat) (hab : a ≤ b) (h8 : b ≤ a + 8) (hb : b ≤ s.size) := number_eq k s a b hab h8 hb (by omega)
        simp only [w0, w1, t64, w64, m0, signed_eq, Option.bind_some]
        simp only [show ((0 : Int) < (s.size : Int)) = True from eq_true (by omega), show ((1 : Int) < (s.size : Int)) = True from eq_true (by omega), show ((2 : Int) < (s.size : Int)) = True from eq_true (by omega), show ((3 : Int) < (s.size : Int)) = True from eq_true (by omega),
          show ((8 : Int) ≤ (s.size : Int)) = True from eq_true (by omega), show ((12 : Int) ≤ (s.size : Int)) = True from eq_true (by omega), show ((16 : Int) ≤ (s.size : Int)) = True from eq_true (by omega), show ((24 : Int) ≤ (s.size : Int)) = True from eq_true (by omega),
          show ((32 : Int) ≤ (s.size : Int)) = True from eq_true (by omega), show ((40 : Int) ≤ (s.size : Int)) = True from eq_true (by omega), show ((48 : Int) ≤ (s.size : Int)) = True from eq_true (by omega), if_true,
          N 4 8 (by omega) (by omega) (by omega), N 8 12 (by omega) (by omega) (by omega), N 12 16 (by omega) (by omega) (by omega), N 16 24 (by omega) (by omega) (by omega), N 24 32 (by omega) (by omega) (by omega), N 32 40 (by omega) (by omega) (by omega), N 40 48 (by omega) (by omega) (by omega),
          Option.bind_some, Nat.reduceSub, Int.reduceLE, Nat.reduceLeDiff]
        rw [show header_get.num s 4 4 % 4294967296 = header_get.num s 4 4 by omega, show header_get.num s 8 4 % 4294967296 = header_get.num s 8 4 by omega, show header_get.num s 12 4 % 4294967296 = header_get.num s 12 4 by omega]


theorem bytes_step (k : Nat) (n m i : Int) (l : List Int) (h0 : 0 ≤ i) (h1 : i < m) (hm : m ≤ 8) (hl : l.length ≤ 1000) :
    analemmaref05_Bytes.l0 (k + 1) n m (strOfNums l) i = analemmaref05_Bytes.l0 k (n / 256) m (strOfNums (n % 256 :: l)) (i + 1) := by
  have e : wrap64 (i + 1) = i + 1 := by unfold wrap64; omega
  simp only [analemmaref05_Bytes.l0, Option.bind_some]
  rw [if_pos h1, if_pos (by rw [strOfNums_size, strOfNums_size]; show 1 + l.length ≤ _; omega), e, nums_app]
  rfl

theorem bytes_nil : (⟨#[]⟩ : ByteArray) = strOfNums [] := rfl

theorem bytes1 (k : Nat) (n : Int) (hk : 2 ≤ k) : analemmaref05_Bytes.f k n 1 = some (strOfNums [n % 256]) := by
  obtain ⟨k, rfl⟩ : ∃ q, k = q + 2 := ⟨k - 2, by omega⟩
  unfold analemmaref05_Bytes.f
  rw [bytes_nil, bytes_step _ _ _ _ _ (by omega) (by omega) (by omega) (by simp)]
  simp only [analemmaref05_Bytes.l0]
  rw [if_neg (by omega)]

theorem bytes4 (k : Nat) (n : Int) (hk : 5 ≤ k) : analemmaref05_Bytes.f k n 4 = some (strOfNums (be4 n)) := by
  obtain ⟨k, rfl⟩ : ∃ q, k = q + 5 := ⟨k - 5, by omega⟩
  unfold analemmaref05_Bytes.f
  rw [bytes_nil, bytes_step _ _ _ _ _ (by omega) (by omega) (by omega) (by simp), bytes_step _ _ _ _ _ (by omega) (by omega) (by omega) (by simp),
    bytes_step _ _ _ _ _ (by omega) (by omega) (by omega) (by simp), bytes_step _ _ _ _ _ (by omega) (by omega) (by omega) (by simp)]
  simp only [analemmaref05_Bytes.l0]
  rw [if_neg (by omega)]
  unfold be4
  rw [show n / 256 / 256 / 256 % 256 = n / 16777216 % 256 by omega, show n / 256 / 256 % 256 = n / 65536 % 256 by omega]

theorem bytes8 (k : Nat) (n : Int) (hk : 9 ≤ k) : analemmaref05_Bytes.f k n 8 = some (strOfNums (be8 n)) := by
  obtain ⟨k, rfl⟩ : ∃ q, k = q + 9 := ⟨k - 9, by omega⟩
  unfold analemmaref05_Bytes.f
  rw [bytes_nil, bytes_step _ _ _ _ _ (by omega) (by omega) (by omega) (by simp), bytes_step _ _ _ _ _ (by omega) (by omega) (by omega) (by simp),
    bytes_step _ _ _ _ _ (by omega) (by omega) (by omega) (by simp), bytes_step _ _ _ _ _ (by omega) (by omega) (by omega) (by simp),
    bytes_step _ _ _ _ _ (by omega) (by omega) (by omega) (by simp), bytes_step _ _ _ _ _ (by omega) (by omega) (by omega) (by simp),
    bytes_step _ _ _ _ _ (by omega) (by omega) (by omega) (by simp), bytes_step _ _ _ _ _ (by omega) (by omega) (by omega) (by simp)]
  simp only [analemmaref05_Bytes.l0]
  rw [if_neg (by omega)]
  unfold be8
  rw [show n / 256 / 256 / 256 / 256 / 256 / 256 / 256 % 256 = n / 72057594037927936 % 256 by omega, show n / 256 / 256 / 256 / 256 / 256 / 256 % 256 = n / 281474976710656 % 256 by omega,
    show n / 256 / 256 / 256 / 256 / 256 % 256 = n / 1099511627776 % 256 by omega, show n / 256 / 256 / 256 / 256 % 256 = n / 4294967296 % 256 by omega,
    show n / 256 / 256 / 256 % 256 = n / 16777216 % 256 by omega, show n / 256 / 256 % 256 = n / 65536 % 256 by omega]

theorem refmay (a0 a1 a2 a3 a4 a5 a6 a7 a8 a9 a10 a11 a12 : Int) : analemmaref05_May.f a0 a1 a2 a3 a4 a5 a6 a7 a8 a9 a10 a11 a12 = some (header_May.ok a0 a1 a2 a3 a4 a5) := by
  have W (x a b : Int) : analemmaref05_within.f x a b = some (decide (a ≤ x) && decide (x ≤ b)) := by
    unfold analemmaref05_within.f
    by_cases c : x ≥ a
    · rw [if_pos c, decide_eq_true (show a ≤ x from c), Bool.true_and]
    · rw [if_neg c, decide_eq_false (show ¬ a ≤ x from c), Bool.false_and]
  unfold analemmaref05_May.f header_May.ok header_May.st
  simp only [W, Option.bind_some, Bool.true_and]
  cases decide (0 ≤ a0) <;> cases decide (a0 ≤ 3) <;> try rfl
  cases decide (1 ≤ a1) <;> cases decide (a1 ≤ 4) <;> try rfl
  cases decide (0 ≤ a2) <;> cases decide (a2 ≤ 7) <;> try rfl
  cases decide (0 ≤ a3) <;> cases decide (a3 ≤ 255) <;> try rfl
  cases decide (-128 ≤ a4) <;> cases decide (a4 ≤ 127) <;> try rfl

theorem mayf (a0 a1 a2 a3 a4 a5 a6 a7 a8 a9 a10 a11 a12 : Int) : header_May.f a0 a1 a2 a3 a4 a5 a6 a7 a8 a9 a10 a11 a12 = some (header_May.ok a0 a1 a2 a3 a4 a5) := rfl

theorem refenc (k : Nat) (a0 a1 a2 a3 a4 a5 a6 a7 a8 a9 a10 a11 a12 : Int) (h6 : 0 ≤ a6 ∧ a6 ≤ 4294967295) (h7 : 0 ≤ a7 ∧ a7 ≤ 4294967295) (h8 : 0 ≤ a8 ∧ a8 ≤ 4294967295) (hk : 20 ≤ k) :
    analemmaref05_Encode.f k a0 a1 a2 a3 a4 a5 a6 a7 a8 a9 a10 a11 a12 = header_Encode.f k a0 a1 a2 a3 a4 a5 a6 a7 a8 a9 a10 a11 a12 := by
  unfold analemmaref05_Encode.f
  rw [refmay]
  by_cases h : Rg a0 a1 a2 a3 a4 a5
  · rw [enc_ok k a0 a1 a2 a3 a4 a5 a6 a7 a8 a9 a10 a11 a12 h h6 h7 h8 hk, (may_iff a0 a1 a2 a3 a4 a5).2 h]
    unfold Rg at h
    have u (x : Int) : IntKind.u64.wrap x = x % 18446744073709551616 := IntKind.wrap_u64 x
    have x1 : wrap64 (wrap64 (wrap64 (64 * a0) + wrap64 (8 * a1)) + a2) = 64 * a0 + 8 * a1 + a2 := by unfold wrap64; omega
    have x2 : wrap64 (a4 + 256) = a4 + 256 := by unfold wrap64; omega
    have x3 : wrap64 (a5 + 256) = a5 + 256 := by unfold wrap64; omega
    have y1 : (64 * a0 + 8 * a1 + a2) % 18446744073709551616 = 64 * a0 + 8 * a1 + a2 := by omega
    have y2 : (64 * a0 + 8 * a1 + a2) % 256 = 64 * a0 + 8 * a1 + a2 := by omega
    have y3 : a3 % 18446744073709551616 = a3 := by omega
    have y4 : a3 % 256 = a3 := by omega
    have y5 : (a4 + 256) % 18446744073709551616 % 256 = a4 % 256 := by omega
    have y6 : (a5 + 256) % 18446744073709551616 % 256 = a5 % 256 := by omega
    have y7 : a6 % 18446744073709551616 = a6 := by omega
    have y8 : a7 % 18446744073709551616 = a7 := by omega
    have y9 : a8 % 18446744073709551616 = a8 := by omega
    have B1 (n : Int) := bytes1 k n (by omega)
    have B4 (n : Int) := bytes4 k n (by omega)
    have B8 (n : Int) := bytes8 k n (by omega)
    have c1 (x : Int) : (strOfNums [x]).size = 1 := rfl
    have c4 (x : Int) : (strOfNums (be4 x)).size = 4 := rfl
    have c8 (x : Int) : (strOfNums (be8 x)).size = 8 := rfl
    simp only [Option.bind_some, if_true, u, x1, x2, x3, B1, B4, B8, y1, y2, y3, y4, y5, y6, y7, y8, y9]
    simp only [ByteArray.size_append, c1, c4, c8]
    simp only [show (1 + 1 ≤ 9223372036854775807) = True from eq_true (by decide), Nat.reduceAdd, Nat.reduceLeDiff, if_true, nums_app]
    rfl
  · rw [enc_no k a0 a1 a2 a3 a4 a5 a6 a7 a8 a9 a10 a11 a12 h]
    have hm : header_May.ok a0 a1 a2 a3 a4 a5 = false := by
      cases e : header_May.ok a0 a1 a2 a3 a4 a5
      · rfl
      · exact absurd ((may_iff a0 a1 a2 a3 a4 a5).1 e) h
    rw [hm]
    rfl

theorem hdr_shown (k : Nat) (hk : 20 ≤ k) : analemmalaw05_shown.f k = some true := by
  unfold analemmalaw05_shown.f header_Ask.f
  rw [enc_ok k 0 4 3 0 6 0 0 0 0 0 0 0 1 (by unfold Rg; omega) (by omega) (by omega) (by omega) hk]
  rfl


end Go.Proofs.Ytilbkdlbbnkgdaa.Pure
