/- Plain laws of the functions that several statements of this seat reach; each says its own conditions. -/
import Derived.Test.YtlbelgdcicholaaMExtx0
import Derived.Test.YtlbelgdcicholaaMExtx1
import Derived.Test.YtlbelgdcicholaaMExtx10
import Derived.Test.YtlbelgdcicholaaMExtx11
import Derived.Test.YtlbelgdcicholaaMExtx2
import Derived.Test.YtlbelgdcicholaaMExtx3
import Derived.Test.YtlbelgdcicholaaMExtx4
import Derived.Test.YtlbelgdcicholaaMExtx5
import Derived.Test.YtlbelgdcicholaaMExtx6
import Derived.Test.YtlbelgdcicholaaMExtx7
import Derived.Test.YtlbelgdcicholaaMExtx8
import Derived.Test.YtlbelgdcicholaaMExtx9
import Derived.OpenShut
import Derived.Laws.Bits64
import Derived.Laws.BitsLemmas
import Derived.Lib.LazyBuf
namespace Go.Proofs.Ytlbelgdcicholaa.Pure
open Go.RowKit Go.Proofs.Ytlbelgdcicholaa.MExt Go.Proofs.YtlbelgdcicholaaW.PrintWords Go.Proofs.YtlbelgdcicholaaW.PrintLast Go.Proofs.YtlbelgdcicholaaW.PrintMore
set_option linter.unusedVariables false
set_option linter.unusedSimpArgs false

-- import Derived.Lib.LazyBuf
/-- Every one a byte. -/
def By (l : List Int) : Prop := ∀ x ∈ l, 0 ≤ x ∧ x ≤ 255

theorem By.app {a b : List Int} (h : By a) (k : By b) : By (a ++ b) := fun x hx => (List.mem_append.1 hx).elim (h x) (k x)

theorem By.nil : By [] := fun _ hx => by cases hx

theorem By.cons {x : Int} {l : List Int} (h0 : 0 ≤ x) (h1 : x ≤ 255) (h : By l) : By (x :: l) := fun y hy => by
  rcases List.mem_cons.1 hy with e | e
  · rw [e]
    exact ⟨h0, h1⟩
  · exact h y e

theorem by_bytesOf (s : ByteArray) : By (bytesOf s) := fun x hx => by
  unfold bytesOf at hx
  obtain ⟨b, _, rfl⟩ := List.mem_map.1 hx
  have := b.toNat_lt
  omega

theorem bytesOf_nums (l : List Int) (h : By l) : bytesOf (strOfNums l) = l := by
  show ((l.map fun n => UInt8.ofNat n.toNat).toArray.toList).map _ = l
  rw [List.toList_toArray, List.map_map]
  have : ∀ x ∈ l, ((fun b : UInt8 => (b.toNat : Int)) ∘ fun n : Int => UInt8.ofNat n.toNat) x = x := fun x hx => by
    have hb := h x hx
    show ((UInt8.ofNat x.toNat).toNat : Int) = x
    rw [UInt8.toNat_ofNat']
    omega
  exact (List.map_congr_left this).trans (List.map_id _)

theorem nums_bytesOf (s : ByteArray) : strOfNums (bytesOf s) = s := by
  unfold bytesOf
  rw [Lib.Lz.strOfNums_map]

theorem nums_inj (a b : List Int) (ha : By a) (hb : By b) (h : strOfNums a = strOfNums b) : a = b := by
  have := congrArg bytesOf h
  rwa [bytesOf_nums a ha, bytesOf_nums b hb] at this

theorem nums_app (a b : List Int) : strOfNums a ++ strOfNums b = strOfNums (a ++ b) := by
  apply ByteArray.ext
  rw [ByteArray.data_append]
  unfold strOfNums
  simp

theorem toList_inj (s t : ByteArray) (h : s.toList = t.toList) : s = t := by
  rw [ByteArray.toList_eq, ByteArray.toList_eq] at h
  exact ByteArray.ext (Array.toList_inj.1 h)

theorem bytesOf_app (s t : ByteArray) : bytesOf (s ++ t) = bytesOf s ++ bytesOf t := by
  unfold bytesOf
  rw [ByteArray.data_append, Array.toList_append, List.map_append]

theorem bytesOf_inj (s t : ByteArray) (h : bytesOf s = bytesOf t) : s = t := by
  rw [← nums_bytesOf s, ← nums_bytesOf t, h]

theorem bytesOf_extract (s : ByteArray) (a b : Nat) : bytesOf (s.extract a b) = ((bytesOf s).take b).drop a := by
  unfold bytesOf
  rw [ByteArray.data_extract, Array.toList_extract, List.extract_eq_take_drop, ← List.map_take, ← List.map_drop, List.drop_take]

def be4 (n : Int) : List Int := [n / 16777216 % 256, n / 65536 % 256, n / 256 % 256, n % 256]
def be8 (n : Int) : List Int := [n / 72057594037927936 % 256, n / 281474976710656 % 256, n / 1099511627776 % 256, n / 4294967296 % 256, n / 16777216 % 256, n / 65536 % 256, n / 256 % 256, n % 256]

theorem by_mod (x : Int) {l : List Int} (h : By l) : By (x % 256 :: l) := By.cons (by omega) (by omega) h
theorem by_be4 (n : Int) : By (be4 n) := by_mod _ (by_mod _ (by_mod _ (by_mod _ By.nil)))
theorem by_be8 (n : Int) : By (be8 n) := by_mod _ (by_mod _ (by_mod _ (by_mod _ (by_mod _ (by_mod _ (by_mod _ (by_mod _ By.nil)))))))

/-- What the number of some bytes is, by the document. -/
theorem number_l (t : ByteArray) (hz : t.size ≤ 8) (d : Nat) : ∀ (k j : Nat), j + d = t.size → d + 1 ≤ k → analemmaref05_Number.l0 k t (header_get.num t 0 j) j = some (header_get.num t 0 t.size) := by
  induction d with
  | zero =>
    intro k j hj hk
    obtain ⟨k, rfl⟩ : ∃ q, k = q + 1 := ⟨k - 1, by omega⟩
    simp only [analemmaref05_Number.l0]
    rw [if_neg (by omega), show j = t.size by omega]
  | succ d ih =>
    intro k j hj hk
    obtain ⟨k, rfl⟩ : ∃ q, k = q + 1 := ⟨k - 1, by omega⟩
    have n := header_get.num_56 t 0 j (by omega)
    have b := bt_range t (j : Int)
    have e1 : IntKind.u64.wrap (header_get.num t 0 j * 256) = header_get.num t 0 j * 256 := by rw [IntKind.wrap_u64]; omega
    have e2 : IntKind.u64.wrap (bt t (j : Int)) = bt t (j : Int) := by rw [IntKind.wrap_u64]; omega
    have e3 : wrap64 ((j : Int) + 1) = ((j + 1 : Nat) : Int) := by unfold wrap64; omega
    have e4 : header_get.num t 0 (j + 1) = header_get.num t 0 j * 256 + bt t (j : Int) := by
      simp only [header_get.num, Nat.zero_add]
    simp only [analemmaref05_Number.l0]
    rw [if_pos (by omega), if_pos (by omega), e1, e2, header_get.or_ _ _ n.1 n.2 b.1 b.2, e3, ← e4]
    exact ih k (j + 1) (by omega) (by omega)

theorem bt_ext (s : ByteArray) (a b : Nat) (j : Int) (h0 : 0 ≤ j) (h1 : a + j < b) (h2 : b ≤ s.size) : bt (s.extract a b) j = bt s (a + j) := by
  unfold bt
  rw [dif_pos (by rw [ByteArray.size_extract]; omega), dif_pos (by omega)]
  have e : ((a : Int) + j).toNat = a + j.toNat := by omega
  simp only [e, ByteArray.getElem_extract]

theorem num_ext (s : ByteArray) (a b m : Nat) (h : a + m ≤ b) (hb : b ≤ s.size) : header_get.num (s.extract a b) 0 m = header_get.num s a m := by
  induction m with
  | zero => rfl
  | succ m ih =>
    simp only [header_get.num]
    rw [ih (by omega), bt_ext s a b _ (by omega) (by omega) hb]
    congr 2
    omega

theorem number_eq (k : Nat) (s : ByteArray) (a b : Nat) (hab : a ≤ b) (h8 : b ≤ a + 8) (hb : b ≤ s.size) (hk : 10 ≤ k) : analemmaref05_Number.f k (s.extract a b) = some (header_get.num s a (b - a)) := by
  have hz : (s.extract a b).size = b - a := by rw [ByteArray.size_extract]; omega
  unfold analemmaref05_Number.f
  have := number_l (s.extract a b) (by omega) (b - a) k 0 (by omega) (by omega)
  rw [hz, num_ext s a b (b - a) (by omega) hb] at this
  exact this


/-! Walk, and the document's. -/
def to80 (x : S36) : S80 := ⟨x.f0, x.f1⟩
theorem rmac_eq (n : Nat) : analemmaref06_mac.f (n : Int) = some (macv n) := by
  unfold analemmaref06_mac.f macv
  by_cases h0 : n = 0
  · subst h0
    simp
  · by_cases h4 : n = 4
    · subst h4
      simp
    · by_cases h20 : n = 20
      · subst h20
        simp
      · have e0 : ¬ (n : Int) = 0 := by omega
        have e4 : ¬ (n : Int) = 4 := by omega
        have e20 : ¬ (n : Int) = 20 := by omega
        by_cases h24 : n = 24
        · subst h24
          simp
        · have e24 : ¬ (n : Int) = 24 := by omega
          rw [if_neg e0, if_neg e4, if_neg e20, beq_eq_false_iff_ne.2 e24, beq_eq_false_iff_ne.2 h0, beq_eq_false_iff_ne.2 h4, beq_eq_false_iff_ne.2 h20, beq_eq_false_iff_ne.2 h24]
          rfl
theorem num2 (s : ByteArray) (a : Nat) : header_get.num s a 2 = ext.num s (a : Int) := by
  unfold ext.num
  simp only [header_get.num]
  rw [show ((a + 0 : Nat) : Int) = (a : Int) by omega, show ((a + 1 : Nat) : Int) = (a : Int) + 1 by omega]
  omega
theorem num_bd2 (s : ByteArray) (i : Int) : 0 ≤ ext.num s i ∧ ext.num s i ≤ 65535 := by
  have a := bt_range s i
  have b := bt_range s (i + 1)
  unfold ext.num
  omega
def out80 (r : List S36 × ByteArray × Int) : List S80 × ByteArray × Int := (r.1.map to80, r.2.1, r.2.2)
theorem rwalk_l0 : ∀ (n : Nat) (s : ByteArray) (acc : List S36) (k : Nat), s.size < n → n + 30 ≤ k → acc.length + s.size ≤ 10000000000 → analemmaref06_Walk.l0 k s (acc.map to80) = some (out80 (ext.go n s acc))
  | 0, s, acc, k, h, _, _ => absurd h (by omega)
  | n + 1, s, acc, k, h, hk, hl => by
    obtain ⟨k, rfl⟩ : ∃ m, k = m + 1 := ⟨k - 1, by omega⟩
    rw [analemmaref06_Walk.l0, ext.go]
    by_cases q : 24 < s.size
    · have b2 := num_bd2 s 2
      have b0 := num_bd2 s 0
      have n2 := number_eq k s 2 4 (by omega) (by omega) (by omega) (by omega)
      have n0 := number_eq k s 0 2 (by omega) (by omega) (by omega) (by omega)
      rw [show (4 : Nat) - 2 = 2 from rfl, num2] at n2
      rw [show (2 : Nat) - 0 = 2 from rfl, num2] at n0
      have n2' : analemmaref05_Number.f k (s.extract 2 4) = some (ext.num s 2) := n2
      have n0' : analemmaref05_Number.f k (s.extract 0 2) = some (ext.num s 0) := n0
      have w2 : wrap64 (ext.num s 2) = ext.num s 2 := by unfold wrap64; omega
      have w0 : wrap64 (ext.num s 0) = ext.num s 0 := by unfold wrap64; omega
      rw [if_pos (by omega), if_pos (by omega), if_pos (by omega), n2', Option.bind_some, w2, if_pos q]
      by_cases h1 : ext.num s 2 < 16
      · rw [if_pos h1, if_neg (fun h => by have := h.1; omega)]
        rfl
      · have e4 : Int.tmod (ext.num s 2) 4 = ext.num s 2 % 4 := Int.tmod_eq_emod_of_nonneg (by omega)
        rw [if_neg h1, e4]
        by_cases h2 : ext.num s 2 % 4 = 0
        · rw [if_pos h2]
          by_cases h3 : ext.num s 2 > s.size
          · rw [if_pos h3, if_neg (fun h => by have := h.2.2; omega)]
            rfl
          · have hok : ext.ok s := ⟨by omega, h2, by omega⟩
            have hla : (acc.map to80).length < 5864062014805 := by rw [List.length_map]; omega
            rw [if_neg h3, if_pos (by omega), if_pos (by omega), n0', Option.bind_some, if_pos (by omega), if_pos (by omega), if_pos hla, if_pos (by omega), w0, if_pos hok]
            have hsz : (s.extract (ext.num s 2).toNat s.size).size + 16 ≤ s.size := by
              rw [ByteArray.size_extract]
              omega
            have ih := rwalk_l0 n (s.extract (ext.num s 2).toNat s.size) (acc ++ [⟨ext.num s 0, s.extract 4 (ext.num s 2).toNat⟩]) k (by omega) (by omega) (by rw [List.length_append, List.length_singleton]; omega)
            rw [List.map_append] at ih
            exact ih
        · rw [if_neg h2, if_neg (fun h => h2 h.2.1)]
          rfl
    · rw [if_neg (by omega), rmac_eq, Option.bind_some, if_neg q]
      cases hm : macv s.size with
      | true =>
        rw [if_pos rfl, if_pos rfl]
        rfl
      | false =>
        rw [if_neg (by decide), if_neg (by decide)]
        rfl
theorem rwalk_eq (s : ByteArray) (hs : s.size ≤ 1000000000) (k : Nat) (hk : s.size + 40 ≤ k) : analemmaref06_Walk.f k s = some (out80 (ext.go (s.size + 1) s [])) := by
  unfold analemmaref06_Walk.f
  exact rwalk_l0 (s.size + 1) s [] k (by omega) (by omega) (by simp; omega)
theorem walk_eq (s : ByteArray) (hs : s.size ≤ 1000000000) : extend_Walk.f s = some (ext.go (s.size + 1) s []) := by
  unfold extend_Walk.f
  rw [if_pos hs]
/-! The same. -/
theorem rd_at36 (l : List S36) (j : Nat) (h : j < l.length) : rd_T36 l (j : Int) = l[j] := by
  unfold rd_T36
  rw [Int.toNat_natCast, List.getD_eq_getElem?_getD, List.getElem?_eq_getElem h]
  rfl
theorem rd_at80 (l : List S36) (j : Nat) (h : j < l.length) : rd_T80 (l.map to80) (j : Int) = to80 l[j] := by
  unfold rd_T80
  rw [Int.toNat_natCast, List.getD_eq_getElem?_getD, List.getElem?_eq_getElem (by simpa using h), List.getElem_map]
  rfl
theorem theirs_l0 (l : List S36) (hl : l.length ≤ 1000000) : ∀ (d k j : Nat), j + d = l.length → d + 1 ≤ k → analemmalaw06_theirs.l0 k l ((l.take j).map to80) (j : Int) = some (l.map to80)
  | 0, k, j, hj, hk => by
    obtain ⟨k, rfl⟩ : ∃ m, k = m + 1 := ⟨k - 1, by omega⟩
    rw [analemmalaw06_theirs.l0, if_neg (by omega), List.take_of_length_le (by omega)]
  | d + 1, k, j, hj, hk => by
    obtain ⟨k, rfl⟩ : ∃ m, k = m + 1 := ⟨k - 1, by omega⟩
    have hw : wrap64 ((j : Int) + 1) = ((j + 1 : Nat) : Int) := by unfold wrap64; omega
    have hlt : ((l.take j).map to80).length < 5864062014805 := by rw [List.length_map, List.length_take]; omega
    rw [analemmalaw06_theirs.l0, if_pos (by omega), if_pos (by omega), if_pos hlt, hw]
    have e : (l.take (j + 1)).map to80 = ((l.take j).map to80) ++ [(⟨(rd_T36 l (j : Int)).f0, (rd_T36 l (j : Int)).f1⟩ : S80)] := by
      rw [List.take_add_one, List.getElem?_eq_getElem (by omega : j < l.length), List.map_append, rd_at36 l j (by omega)]
      rfl
    rw [← e]
    exact theirs_l0 l hl d k (j + 1) (by omega) (by omega)
theorem theirs_eq (l : List S36) (hl : l.length ≤ 1000000) (k : Nat) (hk : l.length + 1 ≤ k) : analemmalaw06_theirs.f k l = some (l.map to80) := by
  unfold analemmalaw06_theirs.f
  exact theirs_l0 l hl l.length k 0 (by omega) (by omega)
theorem same_l0 (l : List S36) (hl : l.length ≤ 1000000) : ∀ (d k j : Nat), j + d = l.length → d + 1 ≤ k → analemmaref06_Same.l0 k (l.map to80) (l.map to80) (j : Int) = some true
  | 0, k, j, hj, hk => by
    obtain ⟨k, rfl⟩ : ∃ m, k = m + 1 := ⟨k - 1, by omega⟩
    rw [analemmaref06_Same.l0, List.length_map, if_neg (by omega)]
  | d + 1, k, j, hj, hk => by
    obtain ⟨k, rfl⟩ : ∃ m, k = m + 1 := ⟨k - 1, by omega⟩
    have hw : wrap64 ((j : Int) + 1) = ((j + 1 : Nat) : Int) := by unfold wrap64; omega
    rw [analemmaref06_Same.l0, List.length_map, if_pos (by omega), if_pos (by omega), if_pos (by omega), beq_self_eq_true, beq_self_eq_true, hw, if_neg (by decide)]
    exact same_l0 l hl d k (j + 1) (by omega) (by omega)
theorem same_eq (l : List S36) (hl : l.length ≤ 1000000) (k : Nat) (hk : l.length + 1 ≤ k) : analemmaref06_Same.f k (l.map to80) (l.map to80) = some true := by
  unfold analemmaref06_Same.f
  rw [if_pos rfl]
  exact same_l0 l hl l.length k 0 (by omega) (by omega)

theorem bytes_step (k : Nat) (n m i : Int) (l : List Int) (h0 : 0 ≤ i) (h1 : i < m) (hm : m ≤ 8) (hl : l.length ≤ 1000) :
    analemmaref05_Bytes.l0 (k + 1) n m (strOfNums l) i = analemmaref05_Bytes.l0 k (n / 256) m (strOfNums (n % 256 :: l)) (i + 1) := by
  have e : wrap64 (i + 1) = i + 1 := by unfold wrap64; omega
  simp only [analemmaref05_Bytes.l0, Option.bind_some]
  rw [if_pos h1, if_pos (by rw [strOfNums_size, strOfNums_size]; show 1 + l.length ≤ _; omega), e, nums_app]
  rfl

theorem bytes_nil : (⟨#[]⟩ : ByteArray) = strOfNums [] := rfl

theorem bytes1 (k : Nat) (n : Int) (hk : 2 ≤ k) : analemmaref05_Bytes.f k n 1 = some (strOfNums [n % 256]) := by
  obtain ⟨k, rfl⟩ : ∃ q, k = q + 2 := ⟨k - 2, by omega⟩
  unfold analemmaref05_Bytes.f
  rw [bytes_nil, bytes_step _ _ _ _ _ (by omega) (by omega) (by omega) (by simp)]
  simp only [analemmaref05_Bytes.l0]
  rw [if_neg (by omega)]

theorem bytes4 (k : Nat) (n : Int) (hk : 5 ≤ k) : analemmaref05_Bytes.f k n 4 = some (strOfNums (be4 n)) := by
  obtain ⟨k, rfl⟩ : ∃ q, k = q + 5 := ⟨k - 5, by omega⟩
  unfold analemmaref05_Bytes.f
  rw [bytes_nil, bytes_step _ _ _ _ _ (by omega) (by omega) (by omega) (by simp), bytes_step _ _ _ _ _ (by omega) (by omega) (by omega) (by simp),
    bytes_step _ _ _ _ _ (by omega) (by omega) (by omega) (by simp), bytes_step _ _ _ _ _ (by omega) (by omega) (by omega) (by simp)]
  simp only [analemmaref05_Bytes.l0]
  rw [if_neg (by omega)]
  unfold be4
  rw [show n / 256 / 256 / 256 % 256 = n / 16777216 % 256 by omega, show n / 256 / 256 % 256 = n / 65536 % 256 by omega]


/-! Walk and Join undone. -/
theorem bytes2 (k : Nat) (n : Int) (hk : 3 ≤ k) : analemmaref05_Bytes.f k n 2 = some (strOfNums [n / 256 % 256, n % 256]) := by
  obtain ⟨k, rfl⟩ : ∃ q, k = q + 3 := ⟨k - 3, by omega⟩
  unfold analemmaref05_Bytes.f
  rw [bytes_nil, bytes_step _ _ _ _ _ (by omega) (by omega) (by omega) (by simp), bytes_step _ _ _ _ _ (by omega) (by omega) (by omega) (by simp)]
  simp only [analemmaref05_Bytes.l0]
  rw [if_neg (by omega)]
theorem bytesOf_get (s : ByteArray) (i : Nat) (h : i < s.size) : (bytesOf s)[i]? = some (bt s (i : Int)) := by
  have e := rd_bytesOf s (i : Int)
  unfold rd at e
  rw [Int.toNat_natCast, List.getD_eq_getElem?_getD, List.getElem?_eq_getElem (by rw [bytesOf_length]; exact h), Option.getD_some] at e
  rw [List.getElem?_eq_getElem (by rw [bytesOf_length]; exact h), e]
theorem take4 (s : ByteArray) (h : 4 ≤ s.size) : (bytesOf s).take 4 = [bt s 0, bt s 1, bt s 2, bt s 3] := by
  have h0 := bytesOf_get s 0 (by omega)
  have h1 := bytesOf_get s 1 (by omega)
  have h2 := bytesOf_get s 2 (by omega)
  have h3 := bytesOf_get s 3 (by omega)
  generalize bytesOf s = l at *
  match l with
  | [] => simp at h0
  | [a] => simp at h1
  | [a, b] => simp at h2
  | [a, b, c] => simp at h3
  | a :: b :: c :: d :: r => simp at h0 h1 h2 h3; simp [h0, h1, h2, h3]
theorem by_head (x : S36) : By (jn.head x) := by
  unfold jn.head
  exact by_mod _ (by_mod _ (by_mod _ (by_mod _ By.nil)))
theorem bytesOf_piece (x : S36) : bytesOf (jn.piece x) = jn.head x ++ bytesOf x.f1 := by
  unfold jn.piece
  rw [bytesOf_app, bytesOf_nums _ (by_head x)]
theorem piece_size (x : S36) : (jn.piece x).size = 4 + x.f1.size := by
  rw [← bytesOf_length, bytesOf_piece, List.length_append, bytesOf_length]
  rfl
theorem bytesOf_empty : bytesOf (⟨#[]⟩ : ByteArray) = [] := rfl
theorem empty_app (s : ByteArray) : (⟨#[]⟩ : ByteArray) ++ s = s := bytesOf_inj _ _ (by rw [bytesOf_app, bytesOf_empty, List.nil_append])
theorem app_empty (s : ByteArray) : s ++ (⟨#[]⟩ : ByteArray) = s := bytesOf_inj _ _ (by rw [bytesOf_app, bytesOf_empty, List.append_nil])
theorem app_assoc (a b c : ByteArray) : a ++ b ++ c = a ++ (b ++ c) := bytesOf_inj _ _ (by simp only [bytesOf_app, List.append_assoc])
/-- The field that stands ahead. -/
def ext.fst (s : ByteArray) : S36 := ⟨ext.num s 0, s.extract 4 (ext.num s 2).toNat⟩
def ext.rst (s : ByteArray) : ByteArray := s.extract (ext.num s 2).toNat s.size
theorem go_step (n : Nat) (s : ByteArray) (acc : List S36) (h : 24 < s.size) (hok : ext.ok s) : ext.go (n + 1) s acc = ext.go n (ext.rst s) (acc ++ [ext.fst s]) := by
  rw [ext.go, if_pos h, if_pos hok]
  rfl
theorem rst_size (s : ByteArray) (hok : ext.ok s) : (ext.rst s).size + (ext.num s 2).toNat = s.size := by
  unfold ext.rst
  rw [ByteArray.size_extract]
  have := hok.2.2
  have := num_bd2 s 2
  omega
theorem fst_size (s : ByteArray) (hok : ext.ok s) : ((ext.fst s).f1.size : Int) = ext.num s 2 - 4 := by
  show ((s.extract 4 (ext.num s 2).toNat).size : Int) = _
  rw [ByteArray.size_extract]
  have := hok.1
  have := hok.2.2
  omega
theorem fst_rst (s : ByteArray) (hok : ext.ok s) : jn.piece (ext.fst s) ++ ext.rst s = s := by
  apply bytesOf_inj
  have h1 := hok.1
  have h3 := hok.2.2
  have hz := fst_size s hok
  have b0 := bt_range s 0
  have b1 := bt_range s 1
  have b2 := bt_range s 2
  have b3 := bt_range s 3
  have e0 : ext.num s 0 = bt s 0 * 256 + bt s 1 := rfl
  have e2 : ext.num s 2 = bt s 2 * 256 + bt s 3 := rfl
  have hh : jn.head (ext.fst s) = (bytesOf s).take 4 := by
    rw [take4 s (by omega)]
    unfold jn.head
    rw [hz, show (ext.fst s).f0 = ext.num s 0 from rfl, e0, e2]
    rw [show (bt s 0 * 256 + bt s 1) / 256 % 256 = bt s 0 by omega, show (bt s 0 * 256 + bt s 1) % 256 = bt s 1 by omega, show (bt s 2 * 256 + bt s 3 - 4 + 4) / 256 % 256 = bt s 2 by omega, show (bt s 2 * 256 + bt s 3 - 4 + 4) % 256 = bt s 3 by omega]
  rw [bytesOf_app, bytesOf_piece, hh]
  show (bytesOf s).take 4 ++ bytesOf (s.extract 4 (ext.num s 2).toNat) ++ bytesOf (s.extract (ext.num s 2).toNat s.size) = _
  rw [bytesOf_extract, bytesOf_extract, List.take_of_length_le (by rw [bytesOf_length]; exact Nat.le_refl _ : (bytesOf s).length ≤ s.size)]
  rw [show (bytesOf s).take 4 = ((bytesOf s).take (ext.num s 2).toNat).take 4 by rw [List.take_take]; congr 1; omega, List.take_append_drop, List.take_append_drop]
theorem fst_good (s : ByteArray) (hok : ext.ok s) : jn.bad (ext.fst s) = false := by
  have hz := fst_size s hok
  have b0 := num_bd2 s 0
  have b2 := num_bd2 s 2
  have h1 := hok.1
  have h2 := hok.2.1
  unfold jn.bad
  have e : (ext.fst s).f0 = ext.num s 0 := rfl
  rw [e]
  simp only [Bool.or_eq_false_iff, decide_eq_false_iff_not]
  refine ⟨⟨⟨⟨by omega, by omega⟩, by omega⟩, by omega⟩, by omega⟩
/-- What Walk told: its fields and what was left are the text; no field is bad. -/
theorem go_spec : ∀ (n : Nat) (s : ByteArray) (acc : List S36), s.size < n → ∀ x y e, ext.go n s acc = (x, y, e) →
    (e = 0 ∧ ∃ l, x = acc ++ l ∧ jn.all l ++ y = s ∧ (∀ z ∈ l, jn.bad z = false) ∧ macv y.size = true) ∨ (e = 60 ∧ x = [] ∧ y = ⟨#[]⟩)
  | 0, s, acc, h, _, _, _, _ => absurd h (by omega)
  | n + 1, s, acc, h, x, y, e, hg => by
    by_cases q : 24 < s.size
    · by_cases hok : ext.ok s
      · rw [go_step n s acc q hok] at hg
        have hz := rst_size s hok
        have h1 := hok.1
        rcases go_spec n (ext.rst s) _ (by omega) x y e hg with ⟨he, l, h1, h2, h3, h4⟩ | h
        · refine .inl ⟨he, ext.fst s :: l, by rw [h1, List.append_assoc]; rfl, ?_, ?_, h4⟩
          · show jn.piece (ext.fst s) ++ jn.all l ++ y = s
            rw [app_assoc, h2, fst_rst s hok]
          · intro z hz
            rcases List.mem_cons.1 hz with rfl | hz
            · exact fst_good s hok
            · exact h3 z hz
        · exact .inr h
      · rw [ext.go, if_pos q, if_neg hok] at hg
        obtain ⟨rfl, h⟩ := Prod.mk.inj hg
        obtain ⟨rfl, rfl⟩ := Prod.mk.inj h
        exact .inr ⟨rfl, rfl, rfl⟩
    · rw [ext.go, if_neg q] at hg
      cases hm : macv s.size with
      | true =>
        rw [hm, if_pos rfl] at hg
        obtain ⟨rfl, h⟩ := Prod.mk.inj hg
        obtain ⟨rfl, rfl⟩ := Prod.mk.inj h
        exact .inl ⟨rfl, [], (List.append_nil _).symm, empty_app _, (fun z hz => by cases hz), hm⟩
      | false =>
        rw [hm, if_neg (by decide)] at hg
        obtain ⟨rfl, h⟩ := Prod.mk.inj hg
        obtain ⟨rfl, rfl⟩ := Prod.mk.inj h
        exact .inr ⟨rfl, rfl, rfl⟩
theorem any_false (l : List S36) (h : ∀ z ∈ l, jn.bad z = false) : l.any jn.bad = false := by
  rw [List.any_eq_false]
  intro z hz
  rw [h z hz]
  decide
/-! The same fields. -/
theorem toList_eq (a b : ByteArray) : (a.toList == b.toList) = true ↔ a = b := by
  rw [beq_iff_eq]
  exact ⟨toList_inj a b, fun h => by rw [h]⟩
theorem fields_l0 (a b : List S36) (hab : a.length = b.length) (hl : a.length ≤ 1000000) : ∀ (d k j : Nat), j + d = a.length → d + 1 ≤ k → a.take j = b.take j →
    ∃ q, extend_Field.l0 k a b (a.length : Int) (j : Int) = some q ∧ (q = true ↔ a = b)
  | 0, k, j, hj, hk, ht => by
    obtain ⟨k, rfl⟩ : ∃ m, k = m + 1 := ⟨k - 1, by omega⟩
    refine ⟨true, by rw [extend_Field.l0, if_neg (by omega)], fun _ => ?_, fun _ => rfl⟩
    rwa [List.take_of_length_le (by omega), List.take_of_length_le (by omega)] at ht
  | d + 1, k, j, hj, hk, ht => by
    obtain ⟨k, rfl⟩ : ∃ m, k = m + 1 := ⟨k - 1, by omega⟩
    have hw : wrap64 ((j : Int) + 1) = ((j + 1 : Nat) : Int) := by unfold wrap64; omega
    rw [extend_Field.l0, if_pos (by omega), if_pos (by omega), if_pos (by omega), if_pos (by omega), hw, rd_at36 a j (by omega), rd_at36 b j (by omega)]
    by_cases hx : a[j] = b[j]
    · rw [hx, beq_self_eq_true, beq_self_eq_true, if_neg (by decide)]
      refine fields_l0 a b hab hl d k (j + 1) (by omega) (by omega) ?_
      rw [List.take_succ_eq_append_getElem (by omega), List.take_succ_eq_append_getElem (by omega), ht, hx]
    · refine ⟨false, ?_, fun h => absurd h (by decide), fun h => absurd (by simp only [h]) hx⟩
      rw [if_pos]
      cases h0 : (a[j].f0 == b[j].f0) with
      | false => rfl
      | true =>
        cases h1 : (a[j].f1.toList == b[j].f1.toList) with
        | false => rfl
        | true =>
          have e0 := beq_iff_eq.1 h0
          have e1 := (toList_eq _ _).1 h1
          refine absurd ?_ hx
          cases hA : a[j]
          cases hB : b[j]
          rw [hA, hB] at e0 e1
          simp only at e0 e1
          rw [e0, e1]
theorem fields_eq (a b : List S36) (hl : a.length ≤ 1000000) (k : Nat) (hk : a.length + 1 ≤ k) : ∃ q, extend_Field.f k a b = some q ∧ (q = true ↔ a = b) := by
  unfold extend_Field.f
  by_cases h : a.length = b.length
  · rw [if_pos (by omega)]
    exact fields_l0 a b h hl a.length k 0 (by omega) (by omega) rfl
  · rw [if_neg (by omega)]
    exact ⟨false, rfl, fun h => absurd h (by decide), fun e => absurd (by rw [e]) h⟩
theorem to80_inj (a b : S36) (h : to80 a = to80 b) : a = b := by
  cases a
  cases b
  unfold to80 at h
  cases h
  rfl
theorem sames_l0 (a b : List S36) (hab : a.length = b.length) (hl : a.length ≤ 1000000) : ∀ (d k j : Nat), j + d = a.length → d + 1 ≤ k → a.take j = b.take j →
    ∃ q, analemmaref06_Same.l0 k (a.map to80) (b.map to80) (j : Int) = some q ∧ (q = true ↔ a = b)
  | 0, k, j, hj, hk, ht => by
    obtain ⟨k, rfl⟩ : ∃ m, k = m + 1 := ⟨k - 1, by omega⟩
    refine ⟨true, by rw [analemmaref06_Same.l0, List.length_map, if_neg (by omega)], fun _ => ?_, fun _ => rfl⟩
    rwa [List.take_of_length_le (by omega), List.take_of_length_le (by omega)] at ht
  | d + 1, k, j, hj, hk, ht => by
    obtain ⟨k, rfl⟩ : ∃ m, k = m + 1 := ⟨k - 1, by omega⟩
    have hw : wrap64 ((j : Int) + 1) = ((j + 1 : Nat) : Int) := by unfold wrap64; omega
    rw [analemmaref06_Same.l0, List.length_map, List.length_map, if_pos (by omega), if_pos (by omega), if_pos (by omega), hw, rd_at80 a j (by omega), rd_at80 b j (by omega)]
    by_cases hx : a[j] = b[j]
    · rw [hx, beq_self_eq_true, beq_self_eq_true, if_neg (by decide)]
      refine sames_l0 a b hab hl d k (j + 1) (by omega) (by omega) ?_
      rw [List.take_succ_eq_append_getElem (by omega), List.take_succ_eq_append_getElem (by omega), ht, hx]
    · refine ⟨false, ?_, fun h => absurd h (by decide), fun h => absurd (by simp only [h]) hx⟩
      rw [if_pos]
      cases h0 : ((to80 a[j]).f0 == (to80 b[j]).f0) with
      | false => rfl
      | true =>
        cases h1 : ((to80 a[j]).f1.toList == (to80 b[j]).f1.toList) with
        | false => rfl
        | true =>
          have e0 := beq_iff_eq.1 h0
          have e1 := (toList_eq _ _).1 h1
          refine absurd (to80_inj _ _ ?_) hx
          cases hA : to80 a[j]
          cases hB : to80 b[j]
          rw [hA, hB] at e0 e1
          simp only at e0 e1
          rw [e0, e1]
theorem sames_eq (a b : List S36) (hl : a.length ≤ 1000000) (k : Nat) (hk : a.length + 1 ≤ k) : ∃ q, analemmaref06_Same.f k (a.map to80) (b.map to80) = some q ∧ (q = true ↔ a = b) := by
  unfold analemmaref06_Same.f
  rw [List.length_map, List.length_map]
  by_cases h : a.length = b.length
  · rw [if_pos (by omega)]
    exact sames_l0 a b h hl a.length k 0 (by omega) (by omega) rfl
  · rw [if_neg (by omega)]
    exact ⟨false, rfl, fun h => absurd h (by decide), fun e => absurd (by rw [e]) h⟩
/-! Join, by the document. -/
theorem len_all : ∀ l : List S36, 4 * l.length ≤ (jn.all l).size
  | [] => Nat.zero_le _
  | x :: xs => by
    have := len_all xs
    show _ ≤ (jn.piece x ++ jn.all xs).size
    rw [ByteArray.size_append, piece_size, List.length_cons]
    omega
theorem spec_len (n : Nat) (s : ByteArray) (h : s.size < n) (x : List S36) (y : ByteArray) (e : Int) (hg : ext.go n s [] = (x, y, e)) : 4 * x.length ≤ s.size := by
  rcases go_spec n s [] h x y e hg with ⟨_, l, h1, h2, _, _⟩ | ⟨_, h1, _⟩
  · rw [h1, List.nil_append, ← h2, ByteArray.size_append]
    have := len_all l
    omega
  · rw [h1]
    exact Nat.zero_le _
instance : DecidableEq S36 := fun a b => if h : a.f0 = b.f0 ∧ a.f1 = b.f1 then isTrue (by cases a; cases b; simp only at h; rw [h.1, h.2]) else isFalse (fun e => h (by rw [e]; exact ⟨rfl, rfl⟩))
/-- Where all ends: what Join says of the text that it made. -/
def jn.out (l : List S36) (m : ByteArray) : Option (ByteArray × Int) :=
  if ext.go ((jn.all l ++ m).size + 1) (jn.all l ++ m) [] = (l, m, 0) then some (jn.all l ++ m, 0) else some (⟨#[]⟩, 1)
theorem end_out (l : List S36) (m : ByteArray) (hs : (jn.all l ++ m).size ≤ 400000) : jn.end_ l m = if ext.go ((jn.all l ++ m).size + 1) (jn.all l ++ m) [] = (l, m, 0) then some (jn.all l ++ m, 0) else some (⟨#[]⟩, 1) := by
  unfold jn.end_
  obtain ⟨⟨x, y, e⟩, hg⟩ : ∃ r, ext.go ((jn.all l ++ m).size + 1) (jn.all l ++ m) [] = r := ⟨_, rfl⟩
  have hx := spec_len _ _ (Nat.lt_succ_self _) x y e hg
  rw [hg]
  by_cases he : e = 0
  · subst he
    rw [if_pos rfl]
    by_cases hy : y = m
    · subst hy
      obtain ⟨q, hq, hiff⟩ := fields_eq x l (by omega) 100001 (by omega)
      rw [if_pos ((toList_eq y y).2 rfl), hq, Option.bind_some]
      cases q with
      | true =>
        rw [if_pos rfl, if_pos (by rw [hiff.1 rfl])]
      | false =>
        rw [if_neg (by decide), if_neg (fun h => by have := hiff.2 (Prod.mk.inj h).1; cases this)]
    · rw [if_neg (fun h => hy ((toList_eq y m).1 h)), if_neg (fun h => hy (Prod.mk.inj (Prod.mk.inj h).2).1)]
  · rw [if_neg he, if_neg (fun h => he (Prod.mk.inj (Prod.mk.inj h).2).2)]
theorem rjoin_end (k : Nat) (l : List S36) (m : ByteArray) (hs : (jn.all l ++ m).size ≤ 400000) (hk : (jn.all l ++ m).size + 50 ≤ k) :
    analemmaref06_Join.l0 (k + 1) (l.map to80) m (jn.all l) (l.length : Int) = jn.end_ l m := by
  rw [end_out l m hs]
  rw [analemmaref06_Join.l0, List.length_map, if_neg (by omega), if_pos (by rw [← ByteArray.size_append]; omega), rwalk_eq _ (by omega) k (by omega), rmac_eq, Option.bind_some, Option.bind_some]
  obtain ⟨⟨x, y, e⟩, hg⟩ : ∃ r, ext.go ((jn.all l ++ m).size + 1) (jn.all l ++ m) [] = r := ⟨_, rfl⟩
  have hx := spec_len _ _ (Nat.lt_succ_self _) x y e hg
  have hsp := go_spec _ _ _ (Nat.lt_succ_self _) x y e hg
  rw [hg]
  show (if macv m.size = true then (if e = 0 then (if y.toList = m.toList then ((analemmaref06_Same.f k (x.map to80) (l.map to80)).bind fun t164 => (if t164 = true then (some (jn.all l ++ m, 0)) else (some ((⟨#[]⟩ : ByteArray), 1)))) else (some ((⟨#[]⟩ : ByteArray), 1))) else (some ((⟨#[]⟩ : ByteArray), 1))) else (some ((⟨#[]⟩ : ByteArray), 1))) = _
  by_cases he : e = 0
  · subst he
    by_cases hy : y = m
    · subst hy
      have hm : macv y.size = true := by
        rcases hsp with ⟨_, _, _, _, _, h⟩ | ⟨h, _⟩
        · exact h
        · cases h
      obtain ⟨q, hq, hiff⟩ := sames_eq x l (by omega) k (by omega)
      rw [if_pos hm, if_pos rfl, if_pos rfl, hq, Option.bind_some]
      cases q with
      | true =>
        rw [if_pos rfl, if_pos (by rw [hiff.1 rfl])]
      | false =>
        rw [if_neg (by decide), if_neg (fun h => by have := hiff.2 (Prod.mk.inj h).1; cases this)]
    · rw [if_neg (fun h => hy (toList_inj y m h)), if_neg (fun h => hy (Prod.mk.inj (Prod.mk.inj h).2).1), if_pos rfl]
      split <;> rfl
  · rw [if_neg he, if_neg (fun h => he (Prod.mk.inj (Prod.mk.inj h).2).2)]
    split <;> rfl
theorem all_take' (l : List S36) (j : Nat) (hj : j < l.length) : jn.all (l.take (j + 1)) = jn.all (l.take j) ++ jn.piece l[j] := by
  rw [List.take_succ_eq_append_getElem hj, all_app]
  congr 1
  exact app_empty _
theorem rjoin_l0 (l : List S36) (m : ByteArray) (hs : (jn.all l ++ m).size ≤ 400000) : ∀ (d k j : Nat), j + d = l.length → 2 * d + (jn.all l ++ m).size + 60 ≤ k →
    analemmaref06_Join.l0 k (l.map to80) m (jn.all (l.take j)) (j : Int) = if (l.drop j).any jn.bad = true then some (⟨#[]⟩, 1) else jn.end_ l m
  | 0, k, j, hj, hk => by
    obtain ⟨k, rfl⟩ : ∃ q, k = q + 1 := ⟨k - 1, by omega⟩
    rw [List.drop_of_length_le (by omega), List.any_nil, if_neg (by decide), List.take_of_length_le (by omega), show j = l.length by omega]
    exact rjoin_end k l m hs (by omega)
  | d + 1, k, j, hj, hk => by
    obtain ⟨k, rfl⟩ : ∃ q, k = q + 2 := ⟨k - 2, by omega⟩
    have hlen := len_all l
    have hsz := hs
    rw [ByteArray.size_append] at hsz
    have hw : wrap64 ((j : Int) + 1) = ((j + 1 : Nat) : Int) := by unfold wrap64; omega
    have hd : (l.drop j).any jn.bad = (jn.bad l[j] || (l.drop (j + 1)).any jn.bad) := by
      rw [List.drop_eq_getElem_cons (by omega), List.any_cons]
    rw [hd, analemmaref06_Join.l0, List.length_map, if_pos (by omega), if_pos (by omega), rd_at80 l j (by omega)]
    show (if l[j].f0 < 0 then (analemmaref06_Join.j1 (k + 1) (l.map to80) m (jn.all (l.take j)) j (l[j].f1.size : Int) true) else (if l[j].f0 > 65535 then (analemmaref06_Join.j1 (k + 1) (l.map to80) m (jn.all (l.take j)) j (l[j].f1.size : Int) true) else (if (l[j].f1.size : Int) < 12 then (analemmaref06_Join.j1 (k + 1) (l.map to80) m (jn.all (l.take j)) j (l[j].f1.size : Int) true) else (if (l[j].f1.size : Int) > 65528 then (analemmaref06_Join.j1 (k + 1) (l.map to80) m (jn.all (l.take j)) j (l[j].f1.size : Int) true) else (analemmaref06_Join.j1 (k + 1) (l.map to80) m (jn.all (l.take j)) j (l[j].f1.size : Int) ((((l[j].f1.size : Int) % 4) != 0))))))) = _
    have hbad : analemmaref06_Join.j1 (k + 1) (l.map to80) m (jn.all (l.take j)) j (l[j].f1.size : Int) true = some (⟨#[]⟩, 1) := by
      rw [analemmaref06_Join.j1, if_pos rfl]
    rw [hbad]
    cases hb : jn.bad l[j] with
    | true =>
      rw [Bool.true_or, if_pos rfl]
      unfold jn.bad at hb
      simp only [Bool.or_eq_true, decide_eq_true_eq] at hb
      by_cases c1 : l[j].f0 < 0
      · rw [if_pos c1]
      rw [if_neg c1]
      by_cases c2 : l[j].f0 > 65535
      · rw [if_pos c2]
      rw [if_neg c2]
      by_cases c3 : (l[j].f1.size : Int) < 12
      · rw [if_pos c3]
      rw [if_neg c3]
      by_cases c4 : (l[j].f1.size : Int) > 65528
      · rw [if_pos c4]
      rw [if_neg c4]
      have c5 : (((l[j].f1.size : Int) % 4) != 0) = true := bne_iff_ne.2 (by omega)
      rw [c5, hbad]
    | false =>
      rw [Bool.false_or]
      unfold jn.bad at hb
      simp only [Bool.or_eq_false_iff, decide_eq_false_iff_not] at hb
      obtain ⟨⟨⟨⟨c1, c2⟩, c3⟩, c4⟩, c5⟩ := hb
      have c5' : (((l[j].f1.size : Int) % 4) != 0) = false := bne_eq_false_iff_eq.2 (by omega)
      have ht := all_take l j
      have ht' := all_take l (j + 1)
      rw [all_take' l j (by omega), ByteArray.size_append, piece_size] at ht'
      rw [if_neg c1, if_neg (by omega), if_neg (by omega), if_neg (by omega), c5', analemmaref06_Join.j1, if_neg (by decide), if_pos (by omega), List.length_map, if_pos (by omega), rd_at80 l j (by omega)]
      have w1 : IntKind.u64.wrap (to80 l[j]).f0 = l[j].f0 := by
        show IntKind.u64.wrap l[j].f0 = _
        rw [IntKind.wrap_u64]
        omega
      have w2 : IntKind.u64.wrap (wrap64 ((l[j].f1.size : Int) + 4)) = (l[j].f1.size : Int) + 4 := by
        rw [show wrap64 ((l[j].f1.size : Int) + 4) = (l[j].f1.size : Int) + 4 by unfold wrap64; omega, IntKind.wrap_u64]
        omega
      rw [w1, w2, bytes2 k _ (by omega), bytes2 k _ (by omega), Option.bind_some, Option.bind_some]
      have z2 : ∀ a b : Int, (strOfNums [a, b]).size = 2 := fun a b => strOfNums_size _
      rw [if_pos (by rw [z2]; omega), if_pos (by rw [ByteArray.size_append, z2, z2]; omega), if_pos (by rw [ByteArray.size_append, ByteArray.size_append, z2, z2]; show _ + l[j].f1.size ≤ _; omega), hw]
      have e : jn.all (l.take j) ++ strOfNums [l[j].f0 / 256 % 256, l[j].f0 % 256] ++ strOfNums [((l[j].f1.size : Int) + 4) / 256 % 256, ((l[j].f1.size : Int) + 4) % 256] ++ (to80 l[j]).f1 = jn.all (l.take (j + 1)) := by
        rw [all_take' l j (by omega), app_assoc (jn.all (l.take j)), nums_app, app_assoc]
        rfl
      rw [e]
      exact rjoin_l0 l m hs d k (j + 1) (by omega) (by omega)
theorem rjoin_eq (l : List S36) (m : ByteArray) (hs : (jn.all l ++ m).size ≤ 400000) (k : Nat) (hk : 2 * l.length + (jn.all l ++ m).size + 60 ≤ k) : analemmaref06_Join.f k (l.map to80) m = jn.res l m := by
  unfold analemmaref06_Join.f
  have := rjoin_l0 l m hs l.length k 0 (by omega) (by omega)
  exact this
theorem join_eq (l : List S36) (m : ByteArray) (hs : (jn.all l ++ m).size ≤ 400000) : extend_Join.f l m = if l.any jn.bad = true then some (⟨#[]⟩, 1) else jn.out l m := by
  have h := len_all l
  have hz := hs
  rw [ByteArray.size_append] at hz
  unfold extend_Join.f
  rw [if_pos ⟨by omega, by omega⟩]
  unfold jn.res
  rw [end_out l m hs]
  rfl

theorem leo_up {α : Type} {f : Nat → Option α} (h : ∀ k, LeO (f k) (f (k + 1))) {n : Nat} {r : α} (h0 : f n = some r) : ∀ d, f (n + d) = some r
  | 0 => h0
  | d + 1 => h (n + d) r (leo_up h h0 d)
theorem leo_at {α : Type} {f : Nat → Option α} (h : ∀ k, LeO (f k) (f (k + 1))) {n : Nat} {r : α} (h0 : f n = some r) (k : Nat) (hk : n ≤ k) : f k = some r := by
  have := leo_up h h0 (k - n)
  rwa [show n + (k - n) = k by omega] at this
theorem ext_shown (k : Nat) (hk : 20 ≤ k) : analemmalaw06_shown.f k = some true := leo_at (f := fun k => analemmalaw06_shown.f k) analemmalaw06_shown.mono (n := 20) (by decide +kernel) k hk

def wts : List S36 → Nat
  | [] => 0
  | x :: xs => 1 + min x.f1.size 8192 + wts xs
theorem wts_app : ∀ a b : List S36, wts (a ++ b) = wts a + wts b
  | [], b => by simp [wts]
  | x :: xs, b => by
    rw [List.cons_append, wts, wts, wts_app xs b]
    omega
theorem wts_len : ∀ l : List S36, l.length ≤ wts l
  | [] => Nat.le_refl _
  | x :: xs => by
    have := wts_len xs
    rw [wts, List.length_cons]
    omega
theorem all_wts : ∀ l : List S36, wts l ≤ 8192 → (jn.all l).size ≤ 4 * wts l
  | [], _ => Nat.le_refl _
  | x :: xs, h => by
    rw [wts] at h ⊢
    have := all_wts xs (by omega)
    show (jn.piece x ++ jn.all xs).size ≤ _
    rw [ByteArray.size_append, piece_size]
    omega
theorem heavy_l0 (l : List S36) (N : Nat) (hN : N = 4096) (d : Nat) : ∀ (k j : Nat), j ≤ l.length → N + 1 ≤ wts (l.take j) + d → wts (l.take j) ≤ N + 9000 → d + 2 ≤ k → ∃ q, analemmalaw06_heavy.l0 k l (wts (l.take j) : Int) (j : Int) = some q ∧ (q = false → wts l ≤ N) := by
  induction d with
  | zero =>
    intro k j hj hd hb hk
    obtain ⟨k, rfl⟩ : ∃ m, k = m + 1 := ⟨k - 1, by omega⟩
    refine ⟨true, ?_, fun h => by cases h⟩
    by_cases q : j < l.length
    · rw [analemmalaw06_heavy.l0, if_pos (by omega), if_neg (by omega)]
      exact congrArg some (decide_eq_true (by omega))
    · rw [analemmalaw06_heavy.l0, if_neg (by omega)]
      exact congrArg some (decide_eq_true (by omega))
  | succ d ih =>
    intro k j hj hd hb hk
    obtain ⟨k, rfl⟩ : ∃ m, k = m + 1 := ⟨k - 1, by omega⟩
    by_cases c : wts (l.take j) ≤ N
    · by_cases q : j < l.length
      · have hl := wts_len (l.take j)
        rw [List.length_take] at hl
        have ht : wts (l.take (j + 1)) = wts (l.take j) + (1 + min l[j].f1.size 8192) := by
          rw [List.take_succ_eq_append_getElem q, wts_app, wts, wts]
          omega
        obtain ⟨a, ha⟩ : ∃ a, wts (l.take j) = a := ⟨_, rfl⟩
        obtain ⟨b, hb'⟩ : ∃ b, wts (l.take (j + 1)) = b := ⟨_, rfl⟩
        obtain ⟨c', hc'⟩ : ∃ c', min l[j].f1.size 8192 = c' := ⟨_, rfl⟩
        have hc2 : c' ≤ 8192 := by omega
        have ih' := ih k (j + 1) (by omega)
        have q1 : (j : Int) < (l.length : Int) := by omega
        have q3 : 0 ≤ (j : Int) := by omega
        have hw : wrap64 ((j : Int) + 1) = ((j + 1 : Nat) : Int) := by have := hl; unfold wrap64; omega
        rw [ha, hb', hc'] at ht
        rw [ha] at hd hb c hl
        rw [hb'] at ih'
        rw [ha]
        have q2 : (a : Int) ≤ 4096 := by clear ih'; omega
        have hw2 : wrap64 ((a : Int) + (1 + (c' : Int))) = (b : Int) := by clear ih' hw; unfold wrap64; omega
        have i1 : N + 1 ≤ b + d := by clear ih' hw hw2; omega
        have i2 : b ≤ N + 9000 := by clear ih' hw hw2; omega
        have hm : (mn ((l[j].f1.size : Nat) : Int) 8192) = (c' : Int) := by clear ih' hw hw2 ht; unfold mn; split <;> omega
        rw [analemmalaw06_heavy.l0, if_pos q1, if_pos q2, if_pos q3, rd_at36 l j q, hm, hw, hw2]
        exact ih' i1 i2 (by clear ih' hw hw2 hm; omega)
      · refine ⟨false, ?_, fun _ => ?_⟩
        · rw [analemmalaw06_heavy.l0, if_neg (by omega)]
          exact congrArg some (decide_eq_false (by omega))
        · rw [List.take_of_length_le (by omega)] at c
          exact c
    · refine ⟨true, ?_, fun h => by cases h⟩
      by_cases q : j < l.length
      · rw [analemmalaw06_heavy.l0, if_pos (by omega), if_neg (by omega)]
        exact congrArg some (decide_eq_true (by omega))
      · rw [analemmalaw06_heavy.l0, if_neg (by omega)]
        exact congrArg some (decide_eq_true (by omega))
theorem heavy_eq (l : List S36) (k : Nat) (hk : 5000 ≤ k) : ∃ q, analemmalaw06_heavy.f k l = some q ∧ (q = false → wts l ≤ 4096) := by
  unfold analemmalaw06_heavy.f
  exact heavy_l0 l 4096 rfl 4097 k 0 (by omega) (by simp [wts]) (by simp [wts]) (by omega)
theorem join_res (l : List S36) (m : ByteArray) (hs : (jn.all l ++ m).size ≤ 400000) : extend_Join.f l m = jn.res l m := by
  have h := len_all l
  rw [ByteArray.size_append] at hs
  unfold extend_Join.f
  rw [if_pos ⟨by omega, by omega⟩]
theorem join_cases (l : List S36) (m : ByteArray) (hs : (jn.all l ++ m).size ≤ 400000) :
    (jn.res l m = some (jn.all l ++ m, 0) ∧ l.any jn.bad = false ∧ ext.go ((jn.all l ++ m).size + 1) (jn.all l ++ m) [] = (l, m, 0)) ∨ jn.res l m = some (⟨#[]⟩, 1) := by
  have h := (join_res l m hs).symm.trans (join_eq l m hs)
  rw [h]
  cases hb : l.any jn.bad with
  | true => exact .inr (if_pos rfl)
  | false =>
    rw [if_neg (by decide)]
    unfold jn.out
    by_cases g : ext.go ((jn.all l ++ m).size + 1) (jn.all l ++ m) [] = (l, m, 0)
    · rw [if_pos g]
      exact .inl ⟨rfl, rfl, g⟩
    · rw [if_neg g]
      exact .inr rfl


end Go.Proofs.Ytlbelgdcicholaa.Pure
