/- So many bytes alone are a MAC just if they are 0, 4, 20 or 24, and as many behind a field are its; no condition but the kind of its argument. -/
import Derived.Test.YtlbelgdcicholaaBExt
import Derived.Test.YtlbelgdcicholaaMExtx11
namespace Go.Proofs.Ytlbelgdcicholaa.Pure
open Go.RowKit Go.Proofs.Ytlbelgdcicholaa.MExt Go.Proofs.YtlbelgdcicholaaW.PrintWords Go.Proofs.YtlbelgdcicholaaW.PrintLast Go.Proofs.YtlbelgdcicholaaW.PrintMore
set_option linter.unusedVariables false
set_option linter.unusedSimpArgs false

def emm (n : Nat) : ByteArray := strOfNums (List.replicate n 109)
theorem emm_size (n : Nat) : (emm n).size = n := by
  unfold emm
  rw [strOfNums_size, List.length_replicate]
theorem emm_succ (n : Nat) : emm n ++ (⟨#[109]⟩ : ByteArray) = emm (n + 1) := by
  unfold emm
  rw [List.replicate_succ', ← nums_app]
  rfl
def emf : ByteArray := ⟨#[0, 7, 0, 28, 97, 98, 99, 100, 101, 102, 103, 104, 105, 106, 107, 108, 109, 110, 111, 112, 113, 114, 115, 116, 117, 118, 119, 120]⟩
theorem walk_of (s : ByteArray) (n : Nat) (hs : s.size ≤ 1000) (hn : s.size < n) (acc : List S36) (h : s.size ≤ 24) : ext.go n s acc = if macv s.size = true then (acc, s, 0) else ([], ⟨#[]⟩, 60) := by
  obtain ⟨n, rfl⟩ : ∃ m, n = m + 1 := ⟨n - 1, by omega⟩
  rw [ext.go, if_neg (by omega)]
theorem emf_go (m : ByteArray) (hm : m.size ≤ 24) : ∃ x : S36, x.f0 = 7 ∧ ext.go ((emf ++ m).size + 1) (emf ++ m) [] = if macv m.size = true then ([x], m, 0) else ([], ⟨#[]⟩, 60) := by
  have hz : (emf ++ m).size = 28 + m.size := by rw [ByteArray.size_append]; rfl
  have g : ∀ i : Nat, i < 28 → bt (emf ++ m) (i : Int) = bt emf (i : Int) := by
    intro i hi
    rw [← rd_bytesOf, ← rd_bytesOf, bytesOf_app]
    unfold rd
    rw [Int.toNat_natCast, List.getD_eq_getElem?_getD, List.getD_eq_getElem?_getD, List.getElem?_append_left (by rw [bytesOf_length]; exact hi)]
  have n2 : ext.num (emf ++ m) 2 = 28 := by
    have a := g 2 (by omega)
    have b := g 3 (by omega)
    show bt (emf ++ m) 2 * 256 + bt (emf ++ m) 3 = 28
    rw [show (2 : Int) = ((2 : Nat) : Int) from rfl, show (3 : Int) = ((3 : Nat) : Int) from rfl, a, b]
    decide +kernel
  have n0 : ext.num (emf ++ m) 0 = 7 := by
    have a := g 0 (by omega)
    have b := g 1 (by omega)
    show bt (emf ++ m) 0 * 256 + bt (emf ++ m) 1 = 7
    rw [show (0 : Int) = ((0 : Nat) : Int) from rfl, show (1 : Int) = ((1 : Nat) : Int) from rfl, a, b]
    decide +kernel
  have hok : ext.ok (emf ++ m) := by
    unfold ext.ok
    rw [n2, hz]
    exact ⟨by omega, by omega, by omega⟩
  have hr : ext.rst (emf ++ m) = m := by
    unfold ext.rst
    rw [n2, hz]
    apply bytesOf_inj
    rw [bytesOf_extract, bytesOf_app, List.take_of_length_le (by rw [List.length_append, bytesOf_length, bytesOf_length]; exact Nat.le_refl _), List.drop_append_of_le_length (by rw [bytesOf_length]; exact Nat.le_refl _), List.drop_of_length_le (by rw [bytesOf_length]; exact Nat.le_refl _)]
    rfl
  refine ⟨ext.fst (emf ++ m), n0, ?_⟩
  rw [go_step _ _ _ (by omega) hok, hr, walk_of m _ (by omega) (by omega) _ hm]
  rfl
theorem macs_l0 (n : Nat) (hn : n ≤ 24) : ∀ (d k j : Nat), j + d = n → d + 1 ≤ k → ∃ k', k' + d + 1 = k ∧ analemmalaw06_ExtendMacs.l0 k (n : Int) (emm j) (j : Int) = analemmalaw06_ExtendMacs.l0 (k' + 1) (n : Int) (emm n) (n : Int)
  | 0, k, j, hj, hk => ⟨k - 1, by omega, by rw [show j = n by omega, show k - 1 + 1 = k by omega]⟩
  | d + 1, k, j, hj, hk => by
    obtain ⟨k, rfl⟩ : ∃ m, k = m + 1 := ⟨k - 1, by omega⟩
    have hw : wrap64 ((j : Int) + 1) = ((j + 1 : Nat) : Int) := by unfold wrap64; omega
    obtain ⟨k', h1, h2⟩ := macs_l0 n hn d k (j + 1) (by omega) (by omega)
    refine ⟨k', by omega, ?_⟩
    rw [← h2, analemmalaw06_ExtendMacs.l0, if_pos (by omega), if_pos (by rw [emm_size]; omega), emm_succ, hw]
set_option maxRecDepth 10000 in
theorem ExtendMacs : analemmalaw06_ExtendMacs.Pure := by
  intro a0 h
  have hr := bounds_u8 h
  obtain ⟨n, hn⟩ : ∃ n : Nat, Int.tmod (wrap64 a0) 25 = (n : Int) := by
    refine ⟨(a0 % 25).toNat, ?_⟩
    rw [show wrap64 a0 = a0 by unfold wrap64; omega, Int.tmod_eq_emod_of_nonneg hr.1]
    omega
  have h24 : n ≤ 24 := by
    rw [show wrap64 a0 = a0 by unfold wrap64; omega, Int.tmod_eq_emod_of_nonneg hr.1] at hn
    omega
  refine ⟨200, ?_⟩
  unfold analemmalaw06_ExtendMacs.f
  rw [hn]
  obtain ⟨k, hk, e⟩ := macs_l0 n h24 n 200 0 (by omega) (by omega)
  have e0 : (⟨#[]⟩ : ByteArray) = emm 0 := rfl
  rw [e0]
  refine e.trans ?_
  have hz := emm_size n
  obtain ⟨x, hx, hg⟩ := emf_go (emm n) (by omega)
  have hb : ∀ r : List S36 × ByteArray × Int, (if (n : Int) = 0 then (analemmalaw06_ExtendMacs.j1 k (emm n) r.1 r.2.1 r.2.2 true) else (if (n : Int) = 4 then (analemmalaw06_ExtendMacs.j1 k (emm n) r.1 r.2.1 r.2.2 true) else (if (n : Int) = 20 then (analemmalaw06_ExtendMacs.j1 k (emm n) r.1 r.2.1 r.2.2 true) else (analemmalaw06_ExtendMacs.j1 k (emm n) r.1 r.2.1 r.2.2 ((n : Int) == 24))))) = analemmalaw06_ExtendMacs.j1 k (emm n) r.1 r.2.1 r.2.2 (macv n) := by
    intro r
    by_cases c0 : n = 0
    · subst c0; rfl
    rw [if_neg (by omega)]
    by_cases c4 : n = 4
    · subst c4; rfl
    rw [if_neg (by omega)]
    by_cases c20 : n = 20
    · subst c20; rfl
    rw [if_neg (by omega)]
    congr 1
    unfold macv
    rw [beq_eq_false_iff_ne.2 c0, beq_eq_false_iff_ne.2 c4, beq_eq_false_iff_ne.2 c20]
    by_cases c24 : n = 24
    · subst c24; rfl
    · rw [beq_eq_false_iff_ne.2 c24, beq_eq_false_iff_ne.2 (by omega : (n : Int) ≠ 24)]
      rfl
  obtain ⟨k, rfl⟩ : ∃ m, k = m + 1 := ⟨k - 1, by omega⟩
  rw [analemmalaw06_ExtendMacs.l0, if_neg (by omega), walk_eq _ (by omega), Option.bind_some, hb, analemmalaw06_ExtendMacs.j1, if_pos (by omega)]
  show ((extend_Walk.f (emf ++ emm n)).bind _) = _
  have hz2 : (emf ++ emm n).size = 28 + n := by rw [ByteArray.size_append, hz]; rfl
  rw [walk_eq _ (by omega), Option.bind_some, hg, walk_of (emm n) _ (by omega) (by omega) _ (by omega), hz, ext_shown _ (by omega)]
  cases hm : macv n with
  | true =>
    simp only [if_true, Option.bind_some]
    rw [if_neg (by decide), if_neg (by decide), if_pos (by rfl), if_pos (by rfl), if_pos (by show (0 : Int) < 1; omega), show rd_T36 [x] 0 = x from rfl, if_pos hx, (toList_eq _ _).2 rfl]
  | false =>
    simp only [Bool.false_eq_true, if_false, Option.bind_some, if_true]
    rw [if_neg (by decide), if_neg (by decide)]


end Go.Proofs.Ytlbelgdcicholaa.Pure
