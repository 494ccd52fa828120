/- The statement over numbers and lists that is left of the law HeaderAsks; no condition but the kinds of its arguments. -/
import Derived.Test.YtilbkdlbbnkgdaaBHeader
import Derived.Test.YtilbkdlbbnkgdaaMHeaderx10
namespace Go.Proofs.Ytilbkdlbbnkgdaa.Pure
open Go.RowKit Go.Proofs.Ytilbkdlbbnkgdaa.MHeader Go.Proofs.YtilbkdlbbnkgdaaW.PrintWords Go.Proofs.YtilbkdlbbnkgdaaW.PrintLast Go.Proofs.YtilbkdlbbnkgdaaW.PrintMore
set_option linter.unusedVariables false
set_option linter.unusedSimpArgs false

theorem four_step (s : ByteArray) (h : s.size < 4) : header_Ref.four (s ++ (⟨#[0]⟩ : ByteArray)) = header_Ref.four s := by
  apply bytesOf_inj
  unfold header_Ref.four
  rw [bytesOf_extract, bytesOf_extract, bytesOf_app, bytesOf_app, bytesOf_app]
  have e : (bytesOf s).length < 4 := by rw [bytesOf_length]; exact h
  generalize bytesOf s = l at e
  match l, e with
  | [], _ => rfl
  | [_], _ => rfl
  | [_, _], _ => rfl
  | [_, _, _], _ => rfl
  | _ :: _ :: _ :: _ :: _, e => exact absurd e (by simp only [List.length_cons]; omega)

theorem bt_left (s t : ByteArray) (i : Int) (h0 : 0 ≤ i) (h : i < s.size) : bt (s ++ t) i = bt s i := by
  rw [← rd_bytesOf, ← rd_bytesOf, bytesOf_app]
  unfold rd
  rw [List.getD_eq_getElem?_getD, List.getD_eq_getElem?_getD, List.getElem?_append_left (by rw [bytesOf_length]; omega)]

theorem num_left (s t : ByteArray) (m : Nat) (h : m ≤ s.size) : header_get.num (s ++ t) 0 m = header_get.num s 0 m := by
  induction m with
  | zero => rfl
  | succ m ih =>
    simp only [header_get.num]
    rw [ih (by omega), bt_left _ _ _ (by omega) (by omega)]

theorem ref_l0 (d : Nat) : ∀ (k : Nat) (s : ByteArray), s.size + d ≥ 4 → s.size ≤ 2048 → d + 20 ≤ k → analemmaref05_Ref.l0 k s = some (header_get.num (header_Ref.four s) 0 4 % 4294967296) := by
  induction d with
  | zero =>
    intro k s h hs hk
    obtain ⟨k, rfl⟩ : ∃ q, k = q + 1 := ⟨k - 1, by omega⟩
    have z4 : (⟨#[0, 0, 0, 0]⟩ : ByteArray).size = 4 := rfl
    simp only [analemmaref05_Ref.l0]
    rw [if_neg (by omega), if_pos (by omega), if_pos (by omega), number_eq k s 0 4 (by omega) (by omega) (by omega) (by omega)]
    unfold header_Ref.four
    rw [num_ext _ 0 4 4 (by omega) (by rw [ByteArray.size_append, z4]; omega), num_left _ _ _ (by omega)]
    rfl
  | succ d ih =>
    intro k s h hs hk
    by_cases c : s.size < 4
    · obtain ⟨k, rfl⟩ : ∃ q, k = q + 1 := ⟨k - 1, by omega⟩
      have z1 : (⟨#[0]⟩ : ByteArray).size = 1 := rfl
      simp only [analemmaref05_Ref.l0]
      rw [if_pos (by omega), if_pos (by omega), ih k _ (by rw [ByteArray.size_append, z1]; omega) (by rw [ByteArray.size_append, z1]; omega) (by omega), four_step s c]
    · exact ih k s (by omega) hs (by omega)

theorem HeaderAsks : analemmalaw05_HeaderAsks.Pure := by
  intro v p t s hv0 hp0 ht0 hs0
  have hv := bounds_i64 hv0
  have hp := bounds_i64 hp0
  have ht := bounds_u64 ht0
  refine ⟨80, ?_⟩
  unfold analemmalaw05_HeaderAsks.f
  by_cases c : (s.size : Int) > 2048
  · rw [if_pos c]
    simp only [analemmalaw05_HeaderAsks.j0]
    rw [if_pos trivial, hdr_shown 79 (by omega)]
    rfl
  · rw [if_neg c, hdr_shown 80 (by omega)]
    show analemmalaw05_HeaderAsks.j0 (79 + 1) v p t s false = some true
    have er : header_Ref.f s = some (header_get.num (header_Ref.four s) 0 4 % 4294967296) := by
      unfold header_Ref.f
      rw [if_pos (by omega)]
    have er2 : analemmaref05_Ref.f 79 s = some (header_get.num (header_Ref.four s) 0 4 % 4294967296) := ref_l0 4 79 s (by omega) (by omega) (by omega)
    simp only [analemmalaw05_HeaderAsks.j0]
    rw [if_neg (by simp)]
    unfold header_Ask.f analemmaref05_Ask.f
    rw [refenc 79 0 v 3 0 p 0 0 0 0 0 0 0 t (by omega) (by omega) (by omega) (by omega), er, er2]
    by_cases h : Rg 0 v 3 0 p 0
    · rw [enc_ok 79 0 v 3 0 p 0 0 0 0 0 0 0 t h (by omega) (by omega) (by omega) (by omega)]
      simp only [Option.bind_some, if_true, bne_self_eq_false]
      simp only [analemmalaw05_HeaderAsks.j1]
      rw [if_neg (by simp), if_pos trivial, dec_hb (strOfNums (hb 0 v 3 0 p 0 0 0 0 0 0 0 t)) [] 0 v 3 0 p 0 0 0 0 0 0 0 t h (by omega) (by omega) (by omega) (by omega) (by omega) (by omega) ht (by rw [strOfNums_size, hb_length]; omega) (by rw [bytesOf_nums _ (by_hb _ _ _ _ _ _ _ _ _ _ _ _ _ h), List.append_nil])]
      simp
    · rw [enc_no 79 0 v 3 0 p 0 0 0 0 0 0 0 t h]
      simp only [Option.bind_some, if_true, bne_self_eq_false]
      simp only [analemmalaw05_HeaderAsks.j1]
      rw [if_neg (by decide), if_neg (by decide)]
      simp


end Go.Proofs.Ytilbkdlbbnkgdaa.Pure
