/- The statement over numbers and lists that is left of the law HeaderDecodes; no condition but the kinds of its arguments. -/
import Derived.Test.YtilbkdlbbnkgdaaBHeader
import Derived.Test.YtilbkdlbbnkgdaaMHeaderx9
namespace Go.Proofs.Ytilbkdlbbnkgdaa.Pure
open Go.RowKit Go.Proofs.Ytilbkdlbbnkgdaa.MHeader Go.Proofs.YtilbkdlbbnkgdaaW.PrintWords Go.Proofs.YtilbkdlbbnkgdaaW.PrintLast Go.Proofs.YtilbkdlbbnkgdaaW.PrintMore
set_option linter.unusedVariables false
set_option linter.unusedSimpArgs false

theorem decs_same (k : Nat) (s rest : ByteArray) (a0 a1 a2 a3 a4 a5 a6 a7 a8 a9 a10 a11 a12 e : Int) (hs : s.size ≤ 140737488355328) (hk : 20 ≤ k) (h : header_Decode.f s = some (a0, a1, a2, a3, a4, a5, a6, a7, a8, a9, a10, a11, a12, rest, e)) :
    analemmalaw05_HeaderDecodes.j0 (k + 1) s false = analemmalaw05_HeaderDecodes.j1 k s rest e false a0 a1 a2 a3 a4 a5 a6 a7 a8 a9 a10 a11 a12 := by
  have r := refdec k s hs hk
  rw [h] at r
  simp only [analemmalaw05_HeaderDecodes.j0]
  rw [if_neg (by simp), h, r]
  simp only [Option.bind_some, beq_self_eq_true, Bool.not_true, Bool.or_false, Bool.or_self, Bool.false_eq_true, if_false, if_true, bne_self_eq_false]

theorem HeaderDecodes : analemmalaw05_HeaderDecodes.Pure := by
  intro s hs0
  have hs : s.size ≤ 140737488355328 := by omega
  refine ⟨60, ?_⟩
  unfold analemmalaw05_HeaderDecodes.f
  by_cases c : (s.size : Int) > 2048
  · rw [if_pos c]
    simp only [analemmalaw05_HeaderDecodes.j0]
    rw [if_pos trivial, hdr_shown 59 (by omega)]
    rfl
  · rw [if_neg c, hdr_shown 60 (by omega)]
    show analemmalaw05_HeaderDecodes.j0 (59 + 1) s false = some true
    by_cases hz : s.size < 48
    · rw [decs_same 59 s _ _ _ _ _ _ _ _ _ _ _ _ _ _ _ hs (by omega) (dec_short s hz)]
      simp only [analemmalaw05_HeaderDecodes.j1]
      rw [if_neg (by decide), if_neg (by decide)]
      simp
    · by_cases hv : 1 ≤ bt s 0 / 8 % 8 ∧ bt s 0 / 8 % 8 ≤ 4
      · have b0 := bt_range s 0
        rw [decs_same 59 s _ _ _ _ _ _ _ _ _ _ _ _ _ _ _ hs (by omega) (dec_good s (by omega) hs hv)]
        simp only [analemmalaw05_HeaderDecodes.j1]
        rw [if_neg (by simp), if_pos trivial, enc_ok 58 _ _ _ _ _ _ _ _ _ _ _ _ _ (rg_bytes s hv) (num4_bd s 4) (num4_bd s 8) (num4_bd s 12) (by omega), mayf, (may_iff _ _ _ _ _ _).2 (rg_bytes s hv)]
        simp only [Option.bind_some, if_true]
        have e : strOfNums (hb (bt s 0 / 64) (bt s 0 / 8 % 8) (bt s 0 % 8) (bt s 1) (header_Decode.sgn (bt s 2)) (header_Decode.sgn (bt s 3)) (header_get.num s 4 4) (header_get.num s 8 4) (header_get.num s 12 4) (header_get.num s 16 8) (header_get.num s 24 8) (header_get.num s 32 8) (header_get.num s 40 8)) ++ s.extract 48 s.size = s := by
          apply bytesOf_inj
          rw [bytesOf_app, bytesOf_nums _ (by_hb _ _ _ _ _ _ _ _ _ _ _ _ _ (rg_bytes s hv)), bytesOf_extract, List.take_of_length_le (by rw [bytesOf_length]; omega)]
          exact (bytes_hb s (by omega)).symm
        rw [e, if_pos rfl, if_pos (by rw [strOfNums_size, hb_length, ByteArray.size_extract]; omega)]
      · rw [decs_same 59 s _ _ _ _ _ _ _ _ _ _ _ _ _ _ _ hs (by omega) (dec_bad s (by omega) hs (by omega))]
        simp only [analemmalaw05_HeaderDecodes.j1]
        rw [if_neg (by decide), if_neg (by decide)]
        simp


end Go.Proofs.Ytilbkdlbbnkgdaa.Pure
