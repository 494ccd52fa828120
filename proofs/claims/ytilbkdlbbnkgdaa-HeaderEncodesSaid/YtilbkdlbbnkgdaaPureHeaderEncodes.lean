/- The statement over numbers and lists that is left of the law HeaderEncodes; no condition but the kinds of its arguments. -/
import Derived.Test.YtilbkdlbbnkgdaaBHeader
import Derived.Test.YtilbkdlbbnkgdaaMHeaderx6
namespace Go.Proofs.Ytilbkdlbbnkgdaa.Pure
open Go.RowKit Go.Proofs.Ytilbkdlbbnkgdaa.MHeader Go.Proofs.YtilbkdlbbnkgdaaW.PrintWords Go.Proofs.YtilbkdlbbnkgdaaW.PrintLast Go.Proofs.YtilbkdlbbnkgdaaW.PrintMore
set_option linter.unusedVariables false
set_option linter.unusedSimpArgs false

theorem HeaderEncodes (a0 a1 a2 a3 a4 a5 a6 a7 a8 a9 a10 a11 a12 : Int) (w0 : (Lit.int .i64 a0).wf = true) (w1 : (Lit.int .i64 a1).wf = true) (w2 : (Lit.int .i64 a2).wf = true) (w3 : (Lit.int .i64 a3).wf = true) (w4 : (Lit.int .i64 a4).wf = true) (w5 : (Lit.int .i64 a5).wf = true) (w6 : (Lit.int .u32 a6).wf = true) (w7 : (Lit.int .u32 a7).wf = true) (w8 : (Lit.int .u32 a8).wf = true) (w9 : (Lit.int .u64 a9).wf = true) (w10 : (Lit.int .u64 a10).wf = true) (w11 : (Lit.int .u64 a11).wf = true) (w12 : (Lit.int .u64 a12).wf = true) :
    ∃ k, analemmalaw05_HeaderEncodes.f k a0 a1 a2 a3 a4 a5 a6 a7 a8 a9 a10 a11 a12 = some true := by
  have h6 := bounds_u32 w6
  have h7 := bounds_u32 w7
  have h8 := bounds_u32 w8
  have h9 := bounds_u64 w9
  have h10 := bounds_u64 w10
  have h11 := bounds_u64 w11
  have h12 := bounds_u64 w12
  refine ⟨60, ?_⟩
  unfold analemmalaw05_HeaderEncodes.f
  rw [refenc 60 a0 a1 a2 a3 a4 a5 a6 a7 a8 a9 a10 a11 a12 h6 h7 h8 (by omega), refmay, mayf]
  by_cases h : Rg a0 a1 a2 a3 a4 a5
  · rw [enc_ok 60 a0 a1 a2 a3 a4 a5 a6 a7 a8 a9 a10 a11 a12 h h6 h7 h8 (by omega), hdr_shown 60 (by omega)]
    simp only [Option.bind_some, if_true, bne_self_eq_false]
    rw [if_neg (by decide)]
    show analemmalaw05_HeaderEncodes.j0 (59 + 1) _ 0 false a0 a1 a2 a3 a4 a5 a6 a7 a8 a9 a10 a11 a12 = some true
    simp only [analemmalaw05_HeaderEncodes.j0]
    rw [if_neg (by decide), if_pos trivial, dec_hb (strOfNums (hb a0 a1 a2 a3 a4 a5 a6 a7 a8 a9 a10 a11 a12)) [] a0 a1 a2 a3 a4 a5 a6 a7 a8 a9 a10 a11 a12 h h6 h7 h8 h9 h10 h11 h12 (by rw [strOfNums_size, hb_length]; omega) (by rw [bytesOf_nums _ (by_hb _ _ _ _ _ _ _ _ _ _ _ _ _ h), List.append_nil])]
    simp only [Option.bind_some, beq_self_eq_true, Bool.and_self, if_true]
    have e : (strOfNums (hb a0 a1 a2 a3 a4 a5 a6 a7 a8 a9 a10 a11 a12)).extract 48 (strOfNums (hb a0 a1 a2 a3 a4 a5 a6 a7 a8 a9 a10 a11 a12)).size = (⟨#[]⟩ : ByteArray) := by
      apply bytesOf_inj
      rw [bytesOf_extract, bytesOf_nums _ (by_hb _ _ _ _ _ _ _ _ _ _ _ _ _ h), List.drop_eq_nil_of_le (by rw [List.length_take, hb_length]; omega)]
      rfl
    rw [e, strOfNums_size, hb_length]
    simp
  · rw [enc_no 60 a0 a1 a2 a3 a4 a5 a6 a7 a8 a9 a10 a11 a12 h, hdr_shown 60 (by omega)]
    simp only [Option.bind_some, if_true, bne_self_eq_false]
    rw [if_neg (by decide)]
    show analemmalaw05_HeaderEncodes.j0 (59 + 1) _ 1 false a0 a1 a2 a3 a4 a5 a6 a7 a8 a9 a10 a11 a12 = some true
    simp only [analemmalaw05_HeaderEncodes.j0]
    rw [if_neg (by decide), if_neg (by decide)]
    simp


end Go.Proofs.Ytilbkdlbbnkgdaa.Pure
