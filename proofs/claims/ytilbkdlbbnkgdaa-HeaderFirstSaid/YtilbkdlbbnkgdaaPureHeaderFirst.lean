/- The statement over numbers and lists that is left of the law HeaderFirst; no condition but the kinds of its arguments. -/
import Derived.Test.YtilbkdlbbnkgdaaBHdrZ
import Derived.Test.YtilbkdlbbnkgdaaMHdrZx5
namespace Go.Proofs.Ytilbkdlbbnkgdaa.Pure
open Go.RowKit Go.Proofs.Ytilbkdlbbnkgdaa.MHdrZ Go.Proofs.YtilbkdlbbnkgdaaW.PrintWords Go.Proofs.YtilbkdlbbnkgdaaW.PrintLast Go.Proofs.YtilbkdlbbnkgdaaW.PrintMore
set_option linter.unusedVariables false
set_option linter.unusedSimpArgs false

theorem HeaderFirst (a0 a1 a2 a3 a4 a5 a6 a7 a8 a9 a10 a11 a12 : Int) (s : ByteArray) (w0 : (Lit.int .i64 a0).wf = true) (w1 : (Lit.int .i64 a1).wf = true) (w2 : (Lit.int .i64 a2).wf = true) (w3 : (Lit.int .i64 a3).wf = true) (w4 : (Lit.int .i64 a4).wf = true) (w5 : (Lit.int .i64 a5).wf = true) (w6 : (Lit.int .u32 a6).wf = true) (w7 : (Lit.int .u32 a7).wf = true) (w8 : (Lit.int .u32 a8).wf = true) (w9 : (Lit.int .u64 a9).wf = true) (w10 : (Lit.int .u64 a10).wf = true) (w11 : (Lit.int .u64 a11).wf = true) (w12 : (Lit.int .u64 a12).wf = true) (hs : s.size ≤ 140737488351232) :
    ∃ k, analemmalaw05_HeaderFirst.f k a0 a1 a2 a3 a4 a5 a6 a7 a8 a9 a10 a11 a12 s = some true := by
  have h6 := bounds_u32 w6
  have h7 := bounds_u32 w7
  have h8 := bounds_u32 w8
  have h9 := bounds_u64 w9
  have h10 := bounds_u64 w10
  have h11 := bounds_u64 w11
  have h12 := bounds_u64 w12
  refine ⟨60, ?_⟩
  unfold analemmalaw05_HeaderFirst.f
  by_cases c : (s.size : Int) > 1024
  · rw [if_pos c]
    show analemmalaw05_HeaderFirst.j0 (59 + 1) s true a0 a1 a2 a3 a4 a5 a6 a7 a8 a9 a10 a11 a12 = some true
    simp only [analemmalaw05_HeaderFirst.j0]
    rw [if_pos trivial, hdr_shown 59 (by omega)]
    rfl
  · rw [if_neg c, hdr_shown 60 (by omega)]
    show analemmalaw05_HeaderFirst.j0 (59 + 1) s false a0 a1 a2 a3 a4 a5 a6 a7 a8 a9 a10 a11 a12 = some true
    simp only [analemmalaw05_HeaderFirst.j0]
    rw [if_neg (by decide), refmay]
    by_cases h : Rg a0 a1 a2 a3 a4 a5
    · obtain ⟨t, ht⟩ : ∃ t, strOfNums (hb a0 a1 a2 a3 a4 a5 a6 a7 a8 a9 a10 a11 a12) = t := ⟨_, rfl⟩
      have hbt : bytesOf t = hb a0 a1 a2 a3 a4 a5 a6 a7 a8 a9 a10 a11 a12 := by rw [← ht, bytesOf_nums _ (by_hb _ _ _ _ _ _ _ _ _ _ _ _ _ h)]
      have hz : t.size = 48 := by rw [← bytesOf_length, hbt]; rfl
      rw [enc_ok 59 a0 a1 a2 a3 a4 a5 a6 a7 a8 a9 a10 a11 a12 h h6 h7 h8 (by omega), ht]
      simp only [Option.bind_some]
      rw [if_pos trivial, if_pos (by omega), if_pos (by omega), dec_hb (t ++ s) (bytesOf s) a0 a1 a2 a3 a4 a5 a6 a7 a8 a9 a10 a11 a12 h h6 h7 h8 h9 h10 h11 h12 (by rw [ByteArray.size_append]; omega) (by rw [bytesOf_app, hbt])]
      simp only [Option.bind_some]
      have b0 : bt t 0 = 64 * a0 + 8 * a1 + a2 := by rw [← rd_bytesOf, hbt]; rfl
      have b1 : bt t 1 = a3 := by rw [← rd_bytesOf, hbt]; rfl
      unfold Rg at h
      rw [if_pos (by omega), if_pos (by omega), dec_short _ (by rw [ByteArray.size_extract]; omega), b0, b1]
      simp only [Option.bind_some]
      have e1 : wrap64 (64 * a0 + 8 * a1 + a2) = 64 * a0 + 8 * a1 + a2 := by unfold wrap64; omega
      have e2 : wrap64 (wrap64 (wrap64 (64 * a0) + wrap64 (8 * a1)) + a2) = 64 * a0 + 8 * a1 + a2 := by unfold wrap64; omega
      have e3 : wrap64 a3 = a3 := by unfold wrap64; omega
      have er : (t ++ s).extract 48 (t ++ s).size = s := by
        apply bytesOf_inj
        rw [bytesOf_extract, bytesOf_app, hbt, List.take_of_length_le (by rw [List.length_append, hb_length, bytesOf_length, ByteArray.size_append]; omega)]
        rfl
      rw [if_pos (by omega), e1, e2, if_pos rfl, if_pos (by omega), e3, if_pos rfl, if_pos trivial, if_pos (by simp), er, if_pos rfl]
      rfl
    · rw [enc_no 59 a0 a1 a2 a3 a4 a5 a6 a7 a8 a9 a10 a11 a12 h]
      simp only [Option.bind_some]
      rw [if_neg (by decide)]
      have hm : header_May.ok a0 a1 a2 a3 a4 a5 = false := by
        cases e : header_May.ok a0 a1 a2 a3 a4 a5
        · rfl
        · exact absurd ((may_iff a0 a1 a2 a3 a4 a5).1 e) h
      rw [hm]
      rfl


end Go.Proofs.Ytilbkdlbbnkgdaa.Pure
