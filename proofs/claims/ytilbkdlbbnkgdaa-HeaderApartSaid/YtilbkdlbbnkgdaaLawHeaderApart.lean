/- The statement HeaderApart: the row, from its walk and its plain law. No condition. -/
import Derived.Test.YtilbkdlbbnkgdaaRows
import Derived.Test.YtilbkdlbbnkgdaaMHdrZx6
import Derived.Test.YtilbkdlbbnkgdaaPureHeaderApart
import Derived.WalkKit
import Derived.ProofKit
import Derived.OpenShut
import Derived.ShutString
import Derived.ChangeOld
import Derived.Below
import Derived.SizedLaws
import Derived.Lib.SmallJoins
import Derived.Deep.Slices
import Derived.Deep.Fields
import Derived.ChangeSame
import Derived.Carry
namespace Go.Proofs.Ytilbkdlbbnkgdaa.headerApart
open Go.ChangeShapes Go.WideShapes Go.ChangeAt Go.RowKit Go.Joins Go.Deep
open Go.ChangeMaps (open_string shut_string)
open Go.Proofs.YtilbkdlbbnkgdaaW.PrintWords (Aside0)
set_option linter.unusedVariables false
set_option linter.unusedSimpArgs false
theorem own : ownKnob Try.prog.godebug = none := by kernel_rfl
theorem laidOut : laidOutB Try.prog = true := by kernel_rfl
section
variable {H : Type} {enc : TypeId × Value → H} {P : Program} {w : World} {base : Nat} {spare : Nat → Bool} {held : Bool}
/-- A struct of one-cell fields, by value: each field's own reading. -/
theorem open_scalars {r : Reach} {b0 : Nat} {t : TypeId} {fs : Array Field} {v : Value} {d : DataW H} {p : List MemPlace} (hs : P.underlying t = some (.struct fs)) (hone : oneCellFields P fs = true) (hC : P.cellsOf t = fs.size)
    (hv : Value.okWide P w r b0 t v) (h : DataW.Trod enc P w base spare held t v d p) :
    ∃ cs : Array Value, v = .agg cs ∧ cs.size = fs.size ∧ ∀ (j : Nat) (f : Field), fs[j]? = some f → ∃ n y c, cs[j]? = some c ∧ DataW.trod enc P w base spare held n f.type [c] = some y := by
  obtain ⟨cs, rfl, hsz⟩ := okWide_struct hs hv
  refine ⟨cs, rfl, hsz.trans hC, fun j f hj => ?_⟩
  obtain ⟨fuel, hf⟩ := h
  obtain ⟨ys, n, _, hx, hl, hlen, hg⟩ := DataW.trod_struct hs hf
  obtain ⟨ho, hk⟩ := hone_of hone j f hj
  have hjl : j < fs.size := (Array.getElem?_eq_some_iff.1 hj).1
  have h1 := hg j f hj
  rw [ho, hk] at h1
  have hcl : j < cs.size := by rw [hsz.trans hC]; exact hjl
  have hone' : ((Value.agg cs).cells.toList.drop j).take 1 = [cs[j]'hcl] := by
    show (cs.toList.drop j).take 1 = _
    rw [List.drop_eq_getElem_cons (by simpa using hcl)]
    simp
  rw [hone'] at h1
  have hys : ys[j]? = some (ys[j]'(by omega)) := List.getElem?_eq_getElem (by omega)
  exact ⟨n, _, _, Array.getElem?_eq_getElem hcl, h1.trans hys⟩
end
theorem listN13 (cs : Array Value) (h : cs.size = 13) : ∃ y0 y1 y2 y3 y4 y5 y6 y7 y8 y9 y10 y11 y12, cs = #[y0, y1, y2, y3, y4, y5, y6, y7, y8, y9, y10, y11, y12] := by
  obtain ⟨l⟩ := cs
  match l, h with
  | [y0, y1, y2, y3, y4, y5, y6, y7, y8, y9, y10, y11, y12], _ => exact ⟨y0, y1, y2, y3, y4, y5, y6, y7, y8, y9, y10, y11, y12, rfl⟩
set_option maxHeartbeats 8000000 in
set_option maxRecDepth 100000 in
theorem lifted (os : Os) (started : os.Started) (H : Type) (enc : TypeId × Value → H) :
    ReturnsInHanded {} Try.checked os 11 .any (Rows.headerApartSpec.pre6 enc Try.prog Try.f11 Rows.headerApartRow.domain false) (Rows.headerApartSpec.post enc Try.prog Try.f11 false true false false) := by
  refine returnsInHanded_of_change_sized (C := Try.checked) own started (by kernel_rfl) Try.func11
    (ChangeSpec.witness6 (enc := enc) (C := Try.checked) false ⟨#[], #[.agg #[.int .i64 0, .int .i64 0, .int .i64 0, .int .i64 0, .int .i64 0, .int .i64 0, .int .u32 0, .int .u32 0, .int .u32 0, .int .u64 0, .int .u64 0, .int .u64 0, .int .u64 0], .agg #[.int .i64 0, .int .i64 0, .int .i64 0, .int .i64 0, .int .i64 0, .int .i64 0, .int .u32 0, .int .u32 0, .int .u32 0, .int .u64 0, .int .u64 0, .int .u64 0, .int .u64 0], .int .u8 0, .int .u8 0], []⟩ 8 (by kernel_rfl) (by kernel_rfl) (by kernel_rfl) (by kernel_rfl)) ?_
  intro W base args ds gs before hval0 hW hcnd hsz0 _
  have hsz : (DataW.weightsEach Try.prog (Try.f11.params.toList ++ Rows.headerApartSpec.plain.varTypes Try.prog) (ds ++ gs)).all (· ≤ reachBytes) = true := hsz0
  have hval : ∀ (j : Nat) t v, Try.f11.params[j]? = some t → args[j]? = some v → Value.okWide Try.prog W .any base t v := hval0
  have hW' := hW
  obtain ⟨p, q, hA0, hV, rfl, hfz, hnd⟩ := hW
  have hA : DataW.TrodAll enc Try.prog W 0 (fun _ => true) true Try.f11.params.toList args.toList ds p := hA0
  rw [Try.params11] at hA hval hsz
  obtain ⟨v0, vs0, d0, ds0, p0, q0, hargs, rfl, rfl, h0, r0⟩ := trodAll_cons hA
  obtain ⟨v1, vs1, d1, ds1, p1, q1, hargs1, rfl, rfl, h1, r1⟩ := trodAll_cons r0
  obtain ⟨v2, vs2, d2, ds2, p2, q2, hargs2, rfl, rfl, h2, r2⟩ := trodAll_cons r1
  obtain ⟨v3, vs3, d3, ds3, p3, q3, hargs3, rfl, rfl, h3, r3⟩ := trodAll_cons r2
  obtain ⟨rfl, rfl, rfl⟩ := trodAll_nil r3
  subst hargs1
  subst hargs2
  subst hargs3
  obtain rfl : args = #[v0, v1, v2, v3] := by cases args; simp_all
  obtain ⟨rfl, rfl⟩ := trodVars_none hV
  have k0 := h0
  have lt0 : ∀ x ∈ p0, x.block < W.heap.size := by obtain ⟨m, hm⟩ := k0; exact DataW.trod_lt m _ _ _ hm
  obtain ⟨cs0, rfl, hcs0, hf0⟩ := open_scalars Try.underlying42 (by kernel_rfl) (by kernel_rfl) (hval 0 42 v0 rfl rfl) h0
  obtain ⟨ma0_0, za0_0, ca0_0, ea0_0, fa0_0⟩ := hf0 0 _ rfl
  obtain ⟨a0_0, ga0_0, _, wa0_0⟩ := DataW.trod_int Try.underlying3 fa0_0
  obtain rfl : ca0_0 = .int .i64 a0_0 := by simpa using ga0_0
  obtain ⟨ma0_1, za0_1, ca0_1, ea0_1, fa0_1⟩ := hf0 1 _ rfl
  obtain ⟨a0_1, ga0_1, _, wa0_1⟩ := DataW.trod_int Try.underlying3 fa0_1
  obtain rfl : ca0_1 = .int .i64 a0_1 := by simpa using ga0_1
  obtain ⟨ma0_2, za0_2, ca0_2, ea0_2, fa0_2⟩ := hf0 2 _ rfl
  obtain ⟨a0_2, ga0_2, _, wa0_2⟩ := DataW.trod_int Try.underlying3 fa0_2
  obtain rfl : ca0_2 = .int .i64 a0_2 := by simpa using ga0_2
  obtain ⟨ma0_3, za0_3, ca0_3, ea0_3, fa0_3⟩ := hf0 3 _ rfl
  obtain ⟨a0_3, ga0_3, _, wa0_3⟩ := DataW.trod_int Try.underlying3 fa0_3
  obtain rfl : ca0_3 = .int .i64 a0_3 := by simpa using ga0_3
  obtain ⟨ma0_4, za0_4, ca0_4, ea0_4, fa0_4⟩ := hf0 4 _ rfl
  obtain ⟨a0_4, ga0_4, _, wa0_4⟩ := DataW.trod_int Try.underlying3 fa0_4
  obtain rfl : ca0_4 = .int .i64 a0_4 := by simpa using ga0_4
  obtain ⟨ma0_5, za0_5, ca0_5, ea0_5, fa0_5⟩ := hf0 5 _ rfl
  obtain ⟨a0_5, ga0_5, _, wa0_5⟩ := DataW.trod_int Try.underlying3 fa0_5
  obtain rfl : ca0_5 = .int .i64 a0_5 := by simpa using ga0_5
  obtain ⟨ma0_6, za0_6, ca0_6, ea0_6, fa0_6⟩ := hf0 6 _ rfl
  obtain ⟨a0_6, ga0_6, _, wa0_6⟩ := DataW.trod_int Try.underlying22 fa0_6
  obtain rfl : ca0_6 = .int .u32 a0_6 := by simpa using ga0_6
  obtain ⟨ma0_7, za0_7, ca0_7, ea0_7, fa0_7⟩ := hf0 7 _ rfl
  obtain ⟨a0_7, ga0_7, _, wa0_7⟩ := DataW.trod_int Try.underlying22 fa0_7
  obtain rfl : ca0_7 = .int .u32 a0_7 := by simpa using ga0_7
  obtain ⟨ma0_8, za0_8, ca0_8, ea0_8, fa0_8⟩ := hf0 8 _ rfl
  obtain ⟨a0_8, ga0_8, _, wa0_8⟩ := DataW.trod_int Try.underlying22 fa0_8
  obtain rfl : ca0_8 = .int .u32 a0_8 := by simpa using ga0_8
  obtain ⟨ma0_9, za0_9, ca0_9, ea0_9, fa0_9⟩ := hf0 9 _ rfl
  obtain ⟨a0_9, ga0_9, _, wa0_9⟩ := DataW.trod_int Try.underlying27 fa0_9
  obtain rfl : ca0_9 = .int .u64 a0_9 := by simpa using ga0_9
  obtain ⟨ma0_10, za0_10, ca0_10, ea0_10, fa0_10⟩ := hf0 10 _ rfl
  obtain ⟨a0_10, ga0_10, _, wa0_10⟩ := DataW.trod_int Try.underlying27 fa0_10
  obtain rfl : ca0_10 = .int .u64 a0_10 := by simpa using ga0_10
  obtain ⟨ma0_11, za0_11, ca0_11, ea0_11, fa0_11⟩ := hf0 11 _ rfl
  obtain ⟨a0_11, ga0_11, _, wa0_11⟩ := DataW.trod_int Try.underlying27 fa0_11
  obtain rfl : ca0_11 = .int .u64 a0_11 := by simpa using ga0_11
  obtain ⟨ma0_12, za0_12, ca0_12, ea0_12, fa0_12⟩ := hf0 12 _ rfl
  obtain ⟨a0_12, ga0_12, _, wa0_12⟩ := DataW.trod_int Try.underlying27 fa0_12
  obtain rfl : ca0_12 = .int .u64 a0_12 := by simpa using ga0_12
  obtain ⟨y0_0, y0_1, y0_2, y0_3, y0_4, y0_5, y0_6, y0_7, y0_8, y0_9, y0_10, y0_11, y0_12, rfl⟩ := listN13 cs0 hcs0
  obtain rfl : y0_0 = .int .i64 a0_0 := Option.some.inj ea0_0
  obtain rfl : y0_1 = .int .i64 a0_1 := Option.some.inj ea0_1
  obtain rfl : y0_2 = .int .i64 a0_2 := Option.some.inj ea0_2
  obtain rfl : y0_3 = .int .i64 a0_3 := Option.some.inj ea0_3
  obtain rfl : y0_4 = .int .i64 a0_4 := Option.some.inj ea0_4
  obtain rfl : y0_5 = .int .i64 a0_5 := Option.some.inj ea0_5
  obtain rfl : y0_6 = .int .u32 a0_6 := Option.some.inj ea0_6
  obtain rfl : y0_7 = .int .u32 a0_7 := Option.some.inj ea0_7
  obtain rfl : y0_8 = .int .u32 a0_8 := Option.some.inj ea0_8
  obtain rfl : y0_9 = .int .u64 a0_9 := Option.some.inj ea0_9
  obtain rfl : y0_10 = .int .u64 a0_10 := Option.some.inj ea0_10
  obtain rfl : y0_11 = .int .u64 a0_11 := Option.some.inj ea0_11
  obtain rfl : y0_12 = .int .u64 a0_12 := Option.some.inj ea0_12
  have k1 := h1
  have lt1 : ∀ x ∈ p1, x.block < W.heap.size := by obtain ⟨m, hm⟩ := k1; exact DataW.trod_lt m _ _ _ hm
  obtain ⟨cs1, rfl, hcs1, hf1⟩ := open_scalars Try.underlying42 (by kernel_rfl) (by kernel_rfl) (hval 1 42 v1 rfl rfl) h1
  obtain ⟨ma1_0, za1_0, ca1_0, ea1_0, fa1_0⟩ := hf1 0 _ rfl
  obtain ⟨a1_0, ga1_0, _, wa1_0⟩ := DataW.trod_int Try.underlying3 fa1_0
  obtain rfl : ca1_0 = .int .i64 a1_0 := by simpa using ga1_0
  obtain ⟨ma1_1, za1_1, ca1_1, ea1_1, fa1_1⟩ := hf1 1 _ rfl
  obtain ⟨a1_1, ga1_1, _, wa1_1⟩ := DataW.trod_int Try.underlying3 fa1_1
  obtain rfl : ca1_1 = .int .i64 a1_1 := by simpa using ga1_1
  obtain ⟨ma1_2, za1_2, ca1_2, ea1_2, fa1_2⟩ := hf1 2 _ rfl
  obtain ⟨a1_2, ga1_2, _, wa1_2⟩ := DataW.trod_int Try.underlying3 fa1_2
  obtain rfl : ca1_2 = .int .i64 a1_2 := by simpa using ga1_2
  obtain ⟨ma1_3, za1_3, ca1_3, ea1_3, fa1_3⟩ := hf1 3 _ rfl
  obtain ⟨a1_3, ga1_3, _, wa1_3⟩ := DataW.trod_int Try.underlying3 fa1_3
  obtain rfl : ca1_3 = .int .i64 a1_3 := by simpa using ga1_3
  obtain ⟨ma1_4, za1_4, ca1_4, ea1_4, fa1_4⟩ := hf1 4 _ rfl
  obtain ⟨a1_4, ga1_4, _, wa1_4⟩ := DataW.trod_int Try.underlying3 fa1_4
  obtain rfl : ca1_4 = .int .i64 a1_4 := by simpa using ga1_4
  obtain ⟨ma1_5, za1_5, ca1_5, ea1_5, fa1_5⟩ := hf1 5 _ rfl
  obtain ⟨a1_5, ga1_5, _, wa1_5⟩ := DataW.trod_int Try.underlying3 fa1_5
  obtain rfl : ca1_5 = .int .i64 a1_5 := by simpa using ga1_5
  obtain ⟨ma1_6, za1_6, ca1_6, ea1_6, fa1_6⟩ := hf1 6 _ rfl
  obtain ⟨a1_6, ga1_6, _, wa1_6⟩ := DataW.trod_int Try.underlying22 fa1_6
  obtain rfl : ca1_6 = .int .u32 a1_6 := by simpa using ga1_6
  obtain ⟨ma1_7, za1_7, ca1_7, ea1_7, fa1_7⟩ := hf1 7 _ rfl
  obtain ⟨a1_7, ga1_7, _, wa1_7⟩ := DataW.trod_int Try.underlying22 fa1_7
  obtain rfl : ca1_7 = .int .u32 a1_7 := by simpa using ga1_7
  obtain ⟨ma1_8, za1_8, ca1_8, ea1_8, fa1_8⟩ := hf1 8 _ rfl
  obtain ⟨a1_8, ga1_8, _, wa1_8⟩ := DataW.trod_int Try.underlying22 fa1_8
  obtain rfl : ca1_8 = .int .u32 a1_8 := by simpa using ga1_8
  obtain ⟨ma1_9, za1_9, ca1_9, ea1_9, fa1_9⟩ := hf1 9 _ rfl
  obtain ⟨a1_9, ga1_9, _, wa1_9⟩ := DataW.trod_int Try.underlying27 fa1_9
  obtain rfl : ca1_9 = .int .u64 a1_9 := by simpa using ga1_9
  obtain ⟨ma1_10, za1_10, ca1_10, ea1_10, fa1_10⟩ := hf1 10 _ rfl
  obtain ⟨a1_10, ga1_10, _, wa1_10⟩ := DataW.trod_int Try.underlying27 fa1_10
  obtain rfl : ca1_10 = .int .u64 a1_10 := by simpa using ga1_10
  obtain ⟨ma1_11, za1_11, ca1_11, ea1_11, fa1_11⟩ := hf1 11 _ rfl
  obtain ⟨a1_11, ga1_11, _, wa1_11⟩ := DataW.trod_int Try.underlying27 fa1_11
  obtain rfl : ca1_11 = .int .u64 a1_11 := by simpa using ga1_11
  obtain ⟨ma1_12, za1_12, ca1_12, ea1_12, fa1_12⟩ := hf1 12 _ rfl
  obtain ⟨a1_12, ga1_12, _, wa1_12⟩ := DataW.trod_int Try.underlying27 fa1_12
  obtain rfl : ca1_12 = .int .u64 a1_12 := by simpa using ga1_12
  obtain ⟨y1_0, y1_1, y1_2, y1_3, y1_4, y1_5, y1_6, y1_7, y1_8, y1_9, y1_10, y1_11, y1_12, rfl⟩ := listN13 cs1 hcs1
  obtain rfl : y1_0 = .int .i64 a1_0 := Option.some.inj ea1_0
  obtain rfl : y1_1 = .int .i64 a1_1 := Option.some.inj ea1_1
  obtain rfl : y1_2 = .int .i64 a1_2 := Option.some.inj ea1_2
  obtain rfl : y1_3 = .int .i64 a1_3 := Option.some.inj ea1_3
  obtain rfl : y1_4 = .int .i64 a1_4 := Option.some.inj ea1_4
  obtain rfl : y1_5 = .int .i64 a1_5 := Option.some.inj ea1_5
  obtain rfl : y1_6 = .int .u32 a1_6 := Option.some.inj ea1_6
  obtain rfl : y1_7 = .int .u32 a1_7 := Option.some.inj ea1_7
  obtain rfl : y1_8 = .int .u32 a1_8 := Option.some.inj ea1_8
  obtain rfl : y1_9 = .int .u64 a1_9 := Option.some.inj ea1_9
  obtain rfl : y1_10 = .int .u64 a1_10 := Option.some.inj ea1_10
  obtain rfl : y1_11 = .int .u64 a1_11 := Option.some.inj ea1_11
  obtain rfl : y1_12 = .int .u64 a1_12 := Option.some.inj ea1_12
  obtain ⟨a2, rfl, rfl, rfl, w2⟩ := open_int Try.underlying5 (hval 2 5 v2 rfl rfl) h2
  obtain ⟨a3, rfl, rfl, rfl, w3⟩ := open_int Try.underlying5 (hval 3 5 v3 rfl rfl) h3
  clear hA0 hval0 hsz0 hsz
  obtain ⟨k, hk⟩ := Pure.HeaderApart a0_0 a0_1 a0_2 a0_3 a0_4 a0_5 a0_6 a0_7 a0_8 a0_9 a0_10 a0_11 a0_12 a1_0 a1_1 a1_2 a1_3 a1_4 a1_5 a1_6 a1_7 a1_8 a1_9 a1_10 a1_11 a1_12 a2 a3 wa0_0 wa0_1 wa0_2 wa0_3 wa0_4 wa0_5 wa0_6 wa0_7 wa0_8 wa0_9 wa0_10 wa0_11 wa0_12 wa1_0 wa1_1 wa1_2 wa1_3 wa1_4 wa1_5 wa1_6 wa1_7 wa1_8 wa1_9 wa1_10 wa1_11 wa1_12 w2 w3
  refine (MHdrZ.analemmalaw05_HeaderApart.calls k a0_0 a0_1 a0_2 a0_3 a0_4 a0_5 a0_6 a0_7 a0_8 a0_9 a0_10 a0_11 a0_12 a1_0 a1_1 a1_2 a1_3 a1_4 a1_5 a1_6 a1_7 a1_8 a1_9 a1_10 a1_11 a1_12 a2 a3 true W hk (Aside0.mk rfl)).mono fun e W' ⟨he, bel⟩ => ?_
  subst he
  exact ⟨_, rfl, _, _, _, [], _, [], hW', trodAll_mk1 (shut_bool Try.underlying4 _), (trodAll_cons_mk (Below.trod laidOut (by kernel_rfl) (of_decide_eq_true (by kernel_rfl)) k0 bel lt0) (trodAll_cons_mk (Below.trod laidOut (by kernel_rfl) (of_decide_eq_true (by kernel_rfl)) k1 bel lt1) (trodAll_cons_mk (shut_int Try.underlying5 w2) (trodAll_cons_mk (shut_int Try.underlying5 w3) trodAll_mk0)))), rfl, bel.frame _, fun h => by cases h⟩
theorem over : Rows.headerApartRow.holds Try.pinned (OpenSpec.ofChange Rows.headerApartSpec) :=
  OpenClaim.holds_of_wide 11 Try.f11 rfl rfl rfl rfl rfl rfl rfl ⟨rfl, rfl, rfl, rfl, rfl⟩ rfl rfl rfl rfl rfl (by kernel_rfl) Try.func11 (by kernel_rfl)
    (of_decide_eq_true (by kernel_rfl)) (by unfold Func.isWrapper; first | (rw [if_pos (by decide +kernel)]; kernel_rfl) | (rw [if_neg (by decide +kernel)]; exact ⟨rfl, rfl⟩))
    (fun os started H enc _ => lifted os started H enc)
theorem proved : Rows.HeaderApartSaid := over
#print axioms proved
end Go.Proofs.Ytilbkdlbbnkgdaa.headerApart
namespace Go.Proofs.Ytilbkdlbbnkgdaa
/-- The row, under a short name, for the claim. -/
theorem headerApart_holds : Rows.HeaderApartSaid := headerApart.proved
end Go.Proofs.Ytilbkdlbbnkgdaa
