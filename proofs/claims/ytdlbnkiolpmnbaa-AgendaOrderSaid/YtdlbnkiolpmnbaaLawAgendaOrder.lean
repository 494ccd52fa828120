/- The statement AgendaOrder: the row, from its walk and its plain law. No condition. -/
import Derived.Test.YtdlbnkiolpmnbaaRows
import Derived.Test.YtdlbnkiolpmnbaaAgOrder
import Derived.WalkKit
import Derived.ProofKit
import Derived.OpenShut
import Derived.ShutString
import Derived.ChangeOld
import Derived.Below
import Derived.SizedLaws
import Derived.Lib.SmallJoins
import Derived.Deep.Slices
import Derived.Deep.Fields
import Derived.ChangeSame
import Derived.Carry
import Derived.Laws.Cover2
namespace Go.Proofs.Ytdlbnkiolpmnbaa.agendaOrder
open Go.ChangeShapes Go.WideShapes Go.ChangeAt Go.RowKit Go.Joins Go.Deep
open Go.ChangeMaps (open_string shut_string)
open Go.Proofs.YtdlbnkiolpmnbaaW.PrintWords (Aside0)
set_option linter.unusedVariables false
set_option linter.unusedSimpArgs false
theorem own : ownKnob Try.prog.godebug = none := by kernel_rfl
theorem laidOut : laidOutB Try.prog = true := by kernel_rfl
open Go.Proofs.YtdlbnkiolpmnbaaW.PrintWords
section
variable {H : Type} {enc : TypeId × Value → H} {P : Program} {w : World} {base : Nat} {spare : Nat → Bool} {held : Bool}
/-- A slice of structs of one-cell fields that came in: its elements, each by its fields' own readings. -/
theorem rows_of {α : Type} [Inhabited α] (K : Kd α) (B : α → Prop) {t e : TypeId} {fs : Array Field} {a : Option Addr} {len cap : Nat} {d : DataW H} {ps : List MemPlace} (ht : P.underlying t = some (.slice e)) (he : P.underlying e = some (.struct fs)) (hone : oneCellFields P fs = true) (hC : P.cellsOf e = fs.size) (hsz : K.sz = fs.size)
    (hel : ∀ cs : List Value, cs.length = fs.size → (∀ (j : Nat) (f : Field), fs[j]? = some f → ∃ n y c, cs[j]? = some c ∧ DataW.trod enc P w base spare held n f.type [c] = some y) → ∃ x : α, K.K w x cs ∧ B x)
    (h : DataW.Trod enc P w base spare held t (.slice a len cap) d ps) : ∃ l : List α, len = l.length ∧ Kd.C K w a l.length l ∧ l.length ≤ cap ∧ ∀ x ∈ l, B x := by
  obtain ⟨fuel, hf⟩ := h
  rcases open_slice ht hf with ⟨hcs, _⟩ | ⟨ad, l, c, m, n, D, Pl, hcs, hb, hl, hm, hmm, _, hx⟩
  · simp [Value.cells] at hcs
    obtain ⟨rfl, rfl, rfl⟩ := hcs
    exact ⟨[], rfl, ⟨rfl, Nat.zero_le _, fun h => absurd h (by simp)⟩, Nat.le_refl _, by simp⟩
  · simp [Value.cells] at hcs
    obtain ⟨rfl, rfl, rfl⟩ := hcs
    have hml : len ≤ m := by rw [hmm]; split <;> omega
    have key : ∀ i, i < m → ∃ x : α, (∃ cs : List Value, cs.length = fs.size ∧ K.K w x cs ∧ ∀ j u, cs[j]? = some u → w.cell? (ad.add (i * fs.size + j)) = some u) ∧ B x := by
      intro i hi
      obtain ⟨cs, h1, h2⟩ := hx i hi
      rw [hC] at h1
      obtain ⟨_, hlen, hcell⟩ := World.cells?_some h1
      obtain ⟨ys, q, _, _, hl2, hlen2, hg⟩ := DataW.trod_struct he h2
      obtain ⟨x, hK, hB⟩ := hel cs hlen (fun j f hj => by
        obtain ⟨ho, hk⟩ := hone_of hone j f hj
        have hjl : j < fs.size := (Array.getElem?_eq_some_iff.1 hj).1
        have h3 := hg j f hj
        rw [ho, hk] at h3
        have hcl : j < cs.length := by omega
        rw [List.drop_eq_getElem_cons hcl, List.take_succ_cons, List.take_zero] at h3
        have hys : ys[j]? = some (ys[j]'(by omega)) := List.getElem?_eq_getElem (by omega)
        exact ⟨q, _, _, List.getElem?_eq_getElem hcl, h3.trans hys⟩)
      refine ⟨x, ⟨cs, hlen, hK, fun j u hu => ?_⟩, hB⟩
      have hj : j < cs.length := (List.getElem?_eq_some_iff.1 hu).1
      rw [← Deep.add_add, hcell j (by omega), hu]
    obtain ⟨X, hX⟩ := choose_lt (α := α) key
    refine ⟨(List.range len).map X, by simp, ⟨by simp, by simp only [List.length_map, List.length_range]; simp only [maxLen] at hm; omega, fun _ => ⟨ad, rfl, fun j p hj => ?_⟩⟩, by simpa using hl, fun y hy => ?_⟩
    · obtain ⟨hjl, hp⟩ := List.getElem?_eq_some_iff.1 hj
      simp only [List.length_map, List.length_range] at hjl
      simp only [List.getElem_map, List.getElem_range] at hp
      subst hp
      obtain ⟨⟨cs, h1, h2, h3⟩, _⟩ := hX j (by omega)
      exact ⟨cs, by rw [h1, hsz], h2, by rw [hsz]; exact h3⟩
    · obtain ⟨i, hi, rfl⟩ := List.mem_map.1 hy
      have := List.mem_range.1 hi
      exact (hX i (by omega)).2
end
instance : Inhabited Go.Proofs.Ytdlbnkiolpmnbaa.MAga.S67 := ⟨Go.Proofs.Ytdlbnkiolpmnbaa.MAga.z67⟩

set_option maxHeartbeats 8000000 in
set_option maxRecDepth 100000 in
theorem lifted (os : Os) (started : os.Started) (H : Type) (enc : TypeId × Value → H) :
    ReturnsInHanded {} Try.checked os 9 .any (Rows.agendaOrderSpec.pre6 enc Try.prog Try.f9 Rows.agendaOrderRow.domain false) (Rows.agendaOrderSpec.post enc Try.prog Try.f9 false true false false) := by
  refine returnsInHanded_of_change_sized (C := Try.checked) own started (by kernel_rfl) Try.func9
    (ChangeSpec.witness6 (enc := enc) (C := Try.checked) false ⟨#[], #[.slice none 0 0, .int .i64 0], []⟩ 8 (by kernel_rfl) (by kernel_rfl) (by kernel_rfl) (by kernel_rfl)) ?_
  intro W base args ds gs before hval0 hW hcnd hsz0 _
  have hsz : (DataW.weightsEach Try.prog (Try.f9.params.toList ++ Rows.agendaOrderSpec.plain.varTypes Try.prog) (ds ++ gs)).all (· ≤ reachBytes) = true := hsz0
  have hval : ∀ (j : Nat) t v, Try.f9.params[j]? = some t → args[j]? = some v → Value.okWide Try.prog W .any base t v := hval0
  have hW' := hW
  obtain ⟨p, q, hA0, hV, rfl, hfz, hnd⟩ := hW
  have hA : DataW.TrodAll enc Try.prog W 0 (fun _ => true) true Try.f9.params.toList args.toList ds p := hA0
  rw [Try.params9] at hA hval hsz
  obtain ⟨v0, vs0, d0, ds0, p0, q0, hargs, rfl, rfl, h0, r0⟩ := trodAll_cons hA
  obtain ⟨v1, vs1, d1, ds1, p1, q1, hargs1, rfl, rfl, h1, r1⟩ := trodAll_cons r0
  obtain ⟨rfl, rfl, rfl⟩ := trodAll_nil r1
  subst hargs1
  obtain rfl : args = #[v0, v1] := by cases args; simp_all
  obtain ⟨rfl, rfl⟩ := trodVars_none hV
  obtain ⟨a0, len0, cap0, rfl⟩ := okWide_slice Try.underlying60 (hval 0 60 v0 rfl rfl)
  have k0 := h0
  have lt0 : ∀ x ∈ p0, x.block < W.heap.size := by obtain ⟨m, hm⟩ := k0; exact DataW.trod_lt m _ _ _ hm
  have hrow0 : ∃ l : List Go.Proofs.Ytdlbnkiolpmnbaa.MAga.S67, len0 = l.length ∧ Kd.C Go.Proofs.Ytdlbnkiolpmnbaa.MAga.k67 W a0 l.length l ∧ l.length ≤ cap0 ∧ ∀ x ∈ l, (Lit.int .i64 x.f0).wf = true ∧ (Lit.int .i64 x.f1).wf = true ∧ (Lit.int .i64 x.f2).wf = true ∧ (Lit.int .i64 x.f3).wf = true ∧ x.f4.size ≤ maxLen := by
    refine rows_of Go.Proofs.Ytdlbnkiolpmnbaa.MAga.k67 (fun x => (Lit.int .i64 x.f0).wf = true ∧ (Lit.int .i64 x.f1).wf = true ∧ (Lit.int .i64 x.f2).wf = true ∧ (Lit.int .i64 x.f3).wf = true ∧ x.f4.size ≤ maxLen) Try.underlying60 Try.underlying67 (by kernel_rfl) (by kernel_rfl) rfl (fun cs hl hf => ?_) h0
    match cs, hl with
    | [c0, c1, c2, c3, c4], _ =>
      obtain ⟨m0, z0, u0, e0, f0⟩ := hf 0 _ rfl
      obtain rfl : c0 = u0 := Option.some.inj e0
      obtain ⟨x0, g0, _, w0⟩ := DataW.trod_int Try.underlying3 f0
      obtain rfl : c0 = .int .i64 x0 := by simpa using g0
      obtain ⟨m1, z1, u1, e1, f1⟩ := hf 1 _ rfl
      obtain rfl : c1 = u1 := Option.some.inj e1
      obtain ⟨x1, g1, _, w1⟩ := DataW.trod_int Try.underlying3 f1
      obtain rfl : c1 = .int .i64 x1 := by simpa using g1
      obtain ⟨m2, z2, u2, e2, f2⟩ := hf 2 _ rfl
      obtain rfl : c2 = u2 := Option.some.inj e2
      obtain ⟨x2, g2, _, w2⟩ := DataW.trod_int Try.underlying3 f2
      obtain rfl : c2 = .int .i64 x2 := by simpa using g2
      obtain ⟨m3, z3, u3, e3, f3⟩ := hf 3 _ rfl
      obtain rfl : c3 = u3 := Option.some.inj e3
      obtain ⟨x3, g3, _, w3⟩ := DataW.trod_int Try.underlying2 f3
      obtain rfl : c3 = .int .i64 x3 := by simpa using g3
      obtain ⟨m4, z4, u4, e4, f4⟩ := hf 4 _ rfl
      obtain rfl : c4 = u4 := Option.some.inj e4
      obtain ⟨x4, g4, _, w4⟩ := DataW.trod_string Try.underlying9 f4
      obtain rfl : c4 = .string x4 := by simpa using g4
      exact ⟨⟨x0, x1, x2, x3, x4⟩, Go.Proofs.Ytdlbnkiolpmnbaa.MAga.k67_mk W ⟨x0, x1, x2, x3, x4⟩, ⟨w0, w1, w2, w3, w4⟩⟩
  obtain ⟨l0, hlen0, hk0, hc0, hw0⟩ := hrow0
  subst hlen0
  obtain ⟨a1, rfl, rfl, rfl, w1⟩ := open_int Try.underlying2 (hval 1 2 v1 rfl rfl) h1
  clear hA0 hval0 hsz0 hsz
  refine (Go.Proofs.Ytdlbnkiolpmnbaa.Ag.order_calls a0 cap0 l0 a1 W hk0 hc0 (fun x hx => (hw0 x hx).2.2.1)).mono fun e W' ⟨he, bel⟩ => ?_
  subst he
  exact ⟨_, rfl, _, _, _, [], _, [], hW', trodAll_mk1 (shut_bool Try.underlying4 _), (trodAll_cons_mk (Below.trod laidOut (by kernel_rfl) (of_decide_eq_true (by kernel_rfl)) k0 bel lt0) (trodAll_cons_mk (shut_int Try.underlying2 w1) trodAll_mk0)), rfl, bel.frame _, fun h => by cases h⟩
theorem over : Rows.agendaOrderRow.holds Try.pinned (OpenSpec.ofChange Rows.agendaOrderSpec) :=
  OpenClaim.holds_of_wide 9 Try.f9 rfl rfl rfl rfl rfl rfl rfl ⟨rfl, rfl, rfl, rfl, rfl⟩ rfl rfl rfl rfl rfl (by kernel_rfl) Try.func9 (by kernel_rfl)
    (of_decide_eq_true (by kernel_rfl)) (by unfold Func.isWrapper; first | (rw [if_pos (by decide +kernel)]; kernel_rfl) | (rw [if_neg (by decide +kernel)]; exact ⟨rfl, rfl⟩))
    (fun os started H enc _ => lifted os started H enc)
theorem proved : Rows.AgendaOrderSaid := over
#print axioms proved
end Go.Proofs.Ytdlbnkiolpmnbaa.agendaOrder
namespace Go.Proofs.Ytdlbnkiolpmnbaa
/-- The row, under a short name, for the claim. -/
theorem agendaOrder_holds : Rows.AgendaOrderSaid := agendaOrder.proved
end Go.Proofs.Ytdlbnkiolpmnbaa
