/- slices.Collect over slices.Values of items: a new row of the same items. It says its own conditions. -/
import Derived.Test.YtdlbnkiolpmnbaaProg
import Derived.Test.YtdlbnkiolpmnbaaMAgax0
import Derived.Test.YtdlbnkiolpmnbaaMAgax2
import Derived.WalkKit
import Derived.Deep.RegionLaw
import Derived.Deep.RegionWith
import Derived.Deep.RegionHeld3
import Derived.BigRegion
import Derived.BigQuiet
import Derived.StillTailTactics
import Derived.Test.YtdlbnkiolpmnbaaAgSt
import Derived.Test.YtdlbnkiolpmnbaaAgLay
import Derived.Test.YtdlbnkiolpmnbaaAgCmp
import Derived.Test.YtdlbnkiolpmnbaaAgSet
import Derived.Test.YtdlbnkiolpmnbaaAgPlain
import Derived.Test.YtdlbnkiolpmnbaaAgInv
import Derived.Test.YtdlbnkiolpmnbaaAgOp
import Derived.Test.YtdlbnkiolpmnbaaAgPut
import Derived.Test.YtdlbnkiolpmnbaaAgMov
import Derived.Test.YtdlbnkiolpmnbaaAgCan
import Derived.Test.YtdlbnkiolpmnbaaAgTak
import Derived.Test.YtdlbnkiolpmnbaaAgTke
import Derived.Test.YtdlbnkiolpmnbaaAgLaw
import Derived.Test.YtdlbnkiolpmnbaaAgIter
import Derived.RangeFuncBox
import Derived.RangeFuncNested
import Derived.RangeFuncBound
import Derived.RangeFuncCalls
import Derived.RangeFuncLeaves
import Derived.Shelf.Abstract
import Derived.Shelf.RegionOpen
import Derived.OwnWalkIn
import Derived.TacticsInMore
import Derived.LoopNIn
import Derived.LoopIn
import Derived.Maps.OwnIn
import Derived.Maps.OwnSet
import Derived.Deep.AppendLies
namespace Go.Proofs.Ytdlbnkiolpmnbaa.Ag
open Go.RowKit Go.Proofs.Ytdlbnkiolpmnbaa.MAga Go.Proofs.YtdlbnkiolpmnbaaW.PrintWords Go.Proofs.YtdlbnkiolpmnbaaW.PrintLast Go.Proofs.YtdlbnkiolpmnbaaW.PrintMore
attribute [local go_sem] max2_int min2_int max_two min_two max_three min_three max_four min_four
set_option linter.unusedVariables false
set_option linter.unusedSimpArgs false
-- import Derived.RangeFuncBox
-- import Derived.RangeFuncNested
-- import Derived.RangeFuncBound
-- import Derived.RangeFuncCalls
-- import Derived.RangeFuncLeaves
-- import Derived.Shelf.Abstract
-- import Derived.Shelf.RegionOpen
-- import Derived.OwnWalkIn
-- import Derived.TacticsInMore
-- import Derived.LoopNIn
-- import Derived.LoopIn
-- import Derived.Maps.OwnIn
-- import Derived.Maps.OwnSet
-- import Derived.Deep.AppendLies
theorem infoI2 : (Try.prog.info? 34).map (fun i => (i.zero, i.size, i.bytes)) = some (some (.agg #[.int .i64 0, .int .i64 0, .string ⟨#[]⟩, .int .i64 0]), 4, 40) := by kernel_rfl
theorem cells_new (w : World) (news : List Value) (t : TypeId) : ∀ j u, news[j]? = some u → (w.alloc (.cells news.toArray t)).cell? ((⟨w.heap.size, 0, none⟩ : Addr).add j) = some u :=
  fun j u hu => World.news_of_block (blk_new w (.cells news.toArray t)) j u hu
def AJ (w : World) (pre : List S34) (W : World) : Prop := ∃ v, Boxed W w.heap.size 31 v ∧ W.ownsRow w.heap.size 34 4 v pre.length (flat pre) ∧ Below w.heap.size w W
theorem row_kept {W W' : World} {B n : Nat} {v : Value} {xs : List Value} {row : Option Nat} (h : W.ownsRow B 34 4 v n xs) (hg : W.grownBy W' row) (hr : ∀ r, row = some r → ∃ o : Obj, W.heap[r]? = some o ∧ o.isCells = false) : W'.ownsRow B 34 4 v n xs := by
  refine own_move h (fun k e => hg.block k (own_lt h k e) (fun e2 => ?_))
  obtain ⟨o, ho, hc⟩ := hr k e2.symm
  obtain ⟨cs, h1⟩ := own_typed h k e
  rw [h1] at ho
  cases ho
  cases hc
theorem boxed_kept {W W' : World} {row : Option Nat} {B : Nat} {t : TypeId} {v : Value} (h : Boxed W B t v) (hg : W.grownBy W' row) (hr : ∀ r, row = some r → ∃ o : Obj, W.heap[r]? = some o ∧ o.isCells = false) : Boxed W' B t v :=
  h.kept hg (fun e => by
    obtain ⟨o, ho, hc⟩ := hr B e.symm
    rw [show W.heap[B]? = _ from h] at ho
    cases ho
    cases hc)
theorem AJ.kept {w : World} {pre : List S34} {W W' : World} {row : Option Nat} {n : Nat} (h : AJ w pre W) (hn : w.heap.size ≤ n) (hg : W.grownBy W' row) (hr : ∀ r, row = some r → n ≤ r ∧ ∃ o : Obj, W.heap[r]? = some o ∧ o.isCells = false) : AJ w pre W' := by
  obtain ⟨v, h1, h2, h3⟩ := h
  have hr2 : ∀ r, row = some r → ∃ o : Obj, W.heap[r]? = some o ∧ o.isCells = false := fun r e => (hr r e).2
  exact ⟨v, boxed_kept h1 hg hr2, row_kept h2 hg hr2, h3.grown hg h3.size (fun k e => Nat.le_trans hn (hr k e).1)⟩
theorem AJ.far {w : World} {pre : List S34} {W W' : World} (h : AJ w pre W) (hb : Below W.heap.size W W') : AJ w pre W' := by
  obtain ⟨v, h1, h2, h3⟩ := h
  exact ⟨v, blk_below h1 hb, own_move h2 (fun k e => hb.block k (own_lt h2 k e)), h3.trans (hb.mono h3.size)⟩
def seqEnd (l : List S34) (w : World) (e : Ending) (w' : World) : Prop := ∃ v, e = .returned v ∧ w'.ownsRow w.heap.size 34 4 v l.length (flat l) ∧ Below w.heap.size w w'
theorem put_below {w W : World} {D : Nat} {o : Obj} (h : Below w.heap.size w W) (hD : w.heap.size ≤ D) : Below w.heap.size w (W.putObj D o) :=
  h.grown (grownBy_putObj' W D o) h.size (fun k e => by cases e; omega)
attribute [local go_sem] Oper.semAt_some
set_option maxHeartbeats 8000000 in
set_option maxRecDepth 100000 in
theorem seq_in (gf : Nat) (lb : Array Value) (l : List S34) (w : World) (hl : l.length ≤ 1000000)
    (eg : ∀ args w, (callFunc gf args).run Try.prog w = .ok (.enter gf args) w) (hseq : ∀ W, Iter Fence.wide 4 Try.prog gf lb encV l (fun W => Below w.heap.size w W) W) :
    CallsIn Fence.wide 5 Try.prog 68 #[.slice none 0 0, .func (.func gf) #[] lb] w (seqEnd l w) := by
  have HSEQ := Aside0.mk hseq
  clear hseq
  refine callsIn_of_wp_marks Try.func68 rfl trivial ?_ rfl
  simp only [Try.ntmps68, List.size_toArray, List.length_cons, List.length_nil, Nat.reduceAdd, Nat.reduceSub, Array.replicate_succ, Array.replicate_zero, List.push_toArray, List.append_toArray, List.nil_append, List.cons_append]
  gi_wp2
  obtain ⟨W0, hW0⟩ : ∃ W0, w.alloc (Obj.cells #[Value.slice none 0 0] 31) = W0 := ⟨_, rfl⟩
  have hI : AJ w [] W0 := by
    refine ⟨.slice none 0 0, ?_, World.ownsRow_nil _ _ _ _, ?_⟩
    · rw [← hW0]
      exact Boxed.new w _ _
    · rw [← hW0]
      exact below_alloc (Below.refl _ w) _
  have hsz : W0.heap.size = w.heap.size + 1 := by rw [← hW0]; simp
  rw [hW0]
  clear hW0
  refine range_iter (n := 5) rfl (by omega) (gf := gf) (lb := lb) rfl trivial eg (HSEQ.out W0) (fun _ => rfl)
    (AJ w) (fun _ _ => False)
    (fun _ A B row h hg hr => h.kept (n := W0.heap.size) (by omega) hg hr) (fun _ A B h ht => h.far ht)
    (fun _ A B row h hg hr => h.elim) (fun _ A B h ht => h.elim)
    (fun _ _ h => by obtain ⟨v, h1, h2, h3⟩ := h; exact h3) hI
    (fun pre x a' W => AJ w pre W ∧ ∃ bx, w.heap.size + 1 ≤ bx ∧ W.heap[bx]? = some (.cells #[.int .i64 x.f0, .int .i64 x.f1, .string x.f2, .int .i64 x.f3] 34 (0, 0)) ∧ a' = { tmps := #[.slice none 0 0, .func (.func gf) #[] lb, .pointer (some ⟨w.heap.size, 0, none⟩), undef, .slice none 0 0, .pointer (some ⟨bx, 0, none⟩), .func (.func gf) #[] lb, .agg #[.int .i64 x.f0, .int .i64 x.f1, .string x.f2, .int .i64 x.f3], undef, undef, undef, undef, undef], defers := [] })
    ?ownAx ?assign ?body ?done ?stop
  case ownAx =>
    rintro ⟨pre, x, a'⟩ A B row ⟨h1, bx, hb1, hb2, hb3⟩ hg hr
    exact ⟨h1.kept (n := W0.heap.size) (by omega) hg hr, bx, hb1, (grownBy_keeps_cells hg (fun r e => (hr r e).2) hb2 rfl).trans hb2, hb3⟩
  case assign =>
    intro ll pre x W K hI1 hK
    unfold encV
    gi_wp2
    have hlt : w.heap.size + 1 ≤ W.heap.size := by
      obtain ⟨v, h1, _⟩ := hI1
      exact h1.lt
    exact hK _ _ (KeepsOthers.alloc W _) ⟨hI1.far (below_alloc (Below.refl _ W) _), W.heap.size, hlt, blk_new W _, rfl⟩
  case body =>
    rintro ll pre x post a' W hall ⟨⟨v, hv, hrow, hbel⟩, bx, hb1, hb2, rfl⟩
    have hpl : pre.length + 1 ≤ 1000000 := by
      have := congrArg List.length hall
      rw [List.length_append, List.length_cons] at this
      omega
    obtain ⟨x0, x1, x2, x3⟩ := x
    have k0 := (blk_cell hb2 0).trans (show _ = some (Value.int .i64 x0) from rfl)
    have k1 := (blk_cell hb2 1).trans (show _ = some (Value.int .i64 x1) from rfl)
    have k2 := (blk_cell hb2 2).trans (show _ = some (Value.string x2) from rfl)
    have k3 := (blk_cell hb2 3).trans (show _ = some (Value.int .i64 x3) from rfl)
    have m0 := hv.cell
    have f0 := hv.frozen
    have HALL := Aside0.mk hall
    clear hall hI
    obtain ⟨i0, hi, hz0, hz1, hz2⟩ := info_parts infoI2
    gi_wp2_with (gi_at_builtin; refine wpListIn_append_own _ rfl _ _ 31 rfl w.heap.size 34 i0 (.agg #[.int .i64 0, .int .i64 0, .string ⟨#[]⟩, .int .i64 0]) 4 40 Try.underlying31 hi hz0 hz1 hz2 rfl (by decide) _ _ _ rfl (hrow.alloc _) ⟨W.heap.size, 0, none⟩ 1 1 [.int .i64 x0, .int .i64 x1, .string x2, .int .i64 x3] rfl rfl (cells_new W _ _) ?one ?len ?byt ?bas ?_; (case one => simp [Value.oneCell']); (case len => unfold maxLen; omega); (case byt => omega); (case bas => rw [World.size_alloc]; have := hbel.size; omega); intro v' w1 hown' hgrow _; obtain ⟨g', cap', rfl⟩ := ownsRow_succ hown'; obtain ⟨hv1, hv2, hr2, hk2, hb2⟩ := hv.appended (by decide) hrow hbel.size (Nat.le_refl _) hown' hgrow; have hc1 := hv1.cell; have hf1 := hv1.frozen)
    refine ⟨hk2, _, hv2, ?_, hbel.trans hb2⟩
    have ef : flat (pre ++ [(⟨x0, x1, x2, x3⟩ : S34)]) = flat pre ++ [.int .i64 x0, .int .i64 x1, .string x2, .int .i64 x3] := by rw [flat_app]; simp [flat, itv]
    rw [ef, List.length_append]
    exact hr2
  case done =>
    rintro D W hD ⟨v, hv, hrow, hbel⟩ hK
    have m0 := hv.cell
    clear hI
    gi_wp2
    refine ⟨by simp, .inl ⟨_, _, rfl, run_takeDeferred hK, ?_⟩⟩
    refine ⟨_, results_tmp rfl _ _ _, ?_⟩
    refine ⟨v, rfl, row_kept hrow (grownBy_putObj' W D _) (fun r e => ?_), put_below hbel (by omega)⟩
    cases e
    exact ⟨_, hK, rfl⟩
  case stop =>
    rintro D pre x post W hD hall h
    exact h.elim

end Go.Proofs.Ytdlbnkiolpmnbaa.Ag
