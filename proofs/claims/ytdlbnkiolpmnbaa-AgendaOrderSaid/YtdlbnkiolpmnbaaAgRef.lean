/- agenda: the document's own agenda: its row, lay, pick. Each says its own conditions. -/
import Derived.Test.YtdlbnkiolpmnbaaProg
import Derived.Test.YtdlbnkiolpmnbaaMAgax0
import Derived.Test.YtdlbnkiolpmnbaaMAgax2
import Derived.WalkKit
import Derived.Deep.RegionLaw
import Derived.Deep.RegionWith
import Derived.Deep.RegionHeld3
import Derived.BigRegion
import Derived.BigQuiet
import Derived.StillTailTactics
import Derived.Test.YtdlbnkiolpmnbaaAgSt
import Derived.Test.YtdlbnkiolpmnbaaAgLay
import Derived.Test.YtdlbnkiolpmnbaaAgCmp
import Derived.Test.YtdlbnkiolpmnbaaAgSet
import Derived.Test.YtdlbnkiolpmnbaaAgPlain
import Derived.Test.YtdlbnkiolpmnbaaAgInv
import Derived.Test.YtdlbnkiolpmnbaaAgOp
import Derived.Test.YtdlbnkiolpmnbaaAgPut
import Derived.Test.YtdlbnkiolpmnbaaAgMov
import Derived.Test.YtdlbnkiolpmnbaaAgCan
import Derived.Test.YtdlbnkiolpmnbaaAgTak
import Derived.Test.YtdlbnkiolpmnbaaAgTke
import Derived.Test.YtdlbnkiolpmnbaaAgLaw
import Derived.Test.YtdlbnkiolpmnbaaAgIter
import Derived.Test.YtdlbnkiolpmnbaaAgSeq
import Derived.Test.YtdlbnkiolpmnbaaAgSort
import Derived.Test.YtdlbnkiolpmnbaaAgList
import Derived.Test.YtdlbnkiolpmnbaaAgShow
import Derived.Test.YtdlbnkiolpmnbaaAgLv
import Derived.Test.YtdlbnkiolpmnbaaAgSame
import Derived.Maps.OwnIn
import Derived.Maps.OwnSet
import Derived.Deep.AppendLies
namespace Go.Proofs.Ytdlbnkiolpmnbaa.Ag
open Go.RowKit Go.Proofs.Ytdlbnkiolpmnbaa.MAga Go.Proofs.YtdlbnkiolpmnbaaW.PrintWords Go.Proofs.YtdlbnkiolpmnbaaW.PrintLast Go.Proofs.YtdlbnkiolpmnbaaW.PrintMore
attribute [local go_sem] max2_int min2_int max_two min_two max_three min_three max_four min_four
set_option linter.unusedVariables false
set_option linter.unusedSimpArgs false
-- import Derived.Maps.OwnIn
-- import Derived.Maps.OwnSet
-- import Derived.Deep.AppendLies
structure RfSt (B : Nat) (W : World) (P : Nat) (hv : Value) (L : List S34) (g : Int) : Prop where
  blk : W.heap[P]? = some (.cells #[hv, .int .i64 g] 64 (0, 0))
  row : W.ownsRow B 69 4 hv L.length (flat L)
  bp : B ≤ P
def RfF (P : Nat) (hv : Value) (k : Nat) : Prop := k = P ∨ hv.ownBlock = some k
def RfV (B : Nat) (W : World) (P : Nat) (F : Nat → Prop) (L : List S34) (g : Int) : Prop := ∃ hv, RfSt B W P hv L g ∧ F = RfF P hv
theorem RfSt.rp {B : Nat} {W : World} {P : Nat} {hv : Value} {L : List S34} {g : Int} (h : RfSt B W P hv L g) : hv.ownBlock ≠ some P := by
  intro e
  obtain ⟨cs, h1⟩ := own_typed h.row P e
  have h2 := h.blk
  rw [h1] at h2
  cases h2
theorem RfSt.kept {B : Nat} {W W' : World} {P : Nat} {hv : Value} {L : List S34} {g : Int} {S : Nat → Prop} (h : RfSt B W P hv L g) (hk : Kept W W' S) (hS : ∀ k, RfF P hv k → ¬ S k) : RfSt B W' P hv L g :=
  ⟨blk_kept h.blk hk (hS P (.inl rfl)), own_move h.row (fun k e => hk.2 k (own_lt h.row k e) (hS k (.inr e))), h.bp⟩
theorem RfSt.far {B : Nat} {W W' : World} {P : Nat} {hv : Value} {L : List S34} {g : Int} (h : RfSt B W P hv L g) (hb : Below W.heap.size W W') : RfSt B W' P hv L g := h.kept (Kept.of_below hb (fun _ => False)) (fun _ _ h => h)
theorem RfV.kept {B : Nat} {W W' : World} {P : Nat} {F : Nat → Prop} {L : List S34} {g : Int} {S : Nat → Prop} (h : RfV B W P F L g) (hk : Kept W W' S) (hS : ∀ k, F k → ¬ S k) : RfV B W' P F L g := by
  obtain ⟨hv, h1, rfl⟩ := h
  exact ⟨hv, h1.kept hk hS, rfl⟩
theorem RfV.far {B : Nat} {W W' : World} {P : Nat} {F : Nat → Prop} {L : List S34} {g : Int} (h : RfV B W P F L g) (hb : Below W.heap.size W W') : RfV B W' P F L g := h.kept (Kept.of_below hb (fun _ => False)) (fun _ _ h => h)
theorem RfV.lt {B : Nat} {W : World} {P : Nat} {F : Nat → Prop} {L : List S34} {g : Int} (h : RfV B W P F L g) : ∀ k, F k → k < W.heap.size := by
  obtain ⟨hv, h1, rfl⟩ := h
  intro k hk
  rcases hk with rfl | hk
  · exact blk_lt h1.blk
  · exact own_lt h1.row k hk
theorem RfV.base {B : Nat} {W : World} {P : Nat} {F : Nat → Prop} {L : List S34} {g : Int} (h : RfV B W P F L g) : B ≤ W.heap.size := by
  obtain ⟨hv, h1, rfl⟩ := h
  exact Nat.le_trans h1.bp (Nat.le_of_lt (blk_lt h1.blk))
theorem RfSt.two {B : Nat} {W : World} {P : Nat} {hv : Value} {L : List S34} {g : Int} (h : RfSt B W P hv L g) : ∃ ad c, hv = .slice ad L.length c ∧ L.length ≤ c := by
  rcases h.row.2 with ⟨e, h0⟩ | ⟨g1, cap, cur, e, _, _, h1, _⟩
  · exact ⟨none, 0, by rw [e, h0], by omega⟩
  · exact ⟨_, cap, e, h1⟩
/-- The cells of an item of the row. -/
theorem RfSt.cells {B : Nat} {W : World} {P : Nat} {ad : Option Addr} {m c : Nat} {L : List S34} {g : Int} (h : RfSt B W P (.slice ad m c) L g) (i : Nat) (hi : i < L.length) :
    ∃ g0, ad = some ⟨g0, 0, none⟩ ∧ W.cell? ⟨g0, i * 4, none⟩ = some (.int .i64 (gt L i).f0) ∧ W.cell? ⟨g0, i * 4 + 1, none⟩ = some (.int .i64 (gt L i).f1) ∧ W.cell? ⟨g0, i * 4 + 2, none⟩ = some (.string (gt L i).f2) ∧ W.cell? ⟨g0, i * 4 + 3, none⟩ = some (.int .i64 (gt L i).f3) := by
  rcases h.row.2 with ⟨e, h0⟩ | ⟨g1, cap, cur, e, _⟩
  · omega
  · cases e
    have c0 := h.row.cellAt (i * 4) (by omega)
    have c1 := h.row.cellAt (i * 4 + 1) (by omega)
    have c2 := h.row.cellAt (i * 4 + 2) (by omega)
    have c3 := h.row.cellAt (i * 4 + 3) (by omega)
    have z0 := flat_at L i hi 0 (by omega)
    rw [Nat.add_zero] at z0
    rw [z0] at c0
    rw [flat_at L i hi 1 (by omega)] at c1
    rw [flat_at L i hi 2 (by omega)] at c2
    rw [flat_at L i hi 3 (by omega)] at c3
    rw [gt_at L i hi]
    exact ⟨g1, rfl, c0, c1, c2, c3⟩
theorem infoR : (Try.prog.info? 69).map (fun i => (i.zero, i.size, i.bytes)) = some (some (.agg #[.int .i64 0, .int .i64 0, .string ⟨#[]⟩, .int .i64 0]), 4, 40) := by kernel_rfl
theorem ahead_calls (x y : S34) (w : World) : Calls Try.prog 74 #[.agg #[.int .i64 x.f0, .int .i64 x.f1, .string x.f2, .int .i64 x.f3], .agg #[.int .i64 y.f0, .int .i64 y.f1, .string y.f2, .int .i64 y.f3]] w fun e w' => e = .returned (.bool (decide (cmpI x y < 0))) ∧ Below w.heap.size w w' := by
  refine analemmaref08_ahead.calls _ _ _ _ _ _ _ _ _ w ?_
  unfold analemmaref08_ahead.f
  have h := cmp_lt (x := x) (y := y)
  by_cases h1 : x.f0 < y.f0
  · rw [if_pos h1, decide_eq_true (h.2 (.inl h1))]
  · rw [if_neg h1]
    by_cases h2 : x.f0 = y.f0
    · rw [if_pos h2]
      by_cases h3 : x.f3 < y.f3
      · rw [decide_eq_true h3, decide_eq_true (h.2 (.inr ⟨h2, h3⟩))]
      · rw [decide_eq_false h3, decide_eq_false (fun hc => by rcases h.1 hc with h4 | h4 <;> omega)]
    · rw [if_neg h2, decide_eq_false (fun hc => by rcases h.1 hc with h4 | h4 <;> omega)]
/-- How far lay has come: what it has written, whether the new item is in. -/
def Laid (x : S34) (M : List S34) (out : List S34) (d : Bool) : Prop := (d = true → out = insR x M) ∧ (d = false → out = M ∧ ∀ y ∈ M, ¬ cmpI x y < 0)
theorem insR_in {x : S34} : ∀ {M : List S34} {y : S34}, (∃ z ∈ M, cmpI x z < 0) → insR x (M ++ [y]) = insR x M ++ [y]
  | [], _, h => by obtain ⟨z, hz, _⟩ := h; simp at hz
  | a :: M, y, h => by
    rw [List.cons_append, insR, insR]
    by_cases hc : cmpI x a < 0
    · rw [if_pos hc, if_pos hc]
      rfl
    · rw [if_neg hc, if_neg hc, insR_in (by
        obtain ⟨z, hz, h2⟩ := h
        rcases List.mem_cons.1 hz with rfl | hz
        · exact absurd h2 hc
        · exact ⟨z, hz, h2⟩)]
      rfl
theorem insR_out {x : S34} : ∀ {M : List S34}, (∀ y ∈ M, ¬ cmpI x y < 0) → ∀ N, insR x (M ++ N) = M ++ insR x N
  | [], _, _ => rfl
  | a :: M, h, N => by
    rw [List.cons_append, insR, if_neg (h a List.mem_cons_self), insR_out (fun y hy => h y (List.mem_cons_of_mem _ hy)), List.cons_append]
structure LaidX (x : S34) (M out : List S34) (d : Bool) : Prop where
  l : Laid x M out d
  has : d = true → ∃ z ∈ M, cmpI x z < 0
theorem LaidX.step {x : S34} {M out : List S34} {d : Bool} (h : LaidX x M out d) (y : S34) :
    LaidX x (M ++ [y]) ((if d = false ∧ cmpI x y < 0 then out ++ [x] else out) ++ [y]) (d || decide (cmpI x y < 0)) := by
  obtain ⟨⟨h1, h2⟩, h3⟩ := h
  cases d with
  | true =>
    rw [if_neg (by simp)]
    refine ⟨⟨fun _ => ?_, fun e => by simp at e⟩, fun _ => ?_⟩
    · rw [insR_in (h3 rfl), h1 rfl]
    · obtain ⟨z, hz, hc⟩ := h3 rfl
      exact ⟨z, List.mem_append_left _ hz, hc⟩
  | false =>
    obtain ⟨h4, h5⟩ := h2 rfl
    by_cases hc : cmpI x y < 0
    · rw [if_pos ⟨rfl, hc⟩, decide_eq_true hc]
      refine ⟨⟨fun _ => ?_, fun e => by simp at e⟩, fun _ => ⟨y, by simp, hc⟩⟩
      rw [insR_out h5, h4, insR, if_pos hc]
      simp
    · rw [if_neg (fun e => hc e.2), decide_eq_false hc]
      refine ⟨⟨fun e => by simp at e, fun _ => ⟨by rw [h4], fun z hz => ?_⟩⟩, fun e => by simp at e⟩
      rcases List.mem_append.1 hz with hz | hz
      · exact h5 z hz
      · rw [List.mem_singleton.1 hz]
        exact hc
theorem LaidX.end_ {x : S34} {M out : List S34} {d : Bool} (h : LaidX x M out d) : (if d = true then out else out ++ [x]) = insR x M := by
  cases d with
  | true =>
    rw [if_pos rfl]
    exact h.l.1 rfl
  | false =>
    obtain ⟨h4, h5⟩ := h.l.2 rfl
    have e := insR_out h5 []
    rw [List.append_nil] at e
    rw [if_neg (by simp), e, h4]
    rfl
theorem offR_snoc (t : Int) (M : List S34) (y : S34) : offR t (M ++ [y]) = if y.f3 = t then offR t M else offR t M ++ [y] := by
  unfold offR
  rw [List.filter_append]
  by_cases h : y.f3 = t
  · rw [if_pos h, List.filter_cons_of_neg (by simpa using h)]
    simp
  · rw [if_neg h, List.filter_cons_of_pos (by simpa using h)]
    rfl
theorem tkR_snoc_ne {t : Int} {M : List S34} {y : S34} (h : y.f3 ≠ t) : tkR t (M ++ [y]) = tkR t M := by
  unfold tkR
  rw [List.find?_append, List.find?_cons_of_neg (by simpa using h)]
  simp
theorem tkR_snoc_eq {t : Int} {M : List S34} {y : S34} (h : y.f3 = t) (hM : ∀ z ∈ M, z.f3 ≠ t) : tkR t (M ++ [y]) = some y := by
  have e := tkR_none hM
  unfold tkR at e ⊢
  rw [List.find?_append, e, List.find?_cons_of_pos (by simpa using h)]
  rfl
def pickR (t : Int) (L : List S34) : S34 × Bool := match tkR t L with | some y => (y, true) | none => (⟨0, 0, ⟨#[]⟩, 0⟩, false)
theorem take_snoc (L : List S34) (i : Nat) (h : i < L.length) : L.take (i + 1) = L.take i ++ [gt L i] := by
  rw [gt_at L i h, List.take_succ_eq_append_getElem h]
theorem step_call {P : Program} {ops : Array Oper} {o : Oper} {a : Act} {w : World} {K : Act → World → Prop} {Q : Exit → Act → World → Prop} {E : Prop} {R : Ending → World → Prop} {f : Nat} {fn : Func}
    (hg : o.guard = none ∨ Region.wanted o (yielded ops a.tmps) = true) (xs : Array Operand) (ts : Array TypeId) (hop : o.op = Op.call { callee := .value (.func f), args := xs, argTypes := ts }) (hf : P.funcs[f]? = some fn) (hn : (fn.name == "runtime.NumGoroutine") = false) (hb : fn.body.isNone = false) (vs : Array Value) (hv : xs.toList.map a.eval = vs.toList)
    (hc : Calls P f vs w R) (hK : ∀ e w', R e w' → ∃ v, e = .returned v ∧ K (a.put o.dst v) w') : if Region.wanted o (yielded ops a.tmps) = true then Oper.wp P o a w K Q else E := by
  have hw : Region.wanted o (yielded ops a.tmps) = true := by
    rcases hg with hg | hg
    · simp [Region.wanted, hg]
    · exact hg
  rw [if_pos hw]
  obtain ⟨dst, op, type, pos, after, guard⟩ := o
  subst hop
  have hv' : xs.map a.eval = vs := by rw [← Array.toList_inj, Array.toList_map]; exact hv
  subst hv'
  unfold Oper.wp
  rw [execOp_call_go]
  have e : #[] ++ xs.map a.eval ++ #[] = xs.map a.eval := by simp
  rw [e]
  have hr : (callFunc f (xs.map a.eval)).run P w = .ok (.enter f (xs.map a.eval)) w := by
    have h1 : fn.name ≠ "runtime.NumGoroutine" := by simpa using hn
    have h2 : fn.body ≠ none := fun h => by rw [h] at hb; cases hb
    simp [callFunc, hf, h1, h2]
  rw [hr, Oper.upon_enter]
  refine hc.mono fun e w' h => ?_
  obtain ⟨v, rfl, hk⟩ := hK e w' h
  exact hk

end Go.Proofs.Ytdlbnkiolpmnbaa.Ag
