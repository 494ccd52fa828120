/- agenda: what a pointer to an Agenda leads to. No condition. -/
import Derived.Test.YtdlbnkiolpmnbaaProg
import Derived.Test.YtdlbnkiolpmnbaaMAgax0
import Derived.Test.YtdlbnkiolpmnbaaMAgax2
import Derived.WalkKit
import Derived.Deep.RegionLaw
import Derived.Deep.RegionWith
import Derived.Deep.RegionHeld3
import Derived.BigRegion
import Derived.BigQuiet
import Derived.StillTailTactics
import Derived.Maps.OwnIn
import Derived.Maps.OwnSet
namespace Go.Proofs.Ytdlbnkiolpmnbaa.Ag
open Go.RowKit Go.Proofs.Ytdlbnkiolpmnbaa.MAga Go.Proofs.YtdlbnkiolpmnbaaW.PrintWords Go.Proofs.YtdlbnkiolpmnbaaW.PrintLast Go.Proofs.YtdlbnkiolpmnbaaW.PrintMore
attribute [local go_sem] max2_int min2_int max_two min_two max_three min_three max_four min_four
set_option linter.unusedVariables false
set_option linter.unusedSimpArgs false
-- import Derived.Maps.OwnIn
-- import Derived.Maps.OwnSet
/-- The cells of an item, and of items. -/
def itv (x : S34) : List Value := [.int .i64 x.f0, .int .i64 x.f1, .string x.f2, .int .i64 x.f3]
def flat (l : List S34) : List Value := l.flatMap itv
theorem flat_len (l : List S34) : (flat l).length = l.length * 4 := by
  unfold flat
  induction l with
  | nil => rfl
  | cons x l ih => rw [List.flatMap_cons, List.length_append, ih, List.length_cons]; simp [itv]; omega
theorem flat_app (a b : List S34) : flat (a ++ b) = flat a ++ flat b := by simp [flat]
theorem flat_cons (x : S34) (l : List S34) : flat (x :: l) = itv x ++ flat l := rfl
theorem flat_at : ∀ (l : List S34) (i : Nat) (h : i < l.length) (j : Nat), j < 4 → (flat l)[i * 4 + j]? = (itv l[i])[j]?
  | x :: l, 0, _, j, hj => by
    rw [flat_cons, Nat.zero_mul, Nat.zero_add, List.getElem?_append_left (by simp [itv]; omega)]
    rfl
  | x :: l, i + 1, h, j, hj => by
    have ih := flat_at l i (by simpa using h) j hj
    rw [flat_cons, List.getElem?_append_right (by simp [itv]; omega)]
    refine Eq.trans ?_ ih
    congr 1
    simp [itv]
    omega
theorem flat_set : ∀ (l : List S34) (i : Nat) (h : i < l.length) (x : S34), ((((flat l).set (i * 4) (.int .i64 x.f0)).set (i * 4 + 1) (.int .i64 x.f1)).set (i * 4 + 2) (.string x.f2)).set (i * 4 + 3) (.int .i64 x.f3) = flat (l.set i x)
  | y :: l, 0, _, x => by simp [flat, itv]
  | y :: l, i + 1, h, x => by
    have ih := flat_set l i (by simpa using h) x
    rw [List.set_cons_succ, flat_cons, flat_cons, ← ih]
    have e : (i + 1) * 4 = i * 4 + 4 := by omega
    rw [e]
    simp [itv]
/-- The map of places: which index a ticket has. -/
def PM (W : World) (mb n : Nat) (D : DataW Nat) : Prop := W.ownsMap Try.prog 3 (plainElem Try.prog 3) mb n D
def putP (D : DataW Nat) (t i : Int) : DataW Nat := D.put (Lit.int .i64 t) (.lit (.int .i64 i))
theorem PM.put {W : World} {mb n : Nat} {D : DataW Nat} (h : PM W mb n D) (hn : n < maxLen) (t i : Int) (ht : (Lit.int .i64 t).wf = true) (hi : (Lit.int .i64 i).wf = true) :
    ∃ W', (Instr.mapUpdate 80 (.map (some mb)) (.int .i64 t) (.int .i64 i)).run Try.prog W = .ok () W' ∧ PM W' mb (n + 1) (putP D t i) ∧ W.grownBy W' (some mb) :=
  World.ownsMap.update h (Maps.int_keyed Try.underlying3) Try.underlying80 hn (Maps.keyOf_int_mk Try.underlying3 ht) (plainElem_int Try.underlying3 hi)
structure AgSt (B : Nat) (W : World) (P mb : Nat) (hv : Value) (l : List S34) (n : Nat) (D : DataW Nat) (g : Int) : Prop where
  blk : W.heap[P]? = some (.cells #[hv, .map (some mb), .int .i64 g] 82 (0, 0))
  row : W.ownsRow B 34 4 hv l.length (flat l)
  map : PM W mb n D
  bp : B ≤ P
  bm : B ≤ mb
def AgF (P mb : Nat) (hv : Value) (k : Nat) : Prop := k = P ∨ k = mb ∨ hv.ownBlock = some k
theorem PM.isMap {W : World} {mb n : Nat} {D : DataW Nat} (h : PM W mb n D) : ∃ es c, W.heap[mb]? = some (.map es c) := by
  obtain ⟨es, c, h1, _⟩ := h
  exact ⟨es, c, h1⟩
theorem AgSt.pm {B : Nat} {W : World} {P mb : Nat} {hv : Value} {l : List S34} {n : Nat} {D : DataW Nat} {g : Int} (h : AgSt B W P mb hv l n D g) : P ≠ mb := by
  intro e
  obtain ⟨es, c, h1⟩ := h.map.isMap
  have h2 := h.blk
  rw [e, h1] at h2
  cases h2
theorem AgSt.rp {B : Nat} {W : World} {P mb : Nat} {hv : Value} {l : List S34} {n : Nat} {D : DataW Nat} {g : Int} (h : AgSt B W P mb hv l n D g) : hv.ownBlock ≠ some P := by
  intro e
  obtain ⟨cs, h1⟩ := own_typed h.row P e
  have h2 := h.blk
  rw [h1] at h2
  cases h2
theorem AgSt.rm {B : Nat} {W : World} {P mb : Nat} {hv : Value} {l : List S34} {n : Nat} {D : DataW Nat} {g : Int} (h : AgSt B W P mb hv l n D g) : hv.ownBlock ≠ some mb := by
  intro e
  obtain ⟨cs, h1⟩ := own_typed h.row mb e
  obtain ⟨es, c, h2⟩ := h.map.isMap
  rw [h1] at h2
  cases h2
/-- What leaves these three blocks leaves the agenda. -/
theorem AgSt.kept {B : Nat} {W W' : World} {P mb : Nat} {hv : Value} {l : List S34} {n : Nat} {D : DataW Nat} {g : Int} {S : Nat → Prop} (h : AgSt B W P mb hv l n D g) (hk : Kept W W' S) (hS : ∀ k, AgF P mb hv k → ¬ S k) : AgSt B W' P mb hv l n D g := by
  refine ⟨blk_kept h.blk hk (hS P (.inl rfl)), own_move h.row (fun k e => hk.2 k (own_lt h.row k e) (hS k (.inr (.inr e)))), ?_, h.bp, h.bm⟩
  obtain ⟨es, c, h1, h2⟩ := h.map
  exact ⟨es, c, blk_kept h1 hk (hS mb (.inr (.inl rfl))), h2⟩
theorem AgSt.far {B : Nat} {W W' : World} {P mb : Nat} {hv : Value} {l : List S34} {n : Nat} {D : DataW Nat} {g : Int} (h : AgSt B W P mb hv l n D g) (hb : Below W.heap.size W W') : AgSt B W' P mb hv l n D g := h.kept (Kept.of_below hb (fun _ => False)) (fun _ _ h => h)
/-- An item stored at its place. -/
theorem AgSt.item {B : Nat} {W : World} {P mb g0 c : Nat} {l : List S34} {n : Nat} {D : DataW Nat} {g : Int} (h : AgSt B W P mb (.slice (some ⟨g0, 0, none⟩) l.length c) l n D g) (i : Nat) (hi : i < l.length) (x : S34) :
    AgSt B ((((W.setCell ⟨g0, i * 4, none⟩ (.int .i64 x.f0)).setCell ⟨g0, i * 4 + 1, none⟩ (.int .i64 x.f1)).setCell ⟨g0, i * 4 + 2, none⟩ (.string x.f2)).setCell ⟨g0, i * 4 + 3, none⟩ (.int .i64 x.f3)) P mb (.slice (some ⟨g0, 0, none⟩) (l.set i x).length c) (l.set i x) n D g := by
  have r0 := h.row.stored (i * 4) (.int .i64 x.f0)
  have r1 := r0.1.stored (i * 4 + 1) (.int .i64 x.f1)
  have r2 := r1.1.stored (i * 4 + 2) (.string x.f2)
  have r3 := r2.1.stored (i * 4 + 3) (.int .i64 x.f3)
  have hp : P ≠ g0 := fun e => h.rp (by rw [e]; rfl)
  have hm : mb ≠ g0 := fun e => h.rm (by rw [e]; rfl)
  have row := r3.1
  rw [flat_set l i hi x] at row
  have hl : (l.set i x).length = l.length := List.length_set
  refine ⟨?_, ?_, ?_, h.bp, h.bm⟩
  · rw [hl]
    exact blk_far (blk_far (blk_far (blk_far h.blk hp _) hp _) hp _) hp _
  · rw [hl]
    exact row
  · exact (((h.map.setCell hm _).setCell hm _).setCell hm _).setCell hm _
/-- A place laid. -/
theorem AgSt.place {B : Nat} {W W' : World} {P mb : Nat} {hv : Value} {l : List S34} {n n' : Nat} {D D' : DataW Nat} {g : Int} (h : AgSt B W P mb hv l n D g) (hm : PM W' mb n' D') (hg : W.grownBy W' (some mb)) : AgSt B W' P mb hv l n' D' g := by
  refine ⟨(hg.block P (blk_lt h.blk) (fun e => h.pm (Option.some.inj e))).trans h.blk, own_move h.row (fun k e => hg.block k (own_lt h.row k e) (fun e2 => h.rm (by rw [e, e2]))), hm, h.bp, h.bm⟩
theorem AgSt.len {B : Nat} {W : World} {P mb m c : Nat} {a : Addr} {l : List S34} {n : Nat} {D : DataW Nat} {g : Int} (h : AgSt B W P mb (.slice (some a) m c) l n D g) : m = l.length := by
  rcases h.row.2 with ⟨e, _⟩ | ⟨g1, cap, cur, e, _⟩
  · cases e
  · cases e
    rfl
theorem AgSt.cases {B : Nat} {W : World} {P mb : Nat} {hv : Value} {l : List S34} {n : Nat} {D : DataW Nat} {g : Int} (h : AgSt B W P mb hv l n D g) : (l = [] ∧ hv = .slice none 0 0) ∨ ∃ g0 c, hv = .slice (some ⟨g0, 0, none⟩) l.length c := by
  rcases h.row.2 with ⟨e, h0⟩ | ⟨g1, cap, cur, e, _⟩
  · exact .inl ⟨List.eq_nil_of_length_eq_zero h0, e⟩
  · exact .inr ⟨g1, cap, e⟩

end Go.Proofs.Ytdlbnkiolpmnbaa.Ag
