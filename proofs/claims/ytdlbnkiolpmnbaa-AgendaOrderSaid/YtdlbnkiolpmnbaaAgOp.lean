/- agenda: an agenda as its callers see it: its items in order, its tickets; what a call may touch. It says its own conditions. -/
import Derived.Test.YtdlbnkiolpmnbaaProg
import Derived.Test.YtdlbnkiolpmnbaaMAgax0
import Derived.Test.YtdlbnkiolpmnbaaMAgax2
import Derived.WalkKit
import Derived.Deep.RegionLaw
import Derived.Deep.RegionWith
import Derived.Deep.RegionHeld3
import Derived.BigRegion
import Derived.BigQuiet
import Derived.StillTailTactics
import Derived.Test.YtdlbnkiolpmnbaaAgSt
import Derived.Test.YtdlbnkiolpmnbaaAgLay
import Derived.Test.YtdlbnkiolpmnbaaAgCmp
import Derived.Test.YtdlbnkiolpmnbaaAgSet
import Derived.Test.YtdlbnkiolpmnbaaAgPlain
import Derived.Test.YtdlbnkiolpmnbaaAgInv
import Derived.Maps.OwnIn
import Derived.Maps.OwnSet
import Derived.Deep.AppendLies
namespace Go.Proofs.Ytdlbnkiolpmnbaa.Ag
open Go.RowKit Go.Proofs.Ytdlbnkiolpmnbaa.MAga Go.Proofs.YtdlbnkiolpmnbaaW.PrintWords Go.Proofs.YtdlbnkiolpmnbaaW.PrintLast Go.Proofs.YtdlbnkiolpmnbaaW.PrintMore
attribute [local go_sem] max2_int min2_int max_two min_two max_three min_three max_four min_four
set_option linter.unusedVariables false
set_option linter.unusedSimpArgs false
-- import Derived.Maps.OwnIn
-- import Derived.Maps.OwnSet
-- import Derived.Deep.AppendLies
open Go.Maps
def AgV (B : Nat) (W : World) (P : Nat) (F : Nat → Prop) (c : Nat) (L : List S34) (g : Int) : Prop :=
  ∃ mb hv l n D, AgSt B W P mb hv l n D g ∧ Inv l D g L ∧ n ≤ 4000 * c ∧ g ≤ c ∧ F = AgF P mb hv
/-- What a call may touch: the agenda's own blocks, and new ones. -/
structure To (B : Nat) (w w' : World) (F F' : Nat → Prop) : Prop where
  kept : Kept w w' F
  bel : Below B w w'
  sub : ∀ k, F' k → F k ∨ w.heap.size ≤ k
theorem To.trans {B : Nat} {w w1 w2 : World} {F F1 F2 : Nat → Prop} (h : To B w w1 F F1) (h2 : To B w1 w2 F1 F2) : To B w w2 F F2 :=
  ⟨h.kept.then_ h2.kept h.sub, h.bel.trans h2.bel, fun k hk => (h2.sub k hk).elim (fun h3 => h.sub k h3) (fun h3 => .inr (Nat.le_trans h.kept.1 h3))⟩
theorem To.refl (B : Nat) (w : World) (F : Nat → Prop) : To B w w F F := ⟨Kept.refl _ _, Below.refl _ _, fun _ h => .inl h⟩
theorem To.same {B : Nat} {w w' : World} {F : Nat → Prop} (hk : Kept w w' F) (hb : Below B w w') : To B w w' F F := ⟨hk, hb, fun _ h => .inl h⟩
theorem AgV.kept {B : Nat} {W W' : World} {P : Nat} {F : Nat → Prop} {c : Nat} {L : List S34} {g : Int} {S : Nat → Prop} (h : AgV B W P F c L g) (hk : Kept W W' S) (hS : ∀ k, F k → ¬ S k) : AgV B W' P F c L g := by
  obtain ⟨mb, hv, l, n, D, h1, h2, h3, h4, rfl⟩ := h
  exact ⟨mb, hv, l, n, D, h1.kept hk hS, h2, h3, h4, rfl⟩
theorem AgV.far {B : Nat} {W W' : World} {P : Nat} {F : Nat → Prop} {c : Nat} {L : List S34} {g : Int} (h : AgV B W P F c L g) (hb : Below W.heap.size W W') : AgV B W' P F c L g := h.kept (Kept.of_below hb (fun _ => False)) (fun _ _ h => h)
theorem AgV.mono {B : Nat} {W : World} {P : Nat} {F : Nat → Prop} {c c' : Nat} {L : List S34} {g : Int} (h : AgV B W P F c L g) (hc : c ≤ c') : AgV B W P F c' L g := by
  obtain ⟨mb, hv, l, n, D, h1, h2, h3, h4, rfl⟩ := h
  exact ⟨mb, hv, l, n, D, h1, h2, by omega, by omega, rfl⟩
theorem AgV.lt {B : Nat} {W : World} {P : Nat} {F : Nat → Prop} {c : Nat} {L : List S34} {g : Int} (h : AgV B W P F c L g) : ∀ k, F k → k < W.heap.size := by
  obtain ⟨mb, hv, l, n, D, h1, h2, h3, h4, rfl⟩ := h
  intro k hk
  rcases hk with rfl | rfl | hk
  · exact blk_lt h1.blk
  · exact World.ownsMap.lt h1.map
  · exact own_lt h1.row k hk
theorem AgSt.giv {B : Nat} {W : World} {P mb : Nat} {hv : Value} {l : List S34} {n : Nat} {D : DataW Nat} {g : Int} (h : AgSt B W P mb hv l n D g) (g' : Int) : AgSt B (W.setCell ⟨P, 2, none⟩ (.int .i64 g')) P mb hv l n D g' := by
  refine ⟨by simpa using blk_set h.blk 2 (.int .i64 g'), own_move h.row (fun k e => Below.heap_setCell _ _ _ _ (fun e2 => h.rp (by rw [e, e2]))), World.ownsMap.setCell h.map (fun e => h.pm e.symm) _, h.bp, h.bm⟩
/-- Another row stands in the heap's place. -/
theorem AgSt.heap {B : Nat} {W W' : World} {P mb : Nat} {hv hv' : Value} {l l' : List S34} {n : Nat} {D : DataW Nat} {g : Int} (h : AgSt B W P mb hv l n D g) (hr : W'.ownsRow B 34 4 hv' l'.length (flat l')) (hg : W.grownBy W' hv.ownBlock) : AgSt B (W'.setCell ⟨P, 0, none⟩ hv') P mb hv' l' n D g := by
  have hb : W'.heap[P]? = some (.cells #[hv, .map (some mb), .int .i64 g] 82 (0, 0)) := (hg.block P (blk_lt h.blk) (fun e => h.rp e.symm)).trans h.blk
  refine ⟨by simpa using blk_set hb 0 hv', own_move hr (fun k e => Below.heap_setCell _ _ _ _ (fun e2 => ?_)), World.ownsMap.setCell (World.ownsMap.kept h.map hg (fun e => h.rm e.symm)) (fun e => h.pm e.symm) _, h.bp, h.bm⟩
  obtain ⟨cs, h1⟩ := own_typed hr k e
  rw [e2, hb] at h1
  cases h1
theorem AgSt.two {B : Nat} {W : World} {P mb : Nat} {hv : Value} {l : List S34} {n : Nat} {D : DataW Nat} {g : Int} (h : AgSt B W P mb hv l n D g) : ∃ ad c, hv = .slice ad l.length c := by
  rcases h.cases with ⟨rfl, rfl⟩ | ⟨g0, c, rfl⟩
  · exact ⟨none, 0, rfl⟩
  · exact ⟨_, c, rfl⟩
def badP (at_ kind : Int) (s : ByteArray) : Prop := at_ < 0 ∨ kind < 0 ∨ 255 < kind ∨ 2000 < s.size
instance (a k : Int) (s : ByteArray) : Decidable (badP a k s) := by unfold badP; infer_instance
def putR (a k : Int) (s : ByteArray) (L : List S34) (g : Int) : Int × Int × List S34 × Int :=
  if badP a k s then (0, 1, L, g) else if 1000 ≤ L.length then (0, 2, L, g) else (g + 1, 0, insR ⟨a, k, s, g + 1⟩ L, g + 1)
def tkR (t : Int) (L : List S34) : Option S34 := L.find? (fun y => decide (y.f3 = t))
def doubleR (t a : Int) (L : List S34) (g : Int) : Int × Int × List S34 × Int := match tkR t L with | some y => putR a y.f1 y.f2 L g | none => (0, 3, L, g)
def cancelR (t : Int) (L : List S34) : Int × List S34 := match tkR t L with | some _ => (0, offR t L) | none => (3, L)
def moveR (t a : Int) (L : List S34) : Int × List S34 := match tkR t L with | some y => if a < 0 then (1, L) else (0, insR ⟨a, y.f1, y.f2, y.f3⟩ (offR t L)) | none => (3, L)
def nextR (L : List S34) : S34 × Bool := match L with | [] => (⟨0, 0, ⟨#[]⟩, 0⟩, false) | y :: _ => (y, true)
def takeR (now : Int) (L : List S34) : S34 × Bool × List S34 := match L with | [] => (⟨0, 0, ⟨#[]⟩, 0⟩, false, []) | y :: r => if now < y.f0 then (⟨0, 0, ⟨#[]⟩, 0⟩, false, y :: r) else (y, true, offR y.f3 (y :: r))
theorem tkR_at {l : List S34} {D : DataW Nat} {g : Int} {L : List S34} (h : Inv l D g L) {i : Nat} (hi : i < l.length) : tkR (gt l i).f3 L = some (gt l i) := by
  have hm : gt l i ∈ L := h.perm.mem_iff.2 (gt_mem hi)
  unfold tkR
  cases hf : L.find? (fun y => decide (y.f3 = (gt l i).f3)) with
  | none =>
    have := List.find?_eq_none.1 hf _ hm
    simp at this
  | some y =>
    have h1 := List.find?_some hf
    have h2 := List.mem_of_find?_eq_some hf
    obtain ⟨j, hj, e⟩ := mem_gt (h.perm.mem_iff.1 h2)
    have h3 : y.f3 = (gt l i).f3 := by simpa using h1
    by_cases hij : j = i
    · rw [← e, hij]
    · exact absurd (by rw [e]; exact h3) (h.pl.ne hj hi hij)
theorem tkR_no {l : List S34} {D : DataW Nat} {g : Int} {L : List S34} (h : Inv l D g L) {t : Int} (ht : hasT D t = false) : tkR t L = none := by
  unfold tkR
  rw [List.find?_eq_none]
  intro y hy
  simpa using h.pl.miss ht y (h.perm.mem_iff.1 hy)
theorem Inv.wf {l : List S34} {D : DataW Nat} {g : Int} {L : List S34} (h : Inv l D g L) (hg : g ≤ 1000000) : ∀ y ∈ l, (Lit.int .i64 y.f3).wf = true := by
  intro y hy
  have := h.tk y hy
  simp [Lit.wf, IntKind.min, IntKind.max, IntKind.bits, IntKind.signed]
  omega

end Go.Proofs.Ytdlbnkiolpmnbaa.Ag
