/- agenda: what the statements need of an agenda: no ticket stands twice; what is found, what is taken off. It says its own conditions. -/
import Derived.Test.YtdlbnkiolpmnbaaProg
import Derived.Test.YtdlbnkiolpmnbaaMAgax0
import Derived.Test.YtdlbnkiolpmnbaaMAgax2
import Derived.WalkKit
import Derived.Deep.RegionLaw
import Derived.Deep.RegionWith
import Derived.Deep.RegionHeld3
import Derived.BigRegion
import Derived.BigQuiet
import Derived.StillTailTactics
import Derived.Test.YtdlbnkiolpmnbaaAgSt
import Derived.Test.YtdlbnkiolpmnbaaAgLay
import Derived.Test.YtdlbnkiolpmnbaaAgCmp
import Derived.Test.YtdlbnkiolpmnbaaAgSet
import Derived.Test.YtdlbnkiolpmnbaaAgPlain
import Derived.Test.YtdlbnkiolpmnbaaAgInv
import Derived.Test.YtdlbnkiolpmnbaaAgOp
import Derived.Test.YtdlbnkiolpmnbaaAgPut
import Derived.Test.YtdlbnkiolpmnbaaAgMov
import Derived.Test.YtdlbnkiolpmnbaaAgCan
import Derived.Test.YtdlbnkiolpmnbaaAgTak
import Derived.Test.YtdlbnkiolpmnbaaAgTke
import Derived.Test.YtdlbnkiolpmnbaaAgLaw
import Derived.Test.YtdlbnkiolpmnbaaAgIter
import Derived.Test.YtdlbnkiolpmnbaaAgSeq
import Derived.Test.YtdlbnkiolpmnbaaAgSort
import Derived.Test.YtdlbnkiolpmnbaaAgList
import Derived.Test.YtdlbnkiolpmnbaaAgShow
import Derived.Maps.OwnIn
import Derived.Maps.OwnSet
namespace Go.Proofs.Ytdlbnkiolpmnbaa.Ag
open Go.RowKit Go.Proofs.Ytdlbnkiolpmnbaa.MAga Go.Proofs.YtdlbnkiolpmnbaaW.PrintWords Go.Proofs.YtdlbnkiolpmnbaaW.PrintLast Go.Proofs.YtdlbnkiolpmnbaaW.PrintMore
attribute [local go_sem] max2_int min2_int max_two min_two max_three min_three max_four min_four
set_option linter.unusedVariables false
set_option linter.unusedSimpArgs false
-- import Derived.Maps.OwnIn
-- import Derived.Maps.OwnSet
theorem Inv.nd {l : List S34} {D : DataW Nat} {g : Int} {L : List S34} (h : Inv l D g L) : L.Pairwise (fun a b => a.f3 ≠ b.f3) := by
  refine (h.perm.pairwise_iff (fun {_ _} h => h.symm)).2 ?_
  rw [List.pairwise_iff_getElem]
  intro i j hi hj hij
  rw [← gt_at l i hi, ← gt_at l j hj]
  exact h.pl.ne hi hj (by omega)
theorem AgV.nd {B : Nat} {W : World} {P : Nat} {F : Nat → Prop} {c : Nat} {L : List S34} {g : Int} (h : AgV B W P F c L g) : L.Pairwise (fun a b => a.f3 ≠ b.f3) := by
  obtain ⟨mb, hv, l, n, D, h1, h2, h3, h4, rfl⟩ := h
  exact h2.nd
theorem AgV.srt {B : Nat} {W : World} {P : Nat} {F : Nat → Prop} {c : Nat} {L : List S34} {g : Int} (h : AgV B W P F c L g) : Srt L := by
  obtain ⟨mb, hv, l, n, D, h1, h2, h3, h4, rfl⟩ := h
  exact h2.srt
theorem offR_head {y : S34} {r : List S34} (h : (y :: r).Pairwise (fun a b => a.f3 ≠ b.f3)) : offR y.f3 (y :: r) = r := by
  rw [List.pairwise_cons] at h
  unfold offR
  rw [List.filter_cons_of_neg (by simp)]
  exact offR_same (fun z hz e => h.1 z hz e.symm)
theorem insR_len (x : S34) (L : List S34) : (insR x L).length = L.length + 1 := by rw [(insR_perm x L).length_eq]; rfl
theorem putR_ok {a : Int} {L : List S34} {g : Int} (ha : 0 ≤ a) (hl : L.length < 1000) : putR a 1 ⟨#[]⟩ L g = (g + 1, 0, insR ⟨a, 1, ⟨#[]⟩, g + 1⟩ L, g + 1) := by
  unfold putR
  rw [if_neg (by unfold badP; have : (ByteArray.mk #[]).size = 0 := rfl; omega), if_neg (by omega)]
theorem tkR_mem {L : List S34} (hnd : L.Pairwise (fun a b => a.f3 ≠ b.f3)) {y : S34} (hy : y ∈ L) : tkR y.f3 L = some y := by
  unfold tkR
  cases hf : L.find? (fun z => decide (z.f3 = y.f3)) with
  | none =>
    have := List.find?_eq_none.1 hf y hy
    simp at this
  | some z =>
    have hz := List.mem_of_find?_eq_some hf
    have hz1 : z.f3 = y.f3 := by simpa using List.find?_some hf
    by_cases e : z = y
    · rw [e]
    · obtain ⟨i, hi, ei⟩ := List.getElem_of_mem hz
      obtain ⟨j, hj, ej⟩ := List.getElem_of_mem hy
      rw [List.pairwise_iff_getElem] at hnd
      rcases Nat.lt_trichotomy i j with h | h | h
      · exact absurd (by rw [ei, ej, hz1]) (hnd i j hi hj h)
      · subst h
        rw [ei] at ej
        exact absurd ej e
      · exact absurd (by rw [ei, ej, hz1]) (hnd j i hj hi h)
theorem tkR_none {L : List S34} {t : Int} (h : ∀ y ∈ L, y.f3 ≠ t) : tkR t L = none := by
  unfold tkR
  rw [List.find?_eq_none]
  intro y hy
  simpa using h y hy
theorem offR_len : ∀ {L : List S34}, L.Pairwise (fun a b => a.f3 ≠ b.f3) → ∀ {y : S34}, y ∈ L → (offR y.f3 L).length + 1 = L.length
  | [], _, _, hy => absurd hy (by simp)
  | x :: L, h, y, hy => by
    by_cases e : x.f3 = y.f3
    · rw [← e, offR_head h]
      rfl
    · rcases List.mem_cons.1 hy with rfl | hy'
      · exact absurd rfl e
      · have ih := offR_len (List.pairwise_cons.1 h).2 hy'
        have e1 : offR y.f3 (x :: L) = x :: offR y.f3 L := by
          unfold offR
          rw [List.filter_cons_of_pos (by simpa using e)]
        rw [e1, List.length_cons, List.length_cons]
        omega
/-- An agenda that a statement has made in w. -/
structure LV (w W : World) (P : Nat) (F : Nat → Prop) (c : Nat) (L : List S34) (g : Int) : Prop where
  v : AgV w.heap.size W P F c L g
  b : Below w.heap.size w W
  f : ∀ k, F k → w.heap.size ≤ k
theorem LV.to {w W W2 : World} {P : Nat} {F F2 : Nat → Prop} {c c2 : Nat} {L L2 : List S34} {g g2 : Int} (h : LV w W P F c L g) (hA : AgV w.heap.size W2 P F2 c2 L2 g2) (hT : To w.heap.size W W2 F F2) : LV w W2 P F2 c2 L2 g2 :=
  ⟨hA, h.b.trans hT.bel, fun k hk => (hT.sub k hk).elim (h.f k) (fun h2 => Nat.le_trans h.b.size h2)⟩
theorem LV.far {w W W2 : World} {P : Nat} {F : Nat → Prop} {c : Nat} {L : List S34} {g : Int} (h : LV w W P F c L g) (hb : Below W.heap.size W W2) : LV w W2 P F c L g :=
  ⟨h.v.far hb, h.b.trans (hb.mono h.b.size), h.f⟩

end Go.Proofs.Ytdlbnkiolpmnbaa.Ag
