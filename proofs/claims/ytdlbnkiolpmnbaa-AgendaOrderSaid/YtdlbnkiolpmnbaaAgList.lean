/- agenda: List: the items in order, in a row of their own. It says its own conditions. -/
import Derived.Test.YtdlbnkiolpmnbaaProg
import Derived.Test.YtdlbnkiolpmnbaaMAgax0
import Derived.Test.YtdlbnkiolpmnbaaMAgax2
import Derived.WalkKit
import Derived.Deep.RegionLaw
import Derived.Deep.RegionWith
import Derived.Deep.RegionHeld3
import Derived.BigRegion
import Derived.BigQuiet
import Derived.StillTailTactics
import Derived.Test.YtdlbnkiolpmnbaaAgSt
import Derived.Test.YtdlbnkiolpmnbaaAgLay
import Derived.Test.YtdlbnkiolpmnbaaAgCmp
import Derived.Test.YtdlbnkiolpmnbaaAgSet
import Derived.Test.YtdlbnkiolpmnbaaAgPlain
import Derived.Test.YtdlbnkiolpmnbaaAgInv
import Derived.Test.YtdlbnkiolpmnbaaAgOp
import Derived.Test.YtdlbnkiolpmnbaaAgPut
import Derived.Test.YtdlbnkiolpmnbaaAgMov
import Derived.Test.YtdlbnkiolpmnbaaAgCan
import Derived.Test.YtdlbnkiolpmnbaaAgTak
import Derived.Test.YtdlbnkiolpmnbaaAgTke
import Derived.Test.YtdlbnkiolpmnbaaAgLaw
import Derived.Test.YtdlbnkiolpmnbaaAgIter
import Derived.Test.YtdlbnkiolpmnbaaAgSeq
import Derived.Test.YtdlbnkiolpmnbaaAgSort
import Derived.Maps.OwnIn
import Derived.Maps.OwnSet
namespace Go.Proofs.Ytdlbnkiolpmnbaa.Ag
open Go.RowKit Go.Proofs.Ytdlbnkiolpmnbaa.MAga Go.Proofs.YtdlbnkiolpmnbaaW.PrintWords Go.Proofs.YtdlbnkiolpmnbaaW.PrintLast Go.Proofs.YtdlbnkiolpmnbaaW.PrintMore
attribute [local go_sem] max2_int min2_int max_two min_two max_three min_three max_four min_four
set_option linter.unusedVariables false
set_option linter.unusedSimpArgs false
-- import Derived.Maps.OwnIn
-- import Derived.Maps.OwnSet
open Go.Proofs
theorem collect_calls (B b c : Nat) (ad : Option Addr) (l : List S34) (w : World) (hB : w.heap[B]? = some (.cells #[.slice ad l.length c] 31 (0, 0))) (hr : RowI b w ad l) (hl : l.length ≤ 1000000) :
    Calls Try.prog 55 #[.func (.func 57) #[] #[.pointer (some ⟨B, 0, none⟩)]] w (seqEnd l w) := by
  have hs := callsIn_wide.1 (seq_in 57 #[.pointer (some ⟨B, 0, none⟩)] l w hl (enters_of Try.func57 (by kernel_rfl) rfl) (fun W => vals1 B b c ad l w W hB hr hl))
  have HS := Aside0.mk hs
  clear hs
  go_enter Try.func55, Try.ntmps55
  go_wp2_with (go_at_call 68; refine HS.out.mono ?_; rintro e w1 ⟨v, rfl, hrow, hb⟩)
  go_ret
  exact ⟨v, rfl, hrow, hb⟩
def listEnd (L : List S34) (w : World) (e : Ending) (w' : World) : Prop := ∃ ad c, e = .returned (.slice ad L.length c) ∧ L.length ≤ c ∧ RowI w.heap.size w' ad L ∧ Go.RowKit.Below w.heap.size w w'
theorem sorted_calls (B b c : Nat) (ad : Option Addr) (l L : List S34) (w : World) (hB : w.heap[B]? = some (.cells #[.slice ad l.length c] 31 (0, 0))) (hr : RowI b w ad l) (hl : l.length ≤ 1000000) (hL : Srt L) (hd : L.Perm l) (hne : l.Pairwise (fun a b => a.f3 ≠ b.f3)) :
    Calls Try.prog 37 #[.func (.func 57) #[] #[.pointer (some ⟨B, 0, none⟩)], .func (.func 39) #[] #[]] w (listEnd L w) := by
  have HC := Aside0.mk (collect_calls B b c ad l w hB hr hl)
  have hlen : L.length = l.length := hd.length_eq
  clear hB hr
  by_cases h0 : l.length = 0
  · have hl0 : l = [] := List.eq_nil_of_length_eq_zero h0
    have hL0 : L = [] := List.eq_nil_of_length_eq_zero (by omega)
    subst hl0 hL0
    have hN := fun p cap W => AnyF.slices_SortFunc_none sortI p cap (.func (.func 39) #[] #[]) W
    change ∀ p cap W, Calls Try.prog 56 _ _ _ at hN
    have HN := Aside0.mk hN
    clear hN
    go_enter Try.func37, Try.ntmps37
    go_upto_region 2 with (go_at_call 55; refine HC.out.mono ?_; rintro e w1 ⟨v, rfl, hrow, hb⟩)
    obtain ⟨p, cap, rfl⟩ : ∃ p cap, v = .slice p 0 cap := by
      rcases hrow.2 with ⟨e, _⟩ | ⟨g, cap, cur, e, _⟩
      · exact ⟨none, 0, e⟩
      · exact ⟨_, cap, e⟩
    clear hrow
    go_wp2_with (go_at_call 56; refine (HN.out _ _ _).mono ?_; rintro e w' ⟨rfl, rfl⟩)
    go_ret
    exact ⟨p, cap, rfl, Nat.zero_le _, fun j x hx => by simp at hx, hb⟩
  · go_enter Try.func37, Try.ntmps37
    go_upto_region 2 with (go_at_call 55; refine HC.out.mono ?_; rintro e w1 ⟨v, rfl, hrow, hb⟩)
    obtain ⟨g, cap, rfl, hg, hglt⟩ := World.ownsRow.form hrow (by omega)
    obtain ⟨hH, hgl, hbg, _⟩ := holdsI hrow
    have hS := sortI_calls g cap l L w1 hH hgl hl hL hd hne w.heap.size hbg
    have HCAP := Aside0.mk (own_cap hrow)
    have HS := Aside0.mk hS
    have HB := Aside0.mk hb
    have HG := Aside0.mk hbg
    have HLEN := Aside0.mk hlen
    clear hS hH hrow hlen
    go_wp2_with (go_at_call 56; refine HS.out.mono ?_; rintro e w' ⟨rfl, hrow, hb2⟩; have HROW := Aside0.mk hrow; have HB2 := Aside0.mk hb2; clear hrow hb2)
    go_ret
    exact ⟨_, cap, (show Ending.returned (.slice (some ⟨g, 0, none⟩) l.length cap) = _ by rw [HLEN.out]), (by rw [HLEN.out]; exact HCAP.out), HROW.out, HB.out.trans (HB2.out _ HB.out.size HG.out)⟩
theorem list_calls (B P : Nat) (F : Nat → Prop) (c : Nat) (L : List S34) (g : Int) (w : World) (h : AgV B w P F c L g) : Calls Try.prog 18 #[.pointer (some ⟨P, 0, none⟩)] w (listEnd L w) := by
  obtain ⟨mb, hv, l, n, D, hs, hi, hn, hgc, rfl⟩ := h
  obtain ⟨ad, cc, rfl⟩ := hs.two
  have p0 := blk_cell hs.blk 0
  have HV := Aside0.mk (fun W => vals_calls (.slice ad l.length cc) ad l.length cc rfl W)
  have hrow : RowI 0 w ad l := RowI.of_row hs.row rfl (Nat.zero_le _)
  have hne : l.Pairwise (fun a b => a.f3 ≠ b.f3) := by
    rw [List.pairwise_iff_getElem]
    intro i j hi2 hj hij
    rw [← gt_at l i hi2, ← gt_at l j hj]
    exact hi.pl.ne hi2 hj (by omega)
  have hS := sorted_calls w.heap.size 0 cc ad l L (w.alloc (.cells #[.slice ad l.length cc] 31)) (blk_new w _) (hrow.far (below_alloc (Below.refl _ _) _)) (by have := hi.len; omega) hi.srt hi.perm hne
  have HS := Aside0.mk hS
  clear hs hi hrow hne hS
  go_enter Try.func18, Try.ntmps18
  go_wp2_with (first
    | (go_at_call 38; refine (HV.out _).mono ?_; rintro e w1 ⟨rfl, rfl⟩)
    | (go_at_call 37; refine HS.out.mono ?_; rintro e w2 ⟨ad2, c2, rfl, hc2, hrow2, hb2⟩))
  go_ret
  have hb1 := below_alloc (Below.refl w.heap.size w) (.cells #[.slice ad l.length cc] 31)
  refine ⟨ad2, c2, rfl, hc2, fun j x hx => ?_, hb1.trans (hb2.mono hb1.size)⟩
  obtain ⟨g2, e, h1, h2⟩ := hrow2 j x hx
  exact ⟨g2, e, Nat.le_trans hb1.size h1, h2⟩

end Go.Proofs.Ytdlbnkiolpmnbaa.Ag
