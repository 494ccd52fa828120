/- The order of items as the sort meets it, and what is sorted by it; it says its own conditions. -/
import Derived.Test.YtdlbnkiolpmnbaaProg
import Derived.Test.YtdlbnkiolpmnbaaMAgax0
import Derived.Test.YtdlbnkiolpmnbaaMAgax2
import Derived.WalkKit
import Derived.Deep.RegionLaw
import Derived.Deep.RegionWith
import Derived.Deep.RegionHeld3
import Derived.BigRegion
import Derived.BigQuiet
import Derived.StillTailTactics
import Derived.Test.YtdlbnkiolpmnbaaAgSt
import Derived.Test.YtdlbnkiolpmnbaaAgLay
import Derived.Test.YtdlbnkiolpmnbaaAgCmp
import Derived.Test.YtdlbnkiolpmnbaaAgSet
import Derived.Test.YtdlbnkiolpmnbaaAgPlain
import Derived.Test.YtdlbnkiolpmnbaaAgInv
import Derived.Test.YtdlbnkiolpmnbaaAgOp
import Derived.Test.YtdlbnkiolpmnbaaAgPut
import Derived.Test.YtdlbnkiolpmnbaaAgMov
import Derived.Test.YtdlbnkiolpmnbaaAgCan
import Derived.Test.YtdlbnkiolpmnbaaAgTak
import Derived.Test.YtdlbnkiolpmnbaaAgTke
import Derived.Test.YtdlbnkiolpmnbaaAgLaw
import Derived.Test.YtdlbnkiolpmnbaaAgIter
import Derived.Test.YtdlbnkiolpmnbaaAgSeq
import Derived.Shelf.SlSortCmp.NoneTotal
import Derived.Shelf.SlicesG.Cmp
import Derived.Deep.DrawnRows
import Derived.Lib.OwnBridge
import Derived.Maps.OwnIn
import Derived.Maps.OwnSet
namespace Go.Proofs.Ytdlbnkiolpmnbaa.Ag
open Go.RowKit Go.Proofs.Ytdlbnkiolpmnbaa.MAga Go.Proofs.YtdlbnkiolpmnbaaW.PrintWords Go.Proofs.YtdlbnkiolpmnbaaW.PrintLast Go.Proofs.YtdlbnkiolpmnbaaW.PrintMore
attribute [local go_sem] max2_int min2_int max_two min_two max_three min_three max_four min_four
set_option linter.unusedVariables false
set_option linter.unusedSimpArgs false
-- import Derived.Shelf.SlSortCmp.NoneTotal
-- import Derived.Shelf.SlicesG.Cmp
-- import Derived.Deep.DrawnRows
-- import Derived.Lib.OwnBridge
-- import Derived.Maps.OwnIn
-- import Derived.Maps.OwnSet
open Go.Shelf Go.Lib
instance : Inhabited S34 := ⟨⟨0, 0, ⟨#[]⟩, 0⟩⟩
def sortI_ren : Go.Shelf.Ren := ⟨fun | 6 => 56 | 15 => 70 | 14 => 69 | 28 => 83 | 29 => 84 | 20 => 75 | 21 => 76 | 22 => 77 | 23 => 78 | 24 => 79 | 25 => 80 | 26 => 81 | 27 => 82 | 46 => 93 | 47 => 94 | 48 => 95 | 49 => 96 | 50 => 97 | 57 => 101 | n => n, fun | 22 => 31 | 24 => 34 | 25 => 89 | 3 => 3 | 39 => 120 | 0 => 0 | 53 => 50 | 55 => 134 | 4 => 4 | 46 => 127 | 45 => 126 | 50 => 84 | 5 => 5 | 9 => 9 | 66 => 140 | 70 => 144 | 76 => 148 | 77 => 149 | n => n, fun | n => n⟩
theorem sortI : Go.Proofs.SlLaysF0.n6 Try.prog sortI_ren := {
  mixed := by kernel_rfl
  f6 := ⟨Try.f56.name, by decide, Try.func56.trans (congrArg some (by kernel_rfl))⟩
  f14 := ⟨Try.f69.name, by decide, Try.func69.trans (congrArg some (by kernel_rfl))⟩
  f15 := Try.func70.trans (congrArg some (by kernel_rfl))
  f20 := ⟨Try.f75.name, by decide, Try.func75.trans (congrArg some (by kernel_rfl))⟩
  f21 := ⟨Try.f76.name, by decide, Try.func76.trans (congrArg some (by kernel_rfl))⟩
  f22 := ⟨Try.f77.name, by decide, Try.func77.trans (congrArg some (by kernel_rfl))⟩
  f23 := ⟨Try.f78.name, by decide, Try.func78.trans (congrArg some (by kernel_rfl))⟩
  f24 := ⟨Try.f79.name, by decide, Try.func79.trans (congrArg some (by kernel_rfl))⟩
  f25 := ⟨Try.f80.name, by decide, Try.func80.trans (congrArg some (by kernel_rfl))⟩
  f26 := ⟨Try.f81.name, by decide, Try.func81.trans (congrArg some (by kernel_rfl))⟩
  f27 := ⟨Try.f82.name, by decide, Try.func82.trans (congrArg some (by kernel_rfl))⟩
  f28 := Try.func83.trans (congrArg some (by kernel_rfl))
  f29 := Try.func84.trans (congrArg some (by kernel_rfl))
  f46 := ⟨Try.f93.name, by decide, Try.func93.trans (congrArg some (by kernel_rfl))⟩
  f47 := Try.func94.trans (congrArg some (by kernel_rfl))
  f48 := Try.func95.trans (congrArg some (by kernel_rfl))
  f49 := ⟨Try.f96.name, by decide, Try.func96.trans (congrArg some (by kernel_rfl))⟩
  f50 := ⟨Try.f97.name, by decide, Try.func97.trans (congrArg some (by kernel_rfl))⟩
  f57 := ⟨Try.f101.name, by decide, Try.func101.trans (congrArg some (by kernel_rfl))⟩
  t0 := Try.underlying0
  a0 := Try.isAgg0
  z0 := Try.sizeOf0
  v0 := Try.zeroValue0
  t3 := Try.underlying3
  a3 := Try.isAgg3
  z3 := Try.sizeOf3
  v3 := Try.zeroValue3
  t4 := Try.underlying4
  a4 := Try.isAgg4
  z4 := Try.sizeOf4
  v4 := Try.zeroValue4
  t5 := Try.underlying5
  a5 := Try.isAgg5
  z5 := Try.sizeOf5
  v5 := Try.zeroValue5
  t9 := Try.underlying9
  a9 := Try.isAgg9
  z9 := Try.sizeOf9
  v9 := Try.zeroValue9
  t22 := Try.underlying31
  a22 := Try.isAgg31
  z22 := Try.sizeOf31
  v22 := Try.zeroValue31
  t25 := Try.underlying89
  a25 := Try.isAgg89
  z25 := Try.sizeOf89
  v25 := Try.zeroValue89
  t39 := Try.underlying120
  a39 := Try.isAgg120
  z39 := Try.sizeOf120
  v39 := Try.zeroValue120
  t45 := Try.underlying126
  a45 := Try.isAgg126
  z45 := Try.sizeOf126
  v45 := Try.zeroValue126
  t46 := Try.underlying127
  a46 := Try.isAgg127
  z46 := Try.sizeOf127
  v46 := Try.zeroValue127
  t50 := Try.underlying84
  a50 := Try.isAgg84
  z50 := Try.sizeOf84
  v50 := Try.zeroValue84
  t53 := Try.underlying50
  a53 := Try.isAgg50
  z53 := Try.sizeOf50
  v53 := Try.zeroValue50
  t55 := Try.underlying134
  a55 := Try.isAgg134
  z55 := Try.sizeOf134
  v55 := Try.zeroValue134
  t66 := Try.underlying140
  a66 := Try.isAgg140
  z66 := Try.sizeOf140
  v66 := Try.zeroValue140
  t70 := Try.underlying144
  a70 := Try.isAgg144
  z70 := Try.sizeOf144
  v70 := Try.zeroValue144
  t76 := Try.underlying148
  a76 := Try.isAgg148
  z76 := Try.sizeOf148
  v76 := Try.zeroValue148
  t77 := Try.underlying149
  a77 := Try.isAgg149
  z77 := Try.sizeOf149
  v77 := Try.zeroValue149 }
def cmpL_ren : Go.Shelf.Ren := ⟨fun | 5 => 59 | 7 => 71 | n => n, fun | 22 => 2 | 3 => 3 | 4 => 4 | n => n, fun | n => n⟩
theorem cmpL : Go.Proofs.SlLaysC2.n5 Try.prog cmpL_ren := {
  mixed := by kernel_rfl
  f5 := ⟨Try.f59.name, by decide, Try.func59.trans (congrArg some (by kernel_rfl))⟩
  f7 := ⟨Try.f71.name, by decide, Try.func71.trans (congrArg some (by kernel_rfl))⟩
  t3 := Try.underlying3
  a3 := Try.isAgg3
  z3 := Try.sizeOf3
  v3 := Try.zeroValue3
  t4 := Try.underlying4
  a4 := Try.isAgg4
  z4 := Try.sizeOf4
  v4 := Try.zeroValue4
  t22 := Try.underlying2
  a22 := Try.isAgg2
  z22 := Try.sizeOf2
  v22 := Try.zeroValue2 }
def cmpN_ren : Go.Shelf.Ren := ⟨fun | 5 => 60 | 7 => 72 | n => n, fun | 22 => 3 | 3 => 3 | 4 => 4 | n => n, fun | n => n⟩
theorem cmpN : Go.Proofs.SlLaysC2.n5 Try.prog cmpN_ren := {
  mixed := by kernel_rfl
  f5 := ⟨Try.f60.name, by decide, Try.func60.trans (congrArg some (by kernel_rfl))⟩
  f7 := ⟨Try.f72.name, by decide, Try.func72.trans (congrArg some (by kernel_rfl))⟩
  t3 := Try.underlying3
  a3 := Try.isAgg3
  z3 := Try.sizeOf3
  v3 := Try.zeroValue3
  t4 := Try.underlying4
  a4 := Try.isAgg4
  z4 := Try.sizeOf4
  v4 := Try.zeroValue4
  t22 := Try.underlying3
  a22 := Try.isAgg3
  z22 := Try.sizeOf3
  v22 := Try.zeroValue3 }


theorem cmpI_eq (x y : S34) : cmpI x y = if Lib.compareInt x.f0 y.f0 ≠ 0 then Lib.compareInt x.f0 y.f0 else Lib.compareInt x.f3 y.f3 := by
  unfold cmpI Lib.compareInt
  by_cases h1 : x.f0 < y.f0
  · simp [h1]
  · by_cases h2 : y.f0 < x.f0
    · simp [h1, h2]
    · simp [h1, h2]
theorem two_C (W : World) (g : Nat) (a b : Int) (h : W.heap[g]? = some (.cells #[.int .i64 a, .int .i64 b] 3 (0, 0))) : Kd.C (Kd.int .i64) W (some ⟨g, 0, none⟩) 2 [a, b] := by
  refine Kd.C_of_reads (d := (0 : Int)) ⟨rfl, by decide, fun _ => ⟨_, rfl, fun j hj => ?_⟩⟩
  have hj' : j < 2 := hj
  match j, hj' with
  | 0, _ => exact (blk_cell h 0).trans rfl
  | 1, _ => exact (blk_cell h 1).trans rfl
theorem or_calls (a b : Int) (g : Nat) (W : World) (h : W.heap[g]? = some (.cells #[.int .i64 a, .int .i64 b] 3 (0, 0))) :
    Calls Try.prog 58 #[.slice (some ⟨g, 0, none⟩) 2 2] W fun e w' => e = .returned (.int .i64 (if a ≠ 0 then a else b)) ∧ Drawn0 W w' :=
  cmp_Or_int.calls 5 (some ⟨g, 0, none⟩) 2 [a, b] _ W (two_C W g a b h) (Nat.le_refl _) (or2 a b)
attribute [local go_sem ↓] Go.wp_at_zero Go.wp_at_succ
set_option maxHeartbeats 4000000 in
theorem cmpG_calls (x y : S34) (W : World) : Calls Try.prog 39 #[.agg (itv x).toArray, .agg (itv y).toArray] W fun e w' => e = .returned (.int .i64 (cmpI x y)) ∧ ∃ q os', w' = Go.Sort.grow (W.drewN q) os' := by
  have hL := fun a b W' => AnyG.cmp_Compare_int cmpL a b W'
  have hN := fun a b W' => AnyG.cmp_Compare_int cmpN a b W'
  change ∀ a b W', Calls Try.prog 59 _ _ _ at hL
  change ∀ a b W', Calls Try.prog 60 _ _ _ at hN
  obtain ⟨x0, x1, x2, x3⟩ := x
  obtain ⟨y0, y1, y2, y3⟩ := y
  obtain ⟨c0, hc0⟩ : ∃ c, Lib.compareInt x0 y0 = c := ⟨_, rfl⟩
  obtain ⟨c1, hc1⟩ : ∃ c, Lib.compareInt x3 y3 = c := ⟨_, rfl⟩
  have hL' := hL x0 y0
  have hN' := hN x3 y3
  rw [hc0] at hL'
  rw [hc1] at hN'
  have hE : cmpI ⟨x0, x1, x2, x3⟩ ⟨y0, y1, y2, y3⟩ = if c0 ≠ 0 then c0 else c1 := by rw [cmpI_eq]; simp only [hc0, hc1]
  rw [hE]
  obtain ⟨r, hr⟩ : ∃ r, (if c0 ≠ 0 then c0 else c1) = r := ⟨_, rfl⟩
  have ho := fun g W h => or_calls c0 c1 g W h
  rw [hr] at ho
  have HO := Aside0.mk ho
  clear ho
  rw [hr]
  have HL := Aside0.mk hL'
  have HN := Aside0.mk hN'
  clear hL' hN' hE hr hc0 hc1 hL hN
  have n0 := World.new_ne W
  go_enter Try.func39, Try.ntmps39
  simp only [itv]
  go_wp2
  obtain ⟨W0, hW0⟩ : ∃ W0, (W.alloc (.cells #[.int .i64 x0, .int .i64 x1, .string x2, .int .i64 x3] 34)).alloc (.cells #[.int .i64 y0, .int .i64 y1, .string y2, .int .i64 y3] 34) = W0 := ⟨_, rfl⟩
  rw [hW0]
  have hx : W0.heap[W.heap.size]? = some (.cells #[.int .i64 x0, .int .i64 x1, .string x2, .int .i64 x3] 34 (0, 0)) := hW0 ▸ blk_alloc (blk_new W _) _
  have hy : W0.heap[W.heap.size + 1]? = some (.cells #[.int .i64 y0, .int .i64 y1, .string y2, .int .i64 y3] 34 (0, 0)) := by
    have := blk_new (W.alloc (.cells #[.int .i64 x0, .int .i64 x1, .string x2, .int .i64 x3] 34)) (.cells #[.int .i64 y0, .int .i64 y1, .string y2, .int .i64 y3] 34)
    rw [hW0, World.size_alloc] at this
    exact this
  have p0 := (blk_cell hx 0).trans (show _ = some (Value.int .i64 x0) from rfl)
  have p1 := (blk_cell hx 3).trans (show _ = some (Value.int .i64 x3) from rfl)
  have p2 := (blk_cell hy 0).trans (show _ = some (Value.int .i64 y0) from rfl)
  have p3 := (blk_cell hy 3).trans (show _ = some (Value.int .i64 y3) from rfl)
  have HG : ∃ q os', W0 = Go.Sort.grow (W.drewN q) os' := ⟨0, _, by rw [← hW0, Go.Sort.alloc_eq_grow, Go.Sort.alloc_eq_grow, Go.Sort.grow_grow]; rfl⟩
  have HG := Aside0.mk HG
  clear hW0 hx hy n0
  go_region_held3 (fun w' => w'.cell? ⟨W.heap.size, 0, none⟩ = some (.int .i64 x0) ∧ w'.cell? ⟨W.heap.size, 3, none⟩ = some (.int .i64 x3) ∧ w'.cell? ⟨W.heap.size + 1, 0, none⟩ = some (.int .i64 y0) ∧ w'.cell? ⟨W.heap.size + 1, 3, none⟩ = some (.int .i64 y3)) (go_keep)
    (first
      | (go_at_call 59; refine (HL.out _).mono ?_; rintro e w' ⟨rfl, rfl⟩)
      | (go_at_call 60; refine (HN.out _).mono ?_; rintro e w' ⟨rfl, rfl⟩)
      | (go_at_call 58; refine (HO.out _ _ (by exact blk_new _ _)).mono ?_; rintro e w' ⟨rfl, ⟨nq, rfl⟩⟩))
  all_goals go_wp2
  go_ret
  obtain ⟨q, os', h⟩ := HG.out
  exact ⟨rfl, q + (1 + nq), os' ++ #[.cells #[.int .i64 c0, .int .i64 c1] 3], by rw [h, Go.Sort.alloc_eq_grow, Go.Sort.grow_grow]; simp only [World.drewN, Go.Sort.grow]; rw [Nat.add_assoc]⟩
open Go.Sort
theorem swoI : SWO (ltOf cmpI) where
  irrefl x := by unfold ltOf; simp only [cmp_lt, decide_eq_false_iff_not]; omega
  trans x y z h1 h2 := by unfold ltOf at *; simp only [cmp_lt, decide_eq_true_eq] at *; omega
  ntrans x y z h1 h2 := by unfold ltOf at *; simp only [cmp_lt, decide_eq_false_iff_not] at *; omega
/-- What the sort leaves is the one order of these items. -/
theorem sorted_is {d d' : Array S34} {L : List S34} (hp : PermIn 0 d.size d d') (hs : SortedIn (ltOf cmpI) 0 d.size d') (hL : Srt L) (hd : L.Perm d.toList) (hne : d.toList.Pairwise (fun a b => a.f3 ≠ b.f3)) : d'.toList = L ∧ d'.size = d.size := by
  obtain ⟨hsz, _, hpe⟩ := hp
  have e1 : (d'.extract 0 d.size).toList = d'.toList := by rw [← hsz]; simp
  have e2 : (d.extract 0 d.size).toList = d.toList := by simp
  rw [e1, e2] at hpe
  refine ⟨srt_uniq ?_ hL (hpe.trans hd.symm), hsz⟩
  have hne' : d'.toList.Pairwise (fun a b => a.f3 ≠ b.f3) := (hpe.pairwise_iff (fun {_ _} h => h.symm)).2 hne
  unfold Srt
  rw [List.pairwise_iff_getElem] at hne' ⊢
  intro i j hi hj hij
  have h1 := hs i j (Nat.zero_le _) hij (by rw [← hsz]; simpa using hj)
  have h2 := hne' i j hi hj hij
  have hi' : i < d'.size := by simpa using hi
  have hj' : j < d'.size := by simpa using hj
  rw [getElem!_pos d' j hj', getElem!_pos d' i hi'] at h1
  unfold ltOf at h1
  rw [Array.getElem_toList, Array.getElem_toList] at h2
  rw [Array.getElem_toList, Array.getElem_toList]
  exact cmp_total (fun e => h2 e.symm) (of_decide_eq_false h1)
theorem holdsI {w : World} {base g n cap : Nat} {l : List S34} (h : w.ownsRow base 34 4 (.slice (some ⟨g, 0, none⟩) n cap) n (flat l)) : HoldsK itv 4 w g 0 l.toArray ∧ g < w.heap.size ∧ base ≤ g ∧ l.length = n := by
  have hl : l.length = n := by have := h.1; rw [flat_len] at this; omega
  rcases h.2 with ⟨e0, _⟩ | ⟨g', cap', cur, e, hb, hg, hn, hm, hs, ht⟩
  · cases e0
  · cases e
    refine ⟨fun j hj => ?_, (Array.getElem?_eq_some_iff.1 hg).1, hb, hl⟩
    have hj' : j < n * 4 := by simpa [hl] using hj
    refine ⟨?_, by simp [World.frozen?, hg]⟩
    have e1 : (cur.toList.take (n * 4))[j]? = (flat l)[j]? := by rw [ht]
    rw [List.getElem?_take, if_pos (by omega), Array.getElem?_toList] at e1
    simp only [World.cell?, hg, Nat.zero_add]
    simp only [Option.isSome_none, Bool.false_eq_true, if_false]
    rw [e1, get_flatK _ _ _ _ (by simpa using hj)]
    obtain ⟨q, hq⟩ : ∃ q, j / 4 = q := ⟨_, rfl⟩
    obtain ⟨m, hm2⟩ : ∃ m, j % 4 = m := ⟨_, rfl⟩
    have hql : q < l.length := by omega
    have hjm : j = q * 4 + m := by omega
    have hx : l.toArray[q]! = l[q] := by rw [getElem!_pos _ _ (by simpa using hql)]; simp
    rw [hq, hm2, hx, hjm]
    have hm4 : m < 4 := by omega
    rw [flat_at l q hql m hm4]
    clear hm2 hjm
    match m, hm4 with
    | 0, _ => rfl
    | 1, _ => rfl
    | 2, _ => rfl
    | 3, _ => rfl
theorem sortI_calls (g c : Nat) (l L : List S34) (W : World) (hH : HoldsK itv 4 W g 0 l.toArray) (hg : g < W.heap.size) (hl : l.length ≤ 1000000) (hL : Srt L) (hd : L.Perm l) (hne : l.Pairwise (fun a b => a.f3 ≠ b.f3)) (b : Nat) (hb : b ≤ g) :
    Calls Try.prog 56 #[.slice (some ⟨g, 0, none⟩) l.length c, .func (.func 39) #[] #[]] W fun e w' => e = .returned (.tuple #[]) ∧ RowI b w' (some ⟨g, 0, none⟩) L ∧ ∀ m, m ≤ W.heap.size → m ≤ g → Go.RowKit.Below m W w' := by
  have hS := AnyQ.slices_SortFunc sortI 4 Try.isAgg34 Try.sizeOf34 itv (fun _ => rfl) (fun x v hv => by simp [itv] at hv; rcases hv with rfl | rfl | rfl | rfl <;> rfl) cmpI swoI 39 #[] g 0 c l.toArray W
    (enters_of Try.func39 (by kernel_rfl) rfl) (fun m os dk _ x y => cmpG_calls x y _) hH hg (by simp; omega)
  have hS' : Calls Try.prog 56 #[.slice (some ⟨g, 0, none⟩) l.length c, .func (.func 39) #[] #[]] W _ := hS
  refine hS'.mono ?_
  rintro e w' ⟨he, F, n, os, hp, hso, rfl⟩
  obtain ⟨hF, hs⟩ := sorted_is hp hso hL (by simpa using hd) (by simpa using hne)
  have hh : HoldsK itv 4 (sortWorldK itv 4 W g 0 n F os) g 0 F := SWK.holds ⟨n, os, rfl⟩ hg hH hs
  refine ⟨he, fun j x hx => ?_, fun m hm hm2 => ?_⟩
  · have hj : j < F.size := by
      have := (List.getElem?_eq_some_iff.1 hx).1
      rw [← hF] at this
      simpa using this
    have hxF : F[j]! = x := by
      rw [getElem!_pos F j hj]
      rw [← hF, Array.getElem?_toList, Array.getElem?_eq_getElem hj] at hx
      exact Option.some.inj hx
    have a0 := hh.cell (i := j) (c := 0) hj (by decide)
    have a1 := hh.cell (i := j) (c := 1) hj (by decide)
    have a2 := hh.cell (i := j) (c := 2) hj (by decide)
    have a3 := hh.cell (i := j) (c := 3) hj (by decide)
    rw [hxF] at a0 a1 a2 a3
    simp only [Nat.zero_add, Nat.add_zero] at a0 a1 a2 a3
    refine ⟨g, rfl, hb, ?_, a0.1, a1.1, a2.1, a3.1⟩
    simp [sortWorldK, putRowK, putRow, mapBlock, Go.Sort.ahead]
    omega
  · have h1 : Go.RowKit.Below m W (putRowK itv 4 (Go.Sort.ahead W n) g 0 F) := Go.Lib.below_putRow (Go.RowKit.Below.refl m W) hm2
    refine ⟨h1.os, h1.tape, h1.output, Nat.le_trans h1.size (by simp [sortWorldK]), fun k hk => ?_⟩
    rw [← h1.block k hk]
    unfold sortWorldK
    exact heap_grow_old _ _ (by have := h1.size; omega)

end Go.Proofs.Ytdlbnkiolpmnbaa.Ag
