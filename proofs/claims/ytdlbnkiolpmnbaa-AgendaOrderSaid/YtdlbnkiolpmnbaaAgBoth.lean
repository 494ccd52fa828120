/- agenda: an act done at both, whatever it is; heavy; the reference's agenda at its start, its row read as a list. Each says its own conditions. -/
import Derived.Test.YtdlbnkiolpmnbaaProg
import Derived.Test.YtdlbnkiolpmnbaaMAgax0
import Derived.Test.YtdlbnkiolpmnbaaMAgax2
import Derived.Test.YtdlbnkiolpmnbaaMAgax3
import Derived.WalkKit
import Derived.Deep.RegionLaw
import Derived.Deep.RegionWith
import Derived.Deep.RegionHeld3
import Derived.BigRegion
import Derived.BigQuiet
import Derived.StillTailTactics
import Derived.Test.YtdlbnkiolpmnbaaAgSt
import Derived.Test.YtdlbnkiolpmnbaaAgLay
import Derived.Test.YtdlbnkiolpmnbaaAgCmp
import Derived.Test.YtdlbnkiolpmnbaaAgSet
import Derived.Test.YtdlbnkiolpmnbaaAgPlain
import Derived.Test.YtdlbnkiolpmnbaaAgInv
import Derived.Test.YtdlbnkiolpmnbaaAgOp
import Derived.Test.YtdlbnkiolpmnbaaAgPut
import Derived.Test.YtdlbnkiolpmnbaaAgMov
import Derived.Test.YtdlbnkiolpmnbaaAgCan
import Derived.Test.YtdlbnkiolpmnbaaAgTak
import Derived.Test.YtdlbnkiolpmnbaaAgTke
import Derived.Test.YtdlbnkiolpmnbaaAgLaw
import Derived.Test.YtdlbnkiolpmnbaaAgIter
import Derived.Test.YtdlbnkiolpmnbaaAgSeq
import Derived.Test.YtdlbnkiolpmnbaaAgSort
import Derived.Test.YtdlbnkiolpmnbaaAgList
import Derived.Test.YtdlbnkiolpmnbaaAgShow
import Derived.Test.YtdlbnkiolpmnbaaAgLv
import Derived.Test.YtdlbnkiolpmnbaaAgSame
import Derived.Test.YtdlbnkiolpmnbaaAgRef
import Derived.Test.YtdlbnkiolpmnbaaAgLayR
import Derived.Test.YtdlbnkiolpmnbaaAgPickR
import Derived.Test.YtdlbnkiolpmnbaaAgRefA
import Derived.Test.YtdlbnkiolpmnbaaAgRefB
import Derived.Test.YtdlbnkiolpmnbaaAgRefC
import Derived.Maps.OwnIn
import Derived.Maps.OwnSet
namespace Go.Proofs.Ytdlbnkiolpmnbaa.Ag
open Go.RowKit Go.Proofs.Ytdlbnkiolpmnbaa.MAga Go.Proofs.YtdlbnkiolpmnbaaW.PrintWords Go.Proofs.YtdlbnkiolpmnbaaW.PrintLast Go.Proofs.YtdlbnkiolpmnbaaW.PrintMore
attribute [local go_sem] max2_int min2_int max_two min_two max_three min_three max_four min_four
set_option linter.unusedVariables false
set_option linter.unusedSimpArgs false
-- import Derived.Maps.OwnIn
-- import Derived.Maps.OwnSet
/-- The feet of both lie apart: their blocks are of other types. -/
theorem feet_apart {B B2 : Nat} {W : World} {P P2 : Nat} {F F2 : Nat → Prop} {c : Nat} {L L2 : List S34} {g g2 : Int} (h : AgV B W P F c L g) (h2 : RfV B2 W P2 F2 L2 g2) : ∀ k, F k → ¬ F2 k := by
  obtain ⟨mb, hv, l, n, D, hs, hi, hn, hgc, rfl⟩ := h
  obtain ⟨hv2, hs2, rfl⟩ := h2
  intro k hk hk2
  have a : W.heap[k]? = some (.cells #[hv, .map (some mb), .int .i64 g] 82 (0, 0)) ∨ (∃ es c, W.heap[k]? = some (.map es c)) ∨ ∃ cs, W.heap[k]? = some (.cells cs 34 (0, 0)) := by
    rcases hk with rfl | rfl | e
    · exact .inl hs.blk
    · exact .inr (.inl hs.map.isMap)
    · exact .inr (.inr (own_typed hs.row k e))
  have b : W.heap[k]? = some (.cells #[hv2, .int .i64 g2] 64 (0, 0)) ∨ ∃ cs, W.heap[k]? = some (.cells cs 69 (0, 0)) := by
    rcases hk2 with rfl | e
    · exact .inl hs2.blk
    · exact .inr (own_typed hs2.row k e)
  rcases a with a | ⟨es, c1, a⟩ | ⟨cs, a⟩ <;> rcases b with b | ⟨cs2, b⟩ <;> rw [a] at b <;> cases b
/-- Both, in one world, with one list. -/
structure Both (w W : World) (P P2 : Nat) (F F2 : Nat → Prop) (c : Nat) (L : List S34) (g : Int) : Prop where
  a : LV w W P F c L g
  r : RfV w.heap.size W P2 F2 L g
  f : ∀ k, F2 k → w.heap.size ≤ k
theorem Both.far {w W W2 : World} {P P2 : Nat} {F F2 : Nat → Prop} {c : Nat} {L : List S34} {g : Int} (h : Both w W P P2 F F2 c L g) (hb : Below W.heap.size W W2) : Both w W2 P P2 F F2 c L g := ⟨h.a.far hb, h.r.far hb, h.f⟩
/-- The agenda's call: the reference stays. -/
theorem Both.stepA {w W W2 : World} {P P2 : Nat} {F F' F2 : Nat → Prop} {c c' : Nat} {L L' : List S34} {g g' : Int} (h : Both w W P P2 F F2 c L g) (hA : AgV w.heap.size W2 P F' c' L' g') (hT : To w.heap.size W W2 F F') : LV w W2 P F' c' L' g' ∧ RfV w.heap.size W2 P2 F2 L g :=
  ⟨h.a.to hA hT, h.r.kept hT.kept (fun k hk hk2 => feet_apart h.a.v h.r k hk2 hk)⟩
/-- The reference's call: the agenda stays. -/
theorem Both.stepR {w W W2 : World} {P P2 : Nat} {F F2 F2' : Nat → Prop} {c : Nat} {L L0 : List S34} {g g0 : Int} (h : LV w W P F c L g) (h2 : RfV w.heap.size W P2 F2 L0 g0) (hf : ∀ k, F2 k → w.heap.size ≤ k) (hR : RfV w.heap.size W2 P2 F2' L g) (hT : To w.heap.size W W2 F2 F2') : Both w W2 P P2 F F2' c L g :=
  ⟨⟨h.v.kept hT.kept (fun k hk hk2 => feet_apart h.v h2 k hk hk2), h.b.trans hT.bel, h.f⟩, hR, fun k hk => (hT.sub k hk).elim (hf k) (fun h3 => Nat.le_trans h.b.size h3)⟩
/-- What an act makes of the items and the tickets. -/
def doesR (x : S67) (L : List S34) (g : Int) : List S34 × Int :=
  if x.f0 = 0 then ((putR x.f3 x.f1 x.f4 L g).2.2.1, (putR x.f3 x.f1 x.f4 L g).2.2.2)
  else if x.f0 = 1 then ((cancelR x.f2 L).2, g)
  else if x.f0 = 2 then ((moveR x.f2 x.f3 L).2, g)
  else if x.f0 = 3 then ((takeR x.f3 L).2.2, g)
  else if x.f0 = 4 then ((doubleR x.f2 x.f3 L g).2.2.1, (doubleR x.f2 x.f3 L g).2.2.2)
  else (L, g)
def doesEnd (w : World) (P P2 : Nat) (c : Nat) (r : List S34 × Int) (e : Ending) (w' : World) : Prop :=
  e = .returned (.bool true) ∧ ∃ F' F2', Both w w' P P2 F' F2' (c + 1) r.1 r.2
theorem AgV.len {B : Nat} {W : World} {P : Nat} {F : Nat → Prop} {c : Nat} {L : List S34} {g : Int} (h : AgV B W P F c L g) : L.length ≤ 1000 := by
  obtain ⟨mb, hv, l, n, D, h1, h2, h3, h4, rfl⟩ := h
  rw [h2.perm.length_eq]
  exact h2.len
theorem AgV.gs {B : Nat} {W : World} {P : Nat} {F : Nat → Prop} {c : Nat} {L : List S34} {g : Int} (h : AgV B W P F c L g) : 0 ≤ g ∧ g ≤ c := by
  obtain ⟨mb, hv, l, n, D, h1, h2, h3, h4, rfl⟩ := h
  exact ⟨h2.g0, h4⟩
set_option maxHeartbeats 8000000 in
set_option maxRecDepth 100000 in
theorem does_put (w W : World) (P P2 : Nat) (F F2 : Nat → Prop) (c : Nat) (L : List S34) (g : Int) (x : S67) (h : Both w W P P2 F F2 c L g) (hc : c < 1000) (h0 : x.f0 = 0) :
    Calls Try.prog 31 #[.pointer (some ⟨P, 0, none⟩), .pointer (some ⟨P2, 0, none⟩), .agg #[.int .i64 x.f0, .int .i64 x.f1, .int .i64 x.f2, .int .i64 x.f3, .string x.f4]] W (doesEnd w P P2 c (doesR x L g)) := by
  have e0 : doesR x L g = ((putR x.f3 x.f1 x.f4 L g).2.2.1, (putR x.f3 x.f1 x.f4 L g).2.2.2) := by unfold doesR; rw [if_pos h0]
  rw [e0]
  obtain ⟨x0, x1, x2, x3, x4⟩ := x
  simp only at h0
  subst h0
  have hb := below_alloc (Below.refl W.heap.size W) (Obj.cells #[Value.int IntKind.i64 0, Value.int IntKind.i64 x1, Value.int IntKind.i64 x2, Value.int IntKind.i64 x3, Value.string x4] 67)
  have HB := Aside0.mk (h.far hb)
  have hbx := blk_new W (Obj.cells #[Value.int IntKind.i64 0, Value.int IntKind.i64 x1, Value.int IntKind.i64 x2, Value.int IntKind.i64 x3, Value.string x4] 67)
  have HBX := Aside0.mk hbx
  have HF := Aside0.mk h.a.v.lt
  have HF2 := Aside0.mk h.r.lt
  have HPUT := Aside0.mk (put_calls w.heap.size P F c L g x3 x1 x4 _ HB.out.a.v (by omega))
  clear h hb hbx e0
  go_enter Try.func31, Try.ntmps31
  go_upto_region 4 with (go_at_call 16; refine HPUT.out.mono ?_; rintro e w2 ⟨rfl, F3, hA, hT⟩; have HST := Aside0.mk (HB.out.stepA hA hT); have hbx2 := blk_kept HBX.out hT.kept (fun hk => by have := HF.out _ hk; omega); clear hA hT)
  have k1 := blk_cell hbx2 1
  have k3 := blk_cell hbx2 3
  have k4 := blk_cell hbx2 4
  have hg := HB.out.a.v.gs
  have HR := Aside0.mk (rput_calls w.heap.size P2 F2 L g x3 x1 x4 w2 HST.out.2 HB.out.a.v.len (by omega))
  obtain ⟨r1, hr1⟩ : ∃ r, (putR x3 x1 x4 L g).1 = r := ⟨_, rfl⟩
  obtain ⟨r2, hr2⟩ : ∃ r, (putR x3 x1 x4 L g).2.1 = r := ⟨_, rfl⟩
  have HR' := Aside0.mk (show Calls Try.prog 46 #[.pointer (some ⟨P2, 0, none⟩), .int .i64 x3, .int .i64 x1, .string x4] w2 (fun e w' => e = .returned (.tuple #[.int .i64 r1, .int .i64 r2]) ∧ ∃ F', RfV w.heap.size w' P2 F' (putR x3 x1 x4 L g).2.2.1 (putR x3 x1 x4 L g).2.2.2 ∧ To w.heap.size w2 w' F2 F') by rw [← hr1, ← hr2]; exact HR.out)
  rw [hr1, hr2]
  clear hbx2 hr1 hr2 HR hg
  go_wp2_with (go_at_call 46; refine HR'.out.mono ?_; rintro e w3 ⟨rfl, F4, hR, hT⟩; have HE := Aside0.mk (Both.stepR HST.out.1 HST.out.2 HB.out.f hR hT); clear hR hT)
  go_ret
  exact ⟨rfl, _, _, HE.out⟩
set_option maxHeartbeats 8000000 in
set_option maxRecDepth 100000 in
theorem does_double (w W : World) (P P2 : Nat) (F F2 : Nat → Prop) (c : Nat) (L : List S34) (g : Int) (x : S67) (h : Both w W P P2 F F2 c L g) (hc : c < 1000) (h0 : x.f0 = 4) (ht : (Lit.int .i64 x.f2).wf = true) :
    Calls Try.prog 31 #[.pointer (some ⟨P, 0, none⟩), .pointer (some ⟨P2, 0, none⟩), .agg #[.int .i64 x.f0, .int .i64 x.f1, .int .i64 x.f2, .int .i64 x.f3, .string x.f4]] W (doesEnd w P P2 c (doesR x L g)) := by
  have e0 : doesR x L g = ((doubleR x.f2 x.f3 L g).2.2.1, (doubleR x.f2 x.f3 L g).2.2.2) := by unfold doesR; rw [if_neg (by omega), if_neg (by omega), if_neg (by omega), if_neg (by omega), if_pos h0]
  rw [e0]
  obtain ⟨x0, x1, x2, x3, x4⟩ := x
  simp only at h0 ht
  subst h0
  have hb := below_alloc (Below.refl W.heap.size W) (Obj.cells #[Value.int IntKind.i64 4, Value.int IntKind.i64 x1, Value.int IntKind.i64 x2, Value.int IntKind.i64 x3, Value.string x4] 67)
  have HB := Aside0.mk (h.far hb)
  have hbx := blk_new W (Obj.cells #[Value.int IntKind.i64 4, Value.int IntKind.i64 x1, Value.int IntKind.i64 x2, Value.int IntKind.i64 x3, Value.string x4] 67)
  have HBX := Aside0.mk hbx
  have HF := Aside0.mk h.a.v.lt
  have HF2 := Aside0.mk h.r.lt
  have HPUT := Aside0.mk (double_calls w.heap.size P F c L g x2 x3 _ HB.out.a.v (by omega) ht)
  clear h hb hbx e0
  go_enter Try.func31, Try.ntmps31
  go_upto_region 16 with (go_at_call 25; refine HPUT.out.mono ?_; rintro e w2 ⟨rfl, F3, hA, hT⟩; have HST := Aside0.mk (HB.out.stepA hA hT); have hbx2 := blk_kept HBX.out hT.kept (fun hk => by have := HF.out _ hk; omega); clear hA hT)
  have k2 := blk_cell hbx2 2
  have k3 := blk_cell hbx2 3
  have hg := HB.out.a.v.gs
  have HR := Aside0.mk (rdouble_calls w.heap.size P2 F2 L g x2 x3 w2 HST.out.2 HB.out.a.v.len (by omega))
  obtain ⟨r1, hr1⟩ : ∃ r, (doubleR x2 x3 L g).1 = r := ⟨_, rfl⟩
  obtain ⟨r2, hr2⟩ : ∃ r, (doubleR x2 x3 L g).2.1 = r := ⟨_, rfl⟩
  have HR' := Aside0.mk (show Calls Try.prog 50 #[.pointer (some ⟨P2, 0, none⟩), .int .i64 x2, .int .i64 x3] w2 (fun e w' => e = .returned (.tuple #[.int .i64 r1, .int .i64 r2]) ∧ ∃ F', RfV w.heap.size w' P2 F' (doubleR x2 x3 L g).2.2.1 (doubleR x2 x3 L g).2.2.2 ∧ To w.heap.size w2 w' F2 F') by rw [← hr1, ← hr2]; exact HR.out)
  rw [hr1, hr2]
  clear hbx2 hr1 hr2 HR hg
  go_wp2_with (go_at_call 50; refine HR'.out.mono ?_; rintro e w3 ⟨rfl, F4, hR, hT⟩; have HE := Aside0.mk (Both.stepR HST.out.1 HST.out.2 HB.out.f hR hT); clear hR hT)
  go_ret
  exact ⟨rfl, _, _, HE.out⟩
set_option maxHeartbeats 8000000 in
set_option maxRecDepth 100000 in
theorem does_take (w W : World) (P P2 : Nat) (F F2 : Nat → Prop) (c : Nat) (L : List S34) (g : Int) (x : S67) (h : Both w W P P2 F F2 c L g) (hc : c < 1000) (h0 : x.f0 = 3) :
    Calls Try.prog 31 #[.pointer (some ⟨P, 0, none⟩), .pointer (some ⟨P2, 0, none⟩), .agg #[.int .i64 x.f0, .int .i64 x.f1, .int .i64 x.f2, .int .i64 x.f3, .string x.f4]] W (doesEnd w P P2 c (doesR x L g)) := by
  have e0 : doesR x L g = ((takeR x.f3 L).2.2, g) := by unfold doesR; rw [if_neg (by omega), if_neg (by omega), if_neg (by omega), if_pos h0]
  rw [e0]
  obtain ⟨x0, x1, x2, x3, x4⟩ := x
  simp only at h0
  subst h0
  have hb := below_alloc (Below.refl W.heap.size W) (Obj.cells #[Value.int IntKind.i64 3, Value.int IntKind.i64 x1, Value.int IntKind.i64 x2, Value.int IntKind.i64 x3, Value.string x4] 67)
  have HB := Aside0.mk (h.far hb)
  have hbx := blk_new W (Obj.cells #[Value.int IntKind.i64 3, Value.int IntKind.i64 x1, Value.int IntKind.i64 x2, Value.int IntKind.i64 x3, Value.string x4] 67)
  have HBX := Aside0.mk hbx
  have HF := Aside0.mk h.a.v.lt
  have HF2 := Aside0.mk h.r.lt
  obtain ⟨r, hr⟩ : ∃ r, takeR x3 L = r := ⟨_, rfl⟩
  have ht := take_calls w.heap.size P F c L g x3 _ HB.out.a.v (by omega)
  have hrt := fun W2 (hR : RfV w.heap.size W2 P2 F2 L g) => rtake_calls w.heap.size P2 F2 L g x3 W2 hR HB.out.a.v.len HB.out.a.v.nd
  rw [hr] at ht hrt ⊢
  obtain ⟨⟨r0, r1, r2, r3⟩, rb, L'⟩ := r
  have HTK := Aside0.mk (show Calls Try.prog 26 #[.pointer (some ⟨P, 0, none⟩), .int .i64 x3] _ (fun e w' => e = .returned (.tuple #[.agg #[.int .i64 r0, .int .i64 r1, .string r2, .int .i64 r3], .bool rb]) ∧ ∃ F', AgV w.heap.size w' P F' (c + 1) L' g ∧ To w.heap.size _ w' F F') from ht)
  have HRT := Aside0.mk hrt
  clear h hb hbx e0 hr ht hrt
  go_enter Try.func31, Try.ntmps31
  go_upto_region 12 with (go_at_call 26; refine HTK.out.mono ?_; rintro e w2 ⟨rfl, F3, hA, hT⟩; have HST := Aside0.mk (HB.out.stepA hA hT); have hbx2 := blk_kept HBX.out hT.kept (fun hk => by have := HF.out _ hk; omega); clear hA hT)
  have hb2 := below_alloc (Below.refl w2.heap.size w2) (Obj.cells #[.int .i64 r0, .int .i64 r1, .string r2, .int .i64 r3] 34)
  have hx11 := blk_new w2 (Obj.cells #[.int .i64 r0, .int .i64 r1, .string r2, .int .i64 r3] 34)
  have HA2 := Aside0.mk (HST.out.1.far hb2)
  have HR2 := Aside0.mk (HST.out.2.far hb2)
  have hbx3 := blk_below hbx2 hb2
  have hlt2 := HST.out.2.lt
  have HF22 := Aside0.mk hlt2
  obtain ⟨W3, hW3⟩ : ∃ W3, w2.alloc (Obj.cells #[.int .i64 r0, .int .i64 r1, .string r2, .int .i64 r3] 34) = W3 := ⟨_, rfl⟩
  have ha2 := HA2.out
  have hr2 := HR2.out
  rw [hW3] at hx11 ha2 hr2 hbx3 ⊢
  have HA3 := Aside0.mk ha2
  have HR3 := Aside0.mk hr2
  have HX11 := Aside0.mk hx11
  have k3 := blk_cell hbx3 3
  have HRR := Aside0.mk (HRT.out W3 hr2)
  have HRR' := Aside0.mk (show Calls Try.prog 49 #[.pointer (some ⟨P2, 0, none⟩), .int .i64 x3] W3 (fun e w' => e = .returned (.tuple #[.agg #[.int .i64 r0, .int .i64 r1, .string r2, .int .i64 r3], .bool rb]) ∧ ∃ F', RfV w.heap.size w' P2 F' L' g ∧ To w.heap.size W3 w' F2 F') from HRR.out)
  clear hb2 hx11 hbx2 hbx3 hlt2 hW3 ha2 hr2 HA2 HR2 HRT HRR
  go_upto_region 13 with (go_at_call 49; refine HRR'.out.mono ?_; rintro e w4 ⟨rfl, F4, hR, hT⟩; have HE := Aside0.mk (Both.stepR HA3.out HR3.out HB.out.f hR hT); have hx4 := blk_kept HX11.out hT.kept (fun hk => by have := HF22.out _ hk; omega); clear hR hT k3)
  have k0 := blk_cell hx4 0
  have k1 := blk_cell hx4 1
  have k2 := blk_cell hx4 2
  have k3 := blk_cell hx4 3
  have hlt4 : (w2.heap.size < w4.heap.size) = True := eq_true (blk_lt hx4)
  clear hx4
  go_wp2_with (fail)
  go_ret
  exact ⟨rfl, _, _, HE.out.far (below_alloc (Below.refl _ _) _)⟩
set_option maxHeartbeats 8000000 in
set_option maxRecDepth 100000 in
theorem does_cancel (w W : World) (P P2 : Nat) (F F2 : Nat → Prop) (c : Nat) (L : List S34) (g : Int) (x : S67) (h : Both w W P P2 F F2 c L g) (hc : c < 1000) (h0 : x.f0 = 1) (ht : (Lit.int .i64 x.f2).wf = true) :
    Calls Try.prog 31 #[.pointer (some ⟨P, 0, none⟩), .pointer (some ⟨P2, 0, none⟩), .agg #[.int .i64 x.f0, .int .i64 x.f1, .int .i64 x.f2, .int .i64 x.f3, .string x.f4]] W (doesEnd w P P2 c (doesR x L g)) := by
  have e0 : doesR x L g = ((cancelR x.f2 L).2, g) := by unfold doesR; rw [if_neg (by omega), if_pos h0]
  rw [e0]
  obtain ⟨x0, x1, x2, x3, x4⟩ := x
  simp only at h0 ht
  subst h0
  have hb := below_alloc (Below.refl W.heap.size W) (Obj.cells #[Value.int IntKind.i64 1, Value.int IntKind.i64 x1, Value.int IntKind.i64 x2, Value.int IntKind.i64 x3, Value.string x4] 67)
  have HB := Aside0.mk (h.far hb)
  have hbx := blk_new W (Obj.cells #[Value.int IntKind.i64 1, Value.int IntKind.i64 x1, Value.int IntKind.i64 x2, Value.int IntKind.i64 x3, Value.string x4] 67)
  have HF := Aside0.mk h.a.v.lt
  have HF2 := Aside0.mk h.r.lt
  obtain ⟨r, hr⟩ : ∃ r, cancelR x2 L = r := ⟨_, rfl⟩
  have hcn := fun W2 (hA : AgV w.heap.size W2 P F c L g) => cancel_calls w.heap.size P F c L g x2 W2 hA (by omega) ht
  have hrn := fun W2 (hR : RfV w.heap.size W2 P2 F2 L g) => rcancel_calls w.heap.size P2 F2 L g x2 W2 hR HB.out.a.v.len HB.out.a.v.nd
  rw [hr] at hcn hrn ⊢
  obtain ⟨r1, L'⟩ := r
  have HCN := Aside0.mk hcn
  have HRN := Aside0.mk hrn
  clear h hb e0 hr hcn hrn
  go_enter Try.func31, Try.ntmps31
  go_upto_region 7 with (fail)
  obtain ⟨W1, hW1⟩ : ∃ W1, W.alloc (Obj.cells #[Value.int IntKind.i64 1, Value.int IntKind.i64 x1, Value.int IntKind.i64 x2, Value.int IntKind.i64 x3, Value.string x4] 67) = W1 := ⟨_, rfl⟩
  have hB := HB.out
  rw [hW1] at hbx hB ⊢
  have HB1 := Aside0.mk (hB.far (Below.refl _ _).drew)
  have HBX := Aside0.mk (show W1.drew.heap[W.heap.size]? = _ from hbx)
  have k2 : W1.cell? ⟨W.heap.size, 2, none⟩ = some (.int .i64 x2) := blk_cell hbx 2
  have HC := Aside0.mk (HCN.out W1.drew HB1.out.a.v)
  clear hB hbx hW1 HB
  go_region_held3 (fun w' => w'.cell? ⟨W.heap.size, 2, none⟩ = some (.int .i64 x2)) (first | exact k2 | exact kk | exact k9) (first
    | (go_at_call 27; refine HC.out.mono ?_; rintro e w2 ⟨rfl, F3, hA, hT⟩; have HST := Aside0.mk (HB1.out.stepA hA hT); have hbx2 := blk_kept HBX.out hT.kept (fun hk => by have := HF.out _ hk; omega); have kk : w2.cell? ⟨W.heap.size, 2, none⟩ = some (.int .i64 x2) := blk_cell hbx2 2; have HBX2 := Aside0.mk hbx2; have HR2 := Aside0.mk (HRN.out w2 HST.out.2); clear hA hT hbx2)
    | (go_at_call 47; refine HR2.out.mono ?_; rintro e w3 ⟨rfl, F4, hR, hT⟩; have HE := Aside0.mk (Both.stepR HST.out.1 HST.out.2 HB1.out.f hR hT); have k9 : w3.cell? ⟨W.heap.size, 2, none⟩ = some (.int .i64 x2) := blk_cell (blk_kept HBX2.out hT.kept (fun hk => by have := HF2.out _ hk; omega)) 2; clear hR hT))
  go_wp2_with (fail)
  go_ret
  exact ⟨rfl, _, _, HE.out⟩
set_option maxHeartbeats 8000000 in
set_option maxRecDepth 100000 in
theorem does_move (w W : World) (P P2 : Nat) (F F2 : Nat → Prop) (c : Nat) (L : List S34) (g : Int) (x : S67) (h : Both w W P P2 F F2 c L g) (hc : c < 1000) (h0 : x.f0 = 2) (ht : (Lit.int .i64 x.f2).wf = true) :
    Calls Try.prog 31 #[.pointer (some ⟨P, 0, none⟩), .pointer (some ⟨P2, 0, none⟩), .agg #[.int .i64 x.f0, .int .i64 x.f1, .int .i64 x.f2, .int .i64 x.f3, .string x.f4]] W (doesEnd w P P2 c (doesR x L g)) := by
  have e0 : doesR x L g = ((moveR x.f2 x.f3 L).2, g) := by unfold doesR; rw [if_neg (by omega), if_neg (by omega), if_pos h0]
  rw [e0]
  obtain ⟨x0, x1, x2, x3, x4⟩ := x
  simp only at h0 ht
  subst h0
  have hb := below_alloc (Below.refl W.heap.size W) (Obj.cells #[Value.int IntKind.i64 2, Value.int IntKind.i64 x1, Value.int IntKind.i64 x2, Value.int IntKind.i64 x3, Value.string x4] 67)
  have HB := Aside0.mk (h.far hb)
  have hbx := blk_new W (Obj.cells #[Value.int IntKind.i64 2, Value.int IntKind.i64 x1, Value.int IntKind.i64 x2, Value.int IntKind.i64 x3, Value.string x4] 67)
  have HF := Aside0.mk h.a.v.lt
  have HF2 := Aside0.mk h.r.lt
  obtain ⟨r, hr⟩ : ∃ r, moveR x2 x3 L = r := ⟨_, rfl⟩
  have hcn := fun W2 (hA : AgV w.heap.size W2 P F c L g) => move_calls w.heap.size P F c L g x2 x3 W2 hA (by omega) ht
  have hrn := fun W2 (hR : RfV w.heap.size W2 P2 F2 L g) => rmove_calls w.heap.size P2 F2 L g x2 x3 W2 hR HB.out.a.v.len HB.out.a.v.nd HB.out.a.v.srt
  rw [hr] at hcn hrn ⊢
  obtain ⟨r1, L'⟩ := r
  have HCN := Aside0.mk hcn
  have HRN := Aside0.mk hrn
  clear h hb e0 hr hcn hrn
  go_enter Try.func31, Try.ntmps31
  go_upto_region 9 with (fail)
  obtain ⟨W1, hW1⟩ : ∃ W1, W.alloc (Obj.cells #[Value.int IntKind.i64 2, Value.int IntKind.i64 x1, Value.int IntKind.i64 x2, Value.int IntKind.i64 x3, Value.string x4] 67) = W1 := ⟨_, rfl⟩
  have hB := HB.out
  rw [hW1] at hbx hB ⊢
  have HB1 := Aside0.mk (hB.far (Below.refl _ _).drew)
  have HBX := Aside0.mk (show W1.drew.heap[W.heap.size]? = _ from hbx)
  have k2 : W1.cell? ⟨W.heap.size, 2, none⟩ = some (.int .i64 x2) ∧ W1.cell? ⟨W.heap.size, 3, none⟩ = some (.int .i64 x3) := ⟨blk_cell hbx 2, blk_cell hbx 3⟩
  have HC := Aside0.mk (HCN.out W1.drew HB1.out.a.v)
  clear hB hbx hW1 HB
  go_region_held3 (fun w' => w'.cell? ⟨W.heap.size, 2, none⟩ = some (.int .i64 x2) ∧ w'.cell? ⟨W.heap.size, 3, none⟩ = some (.int .i64 x3)) (first | exact k2 | exact kk | exact k9) (first
    | (go_at_call 17; refine HC.out.mono ?_; rintro e w2 ⟨rfl, F3, hA, hT⟩; have HST := Aside0.mk (HB1.out.stepA hA hT); have hbx2 := blk_kept HBX.out hT.kept (fun hk => by have := HF.out _ hk; omega); have kk : w2.cell? ⟨W.heap.size, 2, none⟩ = some (.int .i64 x2) ∧ w2.cell? ⟨W.heap.size, 3, none⟩ = some (.int .i64 x3) := ⟨blk_cell hbx2 2, blk_cell hbx2 3⟩; have HBX2 := Aside0.mk hbx2; have HR2 := Aside0.mk (HRN.out w2 HST.out.2); clear hA hT hbx2)
    | (go_at_call 48; refine HR2.out.mono ?_; rintro e w3 ⟨rfl, F4, hR, hT⟩; have HE := Aside0.mk (Both.stepR HST.out.1 HST.out.2 HB1.out.f hR hT); have k9 : w3.cell? ⟨W.heap.size, 2, none⟩ = some (.int .i64 x2) ∧ w3.cell? ⟨W.heap.size, 3, none⟩ = some (.int .i64 x3) := ⟨blk_cell (blk_kept HBX2.out hT.kept (fun hk => by have := HF2.out _ hk; omega)) 2, blk_cell (blk_kept HBX2.out hT.kept (fun hk => by have := HF2.out _ hk; omega)) 3⟩; clear hR hT))
  go_wp2_with (fail)
  go_ret
  exact ⟨rfl, _, _, HE.out⟩
set_option maxHeartbeats 8000000 in
set_option maxRecDepth 100000 in
theorem does_calls (w W : World) (P P2 : Nat) (F F2 : Nat → Prop) (c : Nat) (L : List S34) (g : Int) (x : S67) (h : Both w W P P2 F F2 c L g) (hc : c < 1000) (ht : (Lit.int .i64 x.f2).wf = true) :
    Calls Try.prog 31 #[.pointer (some ⟨P, 0, none⟩), .pointer (some ⟨P2, 0, none⟩), .agg #[.int .i64 x.f0, .int .i64 x.f1, .int .i64 x.f2, .int .i64 x.f3, .string x.f4]] W (doesEnd w P P2 c (doesR x L g)) := by
  by_cases h0 : x.f0 = 0
  · exact does_put w W P P2 F F2 c L g x h hc h0
  by_cases h1 : x.f0 = 1
  · exact does_cancel w W P P2 F F2 c L g x h hc h1 ht
  by_cases h2 : x.f0 = 2
  · exact does_move w W P P2 F F2 c L g x h hc h2 ht
  by_cases h3 : x.f0 = 3
  · exact does_take w W P P2 F F2 c L g x h hc h3
  by_cases h4 : x.f0 = 4
  · exact does_double w W P P2 F F2 c L g x h hc h4 ht
  have e0 : doesR x L g = (L, g) := by unfold doesR; rw [if_neg h0, if_neg h1, if_neg h2, if_neg h3, if_neg h4]
  rw [e0]
  obtain ⟨x0, x1, x2, x3, x4⟩ := x
  simp only at h0 h1 h2 h3 h4
  have q0 := beq_eq_false_iff_ne.mpr h0
  have q1 := beq_eq_false_iff_ne.mpr h1
  have q2 := beq_eq_false_iff_ne.mpr h2
  have q3 := beq_eq_false_iff_ne.mpr h3
  have q4 := beq_eq_false_iff_ne.mpr h4
  have n0 := eq_false h0
  have n1 := eq_false h1
  have n2 := eq_false h2
  have n3 := eq_false h3
  have n4 := eq_false h4
  have HE := Aside0.mk (h.far (below_alloc (Below.refl W.heap.size W) (Obj.cells #[Value.int IntKind.i64 x0, Value.int IntKind.i64 x1, Value.int IntKind.i64 x2, Value.int IntKind.i64 x3, Value.string x4] 67)))
  clear h h0 h1 h2 h3 h4 e0
  go_enter Try.func31, Try.ntmps31
  go_wp2_with (fail)
  go_ret
  exact ⟨rfl, F, F2, ⟨⟨HE.out.a.v.mono (Nat.le_succ _), HE.out.a.b, HE.out.a.f⟩, HE.out.r, HE.out.f⟩⟩
theorem heavy_l0 (l : List S67) (hl : l.length ≤ 200) : ∀ (k i : Nat) (n : Int), i ≤ l.length → l.length ≤ i + k → ∃ b, analemmalaw08_heavy.l0 (k + 1) l n i = some b
  | k, i, n, h1, h2 => by
    unfold analemmalaw08_heavy.l0
    by_cases hi : (i : Int) < (l.length : Int)
    · rw [if_pos hi]
      by_cases hn : n ≤ 8192
      · rw [if_pos hn, if_pos (by omega)]
        match k, h2 with
        | 0, h2 => omega
        | k + 1, h2 =>
          rw [w64_nat i (by omega)]
          exact heavy_l0 l hl k (i + 1) _ (by omega) (by omega)
      · rw [if_neg hn]
        exact ⟨_, rfl⟩
    · rw [if_neg hi]
      exact ⟨_, rfl⟩
theorem heavy_f (l : List S67) : ∃ b, analemmalaw08_heavy.f (l.length + 1) l = some b ∧ (b = false → l.length ≤ 200) := by
  unfold analemmalaw08_heavy.f
  by_cases h : (l.length : Int) > 200
  · rw [if_pos h]
    exact ⟨true, rfl, fun e => by cases e⟩
  · rw [if_neg h]
    obtain ⟨b, hb⟩ := heavy_l0 l (by omega) l.length 0 0 (by omega) (by omega)
    exact ⟨b, hb, fun _ => by omega⟩
theorem heavy_calls (A : Option Addr) (cp : Nat) (l : List S67) (w : World) (hr : Kd.C k67 w A l.length l) (hc : l.length ≤ cp) :
    ∃ b, (b = false → l.length ≤ 200) ∧ Calls Try.prog 30 #[.slice A l.length cp] w fun e w' => e = .returned (.bool b) ∧ Below w.heap.size w w' := by
  obtain ⟨b, h1, h2⟩ := heavy_f l
  exact ⟨b, h2, analemmalaw08_heavy.calls (l.length + 1) A cp l b w hr hc h1⟩
theorem Both.start {w W : World} {P : Nat} {F : Nat → Prop} {c : Nat} (h : LV w W P F c [] 0) : ∃ F2, Both w (W.alloc (Obj.cells #[.slice none 0 0, .int .i64 0] 64)) P W.heap.size F F2 c [] 0 := by
  refine ⟨RfF W.heap.size (.slice none 0 0), h.far (below_alloc (Below.refl _ _) _), ⟨_, ⟨blk_new _ _, World.ownsRow_nil _ _ _ _, h.b.size⟩, rfl⟩, ?_⟩
  intro k hk
  rcases hk with rfl | e
  · exact h.b.size
  · cases e
theorem RfV.open {B : Nat} {W : World} {P : Nat} {F : Nat → Prop} {L : List S34} {g : Int} (h : RfV B W P F L g) (hl : L.length ≤ 1000000) :
    ∃ ad c, W.cell? ⟨P, 0, none⟩ = some (.slice ad L.length c) ∧ L.length ≤ c ∧ P < W.heap.size ∧ Kd.C k69 W ad L.length (L.map conv) := by
  obtain ⟨hv, hs, rfl⟩ := h
  obtain ⟨ad, c, rfl, hc⟩ := hs.two
  refine ⟨ad, c, blk_cell hs.blk 0, hc, blk_lt hs.blk, ⟨List.length_map _, by omega, fun hn => ?_⟩⟩
  obtain ⟨g0, rfl, _⟩ := hs.cells 0 hn
  refine ⟨⟨g0, 0, none⟩, rfl, fun j p hp => ?_⟩
  obtain ⟨hj, hp⟩ := List.getElem?_eq_some_iff.1 hp
  have hj' : j < L.length := by simpa using hj
  obtain ⟨g1, e1, h0, h1, h2, h3⟩ := hs.cells j hj'
  cases e1
  have hp' : p = conv (gt L j) := by
    rw [← hp, List.getElem_map]
    unfold gt
    rw [List.getElem?_eq_getElem hj']
    rfl
  subst hp'
  refine ⟨[.int .i64 (gt L j).f0, .int .i64 (gt L j).f1, .string (gt L j).f2, .int .i64 (gt L j).f3], rfl, k69_mk W (conv (gt L j)), fun i u hu => ?_⟩
  have ha : (⟨g0, 0, none⟩ : Addr).add (j * 4 + i) = ⟨g0, j * 4 + i, none⟩ := by unfold Addr.add; split <;> simp_all
  have ha' : (⟨g0, 0, none⟩ : Addr).add (j * k69.sz + i) = ⟨g0, j * 4 + i, none⟩ := ha
  rw [ha']
  match i, hu with
  | 0, hu => cases hu; exact h0
  | 1, hu => cases hu; exact h1
  | 2, hu => cases hu; exact h2
  | 3, hu => cases hu; exact h3

end Go.Proofs.Ytdlbnkiolpmnbaa.Ag
