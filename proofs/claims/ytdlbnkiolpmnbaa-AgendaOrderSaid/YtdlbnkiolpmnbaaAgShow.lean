/- agenda: shown: that something is to come. No condition. -/
import Derived.Test.YtdlbnkiolpmnbaaProg
import Derived.Test.YtdlbnkiolpmnbaaMAgax0
import Derived.Test.YtdlbnkiolpmnbaaMAgax2
import Derived.WalkKit
import Derived.Deep.RegionLaw
import Derived.Deep.RegionWith
import Derived.Deep.RegionHeld3
import Derived.BigRegion
import Derived.BigQuiet
import Derived.StillTailTactics
import Derived.Test.YtdlbnkiolpmnbaaAgSt
import Derived.Test.YtdlbnkiolpmnbaaAgLay
import Derived.Test.YtdlbnkiolpmnbaaAgCmp
import Derived.Test.YtdlbnkiolpmnbaaAgSet
import Derived.Test.YtdlbnkiolpmnbaaAgPlain
import Derived.Test.YtdlbnkiolpmnbaaAgInv
import Derived.Test.YtdlbnkiolpmnbaaAgOp
import Derived.Test.YtdlbnkiolpmnbaaAgPut
import Derived.Test.YtdlbnkiolpmnbaaAgMov
import Derived.Test.YtdlbnkiolpmnbaaAgCan
import Derived.Test.YtdlbnkiolpmnbaaAgTak
import Derived.Test.YtdlbnkiolpmnbaaAgTke
import Derived.Test.YtdlbnkiolpmnbaaAgLaw
import Derived.Test.YtdlbnkiolpmnbaaAgIter
import Derived.Test.YtdlbnkiolpmnbaaAgSeq
import Derived.Test.YtdlbnkiolpmnbaaAgSort
import Derived.Test.YtdlbnkiolpmnbaaAgList
import Derived.Maps.OwnIn
import Derived.Maps.OwnSet
namespace Go.Proofs.Ytdlbnkiolpmnbaa.Ag
open Go.RowKit Go.Proofs.Ytdlbnkiolpmnbaa.MAga Go.Proofs.YtdlbnkiolpmnbaaW.PrintWords Go.Proofs.YtdlbnkiolpmnbaaW.PrintLast Go.Proofs.YtdlbnkiolpmnbaaW.PrintMore
attribute [local go_sem] max2_int min2_int max_two min_two max_three min_three max_four min_four
set_option linter.unusedVariables false
set_option linter.unusedSimpArgs false
-- import Derived.Maps.OwnIn
-- import Derived.Maps.OwnSet
set_option maxHeartbeats 4000000 in
set_option maxRecDepth 100000 in
theorem shown_calls (w : World) : Calls Try.prog 14 #[] w fun e w' => e = .returned (.bool true) ∧ Below w.heap.size w w' := by
  have HN := Aside0.mk (new_calls w.heap.size w (Nat.le_refl _))
  have e1 : putR 3 1 ⟨#[120]⟩ [] 0 = (1, 0, [⟨3, 1, ⟨#[120]⟩, 1⟩], 1) := by
    unfold putR
    rw [if_neg (by unfold badP; decide), if_neg (by decide)]
    rfl
  go_enter Try.func14, Try.ntmps14
  go_upto_region 2 with (go_at_call 15; refine HN.out.mono ?_; rintro e w1 ⟨P, F, rfl, hA, hb, hP, hF⟩; have HA := Aside0.mk hA; have HB := Aside0.mk hb; clear hA hb hP hF)
  have hp := put_calls w.heap.size P F 0 [] 0 3 1 ⟨#[120]⟩ w1 HA.out (by omega)
  rw [e1] at hp
  have HP := Aside0.mk hp
  clear hp
  go_upto_region 3 with (go_at_call 16; refine HP.out.mono ?_; rintro e w2 ⟨rfl, F2, hA2, hT2⟩; have HA2 := Aside0.mk hA2; have HT2 := Aside0.mk hT2; clear hA2 hT2)
  have hn : Calls Try.prog 32 #[.pointer (some ⟨P, 0, none⟩)] w2 fun e w' => e = .returned (.tuple #[.agg #[.int .i64 3, .int .i64 1, .string ⟨#[120]⟩, .int .i64 1], .bool true]) ∧ AgV w.heap.size w' P F2 1 [⟨3, 1, ⟨#[120]⟩, 1⟩] 1 ∧ Below w2.heap.size w2 w' := next_calls w.heap.size P F2 1 _ 1 w2 HA2.out
  have HNX := Aside0.mk hn
  clear hn
  go_wp2_with (go_at_call 32; refine HNX.out.mono ?_; rintro e w3 ⟨rfl, hA3, hb3⟩; have HB3 := Aside0.mk hb3; clear hA3 hb3)
  go_ret
  have h1 := HB.out.trans HT2.out.bel
  have h2 := HB3.out.mono (B' := w.heap.size) h1.size
  exact ⟨rfl, (h1.trans h2).alloc (h1.trans h2).size _⟩

end Go.Proofs.Ytdlbnkiolpmnbaa.Ag
