/- Functions that the statements of this seat reach, each as a plain Lean function, with a proof that the Go code comes to its answers; no condition. -/
import Derived.Test.YtilbkdlbbnkgdaaProg
import Derived.Below
import Derived.Deep.Draws
import Derived.Deep.AppendLies
import Derived.Maps.AppendAt
import Derived.OwnWalk
import Derived.Laws.BytesArg
import Derived.Laws.MakeOwn
import Derived.Laws.OwnMore
import Derived.Deep.OwnRows
import Derived.Tactics
import Derived.Lib.ConvBytes
import Derived.Laws.Slices
import Derived.WalkKit
import Derived.KernelRfl
import Derived.RowKit3
import Derived.Deep.LoopGhost
import Derived.Deep.QuietTactic
import Derived.BigQuiet
import Derived.WideLaws
import Derived.Deep.DeepCutAuto
import Derived.Deep.CutBlock
import Derived.Deep.RegionHeld3
import Derived.Laws.Rows
import Derived.Lib.AppendStr
import Derived.ArgAppend
import Derived.Laws.IdiomCopy
import Derived.OrdersHeld
import Derived.Laws.BitsLemmas
import Derived.RowKit
import Derived.Test.YtilbkdlbbnkgdaaWWords
import Derived.Test.YtilbkdlbbnkgdaaWLast
import Derived.Test.YtilbkdlbbnkgdaaWTab
import Derived.Test.YtilbkdlbbnkgdaaWFour
import Derived.Test.YtilbkdlbbnkgdaaWQPut
import Derived.Test.YtilbkdlbbnkgdaaWApart
import Derived.Test.YtilbkdlbbnkgdaaWArr
import Derived.Test.YtilbkdlbbnkgdaaWZeros
import Derived.Test.YtilbkdlbbnkgdaaWFoot
import Derived.Test.YtilbkdlbbnkgdaaWKept
import Derived.Test.YtilbkdlbbnkgdaaWShare
import Derived.Test.YtilbkdlbbnkgdaaWN
import Derived.Test.YtilbkdlbbnkgdaaWFootNe
import Derived.Test.YtilbkdlbbnkgdaaWAt
import Derived.Test.YtilbkdlbbnkgdaaWEqStruct
import Derived.Test.YtilbkdlbbnkgdaaWRepsOne
import Derived.Test.YtilbkdlbbnkgdaaWInv
import Derived.Test.YtilbkdlbbnkgdaaWInvWords
import Derived.Test.YtilbkdlbbnkgdaaWGuard
import Derived.Test.YtilbkdlbbnkgdaaWNEv
import Derived.Test.YtilbkdlbbnkgdaaWMore
namespace Go.Proofs.Ytilbkdlbbnkgdaa.MHeader
open Go.RowKit Go.Proofs.YtilbkdlbbnkgdaaW.PrintWords Go.Proofs.YtilbkdlbbnkgdaaW.PrintLast Go.Proofs.YtilbkdlbbnkgdaaW.PrintMore
attribute [local go_sem] max2_int min2_int max_two min_two max_three min_three max_four min_four   -- for this text's walks alone
set_option linter.unusedVariables false
set_option linter.unusedSimpArgs false



def errW : Option Int → Value
  | none => .nilIface
  | some c => .iface 0 (.int .i64 c)
theorem errW_none : errW none = .nilIface := rfl
theorem errW_some (c : Int) : errW (some c) = .iface 0 (.int .i64 c) := rfl

theorem info5 : (Try.prog.info? 5).map (fun i => (i.zero, i.size, i.bytes)) = some (some (.int .u8 0), 1, 1) := by kernel_rfl
theorem info22 : (Try.prog.info? 22).map (fun i => (i.zero, i.size, i.bytes)) = some (some (.int .u32 0), 1, 4) := by kernel_rfl
theorem info27 : (Try.prog.info? 27).map (fun i => (i.zero, i.size, i.bytes)) = some (some (.int .u64 0), 1, 8) := by kernel_rfl
-- the values' own types
/-! #### struct type 42 -/
structure S42 where
  f0 : Int
  f1 : Int
  f2 : Int
  f3 : Int
  f4 : Int
  f5 : Int
  f6 : Int
  f7 : Int
  f8 : Int
  f9 : Int
  f10 : Int
  f11 : Int
  f12 : Int
def z42 : S42 := ⟨(0 : Int), (0 : Int), (0 : Int), (0 : Int), (0 : Int), (0 : Int), (0 : Int), (0 : Int), (0 : Int), (0 : Int), (0 : Int), (0 : Int), (0 : Int)⟩
def k42 : Kd S42 := Kd.iso (Kd.pair (Kd.int .i64) (Kd.pair (Kd.int .i64) (Kd.pair (Kd.int .i64) (Kd.pair (Kd.int .i64) (Kd.pair (Kd.int .i64) (Kd.pair (Kd.int .i64) (Kd.pair (Kd.int .u32) (Kd.pair (Kd.int .u32) (Kd.pair (Kd.int .u32) (Kd.pair (Kd.int .u64) (Kd.pair (Kd.int .u64) (Kd.pair (Kd.int .u64) (Kd.int .u64))))))))))))) (fun x : S42 => (x.f0, x.f1, x.f2, x.f3, x.f4, x.f5, x.f6, x.f7, x.f8, x.f9, x.f10, x.f11, x.f12))
theorem k42_open {w : World} {x : S42} {cs : List Value} (h : k42.K w x cs) : cs = [.int .i64 x.f0, .int .i64 x.f1, .int .i64 x.f2, .int .i64 x.f3, .int .i64 x.f4, .int .i64 x.f5, .int .u32 x.f6, .int .u32 x.f7, .int .u32 x.f8, .int .u64 x.f9, .int .u64 x.f10, .int .u64 x.f11, .int .u64 x.f12] := by
  obtain ⟨_, _, rfl, rfl, ⟨_, _, rfl, rfl, ⟨_, _, rfl, rfl, ⟨_, _, rfl, rfl, ⟨_, _, rfl, rfl, ⟨_, _, rfl, rfl, ⟨_, _, rfl, rfl, ⟨_, _, rfl, rfl, ⟨_, _, rfl, rfl, ⟨_, _, rfl, rfl, ⟨_, _, rfl, rfl, ⟨_, _, rfl, rfl, rfl⟩⟩⟩⟩⟩⟩⟩⟩⟩⟩⟩⟩ := h
  exact rfl
theorem k42_openM {w : World} {base : Nat} {ok : Nat → Prop} {x : S42} {cs : List Value} (h : k42.M w base ok x cs) : cs = [.int .i64 x.f0, .int .i64 x.f1, .int .i64 x.f2, .int .i64 x.f3, .int .i64 x.f4, .int .i64 x.f5, .int .u32 x.f6, .int .u32 x.f7, .int .u32 x.f8, .int .u64 x.f9, .int .u64 x.f10, .int .u64 x.f11, .int .u64 x.f12] := by
  obtain ⟨_, _, rfl, rfl, ⟨_, _, rfl, rfl, ⟨_, _, rfl, rfl, ⟨_, _, rfl, rfl, ⟨_, _, rfl, rfl, ⟨_, _, rfl, rfl, ⟨_, _, rfl, rfl, ⟨_, _, rfl, rfl, ⟨_, _, rfl, rfl, ⟨_, _, rfl, rfl, ⟨_, _, rfl, rfl, ⟨_, _, rfl, rfl, rfl⟩⟩⟩⟩⟩⟩⟩⟩⟩⟩⟩⟩ := h
  exact rfl
theorem k42_mk (w : World) (x : S42)  : k42.K w x [.int .i64 x.f0, .int .i64 x.f1, .int .i64 x.f2, .int .i64 x.f3, .int .i64 x.f4, .int .i64 x.f5, .int .u32 x.f6, .int .u32 x.f7, .int .u32 x.f8, .int .u64 x.f9, .int .u64 x.f10, .int .u64 x.f11, .int .u64 x.f12] := ⟨[.int .i64 x.f0], [.int .i64 x.f1, .int .i64 x.f2, .int .i64 x.f3, .int .i64 x.f4, .int .i64 x.f5, .int .u32 x.f6, .int .u32 x.f7, .int .u32 x.f8, .int .u64 x.f9, .int .u64 x.f10, .int .u64 x.f11, .int .u64 x.f12], rfl, rfl, ⟨[.int .i64 x.f1], [.int .i64 x.f2, .int .i64 x.f3, .int .i64 x.f4, .int .i64 x.f5, .int .u32 x.f6, .int .u32 x.f7, .int .u32 x.f8, .int .u64 x.f9, .int .u64 x.f10, .int .u64 x.f11, .int .u64 x.f12], rfl, rfl, ⟨[.int .i64 x.f2], [.int .i64 x.f3, .int .i64 x.f4, .int .i64 x.f5, .int .u32 x.f6, .int .u32 x.f7, .int .u32 x.f8, .int .u64 x.f9, .int .u64 x.f10, .int .u64 x.f11, .int .u64 x.f12], rfl, rfl, ⟨[.int .i64 x.f3], [.int .i64 x.f4, .int .i64 x.f5, .int .u32 x.f6, .int .u32 x.f7, .int .u32 x.f8, .int .u64 x.f9, .int .u64 x.f10, .int .u64 x.f11, .int .u64 x.f12], rfl, rfl, ⟨[.int .i64 x.f4], [.int .i64 x.f5, .int .u32 x.f6, .int .u32 x.f7, .int .u32 x.f8, .int .u64 x.f9, .int .u64 x.f10, .int .u64 x.f11, .int .u64 x.f12], rfl, rfl, ⟨[.int .i64 x.f5], [.int .u32 x.f6, .int .u32 x.f7, .int .u32 x.f8, .int .u64 x.f9, .int .u64 x.f10, .int .u64 x.f11, .int .u64 x.f12], rfl, rfl, ⟨[.int .u32 x.f6], [.int .u32 x.f7, .int .u32 x.f8, .int .u64 x.f9, .int .u64 x.f10, .int .u64 x.f11, .int .u64 x.f12], rfl, rfl, ⟨[.int .u32 x.f7], [.int .u32 x.f8, .int .u64 x.f9, .int .u64 x.f10, .int .u64 x.f11, .int .u64 x.f12], rfl, rfl, ⟨[.int .u32 x.f8], [.int .u64 x.f9, .int .u64 x.f10, .int .u64 x.f11, .int .u64 x.f12], rfl, rfl, ⟨[.int .u64 x.f9], [.int .u64 x.f10, .int .u64 x.f11, .int .u64 x.f12], rfl, rfl, ⟨[.int .u64 x.f10], [.int .u64 x.f11, .int .u64 x.f12], rfl, rfl, ⟨[.int .u64 x.f11], [.int .u64 x.f12], rfl, rfl, rfl⟩⟩⟩⟩⟩⟩⟩⟩⟩⟩⟩⟩
theorem k42_mkM (w : World) (base : Nat) (ok : Nat → Prop) (x : S42)  : k42.M w base ok x [.int .i64 x.f0, .int .i64 x.f1, .int .i64 x.f2, .int .i64 x.f3, .int .i64 x.f4, .int .i64 x.f5, .int .u32 x.f6, .int .u32 x.f7, .int .u32 x.f8, .int .u64 x.f9, .int .u64 x.f10, .int .u64 x.f11, .int .u64 x.f12] := ⟨[.int .i64 x.f0], [.int .i64 x.f1, .int .i64 x.f2, .int .i64 x.f3, .int .i64 x.f4, .int .i64 x.f5, .int .u32 x.f6, .int .u32 x.f7, .int .u32 x.f8, .int .u64 x.f9, .int .u64 x.f10, .int .u64 x.f11, .int .u64 x.f12], rfl, rfl, ⟨[.int .i64 x.f1], [.int .i64 x.f2, .int .i64 x.f3, .int .i64 x.f4, .int .i64 x.f5, .int .u32 x.f6, .int .u32 x.f7, .int .u32 x.f8, .int .u64 x.f9, .int .u64 x.f10, .int .u64 x.f11, .int .u64 x.f12], rfl, rfl, ⟨[.int .i64 x.f2], [.int .i64 x.f3, .int .i64 x.f4, .int .i64 x.f5, .int .u32 x.f6, .int .u32 x.f7, .int .u32 x.f8, .int .u64 x.f9, .int .u64 x.f10, .int .u64 x.f11, .int .u64 x.f12], rfl, rfl, ⟨[.int .i64 x.f3], [.int .i64 x.f4, .int .i64 x.f5, .int .u32 x.f6, .int .u32 x.f7, .int .u32 x.f8, .int .u64 x.f9, .int .u64 x.f10, .int .u64 x.f11, .int .u64 x.f12], rfl, rfl, ⟨[.int .i64 x.f4], [.int .i64 x.f5, .int .u32 x.f6, .int .u32 x.f7, .int .u32 x.f8, .int .u64 x.f9, .int .u64 x.f10, .int .u64 x.f11, .int .u64 x.f12], rfl, rfl, ⟨[.int .i64 x.f5], [.int .u32 x.f6, .int .u32 x.f7, .int .u32 x.f8, .int .u64 x.f9, .int .u64 x.f10, .int .u64 x.f11, .int .u64 x.f12], rfl, rfl, ⟨[.int .u32 x.f6], [.int .u32 x.f7, .int .u32 x.f8, .int .u64 x.f9, .int .u64 x.f10, .int .u64 x.f11, .int .u64 x.f12], rfl, rfl, ⟨[.int .u32 x.f7], [.int .u32 x.f8, .int .u64 x.f9, .int .u64 x.f10, .int .u64 x.f11, .int .u64 x.f12], rfl, rfl, ⟨[.int .u32 x.f8], [.int .u64 x.f9, .int .u64 x.f10, .int .u64 x.f11, .int .u64 x.f12], rfl, rfl, ⟨[.int .u64 x.f9], [.int .u64 x.f10, .int .u64 x.f11, .int .u64 x.f12], rfl, rfl, ⟨[.int .u64 x.f10], [.int .u64 x.f11, .int .u64 x.f12], rfl, rfl, ⟨[.int .u64 x.f11], [.int .u64 x.f12], rfl, rfl, rfl⟩⟩⟩⟩⟩⟩⟩⟩⟩⟩⟩⟩
def rd_T42 (xs : List S42) (i : Int) : S42 := xs.getD i.toNat z42
theorem at_T42 {w : World} {A : Option Addr} {n : Nat} {xs : List S42} (h : Kd.C k42 w A n xs) (i : Int) (h0 : 0 ≤ i) (h1 : i < n) : ∃ ad , A = some ad ∧ w.cell? (ad.add (i.toNat * 13)) = some (.int .i64 (rd_T42 xs i).f0) ∧ w.cell? ⟨(ad.add (i.toNat * 13)).block, (ad.add (i.toNat * 13)).off + 1, none⟩ = some (.int .i64 (rd_T42 xs i).f1) ∧ w.cell? ⟨(ad.add (i.toNat * 13)).block, (ad.add (i.toNat * 13)).off + 2, none⟩ = some (.int .i64 (rd_T42 xs i).f2) ∧ w.cell? ⟨(ad.add (i.toNat * 13)).block, (ad.add (i.toNat * 13)).off + 3, none⟩ = some (.int .i64 (rd_T42 xs i).f3) ∧ w.cell? ⟨(ad.add (i.toNat * 13)).block, (ad.add (i.toNat * 13)).off + 4, none⟩ = some (.int .i64 (rd_T42 xs i).f4) ∧ w.cell? ⟨(ad.add (i.toNat * 13)).block, (ad.add (i.toNat * 13)).off + 5, none⟩ = some (.int .i64 (rd_T42 xs i).f5) ∧ w.cell? ⟨(ad.add (i.toNat * 13)).block, (ad.add (i.toNat * 13)).off + 6, none⟩ = some (.int .u32 (rd_T42 xs i).f6) ∧ w.cell? ⟨(ad.add (i.toNat * 13)).block, (ad.add (i.toNat * 13)).off + 7, none⟩ = some (.int .u32 (rd_T42 xs i).f7) ∧ w.cell? ⟨(ad.add (i.toNat * 13)).block, (ad.add (i.toNat * 13)).off + 8, none⟩ = some (.int .u32 (rd_T42 xs i).f8) ∧ w.cell? ⟨(ad.add (i.toNat * 13)).block, (ad.add (i.toNat * 13)).off + 9, none⟩ = some (.int .u64 (rd_T42 xs i).f9) ∧ w.cell? ⟨(ad.add (i.toNat * 13)).block, (ad.add (i.toNat * 13)).off + 10, none⟩ = some (.int .u64 (rd_T42 xs i).f10) ∧ w.cell? ⟨(ad.add (i.toNat * 13)).block, (ad.add (i.toNat * 13)).off + 11, none⟩ = some (.int .u64 (rd_T42 xs i).f11) ∧ w.cell? ⟨(ad.add (i.toNat * 13)).block, (ad.add (i.toNat * 13)).off + 12, none⟩ = some (.int .u64 (rd_T42 xs i).f12) := by
  obtain ⟨ad, c, e, _, hK, hc0⟩ := Kd.C_get h z42 i h0 h1
  have hc : ∀ j u, c[j]? = some u → w.cell? (ad.add (i.toNat * 13 + j)) = some u := hc0
  obtain rfl := k42_open hK
  exact ⟨ad, e, hc 0 _ rfl, by rw [← add_field _ _ 1 (by omega)]; exact hc 1 _ rfl, by rw [← add_field _ _ 2 (by omega)]; exact hc 2 _ rfl, by rw [← add_field _ _ 3 (by omega)]; exact hc 3 _ rfl, by rw [← add_field _ _ 4 (by omega)]; exact hc 4 _ rfl, by rw [← add_field _ _ 5 (by omega)]; exact hc 5 _ rfl, by rw [← add_field _ _ 6 (by omega)]; exact hc 6 _ rfl, by rw [← add_field _ _ 7 (by omega)]; exact hc 7 _ rfl, by rw [← add_field _ _ 8 (by omega)]; exact hc 8 _ rfl, by rw [← add_field _ _ 9 (by omega)]; exact hc 9 _ rfl, by rw [← add_field _ _ 10 (by omega)]; exact hc 10 _ rfl, by rw [← add_field _ _ 11 (by omega)]; exact hc 11 _ rfl, by rw [← add_field _ _ 12 (by omega)]; exact hc 12 _ rfl⟩

end Go.Proofs.Ytilbkdlbbnkgdaa.MHeader
