/- Any fields and MAC are joined to the document's bytes, or its error, and these are walked to the same fields and MAC; no condition but the kinds of its arguments. -/
import Derived.Test.YtlbelgdcicholaaBExt
import Derived.Test.YtlbelgdcicholaaMExtx10
namespace Go.Proofs.Ytlbelgdcicholaa.Pure
open Go.RowKit Go.Proofs.Ytlbelgdcicholaa.MExt Go.Proofs.YtlbelgdcicholaaW.PrintWords Go.Proofs.YtlbelgdcicholaaW.PrintLast Go.Proofs.YtlbelgdcicholaaW.PrintMore
set_option linter.unusedVariables false
set_option linter.unusedSimpArgs false

theorem joins_true (l : List S36) (m : ByteArray) : ∃ k, analemmalaw06_ExtendJoins.f k l m = some true := by
  obtain ⟨k, hk⟩ : ∃ k, k = 2 * l.length + (jn.all l ++ m).size + m.size + 600000 := ⟨_, rfl⟩
  refine ⟨k + 2, ?_⟩
  obtain ⟨q, hq, hh⟩ := heavy_eq l (k + 2) (by omega)
  unfold analemmalaw06_ExtendJoins.f
  rw [hq, Option.bind_some]
  cases q with
  | true => rw [if_pos rfl, analemmalaw06_ExtendJoins.j0, if_pos rfl, ext_shown _ (by omega), Option.bind_some]
  | false =>
    rw [if_neg (by decide)]
    by_cases c : (m.size : Int) > 100
    · rw [if_pos c, analemmalaw06_ExtendJoins.j0, if_pos rfl, ext_shown _ (by omega), Option.bind_some]
    · have hw := hh rfl
      have ha := all_wts l (by omega)
      have hl := wts_len l
      have hs : (jn.all l ++ m).size ≤ 400000 := by rw [ByteArray.size_append]; omega
      rw [if_neg c, ext_shown _ (by omega), Option.bind_some, analemmalaw06_ExtendJoins.j0, if_neg (by decide), join_res l m hs, theirs_eq l (by omega) _ (by omega)]
      rcases join_cases l m hs with ⟨h1, h2, h3⟩ | h1
      · rw [h1, Option.bind_some, Option.bind_some, rjoin_eq l m hs _ (by omega), h1, Option.bind_some, if_pos rfl]
        show analemmalaw06_ExtendJoins.j1 (k + 1) l m (jn.all l ++ m) 0 false = _
        rw [analemmalaw06_ExtendJoins.j1, if_neg (by decide), if_pos rfl, walk_eq _ (by omega), h3, Option.bind_some, if_pos rfl, if_pos rfl]
        show ((analemmalaw06_theirs.f k l).bind _) = _
        obtain ⟨b, hb, hiff⟩ := sames_eq l l (by omega) k (by omega)
        have hbt : b = true := hiff.2 rfl
        subst hbt
        rw [theirs_eq l (by omega) _ (by omega), Option.bind_some, Option.bind_some, hb, Option.bind_some]
      · rw [h1, Option.bind_some, Option.bind_some, rjoin_eq l m hs _ (by omega), h1, Option.bind_some, if_pos rfl]
        show analemmalaw06_ExtendJoins.j1 (k + 1) l m ⟨#[]⟩ 1 false = _
        rw [analemmalaw06_ExtendJoins.j1, if_neg (by decide), if_neg (by decide)]
        decide +kernel
theorem joins_walk (A0 : Option Addr) (c0 : Nat) (l0 : List S36) (a1 : ByteArray) (w : World) (hr0 : Kd.C k36 w A0 l0.length l0) (hc0 : l0.length ≤ c0) :
    Calls Try.prog 11 #[.slice A0 l0.length c0, .string a1] w fun e w' => e = .returned (.bool true) ∧ Below w.heap.size w w' := by
  obtain ⟨k, hk⟩ := joins_true l0 a1
  exact analemmalaw06_ExtendJoins.calls k A0 c0 l0 a1 true w hr0 hc0 hk (Aside0.mk rfl)


end Go.Proofs.Ytlbelgdcicholaa.Pure
