/- Any bytes behind a header are walked to the document's fields and MAC, or to its error, and what was walked is joined to the same bytes; no condition but the length of its argument. -/
import Derived.Test.YtlbelgdcicholaaBExt
import Derived.Test.YtlbelgdcicholaaMExtx8
namespace Go.Proofs.Ytlbelgdcicholaa.Pure
open Go.RowKit Go.Proofs.Ytlbelgdcicholaa.MExt Go.Proofs.YtlbelgdcicholaaW.PrintWords Go.Proofs.YtlbelgdcicholaaW.PrintLast Go.Proofs.YtlbelgdcicholaaW.PrintMore
set_option linter.unusedVariables false
set_option linter.unusedSimpArgs false

theorem ExtendWalks : analemmalaw06_ExtendWalks.Pure := by
  intro s hs
  by_cases q : (s.size : Int) > 4096
  · refine ⟨29 + 1, ?_⟩
    unfold analemmalaw06_ExtendWalks.f
    rw [if_pos q, analemmalaw06_ExtendWalks.j0, if_pos rfl, ext_shown 29 (by omega), Option.bind_some]
  · obtain ⟨k, hk⟩ : ∃ k, k = s.size + 10000 := ⟨_, rfl⟩
    refine ⟨k + 2, ?_⟩
    unfold analemmalaw06_ExtendWalks.f
    obtain ⟨⟨x, y, e⟩, hg⟩ : ∃ r, ext.go (s.size + 1) s [] = r := ⟨_, rfl⟩
    have hx := spec_len _ _ (Nat.lt_succ_self _) x y e hg
    have hsp := go_spec _ _ _ (Nat.lt_succ_self _) x y e hg
    rw [if_neg q, ext_shown _ (by omega), Option.bind_some, analemmalaw06_ExtendWalks.j0, if_neg (by decide), walk_eq s (by omega), hg, Option.bind_some, rwalk_eq s (by omega) (k + 1) (by omega), hg, Option.bind_some]
    obtain ⟨b, hb, hiff⟩ := sames_eq x x (by omega) (k + 1) (by omega)
    have hbt : b = true := hiff.2 rfl
    subst hbt
    show (if e = e then (if y.toList = y.toList then ((analemmalaw06_theirs.f (k + 1) x).bind fun t170 => ((analemmaref06_Same.f (k + 1) t170 (x.map to80)).bind fun t173 => (analemmalaw06_ExtendWalks.j1 (k + 1) s x y e (!t173)))) else _) else _) = _
    rw [if_pos rfl, if_pos rfl, theirs_eq x (by omega) _ (by omega), Option.bind_some, hb, Option.bind_some, analemmalaw06_ExtendWalks.j1, if_neg (by decide)]
    rcases hsp with ⟨he, l, h1, h2, h3, h4⟩ | ⟨he, h1, h2⟩
    · subst he
      rw [List.nil_append] at h1
      subst h1
      have hz : (jn.all x ++ y).size ≤ 400000 := by rw [h2]; omega
      rw [if_pos rfl, join_eq x y hz, if_neg (by rw [any_false x h3]; decide)]
      unfold jn.out
      rw [h2, if_pos hg, Option.bind_some, if_pos rfl, (toList_eq s s).2 rfl]
    · subst he
      rw [if_neg (by decide), h1, h2, if_pos (by rfl)]
      decide +kernel


end Go.Proofs.Ytlbelgdcicholaa.Pure
