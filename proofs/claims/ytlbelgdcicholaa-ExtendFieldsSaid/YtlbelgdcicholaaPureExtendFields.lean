/- A field that is put ahead of others is walked first, and bytes that are cut off are no fields, or no more; no condition but the kinds of its arguments. -/
import Derived.Test.YtlbelgdcicholaaBExt
import Derived.Test.YtlbelgdcicholaaMExtx10
namespace Go.Proofs.Ytlbelgdcicholaa.Pure
open Go.RowKit Go.Proofs.Ytlbelgdcicholaa.MExt Go.Proofs.YtlbelgdcicholaaW.PrintWords Go.Proofs.YtlbelgdcicholaaW.PrintLast Go.Proofs.YtlbelgdcicholaaW.PrintMore
set_option linter.unusedVariables false
set_option linter.unusedSimpArgs false

/-- Fuel that suffices. -/
theorem go_fuel : ∀ (n m : Nat) (s : ByteArray) (acc : List S36), s.size < n → s.size < m → ext.go n s acc = ext.go m s acc
  | 0, _, s, _, h, _ => absurd h (by omega)
  | _ + 1, 0, s, _, _, h => absurd h (by omega)
  | n + 1, m + 1, s, acc, hn, hm => by
    by_cases q : 24 < s.size
    · by_cases hok : ext.ok s
      · have hz := rst_size s hok
        have h1 := hok.1
        rw [go_step n s acc q hok, go_step m s acc q hok]
        exact go_fuel n m _ _ (by omega) (by omega)
      · rw [ext.go, ext.go, if_pos q, if_neg hok, if_pos q, if_neg hok]
    · rw [ext.go, ext.go, if_neg q, if_neg q]
theorem go_acc : ∀ (n : Nat) (s : ByteArray) (acc l : List S36) (y : ByteArray), s.size < n → ext.go n s [] = (l, y, 0) → ext.go n s acc = (acc ++ l, y, 0) := by
  suffices H : ∀ (n : Nat) (s : ByteArray) (a acc l : List S36) (y : ByteArray), s.size < n → ext.go n s a = (a ++ l, y, 0) → ext.go n s acc = (acc ++ l, y, 0) from fun n s acc l y h h2 => H n s [] acc l y h h2
  intro n
  induction n with
  | zero => intro s a acc l y h; exact absurd h (by omega)
  | succ n ih =>
    intro s a acc l y h hg
    by_cases q : 24 < s.size
    · by_cases hok : ext.ok s
      · have hz := rst_size s hok
        have h1 := hok.1
        rw [go_step n s _ q hok] at hg ⊢
        rcases go_spec n _ _ (by omega) _ _ _ hg with ⟨_, l', h2, _⟩ | ⟨h2, _⟩
        · have hl : l = ext.fst s :: l' := by
            rw [List.append_assoc] at h2
            exact List.append_cancel_left h2
          rw [hl] at hg ⊢
          have := ih (ext.rst s) (a ++ [ext.fst s]) (acc ++ [ext.fst s]) l' y (by omega) (by rw [hg]; simp)
          rw [this]
          simp
        · cases h2
      · rw [ext.go, if_pos q, if_neg hok] at hg
        cases (Prod.mk.inj (Prod.mk.inj hg).2).2
    · rw [ext.go, if_neg q] at hg ⊢
      cases hm : macv s.size with
      | true =>
        rw [hm, if_pos rfl] at hg
        rw [if_pos rfl]
        have h2 := Prod.mk.inj hg
        have h3 : [] = l := List.append_cancel_left ((List.append_nil a).trans h2.1)
        rw [← h3, List.append_nil, (Prod.mk.inj h2.2).1]
      | false =>
        rw [hm, if_neg (by decide)] at hg
        cases (Prod.mk.inj (Prod.mk.inj hg).2).2
/-- Bytes that are cut off are no fields, or no more. -/
theorem go_cut : ∀ (n m : Nat) (t : ByteArray) (c : Nat) (acc acc' k x : List S36) (y y' : ByteArray), t.size < n → (t.extract 0 c).size < m → c ≤ t.size → acc.length = acc'.length →
    ext.go n t acc = (k, y, 0) → ext.go m (t.extract 0 c) acc' = (x, y', 0) → x.length ≤ k.length := by
  intro n
  induction n with
  | zero => intro m t c acc acc' k x y y' h; exact absurd h (by omega)
  | succ n ih =>
    intro m t c acc acc' k x y y' hn hm hc hl hk hx
    obtain ⟨m, rfl⟩ : ∃ q, m = q + 1 := ⟨m - 1, by omega⟩
    have hp : (t.extract 0 c).size = c := by rw [ByteArray.size_extract]; omega
    have hka : acc.length ≤ k.length := by
      rcases go_spec _ _ _ hn _ _ _ hk with ⟨_, l', h2, _⟩ | ⟨h2, _⟩
      · rw [h2, List.length_append]; omega
      · cases h2
    by_cases q : 24 < c
    · by_cases hok : ext.ok (t.extract 0 c)
      · have e : ∀ i : Nat, i + 2 ≤ 24 → ext.num (t.extract 0 c) (i : Int) = ext.num t (i : Int) := by
          intro i hi
          have a := bt_ext t 0 c (i : Int) (by omega) (by omega) hc
          have b := bt_ext t 0 c ((i : Int) + 1) (by omega) (by omega) hc
          unfold ext.num
          rw [a, b, show ((0 : Nat) : Int) + (i : Int) = (i : Int) by omega, show ((0 : Nat) : Int) + ((i : Int) + 1) = (i : Int) + 1 by omega]
        have e2 : ext.num (t.extract 0 c) 2 = ext.num t 2 := e 2 (by omega)
        have h1 := hok.1
        have h2 := hok.2.1
        have h3 := hok.2.2
        rw [e2] at h1 h2 h3
        rw [hp] at h3
        have hokt : ext.ok t := ⟨h1, h2, by omega⟩
        have hz := rst_size t hokt
        have hz' := rst_size _ hok
        rw [e2, hp] at hz'
        have er : ext.rst (t.extract 0 c) = (ext.rst t).extract 0 (c - (ext.num t 2).toNat) := by
          unfold ext.rst
          rw [e2, hp]
          apply bytesOf_inj
          simp only [bytesOf_extract, List.drop_zero]
          rw [List.take_take, Nat.min_self, List.take_of_length_le (by rw [bytesOf_length]; exact Nat.le_refl _ : (bytesOf t).length ≤ t.size), List.drop_take]
        rw [go_step n t acc (by omega) hokt] at hk
        rw [go_step m _ acc' (by omega) hok, er] at hx
        exact ih m (ext.rst t) (c - (ext.num t 2).toNat) _ _ k x y y' (by omega) (by rw [← er]; omega) (by omega) (by rw [List.length_append, List.length_append, hl]; rfl) hk hx
      · rw [ext.go, if_pos (by omega), if_neg hok] at hx
        cases (Prod.mk.inj (Prod.mk.inj hx).2).2
    · rw [ext.go, if_neg (by omega)] at hx
      split at hx
      · rw [← (Prod.mk.inj hx).1, ← hl]
        exact hka
      · cases (Prod.mk.inj (Prod.mk.inj hx).2).2
theorem w64 {x : Int} (h0 : 0 ≤ x) (h1 : x ≤ 1000000000) : wrap64 x = x := by unfold wrap64; omega
def exs (n : Nat) : ByteArray := strOfNums (List.replicate n 120)
theorem exs_size (n : Nat) : (exs n).size = n := by
  unfold exs
  rw [strOfNums_size, List.length_replicate]
theorem exs_succ (n : Nat) : exs n ++ (⟨#[120]⟩ : ByteArray) = exs (n + 1) := by
  unfold exs
  rw [List.replicate_succ', ← nums_app]
  rfl
theorem efields_l0 (l : List S36) (a1 a2 a3 : Int) (s : ByteArray) (e : Int) (n : Nat) (hn : n ≤ 100) (hw2 : wrap64 (24 + (wrap64 (4 * (Int.tmod (wrap64 a2) 20)))) = (n : Int)) : ∀ (d k j : Nat), j + d = n → d + 1 ≤ k →
    ∃ k', k' + d + 1 = k ∧ analemmalaw06_ExtendFields.l0 k l a1 a2 a3 s e (exs j) (j : Int) = analemmalaw06_ExtendFields.l0 (k' + 1) l a1 a2 a3 s e (exs n) (n : Int)
  | 0, k, j, hj, hk => ⟨k - 1, by omega, by rw [show j = n by omega, show k - 1 + 1 = k by omega]⟩
  | d + 1, k, j, hj, hk => by
    obtain ⟨k, rfl⟩ : ∃ m, k = m + 1 := ⟨k - 1, by omega⟩
    have hw : wrap64 ((j : Int) + 1) = ((j + 1 : Nat) : Int) := by unfold wrap64; omega
    obtain ⟨k', h1, h2⟩ := efields_l0 l a1 a2 a3 s e n hn hw2 d k (j + 1) (by omega) (by omega)
    refine ⟨k', by omega, ?_⟩
    rw [← h2, analemmalaw06_ExtendFields.l0, hw2, if_pos (by omega), if_pos (by rw [exs_size]; omega), exs_succ, hw]
theorem efields_end (k : Nat) (l : List S36) (a1 a2 a3 : Int) (s : ByteArray) (e : Int) (n : Nat) (h1 : 0 ≤ a1 ∧ a1 ≤ 65535) (h3 : 0 ≤ a3 ∧ a3 ≤ 65535) (hn : 24 ≤ n) (hn2 : n ≤ 100) (hn4 : n % 4 = 0) (hw2 : wrap64 (24 + (wrap64 (4 * (Int.tmod (wrap64 a2) 20)))) = (n : Int))
    (hz : (jn.all l).size ≤ 300000) (hr : jn.res l ⟨#[]⟩ = some (s, e)) : analemmalaw06_ExtendFields.l0 (k + 2) l a1 a2 a3 s e (exs n) (n : Int) = some true := by
  have hl := len_all l
  have hzn := exs_size n
  rw [analemmalaw06_ExtendFields.l0, hw2, if_neg (by clear hw2; omega), w64 (x := a1) (by clear hw2; omega) (by clear hw2; omega), Option.bind_some]
  clear hw2
  obtain ⟨f, hf⟩ : ∃ f : S36, f = ⟨a1, exs n⟩ := ⟨_, rfl⟩
  have f0 : f.f0 = a1 := by rw [hf]
  have f1 : f.f1 = exs n := by rw [hf]
  have hall : jn.all (f :: l) = jn.piece f ++ jn.all l := rfl
  have hps : (jn.piece f).size = 4 + n := by rw [piece_size, f1, hzn]
  have hz0 : (jn.all l ++ (⟨#[]⟩ : ByteArray)).size ≤ 400000 := by rw [app_empty]; omega
  have hzf : (jn.all (f :: l) ++ (⟨#[]⟩ : ByteArray)).size ≤ 400000 := by rw [app_empty, hall, ByteArray.size_append]; omega
  show (if ([(⟨a1, exs n⟩ : S36)]).length + l.length < 5864062014805 then _ else _) = _
  rw [if_pos (by simp; omega), ← hf]
  show ((extend_Join.f (f :: l) (⟨#[]⟩ : ByteArray)).bind _) = _
  rw [join_res (f :: l) _ hzf]
  rcases join_cases l ⟨#[]⟩ hz0 with ⟨g1, g2, g3⟩ | g1
  · rw [hr] at g1
    obtain ⟨rfl, rfl⟩ := Prod.mk.inj (Option.some.inj g1)
    rw [app_empty] at g3 hr ⊢
    obtain ⟨s, hs⟩ : ∃ s, jn.all l = s := ⟨_, rfl⟩
    rw [hs] at g3 hz
    obtain ⟨t, ht⟩ : ∃ t, jn.piece f ++ s = t := ⟨_, rfl⟩
    have htz : t.size = 4 + n + s.size := by rw [← ht, ByteArray.size_append, hps]
    have hbt : bytesOf t = jn.head f ++ bytesOf (exs n) ++ bytesOf s := by rw [← ht, bytesOf_app, bytesOf_piece, f1]
    have hhd : jn.head f = [a1 / 256 % 256, a1 % 256, ((n : Int) + 4) / 256 % 256, ((n : Int) + 4) % 256] := by
      unfold jn.head
      rw [f0, f1, hzn]
    have b4 := take4 t (by omega)
    rw [hbt, hhd] at b4
    simp only [List.cons_append, List.take_succ_cons, List.take_zero, List.cons.injEq, and_true] at b4
    obtain ⟨b0, b1, b2, b3⟩ := b4
    have n0 : ext.num t 0 = a1 := by
      show bt t 0 * 256 + bt t 1 = a1
      omega
    have n2 : ext.num t 2 = (n : Int) + 4 := by
      show bt t 2 * 256 + bt t 3 = _
      omega
    have hok : ext.ok t := ⟨by omega, by omega, by omega⟩
    have hx : (bytesOf (exs n)).length = n := by rw [bytesOf_length, hzn]
    have hex : t.extract 4 (4 + n) = exs n := by
      apply bytesOf_inj
      rw [bytesOf_extract, hbt, hhd]
      simp only [List.cons_append, List.nil_append, show 4 + n = n + 1 + 1 + 1 + 1 by omega, List.take_succ_cons, List.drop_succ_cons, List.drop_zero]
      rw [List.take_append_of_le_length (by omega), List.take_of_length_le (by omega)]
    have hfst : ext.fst t = f := by
      unfold ext.fst
      rw [n0, n2, show ((n : Int) + 4).toNat = 4 + n by omega, hex, hf]
    have hrst : ext.rst t = s := by
      have h := fst_rst t hok
      rw [hfst, ← ht] at h
      have h2 := congrArg bytesOf h
      rw [bytesOf_app, bytesOf_app] at h2
      rw [ht] at h2
      exact bytesOf_inj _ _ (List.append_cancel_left h2)
    have hgo : ext.go (t.size + 1) t [] = (f :: l, ⟨#[]⟩, 0) := by
      rw [go_step _ t [] (by omega) hok, hfst, hrst, go_acc t.size s ([] ++ [f]) l ⟨#[]⟩ (by omega) (by rw [go_fuel t.size (s.size + 1) s [] (by omega) (by omega)]; exact g3)]
      rfl
    have hgood : (f :: l).any jn.bad = false := by
      rw [List.any_cons, g2, Bool.or_false]
      unfold jn.bad
      rw [f0, f1, hzn]
      simp only [Bool.or_eq_false_iff, decide_eq_false_iff_not]
      exact ⟨⟨⟨⟨by omega, by omega⟩, by omega⟩, by omega⟩, by omega⟩
    have hjr : jn.res (f :: l) ⟨#[]⟩ = some (t, 0) := by
      have h := (join_res (f :: l) ⟨#[]⟩ hzf).symm.trans (join_eq (f :: l) ⟨#[]⟩ hzf)
      rw [h, if_neg (by rw [hgood]; decide)]
      unfold jn.out
      rw [app_empty, hall, hs, ht, if_pos hgo]
    rw [hjr, Option.bind_some]
    dsimp only
    rw [hs] at hl
    rw [if_pos rfl, if_pos rfl, hs, hzn, w64 (x := (s.size : Int) + (n : Int)) (by omega) (by omega), w64 (x := (s.size : Int) + (n : Int) + 4) (by omega) (by omega), w64 (x := 4 + (n : Int)) (by omega) (by omega), if_pos (by omega), if_pos (by omega), if_pos (by omega)]
    show analemmalaw06_ExtendFields.j2 (k + 1) l a3 t ((t.extract 4 ((4 + (n : Int)) : Int).toNat).toList != (exs n).toList) a1 (exs n) = _
    rw [show ((4 + (n : Int)) : Int).toNat = 4 + n by omega, hex, show ((exs n).toList != (exs n).toList) = false from bne_eq_false_iff_eq.2 rfl, analemmalaw06_ExtendFields.j2, if_neg (by decide), walk_eq t (by omega), hgo, Option.bind_some, if_neg (by omega), w64 (x := a3) (by omega) (by omega)]
    obtain ⟨c, hc⟩ : ∃ c : Nat, Int.tmod a3 (t.size : Int) = (c : Int) := by
      rw [Int.tmod_eq_emod_of_nonneg h3.1]
      exact ⟨(a3 % (t.size : Int)).toNat, by have := Int.emod_nonneg a3 (show (t.size : Int) ≠ 0 by omega); omega⟩
    have hct : c < t.size := by
      rw [Int.tmod_eq_emod_of_nonneg h3.1] at hc
      have := Int.emod_lt_of_pos a3 (show (0 : Int) < (t.size : Int) by omega)
      omega
    have hcz : (t.extract 0 c).size = c := by rw [ByteArray.size_extract]; omega
    obtain ⟨⟨x, y, e⟩, hg⟩ : ∃ r, ext.go ((t.extract 0 c).size + 1) (t.extract 0 c) [] = r := ⟨_, rfl⟩
    rw [hc, if_pos (by omega), if_pos (by omega), Int.toNat_natCast, walk_eq _ (by omega), hg, Option.bind_some, if_pos rfl]
    show (if (⟨#[]⟩ : ByteArray).toList = ([] : List UInt8) then (if ((f :: l).length : Int) = (wrap64 ((l.length : Int) + 1)) then (if 0 < ((f :: l).length : Int) then (if (((rd_T36 (f :: l) 0).f0) == a1 && ((((rd_T36 (f :: l) 0).f1).toList) == (exs n).toList)) = true then (if e = 0 then (some (decide ((x.length : Int) ≤ ((f :: l).length : Int)))) else (some true)) else (some false)) else (none)) else (some false)) else (some false)) = _
    rw [if_pos (by decide +kernel), w64 (x := (l.length : Int) + 1) (by omega) (by omega), if_pos (by simp), if_pos (by simp), show rd_T36 (f :: l) 0 = f from rfl, f0, f1, if_pos (by simp)]
    by_cases he : e = 0
    · subst he
      have := go_cut _ _ t c [] [] (f :: l) x ⟨#[]⟩ y (Nat.lt_succ_self _) (Nat.lt_succ_self _) (by omega) rfl hgo hg
      rw [if_pos rfl]
      exact congrArg some (decide_eq_true (by omega))
    · rw [if_neg he]
  · rw [hr] at g1
    obtain ⟨rfl, rfl⟩ := Prod.mk.inj (Option.some.inj g1)
    obtain ⟨⟨t, g⟩, htg⟩ : ∃ r, jn.res (f :: l) ⟨#[]⟩ = some r := by
      rcases join_cases (f :: l) ⟨#[]⟩ hzf with ⟨h, _⟩ | h
      · exact ⟨_, h⟩
      · exact ⟨_, h⟩
    rw [htg, Option.bind_some, if_neg (by decide)]
    decide +kernel
theorem fields_true (l : List S36) (a1 a2 a3 : Int) (h1 : 0 ≤ a1 ∧ a1 ≤ 65535) (h2 : 0 ≤ a2 ∧ a2 ≤ 255) (h3 : 0 ≤ a3 ∧ a3 ≤ 65535) : ∃ k, analemmalaw06_ExtendFields.f k l a1 a2 a3 = some true := by
  obtain ⟨k, hk⟩ : ∃ k, k = 20000 := ⟨_, rfl⟩
  refine ⟨k + 1, ?_⟩
  obtain ⟨q, hq, hh⟩ := heavy_eq l (k + 1) (by omega)
  unfold analemmalaw06_ExtendFields.f
  rw [hq, Option.bind_some]
  cases q with
  | true => rw [if_pos rfl, analemmalaw06_ExtendFields.j0, if_pos rfl, ext_shown _ (by omega), Option.bind_some]
  | false =>
    have hw := hh rfl
    have ha := all_wts l (by omega)
    have hz0 : (jn.all l ++ (⟨#[]⟩ : ByteArray)).size ≤ 400000 := by rw [app_empty]; omega
    obtain ⟨⟨s, e⟩, hr⟩ : ∃ r, jn.res l ⟨#[]⟩ = some r := by
      rcases join_cases l ⟨#[]⟩ hz0 with ⟨h, _⟩ | h
      · exact ⟨_, h⟩
      · exact ⟨_, h⟩
    obtain ⟨n, hn⟩ : ∃ n : Nat, n = 24 + 4 * (a2 % 20).toNat := ⟨_, rfl⟩
    have hw2 : wrap64 (24 + (wrap64 (4 * (Int.tmod (wrap64 a2) 20)))) = (n : Int) := by
      rw [show wrap64 a2 = a2 by unfold wrap64; omega, Int.tmod_eq_emod_of_nonneg h2.1, show wrap64 (4 * (a2 % 20)) = 4 * (a2 % 20) by unfold wrap64; omega]
      unfold wrap64
      omega
    obtain ⟨k', hk', he⟩ := efields_l0 l a1 a2 a3 s e n (by omega) hw2 n k 0 (by omega) (by omega)
    rw [if_neg (by decide), ext_shown _ (by omega), Option.bind_some, analemmalaw06_ExtendFields.j0, if_neg (by decide), join_res l _ hz0, hr, Option.bind_some]
    refine Eq.trans he ?_
    obtain ⟨k', rfl⟩ : ∃ m, k' = m + 1 := ⟨k' - 1, by omega⟩
    exact efields_end k' l a1 a2 a3 s e n h1 h3 (by omega) (by omega) (by omega) hw2 (by omega) hr
theorem fields_walk (A0 : Option Addr) (c0 : Nat) (l0 : List S36) (a1 a2 a3 : Int) (w : World) (hr0 : Kd.C k36 w A0 l0.length l0) (hc0 : l0.length ≤ c0) (w1 : (Lit.int .u16 a1).wf = true) (w2 : (Lit.int .u8 a2).wf = true) (w3 : (Lit.int .u16 a3).wf = true) :
    Calls Try.prog 12 #[.slice A0 l0.length c0, .int .u16 a1, .int .u8 a2, .int .u16 a3] w fun e w' => e = .returned (.bool true) ∧ Below w.heap.size w w' := by
  obtain ⟨k, hk⟩ := fields_true l0 a1 a2 a3 (bounds_u16 w1) (bounds_u8 w2) (bounds_u16 w3)
  exact analemmalaw06_ExtendFields.calls k A0 c0 l0 a1 a2 a3 true w hr0 hc0 hk (Aside0.mk rfl)


end Go.Proofs.Ytlbelgdcicholaa.Pure
