/- For any stratum and reference the code of a kiss and the reference's name are the document's, and a server with a stratum of its own never says no; no condition but the kinds of its arguments. -/
import Derived.Test.YtlbelgdcicholaaBExt
import Derived.Test.YtlbelgdcicholaaMExtx6
namespace Go.Proofs.Ytlbelgdcicholaa.Pure
open Go.RowKit Go.Proofs.Ytlbelgdcicholaa.MExt Go.Proofs.YtlbelgdcicholaaW.PrintWords Go.Proofs.YtlbelgdcicholaaW.PrintLast Go.Proofs.YtlbelgdcicholaaW.PrintMore
set_option linter.unusedVariables false
set_option linter.unusedSimpArgs false

def nm : List Int → List Int → List Int
  | [], acc => acc
  | b :: bs, acc => if b = 0 then acc else if b ≤ 32 ∨ b > 126 then nm bs (acc ++ [63]) else nm bs (acc ++ [b])
theorem nm_len : ∀ (bs acc : List Int), (nm bs acc).length ≤ acc.length + bs.length
  | [], acc => by simp [nm]
  | b :: bs, acc => by
    have h1 := nm_len bs (acc ++ [63])
    have h2 := nm_len bs (acc ++ [b])
    rw [List.length_append, List.length_singleton] at h1 h2
    rw [nm, List.length_cons]
    split
    · omega
    · split <;> omega
theorem ename (a : Int) : ∀ (bs : List Int) (k : Nat) (acc : List Int) (i : Int), i = 8 * (bs.length : Int) - 8 → bs.length ≤ 4 → (∀ (j : Nat) (hj : j < bs.length), (shr .u32 a (i - 8 * (j : Int))) % 256 = bs[j]) → bs.length + 1 ≤ k → acc.length ≤ 100 - bs.length →
    extend_Name.l0 k a acc i = some (strOfNums (nm bs acc))
  | [], k, acc, i, hi, _, _, hk, _ => by
    obtain ⟨k, rfl⟩ : ∃ m, k = m + 1 := ⟨k - 1, by omega⟩
    rw [extend_Name.l0, if_neg (by rw [hi]; simp)]
    rfl
  | b :: bs, k, acc, i, hi, h4, hc, hk, hl => by
    obtain ⟨k, rfl⟩ : ∃ m, k = m + 1 := ⟨k - 1, by omega⟩
    rw [List.length_cons] at hi h4 hk hl
    have h0 := hc 0 (by simp)
    rw [show i - 8 * ((0 : Nat) : Int) = i by omega, List.getElem_cons_zero] at h0
    have hw : wrap64 (i - 8) = i - 8 := by unfold wrap64; omega
    have ih := fun acc' (hl' : acc'.length ≤ 100 - bs.length) => ename a bs k acc' (i - 8) (by omega) (by omega) (fun j hj => by
      have := hc (j + 1) (by simp; omega)
      rw [List.getElem_cons_succ, show i - 8 * ((j + 1 : Nat) : Int) = i - 8 - 8 * (j : Int) by omega] at this
      exact this) (by omega) hl'
    have e1 : ∀ x : Int, (acc ++ [x]).length ≤ 100 - bs.length := fun x => by rw [List.length_append, List.length_singleton]; omega
    rw [extend_Name.l0, if_pos (by omega), if_pos (by omega), h0, nm]
    by_cases c0 : b = 0
    · rw [if_pos c0, if_pos c0]
    · rw [if_neg c0, if_neg c0]
      by_cases c1 : b ≤ 32
      · rw [if_pos c1, if_pos (by omega), hw, if_pos (Or.inl c1)]
        exact ih _ (e1 _)
      · rw [if_neg c1]
        by_cases c2 : b > 126
        · rw [if_pos c2, if_pos (by omega), hw, if_pos (Or.inr c2)]
          exact ih _ (e1 _)
        · rw [if_neg c2, if_pos (by omega), hw, if_neg (fun h => Or.elim h c1 c2)]
          exact ih _ (e1 _)
theorem bt_nums (l : List Int) (h : By l) (j : Nat) (hj : j < l.length) : bt (strOfNums l) (j : Int) = l[j] := by
  rw [← rd_bytesOf, bytesOf_nums l h]
  unfold rd
  rw [Int.toNat_natCast, List.getD_eq_getElem?_getD, List.getElem?_eq_getElem hj, Option.getD_some]
theorem nums_ext (l : List Int) (h : By l) (j : Nat) (hj : j < l.length) : (strOfNums l).extract j (j + 1) = strOfNums [l[j]] := by
  apply bytesOf_inj
  rw [bytesOf_extract, bytesOf_nums l h, bytesOf_nums _ (By.cons (h _ (List.getElem_mem hj)).1 (h _ (List.getElem_mem hj)).2 By.nil), List.take_succ_eq_append_getElem hj, List.drop_append_of_le_length (by rw [List.length_take]; omega), List.drop_of_length_le (by rw [List.length_take]; omega)]
  rfl
theorem rname (l : List Int) (hb : By l) (h4 : l.length = 4) : ∀ (d k j : Nat) (acc : List Int), j + d = 4 → 2 * d + 2 ≤ k → acc.length ≤ j →
    analemmaref06_Name.l0 k (strOfNums l) (strOfNums acc) (j : Int) = some (strOfNums (nm (l.drop j) acc))
  | 0, k, j, acc, hj, hk, hl => by
    obtain ⟨k, rfl⟩ : ∃ m, k = m + 2 := ⟨k - 2, by omega⟩
    rw [analemmaref06_Name.l0, if_neg (by omega), analemmaref06_Name.j1, if_neg (by decide), List.drop_of_length_le (by omega)]
    rfl
  | d + 1, k, j, acc, hj, hk, hl => by
    obtain ⟨k, rfl⟩ : ∃ m, k = m + 2 := ⟨k - 2, by omega⟩
    have hz : (strOfNums l).size = 4 := by rw [strOfNums_size, h4]
    have hbt := bt_nums l hb j (by omega)
    have hw : wrap64 ((j : Int) + 1) = ((j + 1 : Nat) : Int) := by unfold wrap64; omega
    have hsa : (strOfNums acc).size = acc.length := strOfNums_size _
    have ih := fun acc' (hl' : acc'.length ≤ j + 1) => rname l hb h4 d k (j + 1) acc' (by omega) (by omega) hl'
    have e1 : ∀ x : Int, (acc ++ [x]).length ≤ j + 1 := fun x => by rw [List.length_append, List.length_singleton]; omega
    rw [analemmaref06_Name.l0, if_pos (by omega), if_pos (by omega), if_pos (by omega), hbt, List.drop_eq_getElem_cons (by omega), nm, analemmaref06_Name.j1]
    by_cases c0 : l[j] = 0
    · rw [if_pos c0, if_neg (by rw [c0]; decide)]
    · rw [if_neg c0, if_pos (bne_iff_ne.2 c0), if_pos (by omega), if_pos (by omega), hbt]
      by_cases c1 : l[j] ≤ 32
      · rw [if_pos (show l[j] < 33 by omega), if_pos (by omega), hw, show (⟨#[63]⟩ : ByteArray) = strOfNums [63] from rfl, nums_app, if_pos (Or.inl c1)]
        exact ih _ (e1 _)
      · rw [if_neg (show ¬ l[j] < 33 by omega)]
        by_cases c2 : l[j] > 126
        · rw [if_pos c2, if_pos (by omega), hw, show (⟨#[63]⟩ : ByteArray) = strOfNums [63] from rfl, nums_app, if_pos (Or.inr c2)]
          exact ih _ (e1 _)
        · have hx := nums_ext l hb j (by omega)
          have hx1 : (strOfNums l).extract ((j : Int)).toNat (((j + 1 : Nat) : Int)).toNat = strOfNums [l[j]] := hx
          have hs1 : (strOfNums [l[j]]).size = 1 := strOfNums_size _
          rw [if_neg c2, hw, if_pos (by omega), if_pos (by omega), hx1, if_pos (by rw [hs1]; omega), nums_app, if_neg (fun h => Or.elim h c1 c2)]
          exact ih _ (e1 _)
theorem kiss_eq (a0 a1 : Int) (k : Nat) (hk : 20 ≤ k) : analemmaref06_Kiss.f k a0 a1 = some (kiss.res a0 a1) := by
  have r1 : analemmaref05_Ref.f k (⟨#[68, 69, 78, 89]⟩ : ByteArray) = some 1145392729 := leo_at (f := fun k => analemmaref05_Ref.f k _) (analemmaref05_Ref.mono _) (n := 20) (by decide +kernel) k hk
  have r2 : analemmaref05_Ref.f k (⟨#[82, 83, 84, 82]⟩ : ByteArray) = some 1381192786 := leo_at (f := fun k => analemmaref05_Ref.f k _) (analemmaref05_Ref.mono _) (n := 20) (by decide +kernel) k hk
  have r3 : analemmaref05_Ref.f k (⟨#[82, 65, 84, 69]⟩ : ByteArray) = some 1380013125 := leo_at (f := fun k => analemmaref05_Ref.f k _) (analemmaref05_Ref.mono _) (n := 20) (by decide +kernel) k hk
  unfold analemmaref06_Kiss.f kiss.res
  by_cases c : a0 = 0
  · rw [if_pos c, if_pos c, r1, r2, r3, Option.bind_some, Option.bind_some, Option.bind_some]
    unfold khas kcode
    by_cases c1 : a1 = 1145392729
    · rw [if_pos c1, if_pos c1, c1]; rfl
    · rw [if_neg c1, if_neg c1, beq_eq_false_iff_ne.2 c1]
      by_cases c2 : a1 = 1381192786
      · rw [if_pos c2, if_pos c2, c2]; rfl
      · rw [if_neg c2, if_neg c2, beq_eq_false_iff_ne.2 c2]
        by_cases c3 : a1 = 1380013125
        · rw [if_pos c3, if_pos c3, c3]; rfl
        · rw [if_neg c3, if_neg c3, beq_eq_false_iff_ne.2 c3]; rfl
  · rw [if_neg c, if_neg c]
theorem kiss_rg (a1 : Int) : 1 ≤ kiss.res 0 a1 ∧ kiss.res 0 a1 ≤ 4 := by
  unfold kiss.res khas kcode
  rw [if_pos rfl]
  by_cases c1 : a1 = 1145392729
  · rw [if_pos c1, c1]; decide
  · rw [if_neg c1, beq_eq_false_iff_ne.2 c1]
    by_cases c2 : a1 = 1381192786
    · rw [if_pos c2, c2]; decide
    · rw [if_neg c2, beq_eq_false_iff_ne.2 c2]
      by_cases c3 : a1 = 1380013125
      · rw [if_pos c3, c3]; decide
      · rw [beq_eq_false_iff_ne.2 c3, if_neg c3]; decide
theorem ExtendKisses : analemmalaw06_ExtendKisses.Pure := by
  intro a0 a1 w0 w1
  have hr := bounds_u32 w1
  obtain ⟨k, hk⟩ : ∃ k, k = 100 := ⟨_, rfl⟩
  refine ⟨k, ?_⟩
  have hK : extend_Kiss.f a0 a1 = some (kiss.res a0 a1) := by unfold extend_Kiss.f; rw [if_pos w1]
  have hN : extend_Name.f k a1 = some (strOfNums (nm (be4 a1) [])) := by
    unfold extend_Name.f
    have h4 : (be4 a1).length = 4 := rfl
    refine ename a1 (be4 a1) k [] 24 rfl (by omega) ?_ (by omega) (by rw [h4]; decide)
    intro j hj
    have hj' : j < 4 := hj
    match j, hj' with
    | 0, _ => show (shr .u32 a1 (24 - 8 * 0)) % 256 = a1 / 16777216 % 256; rfl
    | 1, _ => show (shr .u32 a1 (24 - 8 * 1)) % 256 = a1 / 65536 % 256; rfl
    | 2, _ => show (shr .u32 a1 (24 - 8 * 2)) % 256 = a1 / 256 % 256; rfl
    | 3, _ => show (shr .u32 a1 (24 - 8 * 3)) % 256 = a1 % 256; rw [show shr .u32 a1 (24 - 8 * 3) = a1 / 1 from rfl, Int.ediv_one]
  have hR : analemmaref06_Name.f k a1 = some (strOfNums (nm (be4 a1) [])) := by
    unfold analemmaref06_Name.f
    rw [show IntKind.u64.wrap a1 = a1 by rw [IntKind.wrap_u64]; omega, bytes4 k a1 (by omega), Option.bind_some]
    exact rname (be4 a1) (by_be4 a1) rfl 4 k 0 [] (by omega) (by omega) (by simp)
  have hs : ((strOfNums (nm (be4 a1) [])).size : Int) ≤ 4 := by
    rw [strOfNums_size]
    have := nm_len (be4 a1) []
    have h4 : (be4 a1).length = 4 := rfl
    rw [h4] at this
    simp at this
    omega
  unfold analemmalaw06_ExtendKisses.f
  rw [hK, Option.bind_some, hN, Option.bind_some, kiss_eq a0 a1 k (by omega), Option.bind_some, if_pos rfl, hR, Option.bind_some, if_pos rfl, if_neg (by omega), ext_shown k (by omega), Option.bind_some, if_pos rfl]
  by_cases c : a0 = 0
  · subst c
    have h := kiss_rg a1
    rw [if_pos, if_pos (by omega)]
    · exact congrArg some (decide_eq_true (by omega))
    · rw [beq_eq_false_iff_ne.2 (by omega : kiss.res 0 a1 ≠ 0)]
      rfl
  · have h : kiss.res a0 a1 = 0 := by unfold kiss.res; rw [if_neg c]
    rw [h, if_pos, if_pos (by omega)]
    · rfl
    · rw [bne_iff_ne.2 c]
      rfl


end Go.Proofs.Ytlbelgdcicholaa.Pure
