/- Plain laws of the functions that several statements of this seat reach; each says its own conditions. -/
import Derived.Test.YtdlbnkiolpmnbaaMMeex0
import Derived.Test.YtdlbnkiolpmnbaaMMeex1
import Derived.Test.YtdlbnkiolpmnbaaMMeex2
import Derived.Test.YtdlbnkiolpmnbaaMMeex3
import Derived.Test.YtdlbnkiolpmnbaaMMeex4
import Derived.OpenShut
import Derived.Laws.Bits64
import Derived.Laws.BitsLemmas
import Derived.Lib.LazyBuf
namespace Go.Proofs.Ytdlbnkiolpmnbaa.Pure
open Go.RowKit Go.Proofs.Ytdlbnkiolpmnbaa.MMee Go.Proofs.YtdlbnkiolpmnbaaW.PrintWords Go.Proofs.YtdlbnkiolpmnbaaW.PrintLast Go.Proofs.YtdlbnkiolpmnbaaW.PrintMore
set_option linter.unusedVariables false
set_option linter.unusedSimpArgs false

-- import Derived.Lib.LazyBuf

/-! The walk over sorted edges, and how deep spans lie. -/
def leE (x y : Ed) : Prop := x.1 < y.1 ∨ (x.1 = y.1 ∧ x.2 ≤ y.2)
instance (x y : Ed) : Decidable (leE x y) := by unfold leE; infer_instance
def thS : List Ed → Int
  | [] => 0
  | x :: r => thS r - x.2
theorem thS_app : ∀ a b : List Ed, thS (a ++ b) = thS a + thS b
  | [], b => by simp [thS]
  | x :: a, b => by
    rw [List.cons_append, thS, thS, thS_app a b]
    omega
theorem thS_perm {a b : List Ed} (h : a.Perm b) : thS a = thS b := by
  induction h with
  | nil => rfl
  | cons x _ ih => rw [thS, thS, ih]
  | swap x y l => simp only [thS]; omega
  | trans _ _ i1 i2 => rw [i1, i2]
def ms (es : List Ed) : Int := (es.countP fun x => decide (x.2 = 0) : Nat)
theorem ms_cons (x : Ed) (es : List Ed) : ms (x :: es) = (if x.2 = 0 then 1 else 0) + ms es := by
  unfold ms
  rw [List.countP_cons]
  by_cases h : x.2 = 0
  · simp [h]; omega
  · simp [h]
theorem walk_spec (need : Int) : ∀ (es : List Ed) (th m : Int), th < need →
    ((tl.go 1 need es th m).2.2 = true ∧ ∃ p x q, es = p ++ x :: q ∧ x.2 < 0 ∧ (tl.go 1 need es th m).1 = x.1 ∧ (tl.go 1 need es th m).2.1 = m + ms p ∧ need ≤ th + thS (p ++ [x]) ∧ (∀ p', p' <+: p → th + thS p' < need)) ∨
    (tl.go 1 need es th m = (0, 0, false) ∧ ∀ p', p' <+: es → th + thS p' < need)
  | [], th, m, h => .inr ⟨rfl, fun p' hp => by rw [List.prefix_nil.1 hp]; simp [thS]; exact h⟩
  | x :: r, th, m, h => by
    by_cases k0 : x.2 = 0
    · have e : tl.go 1 need (x :: r) th m = tl.go 1 need r th (m + 1) := by rw [tl.go, if_pos k0]
      rw [e]
      rcases walk_spec need r th (m + 1) h with ⟨h1, p, y, q, h2, h3, h4, h5, h6, h7⟩ | ⟨h1, h2⟩
      · refine .inl ⟨h1, x :: p, y, q, by rw [h2]; rfl, h3, h4, ?_, ?_, ?_⟩
        · rw [h5, ms_cons, if_pos k0]; omega
        · rw [List.cons_append, thS, k0]; omega
        · intro p' hp
          cases p' with
          | nil => simp [thS]; exact h
          | cons z p'' =>
            obtain ⟨rfl, hp2⟩ := List.cons_prefix_cons.1 hp
            have := h7 p'' hp2
            rw [thS, k0]; omega
      · refine .inr ⟨h1, fun p' hp => ?_⟩
        cases p' with
        | nil => simp [thS]; exact h
        | cons z p'' =>
          obtain ⟨rfl, hp2⟩ := List.cons_prefix_cons.1 hp
          have := h2 p'' hp2
          rw [thS, k0]; omega
    · by_cases hit : need ≤ th - 1 * x.2
      · have e : tl.go 1 need (x :: r) th m = (x.1, m, true) := by rw [tl.go, if_neg k0, if_pos hit]
        rw [e]
        refine .inl ⟨rfl, [], x, r, rfl, by omega, rfl, by simp [ms], ?_, ?_⟩
        · simp [thS]; omega
        · intro p' hp
          rw [List.prefix_nil.1 hp]; simp [thS]; exact h
      · have e : tl.go 1 need (x :: r) th m = tl.go 1 need r (th - 1 * x.2) m := by rw [tl.go, if_neg k0, if_neg hit]
        rw [e]
        rcases walk_spec need r (th - 1 * x.2) m (by omega) with ⟨h1, p, y, q, h2, h3, h4, h5, h6, h7⟩ | ⟨h1, h2⟩
        · refine .inl ⟨h1, x :: p, y, q, by rw [h2]; rfl, h3, h4, ?_, ?_, ?_⟩
          · rw [h5, ms_cons, if_neg k0]; omega
          · rw [List.cons_append, thS]; omega
          · intro p' hp
            cases p' with
            | nil => simp [thS]; exact h
            | cons z p'' =>
              obtain ⟨rfl, hp2⟩ := List.cons_prefix_cons.1 hp
              have := h7 p'' hp2
              rw [thS]; omega
        · refine .inr ⟨h1, fun p' hp => ?_⟩
          cases p' with
          | nil => simp [thS]; exact h
          | cons z p'' =>
            obtain ⟨rfl, hp2⟩ := List.cons_prefix_cons.1 hp
            have := h2 p'' hp2
            rw [thS]; omega
/-! Depth. -/
def inS (v : Int) (c : S42) : Bool := decide (c.f0 ≤ v) && decide (v ≤ c.f2)
def D (l : List S42) (v : Int) : Int := (l.countP (inS v) : Nat)
def Ml (l : List S42) (a : Int) : Int := (l.countP (fun c => decide (c.f1 < a)) : Nat)
def Mh (l : List S42) (a : Int) : Int := (l.countP (fun c => decide (a < c.f1)) : Nat)
def Ok (l : List S42) : Prop := ∀ c ∈ l, c.f0 ≤ c.f1 ∧ c.f1 ≤ c.f2
theorem D_cons (c : S42) (l : List S42) (v : Int) : D (c :: l) v = D l v + (if c.f0 ≤ v ∧ v ≤ c.f2 then 1 else 0) := by
  unfold D
  rw [List.countP_cons]
  by_cases h : c.f0 ≤ v ∧ v ≤ c.f2
  · have hb : inS v c = true := by simp [inS, h.1, h.2]
    rw [if_pos hb, if_pos h]; omega
  · have hb : inS v c = false := by
      unfold inS
      rw [Bool.and_eq_false_iff, decide_eq_false_iff_not, decide_eq_false_iff_not]
      omega
    rw [if_neg (by rw [hb]; decide), if_neg h]; omega
theorem depth_raw (v : Int) : ∀ l : List S42, Ok l → thS ((rawE l).filter fun x => decide (leE x (v, -1))) = D l v
  | [], _ => rfl
  | c :: l, h => by
    have ih := depth_raw v l (fun c hc => h c (List.mem_cons_of_mem _ hc))
    obtain ⟨h1, h2⟩ := h c List.mem_cons_self
    have e : rawE (c :: l) = [(c.f0, -1), (c.f1, 0), (c.f2, 1)] ++ rawE l := rfl
    rw [e, List.filter_append, thS_app, ih, D_cons]
    have e1 : decide (leE (c.f0, -1) (v, -1)) = decide (c.f0 ≤ v) := decide_eq_decide.2 (by unfold leE; simp; omega)
    have e2 : decide (leE (c.f1, 0) (v, -1)) = decide (c.f1 < v) := decide_eq_decide.2 (by unfold leE; simp)
    have e3 : decide (leE (c.f2, 1) (v, -1)) = decide (c.f2 < v) := decide_eq_decide.2 (by unfold leE; simp)
    simp only [List.filter_cons, List.filter_nil, e1, e2, e3, decide_eq_true_eq]
    by_cases a : c.f0 ≤ v
    · by_cases b : c.f2 < v
      · have d : c.f1 < v := by omega
        rw [if_pos a, if_pos d, if_pos b, if_neg (by omega)]
        simp [thS]
      · have hab : c.f0 ≤ v ∧ v ≤ c.f2 := ⟨a, by omega⟩
        by_cases d : c.f1 < v
        · rw [if_pos a, if_pos d, if_neg b, if_pos hab]
          simp [thS]
          omega
        · rw [if_pos a, if_neg d, if_neg b, if_pos hab]
          simp [thS]
          omega
    · have b : ¬ c.f2 < v ∨ c.f2 < v := by omega
      have d : ¬ c.f1 < v := by omega
      rw [if_neg a, if_neg d, if_neg (show ¬ c.f2 < v by omega), if_neg (by omega)]
      simp [thS]
theorem mids_raw (a : Int) : ∀ l : List S42, (rawE l).countP (fun x => decide (x.2 = 0) && decide (x.1 < a)) = l.countP (fun c => decide (c.f1 < a))
  | [] => rfl
  | c :: l => by
    have ih := mids_raw a l
    have e : rawE (c :: l) = [(c.f0, -1), (c.f1, 0), (c.f2, 1)] ++ rawE l := rfl
    rw [e, List.countP_append, ih, List.countP_cons]
    simp only [List.countP_cons, List.countP_nil]
    by_cases h : c.f1 < a
    · simp [h]; omega
    · simp [h]
/-- Sorted, and the edges of l. -/
structure Srt (es : List Ed) (l : List S42) : Prop where
  sorted : es.Pairwise leE
  perm : es.Perm (rawE l)
theorem leE_trans {x y z : Ed} (h : leE x y) (k : leE y z) : leE x z := by unfold leE at *; omega
theorem leE_total (x y : Ed) : leE x y ∨ leE y x := by unfold leE; omega
theorem filter_prefix (t : Ed) : ∀ es : List Ed, es.Pairwise leE → (es.filter fun x => decide (leE x t)) <+: es
  | [], _ => List.nil_prefix
  | x :: r, h => by
    rw [List.pairwise_cons] at h
    rw [List.filter_cons]
    by_cases c : leE x t
    · rw [if_pos (decide_eq_true c)]
      exact List.cons_prefix_cons.2 ⟨rfl, filter_prefix t r h.2⟩
    · rw [if_neg (by rw [decide_eq_false c]; decide)]
      have : (r.filter fun x => decide (leE x t)) = [] := List.filter_eq_nil_iff.2 (fun y hy => by
        simp only [decide_eq_true_eq]
        exact fun hyt => c (leE_trans (h.1 y hy) hyt))
      rw [this]
      exact List.nil_prefix
/-- What a walk up over all edges tells. -/
structure UpS (l : List S42) (need : Int) (r : Int × Int × Bool) : Prop where
  yes : r.2.2 = true → need ≤ D l r.1 ∧ (∀ v, need ≤ D l v → r.1 ≤ v) ∧ r.2.1 = Ml l r.1
  no : r.2.2 = false → r = (0, 0, false) ∧ ∀ v, D l v < need
theorem prefix_longer {α : Type} {a b c : List α} {x : α} {q : List α} (h : a <+: b ++ x :: q) (hn : ¬ a <+: b) : x ∈ a := by
  obtain ⟨t, ht⟩ := h
  rcases List.append_eq_append_iff.1 ht with ⟨u, h1, h2⟩ | ⟨u, h1, h2⟩
  · exact absurd ⟨u, h1.symm⟩ hn
  · cases u with
    | nil =>
      rw [List.append_nil] at h1
      exact absurd ⟨[], by rw [List.append_nil, h1]⟩ hn
    | cons y u =>
      rw [h1]
      have : x = y := by
        rw [List.cons_append] at h2
        exact (List.cons.inj h2).1
      rw [this]
      simp
theorem up_spec (l : List S42) (hok : Ok l) (need : Int) (hn : 0 < need) (es : List Ed) (hs : Srt es l) : UpS l need (tl.go 1 need es 0 0) := by
  have hP : ∀ v, thS (es.filter fun x => decide (leE x (v, -1))) = D l v := fun v => (thS_perm (hs.perm.filter _)).trans (depth_raw v l hok)
  rcases walk_spec need es 0 0 hn with ⟨h1, p, x, q, he, hx, h4, h5, h6, h7⟩ | ⟨h1, h2⟩
  · refine ⟨fun _ => ⟨?_, fun v hv => ?_, ?_⟩, (fun h => by rw [h1] at h; cases h)⟩
    · rw [h4]
      have hk : x.2 = -1 := by
        have hm : x ∈ rawE l := hs.perm.mem_iff.1 (by rw [he]; simp)
        rcases rawE_kinds l x hm with h | h | h
        · exact h
        · omega
        · omega
      have hxe : (x.1, (-1 : Int)) = x := by rw [← hk]
      have hso := hs.sorted
      rw [he] at hso
      rw [List.pairwise_append] at hso
      obtain ⟨s1, s2, s3⟩ := hso
      rw [List.pairwise_cons] at s2
      have hf : (es.filter fun y => decide (leE y (x.1, -1))) = (p ++ [x]) ++ (q.filter fun y => decide (leE y (x.1, -1))) := by
        rw [he, hxe, List.filter_append, List.filter_cons, if_pos (decide_eq_true (by unfold leE; omega)), List.filter_eq_self.2 (fun y hy => decide_eq_true (s3 y hy x List.mem_cons_self)), List.append_assoc]
        rfl
      have hq : 0 ≤ thS (q.filter fun y => decide (leE y (x.1, -1))) := by
        have hall : ∀ y ∈ (q.filter fun y => decide (leE y (x.1, -1))), y.2 ≤ 0 := by
          intro y hy
          rw [List.mem_filter, decide_eq_true_eq, hxe] at hy
          have a := s2.1 y hy.1
          have b := hy.2
          unfold leE at a b
          omega
        generalize (q.filter fun y => decide (leE y (x.1, -1))) = z at hall
        induction z with
        | nil => exact Int.le_refl _
        | cons y z ih =>
          have := ih (fun w hw => hall w (List.mem_cons_of_mem _ hw))
          have := hall y List.mem_cons_self
          rw [thS]
          omega
      have := hP x.1
      rw [hf, thS_app] at this
      omega
    · rw [h4]
      have hpre := filter_prefix (v, -1) es hs.sorted
      have hth := hP v
      have hnp : ¬ (es.filter fun x => decide (leE x (v, -1))) <+: p := fun hp => by
        have := h7 _ hp
        omega
      have hxm : x ∈ (es.filter fun x => decide (leE x (v, -1))) := by
        have hpre2 := hpre
        generalize (es.filter fun x => decide (leE x (v, -1))) = z at hpre2 hnp
        rw [he] at hpre2
        exact prefix_longer (c := z) hpre2 hnp
      rw [List.mem_filter, decide_eq_true_eq] at hxm
      have := hxm.2
      unfold leE at this
      simp at this
      omega
    · rw [h4, h5]
      have hso := hs.sorted
      rw [he, List.pairwise_append] at hso
      obtain ⟨s1, s2, s3⟩ := hso
      rw [List.pairwise_cons] at s2
      have e1 : es.countP (fun y => decide (y.2 = 0) && decide (y.1 < x.1)) = p.countP (fun y => decide (y.2 = 0)) := by
        rw [he, List.countP_append]
        have a : (x :: q).countP (fun y => decide (y.2 = 0) && decide (y.1 < x.1)) = 0 := by
          rw [List.countP_eq_zero]
          intro y hy
          simp only [Bool.and_eq_true, decide_eq_true_eq, not_and]
          intro h0
          rcases List.mem_cons.1 hy with rfl | hy
          · omega
          · have := s2.1 y hy
            unfold leE at this
            omega
        rw [a, Nat.add_zero]
        refine List.countP_congr (fun y hy => ?_)
        have := s3 y hy x List.mem_cons_self
        unfold leE at this
        simp only [Bool.and_eq_true, decide_eq_true_eq]
        omega
      have e2 := hs.perm.countP_eq (fun y => decide (y.2 = 0) && decide (y.1 < x.1))
      rw [e1, mids_raw] at e2
      unfold ms Ml
      omega
  · refine ⟨(fun h => by rw [h1] at h; cases h), fun _ => ⟨h1, fun v => ?_⟩⟩
    have := h2 _ (filter_prefix (v, -1) es hs.sorted)
    rw [hP v] at this
    omega
theorem edg_srt (l : List S42) : Srt (edg l) l := by
  refine ⟨?_, List.mergeSort_perm _ _⟩
  have hle : ∀ x y : Ed, (!(ltOf cmpE) y x) = decide (leE x y) := by
    intro x y
    rw [lt_i]
    by_cases h : y.1 < x.1 ∨ (y.1 = x.1 ∧ y.2 < x.2)
    · rw [decide_eq_true h, decide_eq_false (by unfold leE; omega)]
      rfl
    · rw [decide_eq_false h, decide_eq_true (by unfold leE; omega)]
      rfl
  have h := List.pairwise_mergeSort (le := fun x y => !(ltOf cmpE) y x) (fun a b c h1 h2 => by
    simp only [hle, decide_eq_true_eq] at *
    exact leE_trans h1 h2) (fun a b => by
    simp only [hle, Bool.or_eq_true, decide_eq_true_eq]
    exact leE_total a b) (rawE l)
  refine h.imp (fun {x y} hxy => ?_)
  rw [hle, decide_eq_true_eq] at hxy
  exact hxy
theorem up_s (l : List S42) (hok : Ok l) (need : Int) (hn : 0 < need) : UpS l need (up l need) := up_spec l hok need hn _ (edg_srt l)
/-! Down: the same, turned about nought. -/
def ng (x : Ed) : Ed := (-x.1, -x.2)
def nc (c : S42) : S42 := ⟨-c.f2, -c.f1, -c.f0⟩
theorem go_ng (need : Int) : ∀ (es : List Ed) (th m : Int), tl.go 1 need (es.map ng) th m = (if (tl.go (-1) need es th m).2.2 = true then -(tl.go (-1) need es th m).1 else (tl.go (-1) need es th m).1, (tl.go (-1) need es th m).2.1, (tl.go (-1) need es th m).2.2)
  | [], th, m => rfl
  | x :: r, th, m => by
    rw [List.map_cons, tl.go, tl.go]
    have e : (ng x).2 = -x.2 := rfl
    have e1 : (ng x).1 = -x.1 := rfl
    rw [e, e1]
    by_cases k0 : x.2 = 0
    · rw [if_pos (by omega), if_pos k0]
      exact go_ng need r th (m + 1)
    · rw [if_neg (by omega), if_neg k0]
      by_cases hit : need ≤ th - -1 * x.2
      · rw [if_pos (by omega), if_pos hit]
        rfl
      · rw [if_neg (by omega), if_neg hit, show th - 1 * -x.2 = th - -1 * x.2 by omega]
        exact go_ng need r _ m
theorem ng_srt (l : List S42) : Srt ((edg l).reverse.map ng) (l.map nc) := by
  have h := edg_srt l
  refine ⟨?_, ?_⟩
  · rw [List.pairwise_map, List.pairwise_reverse]
    refine h.sorted.imp (fun {x y} hxy => ?_)
    unfold leE ng at *
    simp only
    omega
  · have h1 : ((edg l).reverse.map ng).Perm ((rawE l).map ng) := ((List.reverse_perm _).trans h.perm).map ng
    refine h1.trans ?_
    clear h h1
    induction l with
    | nil => exact List.Perm.refl _
    | cons c l ih =>
      have e : rawE (c :: l) = [(c.f0, -1), (c.f1, 0), (c.f2, 1)] ++ rawE l := rfl
      have e2 : rawE ((c :: l).map nc) = [(-c.f2, -1), (-c.f1, 0), (-c.f0, 1)] ++ rawE (l.map nc) := rfl
      rw [e, e2, List.map_append]
      refine List.Perm.append ?_ ih
      show [(-c.f0, (1 : Int)), (-c.f1, 0), (-c.f2, -1)].Perm _
      exact (List.reverse_perm [(-c.f0, (1 : Int)), (-c.f1, 0), (-c.f2, -1)]).symm
theorem D_nc (l : List S42) (v : Int) : D (l.map nc) (-v) = D l v := by
  unfold D
  rw [List.countP_map]
  congr 1
  refine List.countP_congr (fun c _ => ?_)
  simp [inS, nc]
  omega
theorem Ml_nc (l : List S42) (v : Int) : Ml (l.map nc) (-v) = Mh l v := by
  unfold Ml Mh
  rw [List.countP_map]
  congr 1
  refine List.countP_congr (fun c _ => ?_)
  simp [nc]
/-- What a walk down tells. -/
structure DnS (l : List S42) (need : Int) (r : Int × Int × Bool) : Prop where
  yes : r.2.2 = true → need ≤ D l r.1 ∧ (∀ v, need ≤ D l v → v ≤ r.1) ∧ r.2.1 = Mh l r.1
  no : r.2.2 = false → r = (0, 0, false) ∧ ∀ v, D l v < need
theorem dn_s (l : List S42) (hok : Ok l) (need : Int) (hn : 0 < need) : DnS l need (dn l need) := by
  have hok' : Ok (l.map nc) := by
    intro c hc
    obtain ⟨d, hd, rfl⟩ := List.mem_map.1 hc
    have := hok d hd
    unfold nc
    simp only
    omega
  have h := up_spec (l.map nc) hok' need hn _ (ng_srt l)
  rw [go_ng] at h
  show DnS l need (tl.go (-1) need (edg l).reverse 0 0)
  generalize tl.go (-1) need (edg l).reverse 0 0 = r at h
  obtain ⟨r1, r2, r3⟩ := r
  cases r3 with
  | true =>
    obtain ⟨h1, h2, h3⟩ := h.yes rfl
    simp only [if_true] at h1 h2 h3
    rw [D_nc] at h1
    rw [Ml_nc] at h3
    refine ⟨fun _ => ⟨h1, fun v hv => ?_, h3⟩, (fun h => by cases h)⟩
    have := h2 (-v) (by rw [D_nc]; exact hv)
    show v ≤ r1
    omega
  | false =>
    obtain ⟨h1, h2⟩ := h.no rfl
    refine ⟨(fun h => by cases h), fun _ => ⟨?_, fun v => ?_⟩⟩
    · have a := (Prod.mk.inj h1).1
      have b := (Prod.mk.inj (Prod.mk.inj h1).2).1
      simp at a b
      rw [a, b]
    · have := h2 (-v)
      rw [D_nc] at this
      exact this

/-! Depth, the checks. -/
theorem rd_at42 (l : List S42) (j : Nat) (h : j < l.length) : rd_T42 l (j : Int) = l[j] := by
  unfold rd_T42
  rw [Int.toNat_natCast, List.getD_eq_getElem?_getD, List.getElem?_eq_getElem h]
  rfl
def to92 (x : S42) : S92 := ⟨x.f0, x.f1, x.f2⟩
theorem rd_at92 (l : List S42) (j : Nat) (h : j < l.length) : rd_T92 (l.map to92) (j : Int) = to92 l[j] := by
  unfold rd_T92
  rw [Int.toNat_natCast, List.getD_eq_getElem?_getD, List.getElem?_eq_getElem (by simpa using h), List.getElem_map]
  rfl
theorem D_bd (l : List S42) (v : Int) : 0 ≤ D l v ∧ D l v ≤ l.length := by
  unfold D
  have := List.countP_le_length (p := inS v) (l := l)
  omega
theorem D_app (a b : List S42) (v : Int) : D (a ++ b) v = D a v + D b v := by
  unfold D
  rw [List.countP_append]
  omega
theorem depth_l0 (l : List S42) (v : Int) (hl : l.length ≤ 1000) : ∀ (d k j : Nat), j + d = l.length → d + 1 ≤ k → meet_Depth.l0 k v (D (l.take j) v) l (l.length : Int) (j : Int) = some (D l v)
  | 0, k, j, hj, hk => by
    obtain ⟨k, rfl⟩ : ∃ m, k = m + 1 := ⟨k - 1, by omega⟩
    rw [meet_Depth.l0, if_neg (by omega), List.take_of_length_le (by omega)]
  | d + 1, k, j, hj, hk => by
    obtain ⟨k, rfl⟩ : ∃ m, k = m + 1 := ⟨k - 1, by omega⟩
    have hb := D_bd (l.take j) v
    rw [List.length_take] at hb
    have ih := depth_l0 l v hl d k (j + 1) (by omega) (by omega)
    have ht : D (l.take (j + 1)) v = D (l.take j) v + (if l[j].f0 ≤ v ∧ v ≤ l[j].f2 then 1 else 0) := by
      rw [List.take_succ_eq_append_getElem (by omega), D_app, D_cons]
      simp [D]
    generalize D (l.take j) v = a at *
    generalize D (l.take (j + 1)) v = b at *
    have w1 : wrap64 ((j : Int) + 1) = ((j + 1 : Nat) : Int) := by unfold wrap64; omega
    have w2 : wrap64 (a + 1) = a + 1 := by clear w1; unfold wrap64; omega
    rw [meet_Depth.l0, if_pos (by omega), if_pos (by omega), if_pos (by omega), rd_at42 l j (by omega), w1, w2]
    by_cases c1 : l[j].f0 ≤ v
    · rw [if_pos (show v ≥ l[j].f0 from c1)]
      by_cases c2 : v ≤ l[j].f2
      · rw [if_pos c2]
        rw [if_pos ⟨c1, c2⟩] at ht
        rw [← ht]
        exact ih
      · rw [if_neg c2]
        rw [if_neg (fun h => c2 h.2), Int.add_zero] at ht
        rw [← ht]
        exact ih
    · rw [if_neg (show ¬ v ≥ l[j].f0 from c1)]
      rw [if_neg (fun h => c1 h.1), Int.add_zero] at ht
      rw [← ht]
      exact ih
theorem depth_eq (l : List S42) (v : Int) (hl : l.length ≤ 1000) (k : Nat) (hk : l.length + 1 ≤ k) : meet_Depth.f k l v = some (D l v) := depth_l0 l v hl l.length k 0 (by omega) hk
theorem theirs_l0 (l : List S42) (hl : l.length ≤ 1000000) : ∀ (d k j : Nat), j + d = l.length → d + 1 ≤ k → analemmalaw16_theirs.l0 k l ((l.take j).map to92) (j : Int) = some (l.map to92)
  | 0, k, j, hj, hk => by
    obtain ⟨k, rfl⟩ : ∃ m, k = m + 1 := ⟨k - 1, by omega⟩
    rw [analemmalaw16_theirs.l0, if_neg (by omega), List.take_of_length_le (by omega)]
  | d + 1, k, j, hj, hk => by
    obtain ⟨k, rfl⟩ : ∃ m, k = m + 1 := ⟨k - 1, by omega⟩
    have hw : wrap64 ((j : Int) + 1) = ((j + 1 : Nat) : Int) := by unfold wrap64; omega
    have hlt : ((l.take j).map to92).length < 5864062014805 := by rw [List.length_map, List.length_take]; omega
    have e : (l.take (j + 1)).map to92 = (l.take j).map to92 ++ [(⟨l[j].f0, l[j].f1, l[j].f2⟩ : S92)] := by
      rw [List.take_succ_eq_append_getElem (by omega), List.map_append]
      rfl
    rw [analemmalaw16_theirs.l0, if_pos (by omega), if_pos (by omega), if_pos hlt, hw, rd_at42 l j (by omega), ← e]
    exact theirs_l0 l hl d k (j + 1) (by omega) (by omega)
theorem theirs_eq (l : List S42) (hl : l.length ≤ 1000000) (k : Nat) (hk : l.length + 1 ≤ k) : analemmalaw16_theirs.f k l = some (l.map to92) := theirs_l0 l hl l.length k 0 (by omega) hk
theorem rcheck_l0 (l : List S42) (hl : l.length ≤ 1000) : ∀ (d k j : Nat), j + d = l.length → d + 1 ≤ k → analemmaref16_Check.l0 k (l.map to92) (j : Int) = some (if (l.drop j).any wrongB = true then 1 else 0)
  | 0, k, j, hj, hk => by
    obtain ⟨k, rfl⟩ : ∃ m, k = m + 1 := ⟨k - 1, by omega⟩
    rw [analemmaref16_Check.l0, List.length_map, if_neg (by omega), List.drop_of_length_le (by omega)]
    rfl
  | d + 1, k, j, hj, hk => by
    obtain ⟨k, rfl⟩ : ∃ m, k = m + 1 := ⟨k - 1, by omega⟩
    have hw : wrap64 ((j : Int) + 1) = ((j + 1 : Nat) : Int) := by unfold wrap64; omega
    have ih := rcheck_l0 l hl d k (j + 1) (by omega) (by omega)
    have q1 : (j : Int) < (l.length : Int) := by omega
    have q0 : 0 ≤ (j : Int) := by omega
    have hd : l.drop j = l[j] :: l.drop (j + 1) := List.drop_eq_getElem_cons (by omega)
    rw [analemmaref16_Check.l0, List.length_map, if_pos q1, if_pos q0, rd_at92 l j (by omega), hw, ih, hd, List.any_cons]
    show (if l[j].f0 > l[j].f1 then some 1 else if l[j].f1 > l[j].f2 then some 1 else _) = _
    by_cases c1 : l[j].f0 > l[j].f1
    · rw [if_pos c1, show wrongB l[j] = true by simp [wrongB, c1], Bool.true_or, if_pos rfl]
    · by_cases c2 : l[j].f1 > l[j].f2
      · rw [if_neg c1, if_pos c2, show wrongB l[j] = true by simp [wrongB, c2], Bool.true_or, if_pos rfl]
      · rw [if_neg c1, if_neg c2, show wrongB l[j] = false by simp [wrongB]; omega, Bool.false_or]
theorem rcheck_eq (l : List S42) (hl : l.length ≤ 1000) (k : Nat) (hk : l.length + 1 ≤ k) : analemmaref16_Check.f k (l.map to92) = meet_Check.f l := by
  unfold analemmaref16_Check.f meet_Check.f
  rw [List.length_map]
  by_cases c : l.length > 10
  · rw [if_pos (by omega), if_pos c]
  · rw [if_neg (by omega), if_neg c]
    exact rcheck_l0 l hl l.length k 0 (by omega) hk
theorem leo_up {α : Type} {f : Nat → Option α} (h : ∀ k, LeO (f k) (f (k + 1))) {n : Nat} {r : α} (h0 : f n = some r) : ∀ d, f (n + d) = some r
  | 0 => h0
  | d + 1 => h (n + d) r (leo_up h h0 d)
theorem leo_at {α : Type} {f : Nat → Option α} (h : ∀ k, LeO (f k) (f (k + 1))) {n : Nat} {r : α} (h0 : f n = some r) (k : Nat) (hk : n ≤ k) : f k = some r := by
  have := leo_up h h0 (k - n)
  rwa [show n + (k - n) = k by omega] at this
/-- What is no candidates is none by the document. -/
def guardOf (k : Nat) (l : List S42) : Option Bool := if 0 ≤ (mn (l.length : Int) 20) then (if (mn (l.length : Int) 20) ≤ (l.length : Int) then ((analemmalaw16_theirs.f k (l.take ((mn (l.length : Int) 20) : Int).toNat)).bind fun t135 => ((analemmaref16_Check.f k t135).bind fun t138 => (if t138 = 0 then (some false) else ((analemmalaw16_shown.f k).bind fun t139 => (some t139))))) else (none)) else (none)
theorem guard_true (l : List S42) (k : Nat) (hk : 30 ≤ k) (hsh : analemmalaw16_shown.f k = some true) (h : meet_Check.f l = some 1) : guardOf k l = some true := by
  have hm : (mn (l.length : Int) 20).toNat = min l.length 20 := by unfold mn; split <;> omega
  have h0 : 0 ≤ mn (l.length : Int) 20 := by unfold mn; split <;> omega
  have h1 : mn (l.length : Int) 20 ≤ (l.length : Int) := by unfold mn; split <;> omega
  have hlt : (l.take (min l.length 20)).length = min l.length 20 := by rw [List.length_take]; omega
  have hc : meet_Check.f (l.take (min l.length 20)) = some 1 := by
    by_cases c : l.length ≤ 20
    · rw [List.take_of_length_le (by omega)]
      exact h
    · unfold meet_Check.f
      rw [if_pos (by omega)]
  unfold guardOf
  rw [if_pos h0, if_pos h1, hm, theirs_eq _ (by omega) k (by omega), Option.bind_some, rcheck_eq _ (by omega) k (by omega), hc, Option.bind_some, if_neg (by decide), hsh, Option.bind_some]
theorem check_cases (l : List S42) : meet_Check.f l = some 1 ∨ (meet_Check.f l = some 0 ∧ l.length ≤ 10 ∧ Ok l) := by
  unfold meet_Check.f
  by_cases c : l.length > 10
  · rw [if_pos c]; exact .inl rfl
  · rw [if_neg c]
    cases h : l.any wrongB with
    | true => exact .inl (by rw [if_pos rfl])
    | false =>
      refine .inr ⟨by rw [if_neg (by decide)], by omega, fun x hx => ?_⟩
      rw [List.any_eq_false] at h
      have := h x hx
      simp [wrongB] at this
      omega
/-! Major and Meet. -/
structure MjS (l : List S42) (r : Int × Int × Bool) : Prop where
  yes : r.2.2 = true → (l.length : Int) < 2 * D l r.1 ∧ (l.length : Int) < 2 * D l r.2.1 ∧ (∀ v, (l.length : Int) < 2 * D l v → r.1 ≤ v ∧ v ≤ r.2.1)
  no : r.2.2 = false → r = (0, 0, false) ∧ ∀ v, 2 * D l v ≤ (l.length : Int)
theorem mjr_s (l : List S42) (hok : Ok l) : MjS l (mjr l) := by
  unfold mjr
  by_cases h0 : l.length = 0
  · rw [if_pos h0]
    refine ⟨(fun h => by cases h), fun _ => ⟨rfl, fun v => ?_⟩⟩
    have := D_bd l v
    omega
  · rw [if_neg h0]
    have hu := up_s l hok ((l.length : Int) / 2 + 1) (by omega)
    have hd := dn_s l hok ((l.length : Int) / 2 + 1) (by omega)
    generalize up l ((l.length : Int) / 2 + 1) = u at hu
    generalize dn l ((l.length : Int) / 2 + 1) = d at hd
    obtain ⟨u1, u2, u3⟩ := u
    obtain ⟨d1, d2, d3⟩ := d
    cases u3 with
    | false =>
      simp only [Bool.false_eq_true, if_false]
      obtain ⟨_, h⟩ := hu.no rfl
      refine ⟨(fun h => by cases h), fun _ => ⟨rfl, fun v => ?_⟩⟩
      have := h v
      omega
    | true =>
      simp only [if_true]
      obtain ⟨a1, a2, _⟩ := hu.yes rfl
      have hd3 : d3 = true := by
        cases d3 with
        | true => rfl
        | false =>
          obtain ⟨_, h⟩ := hd.no rfl
          have := h u1
          simp only at a1
          omega
      subst hd3
      obtain ⟨b1, b2, _⟩ := hd.yes rfl
      refine ⟨fun _ => ⟨?_, ?_, fun v hv => ⟨a2 v (by omega), b2 v (by omega)⟩⟩, (fun h => by cases h)⟩
      · simp only at a1 ⊢; omega
      · simp only at b1 ⊢; omega
structure MtS (l : List S42) (r : Int × Int × Int × Bool) : Prop where
  yes : r.2.2.2 = true → 0 ≤ r.2.2.1 ∧ 2 * r.2.2.1 < (l.length : Int) ∧ r.1 ≤ r.2.1 ∧ (l.length : Int) - r.2.2.1 ≤ D l r.1 ∧ (l.length : Int) - r.2.2.1 ≤ D l r.2.1
  no : r.2.2.2 = false → r = (0, 0, 0, false)
theorem mtgo_s (l : List S42) (hok : Ok l) : ∀ (k i : Nat), i + k = (l.length + 1) / 2 → MtS l (mt.go l (l.length : Int) k (i : Int))
  | 0, i, h => ⟨(fun h => by cases h), fun _ => rfl⟩
  | k + 1, i, h => by
    rw [mt.go]
    have hu := up_s l hok ((l.length : Int) - (i : Int)) (by omega)
    have hd := dn_s l hok ((l.length : Int) - (i : Int)) (by omega)
    have ih := mtgo_s l hok k (i + 1) (by omega)
    generalize up l ((l.length : Int) - (i : Int)) = u at hu
    generalize dn l ((l.length : Int) - (i : Int)) = d at hd
    by_cases c : u.2.2 = true ∧ d.2.2 = true ∧ u.2.1 + d.2.1 ≤ (i : Int) ∧ u.1 ≤ d.1
    · rw [if_pos c]
      obtain ⟨a1, _, _⟩ := hu.yes c.1
      obtain ⟨b1, _, _⟩ := hd.yes c.2.1
      exact ⟨fun _ => ⟨by simp only; omega, by simp only; omega, c.2.2.2, a1, b1⟩, (fun h => by cases h)⟩
    · rw [if_neg c]
      exact ih
theorem mt_s (l : List S42) (hok : Ok l) : MtS l (mt l) := mtgo_s l hok _ 0 (by omega)
/-! What is selected. -/
structure SlS (l : List S42) (r : Int × Int × List Int × Bool) : Prop where
  is : r.2.2.2 = (mjr l).2.2
  met : (mt l).2.2.2 = true → r.1 = (mt l).1 ∧ r.2.1 = (mt l).2.1 ∧ r.2.2.2 = true
  some : r.2.2.2 = true → 0 < r.2.2.1.length
  in_ : ∀ j (h : j < r.2.2.1.length), 0 ≤ r.2.2.1[j] ∧ r.2.2.1[j] < (l.length : Int) ∧ (∀ c : S42, l[r.2.2.1[j].toNat]? = Option.some c → c.f0 ≤ r.2.1 ∧ r.1 ≤ c.f2)
  rise : ∀ j (h : j + 1 < r.2.2.1.length), r.2.2.1[j] < r.2.2.1[j + 1]
theorem plc_mem (P : S42 → Bool) : ∀ (l : List S42) (j : Nat) (x : Int), x ∈ plc P l j → (j : Int) ≤ x ∧ x < (j : Int) + l.length ∧ ∃ c, l[(x - j).toNat]? = Option.some c ∧ P c = true
  | [], j, x, h => by cases h
  | y :: r, j, x, h => by
    rw [plc] at h
    have hr : x ∈ plc P r (j + 1) → (j : Int) ≤ x ∧ x < (j : Int) + (y :: r).length ∧ ∃ c, (y :: r)[(x - j).toNat]? = Option.some c ∧ P c = true := by
      intro hx
      obtain ⟨h1, h2, c, h3, h4⟩ := plc_mem P r (j + 1) x hx
      refine ⟨by omega, by simp; omega, c, ?_, h4⟩
      rw [show (x - (j : Int)).toNat = (x - ((j + 1 : Nat) : Int)).toNat + 1 by omega, List.getElem?_cons_succ]
      exact h3
    by_cases c : P y = true
    · rw [if_pos c] at h
      rcases List.mem_cons.1 h with rfl | h
      · exact ⟨Int.le_refl _, by simp; omega, y, by rw [show ((j : Int) - (j : Int)).toNat = 0 by omega]; rfl, c⟩
      · exact hr h
    · rw [if_neg c] at h
      exact hr h
theorem plc_rise (P : S42 → Bool) : ∀ (l : List S42) (j : Nat), (plc P l j).Pairwise (· < ·)
  | [], j => List.Pairwise.nil
  | y :: r, j => by
    rw [plc]
    split
    · rw [List.pairwise_cons]
      exact ⟨fun x hx => by have := (plc_mem P r (j + 1) x hx).1; omega, plc_rise P r (j + 1)⟩
    · exact plc_rise P r (j + 1)
theorem plc_some (P : S42 → Bool) : ∀ (l : List S42) (j : Nat), (∃ c ∈ l, P c = true) → 0 < (plc P l j).length
  | [], j, h => by obtain ⟨c, hc, _⟩ := h; cases hc
  | y :: r, j, h => by
    rw [plc]
    by_cases c : P y = true
    · rw [if_pos c]; simp
    · rw [if_neg c]
      obtain ⟨d, hd, hP⟩ := h
      rcases List.mem_cons.1 hd with rfl | hd
      · exact absurd hP c
      · exact plc_some P r (j + 1) ⟨d, hd, hP⟩
theorem D_pos (l : List S42) (v : Int) (h : 0 < D l v) : ∃ c ∈ l, c.f0 ≤ v ∧ v ≤ c.f2 := by
  unfold D at h
  obtain ⟨c, hc, hp⟩ := List.countP_pos_iff.1 (by omega : 0 < l.countP (inS v))
  refine ⟨c, hc, ?_⟩
  simpa [inS] using hp
theorem slc_s (l : List S42) (hok : Ok l) : SlS l (slc l) := by
  have hj := mjr_s l hok
  have hm := mt_s l hok
  have key : (slc.s l).2.2 = (mjr l).2.2 ∧ ((mt l).2.2.2 = true → (slc.s l).1 = (mt l).1 ∧ (slc.s l).2.1 = (mt l).2.1 ∧ (slc.s l).2.2 = true) ∧ ((slc.s l).2.2 = true → (slc.s l).1 ≤ (slc.s l).2.1 ∧ 0 < D l (slc.s l).1) := by
    unfold slc.s
    by_cases c : (mt l).2.2.2 = true
    · rw [if_pos c]
      obtain ⟨m1, m2, m3, m4, m5⟩ := hm.yes c
      refine ⟨?_, fun _ => ⟨rfl, rfl, rfl⟩, fun _ => ⟨m3, by show 0 < D l (mt l).1; omega⟩⟩
      cases h : (mjr l).2.2 with
      | true => rfl
      | false =>
        have := (hj.no h).2 (mt l).1
        omega
    · rw [if_neg c]
      refine ⟨rfl, fun h => absurd h c, fun h => ?_⟩
      obtain ⟨a, b, d⟩ := hj.yes h
      have := d _ a
      refine ⟨this.2, ?_⟩
      omega
  obtain ⟨k1, k2, k3⟩ := key
  unfold slc
  generalize slc.s l = s at k1 k2 k3
  obtain ⟨s1, s2, s3⟩ := s
  simp only at k1 k2 k3
  cases s3 with
  | false =>
    simp only [Bool.false_eq_true, if_false]
    exact ⟨k1, (fun h => by have := (k2 h).2.2; cases this), (fun h => by cases h), fun j h => absurd h (Nat.not_lt_zero _), fun j h => absurd h (Nat.not_lt_zero _)⟩
  | true =>
    simp only [if_true]
    obtain ⟨h12, hD⟩ := k3 rfl
    have hin : ∀ (P : S42 → Bool), (∀ c ∈ l, P c = true → c.f0 ≤ s2 ∧ s1 ≤ c.f2) → ∀ j (h : j < (plc P l 0).length), 0 ≤ (plc P l 0)[j] ∧ (plc P l 0)[j] < (l.length : Int) ∧ (∀ c : S42, l[((plc P l 0)[j]).toNat]? = Option.some c → c.f0 ≤ s2 ∧ s1 ≤ c.f2) := by
      intro P hP j h
      obtain ⟨a, b, c, d, e⟩ := plc_mem P l 0 _ (List.getElem_mem h)
      refine ⟨by omega, by omega, fun c' hc' => ?_⟩
      rw [show ((plc P l 0)[j] - ((0 : Nat) : Int)).toNat = ((plc P l 0)[j]).toNat by omega] at d
      rw [d] at hc'
      cases hc'
      exact hP c (List.mem_of_getElem? d) e
    have hri : ∀ (P : S42 → Bool) j (h : j + 1 < (plc P l 0).length), (plc P l 0)[j] < (plc P l 0)[j + 1] := fun P j h => List.pairwise_iff_getElem.1 (plc_rise P l 0) j (j + 1) (by omega) h (by omega)
    by_cases c : (plc (inMid s1 s2) l 0).length = 0
    · rw [if_pos c]
      refine ⟨k1, fun h => ⟨(k2 h).1, (k2 h).2.1, rfl⟩, fun _ => ?_, ?_, hri _⟩
      · obtain ⟨d, hd, h1, h2⟩ := D_pos l s1 hD
        refine plc_some _ l 0 ⟨d, hd, ?_⟩
        simp [inSpan]
        omega
      · refine hin _ (fun d hd hp => ?_)
        simp [inSpan] at hp
        omega
    · rw [if_neg c]
      refine ⟨k1, fun h => ⟨(k2 h).1, (k2 h).2.1, rfl⟩, fun _ => Nat.pos_of_ne_zero c, ?_, hri _⟩
      refine hin _ (fun d hd hp => ?_)
      have := hok d hd
      simp [inMid] at hp
      omega
def shL : List S42 := [⟨0, 1, 2⟩, ⟨1, 2, 3⟩, ⟨10, 11, 12⟩]
theorem shL_D (v : Int) : D shL v = (if 10 ≤ v ∧ v ≤ 12 then 1 else 0) + (if 1 ≤ v ∧ v ≤ 3 then 1 else 0) + (if 0 ≤ v ∧ v ≤ 2 then 1 else 0) := by
  unfold shL
  rw [D_cons, D_cons, D_cons]
  have e : D [] v = 0 := rfl
  rw [e, Int.zero_add]
theorem shL_ok : Ok shL := by
  intro c hc
  simp [shL] at hc
  rcases hc with rfl | rfl | rfl <;> simp
theorem shL_up3 : (up shL 3).2.2 = false := by
  have h := up_s shL shL_ok 3 (by omega)
  cases c : (up shL 3).2.2 with
  | false => rfl
  | true =>
    have a := (h.yes c).1
    rw [shL_D] at a
    generalize (up shL 3).1 = v at a
    split at a <;> split at a <;> split at a <;> omega
theorem shL_up2 : (up shL 2) = (1, 0, true) := by
  have h := up_s shL shL_ok 2 (by omega)
  generalize up shL 2 = r at h
  obtain ⟨r1, r2, r3⟩ := r
  cases r3 with
  | false => have := (h.no rfl).2 1; rw [shL_D] at this; simp at this
  | true =>
    obtain ⟨a, b, c⟩ := h.yes rfl
    have b1 := b 1 (by rw [shL_D]; decide)
    simp only at a b1 c
    rw [shL_D] at a
    have e1 : r1 = 1 := by
      split at a <;> split at a <;> split at a <;> omega
    subst e1
    have e2 : r2 = 0 := by rw [c]; rfl
    rw [e2]
theorem shL_dn2 : (dn shL 2) = (2, 1, true) := by
  have h := dn_s shL shL_ok 2 (by omega)
  generalize dn shL 2 = r at h
  obtain ⟨r1, r2, r3⟩ := r
  cases r3 with
  | false => have := (h.no rfl).2 1; rw [shL_D] at this; simp at this
  | true =>
    obtain ⟨a, b, c⟩ := h.yes rfl
    have b1 := b 2 (by rw [shL_D]; decide)
    simp only at a b1 c
    rw [shL_D] at a
    have e1 : r1 = 2 := by
      split at a <;> split at a <;> split at a <;> omega
    subst e1
    have e2 : r2 = 1 := by rw [c]; rfl
    rw [e2]
theorem shL_mt : mt shL = (1, 2, 1, true) := by
  have e : mt shL = mt.go shL 3 2 0 := rfl
  rw [e, mt.go]
  have a : (up shL (3 - 0)).2.2 = false := shL_up3
  rw [if_neg (fun h => by rw [a] at h; exact absurd h.1 (by decide)), mt.go]
  show (if (up shL 2).2.2 = true ∧ (dn shL 2).2.2 = true ∧ (up shL 2).2.1 + (dn shL 2).2.1 ≤ 1 ∧ (up shL 2).1 ≤ (dn shL 2).1 then ((up shL 2).1, (dn shL 2).1, (0 : Int) + 1, true) else _) = _
  rw [shL_up2, shL_dn2, if_pos (by decide)]
  rfl
theorem me_shown (k : Nat) (hk : 12 ≤ k) : analemmalaw16_shown.f k = some true := by
  unfold analemmalaw16_shown.f
  have h1 : meet_Meet.f shL = some (1, 2, 1, true) := by
    unfold meet_Meet.f
    rw [if_pos (by decide), shL_mt]
  have h2 : meet_Check.f shL = some 0 := by decide
  have h3 : meet_Depth.f k shL 1 = some 2 := by
    rw [depth_eq shL 1 (by decide) k (by have : shL.length = 3 := rfl; omega), shL_D]
    rfl
  rw [Option.bind_some]
  show ((meet_Meet.f shL).bind _) = _
  rw [h1, Option.bind_some, if_pos rfl, if_pos rfl, if_pos rfl, if_pos rfl]
  show ((meet_Check.f shL).bind _) = _
  rw [h2, Option.bind_some, if_pos rfl]
  show ((meet_Depth.f k shL 1).bind _) = _
  rw [h3, Option.bind_some]
  rfl


end Go.Proofs.Ytdlbnkiolpmnbaa.Pure
