/- Functions that the statements of this seat reach, each as a plain Lean function, with a proof that the Go code comes to its answers; no condition. -/
import Derived.Test.YtdlbnkiolpmnbaaMMeex0
import Derived.Test.YtdlbnkiolpmnbaaMMeex2
namespace Go.Proofs.Ytdlbnkiolpmnbaa.MMee
open Go.RowKit Go.Proofs.YtdlbnkiolpmnbaaW.PrintWords Go.Proofs.YtdlbnkiolpmnbaaW.PrintLast Go.Proofs.YtdlbnkiolpmnbaaW.PrintMore
attribute [local go_sem] max2_int min2_int max_two min_two max_three min_three max_four min_four   -- for this text's walks alone
set_option linter.unusedVariables false
set_option linter.unusedSimpArgs false

/-! ### meet_edges: function 42 -/
section
def Bides {β : Type} (J : β → World → Prop) : Prop := ∀ s W W', J s W → Below W.heap.size W W' → J s W'
/-- The contract of an iterator over all that Z lets it read, begun in the world W (but for the law's two blocks). -/
def Iter {α : Type} (F : Fence) (n : Nat) (P : Program) (g : Nat) (lb : Array Value) (encs : α → Array Value) (all : List α) (Z : World → Prop) (w : World) : Prop :=
  ∀ (l : Nat) (J Jx : List α → World → Prop) (W : World), Below w.heap.size w W → Bides J → Bides Jx → (∀ pre W, J pre W → Z W) →
    (∀ pre x post W1, all = pre ++ x :: post → J pre W1 → YieldAt F (n - 1) P l (encs x) W1 fun e W' =>
      (e = .returned (.bool true) ∧ J (pre ++ [x]) W') ∨ (e = .returned (.bool false) ∧ Jx (pre ++ [x]) W')) →
    J [] W →
    CallsIn F n P g (#[.func (.yield l) #[] #[]] ++ lb) W fun e W' => (∃ v, e = .returned v) ∧ (J all W' ∨ (∃ pre x post, all = pre ++ x :: post ∧ Jx (pre ++ [x]) W'))
/-- How a round may end: on, or by a return. -/
def roundEnd {α : Type} (I Ix : List α → World → Prop) (pre : List α) (x : α) (W : World) : Exit → Act → World → Prop
  | .normal, _, W' => KeepsOthers W W' ∧ I (pre ++ [x]) W'
  | .ret, _, W' => KeepsOthers W W' ∧ Ix (pre ++ [x]) W'
  | _, _, _ => False
theorem put_other {W : World} {r k : Nat} {o : Obj} (h : k ≠ r) : (W.putObj r o).heap[k]? = W.heap[k]? := World.putObj_heap_other h
theorem loop_new {W : World} {k : Nat} {o o' : Obj} (h : W.heap[k]? = some o) : (W.alloc o').heap[k]? = some o :=
  (Below.heap_alloc W o' k (Array.getElem?_eq_some_iff.1 h).1).trans h
theorem bides_loop {α : Type} {k : Nat} (o : Obj) : Bides (fun (_ : List α) W => W.heap[k]? = some o) :=
  fun _ _ _ h t => (t.block k (Array.getElem?_eq_some_iff.1 h).1).trans h
theorem Bides.and {β : Type} {I J : β → World → Prop} (h : Bides I) (k : Bides J) : Bides (fun s W => I s W ∧ J s W) :=
  fun s W W' q t => ⟨h s W W' q.1 t, k s W W' q.2 t⟩
theorem range_iter {F : Fence} {n : Nat} {P : Program} {α : Type} {g : Operand} {ps : Array Tmp} {assign body : Code} {Q : Exit → Act → World → Prop} {a : Act} {w : World}
    (hro : F.round = none) (h1 : 1 ≤ n) {gf : Nat} {lb : Array Value} (hg : a.eval g = .func (.func gf) #[] lb) (hFg : F.fn gf) (eg : ∀ args w, (callFunc gf args).run P w = .ok (.enter gf args) w)
    {encs : α → Array Value} {all : List α} {Z : World → Prop} (hseq : Iter F (n - 1) P gf lb encs all Z w) (hps : ∀ x, (encs x).size = ps.size)
    (I Ix : List α → World → Prop) (hI : OwnFrom w.heap.size I) (bI : Bides I) (hIx : OwnFrom w.heap.size Ix) (bIx : Bides Ix) (hZ : ∀ pre W, I pre W → Z W) (h0 : I [] w) (Ax : List α → α → Act → World → Prop) (hAx : OwnFrom w.heap.size (fun (s : List α × α × Act) W => Ax s.1 s.2.1 s.2.2 W))
    (hassign : ∀ (l : Nat) (pre : List α) (x : α) (W : World) (K : Act → World → Prop), I pre W → (∀ a' W', KeepsOthers W W' → Ax pre x a' W' → K a' W') →
      assign.wpIn (F.inRound l) (n - 1 - 1) P (Exit.then K (fun _ _ _ => False)) { tmps := (ps.zip (encs x)).foldl (fun t (p, v) => t.setIfInBounds p v) a.tmps, defers := [] } W)
    (hbody : ∀ (l : Nat) (pre : List α) (x : α) (post : List α) (a' : Act) (W : World), all = pre ++ x :: post → Ax pre x a' W → body.wpIn (F.inRound l) (n - 1 - 1) P (roundEnd I Ix pre x W) a' W)
    (hdone : ∀ (D : Nat) (W : World), w.heap.size ≤ D → I all W → W.heap[D]? = some (.deferred (some [])) → Q .normal { a with defers := { target := .collected D, args := #[] } :: a.defers } W)
    (hstop : ∀ (D : Nat) (pre : List α) (x : α) (post : List α) (W : World), w.heap.size ≤ D → all = pre ++ x :: post → Ix (pre ++ [x]) W → W.heap[D]? = some (.deferred (some [])) → Code.ret.wpIn F n P Q { a with defers := { target := .collected D, args := #[] } :: a.defers } W) :
    (Code.rangeFunc g ps assign body).wpIn F n P Q a w := by
  refine wpIn_rangeFunc fun fn hfn => ?_
  rw [hro]
  obtain ⟨rec, hrec⟩ : ∃ rec : LoopState → Option Code → Loop, rec = fun st pe => { state := st, pending := pe, fn, tmps := a.tmps, params := ps, assign, body, defers := w.heap.size } := ⟨_, rfl⟩
  obtain ⟨L, hL⟩ : ∃ L, w.heap.size + 1 = L := ⟨_, rfl⟩
  obtain ⟨W1, hW1⟩ : ∃ W1, (w.alloc (.deferred (some []))).alloc (.loop (rec .ready none)) = W1 := ⟨_, rfl⟩
  have hl1 : W1.heap[L]? = some (.loop (rec .ready none)) := by
    have h := World.alloc_heap_new (w.alloc (.deferred (some []))) (.loop (rec .ready none))
    rw [World.size_alloc, hL, hW1] at h
    exact h
  have hd1 : W1.heap[w.heap.size]? = some (.deferred (some [])) := hW1 ▸ loop_new (World.alloc_heap_new w _)
  have hb1 : Below w.heap.size w W1 := hW1 ▸ ((Below.refl _ w).alloc (Nat.le_refl _) _).alloc (by simp) _
  have hI1 : I [] W1 := bI _ _ _ h0 hb1
  refine ⟨L, [{ target := .collected w.heap.size, args := #[] }], W1, { target := .fn (.func gf) lb, args := #[.func (.yield L) #[] #[]] }, W1, gf, #[.func (.yield L) #[] #[]] ++ lb, W1, ?_, ?_, ?_, ?_, fun _ => h1, ?_⟩
  · rw [← hW1, ← hL, hrec]
    exact run_enterLoop_outer _ _ _ _ _
  · simp only [resolve, hg]
    simp [go_sem]
  · intro f' hf'
    simp [Target.leads] at hf'
    subst hf'
    exact hFg
  · simp [invoke, go_sem, eg]
  have book : ∀ {st : LoopState} {pe : Option Code} {K : List α → World → Prop}, Bides K → Bides (fun pre W => K pre W ∧ W.heap[L]? = some (.loop (rec st pe)) ∧ W.heap[w.heap.size]? = some (.deferred (some []))) :=
    fun h => h.and ((bides_loop _).and (bides_loop _))
  refine (hseq L (fun pre W => I pre W ∧ W.heap[L]? = some (.loop (rec .ready none)) ∧ W.heap[w.heap.size]? = some (.deferred (some [])))
    (fun pre W => Ix pre W ∧ W.heap[L]? = some (.loop (rec .done (some .ret))) ∧ W.heap[w.heap.size]? = some (.deferred (some []))) W1 hb1 (book bI) (book bIx) (fun pre W h => hZ pre W h.1) ?_ ⟨hI1, hl1, hd1⟩).mono ?_
  · -- a round
    rintro pre x post W hall ⟨hi, hl, hd⟩
    have hlt : L < W.heap.size := (Array.getElem?_eq_some_iff.1 hl).1
    have hy := run_yield (P := P) (args := encs x) hl (by rw [hrec]; exact hps x)
    rw [hrec] at hy
    refine ⟨fn, _, assign, body, hy, roundIn_of_wpIn hfn (hassign _ pre x W _ hi fun a' Wa hka hxa => ?_)⟩
    have hla := hka.same _ _ hl rfl
    have hda := hka.same _ _ hd rfl
    have hlta : L < Wa.heap.size := (Array.getElem?_eq_some_iff.1 hla).1
    refine ⟨_, run_beginRound hla (by rw [hrec]), ?_⟩
    obtain ⟨W2, hW2⟩ : ∃ W2, Wa.putObj L (.loop { rec .ready none with state := .busy }) = W2 := ⟨_, rfl⟩
    rw [hW2]
    have hx2 : Ax pre x a' W2 := hW2 ▸ hAx.putObj (s := (pre, x, a')) _ hxa (by omega) hla rfl
    have hl2 : W2.heap[L]? = some (.loop { rec .ready none with state := .busy }) := hW2 ▸ World.putObj_heap_same hlta
    have hd2 : W2.heap[w.heap.size]? = some (.deferred (some [])) := hW2 ▸ (put_other (by omega)).trans hda
    refine wpIn_mono (hbody L pre x post a' W2 hall hx2) ?_
    rintro e a3 W3 hp
    cases e with
    | normal =>
      obtain ⟨hk, hi3⟩ := hp
      have hl3 := hk.same _ _ hl2 rfl
      have hr := run_endRound (P := P) none hl3
      rw [hrec] at hr hl3
      refine ⟨_, _, hr, .inl ⟨rfl, hI.putObj _ hi3 (by omega) hl3 rfl, ?_, (put_other (by omega)).trans (hk.same _ _ hd2 rfl)⟩⟩
      rw [World.putObj_heap_same (Array.getElem?_eq_some_iff.1 hl3).1, hrec]
      rfl
    | ret =>
      obtain ⟨hk, hi3⟩ := hp
      have hl3 := hk.same _ _ hl2 rfl
      have hr := run_endRound (P := P) (some .ret) hl3
      rw [hrec] at hr hl3
      refine ⟨_, _, hr, .inr ⟨rfl, hIx.putObj _ hi3 (by omega) hl3 rfl, ?_, (put_other (by omega)).trans (hk.same _ _ hd2 rfl)⟩⟩
      rw [World.putObj_heap_same (Array.getElem?_eq_some_iff.1 hl3).1, hrec]
      rfl
    | exit id => exact hp.elim
    | goto t => exact hp.elim
    | panic ch => exact hp.elim
    | outgrown => exact hp.elim
  · -- behind the iterator
    rintro e W2 ⟨⟨v, rfl⟩, (⟨hi, hl, hd⟩ | ⟨pre, x, post, hall, hi, hl, hd⟩)⟩
    · have hr := run_endLoop (P := P) hl (by rw [hrec]; simp)
      rw [hrec] at hr hl
      exact ⟨none, _, hr, hdone _ _ (Nat.le_refl _) (hI.putObj _ hi (by omega) hl rfl) ((put_other (by omega)).trans hd)⟩
    · have hr := run_endLoop (P := P) hl (by rw [hrec]; simp)
      rw [hrec] at hr hl
      exact ⟨some .ret, _, hr, hstop _ pre x post _ (Nat.le_refl _) hall (hIx.putObj _ hi (by omega) hl rfl) ((put_other (by omega)).trans hd)⟩

abbrev Ed := Int × Int
def encA (x : Nat × Ed) : Array Value := #[.int .i64 x.1, .agg #[.int .i64 x.2.1, .int .i64 x.2.2]]
def allU (l : List Ed) : List (Nat × Ed) := (List.range l.length).map fun i => (i, l.getD i (0, 0))
def allD (l : List Ed) : List (Nat × Ed) := (List.range l.length).map fun i => (l.length - 1 - i, l.getD (l.length - 1 - i) (0, 0))
theorem allU_len (l : List Ed) : (allU l).length = l.length := by simp [allU]
theorem allD_len (l : List Ed) : (allD l).length = l.length := by simp [allD]
theorem allU_at (l : List Ed) (j : Nat) (h : j < l.length) : allU l = (allU l).take j ++ (j, l[j]) :: (allU l).drop (j + 1) := by
  have e : (allU l)[j]'(by rw [allU_len]; exact h) = (j, l[j]) := by simp [allU, List.getD_eq_getElem?_getD, h]
  rw [← e, List.getElem_cons_drop, List.take_append_drop]
theorem allD_at (l : List Ed) (j : Nat) (h : j < l.length) : allD l = (allD l).take j ++ (l.length - 1 - j, l[l.length - 1 - j]) :: (allD l).drop (j + 1) := by
  have e : (allD l)[j]'(by rw [allD_len]; exact h) = (l.length - 1 - j, l[l.length - 1 - j]) := by simp [allD, List.getD_eq_getElem?_getD, show l.length - 1 - j < l.length by omega]
  rw [← e, List.getElem_cons_drop, List.take_append_drop]
theorem take_at {α : Type} (xs : List α) (j : Nat) (x : α) (post : List α) (h : xs = xs.take j ++ x :: post) (hj : j < xs.length) : xs.take (j + 1) = xs.take j ++ [x] := by
  have hl : (xs.take j).length = j := by rw [List.length_take]; omega
  have : xs.take (j + 1) = (xs.take j ++ x :: post).take (j + 1) := by rw [← h]
  rw [this, List.take_append, hl, List.take_of_length_le (by omega), show j + 1 - j = 1 by omega]
  rfl
/-- A row of edges at block g. -/
def RowE (w : World) (g : Nat) (l : List Ed) : Prop := ∀ (j : Nat) (x : Ed), l[j]? = some x → w.cell? ⟨g, j * 2, none⟩ = some (.int .i64 x.1) ∧ w.cell? ⟨g, j * 2 + 1, none⟩ = some (.int .i64 x.2)
theorem cell_below {w W : World} {a : Addr} {v : Value} (h : w.cell? a = some v) (hb : Below w.heap.size w W) : W.cell? a = some v := (hb.cell (World.block_lt_of_cell? w _ h)).trans h
set_option maxHeartbeats 8000000 in
set_option maxRecDepth 100000 in
theorem all1 (B g c : Nat) (l : List Ed) (w0 w : World) (hB : w0.heap[B]? = some (.cells #[.slice (some ⟨g, 0, none⟩) l.length c] 93 (0, 0))) (hr : RowE w0 g l) (hl : l.length ≤ 1000000) :
    Iter Fence.wide 4 Try.prog 64 #[.pointer (some ⟨B, 0, none⟩)] encA (allU l) (fun W => Below w0.heap.size w0 W) w := by
  intro ll J Jx W hW bJ bJx hZ hY h0
  have hz := hZ _ _ h0
  have kb := cell_below ((blk_cell hB 0).trans (show _ = some (Value.slice (some ⟨g, 0, none⟩) l.length c) from rfl)) hz
  have HR := Aside0.mk hr
  have HY := Aside0.mk hY
  clear hY
  refine callsIn_of_wp Try.func64 rfl trivial ?_ rfl
  simp only [Try.ntmps64, List.size_toArray, List.length_cons, List.length_nil, Nat.reduceAdd, Nat.reduceSub, Array.replicate_succ, Array.replicate_zero, List.push_toArray, List.append_toArray, List.nil_append, List.cons_append]
  gi_wp2
  gi_loopw [7] (fun v7 wr => ∃ (j : Nat), v7 = .int .i64 j ∧ Aside0 (j ≤ l.length) ∧ Aside0 (J ((allU l).take j) wr)) (fun v7 wr => l.length - (intOf v7).toNat)
  case atStart => exact ⟨0, rfl, ⟨Nat.zero_le _⟩, ⟨h0⟩⟩
  case round =>
    obtain ⟨j, rfl, hj, hJ⟩ := hrel
    by_cases q : j < l.length
    · have q1 : ((j : Int) < (l.length : Int)) = True := eq_true (by omega)
      have q0 : ((0 : Int) ≤ (j : Int)) = True := eq_true (by omega)
      have hat := Aside0.mk (allU_at l j q)
      have hzj := hZ _ _ hJ.out
      obtain ⟨x0, x1⟩ := HR.out j l[j] (List.getElem?_eq_getElem q)
      have x0' := cell_below x0 hzj
      have x1' := cell_below x1 hzj
      obtain ⟨⟨a, k⟩, hx⟩ : ∃ x, l[j] = x := ⟨_, rfl⟩
      rw [hx] at x0' x1' hat
      simp only at x0' x1'
      have HQ := Aside0.mk q
      obtain ⟨W5, hW5⟩ : ∃ W5, wr.alloc (.cells #[.int .i64 a, .int .i64 k] 101) = W5 := ⟨_, rfl⟩
      have b5 : Below wr.heap.size wr W5 := hW5 ▸ below_alloc (Below.refl _ wr) _
      obtain ⟨fn, tmps, assign, body, hy, hR⟩ := HY.out _ _ _ W5 hat.out (bJ _ _ _ hJ.out b5)
      have hy' : (Instr.yield ll #[.int .i64 (j : Int), .agg #[.int .i64 a, .int .i64 k]]).run Try.prog W5 = .ok (.round ll fn tmps assign body) W5 := hy
      have hn5 : W5.heap[wr.heap.size]? = some (.cells #[.int .i64 a, .int .i64 k] 101 (0, 0)) := hW5 ▸ blk_new wr _
      have k0 := (blk_cell hn5 0).trans (show _ = some (Value.int .i64 a) from rfl)
      have k1 := (blk_cell hn5 1).trans (show _ = some (Value.int .i64 k) from rfl)
      clear x0 x1 hx hzj kb hz hy b5 hn5 h0 hB hr
      gi_wp2
      refine hR.mono ?_
      rintro e W6 (⟨rfl, hJ6⟩ | ⟨rfl, hJx6⟩)
      · gi_wp2
        go_roundw
        case rel =>
          refine ⟨j + 1, by rw [show (j : Int) + 1 = ((j + 1 : Nat) : Int) by omega], ⟨q⟩, ⟨?_⟩⟩
          rw [take_at _ j _ _ hat.out (by rw [allU_len]; exact q)]
          exact hJ6
        case measure =>
          simp [intOf]
          omega
      · gi_wp2
        refine bodyPost_ret (results_none rfl _ _ _) rfl ?_
        exact ⟨⟨_, rfl⟩, .inr ⟨_, _, _, hat.out, hJx6⟩⟩
    · have q1 : ((j : Int) < (l.length : Int)) = False := eq_false (by omega)
      gi_wp2
      go_end0
      refine ⟨⟨_, rfl⟩, .inl ?_⟩
      have := hJ.out
      rwa [List.take_of_length_le (by rw [allU_len]; omega)] at this
set_option maxHeartbeats 8000000 in
set_option maxRecDepth 100000 in
theorem back1 (B g c : Nat) (l : List Ed) (w0 w : World) (hB : w0.heap[B]? = some (.cells #[.slice (some ⟨g, 0, none⟩) l.length c] 93 (0, 0))) (hr : RowE w0 g l) (hl : l.length ≤ 1000000) (hn : 0 < l.length) :
    Iter Fence.wide 4 Try.prog 65 #[.pointer (some ⟨B, 0, none⟩)] encA (allD l) (fun W => Below w0.heap.size w0 W) w := by
  intro ll J Jx W hW bJ bJx hZ hY h0
  have HR := Aside0.mk hr
  have HY := Aside0.mk hY
  clear hY
  have hz := hZ _ _ h0
  have kb := cell_below ((blk_cell hB 0).trans (show _ = some (Value.slice (some ⟨g, 0, none⟩) l.length c) from rfl)) hz
  refine callsIn_of_wp Try.func65 rfl trivial ?_ rfl
  simp only [Try.ntmps65, List.size_toArray, List.length_cons, List.length_nil, Nat.reduceAdd, Nat.reduceSub, Array.replicate_succ, Array.replicate_zero, List.push_toArray, List.append_toArray, List.nil_append, List.cons_append]
  gi_wp2
  gi_loopw [3] (fun v3 wr => ∃ (j : Nat), v3 = .int .i64 ((l.length : Int) - 1 - j) ∧ Aside0 (j ≤ l.length) ∧ Aside0 (J ((allD l).take j) wr)) (fun v3 wr => (intOf v3 + 1).toNat)
  case atStart => exact ⟨0, by rw [show ((l.length : Int) - 1 - ((0 : Nat) : Int)) = (l.length : Int) - 1 by omega], ⟨Nat.zero_le _⟩, ⟨h0⟩⟩
  case round =>
    obtain ⟨j, rfl, hj, hJ⟩ := hrel
    clear kb hz
    have hzj := hZ _ _ hJ.out
    have kb := cell_below ((blk_cell hB 0).trans (show _ = some (Value.slice (some ⟨g, 0, none⟩) l.length c) from rfl)) hzj
    by_cases q : j < l.length
    · obtain ⟨i, hi⟩ : ∃ i : Nat, l.length - 1 - j = i := ⟨_, rfl⟩
      have hil : i < l.length := by omega
      have hat := Aside0.mk (allD_at l j q)
      have hai := Aside0.mk hi
      rw [show (l.length : Int) - 1 - (j : Int) = (i : Int) by omega]
      have hgj : ∀ h : l.length - 1 - j < l.length, l[l.length - 1 - j] = l[i] := fun h => by congr 1
      obtain ⟨x0, x1⟩ := HR.out i l[i] (List.getElem?_eq_getElem hil)
      have x0' := cell_below x0 hzj
      have x1' := cell_below x1 hzj
      obtain ⟨⟨a, k⟩, hx⟩ : ∃ x, l[i] = x := ⟨_, rfl⟩
      rw [hx] at x0' x1'
      have hat2 : allD l = (allD l).take j ++ (i, (a, k)) :: (allD l).drop (j + 1) := by
        have := hat.out
        rw [hgj, hx, hi] at this
        exact this
      have HAT := Aside0.mk hat2
      simp only at x0' x1'
      obtain ⟨fn, tmps, assign, body, hy, hR⟩ := HY.out _ _ _ wr hat2 hJ.out
      have hy' : (Instr.yield ll #[.int .i64 (i : Int), .agg #[.int .i64 a, .int .i64 k]]).run Try.prog wr = .ok (.round ll fn tmps assign body) wr := hy
      have q1 : ((0 : Int) ≤ (i : Int)) = True := eq_true (by omega)
      have q2 : ((i : Int) < (l.length : Int)) = True := eq_true (by omega)
      have HJ2 : Aside0 (i + j + 1 = l.length) := ⟨by omega⟩
      clear x0 x1 hx hzj hy h0 hB hr hgj hat hi hat2
      gi_wp2
      refine hR.mono ?_
      rintro e W6 (⟨rfl, hJ6⟩ | ⟨rfl, hJx6⟩)
      · gi_wp2
        go_roundw
        case rel =>
          refine ⟨j + 1, ?_, ⟨q⟩, ⟨?_⟩⟩
          · have := HJ2.out
            rw [show (i : Int) - 1 = (l.length : Int) - 1 - ((j + 1 : Nat) : Int) by omega]
          · rw [take_at _ j _ _ HAT.out (by rw [allD_len]; exact q)]
            exact hJ6
        case measure =>
          simp [intOf]
      · gi_wp2
        refine bodyPost_ret (results_none rfl _ _ _) rfl ?_
        exact ⟨⟨_, rfl⟩, .inr ⟨_, _, _, HAT.out, hJx6⟩⟩
    · have hjl : j = l.length := by have := hj.out; omega
      rw [show (l.length : Int) - 1 - (j : Int) = -1 by omega]
      have HJl := Aside0.mk hjl
      clear hjl hzj kb
      gi_wp2
      go_end0
      refine ⟨⟨_, rfl⟩, .inl ?_⟩
      have := hJ.out
      rwa [List.take_of_length_le (by rw [allD_len, HJl.out]; exact Nat.le_refl _)] at this

theorem all_calls (v : Value) (A : Option Addr) (n c : Nat) (hv : v = .slice A n c) (w : World) : Calls Try.prog 44 #[v] w fun e w' => e = .returned (.func (.func 64) #[] #[.pointer (some ⟨w.heap.size, 0, none⟩)]) ∧ w' = w.alloc (.cells #[v] 93) := by
  subst hv
  go_enter Try.func44, Try.ntmps44
  go_wp2_with (fail)
  go_ret
  exact ⟨rfl, rfl⟩
theorem back_calls (v : Value) (A : Option Addr) (n c : Nat) (hv : v = .slice A n c) (w : World) : Calls Try.prog 45 #[v] w fun e w' => e = .returned (.func (.func 65) #[] #[.pointer (some ⟨w.heap.size, 0, none⟩)]) ∧ w' = w.alloc (.cells #[v] 93) := by
  subst hv
  go_enter Try.func45, Try.ntmps45
  go_wp2_with (fail)
  go_ret
  exact ⟨rfl, rfl⟩

def tl.go (sign need : Int) : List Ed → Int → Int → Int × Int × Bool
  | [], _, _ => (0, 0, false)
  | x :: r, there, mids => if x.2 = 0 then tl.go sign need r there (mids + 1) else if need ≤ there - sign * x.2 then (x.1, mids, true) else tl.go sign need r (there - sign * x.2) mids
theorem box_far {W : World} {C : Nat} {t : TypeId} {v : Value} {b : Nat} (h : Boxed W C t v) (hne : C ≠ b) (u : Value) : Boxed (W.setCell ⟨b, 0, none⟩ u) C t v := (Below.heap_setCell W ⟨b, 0, none⟩ u C hne).trans h
theorem boxed_kept {W W' : World} {row : Option Nat} {B : Nat} {t : TypeId} {v : Value} (h : Boxed W B t v) (hg : W.grownBy W' row) (hr : ∀ r, row = some r → ∃ o : Obj, W.heap[r]? = some o ∧ o.isCells = false) : Boxed W' B t v :=
  h.kept hg (fun e => by
    obtain ⟨o, ho, hc⟩ := hr B e.symm
    rw [show W.heap[B]? = _ from h] at ho
    cases ho
    cases hc)
/-- till's variables: what it was given, its results, what is there. -/
structure TI (w : World) (sign need a m : Int) (is : Bool) (there : Int) (W : World) : Prop where
  b0 : Boxed W w.heap.size 3 (.int .i64 sign)
  b1 : Boxed W (w.heap.size + 1) 3 (.int .i64 need)
  b2 : Boxed W (w.heap.size + 2) 2 (.int .i64 a)
  b3 : Boxed W (w.heap.size + 3) 3 (.int .i64 m)
  b4 : Boxed W (w.heap.size + 4) 4 (.bool is)
  b5 : Boxed W (w.heap.size + 5) 3 (.int .i64 there)
  bel : Below w.heap.size w W
theorem TI.kept {w : World} {sign need a m there : Int} {is : Bool} {W W' : World} {row : Option Nat} {n : Nat} (h : TI w sign need a m is there W) (hn : w.heap.size ≤ n) (hg : W.grownBy W' row) (hr : ∀ r, row = some r → n ≤ r ∧ ∃ o : Obj, W.heap[r]? = some o ∧ o.isCells = false) : TI w sign need a m is there W' :=
  have hr2 : ∀ r, row = some r → ∃ o : Obj, W.heap[r]? = some o ∧ o.isCells = false := fun r e => (hr r e).2
  ⟨boxed_kept h.b0 hg hr2, boxed_kept h.b1 hg hr2, boxed_kept h.b2 hg hr2, boxed_kept h.b3 hg hr2, boxed_kept h.b4 hg hr2, boxed_kept h.b5 hg hr2, h.bel.grown hg h.bel.size (fun k e => Nat.le_trans hn (hr k e).1)⟩
theorem TI.far {w : World} {sign need a m there : Int} {is : Bool} {W W' : World} (h : TI w sign need a m is there W) (hb : Below W.heap.size W W') : TI w sign need a m is there W' :=
  ⟨blk_below h.b0 hb, blk_below h.b1 hb, blk_below h.b2 hb, blk_below h.b3 hb, blk_below h.b4 hb, blk_below h.b5 hb, h.bel.trans (hb.mono h.bel.size)⟩
/-- Between two rounds. -/
def TJ (w : World) (sign need : Int) (pre : List (Nat × Ed)) (W : World) : Prop :=
  ∃ m there : Int, TI w sign need 0 m false there W ∧ (0 ≤ m ∧ m ≤ pre.length) ∧ (-(pre.length : Int) ≤ there ∧ there ≤ pre.length) ∧ ∀ post, tl.go sign need (pre.map (fun x => x.2) ++ post) 0 0 = tl.go sign need post there m
/-- Behind a round that has returned. -/
def TX (w : World) (sign need : Int) (pre : List (Nat × Ed)) (W : World) : Prop :=
  ∃ a m there : Int, TI w sign need a m true there W ∧ ∀ post, tl.go sign need (pre.map (fun x => x.2) ++ post) 0 0 = (a, m, true)
theorem till_res {W : World} {tmps : Array Value} {n0 n1 n2 : Nat} {v0 v1 v2 : Value} (e0 : tmps[6]?.getD undef = .pointer (some ⟨n0, 0, none⟩)) (e1 : tmps[7]?.getD undef = .pointer (some ⟨n1, 0, none⟩)) (e2 : tmps[8]?.getD undef = .pointer (some ⟨n2, 0, none⟩)) (h0 : Boxed W n0 2 v0) (h1 : Boxed W n1 3 v1) (h2 : Boxed W n2 4 v2) :
    (results Try.f43 tmps).run Try.prog W = .ok (.tuple #[v0, v1, v2]) W := by
  have c0 := h0.cell
  have c1 := h1.cell
  have c2 := h2.cell
  simp [results, Try.f43, go_sem, e0, e1, e2, c0, c1, c2]
theorem put_below {w W : World} {D : Nat} {o : Obj} (h : Below w.heap.size w W) (hD : w.heap.size ≤ D) : Below w.heap.size w (W.putObj D o) :=
  h.grown (grownBy_putObj' W D o) h.size (fun k e => by cases e; omega)
def tillEnd (sign need : Int) (es : List Ed) (w : World) (e : Ending) (w' : World) : Prop :=
  e = .returned (.tuple #[.int .i64 (tl.go sign need es 0 0).1, .int .i64 (tl.go sign need es 0 0).2.1, .bool (tl.go sign need es 0 0).2.2]) ∧ Below w.heap.size w w'
attribute [local go_sem] Oper.semAt_some
set_option maxHeartbeats 8000000 in
set_option maxRecDepth 100000 in
theorem till_in (sign need : Int) (gf : Nat) (lb : Array Value) (seq : List (Nat × Ed)) (w : World) (hs : sign = 1 ∨ sign = -1) (hn : 0 ≤ need ∧ need ≤ 1000000) (hl : seq.length ≤ 1000000) (hk : ∀ x ∈ seq, x.2.2 = -1 ∨ x.2.2 = 0 ∨ x.2.2 = 1)
    (eg : ∀ args w, (callFunc gf args).run Try.prog w = .ok (.enter gf args) w) (hseq : ∀ W, Iter Fence.wide 4 Try.prog gf lb encA seq (fun W => Below w.heap.size w W) W) :
    CallsIn Fence.wide 5 Try.prog 43 #[.func (.func gf) #[] lb, .int .i64 sign, .int .i64 need] w (tillEnd sign need (seq.map fun x => x.2) w) := by
  have HSEQ := Aside0.mk hseq
  have HK := Aside0.mk hk
  have HS := Aside0.mk hs
  clear hseq hk hs
  refine callsIn_of_wp_marks Try.func43 rfl trivial ?_ rfl
  simp only [Try.ntmps43, List.size_toArray, List.length_cons, List.length_nil, Nat.reduceAdd, Nat.reduceSub, Array.replicate_succ, Array.replicate_zero, List.push_toArray, List.append_toArray, List.nil_append, List.cons_append]
  gi_wp2
  obtain ⟨W0, hW0⟩ : ∃ W0, ((((((w.alloc (Obj.cells #[Value.int IntKind.i64 sign] 3)).alloc (Obj.cells #[Value.int IntKind.i64 need] 3)).alloc (Obj.cells #[Value.int IntKind.i64 0] 2)).alloc (Obj.cells #[Value.int IntKind.i64 0] 3)).alloc (Obj.cells #[Value.bool false] 4)).alloc (Obj.cells #[Value.int IntKind.i64 0] 3)) = W0 := ⟨_, rfl⟩
  have hsz : W0.heap.size = w.heap.size + 6 := by rw [← hW0]; simp
  have hI : TJ w sign need [] W0 := by
    refine ⟨0, 0, ⟨?_, ?_, ?_, ?_, ?_, ?_, ?_⟩, ⟨by simp, by simp⟩, ⟨by simp, by simp⟩, fun post => rfl⟩
    · rw [← hW0]
      exact (((((Boxed.new w _ _).alloc _).alloc _).alloc _).alloc _).alloc _
    · rw [← hW0]
      have := ((((Boxed.new (w.alloc (Obj.cells #[Value.int IntKind.i64 sign] 3)) 3 (.int .i64 need)).alloc (Obj.cells #[Value.int IntKind.i64 0] 2)).alloc (Obj.cells #[Value.int IntKind.i64 0] 3)).alloc (Obj.cells #[Value.bool false] 4)).alloc (Obj.cells #[Value.int IntKind.i64 0] 3)
      simpa using this
    · rw [← hW0]
      have := (((Boxed.new ((w.alloc (Obj.cells #[Value.int IntKind.i64 sign] 3)).alloc (Obj.cells #[Value.int IntKind.i64 need] 3)) 2 (.int .i64 0)).alloc (Obj.cells #[Value.int IntKind.i64 0] 3)).alloc (Obj.cells #[Value.bool false] 4)).alloc (Obj.cells #[Value.int IntKind.i64 0] 3)
      simpa using this
    · rw [← hW0]
      have := ((Boxed.new (((w.alloc (Obj.cells #[Value.int IntKind.i64 sign] 3)).alloc (Obj.cells #[Value.int IntKind.i64 need] 3)).alloc (Obj.cells #[Value.int IntKind.i64 0] 2)) 3 (.int .i64 0)).alloc (Obj.cells #[Value.bool false] 4)).alloc (Obj.cells #[Value.int IntKind.i64 0] 3)
      simpa using this
    · rw [← hW0]
      have := (Boxed.new ((((w.alloc (Obj.cells #[Value.int IntKind.i64 sign] 3)).alloc (Obj.cells #[Value.int IntKind.i64 need] 3)).alloc (Obj.cells #[Value.int IntKind.i64 0] 2)).alloc (Obj.cells #[Value.int IntKind.i64 0] 3)) 4 (.bool false)).alloc (Obj.cells #[Value.int IntKind.i64 0] 3)
      simpa using this
    · rw [← hW0]
      have := Boxed.new (((((w.alloc (Obj.cells #[Value.int IntKind.i64 sign] 3)).alloc (Obj.cells #[Value.int IntKind.i64 need] 3)).alloc (Obj.cells #[Value.int IntKind.i64 0] 2)).alloc (Obj.cells #[Value.int IntKind.i64 0] 3)).alloc (Obj.cells #[Value.bool false] 4)) 3 (.int .i64 0)
      simpa using this
    · rw [← hW0]
      exact below_alloc (below_alloc (below_alloc (below_alloc (below_alloc (below_alloc (Below.refl _ w) _) _) _) _) _) _
  rw [hW0]
  simp only [Nat.add_assoc, Nat.reduceAdd]
  clear hW0
  refine range_iter (n := 5) rfl (by omega) (gf := gf) (lb := lb) rfl trivial eg (HSEQ.out W0) (fun _ => rfl)
    (TJ w sign need) (TX w sign need)
    (fun _ A B row h hg hr => by obtain ⟨m, th, h1, h2⟩ := h; exact ⟨m, th, h1.kept (by omega) hg hr, h2⟩) (fun _ A B h ht => by obtain ⟨m, th, h1, h2⟩ := h; exact ⟨m, th, h1.far ht, h2⟩)
    (fun _ A B row h hg hr => by obtain ⟨a, m, th, h1, h2⟩ := h; exact ⟨a, m, th, h1.kept (by omega) hg hr, h2⟩) (fun _ A B h ht => by obtain ⟨a, m, th, h1, h2⟩ := h; exact ⟨a, m, th, h1.far ht, h2⟩)
    (fun _ _ h => by obtain ⟨m, th, h1, h2⟩ := h; exact h1.bel) hI
    (fun pre x a' W => TJ w sign need pre W ∧ ∃ bx, w.heap.size + 6 ≤ bx ∧ W.heap[bx]? = some (.cells #[.int .i64 x.2.1, .int .i64 x.2.2] 101 (0, 0)) ∧ a' = { tmps := #[.func (.func gf) #[] lb, .int .i64 sign, .int .i64 need, undef, .pointer (some ⟨w.heap.size, 0, none⟩), .pointer (some ⟨w.heap.size + 1, 0, none⟩), .pointer (some ⟨w.heap.size + 2, 0, none⟩), .pointer (some ⟨w.heap.size + 3, 0, none⟩), .pointer (some ⟨w.heap.size + 4, 0, none⟩), .pointer (some ⟨w.heap.size + 5, 0, none⟩), undef, .pointer (some ⟨bx, 0, none⟩), .func (.func gf) #[] lb, .int .i64 x.1, .agg #[.int .i64 x.2.1, .int .i64 x.2.2], undef, undef, undef, undef, undef, undef, undef, undef, undef, undef, undef, undef, undef, undef, undef, undef, undef, undef, undef], defers := [] })
    ?ownAx ?assign ?body ?done ?stop
  case ownAx =>
    rintro ⟨pre, x, a'⟩ A B row ⟨⟨m, th, h1, h2⟩, bx, hb1, hb2, hb3⟩ hg hr
    exact ⟨⟨m, th, h1.kept (by omega) hg hr, h2⟩, bx, hb1, (grownBy_keeps_cells hg (fun r e => (hr r e).2) hb2 rfl).trans hb2, hb3⟩
  case assign =>
    intro l pre x W K hI1 hK
    obtain ⟨m, th, h1, h2⟩ := hI1
    unfold encA
    gi_wp2
    have hlt : w.heap.size + 6 ≤ W.heap.size := by
      have := h1.b5.lt
      omega
    exact hK _ _ (KeepsOthers.alloc W _) ⟨⟨m, th, h1.far (below_alloc (Below.refl _ W) _), h2⟩, W.heap.size, by omega, blk_new W _, rfl⟩
  case body =>
    rintro l pre x post a' W hall ⟨⟨m, th, hTI, hm, hth, hgo⟩, bx, hb1, hb2, rfl⟩
    have hxk := HK.out x (by rw [hall]; simp)
    have hpl : pre.length + 1 ≤ 1000000 := by
      have := congrArg List.length hall
      rw [List.length_append, List.length_cons] at this
      omega
    obtain ⟨i, a, k⟩ := x
    simp only at hxk hb2
    have kx0 := (blk_cell hb2 0).trans (show _ = some (Value.int .i64 a) from rfl)
    have kx1 := (blk_cell hb2 1).trans (show _ = some (Value.int .i64 k) from rfl)
    have m0 := hTI.b0.cell
    have m1 := hTI.b1.cell
    have m2 := hTI.b2.cell
    have m3 := hTI.b3.cell
    have m4 := hTI.b4.cell
    have m5 := hTI.b5.cell
    have f2 := hTI.b2.frozen
    have f3 := hTI.b3.frozen
    have f4 := hTI.b4.frozen
    have f5 := hTI.b5.frozen
    have HGO := Aside0.mk hgo
    have HTI := Aside0.mk hTI
    have HALL := Aside0.mk hall
    clear hgo hTI hall hI
    by_cases hk0 : k = 0
    · subst hk0
      obtain ⟨hm0, hm1⟩ := hm
      gi_wp2
      refine ⟨KeepsOthers.setCell _ _ _, m + 1, th, ⟨box_far HTI.out.b0 (by omega) _, box_far HTI.out.b1 (by omega) _, box_far HTI.out.b2 (by omega) _, HTI.out.b3.set _, box_far HTI.out.b4 (by omega) _, box_far HTI.out.b5 (by omega) _, HTI.out.bel.setCell (p := ⟨_, 0, none⟩) (by simp) _⟩, ⟨by omega, by simp; omega⟩, ⟨by simp; omega, by simp; omega⟩, fun post' => ?_⟩
      rw [List.map_append, List.append_assoc, HGO.out]
      show tl.go sign need ((a, 0) :: post') th m = _
      rw [tl.go, if_pos rfl]
    · have hkb : (k == 0) = false := beq_eq_false_iff_ne.2 hk0
      obtain ⟨hth0, hth1⟩ := hth
      obtain ⟨s, hs⟩ : ∃ s, sign * k = s := ⟨_, rfl⟩
      have hsb : -1 ≤ s ∧ s ≤ 1 := by
        rcases HS.out with rfl | rfl <;> rcases hxk with rfl | rfl | rfl <;> omega
      have hsw : wrap64 (sign * k) = s := by rw [hs]; unfold wrap64; omega
      obtain ⟨hs0, hs1⟩ := hsb
      by_cases hhit : need ≤ th - s
      · have hh := eq_true hhit
        gi_wp2
        gi_region
        all_goals
          gi_wp2
          refine ⟨((((KeepsOthers.setCell _ _ _).trans (KeepsOthers.setCell _ _ _)).trans (KeepsOthers.setCell _ _ _)).trans (KeepsOthers.setCell _ _ _)).trans (KeepsOthers.drew _), a, m, th - s, ⟨?_, ?_, ?_, ?_, ?_, ?_, ?_⟩, fun post' => ?_⟩
          · exact blk_drew (box_far (box_far (box_far (box_far HTI.out.b0 (by omega) _) (by omega) _) (by omega) _) (by omega) _)
          · exact blk_drew (box_far (box_far (box_far (box_far HTI.out.b1 (by omega) _) (by omega) _) (by omega) _) (by omega) _)
          · exact blk_drew (box_far (box_far ((box_far HTI.out.b2 (by omega) _).set _) (by omega) _) (by omega) _)
          · exact blk_drew (box_far ((box_far (box_far HTI.out.b3 (by omega) _) (by omega) _).set _) (by omega) _)
          · exact blk_drew ((box_far (box_far (box_far HTI.out.b4 (by omega) _) (by omega) _) (by omega) _).set _)
          · exact blk_drew (box_far (box_far (box_far (HTI.out.b5.set _) (by omega) _) (by omega) _) (by omega) _)
          · exact below_drew1 ((((HTI.out.bel.setCell (p := ⟨_, 0, none⟩) (by simp) _).setCell (p := ⟨_, 0, none⟩) (by simp) _).setCell (p := ⟨_, 0, none⟩) (by simp) _).setCell (p := ⟨_, 0, none⟩) (by simp) _)
          · rw [List.map_append, List.append_assoc, HGO.out]
            show tl.go sign need ((a, k) :: post') th m = _
            rw [tl.go, if_neg hk0, if_pos (by show need ≤ th - sign * k; rw [hs]; exact hhit)]
      · have hh := eq_false hhit
        gi_wp2
        refine ⟨KeepsOthers.setCell _ _ _, m, th - s, ⟨box_far HTI.out.b0 (by omega) _, box_far HTI.out.b1 (by omega) _, box_far HTI.out.b2 (by omega) _, box_far HTI.out.b3 (by omega) _, box_far HTI.out.b4 (by omega) _, HTI.out.b5.set _, HTI.out.bel.setCell (p := ⟨_, 0, none⟩) (by simp) _⟩, ⟨by omega, by simp; omega⟩, ⟨by simp; omega, by simp; omega⟩, fun post' => ?_⟩
        rw [List.map_append, List.append_assoc, HGO.out]
        show tl.go sign need ((a, k) :: post') th m = _
        rw [tl.go, if_neg hk0, if_neg (by show ¬ need ≤ th - sign * k; rw [hs]; omega), hs]
  case done =>
    rintro D W hD ⟨m, th, hTI, hm, hth, hgo⟩ hK
    have m2 := hTI.b2.cell
    have m3 := hTI.b3.cell
    have m4 := hTI.b4.cell
    have f2 := hTI.b2.frozen
    have f3 := hTI.b3.frozen
    have f4 := hTI.b4.frozen
    have HGO := Aside0.mk hgo
    have HTI := Aside0.mk hTI
    clear hgo hTI hI
    gi_wp2
    obtain ⟨W3, hW3⟩ : ∃ W3, ((W.setCell ⟨w.heap.size + 2, 0, none⟩ (Value.int .i64 0)).setCell ⟨w.heap.size + 3, 0, none⟩ (Value.int .i64 0)).setCell ⟨w.heap.size + 4, 0, none⟩ (Value.bool false) = W3 := ⟨_, rfl⟩
    rw [hW3]
    have x0 : Boxed W3 (w.heap.size + 2) 2 (.int .i64 0) := hW3 ▸ box_far (box_far (HTI.out.b2.set _) (by omega) _) (by omega) _
    have x1 : Boxed W3 (w.heap.size + 3) 3 (.int .i64 0) := hW3 ▸ box_far ((box_far HTI.out.b3 (by omega) _).set _) (by omega) _
    have x2 : Boxed W3 (w.heap.size + 4) 4 (.bool false) := hW3 ▸ (box_far (box_far HTI.out.b4 (by omega) _) (by omega) _).set _
    have hK3 : W3.heap[D]? = some (.deferred (some [])) := hW3 ▸ (((KeepsOthers.setCell _ _ _).trans (KeepsOthers.setCell _ _ _)).trans (KeepsOthers.setCell _ _ _)).same _ _ hK rfl
    have B3 : Below w.heap.size w W3 := hW3 ▸ ((HTI.out.bel.setCell (p := ⟨_, 0, none⟩) (by simp) _).setCell (p := ⟨_, 0, none⟩) (by simp) _).setCell (p := ⟨_, 0, none⟩) (by simp) _
    refine ⟨by simp, .inl ⟨_, _, rfl, run_takeDeferred hK3, ?_⟩⟩
    refine ⟨_, till_res rfl rfl rfl (x0.kept (grownBy_putObj' W3 D _) (by intro e; injection e with e; omega)) (x1.kept (grownBy_putObj' W3 D _) (by intro e; injection e with e; omega)) (x2.kept (grownBy_putObj' W3 D _) (by intro e; injection e with e; omega)), ?_⟩
    have e := HGO.out []
    rw [List.append_nil] at e
    unfold tillEnd
    rw [e]
    exact ⟨rfl, put_below B3 (by omega)⟩
  case stop =>
    rintro D pre x post W hD hall ⟨a, m, th, hTI, hgo⟩ hK
    have e := hgo (post.map fun x => x.2)
    rw [← List.map_append, show pre ++ [x] ++ post = seq by rw [hall, List.append_assoc]; rfl] at e
    gi_wp2
    refine ⟨by simp, .inl ⟨_, _, rfl, run_takeDeferred hK, ?_⟩⟩
    refine ⟨_, till_res rfl rfl rfl (hTI.b2.kept (grownBy_putObj' W D _) (by intro e; injection e with e; omega)) (hTI.b3.kept (grownBy_putObj' W D _) (by intro e; injection e with e; omega)) (hTI.b4.kept (grownBy_putObj' W D _) (by intro e; injection e with e; omega)), ?_⟩
    unfold tillEnd
    rw [e]
    exact ⟨rfl, put_below hTI.bel (by omega)⟩
theorem till_calls (sign need : Int) (gf : Nat) (lb : Array Value) (seq : List (Nat × Ed)) (w : World) (hs : sign = 1 ∨ sign = -1) (hn : 0 ≤ need ∧ need ≤ 1000000) (hl : seq.length ≤ 1000000) (hk : ∀ x ∈ seq, x.2.2 = -1 ∨ x.2.2 = 0 ∨ x.2.2 = 1)
    (eg : ∀ args w, (callFunc gf args).run Try.prog w = .ok (.enter gf args) w) (hseq : ∀ W, Iter Fence.wide 4 Try.prog gf lb encA seq (fun W => Below w.heap.size w W) W) :
    Calls Try.prog 43 #[.func (.func gf) #[] lb, .int .i64 sign, .int .i64 need] w (tillEnd sign need (seq.map fun x => x.2) w) := callsIn_wide.1 (till_in sign need gf lb seq w hs hn hl hk eg hseq)

open Go.Shelf Go.Lib
def sortE_ren : Go.Shelf.Ren := ⟨fun | 6 => 62 | 15 => 70 | 14 => 73 | 28 => 83 | 29 => 84 | 20 => 85 | 21 => 86 | 22 => 87 | 23 => 88 | 24 => 89 | 25 => 90 | 26 => 91 | 27 => 92 | 46 => 98 | 47 => 94 | 48 => 95 | 49 => 99 | 50 => 100 | 57 => 102 | n => n, fun | 22 => 93 | 24 => 101 | 25 => 113 | 3 => 3 | 39 => 120 | 0 => 0 | 53 => 50 | 55 => 134 | 4 => 4 | 46 => 127 | 45 => 126 | 50 => 84 | 5 => 5 | 9 => 9 | 66 => 140 | 70 => 144 | 76 => 148 | 77 => 149 | n => n, fun | n => n⟩
theorem sortE : Go.Proofs.SlLaysF0.n6 Try.prog sortE_ren := {
  mixed := by kernel_rfl
  f6 := ⟨Try.f62.name, by decide, Try.func62.trans (congrArg some (by kernel_rfl))⟩
  f14 := ⟨Try.f73.name, by decide, Try.func73.trans (congrArg some (by kernel_rfl))⟩
  f15 := Try.func70.trans (congrArg some (by kernel_rfl))
  f20 := ⟨Try.f85.name, by decide, Try.func85.trans (congrArg some (by kernel_rfl))⟩
  f21 := ⟨Try.f86.name, by decide, Try.func86.trans (congrArg some (by kernel_rfl))⟩
  f22 := ⟨Try.f87.name, by decide, Try.func87.trans (congrArg some (by kernel_rfl))⟩
  f23 := ⟨Try.f88.name, by decide, Try.func88.trans (congrArg some (by kernel_rfl))⟩
  f24 := ⟨Try.f89.name, by decide, Try.func89.trans (congrArg some (by kernel_rfl))⟩
  f25 := ⟨Try.f90.name, by decide, Try.func90.trans (congrArg some (by kernel_rfl))⟩
  f26 := ⟨Try.f91.name, by decide, Try.func91.trans (congrArg some (by kernel_rfl))⟩
  f27 := ⟨Try.f92.name, by decide, Try.func92.trans (congrArg some (by kernel_rfl))⟩
  f28 := Try.func83.trans (congrArg some (by kernel_rfl))
  f29 := Try.func84.trans (congrArg some (by kernel_rfl))
  f46 := ⟨Try.f98.name, by decide, Try.func98.trans (congrArg some (by kernel_rfl))⟩
  f47 := Try.func94.trans (congrArg some (by kernel_rfl))
  f48 := Try.func95.trans (congrArg some (by kernel_rfl))
  f49 := ⟨Try.f99.name, by decide, Try.func99.trans (congrArg some (by kernel_rfl))⟩
  f50 := ⟨Try.f100.name, by decide, Try.func100.trans (congrArg some (by kernel_rfl))⟩
  f57 := ⟨Try.f102.name, by decide, Try.func102.trans (congrArg some (by kernel_rfl))⟩
  t0 := Try.underlying0
  a0 := Try.isAgg0
  z0 := Try.sizeOf0
  v0 := Try.zeroValue0
  t3 := Try.underlying3
  a3 := Try.isAgg3
  z3 := Try.sizeOf3
  v3 := Try.zeroValue3
  t4 := Try.underlying4
  a4 := Try.isAgg4
  z4 := Try.sizeOf4
  v4 := Try.zeroValue4
  t5 := Try.underlying5
  a5 := Try.isAgg5
  z5 := Try.sizeOf5
  v5 := Try.zeroValue5
  t9 := Try.underlying9
  a9 := Try.isAgg9
  z9 := Try.sizeOf9
  v9 := Try.zeroValue9
  t22 := Try.underlying93
  a22 := Try.isAgg93
  z22 := Try.sizeOf93
  v22 := Try.zeroValue93
  t25 := Try.underlying113
  a25 := Try.isAgg113
  z25 := Try.sizeOf113
  v25 := Try.zeroValue113
  t39 := Try.underlying120
  a39 := Try.isAgg120
  z39 := Try.sizeOf120
  v39 := Try.zeroValue120
  t45 := Try.underlying126
  a45 := Try.isAgg126
  z45 := Try.sizeOf126
  v45 := Try.zeroValue126
  t46 := Try.underlying127
  a46 := Try.isAgg127
  z46 := Try.sizeOf127
  v46 := Try.zeroValue127
  t50 := Try.underlying84
  a50 := Try.isAgg84
  z50 := Try.sizeOf84
  v50 := Try.zeroValue84
  t53 := Try.underlying50
  a53 := Try.isAgg50
  z53 := Try.sizeOf50
  v53 := Try.zeroValue50
  t55 := Try.underlying134
  a55 := Try.isAgg134
  z55 := Try.sizeOf134
  v55 := Try.zeroValue134
  t66 := Try.underlying140
  a66 := Try.isAgg140
  z66 := Try.sizeOf140
  v66 := Try.zeroValue140
  t70 := Try.underlying144
  a70 := Try.isAgg144
  z70 := Try.sizeOf144
  v70 := Try.zeroValue144
  t76 := Try.underlying148
  a76 := Try.isAgg148
  z76 := Try.sizeOf148
  v76 := Try.zeroValue148
  t77 := Try.underlying149
  a77 := Try.isAgg149
  z77 := Try.sizeOf149
  v77 := Try.zeroValue149 }
def cmpL_ren : Go.Shelf.Ren := ⟨fun | 5 => 59 | 7 => 71 | n => n, fun | 22 => 2 | 3 => 3 | 4 => 4 | n => n, fun | n => n⟩
theorem cmpL : Go.Proofs.SlLaysC2.n5 Try.prog cmpL_ren := {
  mixed := by kernel_rfl
  f5 := ⟨Try.f59.name, by decide, Try.func59.trans (congrArg some (by kernel_rfl))⟩
  f7 := ⟨Try.f71.name, by decide, Try.func71.trans (congrArg some (by kernel_rfl))⟩
  t3 := Try.underlying3
  a3 := Try.isAgg3
  z3 := Try.sizeOf3
  v3 := Try.zeroValue3
  t4 := Try.underlying4
  a4 := Try.isAgg4
  z4 := Try.sizeOf4
  v4 := Try.zeroValue4
  t22 := Try.underlying2
  a22 := Try.isAgg2
  z22 := Try.sizeOf2
  v22 := Try.zeroValue2 }
def cmpN_ren : Go.Shelf.Ren := ⟨fun | 5 => 60 | 7 => 72 | n => n, fun | 22 => 3 | 3 => 3 | 4 => 4 | n => n, fun | n => n⟩
theorem cmpN : Go.Proofs.SlLaysC2.n5 Try.prog cmpN_ren := {
  mixed := by kernel_rfl
  f5 := ⟨Try.f60.name, by decide, Try.func60.trans (congrArg some (by kernel_rfl))⟩
  f7 := ⟨Try.f72.name, by decide, Try.func72.trans (congrArg some (by kernel_rfl))⟩
  t3 := Try.underlying3
  a3 := Try.isAgg3
  z3 := Try.sizeOf3
  v3 := Try.zeroValue3
  t4 := Try.underlying4
  a4 := Try.isAgg4
  z4 := Try.sizeOf4
  v4 := Try.zeroValue4
  t22 := Try.underlying3
  a22 := Try.isAgg3
  z22 := Try.sizeOf3
  v22 := Try.zeroValue3 }

def cmpE (x y : Ed) : Int := if Lib.compareInt x.1 y.1 = 0 then Lib.compareInt x.2 y.2 else Lib.compareInt x.1 y.1
def encE (x : Ed) : List Value := [.int .i64 x.1, .int .i64 x.2]
theorem or2 (a b : Int) : cmp_Or_int.f 4 [a, b] = some (if a = 0 then b else a) := by
  have w1 : wrap64 1 = 1 := by unfold wrap64; omega
  have w2 : wrap64 2 = 2 := by unfold wrap64; omega
  unfold cmp_Or_int.f
  simp only [cmp_Or_int.l0, List.length_cons, List.length_nil]
  by_cases ha : a = 0
  · by_cases hb : b = 0
    · simp [Go.Proofs.YtdlbnkiolpmnbaaW.PrintWords.rd, w1, w2, ha, hb]
    · simp [Go.Proofs.YtdlbnkiolpmnbaaW.PrintWords.rd, w1, w2, ha, hb]
  · simp [Go.Proofs.YtdlbnkiolpmnbaaW.PrintWords.rd, w1, w2, ha]
theorem two_C (W : World) (g : Nat) (a b : Int) (h : W.heap[g]? = some (.cells #[.int .i64 a, .int .i64 b] 3 (0, 0))) : Kd.C (Kd.int .i64) W (some ⟨g, 0, none⟩) 2 [a, b] := by
  refine Kd.C_of_reads (d := (0 : Int)) ⟨rfl, by decide, fun _ => ⟨_, rfl, fun j hj => ?_⟩⟩
  have hj' : j < 2 := hj
  match j, hj' with
  | 0, _ => exact (blk_cell h 0).trans rfl
  | 1, _ => exact (blk_cell h 1).trans rfl
theorem or_calls (a b : Int) (g : Nat) (W : World) (h : W.heap[g]? = some (.cells #[.int .i64 a, .int .i64 b] 3 (0, 0))) :
    Calls Try.prog 58 #[.slice (some ⟨g, 0, none⟩) 2 2] W fun e w' => e = .returned (.int .i64 (if a = 0 then b else a)) ∧ Drawn0 W w' :=
  cmp_Or_int.calls 4 (some ⟨g, 0, none⟩) 2 [a, b] _ W (two_C W g a b h) (Nat.le_refl _) (or2 a b)
attribute [local go_sem ↓] Go.wp_at_zero Go.wp_at_succ
set_option maxHeartbeats 4000000 in
theorem cmpE_calls (x y : Ed) (W : World) : Calls Try.prog 63 #[.agg #[.int .i64 x.1, .int .i64 x.2], .agg #[.int .i64 y.1, .int .i64 y.2]] W fun e w' => e = .returned (.int .i64 (cmpE x y)) ∧ ∃ q os', w' = Go.Sort.grow (W.drewN q) os' := by
  have hL := fun a b W' => AnyG.cmp_Compare_int cmpL a b W'
  have hN := fun a b W' => AnyG.cmp_Compare_int cmpN a b W'
  change ∀ a b W', Calls Try.prog 59 _ _ _ at hL
  change ∀ a b W', Calls Try.prog 60 _ _ _ at hN
  obtain ⟨x0, x1⟩ := x
  obtain ⟨y0, y1⟩ := y
  obtain ⟨c0, hc0⟩ : ∃ c, Lib.compareInt x0 y0 = c := ⟨_, rfl⟩
  obtain ⟨c1, hc1⟩ : ∃ c, Lib.compareInt x1 y1 = c := ⟨_, rfl⟩
  have hL' := hL x0 y0
  have hN' := hN x1 y1
  rw [hc0] at hL'
  rw [hc1] at hN'
  have hE : cmpE (x0, x1) (y0, y1) = if c0 = 0 then c1 else c0 := by unfold cmpE; simp only [hc0, hc1]
  rw [hE]
  obtain ⟨r, hr⟩ : ∃ r, (if c0 = 0 then c1 else c0) = r := ⟨_, rfl⟩
  have ho := fun g W h => or_calls c0 c1 g W h
  rw [hr] at ho
  have HO := Aside0.mk ho
  clear ho
  rw [hr]
  have HL := Aside0.mk hL'
  have HN := Aside0.mk hN'
  clear hL' hN' hE hr hc0 hc1 hL hN
  have n0 := World.new_ne W
  go_enter Try.func63, Try.ntmps63
  go_wp2
  obtain ⟨W0, hW0⟩ : ∃ W0, (W.alloc (.cells #[.int .i64 x0, .int .i64 x1] 101)).alloc (.cells #[.int .i64 y0, .int .i64 y1] 101) = W0 := ⟨_, rfl⟩
  rw [hW0]
  have hx : W0.heap[W.heap.size]? = some (.cells #[.int .i64 x0, .int .i64 x1] 101 (0, 0)) := hW0 ▸ blk_alloc (blk_new W _) _
  have hy : W0.heap[W.heap.size + 1]? = some (.cells #[.int .i64 y0, .int .i64 y1] 101 (0, 0)) := by
    have := blk_new (W.alloc (.cells #[.int .i64 x0, .int .i64 x1] 101)) (.cells #[.int .i64 y0, .int .i64 y1] 101)
    rw [hW0, World.size_alloc] at this
    exact this
  have p0 := (blk_cell hx 0).trans (show _ = some (Value.int .i64 x0) from rfl)
  have p1 := (blk_cell hx 1).trans (show _ = some (Value.int .i64 x1) from rfl)
  have p2 := (blk_cell hy 0).trans (show _ = some (Value.int .i64 y0) from rfl)
  have p3 := (blk_cell hy 1).trans (show _ = some (Value.int .i64 y1) from rfl)
  have HG : ∃ q os', W0 = Go.Sort.grow (W.drewN q) os' := ⟨0, _, by rw [← hW0, Go.Sort.alloc_eq_grow, Go.Sort.alloc_eq_grow, Go.Sort.grow_grow]; rfl⟩
  have HG := Aside0.mk HG
  clear hW0 hx hy n0
  go_region_held3 (fun w' => w'.cell? ⟨W.heap.size, 0, none⟩ = some (.int .i64 x0) ∧ w'.cell? ⟨W.heap.size, 1, none⟩ = some (.int .i64 x1) ∧ w'.cell? ⟨W.heap.size + 1, 0, none⟩ = some (.int .i64 y0) ∧ w'.cell? ⟨W.heap.size + 1, 1, none⟩ = some (.int .i64 y1)) (go_keep)
    (first
      | (go_at_call 59; refine (HL.out _).mono ?_; rintro e w' ⟨rfl, rfl⟩)
      | (go_at_call 60; refine (HN.out _).mono ?_; rintro e w' ⟨rfl, rfl⟩)
      | (go_at_call 58; refine (HO.out _ _ (by exact blk_new _ _)).mono ?_; rintro e w' ⟨rfl, ⟨nq, rfl⟩⟩))
  all_goals go_wp2
  go_ret
  obtain ⟨q, os', h⟩ := HG.out
  exact ⟨rfl, q + (1 + nq), os' ++ #[.cells #[.int .i64 c0, .int .i64 c1] 3], by rw [h, Go.Sort.alloc_eq_grow, Go.Sort.grow_grow]; simp only [World.drewN, Go.Sort.grow]; rw [Nat.add_assoc]⟩
open Go.Sort
theorem lt_i (x y : Ed) : ltOf cmpE x y = decide (x.1 < y.1 ∨ (x.1 = y.1 ∧ x.2 < y.2)) := by
  unfold ltOf cmpE Lib.compareInt
  by_cases h1 : x.1 < y.1
  · simp [h1]
  · by_cases h2 : y.1 < x.1
    · have h3 : ¬ x.1 = y.1 := by omega
      simp [h1, h2, h3]
    · have h3 : x.1 = y.1 := by omega
      by_cases h4 : x.2 < y.2
      · simp [h3, h4]
      · by_cases h5 : y.2 < x.2
        · simp [h3, h4, h5]
        · simp [h3, h4, h5]
theorem swoE : SWO (ltOf cmpE) where
  irrefl x := by rw [lt_i]; simp
  trans x y z h1 h2 := by rw [lt_i] at *; simp at *; omega
  ntrans x y z h1 h2 := by rw [lt_i] at *; simp at *; omega
theorem totE (x y : Ed) (h1 : ltOf cmpE x y = false) (h2 : ltOf cmpE y x = false) : x = y := by
  rw [lt_i] at *
  simp at h1 h2
  exact Prod.ext (by omega) (by omega)
def sortedE (l : List Ed) : List Ed := l.mergeSort fun x y => !(ltOf cmpE) y x
def flatE (l : List Ed) : List Value := l.flatMap encE
theorem flatE_len (l : List Ed) : (flatE l).length = l.length * 2 := by
  unfold flatE
  induction l with
  | nil => rfl
  | cons x l ih => rw [List.flatMap_cons, List.length_append, ih, List.length_cons]; simp [encE]; omega
theorem flatE_get : ∀ (l : List Ed) (j : Nat) (h : j < l.length), (flatE l)[j * 2]? = some (.int .i64 l[j].1) ∧ (flatE l)[j * 2 + 1]? = some (.int .i64 l[j].2)
  | x :: l, 0, h => ⟨rfl, rfl⟩
  | x :: l, j + 1, h => by
    have := flatE_get l j (by simpa using h)
    have e : flatE (x :: l) = [.int .i64 x.1, .int .i64 x.2] ++ flatE l := rfl
    rw [e, show (j + 1) * 2 = j * 2 + 2 by omega]
    exact this
theorem holdsE {w : World} {base g n cap : Nat} {l : List Ed} (h : w.ownsRow base 101 2 (.slice (some ⟨g, 0, none⟩) n cap) n (flatE l)) : HoldsK encE 2 w g 0 l.toArray ∧ g < w.heap.size ∧ base ≤ g ∧ l.length = n ∧ n ≤ cap := by
  have hl : l.length = n := by have := h.1; rw [flatE_len] at this; omega
  rcases h.2 with ⟨e0, _⟩ | ⟨g', cap', cur, e, hb, hg, hn, hm, hs, ht⟩
  · cases e0
  · cases e
    refine ⟨fun j hj => ?_, (Array.getElem?_eq_some_iff.1 hg).1, hb, hl, hn⟩
    have hj' : j < n * 2 := by simpa [hl] using hj
    refine ⟨?_, by simp [World.frozen?, hg]⟩
    have e1 : (cur.toList.take (n * 2))[j]? = (flatE l)[j]? := by rw [ht]
    rw [List.getElem?_take, if_pos (by omega), Array.getElem?_toList] at e1
    simp only [World.cell?, hg, Nat.zero_add]
    simp only [Option.isSome_none, Bool.false_eq_true, if_false]
    rw [e1, get_flatK _ _ _ _ (by simpa using hj)]
    obtain ⟨q, hq⟩ : ∃ q, j / 2 = q := ⟨_, rfl⟩
    have hql : q < l.length := by omega
    obtain ⟨h0, h1⟩ := flatE_get l q hql
    have hjq : j = q * 2 ∨ j = q * 2 + 1 := by omega
    have hx : l.toArray[q]! = l[q] := by rw [getElem!_pos _ _ (by simpa using hql)]; simp
    rw [hq, hx]
    rcases hjq with rfl | rfl
    · rw [show q * 2 % 2 = 0 by omega, h0]
      rfl
    · rw [show (q * 2 + 1) % 2 = 1 by omega, h1]
      rfl
theorem sortE_calls (g c : Nat) (l : List Ed) (W : World) (hH : HoldsK encE 2 W g 0 l.toArray) (hg : g < W.heap.size) (hl : l.length ≤ 1000000) :
    Calls Try.prog 62 #[.slice (some ⟨g, 0, none⟩) l.length c, .func (.func 63) #[] #[]] W fun e w' => e = .returned (.tuple #[]) ∧ RowE w' g (sortedE l) ∧ g < w'.heap.size ∧ (∀ n, n ≤ g → n ≤ W.heap.size → Go.RowKit.Below n W w') := by
  have hS := AnyQ.slices_SortFunc_total sortE 2 Try.isAgg101 Try.sizeOf101 encE (fun _ => rfl) (fun x v hv => by simp [encE] at hv; rcases hv with rfl | rfl <;> rfl) cmpE swoE 63 #[] g 0 c l.toArray W
    (enters_of Try.func63 (by kernel_rfl) rfl) (fun m os dk _ x y => cmpE_calls x y _) hH hg (by simp; omega) totE
  refine hS.mono ?_
  rintro e w' ⟨he, n, os, rfl⟩
  obtain ⟨F, hF⟩ : ∃ F, (l.toArray.toList.mergeSort fun x y => !(ltOf cmpE) y x).toArray = F := ⟨_, rfl⟩
  have hs : F.size = l.toArray.size := by rw [← hF]; simp [List.length_mergeSort]
  have hsl : F.toList = sortedE l := by rw [← hF]; rfl
  rw [hF]
  have hh : HoldsK encE 2 (sortWorldK encE 2 W g 0 n F os) g 0 F := SWK.holds ⟨n, os, rfl⟩ hg hH hs
  refine ⟨he, fun j x hx => ?_, ?_, fun m hm hm2 => ?_⟩
  · have hj : j < F.size := by
      have := (List.getElem?_eq_some_iff.1 hx).1
      rw [← hsl] at this
      simpa using this
    have hxF : F[j]! = x := by
      rw [getElem!_pos F j hj]
      rw [← hsl, Array.getElem?_toList, Array.getElem?_eq_getElem hj] at hx
      exact Option.some.inj hx
    have a := hh.cell (i := j) (c := 0) hj (by decide)
    have b := hh.cell (i := j) (c := 1) hj (by decide)
    rw [hxF] at a b
    simp only [Nat.zero_add, Nat.add_zero] at a b
    exact ⟨a.1, b.1⟩
  · simp [sortWorldK, putRowK, putRow, mapBlock, Go.Sort.ahead]
    omega
  · have h1 : Go.RowKit.Below m W (putRowK encE 2 (Go.Sort.ahead W n) g 0 F) := Go.Lib.below_putRow (Go.RowKit.Below.refl m W) hm
    refine ⟨h1.os, h1.tape, h1.output, Nat.le_trans h1.size (by simp [sortWorldK]), fun k hk => ?_⟩
    rw [← h1.block k hk]
    unfold sortWorldK
    exact heap_grow_old _ _ (by have := h1.size; omega)

def rawE (l : List S42) : List Ed := l.flatMap fun c => [(c.f0, -1), (c.f1, 0), (c.f2, 1)]
theorem rawE_len (l : List S42) : (rawE l).length = 3 * l.length := by
  unfold rawE
  induction l with
  | nil => rfl
  | cons x l ih => rw [List.flatMap_cons, List.length_append, ih, List.length_cons]; simp; omega
theorem rawE_take (l : List S42) (j : Nat) (h : j < l.length) : rawE (l.take (j + 1)) = rawE (l.take j) ++ [(l[j].f0, -1), (l[j].f1, 0), (l[j].f2, 1)] := by
  unfold rawE
  rw [List.take_succ_eq_append_getElem h, List.flatMap_append]
  rfl
theorem flatE_app (a b : List Ed) : flatE (a ++ b) = flatE a ++ flatE b := by unfold flatE; rw [List.flatMap_append]
def edg (l : List S42) : List Ed := sortedE (rawE l)
theorem edg_len (l : List S42) : (edg l).length = 3 * l.length := by
  unfold edg sortedE
  rw [List.length_mergeSort, rawE_len]
theorem infoE : (Try.prog.info? 101).map (fun i => (i.zero, i.size, i.bytes)) = some (some (.agg #[(.int .i64 0), (.int .i64 0)]), 2, 16) := by kernel_rfl
theorem cells_new (W : World) (cs : List Value) (t : TypeId) : ∀ (j : Nat) (u : Value), cs[j]? = some u → (W.alloc (.cells cs.toArray t)).cell? (Addr.add ⟨W.heap.size, 0, none⟩ j) = some u := by
  intro j u h
  rw [add_plain]
  refine (blk_cell (blk_new W _) _).trans ?_
  simpa using h
def edgesEnd (l0 : List S42) (w : World) (e : Ending) (w' : World) : Prop :=
  Below w.heap.size w w' ∧ ((l0 = [] ∧ e = .returned (.slice none 0 0)) ∨ (∃ g c, 0 < l0.length ∧ e = .returned (.slice (some ⟨g, 0, none⟩) (edg l0).length c) ∧ RowE w' g (edg l0) ∧ w.heap.size ≤ g ∧ g < w'.heap.size))
set_option maxHeartbeats 8000000 in
set_option maxRecDepth 100000 in
theorem edges_calls (A0 : Option Addr) (c0 : Nat) (l0 : List S42) (w : World) (hr0 : Kd.C k42 w A0 l0.length l0) (hl : l0.length ≤ 100000) :
    Calls Try.prog 42 #[.slice A0 l0.length c0] w (edgesEnd l0 w) := by
  have HR0 := Aside0.mk hr0
  clear hr0
  go_enter Try.func42, Try.ntmps42
  go_wp2_with (fail)
  go_loopg [3, 8] l0.length (fun kq v3 v8 w' => ∃ (j : Nat), v8 = .int .i64 j ∧ Aside0 (j + kq = l0.length) ∧ Aside0 (w'.ownsRow w.heap.size 101 2 v3 (3 * j) (flatE (rawE (l0.take j)))) ∧ Aside0 (Below w.heap.size w w') ∧ Aside0 (j = 0 → v3 = .slice none 0 0))
  case atStart => exact ⟨0, rfl, ⟨by omega⟩, ⟨World.ownsRow_nil _ _ _ _⟩, ⟨Below.refl _ w⟩, ⟨fun _ => rfl⟩⟩
  case round =>
    obtain ⟨j, rfl, HJ, HROW, HB, HNIL⟩ := hrel
    by_cases hj : j < l0.length
    · have HH := Aside0.mk hj
      have q1 : ((j : Int) < (l0.length : Int)) = True := eq_true (by omega)
      have q0 : ((0 : Int) ≤ (j : Int)) = True := eq_true (by omega)
      obtain ⟨ad, e, hx0, hx1, hx2⟩ := at_T42 HR0.out (j : Int) (by omega) (by omega)
      cases e
      replace hx0 := (HB.out.cell (World.block_lt_of_cell? w _ hx0)).trans hx0
      replace hx1 := (HB.out.cell (World.block_lt_of_cell? w _ hx1)).trans hx1
      replace hx2 := (HB.out.cell (World.block_lt_of_cell? w _ hx2)).trans hx2
      rw [Int.toNat_natCast] at hx0 hx1 hx2
      obtain ⟨x, hx⟩ : ∃ x, rd_T42 l0 (j : Int) = x := ⟨_, rfl⟩
      rw [hx] at hx0 hx1 hx2
      obtain ⟨y0, y1, y2⟩ := x
      have hx' : l0[j]? = some ⟨y0, y1, y2⟩ := (List.getElem?_eq_getElem hj).trans (congrArg some ((rd_get42 l0 j hj).symm.trans hx))
      have HX := Aside0.mk hx'
      clear hx hx' hj
      cases gk with
      | zero => exact absurd HJ.out (by have := HH.out; omega)
      | succ k1 =>
        obtain ⟨i0, hi, hz0, hz1, hz2⟩ := info_parts infoE
        go_wp2_with (at_builtin; refine wpList_append_own _ rfl _ _ 93 rfl w.heap.size 101 i0 (.agg #[(.int .i64 0), (.int .i64 0)]) 2 16 Try.underlying93 hi hz0 hz1 hz2 rfl (by decide) _ _ _ rfl ((HROW.out.alloc _).alloc _) ⟨wr.heap.size + 1, 0, none⟩ 3 3 [.int .i64 y0, .int .i64 (-1), .int .i64 y1, .int .i64 0, .int .i64 y2, .int .i64 1] rfl rfl ?cel ?one ?len ?byt ?bas ?_; (case one => simp [Value.oneCell']); (case len => unfold maxLen; have := HH.out; omega); (case byt => have := HH.out; omega); (case bas => have := HB.out.size; simp; omega); (case cel => have := cells_new (wr.alloc (Obj.cells #[Value.int IntKind.i64 y0, Value.int IntKind.i64 y1, Value.int IntKind.i64 y2] 42)) [.int .i64 y0, .int .i64 (-1), .int .i64 y1, .int .i64 0, .int .i64 y2, .int .i64 1] 101; simpa using this); intro v' w1 hown' hgrow _)
        go_roundg k1
        case measure => omega
        case rel =>
          have hx := HX.out
          obtain ⟨hjl, hxj⟩ := List.getElem?_eq_some_iff.1 hx
          refine ⟨j + 1, ?_, ⟨by have := HJ.out; omega⟩, ⟨?_⟩, ⟨?_⟩, ⟨fun h => absurd h (by omega)⟩⟩
          · rw [show wrap64 ((j : Int) + 1) = ((j + 1 : Nat) : Int) by have := HH.out; unfold wrap64; omega]
          · rw [rawE_take l0 j hjl, hxj, flatE_app, show 3 * (j + 1) = 3 * j + 3 by omega]
            exact hown'
          · exact (below_alloc (below_alloc HB.out _) _).grown hgrow (by have := HB.out.size; simp; omega) (fun k e => by
              rcases HROW.out.2 with ⟨rfl, _⟩ | ⟨g, cap, cur, rfl, hg, _⟩
              · cases e
              · cases e
                exact hg)
    · have hjl : j = l0.length := by have := HJ.out; omega
      subst hjl
      have q1 : ((l0.length : Int) < (l0.length : Int)) = False := eq_false (by omega)
      have hrow := HROW.out
      rw [List.take_of_length_le (Nat.le_refl _)] at hrow
      by_cases h0 : l0.length = 0
      · have hl0 : l0 = [] := List.eq_nil_of_length_eq_zero h0
        subst hl0
        obtain rfl := HNIL.out rfl
        have hN := fun W => AnyF.slices_SortFunc_none sortE none 0 (.func (.func 63) #[] #[]) W
        change ∀ W, Calls Try.prog 62 _ _ _ at hN
        have HN := Aside0.mk hN
        clear hN hrow h0
        go_wp2_with (go_at_call 62; refine (HN.out _).mono ?_; rintro e w' ⟨rfl, rfl⟩)
        go_ret
        exact ⟨HB.out, .inl ⟨rfl, rfl⟩⟩
      · rcases hrow.2 with ⟨rfl, he⟩ | ⟨g, cap, cur, rfl, hg1, hgb, hn, hm, hs, ht⟩
        · exact absurd he (by omega)
        · obtain ⟨hH, hg2, hg3, hll, hcap⟩ := holdsE hrow
          have hS := sortE_calls g cap (rawE l0) wr hH hg2 (by rw [rawE_len]; omega)
          rw [hll] at hS
          have HS := Aside0.mk hS
          have HG3 := Aside0.mk hg3
          have HLL := Aside0.mk hll
          clear hS hrow hg3 hll hgb hs ht hH hg1 hn hm hcap
          go_wp2_with (go_at_call 62; refine HS.out.mono ?_; rintro e w' ⟨rfl, hR, hgw, hbel⟩)
          go_ret
          refine ⟨HB.out.trans (hbel _ HG3.out HB.out.size), .inr ⟨g, cap, by omega, ?_, hR, HG3.out, hgw⟩⟩
          rw [edg_len]
          rfl

theorem allU_map (l : List Ed) : (allU l).map (fun x => x.2) = l := by
  unfold allU
  rw [List.map_map]
  apply List.ext_getElem
  · simp
  · intro i h1 h2
    simp [List.getD_eq_getElem?_getD, h2]
theorem allD_map (l : List Ed) : (allD l).map (fun x => x.2) = l.reverse := by
  unfold allD
  rw [List.map_map]
  apply List.ext_getElem
  · simp
  · intro i h1 h2
    have h3 : i < l.length := by simpa using h2
    simp [List.getD_eq_getElem?_getD, show l.length - 1 - i < l.length by omega]
theorem rawE_kinds (l : List S42) : ∀ x ∈ rawE l, x.2 = -1 ∨ x.2 = 0 ∨ x.2 = 1 := by
  intro x hx
  unfold rawE at hx
  obtain ⟨c, _, hc⟩ := List.mem_flatMap.1 hx
  simp at hc
  rcases hc with rfl | rfl | rfl <;> simp
theorem edg_kinds (l : List S42) : ∀ x ∈ edg l, x.2 = -1 ∨ x.2 = 0 ∨ x.2 = 1 := fun x hx => rawE_kinds l x (List.mem_mergeSort.1 hx)
theorem allU_kinds (l : List S42) : ∀ x ∈ allU (edg l), x.2.2 = -1 ∨ x.2.2 = 0 ∨ x.2.2 = 1 := fun x hx => edg_kinds l x.2 (by
  have := List.mem_map_of_mem (f := fun x : Nat × Ed => x.2) hx
  rwa [allU_map] at this)
theorem allD_kinds (l : List S42) : ∀ x ∈ allD (edg l), x.2.2 = -1 ∨ x.2.2 = 0 ∨ x.2.2 = 1 := fun x hx => edg_kinds l x.2 (by
  have := List.mem_map_of_mem (f := fun x : Nat × Ed => x.2) hx
  rw [allD_map] at this
  exact List.mem_reverse.1 this)
def up (l : List S42) (need : Int) : Int × Int × Bool := tl.go 1 need (edg l) 0 0
def dn (l : List S42) (need : Int) : Int × Int × Bool := tl.go (-1) need (edg l).reverse 0 0
theorem rowE_below {w W : World} {g : Nat} {l : List Ed} (h : RowE w g l) (hb : Below w.heap.size w W) : RowE W g l := fun j x hx => ⟨cell_below (h j x hx).1 hb, cell_below (h j x hx).2 hb⟩
/-- till over all edges, up: the box of the slice lies. -/
theorem up_calls (l : List S42) (need : Int) (B g c : Nat) (W : World) (hn : 0 ≤ need ∧ need ≤ 1000000) (hl : l.length ≤ 100000) (hB : W.heap[B]? = some (.cells #[.slice (some ⟨g, 0, none⟩) (edg l).length c] 93 (0, 0))) (hr : RowE W g (edg l)) :
    Calls Try.prog 43 #[.func (.func 64) #[] #[.pointer (some ⟨B, 0, none⟩)], .int .i64 1, .int .i64 need] W fun e w' => e = .returned (.tuple #[.int .i64 (up l need).1, .int .i64 (up l need).2.1, .bool (up l need).2.2]) ∧ Below W.heap.size W w' := by
  have h := till_calls 1 need 64 #[.pointer (some ⟨B, 0, none⟩)] (allU (edg l)) W (.inl rfl) hn (by rw [allU_len, edg_len]; omega) (allU_kinds l) (enters_of Try.func64 (by kernel_rfl) rfl) (fun W' => all1 B g c (edg l) W W' hB hr (by rw [edg_len]; omega))
  rw [allU_map] at h
  exact h
theorem dn_calls (l : List S42) (need : Int) (B g c : Nat) (W : World) (hn : 0 ≤ need ∧ need ≤ 1000000) (hl : l.length ≤ 100000) (h0 : 0 < l.length) (hB : W.heap[B]? = some (.cells #[.slice (some ⟨g, 0, none⟩) (edg l).length c] 93 (0, 0))) (hr : RowE W g (edg l)) :
    Calls Try.prog 43 #[.func (.func 65) #[] #[.pointer (some ⟨B, 0, none⟩)], .int .i64 (-1), .int .i64 need] W fun e w' => e = .returned (.tuple #[.int .i64 (dn l need).1, .int .i64 (dn l need).2.1, .bool (dn l need).2.2]) ∧ Below W.heap.size W w' := by
  have h := till_calls (-1) need 65 #[.pointer (some ⟨B, 0, none⟩)] (allD (edg l)) W (.inr rfl) hn (by rw [allD_len, edg_len]; omega) (allD_kinds l) (enters_of Try.func65 (by kernel_rfl) rfl) (fun W' => back1 B g c (edg l) W W' hB hr (by rw [edg_len]; omega) (by rw [edg_len]; omega))
  rw [allD_map] at h
  exact h
theorem maj_res {W : World} {tmps : Array Value} {n0 : Nat} {a b : Int} {v : Value} (e0 : tmps[2]?.getD undef = .pointer (some ⟨n0, 0, none⟩)) (e1 : tmps[3]?.getD undef = v) (h : W.heap[n0]? = some (.cells #[.int .i64 a, .int .i64 b] 44 (0, 0))) :
    (results Try.f24 tmps).run Try.prog W = .ok (.tuple #[.agg #[.int .i64 a, .int .i64 b], v]) W := by
  have c0 := (blk_cell h 0).trans (show _ = some (Value.int .i64 a) from rfl)
  have c1 := (blk_cell h 1).trans (show _ = some (Value.int .i64 b) from rfl)
  simp [results, Try.f24, go_sem, e0, e1, c0, c1]
theorem meet_res {W : World} {tmps : Array Value} {n0 : Nat} {a b : Int} {v u : Value} (e0 : tmps[2]?.getD undef = .pointer (some ⟨n0, 0, none⟩)) (e1 : tmps[3]?.getD undef = v) (e2 : tmps[4]?.getD undef = u) (h : W.heap[n0]? = some (.cells #[.int .i64 a, .int .i64 b] 44 (0, 0))) :
    (results Try.f23 tmps).run Try.prog W = .ok (.tuple #[.agg #[.int .i64 a, .int .i64 b], v, u]) W := by
  have c0 := (blk_cell h 0).trans (show _ = some (Value.int .i64 a) from rfl)
  have c1 := (blk_cell h 1).trans (show _ = some (Value.int .i64 b) from rfl)
  simp [results, Try.f23, go_sem, e0, e1, e2, c0, c1]
def mjr (l : List S42) : Int × Int × Bool := if l.length = 0 then (0, 0, false) else if (up l ((l.length : Int) / 2 + 1)).2.2 = true then ((up l ((l.length : Int) / 2 + 1)).1, (dn l ((l.length : Int) / 2 + 1)).1, true) else (0, 0, false)
def majorEnd (l : List S42) (w : World) (e : Ending) (w' : World) : Prop := e = .returned (.tuple #[.agg #[.int .i64 (mjr l).1, .int .i64 (mjr l).2.1], .bool (mjr l).2.2]) ∧ Below w.heap.size w w'
set_option maxHeartbeats 4000000 in
set_option maxRecDepth 100000 in
theorem major_calls (A0 : Option Addr) (c0 : Nat) (l0 : List S42) (w : World) (hr0 : Kd.C k42 w A0 l0.length l0) (hl : l0.length ≤ 100000) :
    Calls Try.prog 24 #[.slice A0 l0.length c0] w (majorEnd l0 w) := by
  have HR0 := Aside0.mk hr0
  have HL := Aside0.mk hl
  clear hr0
  by_cases h0 : l0.length = 0
  · have hm : mjr l0 = (0, 0, false) := by unfold mjr; rw [if_pos h0]
    have hE : majorEnd l0 w = fun e w' => e = .returned (.tuple #[.agg #[.int .i64 0, .int .i64 0], .bool false]) ∧ Below w.heap.size w w' := by unfold majorEnd; rw [hm]
    rw [hE]
    rw [h0]
    clear hE hm h0 hl
    go_enter Try.func24, Try.ntmps24
    go_wp2_with (fail)
    exact bodyPost_ret (v := .tuple #[.agg #[.int .i64 0, .int .i64 0], .bool false]) (by simp [results, Try.f24, go_sem]) rfl ⟨rfl, below_alloc (Below.refl _ w) _⟩
  · have hlen : (l0.length == 0) = false := beq_eq_false_iff_ne.2 h0
    have hlen2 : ((l0.length : Int) == 0) = false := beq_eq_false_iff_ne.2 (by omega)
    obtain ⟨⟨u1, u2, u3⟩, hu⟩ : ∃ u, up l0 ((l0.length : Int) / 2 + 1) = u := ⟨_, rfl⟩
    obtain ⟨⟨d1, d2, d3⟩, hd⟩ : ∃ u, dn l0 ((l0.length : Int) / 2 + 1) = u := ⟨_, rfl⟩
    have hm : mjr l0 = if u3 = true then (u1, d1, true) else (0, 0, false) := by unfold mjr; rw [if_neg h0, hu, hd]
    have HE := fun W (h : Kd.C k42 W A0 l0.length l0) => edges_calls A0 c0 l0 W h hl
    have HE := Aside0.mk HE
    have HM := Aside0.mk hm
    have H0 := Aside0.mk h0
    have hU := fun B g c W hB hr => up_calls l0 ((l0.length : Int) / 2 + 1) B g c W (by omega) hl hB hr
    have hD := fun B g c W hB hr => dn_calls l0 ((l0.length : Int) / 2 + 1) B g c W (by omega) hl (by omega) hB hr
    rw [hu] at hU
    rw [hd] at hD
    have HU := Aside0.mk hU
    have HD := Aside0.mk hD
    clear hm h0 hu hd hU hD
    go_enter Try.func24, Try.ntmps24
    go_wp2_with (fail)
    refine (HE.out _ (Kd.C_below HR0.out (below_alloc (Below.refl _ w) _))).mono ?_
    rintro e w1 ⟨hb1, (⟨h, _⟩ | ⟨g, c, hpos, rfl, hR, hg1, hg2⟩)⟩
    · exact absurd (by rw [h]; rfl) H0.out
    have hn1 := blk_below (blk_new w (Obj.cells #[Value.int IntKind.i64 0, Value.int IntKind.i64 0] 44)) hb1
    have B1 := Aside0.mk ((below_alloc (Below.refl _ w) _).trans (hb1.mono (by simp)))
    have HN1 := Aside0.mk hn1
    have HRR := Aside0.mk hR
    clear hR hb1 hn1 hpos
    go_wp2_with (fail)
    refine (all_calls _ (some ⟨g, 0, none⟩) _ c rfl _).mono ?_
    rintro e w2 ⟨rfl, rfl⟩
    go_wp2_with (fail)
    refine (HU.out w1.heap.size g c _ (blk_new w1 _) (rowE_below HRR.out (below_alloc (Below.refl _ w1) _))).mono ?_
    rintro e w3 ⟨rfl, hb3⟩
    have B3 := Aside0.mk ((below_alloc B1.out _).trans (hb3.mono (by have := B1.out.size; simp; omega)))
    have R3 := Aside0.mk (rowE_below HRR.out ((below_alloc (Below.refl _ w1) _).trans (hb3.mono (by simp))))
    have N3 := Aside0.mk (blk_below HN1.out ((below_alloc (Below.refl _ w1) _).trans (hb3.mono (by simp))))
    clear hb3 hg2
    go_wp2_with (fail)
    refine (back_calls _ (some ⟨g, 0, none⟩) _ c rfl _).mono ?_
    rintro e w4 ⟨rfl, rfl⟩
    go_wp2_with (fail)
    refine (HD.out w3.heap.size g c _ (blk_new w3 _) (rowE_below R3.out (below_alloc (Below.refl _ w3) _))).mono ?_
    rintro e w5 ⟨rfl, hb5⟩
    have B5 := Aside0.mk ((below_alloc B3.out _).trans (hb5.mono (by have := B3.out.size; simp; omega)))
    have N5 := blk_below N3.out ((below_alloc (Below.refl _ w3) _).trans (hb5.mono (by simp)))
    have s0 := (blk_cell N5 0).trans (show _ = some (Value.int .i64 0) from rfl)
    have s1 := (blk_cell N5 1).trans (show _ = some (Value.int .i64 0) from rfl)
    have f0 := blk_frozen N5 0
    have f1 := blk_frozen N5 1
    have N5a := Aside0.mk N5
    clear hb5 N5
    cases u3 with
    | false =>
      go_wp2_with (fail)
      refine bodyPost_ret (maj_res rfl rfl (blk_put (blk_put N5a.out 0 (.int .i64 0) rfl) 1 (.int .i64 0) rfl)) rfl ?_
      refine ⟨?_, (B5.out.setCell (p := ⟨_, 0, none⟩) (Nat.le_refl _) _).setCell (p := ⟨_, 1, none⟩) (Nat.le_refl _) _⟩
      rw [HM.out]
      rfl
    | true =>
      go_wp2_with (fail)
      refine bodyPost_ret (maj_res rfl rfl (blk_put (blk_put N5a.out 0 (.int .i64 u1) rfl) 1 (.int .i64 d1) rfl)) rfl ?_
      refine ⟨?_, (B5.out.setCell (p := ⟨_, 0, none⟩) (Nat.le_refl _) _).setCell (p := ⟨_, 1, none⟩) (Nat.le_refl _) _⟩
      rw [HM.out]
      rfl
/-- Meet's rounds from one number of falsetickers on. -/
def mt.go (l : List S42) (n : Int) : Nat → Int → Int × Int × Int × Bool
  | 0, _ => (0, 0, 0, false)
  | k + 1, i => if (up l (n - i)).2.2 = true ∧ (dn l (n - i)).2.2 = true ∧ (up l (n - i)).2.1 + (dn l (n - i)).2.1 ≤ i ∧ (up l (n - i)).1 ≤ (dn l (n - i)).1 then ((up l (n - i)).1, (dn l (n - i)).1, i, true) else mt.go l n k (i + 1)
def mt (l : List S42) : Int × Int × Int × Bool := mt.go l (l.length : Int) ((l.length + 1) / 2) 0
def meetEnd (l : List S42) (w : World) (e : Ending) (w' : World) : Prop := e = .returned (.tuple #[.agg #[.int .i64 (mt l).1, .int .i64 (mt l).2.1], .int .i64 (mt l).2.2.1, .bool (mt l).2.2.2]) ∧ Below w.heap.size w w'
theorem tl_bound (sign need : Int) : ∀ (es : List Ed) (th m : Int), 0 ≤ m → 0 ≤ (tl.go sign need es th m).2.1 ∧ (tl.go sign need es th m).2.1 ≤ m + es.length
  | [], th, m, hm => by simp [tl.go]; omega
  | x :: r, th, m, hm => by
    rw [tl.go]
    split
    · have := tl_bound sign need r th (m + 1) (by omega)
      simp
      omega
    · split
      · simp
        omega
      · have := tl_bound sign need r (th - sign * x.2) m hm
        simp
        omega
theorem meetEnd_nil (w : World) : meetEnd [] w = fun e w' => e = .returned (.tuple #[.agg #[.int .i64 0, .int .i64 0], .int .i64 0, .bool false]) ∧ Below w.heap.size w w' := rfl
set_option maxHeartbeats 8000000 in
set_option maxRecDepth 100000 in
theorem meet_calls (A0 : Option Addr) (c0 : Nat) (l0 : List S42) (w : World) (hr0 : Kd.C k42 w A0 l0.length l0) (hl : l0.length ≤ 100000) :
    Calls Try.prog 23 #[.slice A0 l0.length c0] w (meetEnd l0 w) := by
  have HR0 := Aside0.mk hr0
  have HE := fun W (h : Kd.C k42 W A0 l0.length l0) => edges_calls A0 c0 l0 W h hl
  have HE := Aside0.mk HE
  clear hr0
  obtain ⟨H, hH⟩ : ∃ H : Nat, (l0.length + 1) / 2 = H := ⟨_, rfl⟩
  have hHi : ((l0.length : Int) + 1) / 2 = (H : Int) := by omega
  have HHH := Aside0.mk hH
  have HHi := Aside0.mk hHi
  clear hH hHi
  go_enter Try.func23, Try.ntmps23
  go_wp2_with (fail)
  refine (HE.out _ (Kd.C_below HR0.out (below_alloc (Below.refl _ w) _))).mono ?_
  rintro e w1 ⟨hb1, hres⟩
  have hn1 := blk_below (blk_new w (Obj.cells #[Value.int IntKind.i64 0, Value.int IntKind.i64 0] 44)) hb1
  have B1 := Aside0.mk ((below_alloc (Below.refl _ w) _).trans (hb1.mono (by simp)))
  have HN1 := Aside0.mk hn1
  clear hb1 hn1
  rcases hres with ⟨h, rfl⟩ | ⟨g, c, hpos, rfl, hR, hg1, hg2⟩
  · subst h
    have hH0 : H = 0 := by have := HHH.out; simp at this; omega
    subst hH0
    have s0 := (blk_cell HN1.out 0).trans (show _ = some (Value.int .i64 0) from rfl)
    have s1 := (blk_cell HN1.out 1).trans (show _ = some (Value.int .i64 0) from rfl)
    have f0 := blk_frozen HN1.out 0
    have f1 := blk_frozen HN1.out 1
    go_wp2_with (fail)
    refine wp_loop_rounds 1 ?_
    rw [rounds_succ]
    go_wp2_with (fail)
    refine bodyPost_ret (meet_res rfl rfl rfl (blk_put (blk_put HN1.out 0 (.int .i64 0) rfl) 1 (.int .i64 0) rfl)) rfl ?_
    exact ⟨rfl, (B1.out.setCell (p := ⟨_, 0, none⟩) (Nat.le_refl _) _).setCell (p := ⟨_, 1, none⟩) (Nat.le_refl _) _⟩
  · have HRR := Aside0.mk hR
    have HG := Aside0.mk hg1
    have HP := Aside0.mk hpos
    clear hR hg1 hg2 hpos
    go_wp2_with (fail)
    go_loopg [19] H (fun kq v19 w' => ∃ (i : Nat), v19 = .int .i64 i ∧ Aside0 (i + kq = H) ∧ Aside0 (Below w.heap.size w w') ∧ Aside0 (RowE w' g (edg l0)) ∧ Aside0 (w'.heap[w.heap.size]? = some (.cells #[.int .i64 0, .int .i64 0] 44 (0, 0))) ∧ Aside0 (mt l0 = mt.go l0 (l0.length : Int) kq (i : Int)))
    case atStart => exact ⟨0, rfl, ⟨by omega⟩, B1, HRR, HN1, ⟨by unfold mt; rw [HHH.out]; rfl⟩⟩
    case round =>
      obtain ⟨i, rfl, HI, HB, HR, HN, HM⟩ := hrel
      have s0 := (blk_cell HN.out 0).trans (show _ = some (Value.int .i64 0) from rfl)
      have s1 := (blk_cell HN.out 1).trans (show _ = some (Value.int .i64 0) from rfl)
      have f0 := blk_frozen HN.out 0
      have f1 := blk_frozen HN.out 1
      by_cases hi : i < H
      · have q1 : ((i : Int) < ((l0.length : Int) + 1) / 2) = True := eq_true (by have := HHi.out; omega)
        have hil : i ≤ l0.length := by have := HHH.out; omega
        have hd0 : 0 ≤ (l0.length : Int) - (i : Int) := by omega
        obtain ⟨⟨u1, u2, u3⟩, hu⟩ : ∃ u, up l0 ((l0.length : Int) - (i : Int)) = u := ⟨_, rfl⟩
        obtain ⟨⟨d1, d2, d3⟩, hd⟩ : ∃ u, dn l0 ((l0.length : Int) - (i : Int)) = u := ⟨_, rfl⟩
        have bu : 0 ≤ u2 ∧ u2 ≤ 3 * l0.length := by
          have := tl_bound 1 ((l0.length : Int) - (i : Int)) (edg l0) 0 0 (by omega)
          rw [show tl.go 1 ((l0.length : Int) - (i : Int)) (edg l0) 0 0 = (u1, u2, u3) from hu, edg_len] at this
          simp at this
          omega
        have bd : 0 ≤ d2 ∧ d2 ≤ 3 * l0.length := by
          have := tl_bound (-1) ((l0.length : Int) - (i : Int)) (edg l0).reverse 0 0 (by omega)
          rw [show tl.go (-1) ((l0.length : Int) - (i : Int)) (edg l0).reverse 0 0 = (d1, d2, d3) from hd, List.length_reverse, edg_len] at this
          simp at this
          omega
        obtain ⟨bu0, bu1⟩ := bu
        obtain ⟨bd0, bd1⟩ := bd
        have hU := fun B g c W hB hr => up_calls l0 ((l0.length : Int) - (i : Int)) B g c W (by omega) hl hB hr
        have hD := fun B g c W hB hr => dn_calls l0 ((l0.length : Int) - (i : Int)) B g c W (by omega) hl HP.out hB hr
        rw [hu] at hU
        rw [hd] at hD
        have HU := Aside0.mk hU
        have HD := Aside0.mk hD
        have HIH := Aside0.mk hi
        cases gk with
        | zero => exact absurd HI.out (by omega)
        | succ k1 =>
        have hM := HM.out
        rw [mt.go, hu, hd] at hM
        have HM2 := Aside0.mk hM
        clear hM hu hd hU hD s0 s1 f0 f1 hi
        go_wp2_with (fail)
        refine (all_calls _ (some ⟨g, 0, none⟩) _ c rfl _).mono ?_
        rintro e w2 ⟨rfl, rfl⟩
        go_wp2_with (fail)
        refine (HU.out wr.heap.size g c _ (blk_new wr _) (rowE_below HR.out (below_alloc (Below.refl _ wr) _))).mono ?_
        rintro e w3 ⟨rfl, hb3⟩
        have B3 := Aside0.mk ((below_alloc HB.out _).trans (hb3.mono (by have := HB.out.size; simp; omega)))
        have R3 := Aside0.mk (rowE_below HR.out ((below_alloc (Below.refl _ wr) _).trans (hb3.mono (by simp))))
        have N3 := Aside0.mk (blk_below HN.out ((below_alloc (Below.refl _ wr) _).trans (hb3.mono (by simp))))
        clear hb3
        go_wp2_with (fail)
        refine (back_calls _ (some ⟨g, 0, none⟩) _ c rfl _).mono ?_
        rintro e w4 ⟨rfl, rfl⟩
        go_wp2_with (fail)
        refine (HD.out w3.heap.size g c _ (blk_new w3 _) (rowE_below R3.out (below_alloc (Below.refl _ w3) _))).mono ?_
        rintro e w5 ⟨rfl, hb5⟩
        have B5 := Aside0.mk ((below_alloc B3.out _).trans (hb5.mono (by have := B3.out.size; simp; omega)))
        have R5 := Aside0.mk (rowE_below R3.out ((below_alloc (Below.refl _ w3) _).trans (hb5.mono (by simp))))
        have N5 := Aside0.mk (blk_below N3.out ((below_alloc (Below.refl _ w3) _).trans (hb5.mono (by simp))))
        clear hb5
        have s0 := (blk_cell N5.out 0).trans (show _ = some (Value.int .i64 0) from rfl)
        have s1 := (blk_cell N5.out 1).trans (show _ = some (Value.int .i64 0) from rfl)
        have f0 := blk_frozen N5.out 0
        have f1 := blk_frozen N5.out 1
        by_cases hall : u3 = true ∧ d3 = true ∧ u2 + d2 ≤ (i : Int) ∧ u1 ≤ d1
        · have hm := HM2.out
          rw [if_pos hall] at hm
          obtain ⟨rfl, rfl, a1, a2⟩ := hall
          have HM3 := Aside0.mk hm
          have a1 := eq_true a1
          have a2 := eq_true a2
          clear hm
          go_wp2_with (fail)
          refine bodyPost_ret (meet_res rfl rfl rfl (blk_put (blk_put N5.out 0 (.int .i64 u1) rfl) 1 (.int .i64 d1) rfl)) rfl ?_
          refine ⟨?_, (B5.out.setCell (p := ⟨_, 0, none⟩) (Nat.le_refl _) _).setCell (p := ⟨_, 1, none⟩) (Nat.le_refl _) _⟩
          rw [HM3.out]
          rfl
        · have hm := HM2.out
          rw [if_neg hall] at hm
          have HM3 := Aside0.mk hm
          have hcase : u3 = false ∨ (u3 = true ∧ d3 = false) ∨ (u3 = true ∧ d3 = true ∧ (u2 + d2 ≤ (i : Int)) = False) ∨ (u3 = true ∧ d3 = true ∧ (u2 + d2 ≤ (i : Int)) = True ∧ (u1 ≤ d1) = False) := by
            cases u3
            · exact .inl rfl
            · cases d3
              · exact .inr (.inl ⟨rfl, rfl⟩)
              · by_cases x : u2 + d2 ≤ (i : Int)
                · exact .inr (.inr (.inr ⟨rfl, rfl, eq_true x, eq_false fun y => hall ⟨rfl, rfl, x, y⟩⟩))
                · exact .inr (.inr (.inl ⟨rfl, rfl, eq_false x⟩))
          clear hm hall
          rcases hcase with rfl | ⟨rfl, rfl⟩ | ⟨rfl, rfl, a1⟩ | ⟨rfl, rfl, a1, a2⟩
          all_goals
            go_wp2_with (fail)
            go_roundg k1
            case measure => omega
            case rel => exact ⟨i + 1, by rw [show (i : Int) + 1 = ((i + 1 : Nat) : Int) by omega], ⟨by have := HI.out; omega⟩, B5, R5, N5, ⟨by rw [HM3.out]; rfl⟩⟩
      · have hih : i = H := by have := HI.out; omega
        have q1 : ((i : Int) < ((l0.length : Int) + 1) / 2) = False := eq_false (by have := HHi.out; omega)
        have hgk : gk = 0 := by have := HI.out; omega
        have hM := HM.out
        rw [hgk, mt.go] at hM
        have HM2 := Aside0.mk hM
        clear hM hih hgk
        go_wp2_with (fail)
        refine bodyPost_ret (meet_res rfl rfl rfl (blk_put (blk_put HN.out 0 (.int .i64 0) rfl) 1 (.int .i64 0) rfl)) rfl ?_
        refine ⟨?_, (HB.out.setCell (p := ⟨_, 0, none⟩) (Nat.le_refl _) _).setCell (p := ⟨_, 1, none⟩) (Nat.le_refl _) _⟩
        rw [HM2.out]
        rfl

def inMid (lo hi : Int) (x : S42) : Bool := decide (lo ≤ x.f1) && decide (x.f1 ≤ hi)
def inSpan (lo hi : Int) (x : S42) : Bool := decide (lo ≤ x.f2) && decide (x.f0 ≤ hi)
theorem mid_calls (lo hi : Int) (S : Nat) (x : S42) (W : World) (hS : W.heap[S]? = some (.cells #[.int .i64 lo, .int .i64 hi] 44 (0, 0))) :
    Calls Try.prog 52 #[.agg #[.int .i64 x.f0, .int .i64 x.f1, .int .i64 x.f2], .pointer (some ⟨S, 0, none⟩)] W fun e w' => e = .returned (.bool (inMid lo hi x)) ∧ Below W.heap.size W w' := by
  obtain ⟨y0, y1, y2⟩ := x
  have s0 := (blk_cell hS 0).trans (show _ = some (Value.int .i64 lo) from rfl)
  have s1 := (blk_cell hS 1).trans (show _ = some (Value.int .i64 hi) from rfl)
  have n0 : ∀ o, (W.alloc o).cell? ⟨S, 0, none⟩ = some (.int .i64 lo) := fun o => (blk_cell (blk_alloc hS o) 0).trans rfl
  have n1 : ∀ o, (W.alloc o).cell? ⟨S, 1, none⟩ = some (.int .i64 hi) := fun o => (blk_cell (blk_alloc hS o) 1).trans rfl
  clear hS
  by_cases c1 : lo ≤ y1
  · by_cases c2 : y1 ≤ hi
    · have hw : inMid lo hi ⟨y0, y1, y2⟩ = true := by simp [inMid, c1, c2]
      rw [hw]
      have c1 := eq_true c1
      have c2 := eq_true c2
      go_enter Try.func52, Try.ntmps52
      go_wp2
      go_ret
      exact ⟨rfl, below_alloc (Below.refl _ W) _⟩
    · have hw : inMid lo hi ⟨y0, y1, y2⟩ = false := by simp [inMid, c2]
      rw [hw]
      have c1 := eq_true c1
      have c2 := eq_false c2
      go_enter Try.func52, Try.ntmps52
      go_wp2
      go_ret
      exact ⟨rfl, below_alloc (Below.refl _ W) _⟩
  · have hw : inMid lo hi ⟨y0, y1, y2⟩ = false := by simp [inMid, c1]
    rw [hw]
    have c1 := eq_false c1
    go_enter Try.func52, Try.ntmps52
    go_wp2
    go_ret
    exact ⟨rfl, below_alloc (Below.refl _ W) _⟩
theorem span_calls (lo hi : Int) (S : Nat) (x : S42) (W : World) (hS : W.heap[S]? = some (.cells #[.int .i64 lo, .int .i64 hi] 44 (0, 0))) :
    Calls Try.prog 53 #[.agg #[.int .i64 x.f0, .int .i64 x.f1, .int .i64 x.f2], .pointer (some ⟨S, 0, none⟩)] W fun e w' => e = .returned (.bool (inSpan lo hi x)) ∧ Below W.heap.size W w' := by
  obtain ⟨y0, y1, y2⟩ := x
  have s0 := (blk_cell hS 0).trans (show _ = some (Value.int .i64 lo) from rfl)
  have s1 := (blk_cell hS 1).trans (show _ = some (Value.int .i64 hi) from rfl)
  have n0 : ∀ o, (W.alloc o).cell? ⟨S, 0, none⟩ = some (.int .i64 lo) := fun o => (blk_cell (blk_alloc hS o) 0).trans rfl
  have n1 : ∀ o, (W.alloc o).cell? ⟨S, 1, none⟩ = some (.int .i64 hi) := fun o => (blk_cell (blk_alloc hS o) 1).trans rfl
  clear hS
  by_cases c1 : lo ≤ y2
  · by_cases c2 : y0 ≤ hi
    · have hw : inSpan lo hi ⟨y0, y1, y2⟩ = true := by simp [inSpan, c1, c2]
      rw [hw]
      have c1 := eq_true c1
      have c2 := eq_true c2
      go_enter Try.func53, Try.ntmps53
      go_wp2
      go_ret
      exact ⟨rfl, below_alloc (Below.refl _ W) _⟩
    · have hw : inSpan lo hi ⟨y0, y1, y2⟩ = false := by simp [inSpan, c2]
      rw [hw]
      have c1 := eq_true c1
      have c2 := eq_false c2
      go_enter Try.func53, Try.ntmps53
      go_wp2
      go_ret
      exact ⟨rfl, below_alloc (Below.refl _ W) _⟩
  · have hw : inSpan lo hi ⟨y0, y1, y2⟩ = false := by simp [inSpan, c1]
    rw [hw]
    have c1 := eq_false c1
    go_enter Try.func53, Try.ntmps53
    go_wp2
    go_ret
    exact ⟨rfl, below_alloc (Below.refl _ W) _⟩
/-- The places of those that are wished, from place j on. -/
def plc (P : S42 → Bool) : List S42 → Nat → List Int
  | [], _ => []
  | x :: r, j => if P x = true then (j : Int) :: plc P r (j + 1) else plc P r (j + 1)
theorem plc_len (P : S42 → Bool) : ∀ (l : List S42) (j : Nat), (plc P l j).length ≤ l.length
  | [], j => Nat.le_refl _
  | x :: r, j => by
    have := plc_len P r (j + 1)
    rw [plc, List.length_cons]
    split
    · rw [List.length_cons]; omega
    · omega
theorem infoI : (Try.prog.info? 3).map (fun i => (i.zero, i.size, i.bytes)) = some (some (.int .i64 0), 1, 8) := by kernel_rfl
def ints (l : List Int) : List Value := l.map (Value.int .i64)
set_option maxHeartbeats 8000000 in
set_option maxRecDepth 100000 in
/-- places(wish): wish's contract holds wherever the blocks that were there stand as they stood. -/
theorem places_calls (wf : Nat) (lb : Array Value) (P : S42 → Bool) (L : Nat) (A0 : Option Addr) (c0 : Nat) (l0 : List S42) (w : World) (hr0 : Kd.C k42 w A0 l0.length l0) (hl : l0.length ≤ 100000) (hL : w.heap[L]? = some (.cells #[.slice A0 l0.length c0] 36 (0, 0)))
    (eg : ∀ args w, (callFunc wf args).run Try.prog w = .ok (.enter wf args) w)
    (hw : ∀ (x : S42) (W : World), Below w.heap.size w W → Calls Try.prog wf (#[.agg #[.int .i64 x.f0, .int .i64 x.f1, .int .i64 x.f2]] ++ lb) W fun e w' => e = .returned (.bool (P x)) ∧ Below W.heap.size W w') :
    Calls Try.prog 51 #[.func (.func wf) #[] lb, .pointer (some ⟨L, 0, none⟩)] w fun e w' => ∃ v, e = .returned v ∧ w'.ownsRow w.heap.size 3 1 v (plc P l0 0).length (ints (plc P l0 0)) ∧ Below w.heap.size w w' := by
  have HR0 := Aside0.mk hr0
  have HW := Aside0.mk hw
  have s0 := (blk_cell hL 0).trans (show _ = some (Value.slice A0 l0.length c0) from rfl)
  clear hr0 hw hL
  obtain ⟨r, hr⟩ : ∃ r, plc P l0 0 = r := ⟨_, rfl⟩
  have HX := Aside0.mk hr
  have HLR := Aside0.mk (plc_len P l0 0)
  rw [hr] at HLR
  rw [hr]
  clear hr
  go_enter Try.func51, Try.ntmps51
  go_wp2_with (fail)
  go_loopg [4, 9] l0.length (fun kq v4 v9 w' => ∃ (j : Nat) (o : List Int), v9 = .int .i64 j ∧ Aside0 (j + kq = l0.length) ∧ Aside0 (o ++ plc P (l0.drop j) j = r) ∧ Aside0 (w'.ownsRow w.heap.size 3 1 v4 o.length (ints o)) ∧ Aside0 (Below w.heap.size w w'))
  case atStart => exact ⟨0, [], rfl, ⟨by omega⟩, HX, ⟨World.ownsRow_nil _ _ _ _⟩, ⟨Below.refl _ w⟩⟩
  case round =>
    obtain ⟨j, o, rfl, HJ, HI, HROW, HB⟩ := hrel
    by_cases hj : j < l0.length
    · have HH := Aside0.mk hj
      have q1 : ((j : Int) < (l0.length : Int)) = True := eq_true (by omega)
      have q0 : ((0 : Int) ≤ (j : Int)) = True := eq_true (by omega)
      obtain ⟨ad, e, hx0, hx1, hx2⟩ := at_T42 HR0.out (j : Int) (by omega) (by omega)
      cases e
      replace hx0 := (HB.out.cell (World.block_lt_of_cell? w _ hx0)).trans hx0
      replace hx1 := (HB.out.cell (World.block_lt_of_cell? w _ hx1)).trans hx1
      replace hx2 := (HB.out.cell (World.block_lt_of_cell? w _ hx2)).trans hx2
      rw [Int.toNat_natCast] at hx0 hx1 hx2
      have hd : l0.drop j = l0[j] :: l0.drop (j + 1) := List.drop_eq_getElem_cons hj
      rw [← rd_get42 l0 j hj] at hd
      obtain ⟨x, hx⟩ : ∃ x, rd_T42 l0 (j : Int) = x := ⟨_, rfl⟩
      rw [hx] at hx0 hx1 hx2 hd
      have hi := HI.out
      rw [hd, plc] at hi
      have HI2 := Aside0.mk hi
      obtain ⟨b, hb⟩ : ∃ b, P x = b := ⟨_, rfl⟩
      have hw := HW.out x
      rw [hb] at hw
      have HWW := Aside0.mk hw
      have HBB := Aside0.mk hb
      obtain ⟨y0, y1, y2⟩ := x
      cases gk with
      | zero => exact absurd HJ.out (by omega)
      | succ k1 =>
      have hol : o.length ≤ l0.length := by
        have h1 := congrArg List.length HI.out
        rw [List.length_append] at h1
        have := HLR.out
        omega
      have HOL := Aside0.mk hol
      clear hi hd hx hj hb hw s0 hol
      go_wp2_with (fail)
      refine (HWW.out _ (below_alloc HB.out _)).mono ?_
      rintro e w1 ⟨rfl, hb1⟩
      have B1 := Aside0.mk ((below_alloc HB.out _).trans (hb1.mono (by have := HB.out.size; simp; omega)))
      have hrow1 : w1.ownsRow w.heap.size 3 1 u4 o.length (ints o) := by
        have h := HROW.out.alloc (Obj.cells #[Value.int IntKind.i64 y0, Value.int IntKind.i64 y1, Value.int IntKind.i64 y2] 42)
        refine ⟨h.1, ?_⟩
        rcases h.2 with h2 | ⟨g, cap, cur, h3, h4, hgb, h5⟩
        · exact .inl h2
        · exact .inr ⟨g, cap, cur, h3, h4, blk_below hgb hb1, h5⟩
      have HR1 := Aside0.mk hrow1
      clear hb1 hrow1
      cases b with
      | true =>
        obtain ⟨i0, hi, hz0, hz1, hz2⟩ := info_parts infoI
        go_wp2_with (at_builtin; refine wpList_append_own _ rfl _ _ 74 rfl w.heap.size 3 i0 (.int .i64 0) 1 8 Try.underlying74 hi hz0 hz1 hz2 rfl (by decide) _ _ _ rfl (HR1.out.alloc _) ⟨w1.heap.size, 0, none⟩ 1 1 [.int .i64 (j : Int)] rfl rfl ?cel ?one ?len ?byt ?bas ?_; (case one => simp [Value.oneCell']); (case len => unfold maxLen; have := HOL.out; omega); (case byt => have := HOL.out; omega); (case bas => have := B1.out.size; simp; omega); (case cel => exact cells_new w1 [.int .i64 (j : Int)] 3); intro v' w2 hown' hgrow _)
        go_roundg k1
        case measure => omega
        case rel =>
          refine ⟨j + 1, o ++ [(j : Int)], by rw [show wrap64 ((j : Int) + 1) = ((j + 1 : Nat) : Int) by have := HH.out; unfold wrap64; omega], ⟨by have := HJ.out; omega⟩, ⟨?_⟩, ⟨?_⟩, ⟨?_⟩⟩
          · have := HI2.out
            rw [HBB.out, if_pos rfl] at this
            rw [← this, List.append_assoc]
            rfl
          · rw [show ints (o ++ [(j : Int)]) = ints o ++ [.int .i64 (j : Int)] by simp [ints], List.length_append, List.length_singleton]
            exact hown'
          · exact (below_alloc B1.out _).grown hgrow (by have := B1.out.size; simp; omega) (fun k e => by
              rcases HR1.out.2 with ⟨rfl, _⟩ | ⟨g, cap, cur, rfl, hg, _⟩
              · cases e
              · cases e
                exact hg)
      | false =>
        go_wp2_with (fail)
        go_roundg k1
        case measure => omega
        case rel =>
          refine ⟨j + 1, o, by rw [show wrap64 ((j : Int) + 1) = ((j + 1 : Nat) : Int) by have := HH.out; unfold wrap64; omega], ⟨by have := HJ.out; omega⟩, ⟨?_⟩, HR1, B1⟩
          have := HI2.out
          rw [HBB.out, if_neg (by decide)] at this
          exact this
    · have q1 : ((j : Int) < (l0.length : Int)) = False := eq_false (by omega)
      have hr : o = r := by
        have := HI.out
        rw [List.drop_of_length_le (by omega)] at this
        rw [← this]
        simp [plc]
      subst hr
      go_wp2_with (fail)
      go_ret
      exact ⟨_, rfl, HROW.out, HB.out⟩

theorem sel_res {W : World} {tmps : Array Value} {n0 : Nat} {a b : Int} {v u : Value} (e0 : tmps[2]?.getD undef = .pointer (some ⟨n0, 0, none⟩)) (e1 : tmps[3]?.getD undef = v) (e2 : tmps[4]?.getD undef = u) (h : W.heap[n0]? = some (.cells #[.int .i64 a, .int .i64 b] 44 (0, 0))) :
    (results Try.f35 tmps).run Try.prog W = .ok (.tuple #[.agg #[.int .i64 a, .int .i64 b], v, u]) W := by
  have c0 := (blk_cell h 0).trans (show _ = some (Value.int .i64 a) from rfl)
  have c1 := (blk_cell h 1).trans (show _ = some (Value.int .i64 b) from rfl)
  simp [results, Try.f35, go_sem, e0, e1, e2, c0, c1]
/-- The span by which it is selected: of all, or of most. -/
def slc.s (l : List S42) : Int × Int × Bool := if (mt l).2.2.2 = true then ((mt l).1, (mt l).2.1, true) else mjr l
def slc (l : List S42) : Int × Int × List Int × Bool :=
  if (slc.s l).2.2 = true then
    ((slc.s l).1, (slc.s l).2.1, if (plc (inMid (slc.s l).1 (slc.s l).2.1) l 0).length = 0 then plc (inSpan (slc.s l).1 (slc.s l).2.1) l 0 else plc (inMid (slc.s l).1 (slc.s l).2.1) l 0, true)
  else (0, 0, [], false)
def selEnd (l : List S42) (w : World) (e : Ending) (w' : World) : Prop := ∃ v, e = .returned (.tuple #[.agg #[.int .i64 (slc l).1, .int .i64 (slc l).2.1], v, .bool (slc l).2.2.2]) ∧ w'.ownsRow w.heap.size 3 1 v (slc l).2.2.1.length (ints (slc l).2.2.1) ∧ Below w.heap.size w w'
theorem own_base {w : World} {b b' : Nat} {v : Value} {n : Nat} {cs : List Value} (h : w.ownsRow b' 3 1 v n cs) (hb : b ≤ b') : w.ownsRow b 3 1 v n cs := by
  refine ⟨h.1, ?_⟩
  rcases h.2 with h2 | ⟨g, cap, cur, h3, h4, h5⟩
  · exact .inl h2
  · exact .inr ⟨g, cap, cur, h3, Nat.le_trans hb h4, h5⟩
/-- Two stores into a block of another kind leave the row. -/
theorem own_two {w : World} {b : Nat} {v : Value} {n : Nat} {cs : List Value} {B : Nat} {k : Array Value} {t : Nat} {x y : Value} (h : w.ownsRow b 3 1 v n cs) (hB : w.heap[B]? = some (.cells k t (0, 0))) (ht : t ≠ 3) : ((w.setCell ⟨B, 0, none⟩ x).setCell ⟨B, 1, none⟩ y).ownsRow b 3 1 v n cs := by
  refine ⟨h.1, ?_⟩
  rcases h.2 with h2 | ⟨g, cap, cur, h3, h4, hg, h5⟩
  · exact .inl h2
  · have hne : g ≠ B := by
      intro e
      rw [e, hB] at hg
      cases hg
      exact ht rfl
    exact .inr ⟨g, cap, cur, h3, h4, (Below.heap_setCell _ ⟨B, 1, none⟩ y g hne).trans ((Below.heap_setCell _ ⟨B, 0, none⟩ x g hne).trans hg), h5⟩
set_option maxHeartbeats 8000000 in
set_option maxRecDepth 100000 in
theorem select_calls (A0 : Option Addr) (c0 : Nat) (l0 : List S42) (w : World) (hr0 : Kd.C k42 w A0 l0.length l0) (hl : l0.length ≤ 100000) :
    Calls Try.prog 35 #[.slice A0 l0.length c0] w (selEnd l0 w) := by
  have HR0 := Aside0.mk hr0
  clear hr0
  have HM := Aside0.mk (fun W (h : Kd.C k42 W A0 l0.length l0) => meet_calls A0 c0 l0 W h hl)
  have HJ := Aside0.mk (fun W (h : Kd.C k42 W A0 l0.length l0) => major_calls A0 c0 l0 W h hl)
  have HL := Aside0.mk hl
  obtain ⟨⟨a1, a2, a3, a4⟩, ha⟩ : ∃ x, mt l0 = x := ⟨_, rfl⟩
  obtain ⟨⟨b1, b2, b3⟩, hb⟩ : ∃ x, mjr l0 = x := ⟨_, rfl⟩
  have hs : slc.s l0 = if a4 = true then (a1, a2, true) else (b1, b2, b3) := by unfold slc.s; rw [ha, hb]
  unfold meetEnd at HM
  unfold majorEnd at HJ
  rw [ha] at HM
  rw [hb] at HJ
  have HS := Aside0.mk hs
  clear hs ha hb hl
  go_enter Try.func35, Try.ntmps35
  go_wp2_with (fail)
  refine (HM.out _ (Kd.C_below HR0.out (below_alloc (below_alloc (Below.refl _ w) _) _))).mono ?_
  rintro e w1 ⟨rfl, hb1⟩
  have B1 := Aside0.mk ((below_alloc (below_alloc (Below.refl _ w) _) _).trans (hb1.mono (by simp; omega)))
  have L1 := Aside0.mk (blk_below (blk_alloc (blk_new w (Obj.cells #[Value.slice A0 l0.length c0] 36)) (Obj.cells #[Value.int IntKind.i64 0, Value.int IntKind.i64 0] 44)) hb1)
  have N1 : w1.heap[w.heap.size + 1]? = some (.cells #[.int .i64 0, .int .i64 0] 44 (0, 0)) := by
    have := blk_new (w.alloc (Obj.cells #[Value.slice A0 l0.length c0] 36)) (Obj.cells #[Value.int IntKind.i64 0, Value.int IntKind.i64 0] 44)
    rw [World.size_alloc] at this
    exact blk_below this hb1
  have N1 := Aside0.mk N1
  have sl := (blk_cell L1.out 0).trans (show _ = some (Value.slice A0 l0.length c0) from rfl)
  clear hb1
  obtain ⟨S, hS⟩ : ∃ S, w1.heap.size = S := ⟨_, rfl⟩
  have HSS := Aside0.mk hS
  have sl2 : ∀ o, (w1.alloc o).cell? ⟨w.heap.size, 0, none⟩ = some (Value.slice A0 l0.length c0) := fun o => (blk_cell (blk_alloc L1.out o) 0).trans rfl
  cases a4 with
  | true =>
    go_wp2_with (fail)
    obtain ⟨W2, hW2⟩ : ∃ W2, w1.alloc (Obj.cells #[Value.int IntKind.i64 a1, Value.int IntKind.i64 a2] 44) = W2 := ⟨_, rfl⟩
    have B2 := Aside0.mk (show Below w.heap.size w W2 from hW2 ▸ below_alloc B1.out _)
    have L2 := Aside0.mk (show W2.heap[w.heap.size]? = _ from hW2 ▸ blk_alloc L1.out _)
    have N2 := Aside0.mk (show W2.heap[w.heap.size + 1]? = _ from hW2 ▸ blk_alloc N1.out _)
    have S2 := Aside0.mk (show W2.heap[S]? = some (.cells #[.int .i64 a1, .int .i64 a2] 44 (0, 0)) from hW2 ▸ hS ▸ blk_new w1 _)
    rw [hW2]
    (try rw [hS])
    clear hW2 sl2 sl

    have hplc1 : slc l0 = (a1, a2, (if (plc (inMid a1 a2) l0 0).length = 0 then plc (inSpan a1 a2) l0 0 else plc (inMid a1 a2) l0 0), true) := by
      unfold slc
      rw [HS.out]
      rfl
    have HPL := Aside0.mk hplc1
    clear hplc1
    have eg2 : ∀ args w, (callFunc 51 args).run Try.prog w = .ok (.enter 51 args) w := enters_of Try.func51 (by kernel_rfl) rfl
    refine (places_calls 52 #[.pointer (some ⟨S, 0, none⟩)] (inMid a1 a2) w.heap.size A0 c0 l0 W2 (Kd.C_below HR0.out B2.out) HL.out L2.out (enters_of Try.func52 (by kernel_rfl) rfl) (fun x W hW => mid_calls a1 a2 S x W (blk_below S2.out hW))).mono ?_
    rintro e w3 ⟨v, rfl, hrow3, hb3⟩
    have B3 := Aside0.mk (B2.out.trans (hb3.mono B2.out.size))
    have L3 := Aside0.mk (blk_below L2.out hb3)
    have N3 := Aside0.mk (blk_below N2.out hb3)
    have S3 := Aside0.mk (blk_below S2.out hb3)
    obtain ⟨ps, hps⟩ : ∃ ps, plc (inMid a1 a2) l0 0 = ps := ⟨_, rfl⟩
    rw [hps] at hrow3 HPL
    have hvl : ∃ A n c, v = .slice A n c ∧ n = ps.length := by
      rcases hrow3.2 with ⟨rfl, h⟩ | ⟨g, cap, cur, rfl, _⟩
      · exact ⟨_, _, _, rfl, h.symm⟩
      · exact ⟨_, _, _, rfl, rfl⟩
    obtain ⟨A3, n3, c3, rfl, rfl⟩ := hvl
    have HROW3 := Aside0.mk hrow3
    have t0 := (blk_cell S3.out 0).trans (show _ = some (Value.int .i64 a1) from rfl)
    have t1 := (blk_cell S3.out 1).trans (show _ = some (Value.int .i64 a2) from rfl)
    have r0 := (blk_cell N3.out 0).trans (show _ = some (Value.int .i64 0) from rfl)
    have r1 := (blk_cell N3.out 1).trans (show _ = some (Value.int .i64 0) from rfl)
    have g0 := blk_frozen N3.out 0
    have g1 := blk_frozen N3.out 1
    clear hrow3 hb3 hps
    by_cases hz : ps.length = 0
    · have hz1 : ((ps.length : Int) == 0) = true := beq_iff_eq.2 (by omega)
      have hz2 : (ps.length == 0) = true := beq_iff_eq.2 hz
      have hpl := HPL.out
      rw [if_pos hz] at hpl
      have HPL2 := Aside0.mk hpl
      have HZ := Aside0.mk hz
      clear hpl hz HPL t0 t1 r0 r1 g0 g1
      go_wp2_with (fail)
      refine (places_calls 53 #[.pointer (some ⟨S, 0, none⟩)] (inSpan a1 a2) w.heap.size A0 c0 l0 w3 (Kd.C_below HR0.out B3.out) HL.out L3.out (enters_of Try.func53 (by kernel_rfl) rfl) (fun x W hW => span_calls a1 a2 S x W (blk_below S3.out hW))).mono ?_
      rintro e w4 ⟨v, rfl, hrow4, hb4⟩
      have B4 := Aside0.mk (B3.out.trans (hb4.mono B3.out.size))
      have N4 := Aside0.mk (blk_below N3.out hb4)
      have S4 := Aside0.mk (blk_below S3.out hb4)
      have t0 := (blk_cell S4.out 0).trans (show _ = some (Value.int .i64 a1) from rfl)
      have t1 := (blk_cell S4.out 1).trans (show _ = some (Value.int .i64 a2) from rfl)
      have r0 := (blk_cell N4.out 0).trans (show _ = some (Value.int .i64 0) from rfl)
      have r1 := (blk_cell N4.out 1).trans (show _ = some (Value.int .i64 0) from rfl)
      have g0 := blk_frozen N4.out 0
      have g1 := blk_frozen N4.out 1
      have HROW4 := Aside0.mk hrow4
      clear hrow4 hb4
      go_wp2_with (fail)
      refine bodyPost_ret (sel_res rfl rfl rfl (blk_put (blk_put N4.out 0 (.int .i64 a1) rfl) 1 (.int .i64 a2) rfl)) rfl ?_
      refine ⟨v, by rw [HPL2.out]; rfl, ?_, (B4.out.setCell (p := ⟨_, 0, none⟩) (by simp) _).setCell (p := ⟨_, 1, none⟩) (by simp) _⟩
      rw [HPL2.out]
      have hb : w.heap.size ≤ w3.heap.size := B3.out.size
      exact own_two (own_base HROW4.out hb) N4.out (by decide)
    · have hz1 : ((ps.length : Int) == 0) = false := beq_eq_false_iff_ne.2 (by omega)
      have hz2 : (ps.length == 0) = false := beq_eq_false_iff_ne.2 hz
      have hpl := HPL.out
      rw [if_neg hz] at hpl
      have HPL2 := Aside0.mk hpl
      clear hpl hz HPL
      go_wp2_with (fail)
      refine bodyPost_ret (sel_res rfl rfl rfl (blk_put (blk_put N3.out 0 (.int .i64 a1) rfl) 1 (.int .i64 a2) rfl)) rfl ?_
      refine ⟨_, by rw [HPL2.out]; rfl, ?_, (B3.out.setCell (p := ⟨_, 0, none⟩) (by simp) _).setCell (p := ⟨_, 1, none⟩) (by simp) _⟩
      rw [HPL2.out]
      have hb : w.heap.size ≤ W2.heap.size := B2.out.size
      exact own_two (own_base HROW3.out hb) N3.out (by decide)

  | false =>
    go_wp2_with (fail)
    refine (HJ.out _ (Kd.C_below HR0.out (below_alloc B1.out _))).mono ?_
    rintro e w2 ⟨rfl, hb2⟩
    have B2' := Aside0.mk ((below_alloc B1.out (Obj.cells #[Value.int IntKind.i64 a1, Value.int IntKind.i64 a2] 44)).trans (hb2.mono (by have := B1.out.size; simp; omega)))
    have L2' := Aside0.mk (blk_below (blk_alloc L1.out (Obj.cells #[Value.int IntKind.i64 a1, Value.int IntKind.i64 a2] 44)) hb2)
    have N2' := Aside0.mk (blk_below (blk_alloc N1.out (Obj.cells #[Value.int IntKind.i64 a1, Value.int IntKind.i64 a2] 44)) hb2)
    have S2' := Aside0.mk (show w2.heap[S]? = some (.cells #[.int .i64 a1, .int .i64 a2] 44 (0, 0)) from hS ▸ blk_below (blk_new w1 _) hb2)
    have hSw : w.heap.size + 2 ≤ S := by have := N1.out; have := blk_lt this; omega
    have HSw := Aside0.mk hSw
    have HN3 := Aside0.mk (show w.heap.size + 1 ≠ S by omega)
    have HN4 := Aside0.mk (show w.heap.size ≠ S by omega)
    have HWS := Aside0.mk (show w.heap.size ≤ S by omega)
    have t0 := (blk_cell S2'.out 0).trans (show _ = some (Value.int .i64 a1) from rfl)
    have t1 := (blk_cell S2'.out 1).trans (show _ = some (Value.int .i64 a2) from rfl)
    have g0 := blk_frozen S2'.out 0
    have g1 := blk_frozen S2'.out 1
    have r0 := (blk_cell N2'.out 0).trans (show _ = some (Value.int .i64 0) from rfl)
    have r1 := (blk_cell N2'.out 1).trans (show _ = some (Value.int .i64 0) from rfl)
    have g2 := blk_frozen N2'.out 0
    have g3 := blk_frozen N2'.out 1
    (try rw [hS])
    clear sl2 sl hb2
    have hne : (w.heap.size + 1 = S) = False := eq_false (by omega)
    have hne2 : (S = w.heap.size + 1) = False := eq_false (by omega)
    have hne3 : (w.heap.size = S) = False := eq_false (by omega)
    have hne4 : (S = w.heap.size) = False := eq_false (by omega)
    cases b3 with
    | false =>
      have hplc1 : slc l0 = (0, 0, [], false) := by
        unfold slc
        rw [HS.out]
        rfl
      have HPL := Aside0.mk hplc1
      clear hplc1
      go_wp2_with (fail)
      refine bodyPost_ret (sel_res rfl rfl rfl (blk_put (blk_put (blk_far (blk_far N2'.out HN3.out _) HN3.out _) 0 (.int .i64 0) rfl) 1 (.int .i64 0) rfl)) rfl ?_
      refine ⟨.slice none 0 0, by rw [HPL.out]; rfl, ?_, (((B2'.out.setCell (p := ⟨_, 0, none⟩) HWS.out _).setCell (p := ⟨_, 1, none⟩) HWS.out _).setCell (p := ⟨_, 0, none⟩) (by simp) _).setCell (p := ⟨_, 1, none⟩) (by simp) _⟩
      rw [HPL.out]
      exact World.ownsRow_nil _ _ _ _
    | true =>
      have l1 := (blk_cell L2'.out 0).trans (show _ = some (Value.slice A0 l0.length c0) from rfl)
      go_wp2_with (fail)
      obtain ⟨W2, hW2⟩ : ∃ W2, (w2.setCell ⟨S, 0, none⟩ (Value.int .i64 b1)).setCell ⟨S, 1, none⟩ (Value.int .i64 b2) = W2 := ⟨_, rfl⟩
      have B2 := Aside0.mk (show Below w.heap.size w W2 from hW2 ▸ (B2'.out.setCell (p := ⟨_, 0, none⟩) HWS.out _).setCell (p := ⟨_, 1, none⟩) HWS.out _)
      have L2 := Aside0.mk (show W2.heap[w.heap.size]? = _ from hW2 ▸ blk_far (blk_far L2'.out HN4.out _) HN4.out _)
      have N2 := Aside0.mk (show W2.heap[w.heap.size + 1]? = _ from hW2 ▸ blk_far (blk_far N2'.out HN3.out _) HN3.out _)
      have S2 := Aside0.mk (show W2.heap[S]? = some (.cells #[.int .i64 b1, .int .i64 b2] 44 (0, 0)) from hW2 ▸ blk_put (blk_put S2'.out 0 _ rfl) 1 _ rfl)
      rw [hW2]
      clear hW2 l1 t0 t1 g0 g1 r0 r1 g2 g3 hne hne2 hne3 hne4

      have hplc1 : slc l0 = (b1, b2, (if (plc (inMid b1 b2) l0 0).length = 0 then plc (inSpan b1 b2) l0 0 else plc (inMid b1 b2) l0 0), true) := by
        unfold slc
        rw [HS.out]
        rfl
      have HPL := Aside0.mk hplc1
      clear hplc1
      have eg2 : ∀ args w, (callFunc 51 args).run Try.prog w = .ok (.enter 51 args) w := enters_of Try.func51 (by kernel_rfl) rfl
      refine (places_calls 52 #[.pointer (some ⟨S, 0, none⟩)] (inMid b1 b2) w.heap.size A0 c0 l0 W2 (Kd.C_below HR0.out B2.out) HL.out L2.out (enters_of Try.func52 (by kernel_rfl) rfl) (fun x W hW => mid_calls b1 b2 S x W (blk_below S2.out hW))).mono ?_
      rintro e w3 ⟨v, rfl, hrow3, hb3⟩
      have B3 := Aside0.mk (B2.out.trans (hb3.mono B2.out.size))
      have L3 := Aside0.mk (blk_below L2.out hb3)
      have N3 := Aside0.mk (blk_below N2.out hb3)
      have S3 := Aside0.mk (blk_below S2.out hb3)
      obtain ⟨ps, hps⟩ : ∃ ps, plc (inMid b1 b2) l0 0 = ps := ⟨_, rfl⟩
      rw [hps] at hrow3 HPL
      have hvl : ∃ A n c, v = .slice A n c ∧ n = ps.length := by
        rcases hrow3.2 with ⟨rfl, h⟩ | ⟨g, cap, cur, rfl, _⟩
        · exact ⟨_, _, _, rfl, h.symm⟩
        · exact ⟨_, _, _, rfl, rfl⟩
      obtain ⟨A3, n3, c3, rfl, rfl⟩ := hvl
      have HROW3 := Aside0.mk hrow3
      have t0 := (blk_cell S3.out 0).trans (show _ = some (Value.int .i64 b1) from rfl)
      have t1 := (blk_cell S3.out 1).trans (show _ = some (Value.int .i64 b2) from rfl)
      have r0 := (blk_cell N3.out 0).trans (show _ = some (Value.int .i64 0) from rfl)
      have r1 := (blk_cell N3.out 1).trans (show _ = some (Value.int .i64 0) from rfl)
      have g0 := blk_frozen N3.out 0
      have g1 := blk_frozen N3.out 1
      clear hrow3 hb3 hps
      by_cases hz : ps.length = 0
      · have hz1 : ((ps.length : Int) == 0) = true := beq_iff_eq.2 (by omega)
        have hz2 : (ps.length == 0) = true := beq_iff_eq.2 hz
        have hpl := HPL.out
        rw [if_pos hz] at hpl
        have HPL2 := Aside0.mk hpl
        have HZ := Aside0.mk hz
        clear hpl hz HPL t0 t1 r0 r1 g0 g1
        go_wp2_with (fail)
        refine (places_calls 53 #[.pointer (some ⟨S, 0, none⟩)] (inSpan b1 b2) w.heap.size A0 c0 l0 w3 (Kd.C_below HR0.out B3.out) HL.out L3.out (enters_of Try.func53 (by kernel_rfl) rfl) (fun x W hW => span_calls b1 b2 S x W (blk_below S3.out hW))).mono ?_
        rintro e w4 ⟨v, rfl, hrow4, hb4⟩
        have B4 := Aside0.mk (B3.out.trans (hb4.mono B3.out.size))
        have N4 := Aside0.mk (blk_below N3.out hb4)
        have S4 := Aside0.mk (blk_below S3.out hb4)
        have t0 := (blk_cell S4.out 0).trans (show _ = some (Value.int .i64 b1) from rfl)
        have t1 := (blk_cell S4.out 1).trans (show _ = some (Value.int .i64 b2) from rfl)
        have r0 := (blk_cell N4.out 0).trans (show _ = some (Value.int .i64 0) from rfl)
        have r1 := (blk_cell N4.out 1).trans (show _ = some (Value.int .i64 0) from rfl)
        have g0 := blk_frozen N4.out 0
        have g1 := blk_frozen N4.out 1
        have HROW4 := Aside0.mk hrow4
        clear hrow4 hb4
        go_wp2_with (fail)
        refine bodyPost_ret (sel_res rfl rfl rfl (blk_put (blk_put N4.out 0 (.int .i64 b1) rfl) 1 (.int .i64 b2) rfl)) rfl ?_
        refine ⟨v, by rw [HPL2.out]; rfl, ?_, (B4.out.setCell (p := ⟨_, 0, none⟩) (by simp) _).setCell (p := ⟨_, 1, none⟩) (by simp) _⟩
        rw [HPL2.out]
        have hb : w.heap.size ≤ w3.heap.size := B3.out.size
        exact own_two (own_base HROW4.out hb) N4.out (by decide)
      · have hz1 : ((ps.length : Int) == 0) = false := beq_eq_false_iff_ne.2 (by omega)
        have hz2 : (ps.length == 0) = false := beq_eq_false_iff_ne.2 hz
        have hpl := HPL.out
        rw [if_neg hz] at hpl
        have HPL2 := Aside0.mk hpl
        clear hpl hz HPL
        go_wp2_with (fail)
        refine bodyPost_ret (sel_res rfl rfl rfl (blk_put (blk_put N3.out 0 (.int .i64 b1) rfl) 1 (.int .i64 b2) rfl)) rfl ?_
        refine ⟨_, by rw [HPL2.out]; rfl, ?_, (B3.out.setCell (p := ⟨_, 0, none⟩) (by simp) _).setCell (p := ⟨_, 1, none⟩) (by simp) _⟩
        rw [HPL2.out]
        have hb : w.heap.size ≤ W2.heap.size := B2.out.size
        exact own_two (own_base HROW3.out hb) N3.out (by decide)

end

end Go.Proofs.Ytdlbnkiolpmnbaa.MMee
