/- Functions that the statements of this seat reach, each as a plain Lean function, with a proof that the Go code comes to its answers; no condition. -/
import Derived.Test.YtlbelgdcicholaaMExtx0
import Derived.Test.YtlbelgdcicholaaMExtx3
import Derived.Test.YtlbelgdcicholaaMExtx4
namespace Go.Proofs.Ytlbelgdcicholaa.MExt
open Go.RowKit Go.Proofs.YtlbelgdcicholaaW.PrintWords Go.Proofs.YtlbelgdcicholaaW.PrintLast Go.Proofs.YtlbelgdcicholaaW.PrintMore
attribute [local go_sem] max2_int min2_int max_two min_two max_three min_three max_four min_four   -- for this text's walks alone
set_option linter.unusedVariables false
set_option linter.unusedSimpArgs false

/-! ### extend_Walk: function 21 -/
/-- Block B is the cell of a text. -/
def IsS (W : World) (B : Nat) : Prop := ∃ u, W.heap[B]? = some (.cells #[.string u] 9 (0, 0))
/-- What an iterator that keeps its state in the cell of block B leaves: whatever lay, but for that block, lies as it lay. -/
structure Turn (B : Nat) (W W' : World) : Prop where
  os : W'.os = W.os
  tape : W'.tape = W.tape
  output : W'.output = W.output
  size : W.heap.size ≤ W'.heap.size
  block : ∀ k, k < W.heap.size → k ≠ B → W'.heap[k]? = W.heap[k]?
  kind : IsS W B → IsS W' B
theorem Turn.of_below {B : Nat} {W W' : World} (h : Below W.heap.size W W') : Turn B W W' := ⟨h.os, h.tape, h.output, h.size, fun k hk _ => h.block k hk, fun ⟨u, q⟩ => ⟨u, (h.block B (Array.getElem?_eq_some_iff.1 q).1).trans q⟩⟩
theorem Turn.trans {B : Nat} {W W' W2 : World} (h : Turn B W W') (k : Turn B W' W2) : Turn B W W2 :=
  ⟨k.os.trans h.os, k.tape.trans h.tape, k.output.trans h.output, Nat.le_trans h.size k.size, fun i hi hne => (k.block i (Nat.lt_of_lt_of_le hi h.size) hne).trans (h.block i hi hne), fun q => k.kind (h.kind q)⟩
theorem Turn.below {B n : Nat} {w W W' : World} (h : Below n w W) (hn : n ≤ W.heap.size) (hB : n ≤ B) (k : Turn B W W') : Below n w W' :=
  ⟨k.os.trans h.os, k.tape.trans h.tape, k.output.trans h.output, Nat.le_trans h.size k.size, fun i hi => (k.block i (Nat.lt_of_lt_of_le hi hn) (by omega)).trans (h.block i hi)⟩
def Bides {β : Type} (B : Nat) (J : β → World → Prop) : Prop := ∀ s W W', J s W → Turn B W W' → J s W'

/-- The contract of an iterator with one cell of its own, begun in the world W (but for the law's two blocks). -/
def Iter {α : Type} (F : Fence) (n : Nat) (P : Program) (g : Nat) (lb : Array Value) (B : Nat) (encs : α → Array Value) (G : α → Prop) (S Sp : List α → Prop) (N : Nat) (w : World) : Prop :=
  ∀ (l : Nat) (J Jx : List α → World → Prop) (W : World), Below w.heap.size w W → Bides B J → Bides B Jx →
    (∀ pre x W1, J pre W1 → pre.length < N → YieldAt F (n - 1) P l (encs x) W1 fun e W' =>
      (e = .returned (.bool true) ∧ G x ∧ J (pre ++ [x]) W' ∧ W'.heap[B]? = W1.heap[B]?) ∨ (e = .returned (.bool false) ∧ Jx (pre ++ [x]) W')) →
    J [] W →
    CallsIn F n P g (#[.func (.yield l) #[] #[]] ++ lb) W fun e W' => (∃ v, e = .returned v) ∧ ((∃ xs, S xs ∧ J xs W') ∨ (∃ pre, Sp pre ∧ Jx pre W'))

/-- How a round may end: on, or by a return. -/
def roundEnd {α : Type} (B : Nat) (G : α → Prop) (I Ix : List α → World → Prop) (pre : List α) (x : α) (W : World) : Exit → Act → World → Prop
  | .normal, _, W' => KeepsOthers W W' ∧ W'.heap[B]? = W.heap[B]? ∧ G x ∧ I (pre ++ [x]) W'
  | .ret, _, W' => KeepsOthers W W' ∧ Ix (pre ++ [x]) W'
  | _, _, _ => False

theorem put_other {W : World} {r k : Nat} {o : Obj} (h : k ≠ r) : (W.putObj r o).heap[k]? = W.heap[k]? := World.putObj_heap_other h
theorem loop_new {W : World} {k : Nat} {o o' : Obj} (h : W.heap[k]? = some o) : (W.alloc o').heap[k]? = some o :=
  (Below.heap_alloc W o' k (Array.getElem?_eq_some_iff.1 h).1).trans h
theorem bides_loop {α : Type} {B k : Nat} (hne : k ≠ B) (o : Obj) : Bides B (fun (_ : List α) W => W.heap[k]? = some o) :=
  fun _ _ _ h t => (t.block k (Array.getElem?_eq_some_iff.1 h).1 hne).trans h
theorem Bides.and {β : Type} {B : Nat} {I J : β → World → Prop} (h : Bides B I) (k : Bides B J) : Bides B (fun s W => I s W ∧ J s W) :=
  fun s W W' q t => ⟨h s W W' q.1 t, k s W W' q.2 t⟩

/-- A range over an iterator that has a cell of its own. -/
theorem range_iter {F : Fence} {n : Nat} {P : Program} {α : Type} {g : Operand} {ps : Array Tmp} {assign body : Code} {Q : Exit → Act → World → Prop} {a : Act} {w : World}
    (hro : F.round = none) (h1 : 1 ≤ n) {gf : Nat} {lb : Array Value} (hg : a.eval g = .func (.func gf) #[] lb) (hFg : F.fn gf) (eg : ∀ args w, (callFunc gf args).run P w = .ok (.enter gf args) w)
    {encs : α → Array Value} {B : Nat} {G : α → Prop} {S Sp : List α → Prop} {N : Nat} (hseq : Iter F (n - 1) P gf lb B encs G S Sp N w) (hB : B < w.heap.size) (hps : ∀ x, (encs x).size = ps.size)
    (I Ix : List α → World → Prop) (hI : OwnFrom w.heap.size I) (bI : Bides B I) (hIx : OwnFrom w.heap.size Ix) (bIx : Bides B Ix) (h0 : I [] w) (Ax : List α → α → Act → World → Prop) (hAx : OwnFrom w.heap.size (fun (s : List α × α × Act) W => Ax s.1 s.2.1 s.2.2 W))
    (hassign : ∀ (l : Nat) (pre : List α) (x : α) (W : World) (K : Act → World → Prop), I pre W → (∀ a' W', KeepsOthers W W' → W'.heap[B]? = W.heap[B]? → Ax pre x a' W' → K a' W') →
      assign.wpIn (F.inRound l) (n - 1 - 1) P (Exit.then K (fun _ _ _ => False)) { tmps := (ps.zip (encs x)).foldl (fun t (p, v) => t.setIfInBounds p v) a.tmps, defers := [] } W)
    (hbody : ∀ (l : Nat) (pre : List α) (x : α) (a' : Act) (W : World), Ax pre x a' W → pre.length < N → body.wpIn (F.inRound l) (n - 1 - 1) P (roundEnd B G I Ix pre x W) a' W)
    (hdone : ∀ (D : Nat) (xs : List α) (W : World), w.heap.size ≤ D → S xs → I xs W → W.heap[D]? = some (.deferred (some [])) → Q .normal { a with defers := { target := .collected D, args := #[] } :: a.defers } W)
    (hstop : ∀ (D : Nat) (pre : List α) (W : World), w.heap.size ≤ D → Sp pre → Ix pre W → W.heap[D]? = some (.deferred (some [])) → Code.ret.wpIn F n P Q { a with defers := { target := .collected D, args := #[] } :: a.defers } W) :
    (Code.rangeFunc g ps assign body).wpIn F n P Q a w := by
  refine wpIn_rangeFunc fun fn hfn => ?_
  rw [hro]
  obtain ⟨rec, hrec⟩ : ∃ rec : LoopState → Option Code → Loop, rec = fun st pe => { state := st, pending := pe, fn, tmps := a.tmps, params := ps, assign, body, defers := w.heap.size } := ⟨_, rfl⟩
  obtain ⟨L, hL⟩ : ∃ L, w.heap.size + 1 = L := ⟨_, rfl⟩
  obtain ⟨W1, hW1⟩ : ∃ W1, (w.alloc (.deferred (some []))).alloc (.loop (rec .ready none)) = W1 := ⟨_, rfl⟩
  have hl1 : W1.heap[L]? = some (.loop (rec .ready none)) := by
    have h := World.alloc_heap_new (w.alloc (.deferred (some []))) (.loop (rec .ready none))
    rw [World.size_alloc, hL, hW1] at h
    exact h
  have hd1 : W1.heap[w.heap.size]? = some (.deferred (some [])) := hW1 ▸ loop_new (World.alloc_heap_new w _)
  have hI1 : I [] W1 := bI _ _ _ h0 (Turn.of_below (hW1 ▸ ((Below.refl _ w).alloc (Nat.le_refl _) _).alloc (by simp) _))
  have hb1 : Below w.heap.size w W1 := hW1 ▸ ((Below.refl _ w).alloc (Nat.le_refl _) _).alloc (by simp) _
  have hLB : L ≠ B := by omega
  have hDB : w.heap.size ≠ B := by omega
  refine ⟨L, [{ target := .collected w.heap.size, args := #[] }], W1, { target := .fn (.func gf) lb, args := #[.func (.yield L) #[] #[]] }, W1, gf, #[.func (.yield L) #[] #[]] ++ lb, W1, ?_, ?_, ?_, ?_, fun _ => h1, ?_⟩
  · rw [← hW1, ← hL, hrec]
    exact run_enterLoop_outer _ _ _ _ _
  · simp only [resolve, hg]
    simp [go_sem]
  · intro f' hf'
    simp [Target.leads] at hf'
    subst hf'
    exact hFg
  · simp [invoke, go_sem, eg]
  have book : ∀ {st : LoopState} {pe : Option Code} {K : List α → World → Prop}, Bides B K → Bides B (fun pre W => K pre W ∧ W.heap[L]? = some (.loop (rec st pe)) ∧ W.heap[w.heap.size]? = some (.deferred (some []))) :=
    fun h => h.and ((bides_loop hLB _).and (bides_loop hDB _))
  refine (hseq L (fun pre W => I pre W ∧ W.heap[L]? = some (.loop (rec .ready none)) ∧ W.heap[w.heap.size]? = some (.deferred (some [])))
    (fun pre W => Ix pre W ∧ W.heap[L]? = some (.loop (rec .done (some .ret))) ∧ W.heap[w.heap.size]? = some (.deferred (some []))) W1 hb1 (book bI) (book bIx) ?_ ⟨hI1, hl1, hd1⟩).mono ?_
  · -- a round
    rintro pre x W ⟨hi, hl, hd⟩ hN
    have hlt : L < W.heap.size := (Array.getElem?_eq_some_iff.1 hl).1
    have hy := run_yield (P := P) (args := encs x) hl (by rw [hrec]; exact hps x)
    rw [hrec] at hy
    refine ⟨fn, _, assign, body, hy, roundIn_of_wpIn hfn (hassign _ pre x W _ hi fun a' Wa hka hBa hxa => ?_)⟩
    have hla := hka.same _ _ hl rfl
    have hda := hka.same _ _ hd rfl
    have hlta : L < Wa.heap.size := (Array.getElem?_eq_some_iff.1 hla).1
    refine ⟨_, run_beginRound hla (by rw [hrec]), ?_⟩
    obtain ⟨W2, hW2⟩ : ∃ W2, Wa.putObj L (.loop { rec .ready none with state := .busy }) = W2 := ⟨_, rfl⟩
    rw [hW2]
    have hx2 : Ax pre x a' W2 := hW2 ▸ hAx.putObj (s := (pre, x, a')) _ hxa (by omega) hla rfl
    have hl2 : W2.heap[L]? = some (.loop { rec .ready none with state := .busy }) := hW2 ▸ World.putObj_heap_same hlta
    have hd2 : W2.heap[w.heap.size]? = some (.deferred (some [])) := hW2 ▸ (put_other (by omega)).trans hda
    have hB2 : W2.heap[B]? = W.heap[B]? := hW2 ▸ (put_other (by omega)).trans hBa
    refine wpIn_mono (hbody L pre x a' W2 hx2 hN) ?_
    rintro e a3 W3 hp
    cases e with
    | normal =>
      obtain ⟨hk, hB3, hG, hi3⟩ := hp
      have hl3 := hk.same _ _ hl2 rfl
      have hr := run_endRound (P := P) none hl3
      rw [hrec] at hr hl3
      refine ⟨_, _, hr, .inl ⟨rfl, hG, ⟨hI.putObj _ hi3 (by omega) hl3 rfl, ?_, (put_other (by omega)).trans (hk.same _ _ hd2 rfl)⟩, (put_other (by omega)).trans (hB3.trans hB2)⟩⟩
      rw [World.putObj_heap_same (Array.getElem?_eq_some_iff.1 hl3).1, hrec]
      rfl
    | ret =>
      obtain ⟨hk, hi3⟩ := hp
      have hl3 := hk.same _ _ hl2 rfl
      have hr := run_endRound (P := P) (some .ret) hl3
      rw [hrec] at hr hl3
      refine ⟨_, _, hr, .inr ⟨rfl, hIx.putObj _ hi3 (by omega) hl3 rfl, ?_, (put_other (by omega)).trans (hk.same _ _ hd2 rfl)⟩⟩
      rw [World.putObj_heap_same (Array.getElem?_eq_some_iff.1 hl3).1, hrec]
      rfl
    | exit id => exact hp.elim
    | goto t => exact hp.elim
    | panic ch => exact hp.elim
    | outgrown => exact hp.elim
  · -- behind the iterator
    rintro e W2 ⟨⟨v, rfl⟩, (⟨xs, hS, hi, hl, hd⟩ | ⟨pre, hSp, hi, hl, hd⟩)⟩
    · have hr := run_endLoop (P := P) hl (by rw [hrec]; simp)
      rw [hrec] at hr hl
      exact ⟨none, _, hr, hdone _ xs _ (Nat.le_refl _) hS (hI.putObj _ hi (by omega) hl rfl) ((put_other (by omega)).trans hd)⟩
    · have hr := run_endLoop (P := P) hl (by rw [hrec]; simp)
      rw [hrec] at hr hl
      exact ⟨some .ret, _, hr, hstop _ pre _ (Nat.le_refl _) hSp (hIx.putObj _ hi (by omega) hl rfl) ((put_other (by omega)).trans hd)⟩


abbrev Yd := S36 × ByteArray
def ext.num (s : ByteArray) (i : Int) : Int := bt s i * 256 + bt s (i + 1)
def ext.ok (s : ByteArray) : Prop := 16 ≤ ext.num s 2 ∧ ext.num s 2 % 4 = 0 ∧ ext.num s 2 ≤ s.size
open Classical in
noncomputable def ext.nx (s : ByteArray) : Yd := if ext.ok s then (⟨ext.num s 0, s.extract 4 (ext.num s 2).toNat⟩, s.extract (ext.num s 2).toNat s.size) else (⟨ext.num s 0, ⟨#[]⟩⟩, s)
def runs : ByteArray → List Yd → ByteArray → Prop
  | s, [], t => t = s
  | s, x :: xs, t => 24 < s.size ∧ ext.ok s ∧ x = ext.nx s ∧ runs x.2 xs t
theorem runs_len : ∀ (xs : List Yd) (s t : ByteArray), runs s xs t → xs.length + t.size ≤ s.size
  | [], s, t, h => by
    obtain rfl : t = s := h
    simp
  | x :: xs, s, t, h => by
    have ih := runs_len xs x.2 t h.2.2.2
    have hx := h.2.2.1
    have hok := h.2.1
    have e : x.2.size + 16 ≤ s.size := by
      rw [hx]
      unfold ext.nx
      rw [if_pos hok]
      show (s.extract (ext.num s 2).toNat s.size).size + 16 ≤ s.size
      rw [ByteArray.size_extract]
      have := hok.1
      have := hok.2.2
      omega
    rw [List.length_cons]
    omega
theorem runs_snoc : ∀ (xs : List Yd) (s t : ByteArray), runs s xs t → 24 < t.size → ext.ok t → runs s (xs ++ [ext.nx t]) (ext.nx t).2
  | [], s, t, h, h1, h2 => by
    obtain rfl : t = s := h
    exact ⟨h1, h2, rfl, rfl⟩
  | x :: xs, s, t, h, h1, h2 => ⟨h.1, h.2.1, h.2.2.1, runs_snoc xs x.2 t h.2.2.2 h1 h2⟩
theorem orB (x y : Int) (h0 : 0 ≤ x) (h1 : x ≤ 255) (h2 : 0 ≤ y) (h3 : y ≤ 255) : Go.bits .or .i64 (wrap64 (wrap64 x * 256)) (wrap64 y) = x * 256 + y := by
  have e1 : wrap64 x = x := by unfold wrap64; omega
  have e2 : wrap64 y = y := by unfold wrap64; omega
  have e3 : wrap64 (x * 256) = x * 256 := by unfold wrap64; omega
  rw [e1, e2, e3]
  exact bits_join .i64 63 (by decide) (fun n q0 q1 => by rw [i64_w]; unfold wrap64; omega) 8 _ _ (by omega) (by omega) (by omega) (by omega) (by omega) (by omega)
def encY (x : Yd) : Array Value := #[.agg #[.int .i64 x.1.f0, .string x.1.f1], .string x.2]
def inB (B : Nat) (w : World) : Nat := match w.cell? ⟨B, 0, none⟩ with | some (.string s) => s.size | _ => 0
theorem inB_eq {B : Nat} {W : World} {t : ByteArray} {e : TypeId} (h : W.heap[B]? = some (.cells #[.string t] e (0, 0))) : inB B W = t.size := by
  unfold inB
  rw [blk_cell h 0]
  rfl
theorem turn_end {B g : Nat} {wr W4 W5 : World} {u : Value} {v : ByteArray} (hg : wr.heap.size = g) (h : Turn B wr W4) (e : ((W4.setCell ⟨g, 1, none⟩ u).setCell ⟨B, 0, none⟩ (.string v)).drew = W5) (hk : IsS W5 B) : Turn B wr W5 := by
  have a : ∀ k, k < wr.heap.size → k ≠ B → (W4.setCell ⟨g, 1, none⟩ u).heap[k]? = wr.heap[k]? := fun k hk hne => (Below.heap_setCell W4 ⟨g, 1, none⟩ u k (show k ≠ g by omega)).trans (h.block k hk hne)
  refine ⟨?_, ?_, ?_, ?_, fun k hk hne => ?_, fun _ => hk⟩
  · rw [← e]
    exact h.os
  · rw [← e]
    exact h.tape
  · rw [← e]
    exact h.output
  · rw [← e]
    simpa [World.setCell] using h.size
  · rw [← e]
    exact (Below.heap_setCell _ ⟨B, 0, none⟩ (.string v) k hne).trans (a k hk hne)
set_option maxHeartbeats 8000000 in
set_option maxRecDepth 100000 in
theorem fields1 (B : Nat) (s : ByteArray) (w : World) (hb : w.heap[B]? = some (.cells #[.string s] 9 (0, 0))) (hs : s.size ≤ 1099511627776) :
    Iter Fence.wide 4 Try.prog 58 #[.pointer (some ⟨B, 0, none⟩)] B encY (fun x => 0 < x.1.f1.size) (fun xs => ∃ t, runs s xs t ∧ t.size ≤ 24) (fun pre => ∃ p t, pre = p ++ [ext.nx t] ∧ runs s p t ∧ 24 < t.size) (s.size + 1) w := by
  intro l J Jx W hW bJ bJx hY h0
  have hbW := blk_below hb hW
  refine callsIn_of_wp Try.func58 rfl trivial ?_ rfl
  simp only [Try.ntmps58, List.size_toArray, List.length_cons, List.length_nil, Nat.reduceAdd, Nat.reduceSub, Array.replicate_succ, Array.replicate_zero, List.push_toArray, List.append_toArray, List.nil_append, List.cons_append]
  gi_wp2
  gi_loopw [] (fun wr => ∃ (pre : List Yd) (t : ByteArray), wr.heap[B]? = some (.cells #[.string t] 9 (0, 0)) ∧ runs s pre t ∧ t.size ≤ s.size ∧ J pre wr) (fun wr => inB B wr)
  case atStart => exact ⟨[], s, hbW, rfl, Nat.le_refl _, h0⟩
  case round =>
    obtain ⟨pre, t, hbt, hrun, hle, hJs⟩ := hrel
    have hN : pre.length < s.size + 1 := by have := runs_len pre s t hrun; omega
    have kb := (blk_cell hbt 0).trans (show _ = some (Value.string t) from rfl)
    by_cases q : 24 < t.size
    · have i0 : (0 < t.size) = True := eq_true (by omega)
      have i1 : (1 < t.size) = True := eq_true (by omega)
      have i2 : (2 < t.size) = True := eq_true (by omega)
      have i3 : (3 < t.size) = True := eq_true (by omega)
      have x0 : ∀ h : 0 < t.size, ((t[0]'h).toNat : Int) = bt t 0 := bt_at t 0
      have x1 : ∀ h : 1 < t.size, ((t[1]'h).toNat : Int) = bt t 1 := bt_at t 1
      have x2 : ∀ h : 2 < t.size, ((t[2]'h).toNat : Int) = bt t 2 := bt_at t 2
      have x3 : ∀ h : 3 < t.size, ((t[3]'h).toNat : Int) = bt t 3 := bt_at t 3
      have b0 := bt_range t 0
      have b1 := bt_range t 1
      have b2 := bt_range t 2
      have b3 := bt_range t 3
      obtain ⟨n0, hn0⟩ : ∃ n0, ext.num t 0 = n0 := ⟨_, rfl⟩
      obtain ⟨n2, hn2⟩ : ∃ n2, ext.num t 2 = n2 := ⟨_, rfl⟩
      have e0 : Go.bits .or .i64 (wrap64 (wrap64 (bt t 0) * 256)) (wrap64 (bt t 1)) = n0 := by rw [orB _ _ b0.1 b0.2 b1.1 b1.2]; exact hn0
      have e2 : Go.bits .or .i64 (wrap64 (wrap64 (bt t 2) * 256)) (wrap64 (bt t 3)) = n2 := by rw [orB _ _ b2.1 b2.2 b3.1 b3.2]; exact hn2
      clear b0 b1 b2 b3
      have ka : ∀ o, (wr.alloc o).cell? ⟨B, 0, none⟩ = some (Value.string t) := fun o => (blk_cell (blk_alloc hbt o) 0).trans rfl
      by_cases hok : ext.ok t
      · have c1 : (16 ≤ n2) = True := eq_true (hn2 ▸ hok.1)
        have c2 : Int.tmod n2 4 = 0 := by rw [Int.tmod_eq_emod_of_nonneg (by have := hn2 ▸ hok.1; omega)]; exact hn2 ▸ hok.2.1
        have c3 : (n2 ≤ (t.size : Int)) = True := eq_true (hn2 ▸ hok.2.2)
        have c4 : (4 ≤ n2) = True := eq_true (by have := of_eq_true c1; omega)
        have c5 : (0 ≤ n2) = True := eq_true (by have := of_eq_true c1; omega)
        gi_wp2
        gi_region
        gi_wp2
        gi_region
        gi_wp2
        obtain ⟨W4, hW4⟩ : ∃ W4, (wr.alloc (Obj.cells #[Value.int IntKind.i64 n0, Value.string { data := #[] }] 36)).drew.drew = W4 := ⟨_, rfl⟩
        obtain ⟨g, hg⟩ : ∃ g, wr.heap.size = g := ⟨_, rfl⟩
        rw [hW4, hg]
        have hgB : g ≠ B := by have := blk_lt hbt; omega
        have hB4 : W4.heap[B]? = some (.cells #[.string t] 9 (0, 0)) := hW4 ▸ blk_drew (blk_drew (blk_alloc hbt _))
        have hG4 : W4.heap[g]? = some (.cells #[.int .i64 n0, .string ⟨#[]⟩] 36 (0, 0)) := by rw [← hW4, ← hg]; exact blk_drew (blk_drew (blk_new wr _))
        have T4 : Turn B wr W4 := Turn.of_below (hW4 ▸ below_drew1 (below_drew1 (below_alloc (Below.refl _ wr) _)))
        have k1 := (blk_cell hB4 0).trans (show _ = some (Value.string t) from rfl)
        have k2 := (blk_cell hG4 1).trans (show _ = some (Value.string ⟨#[]⟩) from rfl)
        have k3 := (blk_cell hG4 0).trans (show _ = some (Value.int .i64 n0) from rfl)
        have f1 := blk_frozen hB4 0
        have f2 := blk_frozen hG4 1
        gi_region
        obtain ⟨W5, hW5⟩ : ∃ W5, ((W4.setCell ⟨g, 1, none⟩ (Value.string (t.extract 4 n2.toNat))).setCell ⟨B, 0, none⟩ (Value.string (t.extract n2.toNat t.size))).drew = W5 := ⟨_, rfl⟩
        rw [hW5]
        have hB5 : W5.heap[B]? = some (.cells #[.string (t.extract n2.toNat t.size)] 9 (0, 0)) := hW5 ▸ blk_drew (blk_put (blk_far hB4 (Ne.symm hgB) _) 0 _ rfl)
        have hG5 : W5.heap[g]? = some (.cells #[.int .i64 n0, .string (t.extract 4 n2.toNat)] 36 (0, 0)) := hW5 ▸ blk_drew (blk_far (blk_put hG4 1 _ rfl) hgB _)
        have T5 : Turn B wr W5 := turn_end hg T4 hW5 ⟨_, hB5⟩
        have hx : ext.nx t = (⟨n0, t.extract 4 n2.toNat⟩, t.extract n2.toNat t.size) := by
          unfold ext.nx
          rw [if_pos hok, hn0, hn2]
        obtain ⟨fn, tmps, assign, body, hy, hR⟩ := hY pre (⟨n0, t.extract 4 n2.toNat⟩, t.extract n2.toNat t.size) W5 (bJ _ _ _ hJs T5) hN
        have hy' : (Instr.yield l #[.agg #[.int .i64 n0, .string (t.extract 4 n2.toNat)], .string (t.extract n2.toNat t.size)]).run Try.prog W5 = .ok (.round l fn tmps assign body) W5 := hy
        have k5 := (blk_cell hB5 0).trans (show _ = some (Value.string (t.extract n2.toNat t.size)) from rfl)
        have k6 := (blk_cell hG5 0).trans (show _ = some (Value.int .i64 n0) from rfl)
        have k7 := (blk_cell hG5 1).trans (show _ = some (Value.string (t.extract 4 n2.toNat)) from rfl)
        clear k1 k2 k3 f1 f2 hW5 hW4 hy hY ka
        gi_wp2
        refine hR.mono ?_
        rintro e W6 (⟨rfl, hG6, hJ6, hB6⟩ | ⟨rfl, hJx6⟩)
        · gi_wp2
          go_roundw
          case rel =>
            refine ⟨pre ++ [ext.nx t], t.extract n2.toNat t.size, hB6.trans hB5, ?_, ?_, hx ▸ hJ6⟩
            · have := runs_snoc pre s t hrun q hok
              rw [hx] at this ⊢
              exact this
            · rw [ByteArray.size_extract]
              omega
          case measure =>
            rw [inB_eq (hB6.trans hB5), inB_eq hbt, ByteArray.size_extract]
            have := of_eq_true c1
            omega
        · gi_wp2
          refine bodyPost_ret (results_none rfl _ _ _) rfl ?_
          exact ⟨⟨_, rfl⟩, .inr ⟨pre ++ [ext.nx t], ⟨pre, t, rfl, hrun, q⟩, hx ▸ hJx6⟩⟩
      · have hx : ext.nx t = (⟨n0, ⟨#[]⟩⟩, t) := by
          unfold ext.nx
          rw [if_neg hok, hn0]
        have hcase : (16 ≤ n2) = False ∨ ((16 ≤ n2) = True ∧ (Int.tmod n2 4 = 0) = False) ∨ ((16 ≤ n2) = True ∧ Int.tmod n2 4 = 0 ∧ (n2 ≤ (t.size : Int)) = False) := by
          by_cases d1 : 16 ≤ n2
          · have e4 : Int.tmod n2 4 = n2 % 4 := Int.tmod_eq_emod_of_nonneg (by omega)
            by_cases d2 : n2 % 4 = 0
            · exact .inr (.inr ⟨eq_true d1, by rw [e4]; exact d2, eq_false fun d3 => hok ⟨hn2.symm ▸ d1, hn2.symm ▸ d2, hn2.symm ▸ d3⟩⟩)
            · exact .inr (.inl ⟨eq_true d1, eq_false (by rw [e4]; exact d2)⟩)
          · exact .inl (eq_false d1)
        rcases hcase with c1 | ⟨c1, c2⟩ | ⟨c1, c2, c3⟩
        all_goals
          gi_wp2
          gi_region
          gi_wp2
          gi_region
          obtain ⟨W4, hW4⟩ : ∃ W4, (wr.alloc (Obj.cells #[Value.int IntKind.i64 n0, Value.string { data := #[] }] 36)).drew.drew = W4 := ⟨_, rfl⟩
          obtain ⟨g, hg⟩ : ∃ g, wr.heap.size = g := ⟨_, rfl⟩
          rw [hW4, hg]
          have hgB : g ≠ B := by have := blk_lt hbt; omega
          have hB4 : W4.heap[B]? = some (.cells #[.string t] 9 (0, 0)) := hW4 ▸ blk_drew (blk_drew (blk_alloc hbt _))
          have hG4 : W4.heap[g]? = some (.cells #[.int .i64 n0, .string ⟨#[]⟩] 36 (0, 0)) := by rw [← hW4, ← hg]; exact blk_drew (blk_drew (blk_new wr _))
          have T4 : Turn B wr W4 := Turn.of_below (hW4 ▸ below_drew1 (below_drew1 (below_alloc (Below.refl _ wr) _)))
          obtain ⟨fn, tmps, assign, body, hy, hR⟩ := hY pre (⟨n0, ⟨#[]⟩⟩, t) W4 (bJ _ _ _ hJs T4) hN
          have hy' : (Instr.yield l #[.agg #[.int .i64 n0, .string ⟨#[]⟩], .string t]).run Try.prog W4 = .ok (.round l fn tmps assign body) W4 := hy
          have k5 := (blk_cell hB4 0).trans (show _ = some (Value.string t) from rfl)
          have k6 := (blk_cell hG4 0).trans (show _ = some (Value.int .i64 n0) from rfl)
          have k7 := (blk_cell hG4 1).trans (show _ = some (Value.string ⟨#[]⟩) from rfl)
          clear hW4 hy hY ka
          gi_wp2
          refine hR.mono ?_
          rintro e W6 (⟨rfl, hG6, hJ6, hB6⟩ | ⟨rfl, hJx6⟩)
          · exact absurd hG6 (Nat.not_lt_zero _)
          · gi_wp2
            refine bodyPost_ret (results_none rfl _ _ _) rfl ?_
            exact ⟨⟨_, rfl⟩, .inr ⟨pre ++ [ext.nx t], ⟨pre, t, rfl, hrun, q⟩, hx ▸ hJx6⟩⟩
    · gi_wp2
      go_end0
      exact ⟨⟨_, rfl⟩, .inl ⟨pre, ⟨t, hrun, by omega⟩, hJs⟩⟩

def macv (n : Nat) : Bool := n == 0 || n == 4 || n == 20 || n == 24
theorem idx_eq (x : Int) : slices_Index_int_int.f 6 [0, 4, 20, 24] x = some (if x = 0 then 0 else if x = 4 then 1 else if x = 20 then 2 else if x = 24 then 3 else -1) := by
  have w1 : wrap64 1 = 1 := by unfold wrap64; omega
  have w2 : wrap64 2 = 2 := by unfold wrap64; omega
  have w3 : wrap64 3 = 3 := by unfold wrap64; omega
  have w4 : wrap64 4 = 4 := by unfold wrap64; omega
  unfold slices_Index_int_int.f
  simp only [slices_Index_int_int.l0, List.length_cons, List.length_nil]
  simp [rd, w1, w2, w3, w4]
  by_cases h0 : x = 0
  · simp [h0]
  · by_cases h4 : x = 4
    · simp [h4]
    · by_cases h20 : x = 20
      · simp [h20]
      · by_cases h24 : x = 24
        · simp [h24]
        · simp [h0, h4, h20, h24]
theorem mac_eq (s : ByteArray) : extend_mac.f 6 s = some (macv s.size) := by
  unfold extend_mac.f slices_Contains_int_int.f
  rw [idx_eq, Option.bind_some, Option.bind_some]
  unfold macv
  by_cases h0 : s.size = 0
  · rw [h0]; rfl
  · by_cases h4 : s.size = 4
    · rw [h4]; rfl
    · by_cases h20 : s.size = 20
      · rw [h20]; rfl
      · by_cases h24 : s.size = 24
        · rw [h24]; rfl
        · rw [if_neg (by omega), if_neg (by omega), if_neg (by omega), if_neg (by omega)]
          simp [h0, h4, h20, h24]
def cellsOf : List S36 → List Value
  | [] => []
  | x :: xs => .int .i64 x.f0 :: .string x.f1 :: cellsOf xs
theorem cellsOf_snoc : ∀ (xs : List S36) (x : S36), cellsOf (xs ++ [x]) = cellsOf xs ++ [.int .i64 x.f0, .string x.f1]
  | [], x => rfl
  | y :: ys, x => by
    rw [List.cons_append]
    show _ :: _ :: cellsOf (ys ++ [x]) = _
    rw [cellsOf_snoc ys x]
    rfl
def restOf (s : ByteArray) (pre : List Yd) : ByteArray := (pre.getLast?.map fun x => x.2).getD s
theorem restOf_snoc (s : ByteArray) (pre : List Yd) (x : Yd) : restOf s (pre ++ [x]) = x.2 := by simp [restOf]
theorem restOf_runs : ∀ (xs : List Yd) (s t : ByteArray), runs s xs t → restOf s xs = t
  | [], s, t, h => (show t = s from h).symm
  | [x], s, t, h => by
    have : t = x.2 := h.2.2.2
    rw [this]
    rfl
  | x :: y :: xs, s, t, h => by
    have ih := restOf_runs (y :: xs) x.2 t h.2.2.2
    rw [← ih]
    unfold restOf
    rw [List.getLast?_cons_cons]
    cases h2 : (y :: xs).getLast? with
    | none => simp at h2
    | some z => rfl
/-- Between two rounds. -/
structure WI (w : World) (rest : ByteArray) (fs : List S36) (W : World) : Prop where
  b0 : Boxed W w.heap.size 9 (.string rest)
  r0 : Boxed W (w.heap.size + 1) 31 (.slice none 0 0)
  r1 : Boxed W (w.heap.size + 2) 9 (.string ⟨#[]⟩)
  r2 : Boxed W (w.heap.size + 3) 32 (.int .i64 0)
  l : ∃ v, Boxed W (w.heap.size + 4) 31 v ∧ W.ownsRow w.heap.size 36 2 v fs.length (cellsOf fs)
  c : IsS W (w.heap.size + 5)
  bel : Below w.heap.size w W
/-- Behind a round that has returned. -/
structure WX (w : World) (W : World) : Prop where
  r0 : Boxed W (w.heap.size + 1) 31 (.slice none 0 0)
  r1 : Boxed W (w.heap.size + 2) 9 (.string ⟨#[]⟩)
  r2 : Boxed W (w.heap.size + 3) 32 (.int .i64 60)
  bel : Below w.heap.size w W
theorem infoF : (Try.prog.info? 36).map (fun i => (i.zero, i.size, i.bytes)) = some (some (.agg #[(.int .i64 0), (.string ⟨#[]⟩)]), 2, 24) := by kernel_rfl
theorem box_far {W : World} {C : Nat} {t : TypeId} {v : Value} {b : Nat} (h : Boxed W C t v) (hne : C ≠ b) (u : Value) : Boxed (W.setCell ⟨b, 0, none⟩ u) C t v := (Below.heap_setCell W ⟨b, 0, none⟩ u C hne).trans h
theorem cells_new (W : World) (cs : List Value) (t : TypeId) : ∀ (j : Nat) (u : Value), cs[j]? = some u → (W.alloc (.cells cs.toArray t)).cell? (Addr.add ⟨W.heap.size, 0, none⟩ j) = some u := by
  intro j u h
  rw [add_plain]
  refine (blk_cell (blk_new W _) _).trans ?_
  simpa using h
theorem boxed_kept {W W' : World} {row : Option Nat} {B : Nat} {t : TypeId} {v : Value} (h : Boxed W B t v) (hg : W.grownBy W' row) (hr : ∀ r, row = some r → ∃ o : Obj, W.heap[r]? = some o ∧ o.isCells = false) : Boxed W' B t v :=
  h.kept hg (fun e => by
    obtain ⟨o, ho, hc⟩ := hr B e.symm
    rw [show W.heap[B]? = _ from h] at ho
    cases ho
    cases hc)
theorem WI.kept {w : World} {rest : ByteArray} {fs : List S36} {W W' : World} {row : Option Nat} {n : Nat} (h : WI w rest fs W) (hn : w.heap.size ≤ n) (hg : W.grownBy W' row) (hr : ∀ r, row = some r → n ≤ r ∧ ∃ o : Obj, W.heap[r]? = some o ∧ o.isCells = false) : WI w rest fs W' := by
  have hr2 : ∀ r, row = some r → ∃ o : Obj, W.heap[r]? = some o ∧ o.isCells = false := fun r e => (hr r e).2
  obtain ⟨v, hv, hrow⟩ := h.l
  obtain ⟨u, hu⟩ := h.c
  refine ⟨boxed_kept h.b0 hg hr2, boxed_kept h.r0 hg hr2, boxed_kept h.r1 hg hr2, boxed_kept h.r2 hg hr2, ⟨v, boxed_kept hv hg hr2, hrow.kept hg ?_⟩, ⟨u, boxed_kept (t := 9) hu hg hr2⟩, h.bel.grown hg h.bel.size (fun k e => Nat.le_trans hn (hr k e).1)⟩
  rcases hrow.2 with ⟨rfl, _⟩ | ⟨g, cap, cur, rfl, _, hgb, _⟩
  · exact .inl rfl
  · refine .inr fun e => ?_
    obtain ⟨o, ho, hc⟩ := hr2 g (by simpa [Value.ownBlock] using e.symm)
    rw [hgb] at ho
    cases ho
    cases hc
theorem boxed_turn {B C : Nat} {W W' : World} {t : TypeId} {v : Value} (h : Boxed W C t v) (hne : C ≠ B) (k : Turn B W W') : Boxed W' C t v := (k.block C h.lt hne).trans h
theorem WI.turn {w : World} {rest : ByteArray} {fs : List S36} {W W' : World} (h : WI w rest fs W) (k : Turn (w.heap.size + 5) W W') : WI w rest fs W' := by
  obtain ⟨v, hv, hrow⟩ := h.l
  obtain ⟨u, hu⟩ := h.c
  refine ⟨boxed_turn h.b0 (by omega) k, boxed_turn h.r0 (by omega) k, boxed_turn h.r1 (by omega) k, boxed_turn h.r2 (by omega) k, ⟨v, boxed_turn hv (by omega) k, ?_⟩, k.kind ⟨u, hu⟩, Turn.below h.bel h.bel.size (by omega) k⟩
  refine ⟨hrow.1, ?_⟩
  rcases hrow.2 with ⟨rfl, h0⟩ | ⟨g, cap, cur, rfl, h1, hgb, h2⟩
  · exact .inl ⟨rfl, h0⟩
  · refine .inr ⟨g, cap, cur, rfl, h1, (k.block g (Array.getElem?_eq_some_iff.1 hgb).1 ?_).trans hgb, h2⟩
    have := Boxed.not_row (show Boxed W (w.heap.size + 5) 9 (.string u) from hu) (by decide) hrow
    intro e
    exact this (by simp [Value.ownBlock, e])
theorem WX.kept {w : World} {W W' : World} {row : Option Nat} {n : Nat} (h : WX w W) (hn : w.heap.size ≤ n) (hg : W.grownBy W' row) (hr : ∀ r, row = some r → n ≤ r ∧ ∃ o : Obj, W.heap[r]? = some o ∧ o.isCells = false) : WX w W' :=
  ⟨boxed_kept h.r0 hg (fun r e => (hr r e).2), boxed_kept h.r1 hg (fun r e => (hr r e).2), boxed_kept h.r2 hg (fun r e => (hr r e).2), h.bel.grown hg h.bel.size (fun k e => Nat.le_trans hn (hr k e).1)⟩
theorem WX.turn {w : World} {W W' : World} (h : WX w W) (k : Turn (w.heap.size + 5) W W') : WX w W' :=
  ⟨boxed_turn h.r0 (by omega) k, boxed_turn h.r1 (by omega) k, boxed_turn h.r2 (by omega) k, Turn.below h.bel h.bel.size (by omega) k⟩
theorem fields_calls (s : ByteArray) (w : World) : Calls Try.prog 44 #[.string s] w fun e w' => e = .returned (.func (.func 58) #[] #[.pointer (some ⟨w.heap.size, 0, none⟩)]) ∧ w' = w.alloc (.cells #[.string s] 9) := by
  go_enter Try.func44, Try.ntmps44
  go_wp2_with (fail)
  go_ret
  exact ⟨rfl, rfl⟩
section
attribute [local go_sem] Oper.semAt_some
def WIp (w : World) (s : ByteArray) (pre : List Yd) (W : World) : Prop := WI w (restOf s pre) (pre.map fun x => x.1) W
def WXp (w : World) (pre : List Yd) (W : World) : Prop := WX w W ∧ ∃ (p : List Yd) (x : Yd), pre = p ++ [x] ∧ x.1.f1.size = 0
/-- What Walk comes to. -/
def walkEnd (s : ByteArray) (w : World) (e : Ending) (w' : World) : Prop :=
  ∃ (v : Value) (fs : List S36) (m : ByteArray) (c : Int), e = .returned (.tuple #[v, .string m, .int .i64 c]) ∧ w'.ownsRow w.heap.size 36 2 v fs.length (cellsOf fs) ∧ Below w.heap.size w w' ∧
    ((c = 0 ∧ ∃ xs, runs s xs m ∧ m.size ≤ 24 ∧ fs = xs.map (fun x => x.1) ∧ macv m.size = true) ∨
     (c = 60 ∧ fs = [] ∧ m = ⟨#[]⟩ ∧ ((∃ xs t, runs s xs t ∧ t.size ≤ 24 ∧ macv t.size = false) ∨ (∃ xs t, runs s xs t ∧ 24 < t.size ∧ ¬ ext.ok t))))
theorem walk_res {W : World} {tmps : Array Value} {n0 n1 n2 : Nat} {v0 v1 v2 : Value} (e0 : tmps[2]?.getD undef = .pointer (some ⟨n0, 0, none⟩)) (e1 : tmps[3]?.getD undef = .pointer (some ⟨n1, 0, none⟩)) (e2 : tmps[4]?.getD undef = .pointer (some ⟨n2, 0, none⟩)) (h0 : Boxed W n0 31 v0) (h1 : Boxed W n1 9 v1) (h2 : Boxed W n2 32 v2) :
    (results Try.f21 tmps).run Try.prog W = .ok (.tuple #[v0, v1, v2]) W := by
  have c0 := h0.cell
  have c1 := h1.cell
  have c2 := h2.cell
  simp [results, Try.f21, go_sem, e0, e1, e2, c0, c1, c2]
theorem own_below {base : Nat} {W W2 : World} {v : Value} {k : Nat} {cs : List Value} (h : W.ownsRow base 36 2 v k cs) (hb : Below W.heap.size W W2) : W2.ownsRow base 36 2 v k cs := by
  refine ⟨h.1, ?_⟩
  rcases h.2 with ⟨rfl, h0⟩ | ⟨g, cap, cur, rfl, h1, hgb, h2⟩
  · exact .inl ⟨rfl, h0⟩
  · exact .inr ⟨g, cap, cur, rfl, h1, blk_below hgb hb, h2⟩
theorem put_below {w W : World} {D : Nat} {o : Obj} (h : Below w.heap.size w W) (hD : w.heap.size ≤ D) (hn : 0 ≤ D) : Below w.heap.size w (W.putObj D o) :=
  h.grown (grownBy_putObj' W D o) h.size (fun k e => by cases e; omega)
theorem nx_size (t : ByteArray) (h : 24 < t.size) (hok : ext.ok t) (e : (ext.nx t).1.f1.size = 0) : False := by
  unfold ext.nx at e
  rw [if_pos hok] at e
  have e' : (t.extract 4 (ext.num t 2).toNat).size = 0 := e
  rw [ByteArray.size_extract] at e'
  have := hok.1
  have := hok.2.2
  omega
set_option maxHeartbeats 8000000 in
set_option maxRecDepth 100000 in
theorem walk_fenced (s : ByteArray) (w : World) (hs : s.size ≤ 1000000000) : CallsIn Fence.wide 5 Try.prog 21 #[.string s] w (walkEnd s w) := by
  have HF := fun (W : World) => (fields_calls s W)
  refine callsIn_of_wp_marks Try.func21 rfl trivial ?_ rfl
  simp only [Try.ntmps21, List.size_toArray, List.length_cons, List.length_nil, Nat.reduceAdd, Nat.reduceSub, Array.replicate_succ, Array.replicate_zero, List.push_toArray, List.append_toArray, List.nil_append, List.cons_append]
  gi_wp2
  refine ⟨trivial, (callsIn_wide.2 (HF _)).mono ?_⟩
  rintro e w' ⟨rfl, rfl⟩
  obtain ⟨W0, hW0⟩ : ∃ W0, ((((((w.alloc (Obj.cells #[Value.string s] 9)).alloc (Obj.cells #[Value.slice none 0 0] 31)).alloc (Obj.cells #[Value.string { data := #[] }] 9)).alloc (Obj.cells #[Value.int IntKind.i64 0] 32)).alloc (Obj.cells #[Value.slice none 0 0] 31)).alloc (.cells #[.string s] 9)) = W0 := ⟨_, rfl⟩
  have hsz : W0.heap.size = w.heap.size + 6 := by rw [← hW0]; simp
  have hB : Boxed W0 (w.heap.size + 5) 9 (.string s) := by
    have := Boxed.new (((((w.alloc (Obj.cells #[Value.string s] 9)).alloc (Obj.cells #[Value.slice none 0 0] 31)).alloc (Obj.cells #[Value.string { data := #[] }] 9)).alloc (Obj.cells #[Value.int IntKind.i64 0] 32)).alloc (Obj.cells #[Value.slice none 0 0] 31)) 9 (.string s)
    rw [hW0] at this
    simpa using this
  have hI : WI w s [] W0 := by
    refine ⟨?_, ?_, ?_, ?_, ⟨.slice none 0 0, ?_, World.ownsRow_nil _ _ _ _⟩, ⟨s, hB⟩, ?_⟩
    · rw [← hW0]
      exact (((((Boxed.new w _ _).alloc _).alloc _).alloc _).alloc _).alloc _
    · rw [← hW0]
      have := ((((Boxed.new (w.alloc (Obj.cells #[Value.string s] 9)) 31 (.slice none 0 0)).alloc (Obj.cells #[Value.string { data := #[] }] 9)).alloc (Obj.cells #[Value.int IntKind.i64 0] 32)).alloc (Obj.cells #[Value.slice none 0 0] 31)).alloc (.cells #[.string s] 9)
      simpa using this
    · rw [← hW0]
      have := (((Boxed.new ((w.alloc (Obj.cells #[Value.string s] 9)).alloc (Obj.cells #[Value.slice none 0 0] 31)) 9 (.string ⟨#[]⟩)).alloc (Obj.cells #[Value.int IntKind.i64 0] 32)).alloc (Obj.cells #[Value.slice none 0 0] 31)).alloc (.cells #[.string s] 9)
      simpa using this
    · rw [← hW0]
      have := ((Boxed.new (((w.alloc (Obj.cells #[Value.string s] 9)).alloc (Obj.cells #[Value.slice none 0 0] 31)).alloc (Obj.cells #[Value.string { data := #[] }] 9)) 32 (.int .i64 0)).alloc (Obj.cells #[Value.slice none 0 0] 31)).alloc (.cells #[.string s] 9)
      simpa using this
    · rw [← hW0]
      have := (Boxed.new ((((w.alloc (Obj.cells #[Value.string s] 9)).alloc (Obj.cells #[Value.slice none 0 0] 31)).alloc (Obj.cells #[Value.string { data := #[] }] 9)).alloc (Obj.cells #[Value.int IntKind.i64 0] 32)) 31 (.slice none 0 0)).alloc (.cells #[.string s] 9)
      simpa using this
    · rw [← hW0]
      exact below_alloc (below_alloc (below_alloc (below_alloc (below_alloc (below_alloc (Below.refl _ w) _) _) _) _) _) _
  have hseq := fields1 (w.heap.size + 5) s W0 hB (by omega)
  have hcap : (w.alloc (Obj.cells #[Value.string s] 9)).heap.size = w.heap.size + 1 := by simp
  gi_wp2
  simp only [Nat.add_assoc, Nat.reduceAdd]
  clear hW0
  refine range_iter (n := 5) (B := w.heap.size + 5) rfl (by omega) (gf := 58) (lb := #[.pointer (some ⟨w.heap.size + 5, 0, none⟩)]) rfl trivial (enters_of Try.func58 (by kernel_rfl) rfl) hseq (by omega) (fun _ => rfl)
    (WIp w s) (WXp w)
    (fun _ A B row h hg hr => WI.kept h (by omega) hg hr) (fun _ A B h ht => WI.turn h ht)
    (fun _ A B row h hg hr => ⟨h.1.kept (by omega) hg hr, h.2⟩) (fun _ A B h ht => ⟨h.1.turn ht, h.2⟩) hI
    (fun pre x a' W => WIp w s pre W ∧ ∃ bx, w.heap.size + 6 ≤ bx ∧ W.heap[bx]? = some (.cells #[.int .i64 x.1.f0, .string x.1.f1] 36 (0, 0)) ∧ a' = { tmps := #[.string s, .pointer (some ⟨w.heap.size, 0, none⟩), .pointer (some ⟨w.heap.size + 1, 0, none⟩), .pointer (some ⟨w.heap.size + 2, 0, none⟩), .pointer (some ⟨w.heap.size + 3, 0, none⟩), .pointer (some ⟨w.heap.size + 4, 0, none⟩), .pointer (some ⟨bx, 0, none⟩), .string x.2, .string s, .func (.func 58) #[] #[.pointer (some ⟨w.heap.size + 5, 0, none⟩)], .agg #[.int .i64 x.1.f0, .string x.1.f1], .string x.2, undef, undef, undef, undef, undef, undef, undef, undef, undef, undef, undef, undef, undef], defers := [] })
    ?ownAx ?assign ?body ?done ?stop
  case ownAx =>
    rintro ⟨pre, x, a'⟩ A B row ⟨hs1, bx, hb1, hb2, hb3⟩ hg hr
    refine ⟨WI.kept hs1 (by omega) hg hr, bx, hb1, (grownBy_keeps_cells hg (fun r e => (hr r e).2) hb2 rfl).trans hb2, hb3⟩
  case assign =>
    intro l pre x W K hI1 hK
    unfold encY
    gi_wp2
    have hlt : w.heap.size + 5 < W.heap.size := by
      obtain ⟨u, hu⟩ := hI1.c
      exact (Array.getElem?_eq_some_iff.1 hu).1
    exact hK _ _ (KeepsOthers.alloc W _) (Below.heap_alloc W _ _ hlt) ⟨WI.turn hI1 (Turn.of_below (below_alloc (Below.refl _ W) _)), W.heap.size, by omega, blk_new W _, rfl⟩
  case body =>
    rintro l pre x a' W ⟨hI1, bx, hb1, hb2, rfl⟩ hN
    obtain ⟨⟨y0, y1⟩, xr⟩ := x
    have kx0 := (blk_cell hb2 0).trans (show _ = some (Value.int .i64 y0) from rfl)
    have kx1 := (blk_cell hb2 1).trans (show _ = some (Value.string y1) from rfl)
    have m0 := hI1.r0.cell
    have m1 := hI1.r1.cell
    have m2 := hI1.r2.cell
    have m3 := hI1.b0.cell
    have f0 := hI1.r0.frozen
    have f1 := hI1.r1.frozen
    have f2 := hI1.r2.frozen
    have f3 := hI1.b0.frozen
    have hlt : w.heap.size + 5 < W.heap.size := by
      obtain ⟨u, hu⟩ := hI1.c
      exact (Array.getElem?_eq_some_iff.1 hu).1
    by_cases q : y1 = ⟨#[]⟩
    · subst q
      gi_wp2
      refine ⟨((KeepsOthers.setCell _ _ _).trans (KeepsOthers.setCell _ _ _)).trans (KeepsOthers.setCell _ _ _), ⟨?_, ?_, ?_, ?_⟩, pre, _, rfl, rfl⟩
      · exact box_far (box_far (hI1.r0.set _) (by omega) _) (by omega) _
      · exact box_far ((box_far hI1.r1 (by omega) _).set _) (by omega) _
      · exact (box_far (box_far hI1.r2 (by omega) _) (by omega) _).set _
      · exact ((hI1.bel.setCell (p := ⟨_, 0, none⟩) (by simp) _).setCell (p := ⟨_, 0, none⟩) (by simp) _).setCell (p := ⟨_, 0, none⟩) (by simp) _
    · obtain ⟨v, hv, hrow⟩ := hI1.l
      have m4 := hv.cell
      have hq : (y1.toList == []) = false := Bool.eq_false_iff.2 fun e => q (ByteArray.ext (Array.toList_inj.1 (by rw [ByteArray.toList_eq] at e; exact eq_of_beq e)))
      have hq2 : (y1.toList = []) = False := eq_false fun e => q (ByteArray.ext (Array.toList_inj.1 (by rw [ByteArray.toList_eq] at e; exact e)))
      obtain ⟨i0, hi, hz0, hz1, hz2⟩ := info_parts infoF
      gi_wp2_with (gi_at_builtin; refine wpListIn_append_own _ rfl _ _ 31 rfl w.heap.size 36 i0 (.agg #[(.int .i64 0), (.string ⟨#[]⟩)]) 2 24 Try.underlying31 hi hz0 hz1 hz2 rfl (by decide) _ _ _ rfl (hrow.alloc _) ⟨W.heap.size, 0, none⟩ 1 1 [.int .i64 y0, .string y1] rfl rfl (cells_new W _ _) ?one ?len ?byt ?bas ?_; (case one => simp [Value.oneCell']); (case len => rw [List.length_map]; unfold maxLen; omega); (case byt => rw [List.length_map]; omega); (case bas => rw [World.size_alloc]; omega); intro v' w1 hown' hgrow _; obtain ⟨g', cap', rfl⟩ := ownsRow_succ hown'; obtain ⟨hv1, hv2, hr2, hk2, hb2⟩ := hv.appended (by decide) hrow hI1.bel.size (by omega) hown' hgrow; have hc1 := hv1.cell; have hf1 := hv1.frozen; have bs1 := (hI1.b0.alloc (Obj.cells #[Value.int IntKind.i64 y0, Value.string y1] 36)).kept hgrow (hI1.b0.not_row (by decide) hrow); have hs1 := bs1.cell; have hs2 := bs1.frozen)
      simp only [List.length_map] at hv2 hr2 hk2 hb2
      obtain ⟨W2, hW2⟩ : ∃ W2, w1.setCell ⟨w.heap.size + 4, 0, none⟩ (Value.slice (some ⟨g', 0, none⟩) (pre.length + 1) cap') = W2 := ⟨_, rfl⟩
      rw [hW2]
      rw [hW2] at hv2 hr2 hk2 hb2
      have kb : ∀ {C : Nat} {t : TypeId} {u : Value}, Boxed W C t u → C ≠ w.heap.size + 4 → t ≠ 36 → Boxed W2 C t u := fun h hne ht => hW2 ▸ box_far ((h.alloc (Obj.cells #[Value.int IntKind.i64 y0, Value.string y1] 36)).kept hgrow (h.not_row ht hrow)) hne _
      have b2 := kb hI1.b0 (by omega) (by decide)
      have hrow2 := hr2.kept (grownBy_setCell' W2 w.heap.size (.string xr)) (.inr (b2.not_row (by decide) hr2).symm)
      obtain ⟨u5, hu5⟩ := hI1.c
      have c2 := kb (C := w.heap.size + 5) (t := 9) hu5 (by omega) (by decide)
      refine ⟨hk2.trans (KeepsOthers.setCell _ _ _), ?_, ?_, ?_⟩
      · exact (box_far c2 (by omega) _).trans hu5.symm
      · exact Nat.pos_of_ne_zero fun e => q (ByteArray.ext (Array.eq_empty_of_size_eq_zero e))
      · have e1 : restOf s (pre ++ [((⟨y0, y1⟩ : S36), xr)]) = xr := restOf_snoc s pre _
        have e2 : (pre ++ [((⟨y0, y1⟩ : S36), xr)]).map (fun x => x.1) = pre.map (fun x => x.1) ++ [⟨y0, y1⟩] := by simp
        show WI w _ _ _
        rw [e1, e2]
        refine ⟨b2.set _, box_far (kb hI1.r0 (by omega) (by decide)) (by omega) _, box_far (kb hI1.r1 (by omega) (by decide)) (by omega) _, box_far (kb hI1.r2 (by omega) (by decide)) (by omega) _, ⟨_, box_far hv2 (by omega) _, ?_⟩, ⟨u5, box_far c2 (by omega) _⟩, ?_⟩
        · rw [cellsOf_snoc, List.length_append, List.length_map]
          exact hrow2
        · exact (hI1.bel.trans hb2).setCell (p := ⟨_, 0, none⟩) (Nat.le_refl _) _
  case done =>
    rintro D xs W hD ⟨t, hrun, hle⟩ hI1 hK
    have et := restOf_runs xs s t hrun
    have hI2 : WI w t (xs.map fun x => x.1) W := by
      have h : WI w (restOf s xs) (xs.map fun x => x.1) W := hI1
      rw [et] at h
      exact h
    clear hI1 hseq hI hB
    obtain ⟨v, hv, hrow⟩ := hI2.l
    have m0 := hI2.r0.cell
    have m1 := hI2.r1.cell
    have m2 := hI2.r2.cell
    have m3 := hI2.b0.cell
    have m4 := hv.cell
    have f0 := hI2.r0.frozen
    have f1 := hI2.r1.frozen
    have f2 := hI2.r2.frozen
    gi_wp2
    refine ⟨trivial, (callsIn_wide.2 (extend_mac.calls 6 t _ _ (mac_eq t))).mono ?_⟩
    rintro e W2 ⟨rfl, hb2⟩
    obtain ⟨mb, hmb⟩ : ∃ mb, macv t.size = mb := ⟨_, rfl⟩
    rw [hmb]
    have r0 : Boxed W2 _ _ _ := blk_below hI2.r0 hb2
    have r1 : Boxed W2 _ _ _ := blk_below hI2.r1 hb2
    have r2 : Boxed W2 _ _ _ := blk_below hI2.r2 hb2
    have s0 : Boxed W2 _ _ _ := blk_below hI2.b0 hb2
    have v0 : Boxed W2 _ _ _ := blk_below hv hb2
    have hK2 := blk_below hK hb2
    have B2 := hI2.bel.trans (hb2.mono hI2.bel.size)
    have n0 := r0.cell
    have n1 := r1.cell
    have n2 := r2.cell
    have n3 := s0.cell
    have n4 := v0.cell
    have g0 := r0.frozen
    have g1 := r1.frozen
    have g2 := r2.frozen
    clear m0 m1 m2 m3 m4 f0 f1 f2 hK
    cases mb
    · gi_wp2
      obtain ⟨W3, hW3⟩ : ∃ W3, ((W2.setCell ⟨w.heap.size + 1, 0, none⟩ (Value.slice none 0 0)).setCell ⟨w.heap.size + 2, 0, none⟩ (Value.string ⟨#[]⟩)).setCell ⟨w.heap.size + 3, 0, none⟩ (Value.int .i64 60) = W3 := ⟨_, rfl⟩
      rw [hW3]
      have x0 : Boxed W3 (w.heap.size + 1) 31 (.slice none 0 0) := hW3 ▸ box_far (box_far (r0.set _) (by omega) _) (by omega) _
      have x1 : Boxed W3 (w.heap.size + 2) 9 (.string ⟨#[]⟩) := hW3 ▸ box_far ((box_far r1 (by omega) _).set _) (by omega) _
      have x2 : Boxed W3 (w.heap.size + 3) 32 (.int .i64 60) := hW3 ▸ (box_far (box_far r2 (by omega) _) (by omega) _).set _
      have hK3 : W3.heap[D]? = some (.deferred (some [])) := hW3 ▸ (((KeepsOthers.setCell _ _ _).trans (KeepsOthers.setCell _ _ _)).trans (KeepsOthers.setCell _ _ _)).same _ _ hK2 rfl
      have B3 : Below w.heap.size w W3 := hW3 ▸ ((B2.setCell (p := ⟨_, 0, none⟩) (by simp) _).setCell (p := ⟨_, 0, none⟩) (by simp) _).setCell (p := ⟨_, 0, none⟩) (by simp) _
      refine ⟨by simp, .inl ⟨_, _, rfl, run_takeDeferred hK3, ?_⟩⟩
      refine ⟨_, walk_res rfl rfl rfl (x0.kept (grownBy_putObj' W3 D _) (by intro e; injection e with e; omega)) (x1.kept (grownBy_putObj' W3 D _) (by intro e; injection e with e; omega)) (x2.kept (grownBy_putObj' W3 D _) (by intro e; injection e with e; omega)), ?_⟩
      exact ⟨_, [], _, _, rfl, World.ownsRow_nil _ _ _ _, put_below B3 (by omega) (by omega), .inr ⟨rfl, rfl, rfl, .inl ⟨xs, t, hrun, hle, hmb⟩⟩⟩
    · obtain ⟨A, L, C, hvs⟩ : ∃ A L C, v = .slice A L C := by
        rcases hrow.2 with ⟨rfl, _⟩ | ⟨g, cap, cur, rfl, _⟩
        · exact ⟨_, _, _, rfl⟩
        · exact ⟨_, _, _, rfl⟩
      subst hvs
      gi_wp2
      gi_region
      gi_wp2
      obtain ⟨W3, hW3⟩ : ∃ W3, (((W2.setCell ⟨w.heap.size + 1, 0, none⟩ (Value.slice A L C)).setCell ⟨w.heap.size + 2, 0, none⟩ (Value.string t)).setCell ⟨w.heap.size + 3, 0, none⟩ (Value.int .i64 0)).drew = W3 := ⟨_, rfl⟩
      rw [hW3]
      have x0 : Boxed W3 (w.heap.size + 1) 31 (.slice A L C) := hW3 ▸ blk_drew (box_far (box_far (r0.set _) (by omega) _) (by omega) _)
      have x1 : Boxed W3 (w.heap.size + 2) 9 (.string t) := hW3 ▸ blk_drew (box_far ((box_far r1 (by omega) _).set _) (by omega) _)
      have x2 : Boxed W3 (w.heap.size + 3) 32 (.int .i64 0) := hW3 ▸ blk_drew ((box_far (box_far r2 (by omega) _) (by omega) _).set _)
      have hK3 : W3.heap[D]? = some (.deferred (some [])) := hW3 ▸ blk_drew ((((KeepsOthers.setCell _ _ _).trans (KeepsOthers.setCell _ _ _)).trans (KeepsOthers.setCell _ _ _)).same _ _ hK2 rfl)
      have B3 : Below w.heap.size w W3 := hW3 ▸ below_drew1 (((B2.setCell (p := ⟨_, 0, none⟩) (by simp) _).setCell (p := ⟨_, 0, none⟩) (by simp) _).setCell (p := ⟨_, 0, none⟩) (by simp) _)
      have hrow3 : W3.ownsRow w.heap.size 36 2 (.slice A L C) (xs.map fun x => x.1).length (cellsOf (xs.map fun x => x.1)) := by
        have h1 := own_below hrow hb2
        have h2 := h1.kept (grownBy_setCell' W2 (w.heap.size + 1) (.slice A L C)) (.inr (r0.not_row (by decide) h1).symm)
        have h3 := h2.kept (grownBy_setCell' _ (w.heap.size + 2) (.string t)) (.inr ((box_far r1 (by omega) _).not_row (by decide) h2).symm)
        have h4 := h3.kept (grownBy_setCell' _ (w.heap.size + 3) (.int .i64 0)) (.inr ((box_far (box_far r2 (by omega) _) (by omega) _).not_row (by decide) h3).symm)
        exact hW3 ▸ h4
      refine ⟨by simp, .inl ⟨_, _, rfl, run_takeDeferred hK3, ?_⟩⟩
      refine ⟨_, walk_res rfl rfl rfl (x0.kept (grownBy_putObj' W3 D _) (by intro e; injection e with e; omega)) (x1.kept (grownBy_putObj' W3 D _) (by intro e; injection e with e; omega)) (x2.kept (grownBy_putObj' W3 D _) (by intro e; injection e with e; omega)), ?_⟩
      exact ⟨_, _, _, _, rfl, ownsRow_putObj hrow3 _ hK3 rfl, put_below B3 (by omega) (by omega), .inl ⟨rfl, xs, hrun, hle, rfl, hmb⟩⟩
  case stop =>
    rintro D pre W hD hSp ⟨hx, hlast⟩ hK
    gi_wp2
    refine ⟨by simp, .inl ⟨_, _, rfl, run_takeDeferred hK, ?_⟩⟩
    refine ⟨_, walk_res rfl rfl rfl (hx.r0.kept (grownBy_putObj' W D _) (by intro e; injection e with e; omega)) (hx.r1.kept (grownBy_putObj' W D _) (by intro e; injection e with e; omega)) (hx.r2.kept (grownBy_putObj' W D _) (by intro e; injection e with e; omega)), ?_⟩
    obtain ⟨p, t, he, hrun, hlt⟩ := hSp
    obtain ⟨p', x, he', hx0⟩ := hlast
    have e3 : x = ext.nx t := by
      have := he.symm.trans he'
      exact (List.append_inj' this rfl).2 |> fun h => (List.cons.inj h).1.symm
    refine ⟨_, [], _, _, rfl, World.ownsRow_nil _ _ _ _, put_below hx.bel (by omega) (by omega), .inr ⟨rfl, rfl, rfl, .inr ⟨p, t, hrun, hlt, fun hok => ?_⟩⟩⟩
    rw [e3] at hx0
    exact nx_size t hlt hok hx0
end
instance (s : ByteArray) : Decidable (ext.ok s) := by unfold ext.ok; infer_instance
theorem nx_ok (s : ByteArray) (h : ext.ok s) : ext.nx s = (⟨ext.num s 0, s.extract 4 (ext.num s 2).toNat⟩, s.extract (ext.num s 2).toNat s.size) := by
  unfold ext.nx
  rw [if_pos h]
def ext.go : Nat → ByteArray → List S36 → List S36 × ByteArray × Int
  | 0, _, _ => ([], ⟨#[]⟩, 60)
  | n + 1, s, acc => if 24 < s.size then (if ext.ok s then ext.go n (s.extract (ext.num s 2).toNat s.size) (acc ++ [⟨ext.num s 0, s.extract 4 (ext.num s 2).toNat⟩]) else ([], ⟨#[]⟩, 60)) else if macv s.size = true then (acc, s, 0) else ([], ⟨#[]⟩, 60)
theorem go_good : ∀ (xs : List Yd) (n : Nat) (s t : ByteArray) (acc : List S36), runs s xs t → t.size ≤ 24 → xs.length < n → ext.go n s acc = if macv t.size = true then (acc ++ xs.map (fun x => x.1), t, 0) else ([], ⟨#[]⟩, 60)
  | [], 0, s, t, acc, h, h1, hn => absurd hn (by simp)
  | [], n + 1, s, t, acc, h, h1, hn => by
    obtain rfl : t = s := h
    unfold ext.go
    rw [if_neg (by omega), List.map_nil, List.append_nil]
  | x :: xs, 0, s, t, acc, h, h1, hn => absurd hn (by simp)
  | x :: xs, n + 1, s, t, acc, h, h1, hn => by
    have ih := go_good xs n x.2 t (acc ++ [x.1]) h.2.2.2 h1 (by simp at hn; omega)
    have hx := h.2.2.1
    rw [nx_ok s h.2.1] at hx
    rw [ext.go, if_pos h.1, if_pos h.2.1]
    rw [hx] at ih ⊢
    rw [List.map_cons, show acc ++ (⟨ext.num s 0, s.extract 4 (ext.num s 2).toNat⟩ :: xs.map fun x => x.1) = acc ++ [⟨ext.num s 0, s.extract 4 (ext.num s 2).toNat⟩] ++ xs.map (fun x => x.1) by simp]
    exact ih
theorem go_bad : ∀ (xs : List Yd) (n : Nat) (s t : ByteArray) (acc : List S36), runs s xs t → 24 < t.size → ¬ ext.ok t → ext.go n s acc = ([], ⟨#[]⟩, 60)
  | _, 0, s, t, acc, h, h1, hn => rfl
  | [], n + 1, s, t, acc, h, h1, hn => by
    obtain rfl : t = s := h
    rw [ext.go, if_pos h1, if_neg hn]
  | x :: xs, n + 1, s, t, acc, h, h1, hn => by
    have ih := go_bad xs n x.2 t (acc ++ [x.1]) h.2.2.2 h1 hn
    have hx := h.2.2.1
    rw [nx_ok s h.2.1] at hx
    rw [ext.go, if_pos h.1, if_pos h.2.1]
    rw [hx] at ih
    exact ih
def extend_Walk.f (a0 : ByteArray) : Option (List S36 × ByteArray × Int) := if a0.size ≤ 1000000000 then some (ext.go (a0.size + 1) a0 []) else none
theorem cells_reps (w : World) (base : Nat) (ok : Nat → Prop) : ∀ (fs : List S36), Reps (k36.M w base ok) 2 fs (cellsOf fs)
  | [] => Reps.none _ _
  | x :: xs => by
    have h1 : Reps (k36.M w base ok) 2 ([] ++ [x]) ([] ++ [.int .i64 x.f0, .string x.f1]) := (Reps.none _ _).snoc (k36_mkM w base ok x) rfl
    exact Kd.reps_append h1 (cells_reps w base ok xs)
theorem extend_Walk.calls (a0 : ByteArray) (r1 : List S36) (r2 : ByteArray) (r3 : Int) (w : World) (h : extend_Walk.f a0 = some (r1, r2, r3)) :
    Calls Try.prog 21 #[.string a0] w fun e w' => ∃ v0_ : Value, e = .returned (.tuple #[v0_, .string r2, .int .i64 r3]) ∧ Kd.R k36 36 w' w.heap.size (fun _ => True) v0_ r1 ∧ Below w.heap.size w w' := by
  unfold extend_Walk.f at h
  by_cases q : a0.size ≤ 1000000000
  · rw [if_pos q] at h
    have h2 := Option.some.inj h
    refine (callsIn_wide.1 (walk_fenced a0 w q)).mono ?_
    rintro e w' ⟨v, fs, m, c, rfl, hown, hb, hc⟩
    have key : (fs, m, c) = (r1, r2, r3) := by
      rw [← h2]
      rcases hc with ⟨rfl, xs, hr, hle, rfl, hm⟩ | ⟨rfl, rfl, rfl, ⟨xs, t, hr, hle, hm⟩ | ⟨xs, t, hr, hlt, hno⟩⟩
      · have := runs_len xs a0 m hr
        rw [go_good xs _ a0 m [] hr hle (by omega), if_pos hm]
        rfl
      · have := runs_len xs a0 t hr
        rw [go_good xs _ a0 t [] hr hle (by omega), if_neg (by rw [hm]; decide)]
      · rw [go_bad xs _ a0 t [] hr hlt hno]
    obtain ⟨rfl, hk⟩ := Prod.mk.inj key
    obtain ⟨rfl, rfl⟩ := Prod.mk.inj hk
    exact ⟨v, rfl, ⟨fun _ _ => trivial, cellsOf fs, hown, cells_reps w' w.heap.size _ fs⟩, hb⟩
  · rw [if_neg q] at h
    cases h

/-! ### analemmalaw06_shown: function 20 -/
def analemmalaw06_shown.f (k : Nat)  : Option (Bool) := (extend_Walk.f (⟨#[97, 98, 99, 100]⟩ : ByteArray)).bind fun bt124 => (if bt124.2.2 = 0 then (if bt124.2.1.toList = ([97, 98, 99, 100] : List UInt8) then ((header_Ref.f (⟨#[82, 65, 84, 69]⟩ : ByteArray)).bind fun t129 => ((extend_Kiss.f 0 t129).bind fun t130 => (if t130 = 3 then ((header_Ref.f (⟨#[97, 98]⟩ : ByteArray)).bind fun t131 => ((extend_Name.f k t131).bind fun t132 => (some (t132.toList == ([97, 98] : List UInt8))))) else (some false)))) else (some false)) else (some false))
theorem analemmalaw06_shown.mono : ∀ k, LeO (analemmalaw06_shown.f k ) (analemmalaw06_shown.f (k + 1) ) := by
  intro  k
  unfold analemmalaw06_shown.f
  repeat' first
      | (with_reducible exact extend_Name.mono _ _)
      | (with_reducible exact LeO.refl _)
      | (with_reducible exact LeO.none _)
      | (with_reducible refine LeO.ite ?_ ?_)
      | (with_reducible refine LeO.bind ?_ (fun _ => ?_))
      | exact extend_Name.mono _ _
      | exact LeO.none _
      | refine LeO.ite ?_ ?_
      | refine LeO.bind ?_ (fun _ => ?_)
set_option maxHeartbeats 8000000 in
set_option maxRecDepth 100000 in
theorem analemmalaw06_shown.calls (k : Nat)  (r : Bool) (w : World) (h : analemmalaw06_shown.f k  = some r) :
    Calls Try.prog 20 #[] w fun e w' => e = .returned (.bool r) ∧ Below w.heap.size w w' := by
  have HB := Aside0.mk (Below.refl w.heap.size w)
  have H : ((extend_Walk.f (⟨#[97, 98, 99, 100]⟩ : ByteArray)).bind fun bt124 => (if bt124.2.2 = 0 then (if bt124.2.1.toList = ([97, 98, 99, 100] : List UInt8) then ((header_Ref.f (⟨#[82, 65, 84, 69]⟩ : ByteArray)).bind fun t129 => ((extend_Kiss.f 0 t129).bind fun t130 => (if t130 = 3 then ((header_Ref.f (⟨#[97, 98]⟩ : ByteArray)).bind fun t131 => ((extend_Name.f k t131).bind fun t132 => (some (t132.toList == ([97, 98] : List UInt8))))) else (some false)))) else (some false)) else (some false))) = some r := h
  clear h
  replace H := Option.bind_eq_some_iff.mp H
  obtain ⟨⟨t124, t125, t126⟩, A10, H⟩ := H
  replace H : (if t126 = 0 then (if t125.toList = ([97, 98, 99, 100] : List UInt8) then ((header_Ref.f (⟨#[82, 65, 84, 69]⟩ : ByteArray)).bind fun t129 => ((extend_Kiss.f 0 t129).bind fun t130 => (if t130 = 3 then ((header_Ref.f (⟨#[97, 98]⟩ : ByteArray)).bind fun t131 => ((extend_Name.f k t131).bind fun t132 => (some (t132.toList == ([97, 98] : List UInt8))))) else (some false)))) else (some false)) else (some false)) = some r := H
  have A1 := Aside0.mk A10
  clear A10
  by_cases c2 : t126 = 0
  · rw [if_pos c2] at H
    have c2b0 : (t126 == 0) = true := beq_iff_eq.mpr c2
    have c2b1 : (t126 != 0) = false := bne_eq_false_iff_eq.mpr c2
    clear c2
    by_cases c3 : t125.toList = ([97, 98, 99, 100] : List UInt8)
    · rw [if_pos c3] at H
      have c3b0 : (t125.toList == ([97, 98, 99, 100] : List UInt8)) = true := beq_iff_eq.mpr c3
      have c3b1 : (t125.toList != ([97, 98, 99, 100] : List UInt8)) = false := bne_eq_false_iff_eq.mpr c3
      clear c3
      replace H := Option.bind_eq_some_iff.mp H
      obtain ⟨t129, A40, H⟩ := H
      replace H : ((extend_Kiss.f 0 t129).bind fun t130 => (if t130 = 3 then ((header_Ref.f (⟨#[97, 98]⟩ : ByteArray)).bind fun t131 => ((extend_Name.f k t131).bind fun t132 => (some (t132.toList == ([97, 98] : List UInt8))))) else (some false))) = some r := H
      have A4 := Aside0.mk A40
      clear A40
      replace H := Option.bind_eq_some_iff.mp H
      obtain ⟨t130, A50, H⟩ := H
      replace H : (if t130 = 3 then ((header_Ref.f (⟨#[97, 98]⟩ : ByteArray)).bind fun t131 => ((extend_Name.f k t131).bind fun t132 => (some (t132.toList == ([97, 98] : List UInt8))))) else (some false)) = some r := H
      have A5 := Aside0.mk A50
      clear A50
      by_cases c6 : t130 = 3
      · rw [if_pos c6] at H
        have c6b0 : (t130 == 3) = true := beq_iff_eq.mpr c6
        have c6b1 : (t130 != 3) = false := bne_eq_false_iff_eq.mpr c6
        clear c6
        replace H := Option.bind_eq_some_iff.mp H
        obtain ⟨t131, A70, H⟩ := H
        replace H : ((extend_Name.f k t131).bind fun t132 => (some (t132.toList == ([97, 98] : List UInt8)))) = some r := H
        have A7 := Aside0.mk A70
        clear A70
        replace H := Option.bind_eq_some_iff.mp H
        obtain ⟨t132, A80, H⟩ := H
        replace H : (some (t132.toList == ([97, 98] : List UInt8))) = some r := H
        have A8 := Aside0.mk A80
        clear A80
        obtain rfl := Option.some.inj H
        go_enter Try.func20, Try.ntmps20
        go_wp2_with (first | ((with_reducible refine gate_callee (f := 21) rfl ?_); refine goesL_ (some 5) rfl rfl Try.func21 (by kernel_rfl) rfl #[.string (⟨#[97, 98, 99, 100]⟩ : ByteArray)] rfl (by (try simp only [List.map_toArray, List.map_cons, List.map_nil]); first | done | rfl | (simp only [List.length_drop, List.length_take]; rfl)) ?_; (with_reducible refine (extend_Walk.calls (⟨#[97, 98, 99, 100]⟩ : ByteArray) t124 t125 t126 _ A1.out).mono ?_); rintro e w9 ⟨v127, rfl, ho0, hb⟩; refine ⟨_, rfl, ?_⟩; have n0_ := Aside0.mk (Kd.R_lower ho0 (below_size (by repeat (first | (with_reducible first | exact HB.out | apply below_alloc | apply pw_below_drewN | apply below_drew1) | exact HB.out)))); have n1_ := Aside0.mk (below_step (by repeat (first | (with_reducible first | exact HB.out | apply below_alloc | apply pw_below_drewN | apply below_drew1) | exact HB.out)) hb); clear HB; have HO128 := n0_; have HB := n1_; clear n0_ n1_; (try clear hb); (try clear hb2); (try clear hk); (try clear hi); (try clear ho0)) | (go_at_call 41; (with_reducible refine (header_Ref.calls (⟨#[82, 65, 84, 69]⟩ : ByteArray) t129 _ A4.out).mono ?_); rintro e w10 ⟨rfl, hb⟩; have n0_ := Aside0.mk (Kd.R_below (by (with_reducible repeat (first | apply Kd.R_alloc | apply Kd.R_drewN | apply Kd.R_drew)); exact HO128.out) hb); have n1_ := Aside0.mk (below_step (by repeat (first | (with_reducible first | exact HB.out | apply below_alloc | apply pw_below_drewN | apply below_drew1) | exact HB.out)) hb); clear HO128; clear HB; have HO128 := n0_; have HB := n1_; clear n0_ n1_; (try clear hb); (try clear hb2); (try clear hk); (try clear hi)) | (go_at_call 16; (with_reducible refine (extend_Kiss.calls 0 t129 t130 _ A5.out).mono ?_); rintro e w11 ⟨rfl, hb⟩; have n0_ := Aside0.mk (Kd.R_below (by (with_reducible repeat (first | apply Kd.R_alloc | apply Kd.R_drewN | apply Kd.R_drew)); exact HO128.out) hb); have n1_ := Aside0.mk (below_step (by repeat (first | (with_reducible first | exact HB.out | apply below_alloc | apply pw_below_drewN | apply below_drew1) | exact HB.out)) hb); clear HO128; clear HB; have HO128 := n0_; have HB := n1_; clear n0_ n1_; (try clear hb); (try clear hb2); (try clear hk); (try clear hi)) | (go_at_call 41; (with_reducible refine (header_Ref.calls (⟨#[97, 98]⟩ : ByteArray) t131 _ A7.out).mono ?_); rintro e w12 ⟨rfl, hb⟩; have n0_ := Aside0.mk (Kd.R_below (by (with_reducible repeat (first | apply Kd.R_alloc | apply Kd.R_drewN | apply Kd.R_drew)); exact HO128.out) hb); have n1_ := Aside0.mk (below_step (by repeat (first | (with_reducible first | exact HB.out | apply below_alloc | apply pw_below_drewN | apply below_drew1) | exact HB.out)) hb); clear HO128; clear HB; have HO128 := n0_; have HB := n1_; clear n0_ n1_; (try clear hb); (try clear hb2); (try clear hk); (try clear hi)) | (go_at_call 17; (with_reducible refine (extend_Name.calls k t131 t132 _ A8.out).mono ?_); rintro e w13 ⟨rfl, hb⟩; have n0_ := Aside0.mk (Kd.R_below (by (with_reducible repeat (first | apply Kd.R_alloc | apply Kd.R_drewN | apply Kd.R_drew)); exact HO128.out) hb); have n1_ := Aside0.mk (below_step (by repeat (first | (with_reducible first | exact HB.out | apply below_alloc | apply pw_below_drewN | apply below_drew1) | exact HB.out)) hb); clear HO128; clear HB; have HO128 := n0_; have HB := n1_; clear n0_ n1_; (try clear hb); (try clear hb2); (try clear hk); (try clear hi)))
        go_ret
        exact ⟨by first | rfl | (simp [errW_none, errW_some] <;> rfl) | (simp [*, errW_none, errW_some] <;> rfl), by repeat (first | (with_reducible first | exact HB.out | apply below_alloc | apply pw_below_drewN | apply below_drew1) | exact HB.out)⟩
      · rw [if_neg c6] at H
        have c6b0 : (t130 == 3) = false := beq_eq_false_iff_ne.mpr c6
        have c6b1 : (t130 != 3) = true := bne_iff_ne.mpr c6
        obtain rfl := Option.some.inj H
        go_enter Try.func20, Try.ntmps20
        go_wp2_with (first | ((with_reducible refine gate_callee (f := 21) rfl ?_); refine goesL_ (some 5) rfl rfl Try.func21 (by kernel_rfl) rfl #[.string (⟨#[97, 98, 99, 100]⟩ : ByteArray)] rfl (by (try simp only [List.map_toArray, List.map_cons, List.map_nil]); first | done | rfl | (simp only [List.length_drop, List.length_take]; rfl)) ?_; (with_reducible refine (extend_Walk.calls (⟨#[97, 98, 99, 100]⟩ : ByteArray) t124 t125 t126 _ A1.out).mono ?_); rintro e w14 ⟨v127, rfl, ho0, hb⟩; refine ⟨_, rfl, ?_⟩; have n0_ := Aside0.mk (Kd.R_lower ho0 (below_size (by repeat (first | (with_reducible first | exact HB.out | apply below_alloc | apply pw_below_drewN | apply below_drew1) | exact HB.out)))); have n1_ := Aside0.mk (below_step (by repeat (first | (with_reducible first | exact HB.out | apply below_alloc | apply pw_below_drewN | apply below_drew1) | exact HB.out)) hb); clear HB; have HO128 := n0_; have HB := n1_; clear n0_ n1_; (try clear hb); (try clear hb2); (try clear hk); (try clear hi); (try clear ho0)) | (go_at_call 41; (with_reducible refine (header_Ref.calls (⟨#[82, 65, 84, 69]⟩ : ByteArray) t129 _ A4.out).mono ?_); rintro e w15 ⟨rfl, hb⟩; have n0_ := Aside0.mk (Kd.R_below (by (with_reducible repeat (first | apply Kd.R_alloc | apply Kd.R_drewN | apply Kd.R_drew)); exact HO128.out) hb); have n1_ := Aside0.mk (below_step (by repeat (first | (with_reducible first | exact HB.out | apply below_alloc | apply pw_below_drewN | apply below_drew1) | exact HB.out)) hb); clear HO128; clear HB; have HO128 := n0_; have HB := n1_; clear n0_ n1_; (try clear hb); (try clear hb2); (try clear hk); (try clear hi)) | (go_at_call 16; (with_reducible refine (extend_Kiss.calls 0 t129 t130 _ A5.out).mono ?_); rintro e w16 ⟨rfl, hb⟩; have n0_ := Aside0.mk (Kd.R_below (by (with_reducible repeat (first | apply Kd.R_alloc | apply Kd.R_drewN | apply Kd.R_drew)); exact HO128.out) hb); have n1_ := Aside0.mk (below_step (by repeat (first | (with_reducible first | exact HB.out | apply below_alloc | apply pw_below_drewN | apply below_drew1) | exact HB.out)) hb); clear HO128; clear HB; have HO128 := n0_; have HB := n1_; clear n0_ n1_; (try clear hb); (try clear hb2); (try clear hk); (try clear hi)))
        go_ret
        exact ⟨by first | rfl | (simp [errW_none, errW_some] <;> rfl) | (simp [*, errW_none, errW_some] <;> rfl), by repeat (first | (with_reducible first | exact HB.out | apply below_alloc | apply pw_below_drewN | apply below_drew1) | exact HB.out)⟩
    · rw [if_neg c3] at H
      have c3b0 : (t125.toList == ([97, 98, 99, 100] : List UInt8)) = false := beq_eq_false_iff_ne.mpr c3
      have c3b1 : (t125.toList != ([97, 98, 99, 100] : List UInt8)) = true := bne_iff_ne.mpr c3
      obtain rfl := Option.some.inj H
      go_enter Try.func20, Try.ntmps20
      go_wp2_with (first | ((with_reducible refine gate_callee (f := 21) rfl ?_); refine goesL_ (some 5) rfl rfl Try.func21 (by kernel_rfl) rfl #[.string (⟨#[97, 98, 99, 100]⟩ : ByteArray)] rfl (by (try simp only [List.map_toArray, List.map_cons, List.map_nil]); first | done | rfl | (simp only [List.length_drop, List.length_take]; rfl)) ?_; (with_reducible refine (extend_Walk.calls (⟨#[97, 98, 99, 100]⟩ : ByteArray) t124 t125 t126 _ A1.out).mono ?_); rintro e w17 ⟨v127, rfl, ho0, hb⟩; refine ⟨_, rfl, ?_⟩; have n0_ := Aside0.mk (Kd.R_lower ho0 (below_size (by repeat (first | (with_reducible first | exact HB.out | apply below_alloc | apply pw_below_drewN | apply below_drew1) | exact HB.out)))); have n1_ := Aside0.mk (below_step (by repeat (first | (with_reducible first | exact HB.out | apply below_alloc | apply pw_below_drewN | apply below_drew1) | exact HB.out)) hb); clear HB; have HO128 := n0_; have HB := n1_; clear n0_ n1_; (try clear hb); (try clear hb2); (try clear hk); (try clear hi); (try clear ho0)))
      go_ret
      exact ⟨by first | rfl | (simp [errW_none, errW_some] <;> rfl) | (simp [*, errW_none, errW_some] <;> rfl), by repeat (first | (with_reducible first | exact HB.out | apply below_alloc | apply pw_below_drewN | apply below_drew1) | exact HB.out)⟩
  · rw [if_neg c2] at H
    have c2b0 : (t126 == 0) = false := beq_eq_false_iff_ne.mpr c2
    have c2b1 : (t126 != 0) = true := bne_iff_ne.mpr c2
    obtain rfl := Option.some.inj H
    go_enter Try.func20, Try.ntmps20
    go_wp2_with (first | ((with_reducible refine gate_callee (f := 21) rfl ?_); refine goesL_ (some 5) rfl rfl Try.func21 (by kernel_rfl) rfl #[.string (⟨#[97, 98, 99, 100]⟩ : ByteArray)] rfl (by (try simp only [List.map_toArray, List.map_cons, List.map_nil]); first | done | rfl | (simp only [List.length_drop, List.length_take]; rfl)) ?_; (with_reducible refine (extend_Walk.calls (⟨#[97, 98, 99, 100]⟩ : ByteArray) t124 t125 t126 _ A1.out).mono ?_); rintro e w18 ⟨v127, rfl, ho0, hb⟩; refine ⟨_, rfl, ?_⟩; have n0_ := Aside0.mk (Kd.R_lower ho0 (below_size (by repeat (first | (with_reducible first | exact HB.out | apply below_alloc | apply pw_below_drewN | apply below_drew1) | exact HB.out)))); have n1_ := Aside0.mk (below_step (by repeat (first | (with_reducible first | exact HB.out | apply below_alloc | apply pw_below_drewN | apply below_drew1) | exact HB.out)) hb); clear HB; have HO128 := n0_; have HB := n1_; clear n0_ n1_; (try clear hb); (try clear hb2); (try clear hk); (try clear hi); (try clear ho0)))
    go_ret
    exact ⟨by first | rfl | (simp [errW_none, errW_some] <;> rfl) | (simp [*, errW_none, errW_some] <;> rfl), by repeat (first | (with_reducible first | exact HB.out | apply below_alloc | apply pw_below_drewN | apply below_drew1) | exact HB.out)⟩

end Go.Proofs.Ytlbelgdcicholaa.MExt
