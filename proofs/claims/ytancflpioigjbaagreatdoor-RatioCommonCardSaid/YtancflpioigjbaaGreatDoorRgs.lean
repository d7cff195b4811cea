/- The law of a range over a function that this family uses: the caller gives an invariant over blocks of its own, the iterator may keep state in blocks of its own. No program in sight; each theorem names its conditions. -/
import Derived.RangeFuncNested
import Derived.RangeFuncCalls
import Derived.RangeFuncLeaves
import Derived.Shelf.Abstract
import Derived.Below
import Derived.Lib.LaidIn
import Derived.RegionTactic
import Derived.KernelRfl
import Derived.Lib.Hide
import Derived.OrdersIn
namespace Go.Proofs.YtancflpioigjbaaGreatDoor
open Go.RowKit
set_option linter.unusedVariables false

/-- from A to B nothing has turned but blocks of m, and what is new -/
structure Fr (m : Nat → Prop) (A B : World) : Prop where
  os : B.os = A.os
  tape : B.tape = A.tape
  output : B.output = A.output
  size : A.heap.size ≤ B.heap.size
  block : ∀ b, b < A.heap.size → ¬ m b → B.heap[b]? = A.heap[b]?

section
variable {m m' : Nat → Prop} {A B C : World}
theorem Fr.refl (m : Nat → Prop) (A : World) : Fr m A A := ⟨rfl, rfl, rfl, Nat.le_refl _, fun _ _ _ => rfl⟩
theorem Fr.trans' (h : Fr m A B) (k : Fr m' B C) (hm : ∀ b, m' b → m b ∨ A.heap.size ≤ b) : Fr m A C :=
  ⟨k.os.trans h.os, k.tape.trans h.tape, k.output.trans h.output, Nat.le_trans h.size k.size, fun b hb hn =>
    (k.block b (Nat.lt_of_lt_of_le hb h.size) (fun hc => (hm b hc).elim hn (fun h' => absurd hb (Nat.not_lt.2 h')))).trans (h.block b hb hn)⟩
theorem Fr.trans (h : Fr m A B) (k : Fr m B C) : Fr m A C := h.trans' k fun _ hb => .inl hb
theorem Fr.mono (h : Fr m A B) (hm : ∀ b, m b → m' b) : Fr m' A B := ⟨h.os, h.tape, h.output, h.size, fun b hb hn => h.block b hb (fun hc => hn (hm b hc))⟩
theorem Fr.monoFrom (h : Fr m A B) (hm : ∀ b, m b → m' b ∨ A.heap.size ≤ b) : Fr m' A B :=
  ⟨h.os, h.tape, h.output, h.size, fun b hb hn => h.block b hb (fun hc => (hm b hc).elim hn (fun h' => absurd hb (Nat.not_lt.2 h')))⟩
theorem Fr.drew (h : Fr m A B) : Fr m A B.drew := ⟨h.os, h.tape, h.output, h.size, h.block⟩
theorem Fr.alloc (h : Fr m A B) (o : Obj) : Fr m A (B.alloc o) :=
  ⟨h.os, h.tape, h.output, Nat.le_trans h.size (by simp), fun b hb hn => (Below.heap_alloc B o b (Nat.lt_of_lt_of_le hb h.size)).trans (h.block b hb hn)⟩
theorem Fr.setCell (h : Fr m A B) {p : Addr} (hp : m p.block ∨ A.heap.size ≤ p.block) (u : Value) : Fr m A (B.setCell p u) :=
  ⟨h.os, h.tape, h.output, by simpa [World.setCell] using h.size, fun b hb hn => (Below.heap_setCell B p u b (by
    rintro rfl
    exact hp.elim hn (fun h' => absurd hb (Nat.not_lt.2 h')))).trans (h.block b hb hn)⟩
theorem Fr.grown (h : Fr m A B) {row : Option Nat} (hg : B.grownBy C row) (hr : ∀ k, row = some k → m k ∨ A.heap.size ≤ k) : Fr m A C :=
  ⟨hg.os.trans h.os, hg.tape.trans h.tape, hg.output.trans h.output, Nat.le_trans h.size hg.size, fun b hb hn =>
    (hg.block b (Nat.lt_of_lt_of_le hb h.size) (fun e => (hr b e.symm).elim hn (fun h' => absurd hb (Nat.not_lt.2 h')))).trans (h.block b hb hn)⟩
theorem Fr.putObj (h : Fr m A B) {l : Nat} (hl : m l ∨ A.heap.size ≤ l) (o : Obj) : Fr m A (B.putObj l o) :=
  h.grown (grownBy_putObj' B l o) fun k e => by cases e; exact hl
theorem Fr.of_below {n : Nat} (h : Below n A B) (hm : ∀ b, n ≤ b → b < A.heap.size → m b) : Fr m A B :=
  ⟨h.os, h.tape, h.output, h.size, fun b hb hn => h.block b (Nat.lt_of_not_le fun hc => hn (hm b hc hb))⟩
theorem Fr.of_new (h : Below A.heap.size A B) (m : Nat → Prop) : Fr m A B := Fr.of_below h fun b h1 h2 => absurd h2 (Nat.not_lt.2 h1)
theorem Fr.below (h : Fr m A B) {n : Nat} (hn : n ≤ A.heap.size) (hm : ∀ b, b < n → ¬ m b) : Below n A B :=
  ⟨h.os, h.tape, h.output, h.size, fun b hb => h.block b (Nat.lt_of_lt_of_le hb hn) (hm b hb)⟩
theorem Fr.cell (h : Fr m A B) {p : Addr} (hp : p.block < A.heap.size) (hn : ¬ m p.block) : B.cell? p = A.cell? p := World.cell?_of_block (w := A) (h.block _ hp hn)
theorem Fr.frozen (h : Fr m A B) {p : Addr} (hp : p.block < A.heap.size) (hn : ¬ m p.block) : B.frozen? p = A.frozen? p := World.frozen?_of_block (w := A) (h.block _ hp hn)
theorem Fr.heap (h : Fr m A B) {b : Nat} {o : Obj} (hb : A.heap[b]? = some o) (hn : ¬ m b) : B.heap[b]? = some o := (h.block b (Array.getElem?_eq_some_iff.1 hb).1 hn).trans hb
end

/-- what is said of a world hangs on the blocks of m alone -/
def Hangs {β : Type} (I : β → (Nat → Prop) → World → Prop) : Prop := ∀ s m A B, I s m A → Fr (fun b => ¬ m b) A B → I s m B

/-- **the contract of an iterator value that hands out just xs** -/
def IterC {α : Type} (P : Program) (gf : Nat) (lb : Array Value) (encs : α → Array Value) (xs : List α) (Bx : Nat → Prop) (w0 : World) : Prop :=
  ∀ (l : Nat) (J : List α → (Nat → Prop) → World → Prop) (Jx : List α → World → Prop) (m0 : Nat → Prop) (W : World),
    Below w0.heap.size w0 W → Hangs J → (∀ pre m A b, J pre m A → m b → b < A.heap.size ∧ ¬ Bx b) →
    (∀ pre x rest m W1, xs = pre ++ x :: rest → J pre m W1 → YieldAt Fence.wide 0 P l (encs x) W1 fun e W' =>
      (e = .returned (.bool true) ∧ ∃ m', J (pre ++ [x]) m' W' ∧ Fr m W1 W' ∧ ∀ b, m' b → m b ∨ W1.heap.size ≤ b) ∨
      (e = .returned (.bool false) ∧ Jx (pre ++ [x]) W' ∧ Fr m W1 W')) →
    J [] m0 W →
    CallsIn Fence.wide 0 P gf (#[.func (.yield l) #[] #[]] ++ lb) W fun e W' =>
      (∃ v, e = .returned v) ∧ Fr (fun b => m0 b ∨ Bx b) W W' ∧ ((∃ m, J xs m W') ∨ ∃ pre, Jx pre W')

/-- how the body of a round may be left -/
def rpost {α : Type} (I : List α → (Nat → Prop) → World → Prop) (Ix : Code → List α → World → Prop) (m : Nat → Prop) (ys : List α) (W : World) : Exit → Act → World → Prop
  | .normal, _, W' => ∃ m', I ys m' W' ∧ Fr m W W' ∧ ∀ b, m' b → m b ∨ W.heap.size ≤ b
  | .ret, _, W' => Ix .ret ys W' ∧ Fr m W W'
  | .exit id, _, W' => Ix (.exit id) ys W' ∧ Fr m W W'
  | .goto t, _, W' => Ix (.goto t) ys W' ∧ Fr m W W'
  | .panic _, _, _ => False
  | .outgrown, _, _ => False

variable {P : Program}

/-- **the statement 'for x := range seq { body }', where the iterator has its contract** -/
theorem wp_range {α : Type} {g : Operand} {ps : Array Tmp} {assign body : Code} {Q : Exit → Act → World → Prop} {a : Act} {w : World}
    {gf : Nat} {lb : Array Value} {encs : α → Array Value} {xs : List α} {Bx : Nat → Prop}
    (hg : a.eval g = .func (.func gf) #[] lb) (eg : Enters P gf) (hiter : IterC P gf lb encs xs Bx w) (hps : ∀ x, (encs x).size = ps.size)
    (I : List α → (Nat → Prop) → World → Prop) (Ix : Code → List α → World → Prop) (hI : Hangs I)
    (hIlt : ∀ pre m A b, I pre m A → m b → b < A.heap.size ∧ ¬ Bx b ∧ b ≠ w.heap.size ∧ b ≠ w.heap.size + 1)
    (hIx : ∀ c pre A B, Ix c pre A → Fr (fun b => b = w.heap.size + 1) A B → Ix c pre B) (hBx : ∀ b, Bx b → b < w.heap.size)
    (m0 : Nat → Prop) (h0 : I [] m0 w)
    (hround : ∀ (l : Nat) (pre : List α) (x : α) (rest : List α) (m : Nat → Prop) (W : World), xs = pre ++ x :: rest → I pre m W →
      assign.wpIn (Fence.wide.inRound l) 0 P (Exit.then (fun a' Wa => W = Wa ∧ ∀ W', w.heap.size + 2 ≤ W'.heap.size → I pre m W' →
        body.wpIn (Fence.wide.inRound l) 0 P (rpost I Ix m (pre ++ [x]) W') a' W') (fun _ _ _ => False))
        { tmps := (ps.zip (encs x)).foldl (fun t (p, v) => t.setIfInBounds p v) a.tmps, defers := [] } W)
    (hdone : ∀ (m : Nat → Prop) (W : World), I xs m W → Fr (fun b => m0 b ∨ Bx b) w W → W.heap[w.heap.size]? = some (.deferred (some [])) →
      Q .normal { a with defers := { target := .collected w.heap.size, args := #[] } :: a.defers } W)
    (hstop : ∀ (c : Code) (pre : List α) (W : World), Ix c pre W → Fr (fun b => m0 b ∨ Bx b) w W → W.heap[w.heap.size]? = some (.deferred (some [])) →
      c.wpIn Fence.wide 0 P Q { a with defers := { target := .collected w.heap.size, args := #[] } :: a.defers } W) :
    (Code.rangeFunc g ps assign body).wpIn Fence.wide 0 P Q a w := by
  obtain ⟨D, hD⟩ : ∃ D, D = w.heap.size := ⟨_, rfl⟩
  obtain ⟨l, hl⟩ : ∃ l, l = w.heap.size + 1 := ⟨_, rfl⟩
  have hrec : ∀ (W3 : World) (o : Obj), Fr (fun b => b = w.heap.size + 1) W3 (W3.putObj l o) := fun W3 o => (Fr.refl (fun b => b = w.heap.size + 1) W3).putObj (l := l) (.inl hl) o
  refine wpIn_rangeFunc ?_
  intro fn hfn
  show ∃ l mark w₁ d w₁' f args w₂, (Instr.enterLoop fn a.tmps ps assign body none).run P w = _ ∧ _
  obtain ⟨rc, hrc⟩ : ∃ rc : LoopState → Option Code → Loop, rc = fun st pe => { state := st, pending := pe, fn, tmps := a.tmps, params := ps, assign, body, defers := w.heap.size } := ⟨_, rfl⟩
  obtain ⟨W1, hW1⟩ : ∃ W1, (w.alloc (.deferred (some []))).alloc (.loop (rc .ready none)) = W1 := ⟨_, rfl⟩
  have hL1 : W1.heap[l]? = some (.loop (rc .ready none)) := by
    rw [← hW1, hl]; have := World.alloc_heap_new (w.alloc (.deferred (some []))) (.loop (rc .ready none)); rwa [World.size_alloc] at this
  have hK1 : W1.heap[D]? = some (.deferred (some [])) := by
    rw [← hW1, hD]; exact (Below.heap_alloc _ _ _ (by simp)).trans (World.alloc_heap_new w _)
  have hF1 : ∀ m, Fr m w W1 := fun m => by rw [← hW1]; exact ((Fr.refl m w).alloc _).alloc _
  have hI1 : I [] m0 W1 := hI _ _ _ _ h0 (hF1 _)
  have hb1 : Below w.heap.size w W1 := by
    rw [← hW1]; exact ((Below.refl _ w).alloc (Nat.le_refl _) _).alloc (by simp) _
  refine ⟨w.heap.size + 1, [{ target := .collected w.heap.size, args := #[] }], W1, { target := .fn (.func gf) lb, args := #[.func (.yield (w.heap.size + 1)) #[] #[]] }, W1, gf,
    #[.func (.yield (w.heap.size + 1)) #[] #[]] ++ lb, W1, ?_, ?_, ?_, ?_, ?_, ?_⟩
  · rw [← hW1, hrc]; exact run_enterLoop_outer _ _ _ _ _
  · simp only [resolve, hg]
    simp [go_sem]
  · intro f' _; trivial
  · have eg' : ∀ args w, (callFunc gf args).run P w = .ok (.enter gf args) w := eg
    simp [invoke, go_sem, eg']
  · intro h; cases h
  · rw [← hl]
    refine (hiter l
      (fun pre m W => (∃ mm, I pre mm W ∧ ∀ b, m b ↔ (mm b ∨ b = D ∨ b = l)) ∧ W.heap[l]? = some (.loop (rc .ready none)) ∧ W.heap[D]? = some (.deferred (some [])))
      (fun pre W => ∃ c, Ix c pre W ∧ W.heap[l]? = some (.loop (rc .done (some c))) ∧ W.heap[D]? = some (.deferred (some [])))
      (fun b => m0 b ∨ b = D ∨ b = l) W1 hb1 ?_ ?_ ?_ ⟨⟨m0, hI1, fun b => Iff.rfl⟩, hL1, hK1⟩).mono ?_
    · rintro pre m A B ⟨⟨mm, hi, hm⟩, h1, h2⟩ hf
      refine ⟨⟨mm, hI _ _ _ _ hi (hf.mono fun b hb hc => hb ((hm b).2 (.inl hc))), hm⟩, hf.heap h1 (fun hc => hc ((hm _).2 (.inr (.inr rfl)))), hf.heap h2 (fun hc => hc ((hm _).2 (.inr (.inl rfl))))⟩
    · rintro pre m A b ⟨⟨mm, hi, hm⟩, h1, h2⟩ hb
      rcases (hm b).1 hb with h | rfl | rfl
      · exact ⟨(hIlt _ _ _ _ hi h).1, (hIlt _ _ _ _ hi h).2.1⟩
      · exact ⟨(Array.getElem?_eq_some_iff.1 h2).1, fun h => by have := hBx _ h; omega⟩
      · exact ⟨(Array.getElem?_eq_some_iff.1 h1).1, fun h => by have := hBx _ h; omega⟩
    · -- one round
      rintro pre x rest m W hxs ⟨⟨mm, hi, hm⟩, h1, h2⟩
      have hne : ∀ {pre mm A}, I pre mm A → ¬ mm l ∧ ¬ mm D := fun hi => ⟨fun h => (hIlt _ _ _ _ hi h).2.2.2 hl, fun h => (hIlt _ _ _ _ hi h).2.2.1 hD⟩
      have hlt : l < W.heap.size := (Array.getElem?_eq_some_iff.1 h1).1
      have hy := run_yield (P := P) (args := encs x) h1 (by rw [hrc]; exact hps x)
      rw [hrc] at hy
      refine ⟨fn, _, assign, body, hy, roundIn_of_wpIn (F := Fence.wide) hfn (wpIn_mono (hround l pre x rest mm W hxs hi) ?_)⟩
      clear hy
      rintro e a₁ Wa hthen
      cases e with
      | exit id => exact hthen
      | goto t => exact hthen
      | ret => exact hthen
      | panic ch => exact hthen
      | outgrown => exact hthen
      | normal =>
      obtain ⟨rfl, hbody⟩ := hthen
      refine ⟨_, run_beginRound h1 (by rw [hrc]), ?_⟩
      have hl2 : (W.putObj l (.loop { rc .ready none with state := .busy })).heap[l]? = some (.loop { rc .ready none with state := .busy }) := World.putObj_heap_same hlt
      have hk2 : (W.putObj l (.loop { rc .ready none with state := .busy })).heap[D]? = some (.deferred (some [])) := (World.putObj_heap_other (by omega)).trans h2
      have hi2 : I pre mm (W.putObj l (.loop { rc .ready none with state := .busy })) := hI _ _ _ _ hi ((Fr.refl _ W).putObj (.inl (hne hi).1) _)
      have hfr2 : ∀ m', m' l → Fr m' W (W.putObj l (.loop { rc .ready none with state := .busy })) := fun m' h => (Fr.refl _ W).putObj (.inl h) _
      refine wpIn_mono (hbody _ (by rw [World.putObj_size]; omega) hi2) ?_
      have fin : ∀ (jump : Option Code) (W3 : World), Fr mm (W.putObj l (.loop { rc .ready none with state := .busy })) W3 →
          (Instr.endRound l jump).run P W3 = .ok (.bool jump.isNone) (W3.putObj l (.loop (rc (if jump.isNone then .ready else .done) jump))) ∧
          (W3.putObj l (.loop (rc (if jump.isNone then .ready else .done) jump))).heap[l]? = some (.loop (rc (if jump.isNone then .ready else .done) jump)) ∧
          (W3.putObj l (.loop (rc (if jump.isNone then .ready else .done) jump))).heap[D]? = some (.deferred (some [])) ∧
          Fr m W (W3.putObj l (.loop (rc (if jump.isNone then .ready else .done) jump))) := fun jump W3 hk3 => by
        have hl3 := hk3.heap hl2 (hne hi).1
        have := run_endRound (P := P) jump hl3
        rw [hrc] at this ⊢
        refine ⟨this, World.putObj_heap_same (Array.getElem?_eq_some_iff.1 hl3).1, (World.putObj_heap_other (by omega)).trans (hk3.heap hk2 (hne hi).2), ?_⟩
        have hml : m l := (hm l).2 (.inr (.inr rfl))
        have h3 := (hfr2 m hml).trans' hk3 (fun b hb => .inl ((hm b).2 (.inl hb)))
        exact h3.putObj (.inl hml) _
      rintro e a3 W3 hp
      cases e with
      | normal =>
        obtain ⟨m', hi3, hf3, hgr⟩ := hp
        obtain ⟨hr, hl4, hk4, hf4⟩ := fin none W3 hf3
        refine ⟨_, _, hr, .inl ⟨rfl, fun b => m' b ∨ b = D ∨ b = l, ⟨⟨m', hI _ _ _ _ hi3 ((Fr.refl _ W3).putObj (.inl (hne hi3).1) _), fun b => Iff.rfl⟩, hl4, hk4⟩, hf4, ?_⟩⟩
        rintro b (h | h)
        · rcases hgr b h with h | h
          · exact .inl ((hm b).2 (.inl h))
          · exact .inr (by rwa [World.putObj_size] at h)
        · exact .inl ((hm b).2 (.inr h))
      | ret =>
        obtain ⟨hi3, hf3⟩ := hp
        obtain ⟨hr, hl4, hk4, hf4⟩ := fin (some .ret) W3 hf3
        exact ⟨_, _, hr, .inr ⟨rfl, ⟨.ret, hIx _ _ _ _ hi3 (hrec W3 _), hl4, hk4⟩, hf4⟩⟩
      | exit id =>
        obtain ⟨hi3, hf3⟩ := hp
        obtain ⟨hr, hl4, hk4, hf4⟩ := fin (some (.exit id)) W3 hf3
        exact ⟨_, _, hr, .inr ⟨rfl, ⟨.exit id, hIx _ _ _ _ hi3 (hrec W3 _), hl4, hk4⟩, hf4⟩⟩
      | goto t =>
        obtain ⟨hi3, hf3⟩ := hp
        obtain ⟨hr, hl4, hk4, hf4⟩ := fin (some (.goto t)) W3 hf3
        exact ⟨_, _, hr, .inr ⟨rfl, ⟨.goto t, hIx _ _ _ _ hi3 (hrec W3 _), hl4, hk4⟩, hf4⟩⟩
      | panic ch => exact hp.elim
      | outgrown => exact hp.elim
    · -- behind the iterator
      rintro e W2 ⟨⟨v, rfl⟩, hfr, (⟨m, ⟨mm, hi, hm⟩, h1, h2⟩ | ⟨pre, c, hi, h1, h2⟩)⟩
      · have hfw : Fr (fun b => m0 b ∨ Bx b) w W2 := (hF1 _).trans' hfr (by
          rintro b ((h | h | h) | h)
          · exact .inl (.inl h)
          · exact .inr (by omega)
          · exact .inr (by omega)
          · exact .inl (.inr h))
        have hne : ¬ mm l := fun h => (hIlt _ _ _ _ hi h).2.2.2 hl
        exact ⟨none, _, by have := run_endLoop (P := P) h1 (by rw [hrc]; simp); rw [hrc] at this; exact this,
          hdone mm _ (hI _ _ _ _ hi ((Fr.refl _ W2).putObj (.inl hne) _)) (hfw.putObj (.inr (by omega)) _) (by rw [← hD]; exact (World.putObj_heap_other (by omega)).trans h2)⟩
      · have hfw : Fr (fun b => m0 b ∨ Bx b) w W2 := (hF1 _).trans' hfr (by
          rintro b ((h | h | h) | h)
          · exact .inl (.inl h)
          · exact .inr (by omega)
          · exact .inr (by omega)
          · exact .inl (.inr h))
        exact ⟨some c, _, by have := run_endLoop (P := P) h1 (by rw [hrc]; simp); rw [hrc] at this; exact this,
          hstop c pre _ (hIx _ _ _ _ hi (hrec W2 _)) (hfw.putObj (.inr (by omega)) _) (by rw [← hD]; exact (World.putObj_heap_other (by omega)).trans h2)⟩
end Go.Proofs.YtancflpioigjbaaGreatDoor
/- Small laws on a heap: what a block holds behind a store, a new block, a contract that makes memory. No program in sight; each theorem names its conditions. -/
namespace Go.Proofs.YtancflpioigjbaaGreatDoor
open Go.RowKit Go.Shelf
set_option linter.unusedVariables false

theorem heap_self {W : World} {b k : Nat} {cs : Array Value} {t : TypeId} {fr : Nat × Nat} (h : W.heap[b]? = some (.cells cs t fr)) (u : Value) : (W.setCell ⟨b, k, none⟩ u).heap[b]? = some (.cells (cs.setIfInBounds k u) t fr) := by
  simp [World.setCell, Array.getElem?_modify, h]
theorem heap_put_other {W : World} {b b' : Nat} {o : Obj} (hne : b ≠ b') : (W.putObj b' o).heap[b]? = W.heap[b]? := by
  simp [World.putObj, Ne.symm hne]
theorem heap_other {W : World} {b b' k : Nat} (hne : b ≠ b') (u : Value) : (W.setCell ⟨b', k, none⟩ u).heap[b]? = W.heap[b]? := Below.heap_setCell _ _ _ _ hne
theorem box_cell {W : World} {b : Nat} {v : Value} {t : TypeId} (h : W.heap[b]? = some (.cells #[v] t (0, 0))) : W.cell? ⟨b, 0, none⟩ = some v ∧ W.frozen? ⟨b, 0, none⟩ = false := by
  constructor <;> simp [World.cell?, World.frozen?, h]
theorem box_set {W : World} {b : Nat} {v : Value} {t : TypeId} (h : W.heap[b]? = some (.cells #[v] t (0, 0))) (u : Value) : (W.setCell ⟨b, 0, none⟩ u).heap[b]? = some (.cells #[u] t (0, 0)) := by
  simp [World.setCell, Array.getElem?_modify, h]

theorem block_new {A B : World} (h : Below A.heap.size A B) {b : Nat} {o : Obj} (hb : A.heap[b]? = some o) : B.heap[b]? = some o := (Fr.of_new h (fun _ => False)).heap hb (fun h => h)
end Go.Proofs.YtancflpioigjbaaGreatDoor
/- A rule for a region that draws its order: an invariant over the set of operations that have come up. No program in sight; each theorem names its conditions. -/
namespace Go.Proofs.YtancflpioigjbaaGreatDoor
open Go
set_option linter.unusedVariables false
section
variable {P : Program} {ops : Array Oper} {Q : Exit → Act → World → Prop} {md : Region.Mode}

/-- how many operations have not come up yet -/
def left (n : Nat) (listed : Array Bool) : Nat := (List.range n).countP fun j => !listed.getD j true
theorem left_set {n i : Nat} {listed : Array Bool} (hi : i < n) (hl : listed.getD i true = false) : left n (listed.setIfInBounds i true) + 1 = left n listed := by
  unfold left
  have hsz : i < listed.size := by
    rcases Nat.lt_or_ge i listed.size with h | h
    · exact h
    · simp [Array.getElem?_eq_none h] at hl
  induction n with
  | zero => omega
  | succ n ih =>
    rw [List.range_succ, List.countP_append, List.countP_append]
    by_cases hin : i = n
    · subst hin
      have h1 : (List.range i).countP (fun j => !(listed.setIfInBounds i true).getD j true) = (List.range i).countP (fun j => !listed.getD j true) := by
        apply List.countP_congr
        intro j hj
        have : i ≠ j := by have := List.mem_range.1 hj; omega
        rw [getD_set_ne true this]
      have h2 : (listed.setIfInBounds i true).getD i true = true := by simp [hsz]
      have e1 : List.countP (fun j => !(listed.setIfInBounds i true).getD j true) [i] = 0 := by rw [List.countP_singleton, h2]; rfl
      have e2 : List.countP (fun j => !listed.getD j true) [i] = 1 := by rw [List.countP_singleton, hl]; rfl
      rw [h1, e1, e2]
    · have h2 : (listed.setIfInBounds i true).getD n true = listed.getD n true := getD_set_ne true hin
      have e1 : List.countP (fun j => !(listed.setIfInBounds i true).getD j true) [n] = List.countP (fun j => !listed.getD j true) [n] := by
        rw [List.countP_singleton, List.countP_singleton, h2]
      have := ih (by omega)
      rw [e1]; omega
theorem left_zero {n : Nat} {listed : Array Bool} (h : left n listed = 0) : ∀ j, j < n → listed.getD j true = true := by
  intro j hj
  have := List.countP_eq_zero.1 h j (by simpa using hj)
  simpa using this
theorem wpAny_inv (I : Array Bool → Act → World → Prop)
    (hstep : ∀ listed a w, I listed a w → ∀ i o, ops[i]? = some o → listed.getD i true = false → (∀ e ∈ o.after, Region.binds md e = true → listed.getD e.on false = true) → wpOp P ops Q i (fun a' w' => I (listed.setIfInBounds i true) a' w') a w)
    (hdone : ∀ listed a w, I listed a w → Region.ready md ops listed = [] → Q .normal a w) :
    ∀ (fuel : Nat) (listed : Array Bool) (a : Act) (w : World), left ops.size listed ≤ fuel → I listed a w → wpAny P md ops Q fuel listed a w
  | 0, listed, a, w, hf, hI => by
    have hr : Region.ready md ops listed = [] := by
      rw [List.eq_nil_iff_forall_not_mem]
      intro j hj
      obtain ⟨h0, o, ho, -⟩ := mem_ready.1 hj
      rw [left_zero (by omega) j (Array.getElem?_eq_some_iff.1 ho).1] at h0
      cases h0
    exact ⟨hr, hdone _ _ _ hI hr⟩
  | fuel + 1, listed, a, w, hf, hI => by
    refine ⟨hdone _ _ _ hI, fun i hi => ?_⟩
    obtain ⟨h0, o, ho, hall⟩ := mem_ready.1 hi
    have hl := left_set (Array.getElem?_eq_some_iff.1 ho).1 h0
    exact wpOp_mono (fun a' w' h => wpAny_inv I hstep hdone fuel _ a' w' (by omega) h) (hstep _ _ _ hI i o ho h0 hall)
/-- where nothing is ready, and each operation waits for earlier ones alone, all have come up -/
theorem all_up {listed : Array Bool} (hsz : listed.size = ops.size) (hback : ∀ j o, ops[j]? = some o → ∀ e ∈ o.after, Region.binds md e = true → e.on < j) (hr : Region.ready md ops listed = []) :
    ∀ j, j < ops.size → listed.getD j true = true := by
  intro j
  induction j using Nat.strongRecOn with
  | _ j ih =>
    intro hj
    cases h : listed.getD j true
    · exfalso
      have hm : j ∈ Region.ready md ops listed := by
        refine mem_ready.2 ⟨h, ops[j], by simp [hj], fun e he hb => ?_⟩
        have hlt := hback j ops[j] (by simp [hj]) e he hb
        have ht := ih e.on hlt (by omega)
        have hs : e.on < listed.size := by omega
        simpa [hs] using ht
      rw [hr] at hm; cases hm
    · rfl
def backB (ops : Array Oper) : Bool := (List.range ops.size).all fun j => (ops[j]?).all fun o => o.after.all fun e => decide (e.on < j)
theorem back_of (h : backB ops = true) (j : Nat) (o : Oper) (ho : ops[j]? = some o) (e) (he : e ∈ o.after) : e.on < j := by
  have h1 := List.all_eq_true.1 h j (by simpa using (Array.getElem?_eq_some_iff.1 ho).1)
  rw [ho] at h1
  have h2 := Array.all_eq_true'.1 (show (o.after.all fun e => decide (e.on < j)) = true from h1) e he
  simpa using h2
/-- where nothing is ready, all have come up -/
theorem all_done {listed : Array Bool} (hb : backB ops = true) (hsz : listed.size = ops.size) (hr : Region.ready md ops listed = []) (j : Nat) (hj : j < ops.size) : listed.getD j false = true := by
  have := all_up hsz (fun j o ho e he _ => back_of hb j o ho e he) hr j hj
  have hs : j < listed.size := by omega
  simpa [hs] using this
/-- the beginning -/
theorem wp_region_inv {id : Nat} {a : Act} {w : World} (I : Array Bool → Act → World → Prop) (hm : P.follows .mixedOrders = true)
    (h0 : I (Array.replicate ops.size false) a w.drew)
    (hstep : ∀ listed a w, I listed a w → ∀ i o, ops[i]? = some o → listed.getD i true = false → (∀ e ∈ o.after, Region.binds .any e = true → listed.getD e.on false = true) → wpOp P ops Q i (fun a' w' => I (listed.setIfInBounds i true) a' w') a w)
    (hdone : ∀ listed a w, I listed a w → Region.ready .any ops listed = [] → Q .normal a w) : (Code.region id ops true).wp P Q a w := by
  refine wp_region_any hm (wpAny_inv I hstep hdone _ _ _ _ ?_ h0)
  have := List.countP_le_length (p := fun j => !(Array.replicate ops.size false).getD j true) (l := List.range ops.size)
  simpa [left] using this
end
end Go.Proofs.YtancflpioigjbaaGreatDoor
/- A region that draws its order: each operation has a fact of its own value, which stands while the others come up. No program in sight; each theorem names its conditions. -/
namespace Go.Proofs.YtancflpioigjbaaGreatDoor
open Go Go.RowKit
set_option linter.unusedVariables false

def dstOf (ops : Array Oper) (j : Nat) : Option Nat := (ops[j]?).bind (·.dst)
def inSlot (a : Act) : Option Nat → Value
  | some d => a.tmps.getD d undef
  | none => undef
def gives : Option Nat → Value → Value
  | some _, v => v
  | none, _ => undef
/-- no two operations write one slot, and each slot lies in the frame -/
def slotsB (ops : Array Oper) (n : Nat) : Bool := (List.range ops.size).all fun i => match dstOf ops i with
  | none => true
  | some d => decide (d < n) && (List.range ops.size).all fun j => decide (i = j) || !decide (dstOf ops j = some d)
def freeB (ops : Array Oper) (t : Nat) : Bool := (List.range ops.size).all fun j => !decide (dstOf ops j = some t)
def onlyB (ops : Array Oper) (t j : Nat) : Bool := (List.range ops.size).all fun k => !decide (dstOf ops k = some t) || decide (k = j)
/-- each operation waits, in a drawn order, for earlier ones alone -/
def backR (ops : Array Oper) : Bool := (List.range ops.size).all fun j => (ops[j]?).all fun o => o.after.all fun e => !Region.binds .any e || decide (e.on < j)
def fill (ops : Array Oper) (s : Nat → Value) : Nat → Array Value → Array Value
  | 0, T => T
  | n + 1, T => match dstOf ops n with
    | some d => (fill ops s n T).setIfInBounds d (s d)
    | none => fill ops s n T

theorem getD_set_true {listed : Array Bool} {i j : Nat} (h : listed.getD j false = true) : (listed.setIfInBounds i true).getD j false = true := by
  by_cases hij : i = j
  · subst hij
    have hl : i < listed.size := by
      rcases Nat.lt_or_ge i listed.size with h' | h'
      · exact h'
      · simp [Array.getElem?_eq_none h'] at h
    simp [hl]
  · rw [getD_set_ne false hij]; exact h
theorem dstOf_lt {ops : Array Oper} {j d : Nat} (h : dstOf ops j = some d) : j < ops.size := by
  rcases Nat.lt_or_ge j ops.size with h' | h'
  · exact h'
  · simp [dstOf, Array.getElem?_eq_none h'] at h
theorem slots_lt {ops : Array Oper} {n j d : Nat} (h : slotsB ops n = true) (hd : dstOf ops j = some d) : d < n := by
  have h1 := List.all_eq_true.1 h j (by simpa using dstOf_lt hd)
  rw [hd] at h1
  simp only [Bool.and_eq_true, decide_eq_true_eq] at h1
  exact h1.1
theorem slots_ne {ops : Array Oper} {n i j d : Nat} (h : slotsB ops n = true) (hi : dstOf ops i = some d) (hj : dstOf ops j = some d) : i = j := by
  have h1 := List.all_eq_true.1 h i (by simpa using dstOf_lt hi)
  rw [hi] at h1
  simp only [Bool.and_eq_true, decide_eq_true_eq] at h1
  have h2 := List.all_eq_true.1 h1.2 j (by simpa using dstOf_lt hj)
  simpa [hj] using h2
theorem free_ne {ops : Array Oper} {t j : Nat} (h : freeB ops t = true) : dstOf ops j ≠ some t := fun hj => by
  have h1 := List.all_eq_true.1 h j (by simpa using dstOf_lt hj)
  simp [hj] at h1
theorem getD_set (T : Array Value) (d t : Nat) (v : Value) : (T.setIfInBounds d v).getD t undef = if d = t ∧ d < T.size then v else T.getD t undef := by
  simp only [Array.getD_eq_getD_getElem?, Array.getElem?_setIfInBounds]
  by_cases h : d = t
  · subst h
    by_cases h2 : d < T.size <;> simp [h2]
  · simp [h]
theorem fill_size (ops : Array Oper) (s : Nat → Value) (n : Nat) (T : Array Value) : (fill ops s n T).size = T.size := by
  induction n with
  | zero => rfl
  | succ n ih => rw [fill]; split <;> simp [ih]
theorem fill_get (ops : Array Oper) (s : Nat → Value) (T : Array Value) (hs : ∀ j d, dstOf ops j = some d → d < T.size) (t : Nat) : ∀ n, (fill ops s n T).getD t undef = if ∃ j, j < n ∧ dstOf ops j = some t then s t else T.getD t undef := by
  intro n
  induction n with
  | zero => simp [fill]
  | succ n ih =>
    rw [fill]
    split
    · rename_i d hd
      rw [getD_set, fill_size, ih]
      by_cases hdt : d = t
      · subst hdt
        rw [if_pos ⟨rfl, hs _ _ hd⟩, if_pos ⟨n, Nat.lt_succ_self n, hd⟩]
      · rw [if_neg (fun h => hdt h.1)]
        have : (∃ j, j < n + 1 ∧ dstOf ops j = some t) ↔ ∃ j, j < n ∧ dstOf ops j = some t := by
          constructor
          · rintro ⟨j, hj, e⟩
            rcases Nat.lt_succ_iff_lt_or_eq.1 hj with h | rfl
            · exact ⟨j, h, e⟩
            · rw [hd] at e; exact absurd (Option.some.inj e) hdt
          · rintro ⟨j, hj, e⟩; exact ⟨j, Nat.lt_succ_of_lt hj, e⟩
        simp only [this]
    · rename_i hd
      rw [ih]
      have : (∃ j, j < n + 1 ∧ dstOf ops j = some t) ↔ ∃ j, j < n ∧ dstOf ops j = some t := by
        constructor
        · rintro ⟨j, hj, e⟩
          rcases Nat.lt_succ_iff_lt_or_eq.1 hj with h | rfl
          · exact ⟨j, h, e⟩
          · rw [hd] at e; cases e
        · rintro ⟨j, hj, e⟩; exact ⟨j, Nat.lt_succ_of_lt hj, e⟩
      simp only [this]
theorem arr_ext {A B : Array Value} (hs : A.size = B.size) (h : ∀ t, A.getD t undef = B.getD t undef) : A = B := by
  apply Array.ext hs
  intro i h1 h2
  have := h i
  simpa [Array.getD, h1, h2] using this

/-- the frame behind the region: b says which slots it has written -/
def over (b : Nat → Bool) (s : Nat → Value) : Nat → List Value → List Value
  | _, [] => []
  | t, v :: vs => bif b t then s t :: over b s (t + 1) vs else v :: over b s (t + 1) vs
def overB (ops : Array Oper) (n : Nat) (b : Nat → Bool) : Bool := (List.range n).all fun t => b t == !freeB ops t
theorem over_get (b : Nat → Bool) (s : Nat → Value) : ∀ (l : List Value) (t i : Nat), (over b s t l)[i]? = if i < l.length then some (if b (t + i) = true then s (t + i) else l.getD i undef) else none
  | [], t, i => by simp [over]
  | v :: vs, t, 0 => by cases h : b t <;> simp [over, h]
  | v :: vs, t, i + 1 => by
    have ih := over_get b s vs (t + 1) i
    rw [show t + 1 + i = t + (i + 1) by omega] at ih
    cases h : b t <;> simp [over, h, ih]
theorem fill_over {ops : Array Oper} {T : Array Value} {s : Nat → Value} {b : Nat → Bool} (hs : slotsB ops T.size = true) (hb : overB ops T.size b = true) : fill ops s ops.size T = (over b s 0 T.toList).toArray := by
  have hlen : (over b s 0 T.toList).length = T.size := by
    have h := over_get b s T.toList 0
    apply Nat.le_antisymm
    · rcases Nat.lt_or_ge T.size (over b s 0 T.toList).length with hl | hl
      · have := h T.size
        rw [List.getElem?_eq_getElem hl, if_neg (by simp)] at this
        cases this
      · exact hl
    · rcases Nat.lt_or_ge (over b s 0 T.toList).length T.size with hl | hl
      · have := h (over b s 0 T.toList).length
        rw [List.getElem?_eq_none (Nat.le_refl _), if_pos (by simpa using hl)] at this
        cases this
      · exact hl
  refine arr_ext (by simp [fill_size, hlen]) fun t => ?_
  rw [fill_get ops s T (fun j d h => slots_lt hs h) t]
  have e : ((over b s 0 T.toList).toArray).getD t undef = ((over b s 0 T.toList)[t]?).getD undef := by simp [Array.getD_eq_getD_getElem?]
  rw [e, over_get, Nat.zero_add]
  by_cases hf : freeB ops t = true
  · have hno : ¬ ∃ j, j < ops.size ∧ dstOf ops j = some t := by
      rintro ⟨j, _, hj⟩
      exact free_ne hf hj
    rw [if_neg hno]
    by_cases ht : t < T.size
    · have h1 := List.all_eq_true.1 hb t (by simpa using ht)
      have h2 : b t = false := by simpa [hf] using h1
      simp [h2, ht, Array.getD_eq_getD_getElem?]
    · simp [ht, Array.getD_eq_getD_getElem?]
  · have hf' : freeB ops t = false := by simpa using hf
    have hyes : ∃ j, j < ops.size ∧ dstOf ops j = some t := by
      apply Classical.byContradiction
      intro hn
      apply hf
      refine List.all_eq_true.2 fun j hj => ?_
      have : dstOf ops j ≠ some t := fun hd => hn ⟨j, by simpa using hj, hd⟩
      simp [this]
    obtain ⟨j, hj, hd⟩ := hyes
    have ht := slots_lt hs hd
    have h1 := List.all_eq_true.1 hb t (by simpa using ht)
    have h2 : b t = true := by simpa [hf'] using h1
    rw [if_pos ⟨j, hj, hd⟩]
    simp [h2, ht]

section
variable {P : Program} {ops : Array Oper} {Q : Exit → Act → World → Prop} {T0 : Array Value} {S : Array Bool → Nat → Value → World → Prop} {R : Array Bool → World → Prop}
structure RSt (ops : Array Oper) (T0 : Array Value) (S : Array Bool → Nat → Value → World → Prop) (R : Array Bool → World → Prop) (listed : Array Bool) (a : Act) (w : World) : Prop where
  lsize : listed.size = ops.size
  size : a.tmps.size = T0.size
  defers : a.defers = []
  base : ∀ t, (∀ j, dstOf ops j = some t → listed.getD j false = false) → a.tmps.getD t undef = T0.getD t undef
  vals : ∀ j, listed.getD j false = true → S listed j (inSlot a (dstOf ops j)) w
  glob : R listed w
  closed : ∀ j o, ops[j]? = some o → listed.getD j false = true → ∀ e ∈ o.after, Region.binds .any e = true → listed.getD e.on false = true
theorem put_size (a : Act) (d : Option Nat) (v : Value) : (a.put d v).tmps.size = a.tmps.size := by cases d <;> simp [Act.put]
theorem put_defers (a : Act) (d : Option Nat) (v : Value) : (a.put d v).defers = a.defers := by cases d <;> rfl
theorem getD_falses (n j : Nat) : (Array.replicate n false).getD j false = false := by
  by_cases h : j < n <;> simp [h]
/-- **the rule, in full**: S may speak of what has come up -/
theorem wp_region_full {id : Nat} {w : World} (hm : P.follows .mixedOrders = true) (hsl : slotsB ops T0.size = true) (hbk : backR ops = true)
    (h0 : R (Array.replicate ops.size false) w.drew)
    (hstep : ∀ i o, ops[i]? = some o → ∀ listed a w, RSt ops T0 S R listed a w → listed.getD i false = false → (∀ e ∈ o.after, Region.binds .any e = true → listed.getD e.on false = true) →
      ∀ K : Act → World → Prop, (∀ v w', S (listed.setIfInBounds i true) i (gives o.dst v) w' → R (listed.setIfInBounds i true) w' →
        (∀ j u, j ≠ i → listed.getD j false = true → S listed j u w → S (listed.setIfInBounds i true) j u w') → K (a.put o.dst v) w') → wpOp P ops Q i K a w)
    (hdone : ∀ (s : Nat → Value) listed w, (∀ j, j < ops.size → listed.getD j false = true) → (∀ j, j < ops.size → S listed j (match dstOf ops j with | some d => s d | none => undef) w) → R listed w → Q .normal { tmps := fill ops s ops.size T0, defers := [] } w) :
    (Code.region id ops true).wp P Q { tmps := T0, defers := [] } w := by
  refine wp_region_inv (RSt ops T0 S R) hm ?_ ?_ ?_
  · exact ⟨by simp, rfl, rfl, fun _ _ => rfl, fun j hj => (by rw [getD_falses] at hj; cases hj), h0, fun j o _ hj => by rw [getD_falses] at hj; cases hj⟩
  · intro listed a w hI i o ho hun hall
    have hun' : listed.getD i false = false := by
      rcases Nat.lt_or_ge i listed.size with h' | h'
      · simp [h'] at hun ⊢; exact hun
      · simp [Array.getElem?_eq_none h'] at hun
    have hio : i < ops.size := (Array.getElem?_eq_some_iff.1 ho).1
    have hdo : dstOf ops i = o.dst := by simp [dstOf, ho]
    refine hstep i o ho listed a w hI hun' hall _ fun v w' hS hR hkeep => ?_
    refine ⟨by simpa using hI.lsize, by rw [put_size]; exact hI.size, by rw [put_defers]; exact hI.defers, fun t ht => ?_, fun j hj => ?_, hR, fun j oj hoj hj e he hb => ?_⟩
    · have hne : o.dst ≠ some t := fun e => by
        have := ht i (hdo.trans e)
        simp [hI.lsize, hio] at this
      have hb := hI.base t (fun j hj => by
        by_cases hji : j = i
        · subst hji; exact hun'
        · have := ht j hj
          rwa [getD_set_ne false (Ne.symm hji)] at this)
      cases hd : o.dst with
      | none => simpa [Act.put] using hb
      | some d =>
        show (a.tmps.setIfInBounds d v).getD t undef = _
        rw [getD_set, if_neg (fun h => hne (by rw [hd, h.1]))]
        exact hb
    · by_cases hji : j = i
      · subst hji
        have e : inSlot (a.put o.dst v) (dstOf ops j) = gives o.dst v := by
          rw [hdo]
          cases hd : o.dst with
          | none => rfl
          | some d =>
            show (a.tmps.setIfInBounds d v).getD d undef = v
            rw [getD_set, if_pos ⟨rfl, by rw [hI.size]; exact slots_lt hsl (hdo.trans hd)⟩]
        rw [e]; exact hS
      · have hj' : listed.getD j false = true := by rwa [getD_set_ne false (Ne.symm hji)] at hj
        have e : inSlot (a.put o.dst v) (dstOf ops j) = inSlot a (dstOf ops j) := by
          cases hdj : dstOf ops j with
          | none => rfl
          | some c =>
            cases hd : o.dst with
            | none => rfl
            | some d =>
              show (a.tmps.setIfInBounds d v).getD c undef = _
              rw [getD_set, if_neg (fun h => hji (slots_ne hsl hdj (by rw [hdo, hd, h.1])))]
              rfl
        rw [e]
        exact hkeep j _ hji hj' (hI.vals j hj')
    · by_cases hji : j = i
      · subst hji
        rw [ho] at hoj
        obtain rfl := Option.some.inj hoj
        exact getD_set_true (hall e he hb)
      · have hj' : listed.getD j false = true := by rwa [getD_set_ne false (Ne.symm hji)] at hj
        exact getD_set_true (hI.closed j oj hoj hj' e he hb)
  · intro listed a w hI hr
    have hup : ∀ j, j < ops.size → listed.getD j false = true := fun j hj => by
      have := all_up hI.lsize (fun j o ho e he hb => by
        have h1 := List.all_eq_true.1 hbk j (by simpa using (Array.getElem?_eq_some_iff.1 ho).1)
        rw [ho] at h1
        have h2 := Array.all_eq_true'.1 (show (o.after.all fun e => !Region.binds .any e || decide (e.on < j)) = true from h1) e he
        rw [hb] at h2
        simpa using h2) hr j hj
      have hs : j < listed.size := by rw [hI.lsize]; exact hj
      simpa [hs] using this
    have hT : a.tmps = fill ops (fun d => a.tmps.getD d undef) ops.size T0 := by
      refine arr_ext (by rw [fill_size]; exact hI.size) fun t => ?_
      rw [fill_get ops _ T0 (fun j d h => slots_lt hsl h) t]
      split
      · rfl
      · rename_i hno
        exact hI.base t fun j hj => absurd ⟨j, dstOf_lt hj, hj⟩ hno
    have ha : a = { tmps := fill ops (fun d => a.tmps.getD d undef) ops.size T0, defers := [] } := by
      obtain ⟨tm, df⟩ := a
      have hd : df = [] := hI.defers
      subst hd
      rw [← hT]
    rw [ha]
    refine hdone _ listed w hup (fun j hj => ?_) hI.glob
    have := hI.vals j (hup j hj)
    cases hd : dstOf ops j with
    | none => rw [hd] at this; exact this
    | some d => rw [hd] at this; exact this
end
section
variable {P : Program} {ops : Array Oper} {Q : Exit → Act → World → Prop} {T0 : Array Value} {S : Nat → Value → World → Prop}
/-- what stands where operation i comes up -/
structure RAt (ops : Array Oper) (T0 : Array Value) (S : Nat → Value → World → Prop) (w0 : World) (i : Nat) (o : Oper) (listed : Array Bool) (a : Act) (w : World) : Prop where
  at_ : ops[i]? = some o
  ups : ∀ e ∈ o.after, Region.binds .any e = true → listed.getD e.on false = true
  base : ∀ t, freeB ops t = true → a.tmps.getD t undef = T0.getD t undef
  vals : ∀ j, listed.getD j false = true → S j (inSlot a (dstOf ops j)) w
  below : Below w0.heap.size w0 w
  un : listed.getD i false = false
  closed : ∀ j o, ops[j]? = some o → listed.getD j false = true → ∀ e ∈ o.after, Region.binds .any e = true → listed.getD e.on false = true
  early_ : ∀ t, (∀ j, dstOf ops j = some t → listed.getD j false = false) → a.tmps.getD t undef = T0.getD t undef
/-- **the rule, where each fact stands while the world grows** -/
theorem wp_region_vals {id : Nat} {w : World} (hm : P.follows .mixedOrders = true) (S : Nat → Value → World → Prop) (b : Nat → Bool) (hov : overB ops T0.size b = true) (hsl : slotsB ops T0.size = true) (hbk : backR ops = true)
    (hup : ∀ j v w w', Below w.heap.size w w' → S j v w → S j v w')
    (hstep : ∀ i, i < ops.size → ∀ o listed a w', RAt ops T0 S w i o listed a w' →
      ∀ K : Act → World → Prop, (∀ v w'', S i (gives o.dst v) w'' → Below w'.heap.size w' w'' → K (a.put o.dst v) w'') → wpOp P ops Q i K a w')
    (hdone : ∀ (s : Nat → Value) w', (∀ j, j < ops.size → S j (match dstOf ops j with | some d => s d | none => undef) w') → Below w.heap.size w w' → Q .normal { tmps := (over b s 0 T0.toList).toArray, defers := [] } w') :
    (Code.region id ops true).wp P Q { tmps := T0, defers := [] } w := by
  refine wp_region_full (S := fun _ => S) (R := fun _ w' => Below w.heap.size w w') hm hsl hbk (Below.refl _ _).drew ?_ ?_
  · intro i o ho listed a w' hI hun hall K hK
    refine hstep i (Array.getElem?_eq_some_iff.1 ho).1 o listed a w' ⟨ho, hall, fun t ht => hI.base t (fun j hj => absurd hj (free_ne ht)), hI.vals, hI.glob, hun, hI.closed, hI.base⟩ K fun v w'' h1 h2 => hK v w'' h1 (hI.glob.trans (h2.mono hI.glob.size)) fun j u _ _ hS => hup j u w' w'' h2 hS
  · intro s listed w' _ hS hR
    rw [fill_over hsl hov]
    exact hdone s w' hS hR
/-- a slot that operation j alone writes, where j waits for i -/
theorem RAt.early {w0 : World} {i j t : Nat} {o oj : Oper} {listed : Array Bool} {a : Act} {w : World} (h : RAt ops T0 S w0 i o listed a w) (hw : onlyB ops t j = true) (hoj : ops[j]? = some oj) (e : Edge) (he : e ∈ oj.after) (hb : Region.binds .any e = true) (hi : e.on = i) : a.tmps.getD t undef = T0.getD t undef :=
  h.early_ t fun k hk => by
    have h1 := List.all_eq_true.1 hw k (by simpa using dstOf_lt hk)
    rw [hk] at h1
    have h2 : k = j := by simpa using h1
    subst h2
    cases hl : listed.getD k false
    · rfl
    · have := h.closed k oj hoj hl e he hb
      rw [hi, h.un] at this; cases this
/-- a dependency's fact -/
theorem RAt.dep {w0 : World} {i : Nat} {o : Oper} {listed : Array Bool} {a : Act} {w : World} (h : RAt ops T0 S w0 i o listed a w) (e : Edge) (he : e ∈ o.after) (hb : Region.binds .any e = true) : S e.on (inSlot a (dstOf ops e.on)) w := h.vals e.on (h.ups e he hb)
end
/-- operations without a guard, with one -/
theorem plain_step {P : Program} {ops : Array Oper} {Q : Exit → Act → World → Prop} {i : Nat} {o : Oper} {K : Act → World → Prop} {a : Act} {w : World} (ho : ops[i]? = some o) (hg : o.guard = none) (h : Oper.wp P o a w K Q) : wpOp P ops Q i K a w := by
  unfold wpOp; rw [ho]
  have hw : Region.wanted o (yielded ops a.tmps) = true := by simp [Region.wanted, hg]
  show if Region.wanted o (yielded ops a.tmps) = true then _ else _
  rw [if_pos hw]; exact .inl h
theorem slot_some {T : Array Value} {d : Nat} {b : Bool} (h : T.getD d undef = .bool b) : T[d]? = some (.bool b) := by
  rw [Array.getD_eq_getD_getElem?] at h
  cases hd : T[d]? with
  | none => rw [hd] at h; cases h
  | some v => rw [hd] at h; simp at h; rw [h]
theorem guard_step {P : Program} {ops : Array Oper} {Q : Exit → Act → World → Prop} {i : Nat} {o : Oper} {K : Act → World → Prop} {a : Act} {w : World} {g d : Nat} {b : Bool} (ho : ops[i]? = some o) (hg : o.guard = some (g, b)) (hd : dstOf ops g = some d)
    (ht : a.tmps.getD d undef = .bool b) (h : Oper.wp P o a w K Q) : wpOp P ops Q i K a w := by
  unfold wpOp; rw [ho]
  have hw : Region.wanted o (yielded ops a.tmps) = true := by
    have hd' : ((ops[g]?).bind (·.dst)) = some d := hd
    simp [Region.wanted, hg, yielded, hd', slot_some ht]
  show if Region.wanted o (yielded ops a.tmps) = true then _ else _
  rw [if_pos hw]; exact .inl h
theorem guard_skip {P : Program} {ops : Array Oper} {Q : Exit → Act → World → Prop} {i : Nat} {o : Oper} {K : Act → World → Prop} {a : Act} {w : World} {g d : Nat} {b c : Bool} (ho : ops[i]? = some o) (hg : o.guard = some (g, b)) (hd : dstOf ops g = some d)
    (ht : a.tmps.getD d undef = .bool c) (hne : c ≠ b) (h : K (a.put o.dst undef) w) : wpOp P ops Q i K a w := by
  unfold wpOp; rw [ho]
  have hw : ¬ Region.wanted o (yielded ops a.tmps) = true := by
    have hd' : ((ops[g]?).bind (·.dst)) = some d := hd
    simp [Region.wanted, hg, yielded, hd', slot_some ht, hne]
  show if Region.wanted o (yielded ops a.tmps) = true then _ else _
  rw [if_neg hw]; exact h
/-- what stands where operation i comes up, in a region with one store -/
structure PAt (ops : Array Oper) (T0 : Array Value) (E : Nat → Value) (i : Nat) (o : Oper) (listed : Array Bool) (a : Act) : Prop where
  at_ : ops[i]? = some o
  ups : ∀ e ∈ o.after, Region.binds .any e = true → listed.getD e.on false = true
  base : ∀ t, freeB ops t = true → a.tmps.getD t undef = T0.getD t undef
  vals : ∀ j, listed.getD j false = true → inSlot a (dstOf ops j) = E j
theorem PAt.dep {ops : Array Oper} {T0 : Array Value} {E : Nat → Value} {i : Nat} {o : Oper} {listed : Array Bool} {a : Act} (h : PAt ops T0 E i o listed a) (e : Edge) (he : e ∈ o.after) (hb : Region.binds .any e = true) : inSlot a (dstOf ops e.on) = E e.on := h.vals e.on (h.ups e he hb)
/-- **the rule for a region whose operations compute, but for one store** -/
theorem wp_region_store {P : Program} {ops : Array Oper} {Q : Exit → Act → World → Prop} {T0 : Array Value} {id : Nat} {w : World} (hm : P.follows .mixedOrders = true) (E : Nat → Value) (sj : Nat) (p : Addr) (u : Value) (b : Nat → Bool) (hov : overB ops T0.size b = true) (hsl : slotsB ops T0.size = true) (hbk : backR ops = true) (hsj : sj < ops.size)
    (hstep : ∀ i, i < ops.size → i ≠ sj → ∀ o listed a w', PAt ops T0 E i o listed a → (w' = w.drew ∨ w' = w.drew.setCell p u) →
      ∀ K : Act → World → Prop, (∀ v, gives o.dst v = E i → K (a.put o.dst v) w') → wpOp P ops Q i K a w')
    (hstore : ∀ o listed a, PAt ops T0 E sj o listed a → ∀ K : Act → World → Prop, (∀ v, gives o.dst v = E sj → K (a.put o.dst v) (w.drew.setCell p u)) → wpOp P ops Q sj K a w.drew)
    (hdone : ∀ s : Nat → Value, (∀ j, j < ops.size → (match dstOf ops j with | some d => s d | none => undef) = E j) → Q .normal { tmps := (over b s 0 T0.toList).toArray, defers := [] } (w.drew.setCell p u)) :
    (Code.region id ops true).wp P Q { tmps := T0, defers := [] } w := by
  refine wp_region_full (S := fun _ j v _ => v = E j) (R := fun listed w' => (listed.getD sj false = false → w' = w.drew) ∧ (listed.getD sj false = true → w' = w.drew.setCell p u)) hm hsl hbk ⟨fun _ => rfl, fun h => by rw [getD_falses] at h; cases h⟩ ?_ ?_
  · intro i o ho listed a w' hI hun hall K hK
    have hio : i < ops.size := (Array.getElem?_eq_some_iff.1 ho).1
    have hA : PAt ops T0 E i o listed a := ⟨ho, hall, fun t ht => hI.base t (fun j hj => absurd hj (free_ne ht)), hI.vals⟩
    by_cases his : i = sj
    · subst his
      obtain rfl := hI.glob.1 hun
      refine hstore o listed a hA K fun v hv => hK v _ hv ⟨fun h => by simp [hI.lsize, hio] at h, fun _ => rfl⟩ fun j u _ _ h => h
    · have hw : w' = w.drew ∨ w' = w.drew.setCell p u := by
        cases h : listed.getD sj false
        · exact .inl (hI.glob.1 h)
        · exact .inr (hI.glob.2 h)
      refine hstep i hio his o listed a w' hA hw K fun v hv => hK v w' hv ?_ fun j u _ _ h => h
      rw [getD_set_ne false his]
      exact hI.glob
  · intro s listed w' hup hS hR
    obtain rfl := hR.2 (hup sj hsj)
    rw [fill_over hsl hov]
    exact hdone s hS
end Go.Proofs.YtancflpioigjbaaGreatDoor
/- The rule for a region that draws its order (an invariant over the set of operations that have come up), inside a fence. No program in sight; each theorem names its conditions. -/
namespace Go.Proofs.YtancflpioigjbaaGreatDoor
open Go
set_option linter.unusedVariables false
theorem getD_none {listed : Array Bool} {i : Nat} (h : listed.getD i true = false) : listed.getD i false = false := by
  rcases Nat.lt_or_ge i listed.size with h' | h'
  · simp [h'] at h ⊢; exact h
  · simp [Array.getElem?_eq_none h'] at h
section
variable {F : Fence} {n : Nat} {P : Program} {ops : Array Oper} {Q : Exit → Act → World → Prop} {md : Region.Mode}
theorem wpAnyIn_inv (I : Array Bool → Act → World → Prop)
    (hstep : ∀ listed a w, I listed a w → ∀ i o, ops[i]? = some o → listed.getD i true = false → (∀ e ∈ o.after, Region.binds md e = true → listed.getD e.on false = true) → wpOpIn F n P ops Q i (fun a' w' => I (listed.setIfInBounds i true) a' w') a w)
    (hdone : ∀ listed a w, I listed a w → Region.ready md ops listed = [] → Q .normal a w) :
    ∀ (fuel : Nat) (listed : Array Bool) (a : Act) (w : World), left ops.size listed ≤ fuel → I listed a w → wpAnyIn F n P md ops Q fuel listed a w
  | 0, listed, a, w, hf, hI => by
    have hr : Region.ready md ops listed = [] := by
      rw [List.eq_nil_iff_forall_not_mem]
      intro j hj
      obtain ⟨h0, o, ho, -⟩ := mem_ready.1 hj
      rw [left_zero (by omega) j (Array.getElem?_eq_some_iff.1 ho).1] at h0
      cases h0
    exact ⟨hr, hdone _ _ _ hI hr⟩
  | fuel + 1, listed, a, w, hf, hI => by
    refine ⟨hdone _ _ _ hI, fun i hi => ?_⟩
    obtain ⟨h0, o, ho, hall⟩ := mem_ready.1 hi
    have hl := left_set (Array.getElem?_eq_some_iff.1 ho).1 h0
    exact wpOpIn_mono (fun a' w' h => wpAnyIn_inv I hstep hdone fuel _ a' w' (by omega) h) (hstep _ _ _ hI i o ho h0 hall)
/-- the beginning -/
theorem wpIn_region_inv {id : Nat} {a : Act} {w : World} (I : Array Bool → Act → World → Prop) (hm : P.follows .mixedOrders = true)
    (h0 : I (Array.replicate ops.size false) a w.drew)
    (hstep : ∀ listed a w, I listed a w → ∀ i o, ops[i]? = some o → listed.getD i true = false → (∀ e ∈ o.after, Region.binds .any e = true → listed.getD e.on false = true) → wpOpIn F n P ops Q i (fun a' w' => I (listed.setIfInBounds i true) a' w') a w)
    (hdone : ∀ listed a w, I listed a w → Region.ready .any ops listed = [] → Q .normal a w) : (Code.region id ops true).wpIn F n P Q a w := by
  refine wpIn_region_any hm (wpAnyIn_inv I hstep hdone _ _ _ _ ?_ h0)
  have := List.countP_le_length (p := fun j => !(Array.replicate ops.size false).getD j true) (l := List.range ops.size)
  simpa [left] using this
end
end Go.Proofs.YtancflpioigjbaaGreatDoor
/- A region that draws its order, inside a fence: each operation has a fact of its own value, which stands while the others come up; with one new box, or with one store into a box. No program in sight; each theorem names its conditions. -/
namespace Go.Proofs.YtancflpioigjbaaGreatDoor
open Go Go.RowKit
set_option linter.unusedVariables false

section
variable {F : Fence} {n : Nat} {P : Program} {ops : Array Oper} {Q : Exit → Act → World → Prop} {T0 : Array Value} {S : Array Bool → Nat → Value → World → Prop} {R : Array Bool → World → Prop}
/-- **the rule, in full, inside a fence**: S may speak of what has come up -/
theorem wpIn_region_full {id : Nat} {w : World} (hm : P.follows .mixedOrders = true) (hsl : slotsB ops T0.size = true) (hbk : backR ops = true)
    (h0 : R (Array.replicate ops.size false) w.drew)
    (hstep : ∀ i o, ops[i]? = some o → ∀ listed a w, RSt ops T0 S R listed a w → listed.getD i false = false → (∀ e ∈ o.after, Region.binds .any e = true → listed.getD e.on false = true) →
      ∀ K : Act → World → Prop, (∀ v w', S (listed.setIfInBounds i true) i (gives o.dst v) w' → R (listed.setIfInBounds i true) w' →
        (∀ j, j ≠ i → listed.getD j false = true → S listed j (inSlot a (dstOf ops j)) w → S (listed.setIfInBounds i true) j (inSlot a (dstOf ops j)) w') → K (a.put o.dst v) w') → wpOpIn F n P ops Q i K a w)
    (hdone : ∀ (s : Nat → Value) listed w, (∀ j, j < ops.size → listed.getD j false = true) → (∀ j, j < ops.size → S listed j (match dstOf ops j with | some d => s d | none => undef) w) → R listed w → Q .normal { tmps := fill ops s ops.size T0, defers := [] } w) :
    (Code.region id ops true).wpIn F n P Q { tmps := T0, defers := [] } w := by
  refine wpIn_region_inv (RSt ops T0 S R) hm ?_ ?_ ?_
  · exact ⟨by simp, rfl, rfl, fun _ _ => rfl, fun j hj => (by rw [getD_falses] at hj; cases hj), h0, fun j o _ hj => by rw [getD_falses] at hj; cases hj⟩
  · intro listed a w hI i o ho hun hall
    have hun' : listed.getD i false = false := getD_none hun
    have hio : i < ops.size := (Array.getElem?_eq_some_iff.1 ho).1
    have hdo : dstOf ops i = o.dst := by simp [dstOf, ho]
    refine hstep i o ho listed a w hI hun' hall _ fun v w' hS hR hkeep => ?_
    refine ⟨by simpa using hI.lsize, by rw [put_size]; exact hI.size, by rw [put_defers]; exact hI.defers, fun t ht => ?_, fun j hj => ?_, hR, fun j oj hoj hj e he hb => ?_⟩
    · have hne : o.dst ≠ some t := fun e => by
        have := ht i (hdo.trans e)
        simp [hI.lsize, hio] at this
      have hb := hI.base t (fun j hj => by
        by_cases hji : j = i
        · subst hji; exact hun'
        · have := ht j hj
          rwa [getD_set_ne false (Ne.symm hji)] at this)
      cases hd : o.dst with
      | none => simpa [Act.put] using hb
      | some d =>
        show (a.tmps.setIfInBounds d v).getD t undef = _
        rw [getD_set, if_neg (fun h => hne (by rw [hd, h.1]))]
        exact hb
    · by_cases hji : j = i
      · subst hji
        have e : inSlot (a.put o.dst v) (dstOf ops j) = gives o.dst v := by
          rw [hdo]
          cases hd : o.dst with
          | none => rfl
          | some d =>
            show (a.tmps.setIfInBounds d v).getD d undef = v
            rw [getD_set, if_pos ⟨rfl, by rw [hI.size]; exact slots_lt hsl (hdo.trans hd)⟩]
        rw [e]; exact hS
      · have hj' : listed.getD j false = true := by rwa [getD_set_ne false (Ne.symm hji)] at hj
        have e : inSlot (a.put o.dst v) (dstOf ops j) = inSlot a (dstOf ops j) := by
          cases hdj : dstOf ops j with
          | none => rfl
          | some c =>
            cases hd : o.dst with
            | none => rfl
            | some d =>
              show (a.tmps.setIfInBounds d v).getD c undef = _
              rw [getD_set, if_neg (fun h => hji (slots_ne hsl hdj (by rw [hdo, hd, h.1])))]
              rfl
        rw [e]
        exact hkeep j hji hj' (hI.vals j hj')
    · by_cases hji : j = i
      · subst hji
        rw [ho] at hoj
        obtain rfl := Option.some.inj hoj
        exact getD_set_true (hall e he hb)
      · have hj' : listed.getD j false = true := by rwa [getD_set_ne false (Ne.symm hji)] at hj
        exact getD_set_true (hI.closed j oj hoj hj' e he hb)
  · intro listed a w hI hr
    have hup : ∀ j, j < ops.size → listed.getD j false = true := fun j hj => by
      have := all_up hI.lsize (fun j o ho e he hb => by
        have h1 := List.all_eq_true.1 hbk j (by simpa using (Array.getElem?_eq_some_iff.1 ho).1)
        rw [ho] at h1
        have h2 := Array.all_eq_true'.1 (show (o.after.all fun e => !Region.binds .any e || decide (e.on < j)) = true from h1) e he
        rw [hb] at h2
        simpa using h2) hr j hj
      have hs : j < listed.size := by rw [hI.lsize]; exact hj
      simpa [hs] using this
    have hT : a.tmps = fill ops (fun d => a.tmps.getD d undef) ops.size T0 := by
      refine arr_ext (by rw [fill_size]; exact hI.size) fun t => ?_
      rw [fill_get ops _ T0 (fun j d h => slots_lt hsl h) t]
      split
      · rfl
      · rename_i hno
        exact hI.base t fun j hj => absurd ⟨j, dstOf_lt hj, hj⟩ hno
    have ha : a = { tmps := fill ops (fun d => a.tmps.getD d undef) ops.size T0, defers := [] } := by
      obtain ⟨tm, df⟩ := a
      have hd : df = [] := hI.defers
      subst hd
      rw [← hT]
    rw [ha]
    refine hdone _ listed w hup (fun j hj => ?_) hI.glob
    have := hI.vals j (hup j hj)
    cases hd : dstOf ops j with
    | none => rw [hd] at this; exact this
    | some d => rw [hd] at this; exact this
end
section
variable {F : Fence} {n : Nat} {P : Program} {ops : Array Oper} {Q : Exit → Act → World → Prop} {T0 : Array Value} {S : Nat → Value → World → Prop}
/-- **the rule inside a fence, where each fact stands while the world grows** -/
theorem wpIn_region_vals {id : Nat} {w : World} (hm : P.follows .mixedOrders = true) (S : Nat → Value → World → Prop) (b : Nat → Bool) (hov : overB ops T0.size b = true) (hsl : slotsB ops T0.size = true) (hbk : backR ops = true)
    (hup : ∀ j v w w', Below w.heap.size w w' → S j v w → S j v w')
    (hstep : ∀ i, i < ops.size → ∀ o listed a w', RAt ops T0 S w i o listed a w' →
      ∀ K : Act → World → Prop, (∀ v w'', S i (gives o.dst v) w'' → Below w'.heap.size w' w'' → K (a.put o.dst v) w'') → wpOpIn F n P ops Q i K a w')
    (hdone : ∀ (s : Nat → Value) w', (∀ j, j < ops.size → S j (match dstOf ops j with | some d => s d | none => undef) w') → Below w.heap.size w w' → Q .normal { tmps := (over b s 0 T0.toList).toArray, defers := [] } w') :
    (Code.region id ops true).wpIn F n P Q { tmps := T0, defers := [] } w := by
  refine wpIn_region_full (S := fun _ => S) (R := fun _ w' => Below w.heap.size w w') hm hsl hbk (Below.refl _ _).drew ?_ ?_
  · intro i o ho listed a w' hI hun hall K hK
    refine hstep i (Array.getElem?_eq_some_iff.1 ho).1 o listed a w' ⟨ho, hall, fun t ht => hI.base t (fun j hj => absurd hj (free_ne ht)), hI.vals, hI.glob, hun, hI.closed, hI.base⟩ K fun v w'' h1 h2 => hK v w'' h1 (hI.glob.trans (h2.mono hI.glob.size)) fun j _ _ hS => hup j _ w' w'' h2 hS
  · intro s listed w' _ hS hR
    rw [fill_over hsl hov]
    exact hdone s w' hS hR
/-- what stands where operation i comes up, in a region with one store into a box -/
structure QAt (ops : Array Oper) (T0 : Array Value) (S : Nat → Value → World → Prop) (b0 sj : Nat) (w0 : World) (i : Nat) (o : Oper) (listed : Array Bool) (a : Act) (w : World) : Prop where
  at_ : ops[i]? = some o
  ups : ∀ e ∈ o.after, Region.binds .any e = true → listed.getD e.on false = true
  base : ∀ t, freeB ops t = true → a.tmps.getD t undef = T0.getD t undef
  vals : ∀ j, listed.getD j false = true → S j (inSlot a (dstOf ops j)) w
  fr : Fr (fun b => b = b0) w0 w
  un : listed.getD i false = false
  closed : ∀ j o, ops[j]? = some o → listed.getD j false = true → ∀ e ∈ o.after, Region.binds .any e = true → listed.getD e.on false = true
  pre : listed.getD sj false = false → Below w0.heap.size w0 w
theorem QAt.dep {b0 sj : Nat} {w0 : World} {i : Nat} {o : Oper} {listed : Array Bool} {a : Act} {w : World} (h : QAt ops T0 S b0 sj w0 i o listed a w) (e : Edge) (he : e ∈ o.after) (hb : Region.binds .any e = true) : S e.on (inSlot a (dstOf ops e.on)) w := h.vals e.on (h.ups e he hb)
/-- an operation for which operation j waits, on a way of edges to the store -/
theorem QAt.not_up {b0 sj : Nat} {w0 : World} {i j k : Nat} {o ok : Oper} {listed : Array Bool} {a : Act} {w : World} (h : QAt ops T0 S b0 sj w0 i o listed a w) (hk : ops[k]? = some ok) (e : Edge) (he : e ∈ ok.after) (hb : Region.binds .any e = true) (hj : listed.getD j false = false) (hi : e.on = j) : listed.getD k false = false := by
  cases hl : listed.getD k false
  · rfl
  · have := h.closed k ok hk hl e he hb
    rw [hi, hj] at this; cases this
/-- **the rule inside a fence, with one store into the box b0** -/
theorem wpIn_region_put {id : Nat} {w : World} (hm : P.follows .mixedOrders = true) (S : Nat → Value → World → Prop) (U : Value → World → Prop) (b0 sj : Nat) (z : Value) (t : TypeId) (b : Nat → Bool) (hov : overB ops T0.size b = true) (hsl : slotsB ops T0.size = true) (hbk : backR ops = true) (hsj : sj < ops.size)
    (hz : w.heap[b0]? = some (.cells #[z] t (0, 0)))
    (hup : ∀ j v w w', Below w.heap.size w w' → S j v w → S j v w') (hupU : ∀ v w w', Below w.heap.size w w' → U v w → U v w')
    (hbox : ∀ j v w u, w.heap[b0]? = some (.cells #[z] t (0, 0)) → S j v w → S j v (w.setCell ⟨b0, 0, none⟩ u)) (hboxU : ∀ v w u, w.heap[b0]? = some (.cells #[z] t (0, 0)) → U v w → U v (w.setCell ⟨b0, 0, none⟩ u))
    (hstep : ∀ i, i < ops.size → i ≠ sj → ∀ o listed a w', QAt ops T0 S b0 sj w i o listed a w' →
      ∀ K : Act → World → Prop, (∀ v w'', S i (gives o.dst v) w'' → Below w'.heap.size w' w'' → K (a.put o.dst v) w'') → wpOpIn F n P ops Q i K a w')
    (hstore : ∀ o listed a w', QAt ops T0 S b0 sj w sj o listed a w' → w'.heap[b0]? = some (.cells #[z] t (0, 0)) →
      ∀ K : Act → World → Prop, (∀ u, U u w' → K (a.put o.dst undef) (w'.setCell ⟨b0, 0, none⟩ u)) → wpOpIn F n P ops Q sj K a w')
    (hSs : ∀ v w', S sj (gives (dstOf ops sj) v) w')
    (hdone : ∀ (s : Nat → Value) u w', (∀ j, j < ops.size → S j (match dstOf ops j with | some d => s d | none => undef) w') → Fr (fun b => b = b0) w w' → w'.heap[b0]? = some (.cells #[u] t (0, 0)) → U u w' → Q .normal { tmps := (over b s 0 T0.toList).toArray, defers := [] } w') :
    (Code.region id ops true).wpIn F n P Q { tmps := T0, defers := [] } w := by
  have hb0 : b0 < w.heap.size := (Array.getElem?_eq_some_iff.1 hz).1
  refine wpIn_region_full (S := fun _ => S) (R := fun listed w' => Fr (fun b => b = b0) w w' ∧ (listed.getD sj false = false → Below w.heap.size w w') ∧ (listed.getD sj false = true → ∃ u, w'.heap[b0]? = some (.cells #[u] t (0, 0)) ∧ U u w')) hm hsl hbk ⟨(Fr.refl _ _).drew, fun _ => (Below.refl _ _).drew, fun h => by rw [getD_falses] at h; cases h⟩ ?_ ?_
  · intro i o ho listed a w' hI hun hall K hK
    have hio : i < ops.size := (Array.getElem?_eq_some_iff.1 ho).1
    have hA : QAt ops T0 S b0 sj w i o listed a w' := ⟨ho, hall, fun t ht => hI.base t (fun j hj => absurd hj (free_ne ht)), hI.vals, hI.glob.1, hun, hI.closed, hI.glob.2.1⟩
    by_cases his : i = sj
    · subst his
      have hbl := hI.glob.2.1 hun
      have hzw : w'.heap[b0]? = some (.cells #[z] t (0, 0)) := (hbl.block b0 hb0).trans hz
      refine hstore o listed a w' hA hzw K fun u hU => hK undef _ ?_ ⟨hI.glob.1.setCell (.inl rfl) u, fun h => ?_, fun _ => ⟨u, box_set hzw u, hboxU u w' u hzw hU⟩⟩ fun j _ _ hS => hbox j _ w' u hzw hS
      · have hdo : dstOf ops i = o.dst := by simp [dstOf, ho]
        rw [← hdo]; exact hSs _ _
      · simp [hI.lsize, hio] at h
    · refine hstep i hio his o listed a w' hA K fun v w'' h1 h2 => hK v w'' h1 ⟨hI.glob.1.trans (Fr.of_new h2 _), fun h => ?_, fun h => ?_⟩ fun j _ _ hS => hup j _ w' w'' h2 hS
      · rw [getD_set_ne false his] at h
        exact (hI.glob.2.1 h).trans (h2.mono hI.glob.1.size)
      · rw [getD_set_ne false his] at h
        obtain ⟨u, hu, hU⟩ := hI.glob.2.2 h
        exact ⟨u, block_new h2 hu, hupU u w' w'' h2 hU⟩
  · intro s listed w' hl hS hR
    rw [fill_over hsl hov]
    obtain ⟨u, hu, hU⟩ := hR.2.2 (hl sj hsj)
    exact hdone s u w' hS hR.1 hu hU
/-- **the rule inside a fence, with one new box, that is stored into** -/
theorem wpIn_region_box {id : Nat} {w : World} (hm : P.follows .mixedOrders = true) (S : Nat → Value → World → Prop) (U : Value → World → Prop) (aj sj : Nat) (z : Value) (t : TypeId) (b : Nat → Bool) (hov : overB ops T0.size b = true) (hsl : slotsB ops T0.size = true) (hbk : backR ops = true) (hsj : sj < ops.size) (haj : aj < ops.size) (hne : aj ≠ sj)
    (da : Nat) (hda : dstOf ops aj = some da) (hds : dstOf ops sj = none) (hsa : ∀ o, ops[sj]? = some o → ∃ e ∈ o.after, e.on = aj ∧ Region.binds .any e = true)
    (hup : ∀ j v w w', Below w.heap.size w w' → S j v w → S j v w') (hupU : ∀ v w w', Below w.heap.size w w' → U v w → U v w')
    (hbox : ∀ b0 j v w u, w.heap[b0]? = some (.cells #[z] t (0, 0)) → S j v w → S j v (w.setCell ⟨b0, 0, none⟩ u)) (hboxU : ∀ b0 v w u, w.heap[b0]? = some (.cells #[z] t (0, 0)) → U v w → U v (w.setCell ⟨b0, 0, none⟩ u))
    (hstep : ∀ i, i < ops.size → i ≠ sj → i ≠ aj → ∀ o listed a w', RAt ops T0 (fun j v w => j ≠ aj → S j v w) w i o listed a w' →
      ∀ K : Act → World → Prop, (∀ v w'', S i (gives o.dst v) w'' → Below w'.heap.size w' w'' → K (a.put o.dst v) w'') → wpOpIn F n P ops Q i K a w')
    (halloc : ∀ o listed a w', RAt ops T0 (fun j v w => j ≠ aj → S j v w) w aj o listed a w' → ∀ K : Act → World → Prop, K (a.put o.dst (.pointer (some ⟨w'.heap.size, 0, none⟩))) (w'.alloc (.cells #[z] t)) → wpOpIn F n P ops Q aj K a w')
    (hstore : ∀ b0 o listed a w', RAt ops T0 (fun j v w => j ≠ aj → S j v w) w sj o listed a w' → a.tmps.getD da undef = .pointer (some ⟨b0, 0, none⟩) → w'.heap[b0]? = some (.cells #[z] t (0, 0)) →
      ∀ K : Act → World → Prop, (∀ u, U u w' → K (a.put o.dst undef) (w'.setCell ⟨b0, 0, none⟩ u)) → wpOpIn F n P ops Q sj K a w')
    (hSs : ∀ v w', S sj v w')
    (hdone : ∀ (s : Nat → Value) b0 u w', (∀ j, j < ops.size → j ≠ aj → S j (match dstOf ops j with | some d => s d | none => undef) w') → Below w.heap.size w w' → w.heap.size ≤ b0 → s da = .pointer (some ⟨b0, 0, none⟩) → w'.heap[b0]? = some (.cells #[u] t (0, 0)) → U u w' → Q .normal { tmps := (over b s 0 T0.toList).toArray, defers := [] } w') :
    (Code.region id ops true).wpIn F n P Q { tmps := T0, defers := [] } w := by
  refine wpIn_region_full (S := fun listed j v w' => (j ≠ aj → S j v w') ∧ (j = aj → ∃ b0, w.heap.size ≤ b0 ∧ v = .pointer (some ⟨b0, 0, none⟩) ∧ (listed.getD sj false = false → w'.heap[b0]? = some (.cells #[z] t (0, 0))) ∧ (listed.getD sj false = true → ∃ u, w'.heap[b0]? = some (.cells #[u] t (0, 0)) ∧ U u w')))
    (R := fun listed w' => Below w.heap.size w w') hm hsl hbk (Below.refl _ _).drew ?_ ?_
  · intro i o ho listed a w' hI hun hall K hK
    have hio : i < ops.size := (Array.getElem?_eq_some_iff.1 ho).1
    have hA : RAt ops T0 (fun j v w => j ≠ aj → S j v w) w i o listed a w' := ⟨ho, hall, fun t ht => hI.base t (fun j hj => absurd hj (free_ne ht)), fun j hj => (hI.vals j hj).1, hI.glob, hun, hI.closed, hI.base⟩
    have hdo : dstOf ops i = o.dst := by simp [dstOf, ho]
    by_cases hia : i = aj
    · subst hia
      refine halloc o listed a w' hA K (hK _ _ ⟨fun h => absurd rfl h, fun _ => ⟨w'.heap.size, hI.glob.size, ?_, fun _ => heap_alloc_new w' _, fun h => ?_⟩⟩ (hI.glob.trans (((Below.refl _ w').alloc (Nat.le_refl _) _).mono hI.glob.size)) fun j hj _ hS => ⟨fun h => hup j _ w' _ ((Below.refl _ w').alloc (Nat.le_refl _) _) (hS.1 h), fun h => absurd h hj⟩)
      · rw [← hdo, hda]; rfl
      · rw [getD_set_ne false hne] at h
        have hso : ops[sj]? = some ops[sj] := by simp [hsj]
        obtain ⟨e, he, h1, h2⟩ := hsa _ hso
        have := hI.closed sj _ hso h e he h2
        rw [h1, hun] at this; cases this
    · by_cases his : i = sj
      · subst his
        obtain ⟨e, he, h1, h2⟩ := hsa o ho
        have hl : listed.getD aj false = true := by have := hall e he h2; rwa [h1] at this
        obtain ⟨b0, hb0, hv, hz, -⟩ := (hI.vals aj hl).2 rfl
        have hzw := hz hun
        rw [hda] at hv
        refine hstore b0 o listed a w' hA hv hzw K fun u hU => hK undef _ ⟨fun _ => hSs _ _, fun h => absurd h.symm hne⟩ (hI.glob.setCell hb0 u) fun j hj hlj hS => ⟨fun h => hbox b0 j _ w' u hzw (hS.1 h), fun h => ?_⟩
        obtain ⟨b1, hb1, hv1, hz1, -⟩ := hS.2 h
        subst h
        have hbe : b1 = b0 := by
          rw [hda, hv] at hv1; injection hv1 with hv1; injection hv1 with hv1; injection hv1 with hv1; exact hv1.symm
        subst hbe
        exact ⟨b1, hb1, hv1, fun h => by simp [hI.lsize, hio] at h, fun _ => ⟨u, box_set hzw u, hboxU _ u w' u hzw hU⟩⟩
      · refine hstep i hio his hia o listed a w' hA K fun v w'' h1 h2 => hK v w'' ⟨fun _ => h1, fun h => absurd h hia⟩ (hI.glob.trans (h2.mono hI.glob.size)) fun j _ _ hS => ⟨fun h => hup j _ w' w'' h2 (hS.1 h), fun h => ?_⟩
        obtain ⟨b1, hb1, hv1, hz1, hu1⟩ := hS.2 h
        refine ⟨b1, hb1, hv1, fun h => ?_, fun h => ?_⟩
        · rw [getD_set_ne false his] at h
          exact block_new h2 (hz1 h)
        · rw [getD_set_ne false his] at h
          obtain ⟨u, hu, hU⟩ := hu1 h
          exact ⟨u, block_new h2 hu, hupU u w' w'' h2 hU⟩
  · intro s listed w' hl hS hR
    rw [fill_over hsl hov]
    obtain ⟨b0, hb0, hv, -, hu⟩ := (hS aj haj).2 rfl
    obtain ⟨u, hu, hU⟩ := hu (hl sj hsj)
    rw [hda] at hv
    exact hdone s b0 u w' (fun j hj hja => (hS j hj).1 hja) hR hb0 hv hu hU
end
/-- operations without a guard, with one -/
theorem plain_stepI {F : Fence} {n : Nat} {P : Program} {ops : Array Oper} {Q : Exit → Act → World → Prop} {i : Nat} {o : Oper} {K : Act → World → Prop} {a : Act} {w : World} (ho : ops[i]? = some o) (hg : o.guard = none) (h : Oper.wpIn F n P o a w K Q) : wpOpIn F n P ops Q i K a w := by
  unfold wpOpIn; rw [ho]
  have hw : Region.wanted o (yielded ops a.tmps) = true := by simp [Region.wanted, hg]
  show if Region.wanted o (yielded ops a.tmps) = true then _ else _
  rw [if_pos hw]; exact h
end Go.Proofs.YtancflpioigjbaaGreatDoor
/- A region that draws its order, in which one operation waits for all others, and one more behind it takes its value. No program in sight; each theorem names its conditions. -/
namespace Go.Proofs.YtancflpioigjbaaGreatDoor
open Go Go.RowKit
set_option linter.unusedVariables false
/-- for each operation ahead of L there is a later one, not behind L, that waits for it -/
def needB (ops : Array Oper) (L : Nat) : Bool := (List.range L).all fun j => (List.range (L + 1)).any fun k => decide (j < k) && (ops[k]?).any fun o => o.after.any fun e => decide (e.on = j) && Region.binds .any e
theorem need_up {ops : Array Oper} {L : Nat} (h : needB ops L = true) {listed : Array Bool} (hcl : ∀ j o, ops[j]? = some o → listed.getD j false = true → ∀ e ∈ o.after, Region.binds .any e = true → listed.getD e.on false = true)
    (hL : listed.getD L false = true) : ∀ d j, j + d = L → listed.getD j false = true := by
  intro d
  induction d using Nat.strongRecOn with
  | _ d ih =>
    intro j hj
    rcases Nat.eq_zero_or_pos d with rfl | hd
    · rw [show j = L by omega]; exact hL
    · have h1 := List.all_eq_true.1 h j (by simp; omega)
      obtain ⟨k, hk, h2⟩ := List.any_eq_true.1 h1
      simp only [List.mem_range] at hk
      simp only [Bool.and_eq_true, decide_eq_true_eq] at h2
      obtain ⟨hjk, h3⟩ := h2
      cases ho : ops[k]? with
      | none => rw [ho] at h3; simp at h3
      | some o =>
        rw [ho] at h3
        obtain ⟨e, he, h4⟩ := Array.any_eq_true'.1 (show (o.after.any fun e => decide (e.on = j) && Region.binds .any e) = true from h3)
        simp only [Bool.and_eq_true, decide_eq_true_eq] at h4
        have := hcl k o ho (ih (L - k) (by omega) k (by omega)) e he h4.2
        rwa [h4.1] at this
section
variable {P : Program} {ops : Array Oper} {Q : Exit → Act → World → Prop} {T0 : Array Value}
theorem wp_region_last {id : Nat} {w : World} (hm : P.follows .mixedOrders = true) (S : Nat → Value → World → Prop) (U : Value → World → Prop) (L : Nat) (b : Nat → Bool) (hov : overB ops T0.size b = true) (hsl : slotsB ops T0.size = true) (hbk : backR ops = true)
    (hneed : needB ops L = true) (hnext : needB ops (L + 1) = true) (hsz : ops.size = L + 2)
    (hup : ∀ j v w w', Below w.heap.size w w' → S j v w → S j v w')
    (hstep : ∀ i, i < L → ∀ o listed a w', RAt ops T0 (fun j v w => j < L → S j v w) w i o listed a w' →
      ∀ K : Act → World → Prop, (∀ v w'', S i (gives o.dst v) w'' → Below w'.heap.size w' w'' → K (a.put o.dst v) w'') → wpOp P ops Q i K a w')
    (hlast : ∀ o a w', ops[L]? = some o → (∀ j, j < L → S j (inSlot a (dstOf ops j)) w') → Below w.heap.size w w' → (∀ t, freeB ops t = true → a.tmps.getD t undef = T0.getD t undef) →
      ∀ K : Act → World → Prop, (∀ v w'', U (gives o.dst v) w'' → K (a.put o.dst v) w'') → wpOp P ops Q L K a w')
    (hthen : ∀ o a w', ops[L + 1]? = some o → U (inSlot a (dstOf ops L)) w' → ∀ K : Act → World → Prop, (∀ v, U (gives o.dst v) w' → K (a.put o.dst v) w') → wpOp P ops Q (L + 1) K a w')
    (hdone : ∀ (s : Nat → Value) w', U (match dstOf ops L with | some d => s d | none => undef) w' → U (match dstOf ops (L + 1) with | some d => s d | none => undef) w' → Q .normal { tmps := (over b s 0 T0.toList).toArray, defers := [] } w') :
    (Code.region id ops true).wp P Q { tmps := T0, defers := [] } w := by
  refine wp_region_full (S := fun listed j v w' => (j < L → listed.getD L false = false → S j v w') ∧ (L ≤ j → U v w')) (R := fun listed w' => listed.getD L false = false → Below w.heap.size w w') hm hsl hbk (fun _ => (Below.refl _ _).drew) ?_ ?_
  · intro i o ho listed a w' hI hun hall K hK
    have hio : i < ops.size := (Array.getElem?_eq_some_iff.1 ho).1
    have hdo : dstOf ops i = o.dst := by simp [dstOf, ho]
    have hback : ∀ j, listed.getD (L + 1) false = true → j ≤ L + 1 → listed.getD j false = true := fun j h hj => need_up hnext hI.closed h (L + 1 - j) j (by omega)
    rcases Nat.lt_trichotomy i L with hiL | hiL | hiL
    · have hLu : listed.getD L false = false := by
        cases h : listed.getD L false
        · rfl
        · have := need_up hneed hI.closed h (L - i) i (by omega)
          rw [hun] at this; cases this
      have hLu' : (listed.setIfInBounds i true).getD L false = false := by rw [getD_set_ne false (by omega)]; exact hLu
      refine hstep i hiL o listed a w' ⟨ho, hall, fun t ht => hI.base t (fun j hj => absurd hj (free_ne ht)), fun j hj hjL => (hI.vals j hj).1 hjL hLu, hI.glob hLu, hun, hI.closed, hI.base⟩ K fun v w'' h1 h2 => hK v w'' ⟨fun _ _ => h1, fun h => by omega⟩ (fun _ => (hI.glob hLu).trans (h2.mono (hI.glob hLu).size)) fun j u hji hj hS => ⟨fun hjL _ => hup j u w' w'' h2 (hS.1 hjL hLu), fun hjL => ?_⟩
      exfalso
      have hj2 : j = L ∨ j = L + 1 := by
        have : j < ops.size := by
          rcases Nat.lt_or_ge j listed.size with h' | h'
          · rw [hI.lsize] at h'; exact h'
          · simp [Array.getElem?_eq_none h'] at hj
        omega
      rcases hj2 with rfl | rfl
      · rw [hLu] at hj; cases hj
      · have := hback L hj (by omega); rw [hLu] at this; cases this
    · subst hiL
      have hall' : ∀ j, j < i → listed.getD j false = true := by
        intro j hj
        -- op i waits, through later ones, for all
        have hl2 : ∀ d j, j + d = i → j < i → listed.getD j false = true := by
          intro d
          induction d using Nat.strongRecOn with
          | _ d ih =>
            intro j hjd hji
            have h1 := List.all_eq_true.1 hneed j (by simp; omega)
            obtain ⟨k, hk, h2⟩ := List.any_eq_true.1 h1
            simp only [List.mem_range] at hk
            simp only [Bool.and_eq_true, decide_eq_true_eq] at h2
            obtain ⟨hjk, h3⟩ := h2
            cases hok : ops[k]? with
            | none => rw [hok] at h3; simp at h3
            | some ok =>
              rw [hok] at h3
              obtain ⟨e, he, h4⟩ := Array.any_eq_true'.1 (show (ok.after.any fun e => decide (e.on = j) && Region.binds .any e) = true from h3)
              simp only [Bool.and_eq_true, decide_eq_true_eq] at h4
              rcases (by omega : k = i ∨ k < i) with rfl | hki
              · rw [ho] at hok
                obtain rfl := Option.some.inj hok
                have := hall e he h4.2
                rwa [h4.1] at this
              · have := hI.closed k ok hok (ih (i - k) (by omega) k (by omega) hki) e he h4.2
                rwa [h4.1] at this
        exact hl2 (i - j) j (by omega) hj
      refine hlast o a w' ho (fun j hj => (hI.vals j (hall' j hj)).1 hj hun) (hI.glob hun) (fun t ht => hI.base t (fun j hj => absurd hj (free_ne ht))) K fun v w'' hU => hK v w'' ⟨fun h => by omega, fun _ => hU⟩ (fun h => ?_) fun j u hji hj hS => ⟨fun hjL h => ?_, fun hjL => ?_⟩
      · simp [hI.lsize, hio] at h
      · simp [hI.lsize, hio] at h
      · exfalso
        have : j < ops.size := by
          rcases Nat.lt_or_ge j listed.size with h' | h'
          · rw [hI.lsize] at h'; exact h'
          · simp [Array.getElem?_eq_none h'] at hj
        have hj1 : j = i + 1 := by omega
        subst hj1
        have := hback i hj (by omega); rw [hun] at this; cases this
    · have hi1 : i = L + 1 := by omega
      subst hi1
      have hLl : listed.getD L false = true := by
        have h1 := List.all_eq_true.1 hnext L (by simp)
        obtain ⟨k, hk, h2⟩ := List.any_eq_true.1 h1
        simp only [List.mem_range] at hk
        simp only [Bool.and_eq_true, decide_eq_true_eq] at h2
        obtain ⟨hjk, h3⟩ := h2
        have hk1 : k = L + 1 := by omega
        subst hk1
        rw [ho] at h3
        obtain ⟨e, he, h4⟩ := Array.any_eq_true'.1 (show (o.after.any fun e => decide (e.on = L) && Region.binds .any e) = true from h3)
        simp only [Bool.and_eq_true, decide_eq_true_eq] at h4
        have := hall e he h4.2
        rwa [h4.1] at this
      have hLl' : (listed.setIfInBounds (L + 1) true).getD L false = true := by rw [getD_set_ne false (by omega)]; exact hLl
      refine hthen o a w' ho ((hI.vals L hLl).2 (Nat.le_refl _)) K fun v hU => hK v w' ⟨fun h => by omega, fun _ => hU⟩ (fun h => by rw [hLl'] at h; cases h) fun j u hji hj hS => ⟨fun hjL h => (by rw [hLl'] at h; cases h), hS.2⟩
  · intro s listed w' hl hS hR
    rw [fill_over hsl hov]
    exact hdone s w' ((hS L (by omega)).2 (Nat.le_refl _)) ((hS (L + 1) (by omega)).2 (by omega))
end
end Go.Proofs.YtancflpioigjbaaGreatDoor
/- The law of a range over a function that changes nothing itself, with no way out of the body but its end. No program in sight; each theorem names its conditions. -/
namespace Go.Proofs.YtancflpioigjbaaGreatDoor
open Go.RowKit
set_option linter.unusedVariables false

/-- **the contract of an iterator value that hands out just xs, and changes nothing itself**; it reads what keep says -/
def IterP {α : Type} (P : Program) (gf : Nat) (lb : Array Value) (encs : α → Array Value) (xs : List α) (keep : World → Prop) : Prop :=
  ∀ (l : Nat) (J : List α → World → Prop) (W : World), (∀ pre A, J pre A → keep A) →
    (∀ pre x rest W1, xs = pre ++ x :: rest → J pre W1 → YieldAt Fence.wide 0 P l (encs x) W1 fun e W' => e = .returned (.bool true) ∧ J (pre ++ [x]) W') →
    J [] W →
    CallsIn Fence.wide 0 P gf (#[.func (.yield l) #[] #[]] ++ lb) W fun e W' => (∃ v, e = .returned v) ∧ J xs W'

variable {P : Program}
/-- **the statement 'for x := range seq { body }', where the iterator has such a contract** -/
theorem wp_rangeP {α : Type} {g : Operand} {ps : Array Tmp} {assign body : Code} {Q : Exit → Act → World → Prop} {a : Act} {w : World}
    {gf : Nat} {lb : Array Value} {encs : α → Array Value} {xs : List α} {keep : World → Prop}
    (hg : a.eval g = .func (.func gf) #[] lb) (eg : Enters P gf) (hiter : IterP P gf lb encs xs keep) (hps : ∀ x, (encs x).size = ps.size)
    (I : List α → World → Prop) (hI : ∀ pre A B, Below A.heap.size A B → I pre A → I pre B)
    (hIl : ∀ pre A L L', A.heap[w.heap.size + 1]? = some (.loop L) → I pre A → I pre (A.putObj (w.heap.size + 1) (.loop L')))
    (hkeep : ∀ pre A, I pre A → keep A) (h0 : I [] w)
    (hround : ∀ (l : Nat) (pre : List α) (x : α) (rest : List α) (W : World), xs = pre ++ x :: rest → I pre W →
      assign.wpIn (Fence.wide.inRound l) 0 P (Exit.then (fun a' Wa => W = Wa ∧ ∀ W', w.heap.size + 2 ≤ W'.heap.size → I pre W' →
        body.wpIn (Fence.wide.inRound l) 0 P (fun e _ W3 => e = .normal ∧ I (pre ++ [x]) W3 ∧ W3.heap[w.heap.size]? = W'.heap[w.heap.size]? ∧ W3.heap[w.heap.size + 1]? = W'.heap[w.heap.size + 1]?) a' W') (fun _ _ _ => False))
        { tmps := (ps.zip (encs x)).foldl (fun t (p, v) => t.setIfInBounds p v) a.tmps, defers := [] } W)
    (hdone : ∀ (W : World), I xs W → w.heap.size + 2 ≤ W.heap.size → W.heap[w.heap.size]? = some (.deferred (some [])) →
      Q .normal { a with defers := { target := .collected w.heap.size, args := #[] } :: a.defers } W) :
    (Code.rangeFunc g ps assign body).wpIn Fence.wide 0 P Q a w := by
  obtain ⟨D, hD⟩ : ∃ D, D = w.heap.size := ⟨_, rfl⟩
  obtain ⟨l, hl⟩ : ∃ l, l = w.heap.size + 1 := ⟨_, rfl⟩
  refine wpIn_rangeFunc ?_
  intro fn hfn
  show ∃ l mark w₁ d w₁' f args w₂, (Instr.enterLoop fn a.tmps ps assign body none).run P w = _ ∧ _
  obtain ⟨rc, hrc⟩ : ∃ rc : LoopState → Option Code → Loop, rc = fun st pe => { state := st, pending := pe, fn, tmps := a.tmps, params := ps, assign, body, defers := w.heap.size } := ⟨_, rfl⟩
  obtain ⟨W1, hW1⟩ : ∃ W1, (w.alloc (.deferred (some []))).alloc (.loop (rc .ready none)) = W1 := ⟨_, rfl⟩
  have hL1 : W1.heap[l]? = some (.loop (rc .ready none)) := by
    rw [← hW1, hl]; have := World.alloc_heap_new (w.alloc (.deferred (some []))) (.loop (rc .ready none)); rwa [World.size_alloc] at this
  have hK1 : W1.heap[D]? = some (.deferred (some [])) := by
    rw [← hW1, hD]; exact (Below.heap_alloc _ _ _ (by simp)).trans (World.alloc_heap_new w _)
  have hb1 : Below w.heap.size w W1 := by
    rw [← hW1]; exact ((Below.refl _ w).alloc (Nat.le_refl _) _).alloc (by simp) _
  have hI1 : I [] W1 := hI _ _ _ hb1 h0
  refine ⟨w.heap.size + 1, [{ target := .collected w.heap.size, args := #[] }], W1, { target := .fn (.func gf) lb, args := #[.func (.yield (w.heap.size + 1)) #[] #[]] }, W1, gf,
    #[.func (.yield (w.heap.size + 1)) #[] #[]] ++ lb, W1, ?_, ?_, ?_, ?_, ?_, ?_⟩
  · rw [← hW1, hrc]; exact run_enterLoop_outer _ _ _ _ _
  · simp only [resolve, hg]
    simp [go_sem]
  · intro f' _; trivial
  · have eg' : ∀ args w, (callFunc gf args).run P w = .ok (.enter gf args) w := eg
    simp [invoke, go_sem, eg']
  · intro h; cases h
  · rw [← hl]
    refine (hiter l
      (fun pre W => I pre W ∧ W.heap[l]? = some (.loop (rc .ready none)) ∧ W.heap[D]? = some (.deferred (some []))) W1 (fun pre A h => hkeep _ _ h.1) ?_ ⟨hI1, hL1, hK1⟩).mono ?_
    · -- one round
      rintro pre x rest W hxs ⟨hi, h1, h2⟩
      have hlt : l < W.heap.size := (Array.getElem?_eq_some_iff.1 h1).1
      have hy := run_yield (P := P) (args := encs x) h1 (by rw [hrc]; exact hps x)
      rw [hrc] at hy
      refine ⟨fn, _, assign, body, hy, roundIn_of_wpIn (F := Fence.wide) hfn (wpIn_mono (hround l pre x rest W hxs hi) ?_)⟩
      clear hy
      rintro e a₁ Wa hthen
      cases e with
      | exit id => exact hthen
      | goto t => exact hthen
      | ret => exact hthen
      | panic ch => exact hthen
      | outgrown => exact hthen
      | normal =>
      obtain ⟨rfl, hbody⟩ := hthen
      refine ⟨_, run_beginRound h1 (by rw [hrc]), ?_⟩
      have hl2 : (W.putObj l (.loop { rc .ready none with state := .busy })).heap[l]? = some (.loop { rc .ready none with state := .busy }) := World.putObj_heap_same hlt
      have hk2 : (W.putObj l (.loop { rc .ready none with state := .busy })).heap[D]? = some (.deferred (some [])) := (World.putObj_heap_other (by omega)).trans h2
      have hi2 : I pre (W.putObj l (.loop { rc .ready none with state := .busy })) := by
        have := hIl pre W _ { rc .ready none with state := .busy } (hl ▸ h1) hi
        rwa [← hl] at this
      refine wpIn_mono (hbody _ (by rw [World.putObj_size]; omega) hi2) ?_
      rintro e a3 W3 ⟨rfl, hi3, hd3, hl3⟩
      rw [← hD] at hd3
      rw [← hl] at hl3
      have hl4 := hl3.trans hl2
      have hr := run_endRound (P := P) none hl4
      rw [hrc] at hr
      have hi4 := hIl _ W3 _ (rc .ready none) (hl ▸ hl4) hi3
      rw [← hl] at hi4
      rw [hrc] at hi4 ⊢
      exact ⟨_, _, hr, rfl, hi4, World.putObj_heap_same (Array.getElem?_eq_some_iff.1 hl4).1, (World.putObj_heap_other (by omega)).trans (hd3.trans hk2)⟩
    · -- behind the iterator
      rintro e W2 ⟨⟨v, rfl⟩, hi, h1, h2⟩
      have hlt : l < W2.heap.size := (Array.getElem?_eq_some_iff.1 h1).1
      have hi4 := hIl _ W2 _ (rc .exhausted none) (hl ▸ h1) hi
      rw [← hl] at hi4
      have he := run_endLoop (P := P) h1 (by rw [hrc]; simp)
      rw [hrc] at he
      refine ⟨none, _, he, ?_⟩
      rw [hrc] at hi4
      exact hdone _ hi4 (by rw [World.putObj_size]; omega) (by rw [← hD]; exact (World.putObj_heap_other (by omega)).trans h2)
end Go.Proofs.YtancflpioigjbaaGreatDoor
