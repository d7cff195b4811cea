/- The law of a range over a function that this family uses: the caller gives an invariant over blocks of its own, the iterator may keep state in blocks of its own. No program in sight; each theorem names its conditions. -/
import Derived.RangeFuncNested
import Derived.RangeFuncCalls
import Derived.RangeFuncLeaves
import Derived.Shelf.Abstract
import Derived.Below
namespace Go.Proofs.YtakbkbmjeanboaaGreatDoor
open Go.RowKit
set_option linter.unusedVariables false

/-- from A to B nothing has turned but blocks of m, and what is new -/
structure Fr (m : Nat → Prop) (A B : World) : Prop where
  os : B.os = A.os
  tape : B.tape = A.tape
  output : B.output = A.output
  size : A.heap.size ≤ B.heap.size
  block : ∀ b, b < A.heap.size → ¬ m b → B.heap[b]? = A.heap[b]?

section
variable {m m' : Nat → Prop} {A B C : World}
theorem Fr.refl (m : Nat → Prop) (A : World) : Fr m A A := ⟨rfl, rfl, rfl, Nat.le_refl _, fun _ _ _ => rfl⟩
theorem Fr.trans' (h : Fr m A B) (k : Fr m' B C) (hm : ∀ b, m' b → m b ∨ A.heap.size ≤ b) : Fr m A C :=
  ⟨k.os.trans h.os, k.tape.trans h.tape, k.output.trans h.output, Nat.le_trans h.size k.size, fun b hb hn =>
    (k.block b (Nat.lt_of_lt_of_le hb h.size) (fun hc => (hm b hc).elim hn (fun h' => absurd hb (Nat.not_lt.2 h')))).trans (h.block b hb hn)⟩
theorem Fr.trans (h : Fr m A B) (k : Fr m B C) : Fr m A C := h.trans' k fun _ hb => .inl hb
theorem Fr.mono (h : Fr m A B) (hm : ∀ b, m b → m' b) : Fr m' A B := ⟨h.os, h.tape, h.output, h.size, fun b hb hn => h.block b hb (fun hc => hn (hm b hc))⟩
theorem Fr.monoFrom (h : Fr m A B) (hm : ∀ b, m b → m' b ∨ A.heap.size ≤ b) : Fr m' A B :=
  ⟨h.os, h.tape, h.output, h.size, fun b hb hn => h.block b hb (fun hc => (hm b hc).elim hn (fun h' => absurd hb (Nat.not_lt.2 h')))⟩
theorem Fr.drew (h : Fr m A B) : Fr m A B.drew := ⟨h.os, h.tape, h.output, h.size, h.block⟩
theorem Fr.alloc (h : Fr m A B) (o : Obj) : Fr m A (B.alloc o) :=
  ⟨h.os, h.tape, h.output, Nat.le_trans h.size (by simp), fun b hb hn => (Below.heap_alloc B o b (Nat.lt_of_lt_of_le hb h.size)).trans (h.block b hb hn)⟩
theorem Fr.setCell (h : Fr m A B) {p : Addr} (hp : m p.block ∨ A.heap.size ≤ p.block) (u : Value) : Fr m A (B.setCell p u) :=
  ⟨h.os, h.tape, h.output, by simpa [World.setCell] using h.size, fun b hb hn => (Below.heap_setCell B p u b (by
    rintro rfl
    exact hp.elim hn (fun h' => absurd hb (Nat.not_lt.2 h')))).trans (h.block b hb hn)⟩
theorem Fr.grown (h : Fr m A B) {row : Option Nat} (hg : B.grownBy C row) (hr : ∀ k, row = some k → m k ∨ A.heap.size ≤ k) : Fr m A C :=
  ⟨hg.os.trans h.os, hg.tape.trans h.tape, hg.output.trans h.output, Nat.le_trans h.size hg.size, fun b hb hn =>
    (hg.block b (Nat.lt_of_lt_of_le hb h.size) (fun e => (hr b e.symm).elim hn (fun h' => absurd hb (Nat.not_lt.2 h')))).trans (h.block b hb hn)⟩
theorem Fr.putObj (h : Fr m A B) {l : Nat} (hl : m l ∨ A.heap.size ≤ l) (o : Obj) : Fr m A (B.putObj l o) :=
  h.grown (grownBy_putObj' B l o) fun k e => by cases e; exact hl
theorem Fr.of_below {n : Nat} (h : Below n A B) (hm : ∀ b, n ≤ b → b < A.heap.size → m b) : Fr m A B :=
  ⟨h.os, h.tape, h.output, h.size, fun b hb hn => h.block b (Nat.lt_of_not_le fun hc => hn (hm b hc hb))⟩
theorem Fr.of_new (h : Below A.heap.size A B) (m : Nat → Prop) : Fr m A B := Fr.of_below h fun b h1 h2 => absurd h2 (Nat.not_lt.2 h1)
theorem Fr.below (h : Fr m A B) {n : Nat} (hn : n ≤ A.heap.size) (hm : ∀ b, b < n → ¬ m b) : Below n A B :=
  ⟨h.os, h.tape, h.output, h.size, fun b hb => h.block b (Nat.lt_of_lt_of_le hb hn) (hm b hb)⟩
theorem Fr.cell (h : Fr m A B) {p : Addr} (hp : p.block < A.heap.size) (hn : ¬ m p.block) : B.cell? p = A.cell? p := World.cell?_of_block (w := A) (h.block _ hp hn)
theorem Fr.frozen (h : Fr m A B) {p : Addr} (hp : p.block < A.heap.size) (hn : ¬ m p.block) : B.frozen? p = A.frozen? p := World.frozen?_of_block (w := A) (h.block _ hp hn)
theorem Fr.heap (h : Fr m A B) {b : Nat} {o : Obj} (hb : A.heap[b]? = some o) (hn : ¬ m b) : B.heap[b]? = some o := (h.block b (Array.getElem?_eq_some_iff.1 hb).1 hn).trans hb
end

/-- what is said of a world hangs on the blocks of m alone -/
def Hangs {β : Type} (I : β → (Nat → Prop) → World → Prop) : Prop := ∀ s m A B, I s m A → Fr (fun b => ¬ m b) A B → I s m B

/-- **the contract of an iterator value that hands out just xs** -/
def IterC {α : Type} (P : Program) (gf : Nat) (lb : Array Value) (encs : α → Array Value) (xs : List α) (Bx : Nat → Prop) (w0 : World) : Prop :=
  ∀ (l : Nat) (J : List α → (Nat → Prop) → World → Prop) (Jx : List α → World → Prop) (m0 : Nat → Prop) (W : World),
    Below w0.heap.size w0 W → Hangs J → (∀ pre m A b, J pre m A → m b → b < A.heap.size ∧ ¬ Bx b) →
    (∀ pre x rest m W1, xs = pre ++ x :: rest → J pre m W1 → YieldAt Fence.wide 0 P l (encs x) W1 fun e W' =>
      (e = .returned (.bool true) ∧ ∃ m', J (pre ++ [x]) m' W' ∧ Fr m W1 W' ∧ ∀ b, m' b → m b ∨ W1.heap.size ≤ b) ∨
      (e = .returned (.bool false) ∧ Jx (pre ++ [x]) W' ∧ Fr m W1 W')) →
    J [] m0 W →
    CallsIn Fence.wide 0 P gf (#[.func (.yield l) #[] #[]] ++ lb) W fun e W' =>
      (∃ v, e = .returned v) ∧ Fr (fun b => m0 b ∨ Bx b) W W' ∧ ((∃ m, J xs m W') ∨ ∃ pre, Jx pre W')

/-- how the body of a round may be left -/
def rpost {α : Type} (I : List α → (Nat → Prop) → World → Prop) (Ix : Code → List α → World → Prop) (m : Nat → Prop) (ys : List α) (W : World) : Exit → Act → World → Prop
  | .normal, _, W' => ∃ m', I ys m' W' ∧ Fr m W W' ∧ ∀ b, m' b → m b ∨ W.heap.size ≤ b
  | .ret, _, W' => Ix .ret ys W' ∧ Fr m W W'
  | .exit id, _, W' => Ix (.exit id) ys W' ∧ Fr m W W'
  | .goto t, _, W' => Ix (.goto t) ys W' ∧ Fr m W W'
  | .panic _, _, _ => False
  | .outgrown, _, _ => False

variable {P : Program}

/-- **the statement 'for x := range seq { body }', where the iterator has its contract** -/
theorem wp_range {α : Type} {g : Operand} {ps : Array Tmp} {assign body : Code} {Q : Exit → Act → World → Prop} {a : Act} {w : World}
    {gf : Nat} {lb : Array Value} {encs : α → Array Value} {xs : List α} {Bx : Nat → Prop}
    (hg : a.eval g = .func (.func gf) #[] lb) (eg : Enters P gf) (hiter : IterC P gf lb encs xs Bx w) (hps : ∀ x, (encs x).size = ps.size)
    (I : List α → (Nat → Prop) → World → Prop) (Ix : Code → List α → World → Prop) (hI : Hangs I)
    (hIlt : ∀ pre m A b, I pre m A → m b → b < A.heap.size ∧ ¬ Bx b ∧ b ≠ w.heap.size ∧ b ≠ w.heap.size + 1)
    (hIx : ∀ c pre A B, Ix c pre A → Fr (fun b => b = w.heap.size + 1) A B → Ix c pre B) (hBx : ∀ b, Bx b → b < w.heap.size)
    (m0 : Nat → Prop) (h0 : I [] m0 w)
    (hround : ∀ (l : Nat) (pre : List α) (x : α) (rest : List α) (m : Nat → Prop) (W : World), xs = pre ++ x :: rest → I pre m W →
      assign.wpIn (Fence.wide.inRound l) 0 P (Exit.then (fun a' Wa => W = Wa ∧ ∀ W', w.heap.size + 2 ≤ W'.heap.size → I pre m W' →
        body.wpIn (Fence.wide.inRound l) 0 P (rpost I Ix m (pre ++ [x]) W') a' W') (fun _ _ _ => False))
        { tmps := (ps.zip (encs x)).foldl (fun t (p, v) => t.setIfInBounds p v) a.tmps, defers := [] } W)
    (hdone : ∀ (m : Nat → Prop) (W : World), I xs m W → Fr (fun b => m0 b ∨ Bx b) w W → W.heap[w.heap.size]? = some (.deferred (some [])) →
      Q .normal { a with defers := { target := .collected w.heap.size, args := #[] } :: a.defers } W)
    (hstop : ∀ (c : Code) (pre : List α) (W : World), Ix c pre W → Fr (fun b => m0 b ∨ Bx b) w W → W.heap[w.heap.size]? = some (.deferred (some [])) →
      c.wpIn Fence.wide 0 P Q { a with defers := { target := .collected w.heap.size, args := #[] } :: a.defers } W) :
    (Code.rangeFunc g ps assign body).wpIn Fence.wide 0 P Q a w := by
  obtain ⟨D, hD⟩ : ∃ D, D = w.heap.size := ⟨_, rfl⟩
  obtain ⟨l, hl⟩ : ∃ l, l = w.heap.size + 1 := ⟨_, rfl⟩
  have hrec : ∀ (W3 : World) (o : Obj), Fr (fun b => b = w.heap.size + 1) W3 (W3.putObj l o) := fun W3 o => (Fr.refl (fun b => b = w.heap.size + 1) W3).putObj (l := l) (.inl hl) o
  refine wpIn_rangeFunc ?_
  intro fn hfn
  show ∃ l mark w₁ d w₁' f args w₂, (Instr.enterLoop fn a.tmps ps assign body none).run P w = _ ∧ _
  obtain ⟨rc, hrc⟩ : ∃ rc : LoopState → Option Code → Loop, rc = fun st pe => { state := st, pending := pe, fn, tmps := a.tmps, params := ps, assign, body, defers := w.heap.size } := ⟨_, rfl⟩
  obtain ⟨W1, hW1⟩ : ∃ W1, (w.alloc (.deferred (some []))).alloc (.loop (rc .ready none)) = W1 := ⟨_, rfl⟩
  have hL1 : W1.heap[l]? = some (.loop (rc .ready none)) := by
    rw [← hW1, hl]; have := World.alloc_heap_new (w.alloc (.deferred (some []))) (.loop (rc .ready none)); rwa [World.size_alloc] at this
  have hK1 : W1.heap[D]? = some (.deferred (some [])) := by
    rw [← hW1, hD]; exact (Below.heap_alloc _ _ _ (by simp)).trans (World.alloc_heap_new w _)
  have hF1 : ∀ m, Fr m w W1 := fun m => by rw [← hW1]; exact ((Fr.refl m w).alloc _).alloc _
  have hI1 : I [] m0 W1 := hI _ _ _ _ h0 (hF1 _)
  have hb1 : Below w.heap.size w W1 := by
    rw [← hW1]; exact ((Below.refl _ w).alloc (Nat.le_refl _) _).alloc (by simp) _
  refine ⟨w.heap.size + 1, [{ target := .collected w.heap.size, args := #[] }], W1, { target := .fn (.func gf) lb, args := #[.func (.yield (w.heap.size + 1)) #[] #[]] }, W1, gf,
    #[.func (.yield (w.heap.size + 1)) #[] #[]] ++ lb, W1, ?_, ?_, ?_, ?_, ?_, ?_⟩
  · rw [← hW1, hrc]; exact run_enterLoop_outer _ _ _ _ _
  · simp only [resolve, hg]
    simp [go_sem]
  · intro f' _; trivial
  · have eg' : ∀ args w, (callFunc gf args).run P w = .ok (.enter gf args) w := eg
    simp [invoke, go_sem, eg']
  · intro h; cases h
  · rw [← hl]
    refine (hiter l
      (fun pre m W => (∃ mm, I pre mm W ∧ ∀ b, m b ↔ (mm b ∨ b = D ∨ b = l)) ∧ W.heap[l]? = some (.loop (rc .ready none)) ∧ W.heap[D]? = some (.deferred (some [])))
      (fun pre W => ∃ c, Ix c pre W ∧ W.heap[l]? = some (.loop (rc .done (some c))) ∧ W.heap[D]? = some (.deferred (some [])))
      (fun b => m0 b ∨ b = D ∨ b = l) W1 hb1 ?_ ?_ ?_ ⟨⟨m0, hI1, fun b => Iff.rfl⟩, hL1, hK1⟩).mono ?_
    · rintro pre m A B ⟨⟨mm, hi, hm⟩, h1, h2⟩ hf
      refine ⟨⟨mm, hI _ _ _ _ hi (hf.mono fun b hb hc => hb ((hm b).2 (.inl hc))), hm⟩, hf.heap h1 (fun hc => hc ((hm _).2 (.inr (.inr rfl)))), hf.heap h2 (fun hc => hc ((hm _).2 (.inr (.inl rfl))))⟩
    · rintro pre m A b ⟨⟨mm, hi, hm⟩, h1, h2⟩ hb
      rcases (hm b).1 hb with h | rfl | rfl
      · exact ⟨(hIlt _ _ _ _ hi h).1, (hIlt _ _ _ _ hi h).2.1⟩
      · exact ⟨(Array.getElem?_eq_some_iff.1 h2).1, fun h => by have := hBx _ h; omega⟩
      · exact ⟨(Array.getElem?_eq_some_iff.1 h1).1, fun h => by have := hBx _ h; omega⟩
    · -- one round
      rintro pre x rest m W hxs ⟨⟨mm, hi, hm⟩, h1, h2⟩
      have hne : ∀ {pre mm A}, I pre mm A → ¬ mm l ∧ ¬ mm D := fun hi => ⟨fun h => (hIlt _ _ _ _ hi h).2.2.2 hl, fun h => (hIlt _ _ _ _ hi h).2.2.1 hD⟩
      have hlt : l < W.heap.size := (Array.getElem?_eq_some_iff.1 h1).1
      have hy := run_yield (P := P) (args := encs x) h1 (by rw [hrc]; exact hps x)
      rw [hrc] at hy
      refine ⟨fn, _, assign, body, hy, roundIn_of_wpIn (F := Fence.wide) hfn (wpIn_mono (hround l pre x rest mm W hxs hi) ?_)⟩
      clear hy
      rintro e a₁ Wa hthen
      cases e with
      | exit id => exact hthen
      | goto t => exact hthen
      | ret => exact hthen
      | panic ch => exact hthen
      | outgrown => exact hthen
      | normal =>
      obtain ⟨rfl, hbody⟩ := hthen
      refine ⟨_, run_beginRound h1 (by rw [hrc]), ?_⟩
      have hl2 : (W.putObj l (.loop { rc .ready none with state := .busy })).heap[l]? = some (.loop { rc .ready none with state := .busy }) := World.putObj_heap_same hlt
      have hk2 : (W.putObj l (.loop { rc .ready none with state := .busy })).heap[D]? = some (.deferred (some [])) := (World.putObj_heap_other (by omega)).trans h2
      have hi2 : I pre mm (W.putObj l (.loop { rc .ready none with state := .busy })) := hI _ _ _ _ hi ((Fr.refl _ W).putObj (.inl (hne hi).1) _)
      have hfr2 : ∀ m', m' l → Fr m' W (W.putObj l (.loop { rc .ready none with state := .busy })) := fun m' h => (Fr.refl _ W).putObj (.inl h) _
      refine wpIn_mono (hbody _ (by rw [World.putObj_size]; omega) hi2) ?_
      have fin : ∀ (jump : Option Code) (W3 : World), Fr mm (W.putObj l (.loop { rc .ready none with state := .busy })) W3 →
          (Instr.endRound l jump).run P W3 = .ok (.bool jump.isNone) (W3.putObj l (.loop (rc (if jump.isNone then .ready else .done) jump))) ∧
          (W3.putObj l (.loop (rc (if jump.isNone then .ready else .done) jump))).heap[l]? = some (.loop (rc (if jump.isNone then .ready else .done) jump)) ∧
          (W3.putObj l (.loop (rc (if jump.isNone then .ready else .done) jump))).heap[D]? = some (.deferred (some [])) ∧
          Fr m W (W3.putObj l (.loop (rc (if jump.isNone then .ready else .done) jump))) := fun jump W3 hk3 => by
        have hl3 := hk3.heap hl2 (hne hi).1
        have := run_endRound (P := P) jump hl3
        rw [hrc] at this ⊢
        refine ⟨this, World.putObj_heap_same (Array.getElem?_eq_some_iff.1 hl3).1, (World.putObj_heap_other (by omega)).trans (hk3.heap hk2 (hne hi).2), ?_⟩
        have hml : m l := (hm l).2 (.inr (.inr rfl))
        have h3 := (hfr2 m hml).trans' hk3 (fun b hb => .inl ((hm b).2 (.inl hb)))
        exact h3.putObj (.inl hml) _
      rintro e a3 W3 hp
      cases e with
      | normal =>
        obtain ⟨m', hi3, hf3, hgr⟩ := hp
        obtain ⟨hr, hl4, hk4, hf4⟩ := fin none W3 hf3
        refine ⟨_, _, hr, .inl ⟨rfl, fun b => m' b ∨ b = D ∨ b = l, ⟨⟨m', hI _ _ _ _ hi3 ((Fr.refl _ W3).putObj (.inl (hne hi3).1) _), fun b => Iff.rfl⟩, hl4, hk4⟩, hf4, ?_⟩⟩
        rintro b (h | h)
        · rcases hgr b h with h | h
          · exact .inl ((hm b).2 (.inl h))
          · exact .inr (by rwa [World.putObj_size] at h)
        · exact .inl ((hm b).2 (.inr h))
      | ret =>
        obtain ⟨hi3, hf3⟩ := hp
        obtain ⟨hr, hl4, hk4, hf4⟩ := fin (some .ret) W3 hf3
        exact ⟨_, _, hr, .inr ⟨rfl, ⟨.ret, hIx _ _ _ _ hi3 (hrec W3 _), hl4, hk4⟩, hf4⟩⟩
      | exit id =>
        obtain ⟨hi3, hf3⟩ := hp
        obtain ⟨hr, hl4, hk4, hf4⟩ := fin (some (.exit id)) W3 hf3
        exact ⟨_, _, hr, .inr ⟨rfl, ⟨.exit id, hIx _ _ _ _ hi3 (hrec W3 _), hl4, hk4⟩, hf4⟩⟩
      | goto t =>
        obtain ⟨hi3, hf3⟩ := hp
        obtain ⟨hr, hl4, hk4, hf4⟩ := fin (some (.goto t)) W3 hf3
        exact ⟨_, _, hr, .inr ⟨rfl, ⟨.goto t, hIx _ _ _ _ hi3 (hrec W3 _), hl4, hk4⟩, hf4⟩⟩
      | panic ch => exact hp.elim
      | outgrown => exact hp.elim
    · -- behind the iterator
      rintro e W2 ⟨⟨v, rfl⟩, hfr, (⟨m, ⟨mm, hi, hm⟩, h1, h2⟩ | ⟨pre, c, hi, h1, h2⟩)⟩
      · have hfw : Fr (fun b => m0 b ∨ Bx b) w W2 := (hF1 _).trans' hfr (by
          rintro b ((h | h | h) | h)
          · exact .inl (.inl h)
          · exact .inr (by omega)
          · exact .inr (by omega)
          · exact .inl (.inr h))
        have hne : ¬ mm l := fun h => (hIlt _ _ _ _ hi h).2.2.2 hl
        exact ⟨none, _, by have := run_endLoop (P := P) h1 (by rw [hrc]; simp); rw [hrc] at this; exact this,
          hdone mm _ (hI _ _ _ _ hi ((Fr.refl _ W2).putObj (.inl hne) _)) (hfw.putObj (.inr (by omega)) _) (by rw [← hD]; exact (World.putObj_heap_other (by omega)).trans h2)⟩
      · have hfw : Fr (fun b => m0 b ∨ Bx b) w W2 := (hF1 _).trans' hfr (by
          rintro b ((h | h | h) | h)
          · exact .inl (.inl h)
          · exact .inr (by omega)
          · exact .inr (by omega)
          · exact .inl (.inr h))
        exact ⟨some c, _, by have := run_endLoop (P := P) h1 (by rw [hrc]; simp); rw [hrc] at this; exact this,
          hstop c pre _ (hIx _ _ _ _ hi (hrec W2 _)) (hfw.putObj (.inr (by omega)) _) (by rw [← hD]; exact (World.putObj_heap_other (by omega)).trans h2)⟩
end Go.Proofs.YtakbkbmjeanboaaGreatDoor
