/- The law of a range over a function that changes nothing itself, with no way out of the body but its end. No program in sight; each theorem names its conditions. -/
import Derived.Test.YtakbkbmjeanboaaGreatDoorRange
namespace Go.Proofs.YtakbkbmjeanboaaGreatDoor
open Go.RowKit
set_option linter.unusedVariables false

/-- **the contract of an iterator value that hands out just xs, and changes nothing itself**; it reads what keep says -/
def IterP {α : Type} (P : Program) (gf : Nat) (lb : Array Value) (encs : α → Array Value) (xs : List α) (keep : World → Prop) : Prop :=
  ∀ (l : Nat) (J : List α → World → Prop) (W : World), (∀ pre A, J pre A → keep A) →
    (∀ pre x rest W1, xs = pre ++ x :: rest → J pre W1 → YieldAt Fence.wide 0 P l (encs x) W1 fun e W' => e = .returned (.bool true) ∧ J (pre ++ [x]) W') →
    J [] W →
    CallsIn Fence.wide 0 P gf (#[.func (.yield l) #[] #[]] ++ lb) W fun e W' => (∃ v, e = .returned v) ∧ J xs W'

variable {P : Program}
/-- **the statement 'for x := range seq { body }', where the iterator has such a contract** -/
theorem wp_rangeP {α : Type} {g : Operand} {ps : Array Tmp} {assign body : Code} {Q : Exit → Act → World → Prop} {a : Act} {w : World}
    {gf : Nat} {lb : Array Value} {encs : α → Array Value} {xs : List α} {keep : World → Prop}
    (hg : a.eval g = .func (.func gf) #[] lb) (eg : Enters P gf) (hiter : IterP P gf lb encs xs keep) (hps : ∀ x, (encs x).size = ps.size)
    (I : List α → World → Prop) (hI : ∀ pre A B, Below A.heap.size A B → I pre A → I pre B)
    (hIl : ∀ pre A L L', A.heap[w.heap.size + 1]? = some (.loop L) → I pre A → I pre (A.putObj (w.heap.size + 1) (.loop L')))
    (hkeep : ∀ pre A, I pre A → keep A) (h0 : I [] w)
    (hround : ∀ (l : Nat) (pre : List α) (x : α) (rest : List α) (W : World), xs = pre ++ x :: rest → I pre W →
      assign.wpIn (Fence.wide.inRound l) 0 P (Exit.then (fun a' Wa => W = Wa ∧ ∀ W', w.heap.size + 2 ≤ W'.heap.size → I pre W' →
        body.wpIn (Fence.wide.inRound l) 0 P (fun e _ W3 => e = .normal ∧ I (pre ++ [x]) W3 ∧ W3.heap[w.heap.size]? = W'.heap[w.heap.size]? ∧ W3.heap[w.heap.size + 1]? = W'.heap[w.heap.size + 1]?) a' W') (fun _ _ _ => False))
        { tmps := (ps.zip (encs x)).foldl (fun t (p, v) => t.setIfInBounds p v) a.tmps, defers := [] } W)
    (hdone : ∀ (W : World), I xs W → w.heap.size + 2 ≤ W.heap.size → W.heap[w.heap.size]? = some (.deferred (some [])) →
      Q .normal { a with defers := { target := .collected w.heap.size, args := #[] } :: a.defers } W) :
    (Code.rangeFunc g ps assign body).wpIn Fence.wide 0 P Q a w := by
  obtain ⟨D, hD⟩ : ∃ D, D = w.heap.size := ⟨_, rfl⟩
  obtain ⟨l, hl⟩ : ∃ l, l = w.heap.size + 1 := ⟨_, rfl⟩
  refine wpIn_rangeFunc ?_
  intro fn hfn
  show ∃ l mark w₁ d w₁' f args w₂, (Instr.enterLoop fn a.tmps ps assign body none).run P w = _ ∧ _
  obtain ⟨rc, hrc⟩ : ∃ rc : LoopState → Option Code → Loop, rc = fun st pe => { state := st, pending := pe, fn, tmps := a.tmps, params := ps, assign, body, defers := w.heap.size } := ⟨_, rfl⟩
  obtain ⟨W1, hW1⟩ : ∃ W1, (w.alloc (.deferred (some []))).alloc (.loop (rc .ready none)) = W1 := ⟨_, rfl⟩
  have hL1 : W1.heap[l]? = some (.loop (rc .ready none)) := by
    rw [← hW1, hl]; have := World.alloc_heap_new (w.alloc (.deferred (some []))) (.loop (rc .ready none)); rwa [World.size_alloc] at this
  have hK1 : W1.heap[D]? = some (.deferred (some [])) := by
    rw [← hW1, hD]; exact (Below.heap_alloc _ _ _ (by simp)).trans (World.alloc_heap_new w _)
  have hb1 : Below w.heap.size w W1 := by
    rw [← hW1]; exact ((Below.refl _ w).alloc (Nat.le_refl _) _).alloc (by simp) _
  have hI1 : I [] W1 := hI _ _ _ hb1 h0
  refine ⟨w.heap.size + 1, [{ target := .collected w.heap.size, args := #[] }], W1, { target := .fn (.func gf) lb, args := #[.func (.yield (w.heap.size + 1)) #[] #[]] }, W1, gf,
    #[.func (.yield (w.heap.size + 1)) #[] #[]] ++ lb, W1, ?_, ?_, ?_, ?_, ?_, ?_⟩
  · rw [← hW1, hrc]; exact run_enterLoop_outer _ _ _ _ _
  · simp only [resolve, hg]
    simp [go_sem]
  · intro f' _; trivial
  · have eg' : ∀ args w, (callFunc gf args).run P w = .ok (.enter gf args) w := eg
    simp [invoke, go_sem, eg']
  · intro h; cases h
  · rw [← hl]
    refine (hiter l
      (fun pre W => I pre W ∧ W.heap[l]? = some (.loop (rc .ready none)) ∧ W.heap[D]? = some (.deferred (some []))) W1 (fun pre A h => hkeep _ _ h.1) ?_ ⟨hI1, hL1, hK1⟩).mono ?_
    · -- one round
      rintro pre x rest W hxs ⟨hi, h1, h2⟩
      have hlt : l < W.heap.size := (Array.getElem?_eq_some_iff.1 h1).1
      have hy := run_yield (P := P) (args := encs x) h1 (by rw [hrc]; exact hps x)
      rw [hrc] at hy
      refine ⟨fn, _, assign, body, hy, roundIn_of_wpIn (F := Fence.wide) hfn (wpIn_mono (hround l pre x rest W hxs hi) ?_)⟩
      clear hy
      rintro e a₁ Wa hthen
      cases e with
      | exit id => exact hthen
      | goto t => exact hthen
      | ret => exact hthen
      | panic ch => exact hthen
      | outgrown => exact hthen
      | normal =>
      obtain ⟨rfl, hbody⟩ := hthen
      refine ⟨_, run_beginRound h1 (by rw [hrc]), ?_⟩
      have hl2 : (W.putObj l (.loop { rc .ready none with state := .busy })).heap[l]? = some (.loop { rc .ready none with state := .busy }) := World.putObj_heap_same hlt
      have hk2 : (W.putObj l (.loop { rc .ready none with state := .busy })).heap[D]? = some (.deferred (some [])) := (World.putObj_heap_other (by omega)).trans h2
      have hi2 : I pre (W.putObj l (.loop { rc .ready none with state := .busy })) := by
        have := hIl pre W _ { rc .ready none with state := .busy } (hl ▸ h1) hi
        rwa [← hl] at this
      refine wpIn_mono (hbody _ (by rw [World.putObj_size]; omega) hi2) ?_
      rintro e a3 W3 ⟨rfl, hi3, hd3, hl3⟩
      rw [← hD] at hd3
      rw [← hl] at hl3
      have hl4 := hl3.trans hl2
      have hr := run_endRound (P := P) none hl4
      rw [hrc] at hr
      have hi4 := hIl _ W3 _ (rc .ready none) (hl ▸ hl4) hi3
      rw [← hl] at hi4
      rw [hrc] at hi4 ⊢
      exact ⟨_, _, hr, rfl, hi4, World.putObj_heap_same (Array.getElem?_eq_some_iff.1 hl4).1, (World.putObj_heap_other (by omega)).trans (hd3.trans hk2)⟩
    · -- behind the iterator
      rintro e W2 ⟨⟨v, rfl⟩, hi, h1, h2⟩
      have hlt : l < W2.heap.size := (Array.getElem?_eq_some_iff.1 h1).1
      have hi4 := hIl _ W2 _ (rc .exhausted none) (hl ▸ h1) hi
      rw [← hl] at hi4
      have he := run_endLoop (P := P) h1 (by rw [hrc]; simp)
      rw [hrc] at he
      refine ⟨none, _, he, ?_⟩
      rw [hrc] at hi4
      exact hdone _ hi4 (by rw [World.putObj_size]; omega) (by rw [← hD]; exact (World.putObj_heap_other (by omega)).trans h2)
end Go.Proofs.YtakbkbmjeanboaaGreatDoor
