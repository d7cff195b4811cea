/- Small laws on a heap: what a block holds behind a store, a new block, a contract that makes memory. No program in sight; each theorem names its conditions. -/
import Derived.Test.YtakbkbmjeanboaaGreatDoorRange
import Derived.Lib.LaidIn
namespace Go.Proofs.YtakbkbmjeanboaaGreatDoor
open Go.RowKit Go.Shelf
set_option linter.unusedVariables false

theorem heap_self {W : World} {b k : Nat} {cs : Array Value} {t : TypeId} {fr : Nat × Nat} (h : W.heap[b]? = some (.cells cs t fr)) (u : Value) : (W.setCell ⟨b, k, none⟩ u).heap[b]? = some (.cells (cs.setIfInBounds k u) t fr) := by
  simp [World.setCell, Array.getElem?_modify, h]
theorem heap_put_other {W : World} {b b' : Nat} {o : Obj} (hne : b ≠ b') : (W.putObj b' o).heap[b]? = W.heap[b]? := by
  simp [World.putObj, Ne.symm hne]
theorem heap_other {W : World} {b b' k : Nat} (hne : b ≠ b') (u : Value) : (W.setCell ⟨b', k, none⟩ u).heap[b]? = W.heap[b]? := Below.heap_setCell _ _ _ _ hne
theorem box_cell {W : World} {b : Nat} {v : Value} {t : TypeId} (h : W.heap[b]? = some (.cells #[v] t (0, 0))) : W.cell? ⟨b, 0, none⟩ = some v ∧ W.frozen? ⟨b, 0, none⟩ = false := by
  constructor <;> simp [World.cell?, World.frozen?, h]
theorem box_set {W : World} {b : Nat} {v : Value} {t : TypeId} (h : W.heap[b]? = some (.cells #[v] t (0, 0))) (u : Value) : (W.setCell ⟨b, 0, none⟩ u).heap[b]? = some (.cells #[u] t (0, 0)) := by
  simp [World.setCell, Array.getElem?_modify, h]

theorem block_new {A B : World} (h : Below A.heap.size A B) {b : Nat} {o : Obj} (hb : A.heap[b]? = some o) : B.heap[b]? = some o := (Fr.of_new h (fun _ => False)).heap hb (fun h => h)
end Go.Proofs.YtakbkbmjeanboaaGreatDoor
