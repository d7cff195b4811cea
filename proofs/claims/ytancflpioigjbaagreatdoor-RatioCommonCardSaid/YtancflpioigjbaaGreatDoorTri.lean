/- An argument that is a slice of triples of numbers, as a row reads it. Each theorem names its conditions. -/
import Derived.Test.YtancflpioigjbaaGreatDoorLawN
import Derived.Deep.SlicePairs
import Derived.Carry
namespace Go.Proofs.YtancflpioigjbaaGreatDoor
open Go.ChangeShapes Go.WideShapes Go.ChangeAt Go.RowKit Go.Deep Go.Shelf
set_option linter.unusedVariables false
section
variable {H : Type} {enc : TypeId × Value → H} {W : World}
theorem one_cell {cs : List Value} {i : Nat} (h : i < cs.length) : (cs.drop i).take 1 = [cs[i]] := by
  rw [List.drop_eq_getElem_cons h]; rfl
theorem add_plain3 (g off j : Nat) : (⟨g, off, none⟩ : Addr).add j = ⟨g, off + j, none⟩ := Addr.add_lit ..
theorem add_add3 (a : Addr) (i j : Nat) : (a.add i).add j = a.add (i + j) := by
  obtain ⟨g, off, spot⟩ := a
  cases i <;> cases j <;> simp [Addr.add] <;> omega
theorem block_lt3 {g off : Nat} {v : Value} (h : W.cell? ⟨g, off, none⟩ = some v) : g < W.heap.size := by
  rcases Nat.lt_or_ge g W.heap.size with hl | hl
  · exact hl
  · simp [World.cell?, Array.getElem?_eq_none hl] at h
set_option maxRecDepth 100000 in
theorem arg_triples {base : Nat} {v : Value} {d : DataW H} {p : List MemPlace} (hval : Value.okWide Tryz.prog W .any base 42 v) (h : DataW.Trod enc Tryz.prog W 0 (fun _ => true) true 42 v d p) (hlt : ∀ x ∈ p, x.block < W.heap.size) : ∃ u : Unit, ArgT W v := by
  refine ⟨(), ?_⟩
  have hcu : Tryz.prog.cellsOf 3 = 1 := by kernel_rfl
  have hce : Tryz.prog.cellsOf 34 = 3 := by kernel_rfl
  obtain ⟨a0, len0, cap0, rfl⟩ := okWide_slice Tryz.underlying42 hval
  obtain ⟨fuel, hf⟩ := h
  rcases open_slice Tryz.underlying42 hf with ⟨hc, hx⟩ | ⟨a, len, cap, m, n, D, Pl, hc, hb, hl, hm, hmm, hx, hel⟩
  · simp [Value.cells] at hc
    obtain ⟨rfl, rfl, rfl⟩ := hc
    exact ⟨none, 0, 0, rfl, by omega, fun i h => absurd h (by omega)⟩
  · simp [Value.cells] at hc
    obtain ⟨rfl, rfl, rfl⟩ := hc
    simp only [if_true] at hmm
    subst hmm
    have hcc : ∀ i, i < len0 → ∃ x y z : Int, inJ x ∧ inJ y ∧ inJ z ∧ W.cell? (a.add (i * 3)) = some (.int .i64 x) ∧ W.cell? (a.add (i * 3 + 1)) = some (.int .i64 y) ∧ W.cell? (a.add (i * 3 + 2)) = some (.int .i64 z) := by
      intro i hi
      obtain ⟨cs, h1, h2⟩ := hel i (by omega)
      rw [hce] at h1
      obtain ⟨_, hlen, hcell⟩ := World.cells?_some h1
      obtain ⟨ys, k, -, -, -, hyl, hall⟩ := DataW.trod_array Tryz.underlying34 h2
      have key : ∀ j, j < 3 → ∃ z : Int, inJ z ∧ W.cell? ((a.add (i * 3)).add j) = some (.int .i64 z) := by
        intro j hj
        have hjl : j < cs.length := by omega
        have e1 := hall j hj
        rw [hcu, Nat.mul_one, one_cell hjl] at e1
        cases hy : ys[j]? with
        | none => simp [hyl, hj] at hy
        | some y =>
          rw [hy] at e1
          obtain ⟨z, hz, -, hw⟩ := DataW.trod_int Tryz.underlying3 e1
          refine ⟨z, wf_rng hw, ?_⟩
          rw [hcell j (by omega), List.getElem?_eq_getElem hjl]
          simp only [List.cons.injEq, and_true] at hz
          rw [hz]
      obtain ⟨x, x1, x2⟩ := key 0 (by omega)
      obtain ⟨y, y1, y2⟩ := key 1 (by omega)
      obtain ⟨z, z1, z2⟩ := key 2 (by omega)
      rw [add_add3] at x2 y2 z2
      exact ⟨x, y, z, x1, y1, z1, x2, y2, z2⟩
    refine ⟨some a, _, _, rfl, by unfold maxLen at hm; omega, fun i hi => ?_⟩
    obtain ⟨x, y, z, h1, h2, h3, h4, h5, h6⟩ := hcc i hi
    obtain ⟨x0, _, _, _, _, _, h0, _⟩ := hcc 0 (by omega)
    obtain ⟨g, off, spot⟩ := a
    have hspot : spot = none := by
      have := World.cell?_spot h0
      simpa [Addr.add] using this
    subst hspot
    rw [add_plain3] at h4 h5 h6
    exact ⟨g, off, x, y, z, rfl, block_lt3 h4, h1, h2, h3, h4, by rw [Nat.add_assoc]; exact h5, by rw [Nat.add_assoc]; exact h6⟩
end
end Go.Proofs.YtancflpioigjbaaGreatDoor
