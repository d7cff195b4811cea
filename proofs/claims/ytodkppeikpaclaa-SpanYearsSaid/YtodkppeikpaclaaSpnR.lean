/- Arguments that are slices of pairs of numbers, as a row reads them. No program in sight; each theorem names its conditions. -/
import Derived.Test.YtodkppeikpaclaaSpnI
import Derived.Deep.SlicePairs
import Derived.Carry
import Derived.OpenShut
import Derived.Test.YtodkppeikpaclaaLaw
namespace Go.Proofs.Ytodkppeikpaclaa
open Go.ChangeShapes Go.WideShapes Go.ChangeAt Go.RowKit Go.Deep Go.Shelf
set_option linter.unusedVariables false
section
variable {H : Type} {enc : TypeId × Value → H} {P : Program} {W : World}

theorem wf_in {n : Int} (h : (Lit.int .i64 n).wf = true) : inI n := by
  have := bounds_i64 h
  exact this
theorem one_cell {cs : List Value} {i : Nat} (h : i < cs.length) : (cs.drop i).take 1 = [cs[i]] := by
  rw [List.drop_eq_getElem_cons h]; rfl
theorem arg_of {v : Value} {a : Addr} {len cap : Nat} (hv : v = .slice (some a) len cap) (hl : len ≤ cap) (hm : cap ≤ maxLen)
    (hc : ∀ i, i < len → ∃ f t : Int, inI f ∧ inI t ∧ W.cell? (a.add (i * 2)) = some (.int .i64 f) ∧ W.cell? (a.add (i * 2 + 1)) = some (.int .i64 t)) : ArgP W v := by
  refine ⟨some a, len, cap, hv, hl, by unfold maxLen at hm; omega, (fun h => by cases h), fun i hi => ?_⟩
  obtain ⟨f, t, h1, h2, h3, h4⟩ := hc i hi
  obtain ⟨f0, t0, _, _, h0, _⟩ := hc 0 (by omega)
  obtain ⟨g, off, spot⟩ := a
  have hspot : spot = none := by
    have := World.cell?_spot h0
    simpa [Addr.add] using this
  subst hspot
  rw [add_plain] at h3 h4
  exact ⟨g, off, f, t, rfl, block_lt_of_cell h3, h1, h2, h3, by rw [Nat.add_assoc]; exact h4⟩
theorem arg_nil : ArgP W (.slice none 0 0) := ⟨none, 0, 0, rfl, Nat.le_refl _, by omega, fun _ => rfl, fun i h => absurd h (by omega)⟩
/-- a slice of arrays of two ints -/
theorem arg_arrays {r : Reach} {b0 : Nat} {t e u : TypeId} {v : Value} {d : DataW H} {p : List MemPlace} (ht : P.underlying t = some (.slice e)) (he : P.underlying e = some (.array 2 u)) (hu : P.underlying u = some (.int .i64)) (hcu : P.cellsOf u = 1) (hce : P.cellsOf e = 2)
    (hval : Value.okWide P W r b0 t v) (h : DataW.Trod enc P W 0 (fun _ => true) true t v d p) : ArgP W v := by
  obtain ⟨a0, len0, cap0, rfl⟩ := okWide_slice ht hval
  obtain ⟨fuel, hf⟩ := h
  rcases open_slice ht hf with ⟨hc, hx⟩ | ⟨a, len, cap, m, n, D, Pl, hc, hb, hl, hm, hmm, hx, hel⟩
  · simp [Value.cells] at hc
    obtain ⟨rfl, rfl, rfl⟩ := hc
    exact arg_nil
  · simp [Value.cells] at hc
    obtain ⟨rfl, rfl, rfl⟩ := hc
    simp only [if_true] at hmm
    subst hmm
    refine arg_of rfl hl hm fun i hi => ?_
    obtain ⟨cs, h1, h2⟩ := hel i (by omega)
    rw [hce] at h1
    obtain ⟨_, hlen, hcell⟩ := World.cells?_some h1
    obtain ⟨ys, k, -, -, -, hyl, hall⟩ := DataW.trod_array he h2
    have key : ∀ j, j < 2 → ∃ z : Int, inI z ∧ W.cell? ((a.add (i * 2)).add j) = some (.int .i64 z) := by
      intro j hj
      have hjl : j < cs.length := by omega
      have e1 := hall j hj
      rw [hcu, Nat.mul_one, one_cell hjl] at e1
      cases hy : ys[j]? with
      | none => simp [hyl, hj] at hy
      | some y =>
        rw [hy] at e1
        obtain ⟨z, hz, -, hw⟩ := DataW.trod_int hu e1
        refine ⟨z, wf_in hw, ?_⟩
        rw [hcell j (by omega), List.getElem?_eq_getElem hjl]
        simp only [List.cons.injEq, and_true] at hz
        rw [hz]
    obtain ⟨f, f1, f2⟩ := key 0 (by omega)
    obtain ⟨t', t1, t2⟩ := key 1 (by omega)
    rw [add_add] at f2 t2
    exact ⟨f, t', f1, t1, by simpa using f2, t2⟩
/-- a slice of structs of two ints -/
theorem arg_structs {r : Reach} {b0 : Nat} {t e : TypeId} {f0 f1 : Field} {v : Value} {d : DataW H} {p : List MemPlace} (ht : P.underlying t = some (.slice e)) (he : P.underlying e = some (.struct #[f0, f1])) (ce : P.cellsOf e = 2) (o0 : f0.offset = 0) (o1 : f1.offset = 1) (c0 : P.cellsOf f0.type = 1) (c1 : P.cellsOf f1.type = 1)
    (u0 : P.underlying f0.type = some (.int .i64)) (u1 : P.underlying f1.type = some (.int .i64)) (hval : Value.okWide P W r b0 t v) (h : DataW.Trod enc P W 0 (fun _ => true) true t v d p) : ArgP W v := by
  obtain ⟨a0, len0, cap0, rfl⟩ := okWide_slice ht hval
  obtain ⟨fuel, hf⟩ := h
  rcases open_slice_pairs ht he ce o0 o1 c0 c1 hf with ⟨hc, hx⟩ | ⟨a, len, cap, m, n, V0, V1, D0, D1, P0, P1, hc, hb, hl, hm, hmm, hx, hall⟩
  · simp [Value.cells] at hc
    obtain ⟨rfl, rfl, rfl⟩ := hc
    exact arg_nil
  · simp [Value.cells] at hc
    obtain ⟨rfl, rfl, rfl⟩ := hc
    simp only [if_true] at hmm
    subst hmm
    refine arg_of rfl hl hm fun i hi => ?_
    obtain ⟨h1, h2, h3, h4⟩ := hall i (by omega)
    obtain ⟨x, hx, -, wx⟩ := DataW.trod_int u0 h3
    obtain ⟨y, hy, -, wy⟩ := DataW.trod_int u1 h4
    simp only [List.cons.injEq, and_true] at hx hy
    exact ⟨x, y, wf_in wx, wf_in wy, by rw [h1, hx], by rw [h2, hy]⟩
end
end Go.Proofs.Ytodkppeikpaclaa
