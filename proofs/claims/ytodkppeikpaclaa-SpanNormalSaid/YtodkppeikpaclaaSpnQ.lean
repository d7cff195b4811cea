/- Append of a whole list of spans to a fresh row of spans, as one operation of a region; a list stands while a row without cells grows. Each theorem names its conditions. -/
import Derived.Test.YtodkppeikpaclaaFew
import Derived.Test.YtodkppeikpaclaaSpnM
import Derived.Test.YtodkppeikpaclaaRegI
namespace Go.Proofs.Ytodkppeikpaclaa
open Go.RowKit Go.Shelf
open Spn
set_option linter.unusedVariables false

theorem append_none {P : Program} (w : World) (base : Nat) (t ty e : TypeId) (i : TypeInfo) (ht : P.underlying t = some (.slice e)) (hi : P.info? e = some i)
    (size : Nat) (v : Value) (n : Nat) (xs : List Value) (hown : w.ownsRow base e size v n xs) :
    (Builtin.append_ #[t, t] ty #[v, .slice none 0 0]).run P w = .ok v w := by
  rcases hown.2 with ⟨rfl, rfl⟩ | ⟨g, cap, cur, rfl, hbg, hg, hnc, hcm, hcs, htake⟩
  · simp [Builtin.append_, run_underlying ht, sizeOf, typeInfo, hi, Builtin.lenOf, Builtin.firstCells]
  · simp [Builtin.append_, run_underlying ht, sizeOf, typeInfo, hi, Builtin.lenOf, Builtin.firstCells, hnc, storeCells]
/-- a list stands while a row in a block without cells grows -/
theorem lst_grown {w w' : World} {v : Value} {l : List Sp} {b : Nat} {t : TypeId} (h : Lst w v l) (hb : w.heap[b]? = some (.cells #[] t (0, 0))) (hg : w.grownBy w' (some b)) : Lst w' v l := by
  rcases h with h | ⟨g, off, cap, h1, h2, h3, h4⟩
  · exact .inl h
  · refine .inr ⟨g, off, cap, h1, Nat.lt_of_lt_of_le h2 hg.size, h3, fun i hi => ?_⟩
    have hne : g ≠ b := by
      rintro rfl
      have := (h4 i hi).1
      rw [Lib.cell_of_heap hb] at this
      simp at this
    have e : ∀ k, w'.cell? ⟨g, k, none⟩ = w.cell? ⟨g, k, none⟩ := fun k => World.cell?_of_block (hg.block g h2 (by simpa using hne))
    rw [e, e]
    exact h4 i hi
theorem block_grown {w w' : World} {b c : Nat} {t t' : TypeId} {x : Value} {xs : List Value} (hb : w.heap[b]? = some (.cells #[] t (0, 0))) (hc : w.heap[c]? = some (.cells (x :: xs).toArray t' (0, 0))) (hg : w.grownBy w' (some b)) : w'.heap[c]? = some (.cells (x :: xs).toArray t' (0, 0)) := by
  have hne : c ≠ b := by
    rintro rfl
    rw [hb] at hc
    simp at hc
  exact (hg.block c (Array.getElem?_eq_some_iff.1 hc).1 (by simpa using hne)).trans hc
theorem cells2_append (a b : List Sp) : cells2 (a ++ b) = cells2 a ++ cells2 b := by simp [cells2]
theorem cells2_one (l : List Sp) : ∀ u ∈ cells2 l, u.oneCell' = true := by
  intro u hu
  obtain ⟨j, hj, e⟩ := List.getElem_of_mem hu
  obtain ⟨i, hi2, h⟩ := cells2_get (l := l) (j := j) (u := u) (by rw [List.getElem?_eq_getElem hj, e])
  rcases h with ⟨-, rfl⟩ | ⟨-, rfl⟩ <;> simp [Value.oneCell']
/-- append(s, x...) of a list, to a row of the call's own -/
theorem wp_append_lst {w : World} {o : Oper} {a : Act} {K : Act → World → Prop} {Q : Exit → Act → World → Prop} (s x : Operand)
    (ho : o.op = .call { callee := .builtin .append, args := #[s, x], argTypes := #[24, 24] })
    (base : Nat) (v vx : Value) (l m : List Sp) (hs : a.eval s = v) (hown : w.ownsRow base 33 2 v l.length (cells2 l)) (hx : a.eval x = vx) (hm : Lst w vx m)
    (hl : l.length ≤ 1000000) (hml : m.length ≤ 1000000) (hbase : base ≤ w.heap.size)
    (h : ∀ v' w', w'.ownsRow base 33 2 v' (l ++ m).length (cells2 (l ++ m)) → w.grownBy w' v.ownBlock → K (a.put o.dst v') w') : o.wp Try.prog a w K Q := by
  obtain ⟨i0, hinf, hz0, hz1, hz2⟩ := info_parts infoSpan
  rcases hm with ⟨rfl, rfl⟩ | ⟨g, off, cap, rfl, hg, hlm, hcell⟩
  · have hr := append_none (P := Try.prog) w base 24 o.type 33 i0 Try.underlying24 hinf 2 v l.length (cells2 l) hown
    unfold Oper.wp execOp
    simp only [ho, resolve, invoke, builtin, Sem.run_bind, Sem.run_pure, Result.andThen_ok, List.map_toArray, List.map_cons, List.map_nil, hs, hx, hr]
    exact h v w (by simpa using hown) ⟨rfl, rfl, rfl, Nat.le_refl _, fun _ _ _ => rfl⟩
  · refine wp_append_own w s x 24 ho base 33 i0 (.agg #[.int .i64 0, .int .i64 0]) 2 16 Try.underlying24 hinf hz0 hz1 hz2 rfl (by decide) v l.length (cells2 l) hs hown ⟨g, off, none⟩ m.length cap (cells2 m) hx (cells2_len m) ?_ (cells2_one m) (by unfold maxLen; omega) (by omega) hbase ?_
    · intro j u hu
      obtain ⟨i, hil, hh⟩ := cells2_get hu
      have hadd : ((⟨g, off, none⟩ : Addr).add j) = ⟨g, off + j, none⟩ := by unfold Addr.add; split <;> simp_all
      rw [hadd]
      rcases hh with ⟨rfl, rfl⟩ | ⟨rfl, rfl⟩
      · exact (hcell i hil).1
      · exact (hcell i hil).2
    · intro v' w' h1 h2 _
      exact h v' w' (by rw [List.length_append, cells2_append]; exact h1) h2
/-- a literal of one pair of numbers is an argument of Made -/
theorem arg_lit {w : World} {b : Nat} {x y : Int} {t : TypeId} (hx : inI x) (hy : inI y) (h : w.heap[b]? = some (.cells #[.int .i64 x, .int .i64 y] t (0, 0))) : ArgP w (.slice (some ⟨b, 0, none⟩) 1 1) := by
  refine ⟨_, 1, 1, rfl, Nat.le_refl _, by decide, (fun h => by cases h), fun i hi => ?_⟩
  obtain rfl : i = 0 := by omega
  have hlt := (Array.getElem?_eq_some_iff.1 h).1
  exact ⟨b, 0, x, y, rfl, hlt, hx, hy, by rw [Lib.cell_of_heap h]; rfl, by rw [Lib.cell_of_heap h]; rfl⟩
theorem own_none {w : World} {B b : Nat} (h : w.heap[b]? = some (.cells #[] 33 (0, 0))) (hB : B ≤ b) : w.ownsRow B 33 2 (.slice (some ⟨b, 0, none⟩) 0 0) 0 [] :=
  ⟨rfl, .inr ⟨b, 0, #[], rfl, hB, h, Nat.le_refl _, by unfold maxLen; omega, rfl, rfl⟩⟩
/-- each operation waits, in a drawn order, for earlier ones alone -/
def backAny (ops : Array Oper) : Bool := (List.range ops.size).all fun j => (ops[j]?).all fun o => o.after.all fun e => !Region.binds .any e || decide (e.on < j)
theorem all_done2 {ops : Array Oper} {listed : Array Bool} (h : backAny ops = true) (hsz : listed.size = ops.size) (hr : Region.ready .any ops listed = []) (j : Nat) (hj : j < ops.size) : listed.getD j false = true := by
  have := all_up hsz (fun j o ho e he hb => by
    have h1 := List.all_eq_true.1 h j (by simpa using (Array.getElem?_eq_some_iff.1 ho).1)
    rw [ho] at h1
    have h2 := Array.all_eq_true'.1 (show (o.after.all fun e => !Region.binds .any e || decide (e.on < j)) = true from h1) e he
    rw [hb] at h2
    simpa using h2) hr j hj
  have hs : j < listed.size := by omega
  simpa [hs] using this
end Go.Proofs.Ytodkppeikpaclaa
