/- 'tithinglaw03.DateMonths' returns true at every input: the walk, the row. -/
import Derived.Test.YtfoifnhakmfefaaLaw
import Derived.Test.YtfoifnhakmfefaaSan
import Derived.Test.YtfoifnhakmfefaaRefB
namespace Go.Proofs.Ytfoifnhakmfefaa.dateMonths
open Go.ChangeShapes Go.Shelf Cal Txt Go.WideShapes Go.ChangeAt Go.RowKit
set_option linter.unusedVariables false

def PairsOf (a0 a1 : Int) : Array Value := #[.int .i64 a0, .int .i64 a1, .int .i64 (bits .and .i64 a0 4194303), .int .i64 a1,
  .int .i64 (bits .and .i64 a0 4194303), .int .i64 (bits .and .i64 a1 8191), .int .i64 (bits .and .i64 a0 4194303), .int .i64 (wrap64 (-bits .and .i64 a1 8191)),
  .int .i64 (bits .and .i64 a0 4194303), .int .i64 (bits .and .i64 a1 3)]
theorem pairs_at {a0 a1 : Int} {j : Nat} (h : j < 5) : ∃ x y : Int, (PairsOf a0 a1)[j * 2]? = some (.int .i64 x) ∧ (PairsOf a0 a1)[j * 2 + 1]? = some (.int .i64 y) := by
  have : j = 0 ∨ j = 1 ∨ j = 2 ∨ j = 3 ∨ j = 4 := by omega
  rcases this with rfl | rfl | rfl | rfl | rfl <;> exact ⟨_, _, rfl, rfl⟩

set_option maxHeartbeats 2000000 in
theorem walk (a0 a1 : Int) (w0 : (Lit.int .i64 a0).wf = true) (w1 : (Lit.int .i64 a1).wf = true) (w : World) :
    Calls Try.prog 6 #[.int .i64 a0, .int .i64 a1] w (Gives w (.bool true)) := by
  obtain ⟨l0, l1⟩ := bounds_i64 w0
  obtain ⟨l2, l3⟩ := bounds_i64 w1
  go_enter Try.func6, Try.ntmps6
  go_wp2_with fail
  refine (sanity_any _).mono ?_
  rintro e w1' ⟨rfl, hb1⟩
  have HB1 := Lib.hid hb1; clear hb1
  go_wp2_with fail
  go_loopw [37] (fun i wr => ∃ j : Nat, j ≤ 5 ∧ i = .int .i64 (j : Int) ∧ wr.heap[w1'.heap.size]? = some (.cells (PairsOf a0 a1) 37 (0, 0)) ∧ Below w.heap.size w wr) (fun i _ => 5 - (intOf i).toNat)
  case atStart => exact ⟨0, by omega, rfl, heap_alloc_new w1' _, HB1.out.alloc HB1.out.size _⟩
  case round =>
    obtain ⟨j, hj, rfl, hs, hbw⟩ := hrel
    have HBW := Lib.hid hbw
    clear hbw
    by_cases hlt : j < 5
    · obtain ⟨x, y, hx, hy⟩ := pairs_at (a0 := a0) (a1 := a1) hlt
      have cx : wr.cell? ⟨w1'.heap.size, j * 2, none⟩ = some (.int .i64 x) := by rw [Lib.cell_of_heap hs]; exact hx
      have cy : wr.cell? ⟨w1'.heap.size, j * 2 + 1, none⟩ = some (.int .i64 y) := by rw [Lib.cell_of_heap hs]; exact hy
      have HS := Lib.hid hs
      clear hs hx hy
      go_wp2_with fail
      refine (Months_any _ _ _).mono ?_
      rintro e w2' ⟨rfl, hb2⟩
      have hx2 : w2'.heap[wr.heap.size]? = some (.cells #[.int .i64 x, .int .i64 y] 37 (0, 0)) := by rw [hb2.block _ (by simp)]; exact heap_alloc_new wr _
      have dx : w2'.cell? ⟨wr.heap.size, 0, none⟩ = some (.int .i64 x) := by rw [Lib.cell_of_heap hx2]; rfl
      have dy : w2'.cell? ⟨wr.heap.size, 1, none⟩ = some (.int .i64 y) := by rw [Lib.cell_of_heap hx2]; rfl
      have hn2 := Lib.hid (((Below.refl wr.heap.size wr).alloc (Nat.le_refl _) (.cells #[.int .i64 x, .int .i64 y] 37)).trans (hb2.mono (by simp)))
      have HS2 := Lib.hid ((hn2.out.block _ (Array.getElem?_eq_some_iff.1 HS.out).1).trans HS.out)
      have HB2 := Lib.hid (HBW.out.trans (hn2.out.mono HBW.out.size))
      clear hb2 hx2
      go_wp2_with fail
      refine (rMonths_any _ _ _).mono ?_
      rintro e w3' ⟨rfl, rfl⟩
      go_wp2_with fail
      go_roundw
      case rel => exact ⟨j + 1, by omega, rfl, HS2.out, HB2.out⟩
      case measure => simp [intOf]; omega
    · have hj5 : j = 5 := by omega
      subst hj5
      go_wp2_with fail
      go_ret
      exact ⟨rfl, HBW.out⟩

/-! ### THE ROW's STEP: WRITTEN OUT: LEAVE IT -/
set_option maxRecDepth 100000 in
theorem lifted (os : Os) (started : os.Started) (H : Type) (enc : TypeId × Value → H) :
    ReturnsInHanded {} Try.checked os 6 .any (Rows.dateMonthsSpec.pre6 enc Try.prog Try.f6 Rows.dateMonthsRow.domain false) (Rows.dateMonthsSpec.post enc Try.prog Try.f6 false true false false) := by
  refine returnsInHanded_of_change (C := Try.checked) own started (by kernel_rfl) Try.func6
    (ChangeSpec.witness6 (enc := enc) (C := Try.checked) false ⟨#[], #[.int .i64 0, .int .i64 0], []⟩ 8 (by kernel_rfl) (by kernel_rfl) (by kernel_rfl) (by kernel_rfl)) ?_
  intro W base args ds gs before hval0 hW hcnd _
  have hval : ∀ (j : Nat) t v, Try.f6.params[j]? = some t → args[j]? = some v → Value.okWide Try.prog W .any base t v := hval0
  have hW' := hW
  obtain ⟨p, q, hA0, hV, rfl, hfz, hnd⟩ := hW
  have hA : DataW.TrodAll enc Try.prog W 0 (fun _ => true) true Try.f6.params.toList args.toList ds p := hA0
  rw [Try.params6] at hA hval
  obtain ⟨v0, vs0, d0, ds0, p0, q0, hargs, rfl, rfl, h0, r0⟩ := trodAll_cons hA
  obtain ⟨v1, vs1, d1, ds1, p1, q1, rfl, rfl, rfl, h1, r1⟩ := trodAll_cons r0
  obtain ⟨rfl, rfl, rfl⟩ := trodAll_nil r1
  obtain rfl : args = #[v0, v1] := by cases args; simp_all
  obtain ⟨rfl, rfl⟩ := trodVars_none hV
  obtain ⟨a0, rfl, rfl, rfl, w0⟩ := open_int Try.underlying3 (hval 0 3 v0 rfl rfl) h0
  obtain ⟨a1, rfl, rfl, rfl, w1⟩ := open_int Try.underlying3 (hval 1 3 v1 rfl rfl) h1
  clear hA0 hval0
  simp only [List.append_nil] at hW'
  refine (walk a0 a1 w0 w1 W).mono fun e W' ⟨he, hb⟩ => ?_
  subst he
  exact ⟨_, rfl, post_of_below (pa := []) (pv := []) hW' (fun _ _ _ => (trodAll_cons_mk (shut_bool Try.underlying4 _) trodAll_mk0)) (fun sp _ => (trodAll_cons_mk (shut_int Try.underlying3 w0) (trodAll_cons_mk (shut_int Try.underlying3 w1) trodAll_mk0))) (fun _ _ => rfl) rfl
    hb (ok_one (by kernel_rfl) rfl (okWide_bool_mk Try.underlying4 _))⟩

theorem over : Rows.dateMonthsRow.holds Try.pinned (OpenSpec.ofChange Rows.dateMonthsSpec) :=
  OpenClaim.holds_of_wide 6 Try.f6 rfl rfl rfl rfl rfl rfl rfl ⟨rfl, rfl, rfl, rfl, rfl⟩ rfl rfl rfl rfl rfl (by kernel_rfl) Try.func6 (by kernel_rfl)
    (of_decide_eq_true (by kernel_rfl)) (by unfold Func.isWrapper; first | (rw [if_pos (by decide +kernel)]; kernel_rfl) | (rw [if_neg (by decide +kernel)]; exact ⟨rfl, rfl⟩))
    (fun os started H enc _ => lifted os started H enc)

/-- ████ THE STATEMENT ████ -/
theorem proved : Rows.DateMonthsSaid :=
  over
#print axioms proved
end Go.Proofs.Ytfoifnhakmfefaa.dateMonths
