/- 'tithinglaw03.DateAdds' returns true at every input: the walk, the row. -/
import Derived.Test.YtfoifnhakmfefaaLaw
import Derived.Test.YtfoifnhakmfefaaSan
import Derived.Test.YtfoifnhakmfefaaRefB
namespace Go.Proofs.Ytfoifnhakmfefaa.dateAdds
open Go.ChangeShapes Go.Shelf Cal Txt Go.WideShapes Go.ChangeAt Go.RowKit
set_option linter.unusedVariables false

theorem ofInt_i64 (a : Nat) (ha : a < 9223372036854775808) : (BitVec.ofInt 64 (a : Int)).toNat = a := by
  rw [BitVec.ofInt_natCast, BitVec.toNat_ofNat]; exact Nat.mod_eq_of_lt (by omega)
theorem and_bd (a : Int) (m : Nat) (hm : m < 9223372036854775808) : 0 ≤ bits .and .i64 a (m : Int) ∧ bits .and .i64 a (m : Int) ≤ m := by
  have hx : (BitVec.ofInt 64 a).toNat &&& m ≤ m := Nat.and_le_right
  have e : bits .and .i64 a (m : Int) = IntKind.i64.wrap ((BitVec.ofInt 64 a &&& BitVec.ofInt 64 (m : Int)).toNat : Int) := rfl
  rw [e, BitVec.toNat_and, ofInt_i64 m hm, IntKind.wrap_i64]
  omega
def PairsOf (a0 a1 : Int) : Array Value := #[.int .i64 a0, .int .i64 a1, .int .i64 (bits .and .i64 a0 2097151), .int .i64 a1,
  .int .i64 (bits .and .i64 a0 2097151), .int .i64 (bits .and .i64 a1 8191), .int .i64 (bits .and .i64 a0 2097151), .int .i64 (wrap64 (-bits .and .i64 a1 8191)),
  .int .i64 3652058, .int .i64 (bits .and .i64 a1 1), .int .i64 0, .int .i64 (wrap64 (-bits .and .i64 a1 1))]
theorem pairs_at {a0 a1 : Int} {j : Nat} (h : j < 6) : ∃ x y : Int, (PairsOf a0 a1)[j * 2]? = some (.int .i64 x) ∧ (PairsOf a0 a1)[j * 2 + 1]? = some (.int .i64 y) := by
  have : j = 0 ∨ j = 1 ∨ j = 2 ∨ j = 3 ∨ j = 4 ∨ j = 5 := by omega
  rcases this with rfl | rfl | rfl | rfl | rfl | rfl <;> exact ⟨_, _, rfl, rfl⟩
theorem wd_plain {k : Int} (h0 : 0 ≤ k) (h1 : k ≤ 2097151) : wdV (k + 7) = wdV k ∧ wdV (k + 1) = wdV k % 7 + 1 ∧ 0 ≤ wdV k ∧ wdV k ≤ 7 := by
  have i0 : insideB k = true := (inside_iff _).2 (by omega)
  have i1 : insideB (k + 7) = true := (inside_iff _).2 (by omega)
  have i2 : insideB (k + 1) = true := (inside_iff _).2 (by omega)
  simp only [wdV, i0, i1, i2, if_true]
  omega

set_option maxHeartbeats 4000000 in
set_option maxRecDepth 100000 in
theorem walk (a0 a1 : Int) (w0 : (Lit.int .i64 a0).wf = true) (w1 : (Lit.int .i64 a1).wf = true) (w : World) :
    Calls Try.prog 12 #[.int .i64 a0, .int .i64 a1] w (Gives w (.bool true)) := by
  obtain ⟨l0, l1⟩ := bounds_i64 w0
  obtain ⟨l2, l3⟩ := bounds_i64 w1
  obtain ⟨K, hK⟩ : ∃ K, K = bits .and .i64 a0 2097151 := ⟨_, rfl⟩
  have hk := and_bd a0 2097151 (by decide)
  rw [show ((2097151 : Nat) : Int) = 2097151 from rfl, ← hK] at hk
  obtain ⟨k0, k1⟩ := hk
  have hwd := wd_plain k0 k1
  obtain ⟨q1, q2, q3, q4⟩ := hwd
  have HQ1 := Lib.hid q1
  have HQ2 := Lib.hid q2
  have HKK := Lib.hid hK
  clear q1 q2 hK
  go_enter Try.func12, Try.ntmps12
  go_wp2_with fail
  refine (sanity_any _).mono ?_
  rintro e w1' ⟨rfl, hb1⟩
  have HB1 := Lib.hid hb1; clear hb1
  go_wp2_with fail
  go_loopw [50] (fun i wr => ∃ j : Nat, j ≤ 6 ∧ i = .int .i64 (j : Int) ∧ wr.heap[w1'.heap.size]? = some (.cells (PairsOf a0 a1) 37 (0, 0)) ∧ Below w.heap.size w wr) (fun i _ => 6 - (intOf i).toNat)
  case atStart => exact ⟨0, by omega, rfl, heap_alloc_new w1' _, HB1.out.alloc HB1.out.size _⟩
  case round =>
    obtain ⟨j, hj, rfl, hs, hbw⟩ := hrel
    have HBW := Lib.hid hbw
    clear hbw
    by_cases hlt : j < 6
    · obtain ⟨x, y, hx, hy⟩ := pairs_at (a0 := a0) (a1 := a1) hlt
      have cx : wr.cell? ⟨w1'.heap.size, j * 2, none⟩ = some (.int .i64 x) := by rw [Lib.cell_of_heap hs]; exact hx
      have cy : wr.cell? ⟨w1'.heap.size, j * 2 + 1, none⟩ = some (.int .i64 y) := by rw [Lib.cell_of_heap hs]; exact hy
      have HS := Lib.hid hs
      have HS2 := Lib.hid ((Below.heap_alloc wr (.cells #[.int .i64 x, .int .i64 y] 37) _ (Array.getElem?_eq_some_iff.1 hs).1).trans hs)
      have HB2 := Lib.hid (HBW.out.alloc HBW.out.size (.cells #[.int .i64 x, .int .i64 y] 37))
      clear hs hx hy
      go_wp2_with fail
      refine (Add_any _ _ _).mono ?_
      rintro e w2' ⟨rfl, rfl⟩
      go_wp2_with fail
      refine (rAdd_any _ _ _).mono ?_
      rintro e w3' ⟨rfl, rfl⟩
      go_wp2_with fail
      refine (Weekday_any _ _).mono ?_
      rintro e w4' ⟨rfl, rfl⟩
      go_wp2_with fail
      refine (rWeekday_any _ _).mono ?_
      rintro e w5' ⟨rfl, rfl⟩
      go_wp2_with fail
      go_roundw
      case rel => exact ⟨j + 1, by omega, rfl, HS2.out, HB2.out⟩
      case measure => simp [intOf]; omega
    · have hj5 : j = 6 := by omega
      subst hj5
      go_wp2_with fail
      rw [← HKK.out]
      refine (Weekday_any _ _).mono ?_
      rintro e w2' ⟨rfl, rfl⟩
      go_wp2_with fail
      refine (Weekday_any _ _).mono ?_
      rintro e w2' ⟨rfl, rfl⟩
      rw [HQ1.out]
      go_wp2_with fail
      refine (Weekday_any _ _).mono ?_
      rintro e w2' ⟨rfl, rfl⟩
      rw [HQ2.out]
      go_wp2_with fail
      go_ret
      exact ⟨rfl, HBW.out⟩

/-! ### THE ROW's STEP: WRITTEN OUT: LEAVE IT -/
set_option maxRecDepth 100000 in
theorem lifted (os : Os) (started : os.Started) (H : Type) (enc : TypeId × Value → H) :
    ReturnsInHanded {} Try.checked os 12 .any (Rows.dateAddsSpec.pre6 enc Try.prog Try.f12 Rows.dateAddsRow.domain false) (Rows.dateAddsSpec.post enc Try.prog Try.f12 false true false false) := by
  refine returnsInHanded_of_change (C := Try.checked) own started (by kernel_rfl) Try.func12
    (ChangeSpec.witness6 (enc := enc) (C := Try.checked) false ⟨#[], #[.int .i64 0, .int .i64 0], []⟩ 8 (by kernel_rfl) (by kernel_rfl) (by kernel_rfl) (by kernel_rfl)) ?_
  intro W base args ds gs before hval0 hW hcnd _
  have hval : ∀ (j : Nat) t v, Try.f12.params[j]? = some t → args[j]? = some v → Value.okWide Try.prog W .any base t v := hval0
  have hW' := hW
  obtain ⟨p, q, hA0, hV, rfl, hfz, hnd⟩ := hW
  have hA : DataW.TrodAll enc Try.prog W 0 (fun _ => true) true Try.f12.params.toList args.toList ds p := hA0
  rw [Try.params12] at hA hval
  obtain ⟨v0, vs0, d0, ds0, p0, q0, hargs, rfl, rfl, h0, r0⟩ := trodAll_cons hA
  obtain ⟨v1, vs1, d1, ds1, p1, q1, rfl, rfl, rfl, h1, r1⟩ := trodAll_cons r0
  obtain ⟨rfl, rfl, rfl⟩ := trodAll_nil r1
  obtain rfl : args = #[v0, v1] := by cases args; simp_all
  obtain ⟨rfl, rfl⟩ := trodVars_none hV
  obtain ⟨a0, rfl, rfl, rfl, w0⟩ := open_int Try.underlying3 (hval 0 3 v0 rfl rfl) h0
  obtain ⟨a1, rfl, rfl, rfl, w1⟩ := open_int Try.underlying3 (hval 1 3 v1 rfl rfl) h1
  clear hA0 hval0
  simp only [List.append_nil] at hW'
  refine (walk a0 a1 w0 w1 W).mono fun e W' ⟨he, hb⟩ => ?_
  subst he
  exact ⟨_, rfl, post_of_below (pa := []) (pv := []) hW' (fun _ _ _ => (trodAll_cons_mk (shut_bool Try.underlying4 _) trodAll_mk0)) (fun sp _ => (trodAll_cons_mk (shut_int Try.underlying3 w0) (trodAll_cons_mk (shut_int Try.underlying3 w1) trodAll_mk0))) (fun _ _ => rfl) rfl
    hb (ok_one (by kernel_rfl) rfl (okWide_bool_mk Try.underlying4 _))⟩

theorem over : Rows.dateAddsRow.holds Try.pinned (OpenSpec.ofChange Rows.dateAddsSpec) :=
  OpenClaim.holds_of_wide 12 Try.f12 rfl rfl rfl rfl rfl rfl rfl ⟨rfl, rfl, rfl, rfl, rfl⟩ rfl rfl rfl rfl rfl (by kernel_rfl) Try.func12 (by kernel_rfl)
    (of_decide_eq_true (by kernel_rfl)) (by unfold Func.isWrapper; first | (rw [if_pos (by decide +kernel)]; kernel_rfl) | (rw [if_neg (by decide +kernel)]; exact ⟨rfl, rfl⟩))
    (fun os started H enc _ => lifted os started H enc)

/-- ████ THE STATEMENT ████ -/
theorem proved : Rows.DateAddsSaid :=
  over
#print axioms proved
end Go.Proofs.Ytfoifnhakmfefaa.dateAdds
