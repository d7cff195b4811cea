/- 'tithinglaw03.DateNumbers' returns true at every input: the walk, the row. -/
import Derived.Test.YtfoifnhakmfefaaLaw
import Derived.Test.YtfoifnhakmfefaaSan
import Derived.Test.YtfoifnhakmfefaaRefB
import Derived.Test.YtfoifnhakmfefaaArr
import Derived.Deep.RegionHeld3
import Derived.ChangeMaps5
namespace Go.Proofs.Ytfoifnhakmfefaa.dateNumbers
open Go.ChangeShapes Go.Shelf Cal Txt Go.WideShapes Go.ChangeAt Go.RowKit
open Go.ChangeMaps (open_string shut_string)
set_option linter.unusedVariables false

def Trips (q0 q1 q2 y g1 g2 g3 g4 g5 : Int) : Array Value := #[.int .i64 q0, .int .i64 q1, .int .i64 q2, .int .i64 y, .int .i64 g1, .int .i64 g2, .int .i64 g3, .int .i64 g4, .int .i64 g5]
theorem trips_at {q0 q1 q2 y g1 g2 g3 g4 g5 : Int} {j : Nat} (h : j < 3) : ∃ x y' z : Int, (Trips q0 q1 q2 y g1 g2 g3 g4 g5)[j * 3]? = some (.int .i64 x) ∧ (Trips q0 q1 q2 y g1 g2 g3 g4 g5)[j * 3 + 1]? = some (.int .i64 y') ∧ (Trips q0 q1 q2 y g1 g2 g3 g4 g5)[j * 3 + 2]? = some (.int .i64 z) := by
  have : j = 0 ∨ j = 1 ∨ j = 2 := by omega
  rcases this with rfl | rfl | rfl <;> exact ⟨_, _, _, rfl, rfl, rfl⟩
def Quads (a b c d : Int) : Array Value := #[.int .i64 a, .int .i64 b, .int .i64 c, .int .i64 d]
theorem quads_at {a b c d : Int} {j : Nat} (h : j < 4) : ∃ x : Int, (Quads a b c d)[j]? = some (.int .i64 x) := by
  have : j = 0 ∨ j = 1 ∨ j = 2 ∨ j = 3 := by omega
  rcases this with rfl | rfl | rfl | rfl <;> exact ⟨_, rfl⟩
set_option maxHeartbeats 4000000 in
set_option maxRecDepth 100000 in
theorem walk (q0 q1 q2 r0 r1 r2 n : Int) (w0 : (Lit.int .u8 r0).wf = true) (w1 : (Lit.int .u8 r1).wf = true) (w2 : (Lit.int .u8 r2).wf = true) (w : World) :
    Calls Try.prog 3 #[.agg #[.int .i64 q0, .int .i64 q1, .int .i64 q2], .agg #[.int .u8 r0, .int .u8 r1, .int .u8 r2], .int .i64 n] w (Gives w (.bool true)) := by
  obtain ⟨l0, l1⟩ := bounds_u8 w0
  obtain ⟨l2, l3⟩ := bounds_u8 w1
  obtain ⟨l4, l5⟩ := bounds_u8 w2
  go_enter Try.func3, Try.ntmps3
  go_wp2_with fail
  refine (sanity_any _).mono ?_
  rintro e w1' ⟨rfl, hb1⟩
  have HB1 := Lib.hid hb1; clear hb1
  have hq : w1'.heap[w.heap.size]? = some (.cells #[.int .i64 q0, .int .i64 q1, .int .i64 q2] 22 (0, 0)) := by
    rw [HB1.out.block _ (by simp; omega), Below.heap_alloc _ _ _ (by simp)]; exact heap_alloc_new w _
  have hr : w1'.heap[w.heap.size + 1]? = some (.cells #[.int .u8 r0, .int .u8 r1, .int .u8 r2] 23 (0, 0)) := by
    have := heap_alloc_new (w.alloc (.cells #[.int .i64 q0, .int .i64 q1, .int .i64 q2] 22)) (.cells #[.int .u8 r0, .int .u8 r1, .int .u8 r2] 23)
    rw [HB1.out.block _ (by simp)]; simpa using this
  have hbw : Below w.heap.size w w1' := (((Below.refl _ w).alloc (Nat.le_refl _) _).alloc (by simp) _).trans (HB1.out.mono (by simp; omega))
  have HQ := Lib.hid hq; have HR := Lib.hid hr; have HW := Lib.hid hbw
  clear hq hr hbw
  go_wp2_with fail
  obtain ⟨W1, hW1⟩ : ∃ W1, (w1'.alloc (.cells #[.int .i64 1, .int .i64 4, .int .i64 100, .int .i64 400, .int .i64 1900, .int .i64 2000, .int .i64 2024, .int .i64 9999] 3)) = W1 := ⟨_, rfl⟩
  rw [hW1]
  have hy : W1.heap[w1'.heap.size]? = some (.cells #[.int .i64 1, .int .i64 4, .int .i64 100, .int .i64 400, .int .i64 1900, .int .i64 2000, .int .i64 2024, .int .i64 9999] 3 (0, 0)) := by rw [← hW1]; exact heap_alloc_new w1' _
  have HB := Lib.hid (show Below w.heap.size w W1 by rw [← hW1]; exact HW.out.alloc HW.out.size _)
  have hq : W1.heap[w.heap.size]? = some (.cells #[.int .i64 q0, .int .i64 q1, .int .i64 q2] 22 (0, 0)) := by
    rw [← hW1, Below.heap_alloc _ _ _ (Array.getElem?_eq_some_iff.1 HQ.out).1]; exact HQ.out
  have hr : W1.heap[w.heap.size + 1]? = some (.cells #[.int .u8 r0, .int .u8 r1, .int .u8 r2] 23 (0, 0)) := by
    rw [← hW1, Below.heap_alloc _ _ _ (Array.getElem?_eq_some_iff.1 HR.out).1]; exact HR.out
  clear hW1
  obtain ⟨y, hyy⟩ : ∃ y : Int, W1.cell? ⟨w1'.heap.size, (r0 % 8).toNat, none⟩ = some (.int .i64 y) := by
    rw [Lib.cell_of_heap hy]
    have : (r0 % 8).toNat = 0 ∨ (r0 % 8).toNat = 1 ∨ (r0 % 8).toNat = 2 ∨ (r0 % 8).toNat = 3 ∨ (r0 % 8).toNat = 4 ∨ (r0 % 8).toNat = 5 ∨ (r0 % 8).toNat = 6 ∨ (r0 % 8).toNat = 7 := by omega
    rcases this with h | h | h | h | h | h | h | h <;> (rw [h]; exact ⟨_, rfl⟩)
  have c0 : W1.cell? ⟨w.heap.size, 0, none⟩ = some (.int .i64 q0) := by rw [Lib.cell_of_heap hq]; rfl
  have c1 : W1.cell? ⟨w.heap.size, 1, none⟩ = some (.int .i64 q1) := by rw [Lib.cell_of_heap hq]; rfl
  have c2 : W1.cell? ⟨w.heap.size, 2, none⟩ = some (.int .i64 q2) := by rw [Lib.cell_of_heap hq]; rfl
  have d0 : W1.cell? ⟨w.heap.size + 1, 0, none⟩ = some (.int .u8 r0) := by rw [Lib.cell_of_heap hr]; rfl
  have d1 : W1.cell? ⟨w.heap.size + 1, 1, none⟩ = some (.int .u8 r1) := by rw [Lib.cell_of_heap hr]; rfl
  have d2 : W1.cell? ⟨w.heap.size + 1, 2, none⟩ = some (.int .u8 r2) := by rw [Lib.cell_of_heap hr]; rfl
  have HY := Lib.hid hy; have HQ1 := Lib.hid hq; have HR1 := Lib.hid hr
  clear hy hq hr
  have e1 : r0.tmod 8 = r0 % 8 := Int.tmod_eq_emod_of_nonneg l0
  have e2 : r1.tmod 14 = r1 % 14 := Int.tmod_eq_emod_of_nonneg l2
  have e3 : r1.tmod 12 = r1 % 12 := Int.tmod_eq_emod_of_nonneg l2
  have e4 : r2.tmod 33 = r2 % 33 := Int.tmod_eq_emod_of_nonneg l4
  have e5 : r2.tmod 6 = r2 % 6 := Int.tmod_eq_emod_of_nonneg l4
  have b1 : 0 ≤ r0 % 8 := by omega
  have b2 : r0 % 8 < 8 := by omega
  go_region_held3 (fun w' => w'.cell? ⟨w.heap.size, 0, none⟩ = some (.int .i64 q0) ∧ w'.cell? ⟨w.heap.size, 1, none⟩ = some (.int .i64 q1) ∧ w'.cell? ⟨w.heap.size, 2, none⟩ = some (.int .i64 q2) ∧
      w'.cell? ⟨w.heap.size + 1, 0, none⟩ = some (.int .u8 r0) ∧ w'.cell? ⟨w.heap.size + 1, 1, none⟩ = some (.int .u8 r1) ∧ w'.cell? ⟨w.heap.size + 1, 2, none⟩ = some (.int .u8 r2) ∧ w'.cell? ⟨w1'.heap.size, (r0 % 8).toNat, none⟩ = some (.int .i64 y)) (first | go_keep) (first | fail)
  obtain ⟨g1, hg1⟩ : ∃ g, g = IntKind.i64.wrap (r1 % 14) := ⟨_, rfl⟩
  obtain ⟨g2, hg2⟩ : ∃ g, g = IntKind.i64.wrap (r2 % 33) := ⟨_, rfl⟩
  obtain ⟨g3, hg3⟩ : ∃ g, g = IntKind.i64.wrap (1 + bits .and .i64 q0 8191) := ⟨_, rfl⟩
  obtain ⟨g4, hg4⟩ : ∃ g, g = IntKind.i64.wrap (1 + IntKind.i64.wrap (r1 % 12)) := ⟨_, rfl⟩
  obtain ⟨g5, hg5⟩ : ∃ g, g = IntKind.i64.wrap (27 + IntKind.i64.wrap (r2 % 6)) := ⟨_, rfl⟩
  rw [← hg1, ← hg2, ← hg3, ← hg4, ← hg5]
  obtain ⟨W2, hW2⟩ : ∃ W2, (W1.alloc (.cells #[.int .i64 q0, .int .i64 q1, .int .i64 q2, .int .i64 y, .int .i64 g1, .int .i64 g2, .int .i64 g3, .int .i64 g4, .int .i64 g5] 22)).drew = W2 := ⟨_, rfl⟩
  rw [hW2]
  have hT : W2.heap[W1.heap.size]? = some (.cells (Trips q0 q1 q2 y g1 g2 g3 g4 g5) 22 (0, 0)) := by rw [← hW2]; exact heap_alloc_new W1 _
  have hB2 : Below W1.heap.size W1 W2 := by rw [← hW2]; exact ((Below.refl _ W1).alloc (Nat.le_refl _) _).drew
  have hs2 : W2.heap.size = W1.heap.size + 1 := by rw [← hW2]; simp
  have HT := Lib.hid hT; have HB2 := Lib.hid hB2; have HS2 := Lib.hid hs2
  clear hT hB2 hs2 hW2 hg1 hg2 hg3 hg4 hg5 e1 e2 e3 e4 e5 b1 b2 c0 c1 c2 d0 d1 d2 hyy
  go_wp2_with fail
  go_loopw [60] (fun i wr => ∃ j : Nat, j ≤ 3 ∧ i = .int .i64 (j : Int) ∧ Below (W1.heap.size + 1) W2 wr) (fun i _ => 3 - (intOf i).toNat)
  case atStart => exact ⟨0, by omega, rfl, Below.refl _ _⟩
  case round =>
    obtain ⟨j, hj, rfl, hbw⟩ := hrel
    have hs : wr.heap[W1.heap.size]? = some (.cells (Trips q0 q1 q2 y g1 g2 g3 g4 g5) 22 (0, 0)) := by rw [hbw.block _ (by omega)]; exact HT.out
    have HBW := Lib.hid hbw
    clear hbw
    by_cases hlt : j < 3
    · obtain ⟨x, y', z, hx, hy, hz⟩ := trips_at (q0 := q0) (q1 := q1) (q2 := q2) (y := y) (g1 := g1) (g2 := g2) (g3 := g3) (g4 := g4) (g5 := g5) hlt
      have cx : wr.cell? ⟨W1.heap.size, j * 3, none⟩ = some (.int .i64 x) := by rw [Lib.cell_of_heap hs]; exact hx
      have cy : wr.cell? ⟨W1.heap.size, j * 3 + 1, none⟩ = some (.int .i64 y') := by rw [Lib.cell_of_heap hs]; exact hy
      have cz : wr.cell? ⟨W1.heap.size, j * 3 + 2, none⟩ = some (.int .i64 z) := by rw [Lib.cell_of_heap hs]; exact hz
      have hsz : W1.heap.size + 1 ≤ wr.heap.size := by have := HBW.out.size; have := HS2.out; omega
      have HSZ := Lib.hid hsz
      clear hs hx hy hz hsz
      go_wp2_with fail
      refine (Number_any _ _ _ _).mono ?_
      rintro e w2' ⟨rfl, hb2⟩
      have hx2 : w2'.heap[wr.heap.size]? = some (.cells #[.int .i64 x, .int .i64 y', .int .i64 z] 22 (0, 0)) := by rw [hb2.block _ (by simp)]; exact heap_alloc_new wr _
      have dx : w2'.cell? ⟨wr.heap.size, 0, none⟩ = some (.int .i64 x) := by rw [Lib.cell_of_heap hx2]; rfl
      have dy : w2'.cell? ⟨wr.heap.size, 1, none⟩ = some (.int .i64 y') := by rw [Lib.cell_of_heap hx2]; rfl
      have dz : w2'.cell? ⟨wr.heap.size, 2, none⟩ = some (.int .i64 z) := by rw [Lib.cell_of_heap hx2]; rfl
      have hn2 := Lib.hid (((Below.refl wr.heap.size wr).alloc (Nat.le_refl _) (.cells #[.int .i64 x, .int .i64 y', .int .i64 z] 22)).trans (hb2.mono (by simp)))
      have HB3 := Lib.hid (HBW.out.trans (hn2.out.mono HSZ.out))
      clear hb2 hx2
      go_wp2_with fail
      refine (rNumber_any _ _ _ _).mono ?_
      rintro e w3' ⟨rfl, rfl⟩
      go_wp2_with fail
      refine (valid_any _ _ _ _).mono ?_
      rintro e w4' ⟨rfl, hb4⟩
      have HB4 := Lib.hid (HB3.out.trans (hb4.mono (Nat.le_trans HSZ.out hn2.out.size)))
      clear hb4
      go_wp2_with fail
      go_roundw
      case rel => exact ⟨j + 1, by omega, rfl, HB4.out⟩
      case measure => simp [intOf]; omega
    · have hj5 : (3 : Int) ≤ (j : Int) := by omega
      clear hs hlt
      have hr : wr.heap[w.heap.size + 1]? = some (.cells #[.int .u8 r0, .int .u8 r1, .int .u8 r2] 23 (0, 0)) := by
        have hlt := (Array.getElem?_eq_some_iff.1 HR1.out).1
        rw [HBW.out.block _ (by omega), HB2.out.block _ hlt]; exact HR1.out
      have d0 : wr.cell? ⟨w.heap.size + 1, 0, none⟩ = some (.int .u8 r0) := by rw [Lib.cell_of_heap hr]; rfl
      have d1 : wr.cell? ⟨w.heap.size + 1, 1, none⟩ = some (.int .u8 r1) := by rw [Lib.cell_of_heap hr]; rfl
      have d2 : wr.cell? ⟨w.heap.size + 1, 2, none⟩ = some (.int .u8 r2) := by rw [Lib.cell_of_heap hr]; rfl
      have hbb : Below w.heap.size w wr := HB.out.trans ((HB2.out.trans (HBW.out.mono (by omega))).mono HB.out.size)
      have HBB := Lib.hid hbb
      clear hbb hr
      go_wp2_with fail
      obtain ⟨wo, hwo⟩ : ∃ wo, wo = wr := ⟨_, rfl⟩
      subst hwo
      obtain ⟨V, hV⟩ : ∃ V, (wo.alloc (.cells (Quads n (bits .and .i64 n 4194303) (3652058 - r0) r1) 3)) = V := ⟨_, rfl⟩
      have hV' : (wo.alloc (.cells #[.int .i64 n, .int .i64 (bits .and .i64 n 4194303), .int .i64 (3652058 - r0), .int .i64 r1] 3)) = V := hV
      rw [hV']
      have hT : V.heap[wo.heap.size]? = some (.cells (Quads n (bits .and .i64 n 4194303) (3652058 - r0) r1) 3 (0, 0)) := by rw [← hV]; exact heap_alloc_new wo _
      have hB : Below w.heap.size w V := by rw [← hV]; exact HBB.out.alloc HBB.out.size _
      have hsv : V.heap.size = wo.heap.size + 1 := by rw [← hV]; simp
      have HT2 := Lib.hid hT; have HV := Lib.hid hB; have HSV := Lib.hid hsv
      clear hT hB hsv hV hV' d0 d1 d2
      go_loopw [116] (fun i wr' => ∃ j : Nat, j ≤ 4 ∧ i = .int .i64 (j : Int) ∧ Below (wo.heap.size + 1) V wr') (fun i _ => 4 - (intOf i).toNat)
      case atStart => exact ⟨0, by omega, rfl, Below.refl _ _⟩
      case round =>
        obtain ⟨j, hj', rfl, hbw⟩ := hrel
        have hs : wr.heap[wo.heap.size]? = some (.cells (Quads n (bits .and .i64 n 4194303) (3652058 - r0) r1) 3 (0, 0)) := by rw [hbw.block _ (by omega)]; exact HT2.out
        have HBW2 := Lib.hid hbw
        clear hbw
        by_cases hlt : j < 4
        · obtain ⟨x, hx⟩ := quads_at (a := n) (b := bits .and .i64 n 4194303) (c := 3652058 - r0) (d := r1) hlt
          have cx : wr.cell? ⟨wo.heap.size, j, none⟩ = some (.int .i64 x) := by rw [Lib.cell_of_heap hs]; exact hx
          have HSZ := Lib.hid (show wo.heap.size + 1 ≤ wr.heap.size by have := HBW2.out.size; have := HSV.out; omega)
          have cv := Lib.hid (show CivV x = .tuple #[.int .i64 (cyV x), .int .i64 (cmV x), .int .i64 (cdV x), .bool (insideB x)] from rfl)
          clear hs hx
          go_wp2_with fail
          refine (Civil_any _ _).mono ?_
          rintro e w2' ⟨rfl, hb2⟩
          rw [cv.out]
          have HB3 := Lib.hid (HBW2.out.trans (hb2.mono HSZ.out))
          clear hb2
          go_wp2_with fail
          refine (rCivil_any _ _).mono ?_
          rintro e w3' ⟨rfl, rfl⟩
          rw [cv.out]
          go_wp2_with fail
          go_roundw
          case rel => exact ⟨j + 1, by omega, rfl, HB3.out⟩
          case measure => simp [intOf]; omega
        · have hj5 : j = 4 := by omega
          subst hj5
          clear hs
          go_wp2_with fail
          go_ret
          exact ⟨rfl, HV.out.trans (HBW2.out.mono (by have := HBB.out.size; omega))⟩

/-! ### THE ROW's STEP -/
theorem cel0 : Try.prog.cellsOf 3 = 1 := by kernel_rfl
theorem arr0 : Try.prog.cellsOf 22 = 3 := by kernel_rfl
theorem cel1 : Try.prog.cellsOf 5 = 1 := by kernel_rfl
theorem arr1 : Try.prog.cellsOf 23 = 3 := by kernel_rfl
set_option maxRecDepth 100000 in
theorem lifted (os : Os) (started : os.Started) (H : Type) (enc : TypeId × Value → H) :
    ReturnsInHanded {} Try.checked os 3 .any (Rows.dateNumbersSpec.pre6 enc Try.prog Try.f3 Rows.dateNumbersRow.domain false) (Rows.dateNumbersSpec.post enc Try.prog Try.f3 false true false false) := by
  refine returnsInHanded_of_change (C := Try.checked) own started (by kernel_rfl) Try.func3
    (ChangeSpec.witness6 (enc := enc) (C := Try.checked) false ⟨#[], #[.agg #[.int .i64 0, .int .i64 0, .int .i64 0], .agg #[.int .u8 0, .int .u8 0, .int .u8 0], .int .i64 0], []⟩ 8 (by kernel_rfl) (by kernel_rfl) (by kernel_rfl) (by kernel_rfl)) ?_
  intro W base args ds gs before hval0 hW hcnd _
  have hval : ∀ (j : Nat) t v, Try.f3.params[j]? = some t → args[j]? = some v → Value.okWide Try.prog W .any base t v := hval0
  have hW' := hW
  obtain ⟨p, q, hA0, hV, rfl, hfz, hnd⟩ := hW
  have hA : DataW.TrodAll enc Try.prog W 0 (fun _ => true) true Try.f3.params.toList args.toList ds p := hA0
  rw [Try.params3] at hA hval
  obtain ⟨v0, vs0, d0, ds0, p0, q0, hargs, rfl, rfl, h0, r0⟩ := trodAll_cons hA
  obtain ⟨v1, vs1, d1, ds1, p1, q1, rfl, rfl, rfl, h1, r1⟩ := trodAll_cons r0
  obtain ⟨v2, vs2, d2, ds2, p2, q2, rfl, rfl, rfl, h2, r2⟩ := trodAll_cons r1
  obtain ⟨rfl, rfl, rfl⟩ := trodAll_nil r2
  obtain rfl : args = #[v0, v1, v2] := by cases args; simp_all
  obtain ⟨rfl, rfl⟩ := trodVars_none hV
  obtain ⟨xs0, hl0, rfl, rfl, rfl, w0⟩ := open_ints Try.underlying22 Try.underlying3 cel0 arr0 (hval 0 22 v0 rfl rfl) h0
  obtain ⟨x0_0, x0_1, x0_2, rfl⟩ := list3 xs0 hl0
  obtain ⟨xs1, hl1, rfl, rfl, rfl, w1⟩ := open_ints Try.underlying23 Try.underlying5 cel1 arr1 (hval 1 23 v1 rfl rfl) h1
  obtain ⟨x1_0, x1_1, x1_2, rfl⟩ := list3 xs1 hl1
  obtain ⟨a2, rfl, rfl, rfl, w2⟩ := open_int Try.underlying3 (hval 2 3 v2 rfl rfl) h2
  clear hA0 hval0
  simp only [List.append_nil] at hW'
  refine (walk x0_0 x0_1 x0_2 x1_0 x1_1 x1_2 a2 (w1 _ (by simp)) (w1 _ (by simp)) (w1 _ (by simp)) W).mono fun e W' ⟨he, hb⟩ => ?_
  subst he
  exact ⟨_, rfl, post_of_below (pa := []) (pv := []) hW' (fun _ _ _ => (trodAll_cons_mk (shut_bool Try.underlying4 _) trodAll_mk0)) (fun sp _ => (trodAll_cons_mk (shut_ints Try.underlying22 Try.underlying3 cel0 arr0 hl0 w0) (trodAll_cons_mk (shut_ints Try.underlying23 Try.underlying5 cel1 arr1 hl1 w1) (trodAll_cons_mk (shut_int Try.underlying3 w2) trodAll_mk0)))) (fun _ _ => rfl) rfl
    hb (ok_one (by kernel_rfl) rfl (okWide_bool_mk Try.underlying4 _))⟩

theorem over : Rows.dateNumbersRow.holds Try.pinned (OpenSpec.ofChange Rows.dateNumbersSpec) :=
  OpenClaim.holds_of_wide 3 Try.f3 rfl rfl rfl rfl rfl rfl rfl ⟨rfl, rfl, rfl, rfl, rfl⟩ rfl rfl rfl rfl rfl (by kernel_rfl) Try.func3 (by kernel_rfl)
    (of_decide_eq_true (by kernel_rfl)) (by unfold Func.isWrapper; first | (rw [if_pos (by decide +kernel)]; kernel_rfl) | (rw [if_neg (by decide +kernel)]; exact ⟨rfl, rfl⟩))
    (fun os started H enc _ => lifted os started H enc)

theorem proved : Rows.DateNumbersSaid :=
  over
#print axioms proved
end Go.Proofs.Ytfoifnhakmfefaa.dateNumbers
