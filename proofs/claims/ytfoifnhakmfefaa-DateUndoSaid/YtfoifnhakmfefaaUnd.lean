/- 'tithinglaw03.DateUndo' returns true at every input: the walk, the row. -/
import Derived.Test.YtfoifnhakmfefaaLaw
import Derived.Test.YtfoifnhakmfefaaSan
import Derived.Test.YtfoifnhakmfefaaLay
import Derived.Test.YtfoifnhakmfefaaArr
import Derived.ChangeMaps5
namespace Go.Proofs.Ytfoifnhakmfefaa.dateUndo
open Go.ChangeShapes Go.Shelf Cal Txt Go.WideShapes Go.ChangeAt Go.RowKit
open Go.ChangeMaps (open_string shut_string)
set_option linter.unusedVariables false

theorem lay_right (q0 q1 q2 : Int) : rightB (layS q0 q1 q2) = true ∧ ∀ b ∈ layS q0 q1 q2, b.toNat < 128 := by
  have hall : ∀ a : Fin 2, ∀ b : Fin 2, ∀ o : Fin 6, ∀ s : Fin 8, rightB (lay4 a.val b.val o.val s.val) = true ∧ (lay4 a.val b.val o.val s.val).all (fun b => decide (b.toNat < 128)) = true := by decide
  have h := hall ⟨(q0 % 2).toNat, by omega⟩ ⟨(q0.tdiv 2 % 2).toNat, by omega⟩ ⟨(q1 % 6).toNat, by omega⟩ ⟨(q2 % 8).toNat, by omega⟩
  have e : layS q0 q1 q2 = lay4 (q0 % 2).toNat (q0.tdiv 2 % 2).toNat (q1 % 6).toNat (q2 % 8).toNat := by
    unfold lay4
    rw [Int.toNat_of_nonneg (by omega), Int.toNat_of_nonneg (by omega), Int.toNat_of_nonneg (by omega), Int.toNat_of_nonneg (by omega)]
    rfl
  rw [e]
  refine ⟨h.1, fun b hb => ?_⟩
  simpa using List.all_eq_true.1 h.2 b hb
set_option maxHeartbeats 4000000 in
set_option maxRecDepth 100000 in
theorem walk (a0 a1 q0 q1 q2 : Int) (w0 : (Lit.int .u32 a0).wf = true) (w1 : (Lit.int .u32 a1).wf = true) (v0 : (Lit.int .i64 q0).wf = true) (v1 : (Lit.int .i64 q1).wf = true) (v2 : (Lit.int .i64 q2).wf = true) (w : World) :
    Calls Try.prog 10 #[.int .u32 a0, .int .u32 a1, .agg #[.int .i64 q0, .int .i64 q1, .int .i64 q2]] w (Gives w (.bool true)) := by
  obtain ⟨l0, l1⟩ := bounds_u32 w0
  obtain ⟨l2, l3⟩ := bounds_u32 w1
  obtain ⟨k0, k1⟩ := bounds_i64 v0
  obtain ⟨k2, k3⟩ := bounds_i64 v1
  obtain ⟨k4, k5⟩ := bounds_i64 v2
  obtain ⟨m, hm⟩ : ∃ m, m = a0 % 3652059 := ⟨_, rfl⟩
  obtain ⟨n, hn⟩ : ∃ n, n = a1 % 3652059 := ⟨_, rfl⟩
  obtain ⟨hr, ha⟩ := lay_right q0 q1 q2
  have hcon := Lib.hid (ca_ascii ha)
  have bm := fmt_back hr (n := m) (by omega) (by omega)
  have bn := fmt_back hr (n := n) (by omega) (by omega)
  have bi := fmt_back iso_rightB (n := m) (by omega) (by omega)
  obtain ⟨L, hL⟩ : ∃ L, layS q0 q1 q2 = L := ⟨_, rfl⟩
  have HL := Lib.hid hL
  rw [hL] at hr hcon bm bn
  have hml := Lib.hid (fmt_len L m)
  have BM := Lib.hid bm; have BN := Lib.hid bn; have BI := Lib.hid bi
  have HM := Lib.hid hm; have HN := Lib.hid hn
  clear hL hr ha bm bn bi hm hn
  go_enter Try.func10, Try.ntmps10
  go_wp2_with fail
  refine (sanity_any _).mono ?_
  rintro e w1' ⟨rfl, hb1⟩
  have hq : w1'.heap[w.heap.size]? = some (.cells #[.int .i64 q0, .int .i64 q1, .int .i64 q2] 22 (0, 0)) := by
    rw [hb1.block _ (by simp)]; exact heap_alloc_new w _
  have c0 : w1'.cell? ⟨w.heap.size, 0, none⟩ = some (.int .i64 q0) := by rw [Lib.cell_of_heap hq]; rfl
  have c1 : w1'.cell? ⟨w.heap.size, 1, none⟩ = some (.int .i64 q1) := by rw [Lib.cell_of_heap hq]; rfl
  have c2 : w1'.cell? ⟨w.heap.size, 2, none⟩ = some (.int .i64 q2) := by rw [Lib.cell_of_heap hq]; rfl
  have HB1 := Lib.hid (((Below.refl w.heap.size w).alloc (Nat.le_refl _) _).trans (hb1.mono (by simp)))
  clear hb1 hq
  go_wp2_with fail
  rw [← HM.out, ← HN.out]
  refine (Layout_any q0 q1 q2 false rfl _ k0 k1 k2 k3 k4 k5).mono ?_
  rintro e w2' ⟨rfl, hb2⟩
  have HB2 := Lib.hid (HB1.out.trans (hb2.mono HB1.out.size)); clear hb2
  rw [HL.out]
  go_wp2_with fail
  refine (Format_any L m hcon.out _).mono ?_
  rintro e w3' ⟨rfl, hb3⟩
  have HB3 := Lib.hid (HB2.out.trans (hb3.mono HB2.out.size)); clear hb3
  rw [BM.out.1]
  go_wp2_with fail
  refine (Format_any L n hcon.out _).mono ?_
  rintro e w4' ⟨rfl, hb4⟩
  have HB4 := Lib.hid (HB3.out.trans (hb4.mono HB3.out.size)); clear hb4
  rw [BN.out.1]
  go_wp2_with fail
  refine (Read_any L _ hcon.out hml.out _).mono ?_
  rintro e w5' ⟨rfl, hb5⟩
  have HB5 := Lib.hid (HB4.out.trans (hb5.mono HB4.out.size)); clear hb5
  rw [BM.out.2.1, BM.out.2.2]
  go_wp2_with fail
  refine (Format_any iso m ca_iso _).mono ?_
  rintro e w6' ⟨rfl, hb6⟩
  have HB6 := Lib.hid (HB5.out.trans (hb6.mono HB5.out.size)); clear hb6
  rw [BI.out.1]
  have hmn : m = n ∨ m ≠ n := by omega
  rcases hmn with h | h
  · subst h
    go_wp2_with fail
    refine (Text_any m _).mono ?_
    rintro e w7' ⟨rfl, hb7⟩
    have HB7 := Lib.hid (HB6.out.trans (hb7.mono HB6.out.size)); clear hb7
    rw [show textS m = fmtS iso m from rfl]
    go_wp2_with fail
    go_ret
    exact ⟨rfl, HB7.out⟩
  · have hne : fmtS L m ≠ fmtS L n := fun e => h (by rw [← BM.out.2.2, ← BN.out.2.2, e])
    have h1 : (fmtS L m == fmtS L n) = false := beq_eq_false_iff_ne.2 hne
    have h2 : (m == n) = false := beq_eq_false_iff_ne.2 h
    clear hne h
    go_wp2_with fail
    refine (Text_any m _).mono ?_
    rintro e w7' ⟨rfl, hb7⟩
    have HB7 := Lib.hid (HB6.out.trans (hb7.mono HB6.out.size)); clear hb7
    rw [show textS m = fmtS iso m from rfl]
    go_wp2_with fail
    go_ret
    exact ⟨rfl, HB7.out⟩

/-! ### THE ROW's STEP -/
theorem cel2 : Try.prog.cellsOf 3 = 1 := by kernel_rfl
theorem arr2 : Try.prog.cellsOf 22 = 3 := by kernel_rfl
set_option maxRecDepth 100000 in
theorem lifted (os : Os) (started : os.Started) (H : Type) (enc : TypeId × Value → H) :
    ReturnsInHanded {} Try.checked os 10 .any (Rows.dateUndoSpec.pre6 enc Try.prog Try.f10 Rows.dateUndoRow.domain false) (Rows.dateUndoSpec.post enc Try.prog Try.f10 false true false false) := by
  refine returnsInHanded_of_change (C := Try.checked) own started (by kernel_rfl) Try.func10
    (ChangeSpec.witness6 (enc := enc) (C := Try.checked) false ⟨#[], #[.int .u32 0, .int .u32 0, .agg #[.int .i64 0, .int .i64 0, .int .i64 0]], []⟩ 8 (by kernel_rfl) (by kernel_rfl) (by kernel_rfl) (by kernel_rfl)) ?_
  intro W base args ds gs before hval0 hW hcnd _
  have hval : ∀ (j : Nat) t v, Try.f10.params[j]? = some t → args[j]? = some v → Value.okWide Try.prog W .any base t v := hval0
  have hW' := hW
  obtain ⟨p, q, hA0, hV, rfl, hfz, hnd⟩ := hW
  have hA : DataW.TrodAll enc Try.prog W 0 (fun _ => true) true Try.f10.params.toList args.toList ds p := hA0
  rw [Try.params10] at hA hval
  obtain ⟨v0, vs0, d0, ds0, p0, q0, hargs, rfl, rfl, h0, r0⟩ := trodAll_cons hA
  obtain ⟨v1, vs1, d1, ds1, p1, q1, rfl, rfl, rfl, h1, r1⟩ := trodAll_cons r0
  obtain ⟨v2, vs2, d2, ds2, p2, q2, rfl, rfl, rfl, h2, r2⟩ := trodAll_cons r1
  obtain ⟨rfl, rfl, rfl⟩ := trodAll_nil r2
  obtain rfl : args = #[v0, v1, v2] := by cases args; simp_all
  obtain ⟨rfl, rfl⟩ := trodVars_none hV
  obtain ⟨a0, rfl, rfl, rfl, w0⟩ := open_int Try.underlying33 (hval 0 33 v0 rfl rfl) h0
  obtain ⟨a1, rfl, rfl, rfl, w1⟩ := open_int Try.underlying33 (hval 1 33 v1 rfl rfl) h1
  obtain ⟨xs2, hl2, rfl, rfl, rfl, w2⟩ := open_ints Try.underlying22 Try.underlying3 cel2 arr2 (hval 2 22 v2 rfl rfl) h2
  obtain ⟨x2_0, x2_1, x2_2, rfl⟩ := list3 xs2 hl2
  clear hA0 hval0
  simp only [List.append_nil] at hW'
  refine (walk a0 a1 x2_0 x2_1 x2_2 w0 w1 (w2 _ (by simp)) (w2 _ (by simp)) (w2 _ (by simp)) W).mono fun e W' ⟨he, hb⟩ => ?_
  subst he
  exact ⟨_, rfl, post_of_below (pa := []) (pv := []) hW' (fun _ _ _ => (trodAll_cons_mk (shut_bool Try.underlying4 _) trodAll_mk0)) (fun sp _ => (trodAll_cons_mk (shut_int Try.underlying33 w0) (trodAll_cons_mk (shut_int Try.underlying33 w1) (trodAll_cons_mk (shut_ints Try.underlying22 Try.underlying3 cel2 arr2 hl2 w2) trodAll_mk0)))) (fun _ _ => rfl) rfl
    hb (ok_one (by kernel_rfl) rfl (okWide_bool_mk Try.underlying4 _))⟩

theorem over : Rows.dateUndoRow.holds Try.pinned (OpenSpec.ofChange Rows.dateUndoSpec) :=
  OpenClaim.holds_of_wide 10 Try.f10 rfl rfl rfl rfl rfl rfl rfl ⟨rfl, rfl, rfl, rfl, rfl⟩ rfl rfl rfl rfl rfl (by kernel_rfl) Try.func10 (by kernel_rfl)
    (of_decide_eq_true (by kernel_rfl)) (by unfold Func.isWrapper; first | (rw [if_pos (by decide +kernel)]; kernel_rfl) | (rw [if_neg (by decide +kernel)]; exact ⟨rfl, rfl⟩))
    (fun os started H enc _ => lifted os started H enc)

theorem proved : Rows.DateUndoSaid :=
  over
#print axioms proved
end Go.Proofs.Ytfoifnhakmfefaa.dateUndo
