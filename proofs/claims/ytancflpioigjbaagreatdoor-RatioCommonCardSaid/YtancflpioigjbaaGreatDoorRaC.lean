/- Package ratio: Of, value, Make. Each theorem names its conditions. -/
import Derived.Test.YtancflpioigjbaaGreatDoorRaB
namespace Go.Proofs.YtancflpioigjbaaGreatDoor
open Go.RowKit Go.Shelf
open Dgt
set_option linter.unusedVariables false

theorem row3_set {W : World} {b : Nat} {x0 x1 x2 : Value} {t : TypeId} (h : W.heap[b]? = some (.cells #[x0, x1, x2] t (0, 0))) : ∀ u0 u1 u2, (((W.setCell ⟨b, 0, none⟩ u0).setCell ⟨b, 1, none⟩ u1).setCell ⟨b, 2, none⟩ u2).heap[b]? = some (.cells #[u0, u1, u2] t (0, 0)) := fun u0 u1 u2 => row_set h u0 u1 u2
theorem results_cell_row2 {P : Program} {fn : Func} {p u : Tmp} {ty : TypeId} (h : fn.results = #[.cell p ty, .tmp u]) (tmps : Array Value) (w : World) (g : Nat) (t : TypeId) (cs : Array Value) (fr : Nat × Nat) (d : TypeDesc)
    (hp : tmps.getD p undef = .pointer (some ⟨g, 0, none⟩)) (hg : w.heap[g]? = some (.cells cs t fr))
    (hu : P.underlying ty = some d) (hd : (match d with | .struct _ | .array _ _ => true | _ => false) = true) (hi : (P.info? ty).map (·.size) = some cs.size) :
    (results fn tmps).run P w = .ok (.tuple #[.agg cs, tmps.getD u undef]) w := by
  rw [results_cell_tmp h, hp]
  simp [asAddr, run_loadVar_row w g t ty cs fr d hg hu hd hi, Result.andThen]
theorem zeroR_row (w : World) : (w.alloc (.cells #[.bool false, .string ⟨#[]⟩, .string ⟨#[]⟩] 26)).heap[w.heap.size]? = some (.cells #[.bool false, .string ⟨#[]⟩, .string ⟨#[]⟩] 26 (0, 0)) := heap_alloc_new w _
set_option maxHeartbeats 4000000 in
set_option maxRecDepth 100000 in
theorem RatOf_any (n : Int) (w : World) (h1 : -9223372036854775808 ≤ n) (h2 : n ≤ 9223372036854775807) :
    Calls Tryz.prog 15 #[.int .i64 n] w fun e w' => e = .returned (rtV (ofR n)) ∧ Below w.heap.size w w' := by
  by_cases hn : n < 0
  · have q1 : IntKind.i64.wrap (n + 1) = n + 1 := IntWalk.i64_in _ (by omega)
    have q2 : IntKind.i64.wrap (-(n + 1)) = -(n + 1) := IntWalk.i64_in _ (by omega)
    obtain ⟨m, hm⟩ : ∃ m : Nat, -(n + 1) = (m : Int) := ⟨(-(n + 1)).toNat, by omega⟩
    rw [hm] at q2
    have q5 : wrap64 (-(n + 1)) = (m : Int) := by unfold wrap64; omega
    have HO := Lib.hid (fun w => Of_any (m : Int) w (by omega)); have HO1 := Lib.hid (fun w => Of_any 1 w (by decide))
    simp only [Int.toNat_natCast] at HO
    have hmz : Sz m 8 := Nat.lt_of_lt_of_le (show m < 9223372036854775808 by omega) (by decide)
    have HA := Lib.hid (fun w => Add_n (numS_encS m) (numS_encS 1) (hmz.enc (by decide)) ((show Sz 1 1 by unfold Sz; decide).enc (by decide)) w)
    have HE : Hid (ofR n = ⟨true, m + 1, 1⟩) := Lib.hid (by unfold ofR; simp [hn]; omega)
    rw [HE.out]
    have q3 : ¬ (0 : Int) ≤ n := by omega
    clear hm hmz h1 h2
    go_enter Tryz.func15, Tryz.ntmps15
    go_wp2_with fail
    refine (HO.out _).mono ?_
    rintro e w1 ⟨rfl, hb1⟩
    go_wp2_with fail
    refine (HO1.out _).mono ?_
    rintro e w2 ⟨rfl, hb2⟩
    rw [show (1 : Int).toNat = 1 from rfl]
    go_wp2_with fail
    refine (HA.out _).mono ?_
    rintro e w3 ⟨rfl, hb3⟩
    go_wp2_with fail
    refine (HO1.out _).mono ?_
    rintro e w4 ⟨rfl, hb4⟩
    rw [show (1 : Int).toNat = 1 from rfl]
    have hr := heap_up hb4 (heap_up hb3 (heap_up hb2 (heap_up hb1 (zeroR_row w))))
    obtain ⟨⟨c0, c1, c2⟩, hf⟩ := row_cells hr
    have hf0 := hf 0; have hf1 := hf 1; have hf2 := hf 2
    have HROW := Lib.hid hr
    have h12 := hb1.trans (hb2.mono hb1.size)
    have h13 := h12.trans (hb3.mono h12.size)
    have h14 := h13.trans (hb4.mono h13.size)
    have HB := Lib.hid (((Below.refl w.heap.size w).alloc (Nat.le_refl _) (.cells #[.bool false, .string ⟨#[]⟩, .string ⟨#[]⟩] 26)).trans (h14.mono (by simp)))
    clear hr hf hb1 hb2 hb3 hb4 h12 h13 h14
    go_wp2_with fail
    refine bodyPost_ret (results_cell_row rfl _ _ w.heap.size 26 _ (0, 0) _ rfl (row_set HROW.out _ _ _) Tryz.underlying26 rfl (by kernel_rfl)) rfl ?_
    exact ⟨rfl, below_row HB.out (Nat.le_refl _) _ _ _⟩
  · obtain ⟨m, rfl⟩ : ∃ m : Nat, n = (m : Int) := ⟨n.toNat, by omega⟩
    have HO := Lib.hid (fun w => Of_any (m : Int) w (by omega)); have HO1 := Lib.hid (fun w => Of_any 1 w (by decide))
    simp only [Int.toNat_natCast] at HO
    have HE : Hid (ofR (m : Int) = ⟨false, m, 1⟩) := Lib.hid (by unfold ofR; simp)
    rw [HE.out]
    have q3 : (0 : Int) ≤ (m : Int) := by omega
    clear h1 h2
    go_enter Tryz.func15, Tryz.ntmps15
    go_wp2_with fail
    refine (HO.out _).mono ?_
    rintro e w1 ⟨rfl, hb1⟩
    go_wp2_with fail
    refine (HO1.out _).mono ?_
    rintro e w2 ⟨rfl, hb2⟩
    rw [show (1 : Int).toNat = 1 from rfl]
    have hr := heap_up hb2 (heap_up hb1 (zeroR_row w))
    obtain ⟨⟨c0, c1, c2⟩, hf⟩ := row_cells hr
    have hf0 := hf 0; have hf1 := hf 1; have hf2 := hf 2
    have HROW := Lib.hid hr
    have h12 := hb1.trans (hb2.mono hb1.size)
    have HB := Lib.hid (((Below.refl w.heap.size w).alloc (Nat.le_refl _) (.cells #[.bool false, .string ⟨#[]⟩, .string ⟨#[]⟩] 26)).trans (h12.mono (by simp)))
    clear hr hf hb1 hb2 h12
    go_wp2_with fail
    refine bodyPost_ret (results_cell_row rfl _ _ w.heap.size 26 _ (0, 0) _ rfl (row_set HROW.out _ _ _) Tryz.underlying26 rfl (by kernel_rfl)) rfl ?_
    exact ⟨rfl, below_row HB.out (Nat.le_refl _) _ _ _⟩
/-- value, of any raw number -/
theorem ofR_zero : ofR 0 = zeroR := rfl
set_option maxHeartbeats 4000000 in
set_option maxRecDepth 100000 in
theorem value_any (neg : Bool) (n d : ByteArray) (w : World) (sn : n.size ≤ 10000000) (sd : d.size ≤ 10000000) :
    Calls Tryz.prog 55 #[ratV neg n d] w fun e w' => e = .returned (rtV (valQ neg n d)) ∧ Below w.heap.size w w' := by
  have HR := Lib.hid (fun w => RatRight_any neg n d w sn sd)
  obtain ⟨R, hR⟩ : ∃ R, rightR neg n d = R := ⟨_, rfl⟩
  rw [hR] at HR
  have HRT := Lib.hid hR
  have HO := Lib.hid (fun w => RatOf_any 0 w (by decide) (by decide))
  clear hR sn sd
  unfold ratV at HR ⊢
  have hs2 : (w.alloc (.cells #[.bool neg, .string n, .string d] 26)).heap.size = w.heap.size + 1 := by simp
  have h0 := heap_up ((Below.refl _ (w.alloc (.cells #[.bool neg, .string n, .string d] 26))).alloc (Nat.le_refl _) (.cells #[.bool false, .string ⟨#[]⟩, .string ⟨#[]⟩] 26)) (heap_alloc_new w (.cells #[.bool neg, .string n, .string d] 26))
  have h1 := zeroR_row (w.alloc (.cells #[.bool neg, .string n, .string d] 26))
  rw [hs2] at h1
  have hb := ((Below.refl w.heap.size w).alloc (Nat.le_refl _) (.cells #[.bool neg, .string n, .string d] 26)).alloc (by simp) (.cells #[.bool false, .string ⟨#[]⟩, .string ⟨#[]⟩] 26)
  obtain ⟨W2, hW2⟩ : ∃ W2, (w.alloc (.cells #[.bool neg, .string n, .string d] 26)).alloc (.cells #[.bool false, .string ⟨#[]⟩, .string ⟨#[]⟩] 26) = W2 := ⟨_, rfl⟩
  rw [hW2] at h0 h1 hb
  have HB := Lib.hid hb; have H0 := Lib.hid h0; have H1 := Lib.hid h1
  obtain ⟨⟨a0, a1, a2⟩, -⟩ := row_cells h0
  clear hs2 h0 h1 hb
  go_enter Tryz.func55, Tryz.ntmps55
  go_wp2_with fail
  refine (HR.out _).mono ?_
  rintro e w3 ⟨rfl, hb3⟩
  have hr3 := heap_up hb3 H1.out
  obtain ⟨⟨b0, b1, b2⟩, -⟩ := row_cells (heap_up hb3 H0.out)
  obtain ⟨⟨c0, c1, c2⟩, hf⟩ := row_cells hr3
  have hf0 := hf 0; have hf1 := hf 1; have hf2 := hf 2
  have HB3 := Lib.hid (HB.out.trans (hb3.mono HB.out.size)); have HR3 := Lib.hid hr3
  clear hb3 hf hr3
  cases R
  · go_wp2_with fail
    refine (HO.out _).mono ?_
    rintro e w4 ⟨rfl, hb4⟩
    have hr4 := heap_up hb4 HR3.out
    obtain ⟨⟨d0, d1, d2⟩, hf⟩ := row_cells hr4
    have hg0 := hf 0; have hg1 := hf 1; have hg2 := hf 2
    have HR4 := Lib.hid hr4; have HB4 := Lib.hid (HB3.out.trans (hb4.mono HB3.out.size))
    clear hb4 hf hr4
    rw [ofR_zero]
    unfold rtV
    go_wp2_with fail
    refine bodyPost_ret (results_cell_row rfl _ _ (w.heap.size + 1) 26 _ (0, 0) _ rfl (row_set HR4.out _ _ _) Tryz.underlying26 rfl (by kernel_rfl)) rfl ?_
    refine ⟨?_, below_row HB4.out (by omega) _ _ _⟩
    unfold valQ
    rw [HRT.out]
    rfl
  · go_wp2_with fail
    refine bodyPost_ret (results_cell_row rfl _ _ (w.heap.size + 1) 26 _ (0, 0) _ rfl (row_set HR3.out _ _ _) Tryz.underlying26 rfl (by kernel_rfl)) rfl ?_
    refine ⟨?_, below_row HB3.out (by omega) _ _ _⟩
    have := ratV_right HRT.out
    unfold ratV at this
    rw [this]
end Go.Proofs.YtancflpioigjbaaGreatDoor
