/- RatioMakes: the walk. Each theorem names its conditions. -/
import Derived.Test.YtancflpioigjbaaGreatDoorRaH
namespace Go.Proofs.YtancflpioigjbaaGreatDoor.ratioMakes
open Go.RowKit Go.Shelf
open Dgt
set_option linter.unusedVariables false

theorem cut_size (s : ByteArray) (k : Nat) (hk : k ≤ 20) : (s.extract 0 k).size ≤ 20 := by
  rw [ByteArray.size_extract]; omega
set_option maxHeartbeats 4000000 in
set_option maxRecDepth 100000 in
theorem walk (neg : Bool) (sa sb : ByteArray) (n : Int) (wq : World) (za : (sa.size : Int) ≤ 9223372036854775807) (zb : (sb.size : Int) ≤ 9223372036854775807) (rn : inJ n) (htab : Lib.TabIs Tryz.prog wq "internal/strconv.uint64pow10" .u64 Lib.pow10Tab) (m0 : Int) (hm : wq.cell? ⟨0, 0, none⟩ = some (.int .i64 m0)) :
    Calls Tryz.prog 3 #[.bool neg, .agg #[.string sa, .string sb], .int .i64 n] wq fun e w' => e = .returned (.bool true) ∧ Below wq.heap.size wq w' := by
  have HB := Lib.hid (Below.refl wq.heap.size wq)
  have HT := Lib.hid (Lib.tabBelow_of_tabIs htab)
  have HSAN := Lib.hid (fun W (h : Below wq.heap.size wq W) => sanity_any W (HT.out.on h).here m0 (cell_zero (W := W) hm h))
  obtain ⟨k0, hk0⟩ : ∃ k : Nat, min (sa.size : Int) 20 = (k : Int) := ⟨(min (sa.size : Int) 20).toNat, by omega⟩
  obtain ⟨ca, hca⟩ : ∃ c, sa.extract 0 k0 = c := ⟨_, rfl⟩
  have zca : ca.size ≤ 20 := by rw [← hca]; exact cut_size _ _ (by omega)
  have lk0 : (0 : Int) ≤ ((k0 : Nat) : Int) ∧ ((k0 : Nat) : Int) ≤ (sa.size : Int) := by omega
  obtain ⟨k1, hk1⟩ : ∃ k : Nat, min (sb.size : Int) 20 = (k : Int) := ⟨(min (sb.size : Int) 20).toNat, by omega⟩
  obtain ⟨cb, hcb⟩ : ∃ c, sb.extract 0 k1 = c := ⟨_, rfl⟩
  have zcb : cb.size ≤ 20 := by rw [← hcb]; exact cut_size _ _ (by omega)
  have lk1 : (0 : Int) ≤ ((k1 : Nat) : Int) ∧ ((k1 : Nat) : Int) ≤ (sb.size : Int) := by omega
  have H0 := Lib.hid hk0; have H1 := Lib.hid hk1; have HCA := Lib.hid hca; have HCB := Lib.hid hcb; have L0 := Lib.hid lk0; have L1 := Lib.hid lk1
  obtain ⟨mn, ms, md, mu, h_m⟩ : ∃ n s d u, makeV neg ca cb = .tuple #[.agg #[.bool n, .string s, .string d], .bool u] := by unfold makeV; split <;> exact ⟨_, _, _, _, rfl⟩
  have C1 : Hid (∀ w, Calls Tryz.prog 11 #[.bool neg, .string ca, .string cb] w fun e w' => e = .returned (.tuple #[.agg #[.bool mn, .string ms, .string md], .bool mu]) ∧ Below w.heap.size w w') := Lib.hid fun w => by
    have h := (fun w => RatMake_any neg ca cb w (by omega) (by omega)) w
    rw [h_m] at h
    exact h
  have C2 : Hid (∀ w, Calls Tryz.prog 12 #[.bool neg, .string ca, .string cb] w fun e w' => e = .returned (.tuple #[.agg #[.bool mn, .string ms, .string md], .bool mu]) ∧ Below w.heap.size w w') := Lib.hid fun w => by
    have h := (fun w => rRatMake_any neg ca cb w (by omega) (by omega)) w
    rw [h_m] at h
    exact h
  obtain ⟨x, hx⟩ : ∃ x, (n % 1099511627776).toNat = x := ⟨_, rfl⟩
  have lx := mod_lt _ _ _ hx (by decide)
  obtain ⟨y, hy⟩ : ∃ y, 1 + ca.size = y := ⟨_, rfl⟩
  have C3 : Hid (∀ w, Calls Tryz.prog 14 #[.int .i64 n, .int .i64 1099511627776] w fun e w' => e = .returned (.int .i64 (x : Int)) ∧ Below w.heap.size w w') := Lib.hid fun w => by
    refine (Mod_f n 1099511627776 x hx w rn.1 rn.2 (by decide) (by decide)).mono ?_
    rintro e w' ⟨rfl, rfl⟩
    exact ⟨rfl, Below.refl _ _⟩
  have C4 : Hid (∀ w, Calls Tryz.prog 13 #[.int .i64 (x : Int)] w fun e w' => e = .returned (.string (encS x)) ∧ Below w.heap.size w w') := Lib.hid fun w => by
    have h := (fun w => rOf_f x w (by omega)) w
    exact h
  have C5 : Hid (∀ w, Calls Tryz.prog 13 #[.int .i64 (y : Int)] w fun e w' => e = .returned (.string (encS y)) ∧ Below w.heap.size w w') := Lib.hid fun w => by
    have h := (fun w => rOf_f y w (by omega)) w
    exact h
  obtain ⟨on, os, od, ou, h_o⟩ : ∃ n s d u, makeV neg (encS x) (encS y) = .tuple #[.agg #[.bool n, .string s, .string d], .bool u] := by unfold makeV; split <;> exact ⟨_, _, _, _, rfl⟩
  have sx : (encS x).size ≤ 1000 := Nat.le_trans (encS_size_lt (show Sz x 8 by unfold Sz; omega)) (by decide)
  have sy : (encS y).size ≤ 1000 := Nat.le_trans (encS_size_lt (show Sz y 8 by unfold Sz; omega)) (by decide)
  have C6 : Hid (∀ w, Calls Tryz.prog 11 #[.bool neg, .string (encS x), .string (encS y)] w fun e w' => e = .returned (.tuple #[.agg #[.bool on, .string os, .string od], .bool ou]) ∧ Below w.heap.size w w') := Lib.hid fun w => by
    have h := (fun w => RatMake_any neg (encS x) (encS y) w (by omega) (by omega)) w
    rw [h_o] at h
    exact h
  have C7 : Hid (∀ w, Calls Tryz.prog 12 #[.bool neg, .string (encS x), .string (encS y)] w fun e w' => e = .returned (.tuple #[.agg #[.bool on, .string os, .string od], .bool ou]) ∧ Below w.heap.size w w') := Lib.hid fun w => by
    have h := (fun w => rRatMake_any neg (encS x) (encS y) w (by omega) (by omega)) w
    rw [h_o] at h
    exact h
  obtain ⟨f, h_f⟩ : ∃ t, ofR n = t := ⟨_, rfl⟩
  have o_f : f.Ok := by rw [← h_f]; exact ofR_ok n
  have z_f : Rz f 8 := by rw [← h_f]; exact ofR_sz rn.1 rn.2
  have C8 : Hid (∀ w, Calls Tryz.prog 15 #[.int .i64 n] w fun e w' => e = .returned (.agg #[.bool f.neg, .string (encS f.num), .string (encS f.den)]) ∧ Below w.heap.size w w') := Lib.hid fun w => by
    have h := (fun w => RatOf_any n w rn.1 rn.2) w
    rw [h_f] at h
    exact h
  have C9 : Hid (∀ w, Calls Tryz.prog 16 #[.int .i64 n] w fun e w' => e = .returned (.agg #[.bool f.neg, .string (encS f.num), .string (encS f.den)]) ∧ Below w.heap.size w w') := Lib.hid fun w => by
    have h := (fun w => rRatOf_any n w rn.1 rn.2) w
    rw [h_f] at h
    exact h
  have C10 : Hid (∀ w, Calls Tryz.prog 17 #[.agg #[.bool f.neg, .string (encS f.num), .string (encS f.den)]] w fun e w' => e = .returned (.bool true) ∧ Below w.heap.size w w') := Lib.hid fun w => by
    have h := (fun w => RatRight_any f.neg (encS f.num) (encS f.den) w (Nat.le_trans (encS_size_lt z_f.1) (by decide)) (Nat.le_trans (encS_size_lt z_f.2) (by decide))) w
    rw [rightR_of o_f] at h
    exact h
  have HY : Hid (IntKind.i64.wrap (1 + (ca.size : Int)) = (y : Int)) := Lib.hid (by rw [IntWalk.i64_in _ (by omega)]; omega)
  clear o_f z_f h_f htab hm hk0 hk1 hca hcb lk0 lk1 zca zcb h_m h_o hx hy lx sx sy rn za zb
  have h0 := heap_alloc_new wq (.cells #[.string sa, .string sb] 23)
  have hbb := (Below.refl wq.heap.size wq).alloc (Nat.le_refl _) (.cells #[.string sa, .string sb] 23)
  obtain ⟨W0, hW0⟩ : ∃ W0, wq.alloc (.cells #[.string sa, .string sb] 23) = W0 := ⟨_, rfl⟩
  rw [hW0] at h0 hbb
  have HI := Lib.hid h0; have HB := Lib.hid hbb; clear h0 hbb
  go_enter Tryz.func3, Tryz.ntmps3
  go_wp2_with fail
  clear hW0
  obtain ⟨bi, hbi⟩ : ∃ b, wq.heap.size = b := ⟨_, rfl⟩
  rw [hbi] at HI ⊢; clear hbi
  refine (HSAN.out _ HB.out).mono ?_
  rintro e w1 ⟨rfl, hb⟩
  have HI := Lib.hid (heap_up hb HI.out)
  have HB := Lib.hid (HB.out.trans (hb.mono HB.out.size))
  clear hb
  have h0 := H0.out; have h1 := H1.out; have l0 := L0.out; have l1 := L1.out; have hca := HCA.out; have hcb := HCB.out; have hy := HY.out
  have k1 : w1.cell? ⟨bi, 0, none⟩ = some (.string sa) := by rw [Lib.cell_of_heap HI.out]; rfl
  have k2 : w1.cell? ⟨bi, 1, none⟩ = some (.string sb) := by rw [Lib.cell_of_heap HI.out]; rfl
  go_wp2_with fail
  clear k1 k2
  refine (C1.out _).mono ?_
  rintro e w2 ⟨rfl, hb⟩
  have HI := Lib.hid (heap_up hb HI.out)
  have HB := Lib.hid (HB.out.trans (hb.mono HB.out.size))
  clear hb
  have HX10 := Lib.hid (heap_alloc_new w2 (.cells #[.bool mn, .string ms, .string md] 26))
  have HB := Lib.hid (HB.out.alloc HB.out.size (.cells #[.bool mn, .string ms, .string md] 26))
  have HI := Lib.hid (heap_up ((Below.refl _ w2).alloc (Nat.le_refl _) (.cells #[.bool mn, .string ms, .string md] 26)) HI.out)
  obtain ⟨W3, hW3⟩ : ∃ W, w2.alloc (.cells #[.bool mn, .string ms, .string md] 26) = W := ⟨_, rfl⟩
  rw [hW3] at HI HX10 HB
  go_wp2_with fail
  clear hW3
  obtain ⟨b10, hbb⟩ : ∃ b, w2.heap.size = b := ⟨_, rfl⟩
  rw [hbb] at HX10
  try rw [hbb]
  clear hbb
  refine (C2.out _).mono ?_
  rintro e w4 ⟨rfl, hb⟩
  have HI := Lib.hid (heap_up hb HI.out)
  have HX10 := Lib.hid (heap_up hb HX10.out)
  have HB := Lib.hid (HB.out.trans (hb.mono HB.out.size))
  clear hb
  have HX12 := Lib.hid (heap_alloc_new w4 (.cells #[.bool mn, .string ms, .string md] 26))
  have HB := Lib.hid (HB.out.alloc HB.out.size (.cells #[.bool mn, .string ms, .string md] 26))
  have HI := Lib.hid (heap_up ((Below.refl _ w4).alloc (Nat.le_refl _) (.cells #[.bool mn, .string ms, .string md] 26)) HI.out)
  have HX10 := Lib.hid (heap_up ((Below.refl _ w4).alloc (Nat.le_refl _) (.cells #[.bool mn, .string ms, .string md] 26)) HX10.out)
  obtain ⟨W5, hW5⟩ : ∃ W, w4.alloc (.cells #[.bool mn, .string ms, .string md] 26) = W := ⟨_, rfl⟩
  rw [hW5] at HI HX10 HX12 HB
  go_wp2_with fail
  clear hW5
  obtain ⟨b12, hbb⟩ : ∃ b, w4.heap.size = b := ⟨_, rfl⟩
  rw [hbb] at HX12
  try rw [hbb]
  clear hbb
  refine (C3.out _).mono ?_
  rintro e w6 ⟨rfl, hb⟩
  have HI := Lib.hid (heap_up hb HI.out)
  have HX10 := Lib.hid (heap_up hb HX10.out)
  have HX12 := Lib.hid (heap_up hb HX12.out)
  have HB := Lib.hid (HB.out.trans (hb.mono HB.out.size))
  clear hb
  go_wp2_with fail
  refine (C4.out _).mono ?_
  rintro e w7 ⟨rfl, hb⟩
  have HI := Lib.hid (heap_up hb HI.out)
  have HX10 := Lib.hid (heap_up hb HX10.out)
  have HX12 := Lib.hid (heap_up hb HX12.out)
  have HB := Lib.hid (HB.out.trans (hb.mono HB.out.size))
  clear hb
  go_wp2_with fail
  refine (C5.out _).mono ?_
  rintro e w8 ⟨rfl, hb⟩
  have HI := Lib.hid (heap_up hb HI.out)
  have HX10 := Lib.hid (heap_up hb HX10.out)
  have HX12 := Lib.hid (heap_up hb HX12.out)
  have HB := Lib.hid (HB.out.trans (hb.mono HB.out.size))
  clear hb
  go_wp2_with fail
  refine (C6.out _).mono ?_
  rintro e w9 ⟨rfl, hb⟩
  have HI := Lib.hid (heap_up hb HI.out)
  have HX10 := Lib.hid (heap_up hb HX10.out)
  have HX12 := Lib.hid (heap_up hb HX12.out)
  have HB := Lib.hid (HB.out.trans (hb.mono HB.out.size))
  clear hb
  have HX14 := Lib.hid (heap_alloc_new w9 (.cells #[.bool on, .string os, .string od] 26))
  have HB := Lib.hid (HB.out.alloc HB.out.size (.cells #[.bool on, .string os, .string od] 26))
  have HI := Lib.hid (heap_up ((Below.refl _ w9).alloc (Nat.le_refl _) (.cells #[.bool on, .string os, .string od] 26)) HI.out)
  have HX10 := Lib.hid (heap_up ((Below.refl _ w9).alloc (Nat.le_refl _) (.cells #[.bool on, .string os, .string od] 26)) HX10.out)
  have HX12 := Lib.hid (heap_up ((Below.refl _ w9).alloc (Nat.le_refl _) (.cells #[.bool on, .string os, .string od] 26)) HX12.out)
  obtain ⟨W10, hW10⟩ : ∃ W, w9.alloc (.cells #[.bool on, .string os, .string od] 26) = W := ⟨_, rfl⟩
  rw [hW10] at HI HX10 HX12 HX14 HB
  go_wp2_with fail
  clear hW10
  obtain ⟨b14, hbb⟩ : ∃ b, w9.heap.size = b := ⟨_, rfl⟩
  rw [hbb] at HX14
  try rw [hbb]
  clear hbb
  refine (C3.out _).mono ?_
  rintro e w11 ⟨rfl, hb⟩
  have HI := Lib.hid (heap_up hb HI.out)
  have HX10 := Lib.hid (heap_up hb HX10.out)
  have HX12 := Lib.hid (heap_up hb HX12.out)
  have HX14 := Lib.hid (heap_up hb HX14.out)
  have HB := Lib.hid (HB.out.trans (hb.mono HB.out.size))
  clear hb
  go_wp2_with fail
  refine (C4.out _).mono ?_
  rintro e w12 ⟨rfl, hb⟩
  have HI := Lib.hid (heap_up hb HI.out)
  have HX10 := Lib.hid (heap_up hb HX10.out)
  have HX12 := Lib.hid (heap_up hb HX12.out)
  have HX14 := Lib.hid (heap_up hb HX14.out)
  have HB := Lib.hid (HB.out.trans (hb.mono HB.out.size))
  clear hb
  go_wp2_with fail
  refine (C5.out _).mono ?_
  rintro e w13 ⟨rfl, hb⟩
  have HI := Lib.hid (heap_up hb HI.out)
  have HX10 := Lib.hid (heap_up hb HX10.out)
  have HX12 := Lib.hid (heap_up hb HX12.out)
  have HX14 := Lib.hid (heap_up hb HX14.out)
  have HB := Lib.hid (HB.out.trans (hb.mono HB.out.size))
  clear hb
  go_wp2_with fail
  refine (C7.out _).mono ?_
  rintro e w14 ⟨rfl, hb⟩
  have HI := Lib.hid (heap_up hb HI.out)
  have HX10 := Lib.hid (heap_up hb HX10.out)
  have HX12 := Lib.hid (heap_up hb HX12.out)
  have HX14 := Lib.hid (heap_up hb HX14.out)
  have HB := Lib.hid (HB.out.trans (hb.mono HB.out.size))
  clear hb
  have HX16 := Lib.hid (heap_alloc_new w14 (.cells #[.bool on, .string os, .string od] 26))
  have HB := Lib.hid (HB.out.alloc HB.out.size (.cells #[.bool on, .string os, .string od] 26))
  have HI := Lib.hid (heap_up ((Below.refl _ w14).alloc (Nat.le_refl _) (.cells #[.bool on, .string os, .string od] 26)) HI.out)
  have HX10 := Lib.hid (heap_up ((Below.refl _ w14).alloc (Nat.le_refl _) (.cells #[.bool on, .string os, .string od] 26)) HX10.out)
  have HX12 := Lib.hid (heap_up ((Below.refl _ w14).alloc (Nat.le_refl _) (.cells #[.bool on, .string os, .string od] 26)) HX12.out)
  have HX14 := Lib.hid (heap_up ((Below.refl _ w14).alloc (Nat.le_refl _) (.cells #[.bool on, .string os, .string od] 26)) HX14.out)
  obtain ⟨W15, hW15⟩ : ∃ W, w14.alloc (.cells #[.bool on, .string os, .string od] 26) = W := ⟨_, rfl⟩
  rw [hW15] at HI HX10 HX12 HX14 HX16 HB
  obtain ⟨⟨k3a, k3b, k3c⟩, -⟩ := row_cells HX10.out
  obtain ⟨⟨k4a, k4b, k4c⟩, -⟩ := row_cells HX12.out
  obtain ⟨⟨k5a, k5b, k5c⟩, -⟩ := row_cells HX14.out
  obtain ⟨⟨k6a, k6b, k6c⟩, -⟩ := row_cells HX16.out
  go_wp2_with fail
  clear hW15
  obtain ⟨b16, hbb⟩ : ∃ b, w14.heap.size = b := ⟨_, rfl⟩
  rw [hbb] at HX16
  try rw [hbb]
  clear hbb
  clear k3a k3b k3c k4a k4b k4c k5a k5b k5c k6a k6b k6c
  refine (C8.out _).mono ?_
  rintro e w16 ⟨rfl, hb⟩
  have HI := Lib.hid (heap_up hb HI.out)
  have HX10 := Lib.hid (heap_up hb HX10.out)
  have HX12 := Lib.hid (heap_up hb HX12.out)
  have HX14 := Lib.hid (heap_up hb HX14.out)
  have HX16 := Lib.hid (heap_up hb HX16.out)
  have HB := Lib.hid (HB.out.trans (hb.mono HB.out.size))
  clear hb
  go_wp2_with fail
  refine (C9.out _).mono ?_
  rintro e w17 ⟨rfl, hb⟩
  have HI := Lib.hid (heap_up hb HI.out)
  have HX10 := Lib.hid (heap_up hb HX10.out)
  have HX12 := Lib.hid (heap_up hb HX12.out)
  have HX14 := Lib.hid (heap_up hb HX14.out)
  have HX16 := Lib.hid (heap_up hb HX16.out)
  have HB := Lib.hid (HB.out.trans (hb.mono HB.out.size))
  clear hb
  go_wp2_with fail
  refine (C8.out _).mono ?_
  rintro e w18 ⟨rfl, hb⟩
  have HI := Lib.hid (heap_up hb HI.out)
  have HX10 := Lib.hid (heap_up hb HX10.out)
  have HX12 := Lib.hid (heap_up hb HX12.out)
  have HX14 := Lib.hid (heap_up hb HX14.out)
  have HX16 := Lib.hid (heap_up hb HX16.out)
  have HB := Lib.hid (HB.out.trans (hb.mono HB.out.size))
  clear hb
  go_wp2_with fail
  refine (C10.out _).mono ?_
  rintro e w19 ⟨rfl, hb⟩
  have HI := Lib.hid (heap_up hb HI.out)
  have HX10 := Lib.hid (heap_up hb HX10.out)
  have HX12 := Lib.hid (heap_up hb HX12.out)
  have HX14 := Lib.hid (heap_up hb HX14.out)
  have HX16 := Lib.hid (heap_up hb HX16.out)
  have HB := Lib.hid (HB.out.trans (hb.mono HB.out.size))
  clear hb
  go_wp2_with fail
  go_ret
  exact ⟨rfl, HB.out⟩
end Go.Proofs.YtancflpioigjbaaGreatDoor.ratioMakes
