/- RatioTexts: the walk. Each theorem names its conditions. -/
import Derived.Test.YtancflpioigjbaaGreatDoorRcS
namespace Go.Proofs.YtancflpioigjbaaGreatDoor.ratioTexts
open Go.RowKit Go.Shelf
open Dgt
set_option linter.unusedVariables false

def ETX (raw S T0 T1 T2 U1 U2 U3 V1 : ByteArray) (k k0 k1 bp ws : Nat) (p1 bb : Int) : Nat → Value
  | 0 => .string raw
  | 1 => .string raw
  | 2 => .int .i64 (raw.size : Int)
  | 3 => .int .i64 (k0 : Int)
  | 4 => .string T0
  | 5 => .string S
  | 6 => .int .i64 (k : Int)
  | 7 => .string U1
  | 8 => .pointer (some ⟨bp, 1, none⟩)
  | 9 => .int .i64 p1
  | 10 => .int .u8 bb
  | 12 => .string U2
  | 13 => .string V1
  | 14 => .string S
  | 15 => .int .i64 (k : Int)
  | 16 => .int .i64 (k1 : Int)
  | 17 => .string U3
  | 18 => .string T1
  | 19 => .string S
  | 20 => .string T2
  | 21 => .agg #[.string T0, .string T1, .string T2]
  | _ => undef
def STX (raw S T0 T1 T2 U1 U2 U3 V1 : ByteArray) (k k0 k1 bp ws : Nat) (p1 bb : Int) (ix : Nat) (v : Value) (w : World) : Prop :=
  match ix with
  | 11 => ∃ g, v = .slice (some ⟨g, 0, none⟩) 1 1 ∧ w.heap[g]? = some (.cells #[.int .u8 bb] 5 (0, 0))
  | 22 => ∃ g, v = .pointer (some ⟨g, 0, none⟩) ∧ w.heap[g]? = some (.cells #[.string ⟨#[]⟩, .string ⟨#[]⟩, .string ⟨#[]⟩] 40 (0, 0)) ∧ ws ≤ g
  | ix => v = ETX raw S T0 T1 T2 U1 U2 U3 V1 k k0 k1 bp ws p1 bb ix
theorem STX_up (raw S T0 T1 T2 U1 U2 U3 V1 : ByteArray) (k k0 k1 bp ws : Nat) (p1 bb : Int) (ix : Nat) (v : Value) (w w' : World) (hb : Below w.heap.size w w') (h : STX raw S T0 T1 T2 U1 U2 U3 V1 k k0 k1 bp ws p1 bb ix v w) : STX raw S T0 T1 T2 U1 U2 U3 V1 k k0 k1 bp ws p1 bb ix v w' := by
  unfold STX at h ⊢
  split at h
  · exact by obtain ⟨g, e1, e2⟩ := h; exact ⟨g, e1, heap_up hb e2⟩
  · exact by obtain ⟨g, e1, e2, e3⟩ := h; exact ⟨g, e1, heap_up hb e2, e3⟩
  · exact h
def Txs (a b c : ByteArray) : Array Value := #[.string a, .string b, .string c]
theorem txs_at {a b c : ByteArray} {j : Nat} (ha : a.size ≤ 1000) (hb : b.size ≤ 1000) (hc : c.size ≤ 1000) (h : j < 3) : ∃ t : ByteArray, (Txs a b c)[j]? = some (.string t) ∧ t.size ≤ 1000 := by
  have : j = 0 ∨ j = 1 ∨ j = 2 := by omega
  rcases this with rfl | rfl | rfl
  · exact ⟨a, rfl, ha⟩
  · exact ⟨b, rfl, hb⟩
  · exact ⟨c, rfl, hc⟩
theorem row3_other {W : World} {b g : Nat} {o : Obj} (h : W.heap[g]? = some o) (hne : b ≠ g) (u0 u1 u2 : Value) : (((W.setCell ⟨b, 0, none⟩ u0).setCell ⟨b, 1, none⟩ u1).setCell ⟨b, 2, none⟩ u2).heap[g]? = some o := by
  simp [World.setCell, Array.getElem?_modify, hne, h]
set_option maxHeartbeats 4000000 in
set_option maxRecDepth 100000 in
theorem walk (x0 x1 x2 : Int) (raw : ByteArray) (p0 p1 : Int) (wq : World) (rx0 : inJ x0) (rx1 : inJ x1) (rx2 : inJ x2) (zraw : (raw.size : Int) ≤ 9223372036854775807) (rp0 : inJ p0) (rp1 : inJ p1) (htab : Lib.TabIs Tryz.prog wq "internal/strconv.uint64pow10" .u64 Lib.pow10Tab) (m0 : Int) (hm : wq.cell? ⟨0, 0, none⟩ = some (.int .i64 m0)) :
    Calls Tryz.prog 4 #[.agg #[.int .i64 x0, .int .i64 x1, .int .i64 x2], .string raw, .agg #[.int .i64 p0, .int .i64 p1]] wq fun e w' => e = .returned (.bool true) ∧ Below wq.heap.size wq w' := by
  have HB := Lib.hid (Below.refl wq.heap.size wq)
  have HT := Lib.hid (Lib.tabBelow_of_tabIs htab)
  have HM := Lib.hid (fun W h => cell_zero (W := W) hm h)
  have HSAN := Lib.hid (fun W (h : Below wq.heap.size wq W) => sanity_any W (HT.out.on h).here m0 (HM.out W h))
  have HMra : Hid (∀ w, Calls Tryz.prog 18 #[.agg #[.int .i64 x0, .int .i64 x1, .int .i64 x2]] w fun e w' => ∃ m : Rt, e = .returned (.agg #[.bool m.neg, .string (encS m.num), .string (encS m.den)]) ∧ m.Ok ∧ Rz m 32 ∧ Below w.heap.size w w') := Lib.hid fun w => Made_r x0 x1 x2 w rx0 rx1 rx2
  have HZ := Lib.hid zraw; have HP0 := Lib.hid rp0; have HP1 := Lib.hid rp1
  clear htab hm rx0 rx1 rx2 zraw rp0 rp1
  obtain ⟨W0, hW0, h0, h1, hbb⟩ := boxes2 wq (.cells #[.int .i64 x0, .int .i64 x1, .int .i64 x2] 34) (.cells #[.int .i64 p0, .int .i64 p1] 35)
  have HI := Lib.hid h0; have HP := Lib.hid h1; have HB := Lib.hid hbb; clear h0 h1 hbb
  go_enter Tryz.func4, Tryz.ntmps4
  go_wp2_with fail
  clear hW0
  obtain ⟨bp, hb1⟩ : ∃ b, wq.heap.size + 1 = b := ⟨_, rfl⟩
  obtain ⟨bi, hb0⟩ : ∃ b, wq.heap.size = b := ⟨_, rfl⟩
  rw [hb1] at HP ⊢; rw [hb0] at HI ⊢; clear hb0 hb1
  refine (HSAN.out _ HB.out).mono ?_
  rintro e w1 ⟨rfl, hb⟩
  have HI := Lib.hid (heap_up hb HI.out)
  have HP := Lib.hid (heap_up hb HP.out)
  have HB := Lib.hid (HB.out.trans (hb.mono HB.out.size))
  clear hb
  obtain ⟨⟨k1a, k1b, k1c⟩, -⟩ := row_cells HI.out
  go_wp2_with fail
  clear k1a k1b k1c
  refine (HMra.out _).mono ?_
  rintro e w2 ⟨ra, rfl, o_ra, z_ra, hb⟩
  have HI := Lib.hid (heap_up hb HI.out)
  have HP := Lib.hid (heap_up hb HP.out)
  have HB := Lib.hid (HB.out.trans (hb.mono HB.out.size))
  have Ora := Lib.hid o_ra; have Zra := Lib.hid z_ra; clear o_ra z_ra
  clear hb
  have o_ra := Ora.out; have z_ra := Zra.out
  obtain ⟨S, hS⟩ : ∃ S, textS ra = S := ⟨_, rfl⟩
  have hSl : S.data.toList = textL ra := by rw [← hS]; simp [textS]
  have hSs : S.size = (textL ra).length := by rw [Lib.size_eq, hSl]
  obtain ⟨n, hn⟩ : ∃ n, S.size = n := ⟨_, rfl⟩
  have hn1 : 0 < n ∧ n ≤ 196 := by rw [← hn, hSs]; exact ⟨textL_pos ra, textL_len z_ra⟩
  have C1 : Hid (∀ w, Lib.TabIs Tryz.prog w "internal/strconv.uint64pow10" .u64 Lib.pow10Tab → Calls Tryz.prog 19 #[.agg #[.bool ra.neg, .string (encS ra.num), .string (encS ra.den)]] w fun e w' => e = .returned (.string S) ∧ Below w.heap.size w w') := Lib.hid fun w tb => by
    have h := RatText_r (IsR.of o_ra (z_ra.mono (show 32 ≤ 1000 from by decide))) (by decide) (by decide) w tb
    rw [hS] at h
    exact h
  have C2 : Hid (∀ w, Calls Tryz.prog 20 #[.agg #[.bool ra.neg, .string (encS ra.num), .string (encS ra.den)]] w fun e w' => e = .returned (.string S) ∧ Below w.heap.size w w') := Lib.hid fun w => by
    have h := rRatText_r (IsR.of o_ra (z_ra.mono (show 32 ≤ 1000 from by decide))) (by decide) (by decide) w
    rw [hS] at h
    exact h
  have HPT : Hid (∀ W, Below wq.heap.size wq W → Calls Tryz.prog 21 #[.string S] W fun e w' => e = .returned (.tuple #[.agg #[.bool ra.neg, .string (encS ra.num), .string (encS ra.den)], .bool true]) ∧ Below W.heap.size W w') := Lib.hid fun W h => by
    have hh := RatParse_b S W (by omega) (HT.out.on h).here m0 (HM.out W h)
    rw [hSl, parse_text o_ra] at hh; exact hh
  obtain ⟨k, hk⟩ : ∃ k, (p0 % (n : Int)).toNat = k := ⟨_, rfl⟩
  have lk := mod_lt _ _ _ hk (by omega)
  have C3 : Hid (∀ w, Calls Tryz.prog 14 #[.int .i64 p0, .int .i64 (n : Int)] w fun e w' => e = .returned (.int .i64 (k : Int)) ∧ Below w.heap.size w w') := Lib.hid fun w => by
    refine (Mod_f p0 (n : Int) k hk w HP0.out.1 HP0.out.2 (by omega) (by omega)).mono ?_
    rintro e w' ⟨rfl, rfl⟩
    exact ⟨rfl, Below.refl _ _⟩
  obtain ⟨k0, hk0⟩ : ∃ j : Nat, min (raw.size : Int) 40 = (j : Int) := ⟨(min (raw.size : Int) 40).toNat, by omega⟩
  obtain ⟨T0, hT0⟩ : ∃ t, raw.extract 0 k0 = t := ⟨_, rfl⟩
  obtain ⟨U1, hU1⟩ : ∃ t, S.extract 0 k = t := ⟨_, rfl⟩
  obtain ⟨bb, hbv⟩ : ∃ b, IntKind.u8.wrap p1 = b := ⟨_, rfl⟩
  obtain ⟨U2, hU2⟩ : ∃ t : ByteArray, (⟨#[UInt8.ofNat bb.toNat]⟩ : ByteArray) = t := ⟨_, rfl⟩
  have hbr : 0 ≤ bb ∧ bb ≤ 255 := by rw [← hbv, IntKind.wrap_u8]; omega
  obtain ⟨V1, hV1⟩ : ∃ t, U1 ++ U2 = t := ⟨_, rfl⟩
  obtain ⟨k1, hk1⟩ : ∃ j, k + 1 = j := ⟨_, rfl⟩
  obtain ⟨U3, hU3⟩ : ∃ t, S.extract k1 S.size = t := ⟨_, rfl⟩
  obtain ⟨T1, hT1⟩ : ∃ t, V1 ++ U3 = t := ⟨_, rfl⟩
  obtain ⟨T2, hT2⟩ : ∃ t, (⟨#[48]⟩ : ByteArray) ++ S = t := ⟨_, rfl⟩
  have a1 : U1.size ≤ 196 := by rw [← hU1, ByteArray.size_extract]; omega
  have a2 : U2.size = 1 := by rw [← hU2]; rfl
  have a3 : V1.size ≤ 197 := by rw [← hV1, ByteArray.size_append]; omega
  have a4 : U3.size ≤ 196 := by rw [← hU3, ByteArray.size_extract]; omega
  have a5 : T1.size ≤ 393 := by rw [← hT1, ByteArray.size_append]; omega
  have a6 : T2.size ≤ 197 := by rw [← hT2, ByteArray.size_append]; show 1 + S.size ≤ 197; omega
  have a0 : T0.size ≤ 40 := by rw [← hT0, ByteArray.size_extract]; omega
  have HSTR := Lib.hid (show ∀ j, j < 3 → ∃ t : ByteArray, (Txs T0 T1 T2)[j]? = some (.string t) ∧ t.size ≤ 1000 from fun j h => txs_at (by omega) (by omega) (by omega) h)
  have HK0 : Hid (min (raw.size : Int) 40 = (k0 : Int) ∧ (k0 : Int) ≤ (raw.size : Int) ∧ (0 : Int) ≤ (k0 : Int) ∧ raw.extract 0 k0 = T0) := Lib.hid ⟨hk0, by omega, by omega, hT0⟩
  have HU1 : Hid ((k : Int) ≤ (S.size : Int) ∧ (0 : Int) ≤ (k : Int) ∧ S.extract 0 k = U1) := Lib.hid ⟨by omega, by omega, hU1⟩
  have HCV : Hid (IntKind.u8.wrap p1 = bb) := Lib.hid hbv
  have HBB : Hid (0 ≤ bb ∧ bb ≤ 255 ∧ (⟨#[UInt8.ofNat bb.toNat]⟩ : ByteArray) = U2) := Lib.hid ⟨hbr.1, hbr.2, hU2⟩
  have HV1 : Hid (U1 ++ U2 = V1 ∧ U1.size + U2.size ≤ 1000) := Lib.hid ⟨hV1, by omega⟩
  have HK1 : Hid (IntKind.i64.wrap ((k : Int) + 1) = (k1 : Int)) := Lib.hid (by rw [IntWalk.i64_in _ (by omega)]; omega)
  have HU3 : Hid ((k1 : Int) ≤ (S.size : Int) ∧ (0 : Int) ≤ (k1 : Int) ∧ S.extract k1 S.size = U3) := Lib.hid ⟨by omega, by omega, hU3⟩
  have HT1 : Hid (V1 ++ U3 = T1 ∧ V1.size + U3.size ≤ 1000) := Lib.hid ⟨hT1, by omega⟩
  have HT2 : Hid ((⟨#[48]⟩ : ByteArray) ++ S = T2 ∧ S.size ≤ 1000) := Lib.hid ⟨hT2, by omega⟩
  have HN := Lib.hid hn; have HN1 := Lib.hid hn1
  clear o_ra z_ra hS hSl hSs hn hn1 hk lk hk0 hT0 hU1 hbv hU2 hbr hV1 hk1 hU3 hT1 hT2 a0 a1 a2 a3 a4 a5 a6
  have hn := HN.out; have hnz : ¬ (n : Int) = 0 := by have := HN1.out; omega
  have hnz2 : ((n : Int) == 0) = false := by rw [beq_eq_false_iff_ne]; exact hnz
  have HX8 := Lib.hid (heap_alloc_new w2 (.cells #[.bool ra.neg, .string (encS ra.num), .string (encS ra.den)] 26))
  have HB := Lib.hid (HB.out.alloc HB.out.size (.cells #[.bool ra.neg, .string (encS ra.num), .string (encS ra.den)] 26))
  have HI := Lib.hid (heap_up ((Below.refl _ w2).alloc (Nat.le_refl _) (.cells #[.bool ra.neg, .string (encS ra.num), .string (encS ra.den)] 26)) HI.out)
  have HP := Lib.hid (heap_up ((Below.refl _ w2).alloc (Nat.le_refl _) (.cells #[.bool ra.neg, .string (encS ra.num), .string (encS ra.den)] 26)) HP.out)
  obtain ⟨W3, hW3⟩ : ∃ W, w2.alloc (.cells #[.bool ra.neg, .string (encS ra.num), .string (encS ra.den)] 26) = W := ⟨_, rfl⟩
  rw [hW3] at HI HP HX8 HB
  obtain ⟨⟨k2a, k2b, k2c⟩, -⟩ := row_cells HX8.out
  go_wp2_with fail
  clear hW3
  obtain ⟨b8, hbb⟩ : ∃ b, w2.heap.size = b := ⟨_, rfl⟩
  rw [hbb] at HX8
  try rw [hbb]
  clear hbb
  clear k2a k2b k2c
  refine (C1.out _ (HT.out.on HB.out).here).mono ?_
  rintro e w4 ⟨rfl, hb⟩
  have HI := Lib.hid (heap_up hb HI.out)
  have HP := Lib.hid (heap_up hb HP.out)
  have HX8 := Lib.hid (heap_up hb HX8.out)
  have HB := Lib.hid (HB.out.trans (hb.mono HB.out.size))
  clear hb
  obtain ⟨⟨k3a, k3b, k3c⟩, -⟩ := row_cells HX8.out
  go_wp2_with fail
  clear k3a k3b k3c
  refine (C2.out _).mono ?_
  rintro e w5 ⟨rfl, hb⟩
  have HI := Lib.hid (heap_up hb HI.out)
  have HP := Lib.hid (heap_up hb HP.out)
  have HX8 := Lib.hid (heap_up hb HX8.out)
  have HB := Lib.hid (HB.out.trans (hb.mono HB.out.size))
  clear hb
  go_wp2_with fail
  refine (HPT.out _ HB.out).mono ?_
  rintro e w6 ⟨rfl, hb⟩
  have HI := Lib.hid (heap_up hb HI.out)
  have HP := Lib.hid (heap_up hb HP.out)
  have HX8 := Lib.hid (heap_up hb HX8.out)
  have HB := Lib.hid (HB.out.trans (hb.mono HB.out.size))
  clear hb
  have HX10 := Lib.hid (heap_alloc_new w6 (.cells #[.bool ra.neg, .string (encS ra.num), .string (encS ra.den)] 26))
  have HB := Lib.hid (HB.out.alloc HB.out.size (.cells #[.bool ra.neg, .string (encS ra.num), .string (encS ra.den)] 26))
  have HI := Lib.hid (heap_up ((Below.refl _ w6).alloc (Nat.le_refl _) (.cells #[.bool ra.neg, .string (encS ra.num), .string (encS ra.den)] 26)) HI.out)
  have HP := Lib.hid (heap_up ((Below.refl _ w6).alloc (Nat.le_refl _) (.cells #[.bool ra.neg, .string (encS ra.num), .string (encS ra.den)] 26)) HP.out)
  have HX8 := Lib.hid (heap_up ((Below.refl _ w6).alloc (Nat.le_refl _) (.cells #[.bool ra.neg, .string (encS ra.num), .string (encS ra.den)] 26)) HX8.out)
  obtain ⟨W7, hW7⟩ : ∃ W, w6.alloc (.cells #[.bool ra.neg, .string (encS ra.num), .string (encS ra.den)] 26) = W := ⟨_, rfl⟩
  rw [hW7] at HI HP HX8 HX10 HB
  have k4 : W7.cell? ⟨bp, 0, none⟩ = some (.int .i64 p0) := by rw [Lib.cell_of_heap HP.out]; rfl
  have k5 : W7.cell? ⟨bp, 1, none⟩ = some (.int .i64 p1) := by rw [Lib.cell_of_heap HP.out]; rfl
  go_wp2_with fail
  clear hW7
  obtain ⟨b10, hbb⟩ : ∃ b, w6.heap.size = b := ⟨_, rfl⟩
  rw [hbb] at HX10
  try rw [hbb]
  clear hbb
  clear k4 k5
  refine (C3.out _).mono ?_
  rintro e w8 ⟨rfl, hb⟩
  have HI := Lib.hid (heap_up hb HI.out)
  have HP := Lib.hid (heap_up hb HP.out)
  have HX8 := Lib.hid (heap_up hb HX8.out)
  have HX10 := Lib.hid (heap_up hb HX10.out)
  have HB := Lib.hid (HB.out.trans (hb.mono HB.out.size))
  clear hb
  go_wp2_with fail
  clear hn hnz hnz2
  refine wp_region_tail (w := w8) (by kernel_rfl) (STX raw S T0 T1 T2 U1 U2 U3 V1 k k0 k1 bp w8.heap.size p1 bb) 23 (fun t => (decide (13 ≤ t) && decide (t < 14)) || (decide (43 ≤ t) && decide (t < 65))) (by decide) (by kernel_rfl) (by kernel_rfl) (by kernel_rfl) (by kernel_rfl) (by kernel_rfl) (STX_up raw S T0 T1 T2 U1 U2 U3 V1 k k0 k1 bp w8.heap.size p1 bb) ?_ ?_
  · intro i hi o listed a w hR K hK
    have ho := hR.at_
    have hi : i < 23 := hi
    have hii : i = 0 ∨ i = 1 ∨ i = 2 ∨ i = 3 ∨ i = 4 ∨ i = 5 ∨ i = 6 ∨ i = 7 ∨ i = 8 ∨ i = 9 ∨ i = 10 ∨ i = 11 ∨ i = 12 ∨ i = 13 ∨ i = 14 ∨ i = 15 ∨ i = 16 ∨ i = 17 ∨ i = 18 ∨ i = 19 ∨ i = 20 ∨ i = 21 ∨ i = 22 := by omega
    rcases hii with rfl | rfl | rfl | rfl | rfl | rfl | rfl | rfl | rfl | rfl | rfl | rfl | rfl | rfl | rfl | rfl | rfl | rfl | rfl | rfl | rfl | rfl | rfl
    · simp at ho
      subst ho
      have b1 : a.tmps.getD 1 undef = .string raw := hR.base 1 (by kernel_rfl)
      refine plain_step rfl rfl ?_
      go_simp
      exact hK _ _ (rfl) (Below.refl _ _)
    · simp at ho
      subst ho
      have b1 : a.tmps.getD 1 undef = .string raw := hR.base 1 (by kernel_rfl)
      refine plain_step rfl rfl ?_
      go_simp
      exact hK _ _ (rfl) (Below.refl _ _)
    · simp at ho
      subst ho
      have e1 : a.tmps.getD 44 undef = .string raw := hR.dep ⟨1, .data⟩ (by simp) rfl (by decide)
      refine plain_step rfl rfl ?_
      go_simp
      exact hK _ _ (rfl) (Below.refl _ _)
    · simp at ho
      subst ho
      have e2 : a.tmps.getD 45 undef = .int .i64 (raw.size : Int) := hR.dep ⟨2, .data⟩ (by simp) rfl (by decide)
      have hk := HK0.out.1
      refine plain_step rfl rfl ?_
      go_simp
      exact hK _ _ (rfl) (Below.refl _ _)
    · simp at ho
      subst ho
      have e0 : a.tmps.getD 43 undef = .string raw := hR.dep ⟨0, .data⟩ (by simp) rfl (by decide)
      have e3 : a.tmps.getD 46 undef = .int .i64 (k0 : Int) := hR.dep ⟨3, .data⟩ (by simp) rfl (by decide)
      obtain ⟨-, hk1, hk2, hk3⟩ := HK0.out
      refine plain_step rfl rfl ?_
      go_simp
      exact hK _ _ (rfl) (Below.refl _ _)
    · simp at ho
      subst ho
      have b9 : a.tmps.getD 9 undef = .string S := hR.base 9 (by kernel_rfl)
      refine plain_step rfl rfl ?_
      go_simp
      exact hK _ _ (rfl) (Below.refl _ _)
    · simp at ho
      subst ho
      have b12 : a.tmps.getD 12 undef = .int .i64 (k : Int) := hR.base 12 (by kernel_rfl)
      refine plain_step rfl rfl ?_
      go_simp
      exact hK _ _ (rfl) (Below.refl _ _)
    · simp at ho
      subst ho
      have e5 : a.tmps.getD 48 undef = .string S := hR.dep ⟨5, .data⟩ (by simp) rfl (by decide)
      have e6 : a.tmps.getD 49 undef = .int .i64 (k : Int) := hR.dep ⟨6, .data⟩ (by simp) rfl (by decide)
      obtain ⟨hu1, hu2, hu3⟩ := HU1.out
      refine plain_step rfl rfl ?_
      go_simp
      exact hK _ _ (rfl) (Below.refl _ _)
    · simp at ho
      subst ho
      have b5 : a.tmps.getD 5 undef = .pointer (some ⟨bp, 0, none⟩) := hR.base 5 (by kernel_rfl)
      refine plain_step rfl rfl ?_
      go_simp
      exact hK _ _ (rfl) (Below.refl _ _)
    · simp at ho
      subst ho
      have e8 : a.tmps.getD 51 undef = .pointer (some ⟨bp, 1, none⟩) := hR.dep ⟨8, .data⟩ (by simp) rfl (by decide)
      have cx : w.cell? ⟨bp, 1, none⟩ = some (.int .i64 p1) := by rw [Lib.cell_of_heap (heap_up hR.below HP.out)]; rfl
      refine plain_step rfl rfl ?_
      go_simp
      exact hK _ _ (rfl) (Below.refl _ _)
    · simp at ho
      subst ho
      have e9 : a.tmps.getD 52 undef = .int .i64 p1 := hR.dep ⟨9, .data⟩ (by simp) rfl (by decide)
      have hcv := HCV.out
      refine plain_step rfl rfl ?_
      go_simp
      exact hK _ _ (rfl) (Below.refl _ _)
    · simp at ho
      subst ho
      have e10 : a.tmps.getD 53 undef = .int .u8 bb := hR.dep ⟨10, .data⟩ (by simp) rfl (by decide)
      have g10 := e10
      rw [Array.getD_eq_getD_getElem?] at g10
      refine plain_step rfl rfl ?_
      go_simp
      exact hK _ _ (⟨_, rfl, heap_alloc_new _ _⟩) ((Below.refl _ _).alloc (Nat.le_refl _) _)
    · simp at ho
      subst ho
      have e11 := hR.dep ⟨11, .data⟩ (by simp) rfl (by decide)
      obtain ⟨g, eg, hg⟩ : ∃ g, a.tmps.getD 54 undef = .slice (some ⟨g, 0, none⟩) 1 1 ∧ w.heap[g]? = some (.cells #[.int .u8 bb] 5 (0, 0)) := e11
      have hcg := conv_one w g bb _ HBB.out.1 HBB.out.2.1 hg 1
      rw [HBB.out.2.2] at hcg
      refine plain_step rfl rfl ?_
      go_simp
      exact hK _ _ (rfl) (Below.refl _ _)
    · simp at ho
      subst ho
      have e7 : a.tmps.getD 50 undef = .string U1 := hR.dep ⟨7, .data⟩ (by simp) rfl (by decide)
      have e12 : a.tmps.getD 55 undef = .string U2 := hR.dep ⟨12, .data⟩ (by simp) rfl (by decide)
      obtain ⟨hv1, hv2⟩ := HV1.out
      refine plain_step rfl rfl ?_
      go_simp
      rw [if_neg (by omega)]
      go_simp
      exact hK _ _ (rfl) (Below.refl _ _)
    · simp at ho
      subst ho
      have b9 : a.tmps.getD 9 undef = .string S := hR.base 9 (by kernel_rfl)
      refine plain_step rfl rfl ?_
      go_simp
      exact hK _ _ (rfl) (Below.refl _ _)
    · simp at ho
      subst ho
      have b12 : a.tmps.getD 12 undef = .int .i64 (k : Int) := hR.base 12 (by kernel_rfl)
      refine plain_step rfl rfl ?_
      go_simp
      exact hK _ _ (rfl) (Below.refl _ _)
    · simp at ho
      subst ho
      have e15 : a.tmps.getD 58 undef = .int .i64 (k : Int) := hR.dep ⟨15, .data⟩ (by simp) rfl (by decide)
      have hk1 := HK1.out
      refine plain_step rfl rfl ?_
      go_simp
      exact hK _ _ (rfl) (Below.refl _ _)
    · simp at ho
      subst ho
      have e14 : a.tmps.getD 57 undef = .string S := hR.dep ⟨14, .data⟩ (by simp) rfl (by decide)
      have e16 : a.tmps.getD 59 undef = .int .i64 (k1 : Int) := hR.dep ⟨16, .data⟩ (by simp) rfl (by decide)
      obtain ⟨hw1, hw2, hw3⟩ := HU3.out
      refine plain_step rfl rfl ?_
      go_simp
      exact hK _ _ (rfl) (Below.refl _ _)
    · simp at ho
      subst ho
      have e13 : a.tmps.getD 56 undef = .string V1 := hR.dep ⟨13, .data⟩ (by simp) rfl (by decide)
      have e17 : a.tmps.getD 60 undef = .string U3 := hR.dep ⟨17, .data⟩ (by simp) rfl (by decide)
      obtain ⟨hx1, hx2⟩ := HT1.out
      refine plain_step rfl rfl ?_
      go_simp
      rw [if_neg (by omega)]
      go_simp
      exact hK _ _ (rfl) (Below.refl _ _)
    · simp at ho
      subst ho
      have b9 : a.tmps.getD 9 undef = .string S := hR.base 9 (by kernel_rfl)
      refine plain_step rfl rfl ?_
      go_simp
      exact hK _ _ (rfl) (Below.refl _ _)
    · simp at ho
      subst ho
      have e19 : a.tmps.getD 62 undef = .string S := hR.dep ⟨19, .data⟩ (by simp) rfl (by decide)
      obtain ⟨hy1, hy2⟩ := HT2.out
      refine plain_step rfl rfl ?_
      go_simp
      rw [if_neg (by omega)]
      go_simp
      exact hK _ _ (rfl) (Below.refl _ _)
    · simp at ho
      subst ho
      have e4 : a.tmps.getD 47 undef = .string T0 := hR.dep ⟨4, .data⟩ (by simp) rfl (by decide)
      have e18 : a.tmps.getD 61 undef = .string T1 := hR.dep ⟨18, .data⟩ (by simp) rfl (by decide)
      have e20 : a.tmps.getD 63 undef = .string T2 := hR.dep ⟨20, .data⟩ (by simp) rfl (by decide)
      have g4 := e4
      rw [Array.getD_eq_getD_getElem?] at g4
      have g18 := e18
      rw [Array.getD_eq_getD_getElem?] at g18
      have g20 := e20
      rw [Array.getD_eq_getD_getElem?] at g20
      refine plain_step rfl rfl ?_
      go_simp
      exact hK _ _ (rfl) (Below.refl _ _)
    · simp at ho
      subst ho
      refine plain_step rfl rfl ?_
      go_simp
      exact hK _ _ (⟨_, rfl, heap_alloc_new _ _, hR.below.size⟩) ((Below.refl _ _).alloc (Nat.le_refl _) _)
  · intro s w hS hb
    have e21 : s 64 = .agg #[.string T0, .string T1, .string T2] := hS 21 (by decide)
    have e22 := hS 22 (by decide)
    simp only [over, Nat.zero_add, Nat.reduceAdd, Nat.reduceLeDiff, Nat.reduceLT, decide_true, decide_false, Bool.and_true, Bool.and_false, Bool.or_false, Bool.or_true, cond_true, cond_false]
    obtain ⟨g, eg, hg, hge⟩ : ∃ g, s 13 = .pointer (some ⟨g, 0, none⟩) ∧ w.heap[g]? = some (.cells #[.string ⟨#[]⟩, .string ⟨#[]⟩, .string ⟨#[]⟩] 40 (0, 0)) ∧ w8.heap.size ≤ g := e22
    obtain ⟨⟨cg0, cg1, cg2⟩, hfg⟩ := row_cells hg
    have fg0 := hfg 0; have fg1 := hfg 1; have fg2 := hfg 2
    refine tail_step (n := 0) rfl rfl ?_
    go_simp
    simp only [wpTail]
    have hrow := row_set hg (.string T0) (.string T1) (.string T2)
    have hbw := below_row (HB.out.trans (hb.mono HB.out.size)) (b := g) (Nat.le_trans HB.out.size hge) (.string T0) (.string T1) (.string T2)
    have hHI := row3_other (heap_up hb HI.out) (show g ≠ bi from fun e => absurd (Array.getElem?_eq_some_iff.1 HI.out).1 (by rw [← e]; omega)) (.string T0) (.string T1) (.string T2)
    have hHP := row3_other (heap_up hb HP.out) (show g ≠ bp from fun e => absurd (Array.getElem?_eq_some_iff.1 HP.out).1 (by rw [← e]; omega)) (.string T0) (.string T1) (.string T2)
    have hHX8 := row3_other (heap_up hb HX8.out) (show g ≠ b8 from fun e => absurd (Array.getElem?_eq_some_iff.1 HX8.out).1 (by rw [← e]; omega)) (.string T0) (.string T1) (.string T2)
    have hHX10 := row3_other (heap_up hb HX10.out) (show g ≠ b10 from fun e => absurd (Array.getElem?_eq_some_iff.1 HX10.out).1 (by rw [← e]; omega)) (.string T0) (.string T1) (.string T2)
    obtain ⟨W9, hW9⟩ : ∃ W, ((w.setCell ⟨g, 0, none⟩ (.string T0)).setCell ⟨g, 1, none⟩ (.string T1)).setCell ⟨g, 2, none⟩ (.string T2) = W := ⟨_, rfl⟩
    rw [hW9] at hrow hbw hHI hHP hHX8 hHX10 ⊢
    have HB := Lib.hid hbw; have HG := Lib.hid hrow
    have HI := Lib.hid hHI
    have HP := Lib.hid hHP
    have HX8 := Lib.hid hHX8
    have HX10 := Lib.hid hHX10
    clear hW9 hrow hbw hHI hHP hHX8 hHX10 hS hb e21 cg0 cg1 cg2 hfg fg0 fg1 fg2 hg hge
    go_wp2_with fail
    go_loopw [14] (fun i wr => ∃ j : Nat, j ≤ 3 ∧ i = .int .i64 (j : Int) ∧ Hid (Below W9.heap.size W9 wr)) (fun i _ => 3 - (intOf i).toNat)
    case atStart => exact ⟨0, by omega, rfl, Lib.hid (Below.refl _ _)⟩
    case round =>
      obtain ⟨j, hj, rfl, HBW⟩ := hrel
      by_cases hlt : j < 3
      · obtain ⟨t, hx, hlt2⟩ := HSTR.out j hlt
        have HC : Hid (∀ W, Below W9.heap.size W9 W → W.cell? ⟨g, j, none⟩ = some (.string t)) := Lib.hid fun W h => by rw [Lib.cell_of_heap (heap_up h HG.out)]; exact hx
        have cx := HC.out _ HBW.out
        have HLT := Lib.hid hlt2
        obtain ⟨pn, ps, pd, pu, hpv⟩ := parse_parts t.data.toList
        have HQ1 : Hid (∀ W, Below wq.heap.size wq W → Calls Tryz.prog 21 #[.string t] W fun e w' => e = .returned (.tuple #[.agg #[.bool pn, .string ps, .string pd], .bool pu]) ∧ Below W.heap.size W w') := Lib.hid fun W h => by
          have hh := RatParse_b t W hlt2 (HT.out.on h).here m0 (HM.out W h)
          rw [hpv] at hh; exact hh
        have HQ2 : Hid (∀ W, Calls Tryz.prog 22 #[.string t] W fun e w' => e = .returned (.tuple #[.agg #[.bool pn, .string ps, .string pd], .bool pu]) ∧ Below W.heap.size W w') := Lib.hid fun W => by
          have hh := rRatParse_b t W hlt2
          rw [hpv] at hh; exact hh
        have hlt' : (j : Int) < 3 := by omega
        clear hx hlt2 hlt hpv
        go_wp2_with fail
        refine (HQ1.out _ (HB.out.trans (HBW.out.mono HB.out.size))).mono ?_
        rintro e v2 ⟨rfl, hb2⟩
        have HB2 := Lib.hid (HBW.out.trans (hb2.mono HBW.out.size))
        have hX := heap_alloc_new v2 (.cells #[.bool pn, .string ps, .string pd] 26)
        have hB := HB2.out.alloc HB2.out.size (.cells #[.bool pn, .string ps, .string pd] 26)
        obtain ⟨V2, hV2⟩ : ∃ V, v2.alloc (.cells #[.bool pn, .string ps, .string pd] 26) = V := ⟨_, rfl⟩
        rw [hV2] at hX hB
        clear hb2 cx
        have cx := HC.out _ hB
        have HX := Lib.hid hX; have HB3 := Lib.hid hB; clear hX hB
        go_wp2_with fail
        clear hV2 cx
        obtain ⟨bx, hbx⟩ : ∃ b, v2.heap.size = b := ⟨_, rfl⟩
        rw [hbx] at HX ⊢; clear hbx
        refine (HQ2.out _).mono ?_
        rintro e v3 ⟨rfl, hb3⟩
        have HB4 := Lib.hid (HB3.out.trans (hb3.mono HB3.out.size))
        have HX := Lib.hid (heap_up hb3 HX.out)
        have hY := heap_alloc_new v3 (.cells #[.bool pn, .string ps, .string pd] 26)
        have HX := Lib.hid (heap_up ((Below.refl _ v3).alloc (Nat.le_refl _) (.cells #[.bool pn, .string ps, .string pd] 26)) HX.out)
        have HB5 := Lib.hid (HB4.out.alloc HB4.out.size (.cells #[.bool pn, .string ps, .string pd] 26))
        obtain ⟨V3, hV3⟩ : ∃ V, v3.alloc (.cells #[.bool pn, .string ps, .string pd] 26) = V := ⟨_, rfl⟩
        rw [hV3] at hY HX HB5
        obtain ⟨⟨y0, y1, y2⟩, -⟩ := row_cells hY
        obtain ⟨⟨z0, z1, z2⟩, -⟩ := row_cells HX.out
        clear hb3 hY
        go_wp2_with fail
        go_roundw
        case rel => exact ⟨j + 1, by omega, by go_num, HB5⟩
        case measure => simp [intOf]; omega
      · have hj5 : ¬ (j : Int) < 3 := by omega
        obtain ⟨⟨y0, y1, y2⟩, -⟩ := row_cells (heap_up HBW.out HX10.out)
        obtain ⟨⟨z0, z1, z2⟩, -⟩ := row_cells (heap_up HBW.out HX8.out)
        clear hlt
        go_wp2_with fail
        go_ret
        exact ⟨rfl, HB.out.trans (HBW.out.mono HB.out.size)⟩
end Go.Proofs.YtancflpioigjbaaGreatDoor.ratioTexts
