/- RatioOrder: the walk. Each theorem names its conditions. -/
import Derived.Test.YtancflpioigjbaaGreatDoorRaH
namespace Go.Proofs.YtancflpioigjbaaGreatDoor.ratioOrder
open Go.RowKit Go.Shelf
open Dgt
set_option linter.unusedVariables false

def ES6 (b8 b9 b10 : Nat) (ra rb rc sac sbc : Rt) (cm cbc cac : Int) (Z P1 P2 Q : Bool) : Nat → Value
  | 0 => .int .i64 cm
  | 1 => .agg #[.bool rb.neg, .string (encS rb.num), .string (encS rb.den)]
  | 2 => .agg #[.bool ra.neg, .string (encS ra.num), .string (encS ra.den)]
  | 3 => .int .i64 (-cm)
  | 4 => .int .i64 cm
  | 5 => .bool true
  | 6 => .bool true
  | 7 => .int .i64 cm
  | 8 => .bool Z
  | 9 => .agg #[.bool ra.neg, .string (encS ra.num), .string (encS ra.den)]
  | 10 => .agg #[.bool rb.neg, .string (encS rb.num), .string (encS rb.den)]
  | 11 => .bool Z
  | 12 => .bool true
  | 13 => .bool true
  | 14 => .bool true
  | 15 => .int .i64 cm
  | 16 => .bool P1
  | 17 => .bool P1
  | 18 => (bif P1 then undef else .agg #[.bool rb.neg, .string (encS rb.num), .string (encS rb.den)])
  | 19 => (bif P1 then undef else .agg #[.bool rc.neg, .string (encS rc.num), .string (encS rc.den)])
  | 20 => (bif P1 then undef else .int .i64 cbc)
  | 21 => (bif P1 then undef else .bool P2)
  | 22 => .bool Q
  | 23 => .bool Q
  | 24 => (bif Q then undef else .agg #[.bool ra.neg, .string (encS ra.num), .string (encS ra.den)])
  | 25 => (bif Q then undef else .agg #[.bool rc.neg, .string (encS rc.num), .string (encS rc.den)])
  | 26 => (bif Q then undef else .int .i64 cac)
  | 27 => (bif Q then undef else .bool true)
  | 28 => .bool true
  | 29 => .bool true
  | 30 => .bool true
  | 31 => .agg #[.bool ra.neg, .string (encS ra.num), .string (encS ra.den)]
  | 32 => .agg #[.bool rc.neg, .string (encS rc.num), .string (encS rc.den)]
  | 33 => .agg #[.bool sac.neg, .string (encS sac.num), .string (encS sac.den)]
  | 34 => .agg #[.bool rb.neg, .string (encS rb.num), .string (encS rb.den)]
  | 35 => .agg #[.bool rc.neg, .string (encS rc.num), .string (encS rc.den)]
  | 36 => .agg #[.bool sbc.neg, .string (encS sbc.num), .string (encS sbc.den)]
  | 37 => .int .i64 cm
  | 38 => .int .i64 cm
  | 39 => .bool true
  | 40 => .bool true
  | 41 => .bool true
  | _ => undef
def SS6 (b8 b9 b10 : Nat) (ra rb rc sac sbc : Rt) (cm cbc cac : Int) (Z P1 P2 Q : Bool) (ix : Nat) (v : Value) (w : World) : Prop :=
  match ix with
  | ix => v = ES6 b8 b9 b10 ra rb rc sac sbc cm cbc cac Z P1 P2 Q ix
theorem SS6_up (b8 b9 b10 : Nat) (ra rb rc sac sbc : Rt) (cm cbc cac : Int) (Z P1 P2 Q : Bool) (ix : Nat) (v : Value) (w w' : World) (hb : Below w.heap.size w w') (h : SS6 b8 b9 b10 ra rb rc sac sbc cm cbc cac Z P1 P2 Q ix v w) : SS6 b8 b9 b10 ra rb rc sac sbc cm cbc cac Z P1 P2 Q ix v w' := by
  exact h

def ES7 (b8 b9 b10 : Nat) (ra rb rc pac pbc d z : Rt) (cm sg sa : Int) : Nat → Value
  | 0 => .bool true
  | 1 => .bool true
  | 2 => .bool true
  | 3 => .bool true
  | 4 => .bool true
  | 5 => .agg #[.bool ra.neg, .string (encS ra.num), .string (encS ra.den)]
  | 6 => .agg #[.bool rc.neg, .string (encS rc.num), .string (encS rc.den)]
  | 7 => .agg #[.bool pac.neg, .string (encS pac.num), .string (encS pac.den)]
  | 8 => .agg #[.bool rb.neg, .string (encS rb.num), .string (encS rb.den)]
  | 9 => .agg #[.bool rc.neg, .string (encS rc.num), .string (encS rc.den)]
  | 10 => .agg #[.bool pbc.neg, .string (encS pbc.num), .string (encS pbc.den)]
  | 11 => .int .i64 (cm * sg)
  | 12 => .int .i64 cm
  | 13 => .agg #[.bool rc.neg, .string (encS rc.num), .string (encS rc.den)]
  | 14 => .int .i64 sg
  | 15 => .int .i64 (cm * sg)
  | 16 => .bool true
  | 17 => .bool true
  | 18 => .bool true
  | 19 => .agg #[.bool ra.neg, .string (encS ra.num), .string (encS ra.den)]
  | 20 => .agg #[.bool rb.neg, .string (encS rb.num), .string (encS rb.den)]
  | 21 => .agg #[.bool d.neg, .string (encS d.num), .string (encS d.den)]
  | 22 => .int .i64 cm
  | 23 => .int .i64 cm
  | 24 => .bool true
  | 25 => .bool true
  | 26 => .bool true
  | 27 => .agg #[.bool ra.neg, .string (encS ra.num), .string (encS ra.den)]
  | 28 => .int .i64 sa
  | 29 => .agg #[.bool ra.neg, .string (encS ra.num), .string (encS ra.den)]
  | 30 => .agg #[.bool z.neg, .string (encS z.num), .string (encS z.den)]
  | 31 => .int .i64 sa
  | 32 => .bool true
  | 33 => .bool true
  | 34 => .bool true
  | _ => undef
def SS7 (b8 b9 b10 : Nat) (ra rb rc pac pbc d z : Rt) (cm sg sa : Int) (ix : Nat) (v : Value) (w : World) : Prop :=
  match ix with
  | ix => v = ES7 b8 b9 b10 ra rb rc pac pbc d z cm sg sa ix
theorem SS7_up (b8 b9 b10 : Nat) (ra rb rc pac pbc d z : Rt) (cm sg sa : Int) (ix : Nat) (v : Value) (w w' : World) (hb : Below w.heap.size w w') (h : SS7 b8 b9 b10 ra rb rc pac pbc d z cm sg sa ix v w) : SS7 b8 b9 b10 ra rb rc pac pbc d z cm sg sa ix v w' := by
  exact h
set_option maxHeartbeats 4000000 in
set_option maxRecDepth 100000 in
theorem walk (x0 x1 x2 y0 y1 y2 z0 z1 z2 : Int) (wq : World) (rx0 : inJ x0) (rx1 : inJ x1) (rx2 : inJ x2) (ry0 : inJ y0) (ry1 : inJ y1) (ry2 : inJ y2) (rz0 : inJ z0) (rz1 : inJ z1) (rz2 : inJ z2) (htab : Lib.TabIs Tryz.prog wq "internal/strconv.uint64pow10" .u64 Lib.pow10Tab) (m0 : Int) (hm : wq.cell? ⟨0, 0, none⟩ = some (.int .i64 m0)) :
    Calls Tryz.prog 8 #[.agg #[.int .i64 x0, .int .i64 x1, .int .i64 x2], .agg #[.int .i64 y0, .int .i64 y1, .int .i64 y2], .agg #[.int .i64 z0, .int .i64 z1, .int .i64 z2]] wq fun e w' => e = .returned (.bool true) ∧ Below wq.heap.size wq w' := by
  have HB := Lib.hid (Below.refl wq.heap.size wq)
  have HT := Lib.hid (Lib.tabBelow_of_tabIs htab)
  have HM := Lib.hid (fun W h => cell_zero (W := W) hm h)
  have HSAN := Lib.hid (fun W (h : Below wq.heap.size wq W) => sanity_any W (HT.out.on h).here m0 (cell_zero (W := W) hm h))
  have HMra : Hid (∀ w, Calls Tryz.prog 18 #[.agg #[.int .i64 x0, .int .i64 x1, .int .i64 x2]] w fun e w' => ∃ m : Rt, e = .returned (.agg #[.bool m.neg, .string (encS m.num), .string (encS m.den)]) ∧ m.Ok ∧ Rz m 32 ∧ Below w.heap.size w w') := Lib.hid fun w => Made_r x0 x1 x2 w rx0 rx1 rx2
  have HMrb : Hid (∀ w, Calls Tryz.prog 18 #[.agg #[.int .i64 y0, .int .i64 y1, .int .i64 y2]] w fun e w' => ∃ m : Rt, e = .returned (.agg #[.bool m.neg, .string (encS m.num), .string (encS m.den)]) ∧ m.Ok ∧ Rz m 32 ∧ Below w.heap.size w w') := Lib.hid fun w => Made_r y0 y1 y2 w ry0 ry1 ry2
  have HMrc : Hid (∀ w, Calls Tryz.prog 18 #[.agg #[.int .i64 z0, .int .i64 z1, .int .i64 z2]] w fun e w' => ∃ m : Rt, e = .returned (.agg #[.bool m.neg, .string (encS m.num), .string (encS m.den)]) ∧ m.Ok ∧ Rz m 32 ∧ Below w.heap.size w w') := Lib.hid fun w => Made_r z0 z1 z2 w rz0 rz1 rz2
  clear htab hm rx0 rx1 rx2 ry0 ry1 ry2 rz0 rz1 rz2
  obtain ⟨W0, hW0, h0, h1, h2, hbb⟩ := boxes3 wq (.cells #[.int .i64 x0, .int .i64 x1, .int .i64 x2] 34) (.cells #[.int .i64 y0, .int .i64 y1, .int .i64 y2] 34) (.cells #[.int .i64 z0, .int .i64 z1, .int .i64 z2] 34)
  have HI0 := Lib.hid h0
  have HI1 := Lib.hid h1
  have HI2 := Lib.hid h2
  have HB := Lib.hid hbb
  clear hbb h0 h1 h2
  go_enter Tryz.func8, Tryz.ntmps8
  go_wp2_with fail
  clear hW0
  obtain ⟨bi2, hbi2⟩ : ∃ b, wq.heap.size + 1 + 1 = b := ⟨_, rfl⟩
  rw [hbi2] at HI2 ⊢; clear hbi2
  obtain ⟨bi1, hbi1⟩ : ∃ b, wq.heap.size + 1 = b := ⟨_, rfl⟩
  rw [hbi1] at HI1 ⊢; clear hbi1
  obtain ⟨bi0, hbi0⟩ : ∃ b, wq.heap.size = b := ⟨_, rfl⟩
  rw [hbi0] at HI0 ⊢; clear hbi0
  refine (HSAN.out _ HB.out).mono ?_
  rintro e w1 ⟨rfl, hb⟩
  have HI0 := Lib.hid (heap_up hb HI0.out)
  have HI1 := Lib.hid (heap_up hb HI1.out)
  have HI2 := Lib.hid (heap_up hb HI2.out)
  have HB := Lib.hid (HB.out.trans (hb.mono HB.out.size))
  clear hb
  obtain ⟨⟨k1a, k1b, k1c⟩, -⟩ := row_cells HI0.out
  go_wp2_with fail
  clear k1a k1b k1c
  refine (HMra.out _).mono ?_
  rintro e w2 ⟨ra, rfl, o_ra, z_ra, hb⟩
  have HI0 := Lib.hid (heap_up hb HI0.out)
  have HI1 := Lib.hid (heap_up hb HI1.out)
  have HI2 := Lib.hid (heap_up hb HI2.out)
  have HB := Lib.hid (HB.out.trans (hb.mono HB.out.size))
  have Ora := Lib.hid o_ra; have Zra := Lib.hid z_ra; clear o_ra z_ra
  clear hb
  have HX8 := Lib.hid (heap_alloc_new w2 (.cells #[.bool ra.neg, .string (encS ra.num), .string (encS ra.den)] 26))
  have HB := Lib.hid (HB.out.alloc HB.out.size (.cells #[.bool ra.neg, .string (encS ra.num), .string (encS ra.den)] 26))
  have HI0 := Lib.hid (heap_up ((Below.refl _ w2).alloc (Nat.le_refl _) (.cells #[.bool ra.neg, .string (encS ra.num), .string (encS ra.den)] 26)) HI0.out)
  have HI1 := Lib.hid (heap_up ((Below.refl _ w2).alloc (Nat.le_refl _) (.cells #[.bool ra.neg, .string (encS ra.num), .string (encS ra.den)] 26)) HI1.out)
  have HI2 := Lib.hid (heap_up ((Below.refl _ w2).alloc (Nat.le_refl _) (.cells #[.bool ra.neg, .string (encS ra.num), .string (encS ra.den)] 26)) HI2.out)
  obtain ⟨W3, hW3⟩ : ∃ W, w2.alloc (.cells #[.bool ra.neg, .string (encS ra.num), .string (encS ra.den)] 26) = W := ⟨_, rfl⟩
  rw [hW3] at HI0 HI1 HI2 HX8 HB
  obtain ⟨⟨k2a, k2b, k2c⟩, -⟩ := row_cells HI1.out
  go_wp2_with fail
  clear hW3
  obtain ⟨b8, hbb⟩ : ∃ b, w2.heap.size = b := ⟨_, rfl⟩
  rw [hbb] at HX8
  try rw [hbb]
  clear hbb
  clear k2a k2b k2c
  refine (HMrb.out _).mono ?_
  rintro e w4 ⟨rb, rfl, o_rb, z_rb, hb⟩
  have HI0 := Lib.hid (heap_up hb HI0.out)
  have HI1 := Lib.hid (heap_up hb HI1.out)
  have HI2 := Lib.hid (heap_up hb HI2.out)
  have HX8 := Lib.hid (heap_up hb HX8.out)
  have HB := Lib.hid (HB.out.trans (hb.mono HB.out.size))
  have Orb := Lib.hid o_rb; have Zrb := Lib.hid z_rb; clear o_rb z_rb
  clear hb
  have HX9 := Lib.hid (heap_alloc_new w4 (.cells #[.bool rb.neg, .string (encS rb.num), .string (encS rb.den)] 26))
  have HB := Lib.hid (HB.out.alloc HB.out.size (.cells #[.bool rb.neg, .string (encS rb.num), .string (encS rb.den)] 26))
  have HI0 := Lib.hid (heap_up ((Below.refl _ w4).alloc (Nat.le_refl _) (.cells #[.bool rb.neg, .string (encS rb.num), .string (encS rb.den)] 26)) HI0.out)
  have HI1 := Lib.hid (heap_up ((Below.refl _ w4).alloc (Nat.le_refl _) (.cells #[.bool rb.neg, .string (encS rb.num), .string (encS rb.den)] 26)) HI1.out)
  have HI2 := Lib.hid (heap_up ((Below.refl _ w4).alloc (Nat.le_refl _) (.cells #[.bool rb.neg, .string (encS rb.num), .string (encS rb.den)] 26)) HI2.out)
  have HX8 := Lib.hid (heap_up ((Below.refl _ w4).alloc (Nat.le_refl _) (.cells #[.bool rb.neg, .string (encS rb.num), .string (encS rb.den)] 26)) HX8.out)
  obtain ⟨W5, hW5⟩ : ∃ W, w4.alloc (.cells #[.bool rb.neg, .string (encS rb.num), .string (encS rb.den)] 26) = W := ⟨_, rfl⟩
  rw [hW5] at HI0 HI1 HI2 HX8 HX9 HB
  obtain ⟨⟨k3a, k3b, k3c⟩, -⟩ := row_cells HI2.out
  go_wp2_with fail
  clear hW5
  obtain ⟨b9, hbb⟩ : ∃ b, w4.heap.size = b := ⟨_, rfl⟩
  rw [hbb] at HX9
  try rw [hbb]
  clear hbb
  clear k3a k3b k3c
  refine (HMrc.out _).mono ?_
  rintro e w6 ⟨rc, rfl, o_rc, z_rc, hb⟩
  have HI0 := Lib.hid (heap_up hb HI0.out)
  have HI1 := Lib.hid (heap_up hb HI1.out)
  have HI2 := Lib.hid (heap_up hb HI2.out)
  have HX8 := Lib.hid (heap_up hb HX8.out)
  have HX9 := Lib.hid (heap_up hb HX9.out)
  have HB := Lib.hid (HB.out.trans (hb.mono HB.out.size))
  have Orc := Lib.hid o_rc; have Zrc := Lib.hid z_rc; clear o_rc z_rc
  clear hb
  have o_ra := Ora.out; have z_ra := Zra.out
  have o_rb := Orb.out; have z_rb := Zrb.out
  have o_rc := Orc.out; have z_rc := Zrc.out
  obtain ⟨z, h_z⟩ : ∃ t, zeroR = t := ⟨_, rfl⟩
  have o_z : z.Ok := by rw [← h_z]; exact zeroR_ok
  have z_z : Rz z 1 := by rw [← h_z]; exact zeroR_sz
  have C1 : Hid (∀ w, Calls Tryz.prog 15 #[.int .i64 0] w fun e w' => e = .returned (.agg #[.bool z.neg, .string (encS z.num), .string (encS z.den)]) ∧ Below w.heap.size w w') := Lib.hid fun w => by
    have h := (fun w => RatOf_any 0 w (by decide) (by decide)) w
    rw [ofR_zero, h_z] at h
    exact h
  obtain ⟨sac, h_sac⟩ : ∃ t, addR ra rc = t := ⟨_, rfl⟩
  have o_sac : sac.Ok := by rw [← h_sac]; exact addR_ok o_ra o_rc
  have z_sac : Rz sac 65 := by rw [← h_sac]; exact addR_sz z_ra z_rc
  obtain ⟨sbc, h_sbc⟩ : ∃ t, addR rb rc = t := ⟨_, rfl⟩
  have o_sbc : sbc.Ok := by rw [← h_sbc]; exact addR_ok o_rb o_rc
  have z_sbc : Rz sbc 65 := by rw [← h_sbc]; exact addR_sz z_rb z_rc
  obtain ⟨pac, h_pac⟩ : ∃ t, mulR ra rc = t := ⟨_, rfl⟩
  have o_pac : pac.Ok := by rw [← h_pac]; exact mulR_ok o_ra o_rc
  have z_pac : Rz pac 64 := by rw [← h_pac]; exact mulR_sz z_ra z_rc
  obtain ⟨pbc, h_pbc⟩ : ∃ t, mulR rb rc = t := ⟨_, rfl⟩
  have o_pbc : pbc.Ok := by rw [← h_pbc]; exact mulR_ok o_rb o_rc
  have z_pbc : Rz pbc 64 := by rw [← h_pbc]; exact mulR_sz z_rb z_rc
  obtain ⟨d, h_d⟩ : ∃ t, subR ra rb = t := ⟨_, rfl⟩
  have o_d : d.Ok := by rw [← h_d]; exact subR_ok o_ra o_rb
  have z_d : Rz d 65 := by rw [← h_d]; exact subR_sz z_ra z_rb
  obtain ⟨cm, h_cm⟩ : ∃ t, cmpR ra rb = t := ⟨_, rfl⟩
  obtain ⟨cbc, h_cbc⟩ : ∃ t, cmpR rb rc = t := ⟨_, rfl⟩
  obtain ⟨cac, h_cac⟩ : ∃ t, cmpR ra rc = t := ⟨_, rfl⟩
  obtain ⟨sg, h_sg⟩ : ∃ t, sgnR rc = t := ⟨_, rfl⟩
  obtain ⟨sa, h_sa⟩ : ∃ t, sgnR ra = t := ⟨_, rfl⟩
  have l_cm : cm = 0 ∨ cm = 1 ∨ cm = -1 := by rw [← h_cm]; exact sgn_cases _
  have l_sg : sg = 0 ∨ sg = 1 ∨ sg = -1 := by rw [← h_sg]; exact sgn_cases _
  have C2 : Hid (∀ w, Calls Tryz.prog 27 #[.agg #[.bool ra.neg, .string (encS ra.num), .string (encS ra.den)], .agg #[.bool rc.neg, .string (encS rc.num), .string (encS rc.den)]] w fun e w' => e = .returned (.agg #[.bool sac.neg, .string (encS sac.num), .string (encS sac.den)]) ∧ Below w.heap.size w w') := Lib.hid fun w => by
    have h := RatAdd_r (IsR.of o_ra (z_ra.mono (show 32 ≤ 1000 from by decide))) (IsR.of o_rc (z_rc.mono (show 32 ≤ 1000 from by decide))) (by decide) (by decide) w
    rw [show addR ra rc = sac from by rw [h_sac]] at h
    exact h
  have C3 : Hid (∀ w, Calls Tryz.prog 27 #[.agg #[.bool rb.neg, .string (encS rb.num), .string (encS rb.den)], .agg #[.bool rc.neg, .string (encS rc.num), .string (encS rc.den)]] w fun e w' => e = .returned (.agg #[.bool sbc.neg, .string (encS sbc.num), .string (encS sbc.den)]) ∧ Below w.heap.size w w') := Lib.hid fun w => by
    have h := RatAdd_r (IsR.of o_rb (z_rb.mono (show 32 ≤ 1000 from by decide))) (IsR.of o_rc (z_rc.mono (show 32 ≤ 1000 from by decide))) (by decide) (by decide) w
    rw [show addR rb rc = sbc from by rw [h_sbc]] at h
    exact h
  have C4 : Hid (∀ w, Calls Tryz.prog 29 #[.agg #[.bool ra.neg, .string (encS ra.num), .string (encS ra.den)], .agg #[.bool rc.neg, .string (encS rc.num), .string (encS rc.den)]] w fun e w' => e = .returned (.agg #[.bool pac.neg, .string (encS pac.num), .string (encS pac.den)]) ∧ Below w.heap.size w w') := Lib.hid fun w => by
    have h := RatMul_r (IsR.of o_ra (z_ra.mono (show 32 ≤ 1000 from by decide))) (IsR.of o_rc (z_rc.mono (show 32 ≤ 1000 from by decide))) (by decide) (by decide) w
    rw [show mulR ra rc = pac from by rw [h_pac]] at h
    exact h
  have C5 : Hid (∀ w, Calls Tryz.prog 29 #[.agg #[.bool rb.neg, .string (encS rb.num), .string (encS rb.den)], .agg #[.bool rc.neg, .string (encS rc.num), .string (encS rc.den)]] w fun e w' => e = .returned (.agg #[.bool pbc.neg, .string (encS pbc.num), .string (encS pbc.den)]) ∧ Below w.heap.size w w') := Lib.hid fun w => by
    have h := RatMul_r (IsR.of o_rb (z_rb.mono (show 32 ≤ 1000 from by decide))) (IsR.of o_rc (z_rc.mono (show 32 ≤ 1000 from by decide))) (by decide) (by decide) w
    rw [show mulR rb rc = pbc from by rw [h_pbc]] at h
    exact h
  have C6 : Hid (∀ w, Calls Tryz.prog 32 #[.agg #[.bool ra.neg, .string (encS ra.num), .string (encS ra.den)], .agg #[.bool rb.neg, .string (encS rb.num), .string (encS rb.den)]] w fun e w' => e = .returned (.agg #[.bool d.neg, .string (encS d.num), .string (encS d.den)]) ∧ Below w.heap.size w w') := Lib.hid fun w => by
    have h := RatSub_r (IsR.of o_ra (z_ra.mono (show 32 ≤ 1000 from by decide))) (IsR.of o_rb (z_rb.mono (show 32 ≤ 1000 from by decide))) (by decide) (by decide) w
    rw [show subR ra rb = d from by rw [h_d]] at h
    exact h
  have C7 : Hid (∀ w, Calls Tryz.prog 37 #[.agg #[.bool ra.neg, .string (encS ra.num), .string (encS ra.den)], .agg #[.bool rb.neg, .string (encS rb.num), .string (encS rb.den)]] w fun e w' => e = .returned (.int .i64 cm) ∧ Below w.heap.size w w') := Lib.hid fun w => by
    have h := RatCmp_r (IsR.of o_ra (z_ra.mono (show 32 ≤ 1000 from by decide))) (IsR.of o_rb (z_rb.mono (show 32 ≤ 1000 from by decide))) (by decide) (by decide) w
    rw [show cmpR ra rb = cm from by rw [h_cm]] at h
    exact h
  have C8 : Hid (∀ w, Calls Tryz.prog 37 #[.agg #[.bool rb.neg, .string (encS rb.num), .string (encS rb.den)], .agg #[.bool ra.neg, .string (encS ra.num), .string (encS ra.den)]] w fun e w' => e = .returned (.int .i64 (-cm)) ∧ Below w.heap.size w w') := Lib.hid fun w => by
    have h := RatCmp_r (IsR.of o_rb (z_rb.mono (show 32 ≤ 1000 from by decide))) (IsR.of o_ra (z_ra.mono (show 32 ≤ 1000 from by decide))) (by decide) (by decide) w
    rw [show cmpR rb ra = (-cm) from by rw [cmpR_swap o_rb o_ra, h_cm]] at h
    exact h
  have C9 : Hid (∀ w, Calls Tryz.prog 37 #[.agg #[.bool rb.neg, .string (encS rb.num), .string (encS rb.den)], .agg #[.bool rc.neg, .string (encS rc.num), .string (encS rc.den)]] w fun e w' => e = .returned (.int .i64 cbc) ∧ Below w.heap.size w w') := Lib.hid fun w => by
    have h := RatCmp_r (IsR.of o_rb (z_rb.mono (show 32 ≤ 1000 from by decide))) (IsR.of o_rc (z_rc.mono (show 32 ≤ 1000 from by decide))) (by decide) (by decide) w
    rw [show cmpR rb rc = cbc from by rw [h_cbc]] at h
    exact h
  have C10 : Hid (∀ w, Calls Tryz.prog 37 #[.agg #[.bool ra.neg, .string (encS ra.num), .string (encS ra.den)], .agg #[.bool rc.neg, .string (encS rc.num), .string (encS rc.den)]] w fun e w' => e = .returned (.int .i64 cac) ∧ Below w.heap.size w w') := Lib.hid fun w => by
    have h := RatCmp_r (IsR.of o_ra (z_ra.mono (show 32 ≤ 1000 from by decide))) (IsR.of o_rc (z_rc.mono (show 32 ≤ 1000 from by decide))) (by decide) (by decide) w
    rw [show cmpR ra rc = cac from by rw [h_cac]] at h
    exact h
  have C11 : Hid (∀ w, Calls Tryz.prog 37 #[.agg #[.bool sac.neg, .string (encS sac.num), .string (encS sac.den)], .agg #[.bool sbc.neg, .string (encS sbc.num), .string (encS sbc.den)]] w fun e w' => e = .returned (.int .i64 cm) ∧ Below w.heap.size w w') := Lib.hid fun w => by
    have h := RatCmp_r (IsR.of o_sac (z_sac.mono (show 65 ≤ 1000 from by decide))) (IsR.of o_sbc (z_sbc.mono (show 65 ≤ 1000 from by decide))) (by decide) (by decide) w
    rw [show cmpR sac sbc = cm from by rw [← h_sac, ← h_sbc, cmpR_add o_ra o_rb o_rc, h_cm]] at h
    exact h
  have C12 : Hid (∀ w, Calls Tryz.prog 37 #[.agg #[.bool pac.neg, .string (encS pac.num), .string (encS pac.den)], .agg #[.bool pbc.neg, .string (encS pbc.num), .string (encS pbc.den)]] w fun e w' => e = .returned (.int .i64 (cm * sg)) ∧ Below w.heap.size w w') := Lib.hid fun w => by
    have h := RatCmp_r (IsR.of o_pac (z_pac.mono (show 64 ≤ 1000 from by decide))) (IsR.of o_pbc (z_pbc.mono (show 64 ≤ 1000 from by decide))) (by decide) (by decide) w
    rw [show cmpR pac pbc = (cm * sg) from by rw [← h_pac, ← h_pbc, cmpR_mul o_ra o_rb o_rc, h_cm, h_sg]] at h
    exact h
  have C13 : Hid (∀ w, Calls Tryz.prog 39 #[.agg #[.bool rc.neg, .string (encS rc.num), .string (encS rc.den)]] w fun e w' => e = .returned (.int .i64 sg) ∧ Below w.heap.size w w') := Lib.hid fun w => by
    have h := RatSign_r (IsR.of o_rc (z_rc.mono (show 32 ≤ 1000 from by decide))) (by decide) w
    rw [show sgnR rc = sg from by rw [h_sg]] at h
    exact h
  have C14 : Hid (∀ w, Calls Tryz.prog 39 #[.agg #[.bool d.neg, .string (encS d.num), .string (encS d.den)]] w fun e w' => e = .returned (.int .i64 cm) ∧ Below w.heap.size w w') := Lib.hid fun w => by
    have h := RatSign_r (IsR.of o_d (z_d.mono (show 65 ≤ 1000 from by decide))) (by decide) w
    rw [show sgnR d = cm from by rw [← h_d, sgnR_sub, h_cm]] at h
    exact h
  have C15 : Hid (∀ w, Calls Tryz.prog 39 #[.agg #[.bool ra.neg, .string (encS ra.num), .string (encS ra.den)]] w fun e w' => e = .returned (.int .i64 sa) ∧ Below w.heap.size w w') := Lib.hid fun w => by
    have h := RatSign_r (IsR.of o_ra (z_ra.mono (show 32 ≤ 1000 from by decide))) (by decide) w
    rw [show sgnR ra = sa from by rw [h_sa]] at h
    exact h
  have C16 : Hid (∀ w, Calls Tryz.prog 37 #[.agg #[.bool ra.neg, .string (encS ra.num), .string (encS ra.den)], .agg #[.bool z.neg, .string (encS z.num), .string (encS z.den)]] w fun e w' => e = .returned (.int .i64 sa) ∧ Below w.heap.size w w') := Lib.hid fun w => by
    have h := RatCmp_r (IsR.of o_ra (z_ra.mono (show 32 ≤ 1000 from by decide))) (IsR.of o_z (z_z.mono (show 1 ≤ 1000 from by decide))) (by decide) (by decide) w
    rw [show cmpR ra z = sa from by rw [← h_z, cmpR_zero o_ra, h_sa]] at h
    exact h
  obtain ⟨Z, hZ⟩ : ∃ b, (cm == 0) = b := ⟨_, rfl⟩
  obtain ⟨P1, hP1⟩ : ∃ b, decide (cm < 0) = b := ⟨_, rfl⟩
  obtain ⟨P2, hP2⟩ : ∃ b, decide (cbc < 0) = b := ⟨_, rfl⟩
  obtain ⟨Q, hQ⟩ : ∃ b, b = (P1 || P2) := ⟨_, rfl⟩
  have HZ := Lib.hid hZ; have HP1 := Lib.hid hP1; have HP2 := Lib.hid hP2; have HQ := Lib.hid hQ
  have HEQ : Hid (eqR ra rb = Z) := Lib.hid (by rw [← hZ, Bool.eq_iff_iff, eqR_iff, beq_iff_eq, ← h_cm, cmpR_eq o_ra o_rb])
  have HTR : Hid (Q = false → decide (0 ≤ cac) = true) := Lib.hid (fun h => by rw [hQ, Bool.or_eq_false_iff] at h; obtain ⟨h1, h2⟩ := h; rw [← hP1] at h1; rw [← hP2] at h2; rw [← h_cm] at h1; rw [← h_cbc] at h2; rw [← h_cac]; exact decide_eq_true (cmpR_trans o_ra o_rb o_rc (of_decide_eq_false h1) (of_decide_eq_false h2)))
  have HW1 : Hid (IntKind.i64.wrap (- -cm) = cm) := Lib.hid (by rw [Int.neg_neg]; exact IntWalk.i64_in _ (by omega))
  have HW2 : Hid (IntKind.i64.wrap (cm * sg) = cm * sg) := Lib.hid (IntWalk.i64_in _ (by rcases l_cm with h | h | h <;> rcases l_sg with h2 | h2 | h2 <;> subst h <;> subst h2 <;> decide))
  clear o_ra z_ra o_rb z_rb o_rc z_rc o_z z_z h_z o_sac z_sac h_sac o_sbc z_sbc h_sbc o_pac z_pac h_pac o_pbc z_pbc h_pbc o_d z_d h_d hZ hP1 hP2 hQ h_cm h_cbc h_cac h_sg h_sa l_cm l_sg
  have HX10 := Lib.hid (heap_alloc_new w6 (.cells #[.bool rc.neg, .string (encS rc.num), .string (encS rc.den)] 26))
  have HB := Lib.hid (HB.out.alloc HB.out.size (.cells #[.bool rc.neg, .string (encS rc.num), .string (encS rc.den)] 26))
  have HI0 := Lib.hid (heap_up ((Below.refl _ w6).alloc (Nat.le_refl _) (.cells #[.bool rc.neg, .string (encS rc.num), .string (encS rc.den)] 26)) HI0.out)
  have HI1 := Lib.hid (heap_up ((Below.refl _ w6).alloc (Nat.le_refl _) (.cells #[.bool rc.neg, .string (encS rc.num), .string (encS rc.den)] 26)) HI1.out)
  have HI2 := Lib.hid (heap_up ((Below.refl _ w6).alloc (Nat.le_refl _) (.cells #[.bool rc.neg, .string (encS rc.num), .string (encS rc.den)] 26)) HI2.out)
  have HX8 := Lib.hid (heap_up ((Below.refl _ w6).alloc (Nat.le_refl _) (.cells #[.bool rc.neg, .string (encS rc.num), .string (encS rc.den)] 26)) HX8.out)
  have HX9 := Lib.hid (heap_up ((Below.refl _ w6).alloc (Nat.le_refl _) (.cells #[.bool rc.neg, .string (encS rc.num), .string (encS rc.den)] 26)) HX9.out)
  obtain ⟨W7, hW7⟩ : ∃ W, w6.alloc (.cells #[.bool rc.neg, .string (encS rc.num), .string (encS rc.den)] 26) = W := ⟨_, rfl⟩
  rw [hW7] at HI0 HI1 HI2 HX8 HX9 HX10 HB
  obtain ⟨⟨k4a, k4b, k4c⟩, -⟩ := row_cells HX8.out
  obtain ⟨⟨k5a, k5b, k5c⟩, -⟩ := row_cells HX9.out
  go_wp2_with fail
  clear hW7
  obtain ⟨b10, hbb⟩ : ∃ b, w6.heap.size = b := ⟨_, rfl⟩
  rw [hbb] at HX10
  try rw [hbb]
  clear hbb
  clear k4a k4b k4c k5a k5b k5c
  refine (C7.out _).mono ?_
  rintro e w8 ⟨rfl, hb⟩
  have HI0 := Lib.hid (heap_up hb HI0.out)
  have HI1 := Lib.hid (heap_up hb HI1.out)
  have HI2 := Lib.hid (heap_up hb HI2.out)
  have HX8 := Lib.hid (heap_up hb HX8.out)
  have HX9 := Lib.hid (heap_up hb HX9.out)
  have HX10 := Lib.hid (heap_up hb HX10.out)
  have HB := Lib.hid (HB.out.trans (hb.mono HB.out.size))
  clear hb
  go_wp2_with fail
  refine wp_region_vals (w := w8) (by kernel_rfl) (SS6 b8 b9 b10 ra rb rc sac sbc cm cbc cac Z P1 P2 Q) (fun t => (decide (12 ≤ t) && decide (t < 13)) || (decide (23 ≤ t) && decide (t < 64))) (by kernel_rfl) (by kernel_rfl) (by kernel_rfl) (SS6_up b8 b9 b10 ra rb rc sac sbc cm cbc cac Z P1 P2 Q) ?_ ?_
  · intro i hi o listed a w hR K hK
    have ho := hR.at_
    have hi : i < 42 := hi
    have hii : i = 0 ∨ i = 1 ∨ i = 2 ∨ i = 3 ∨ i = 4 ∨ i = 5 ∨ i = 6 ∨ i = 7 ∨ i = 8 ∨ i = 9 ∨ i = 10 ∨ i = 11 ∨ i = 12 ∨ i = 13 ∨ i = 14 ∨ i = 15 ∨ i = 16 ∨ i = 17 ∨ i = 18 ∨ i = 19 ∨ i = 20 ∨ i = 21 ∨ i = 22 ∨ i = 23 ∨ i = 24 ∨ i = 25 ∨ i = 26 ∨ i = 27 ∨ i = 28 ∨ i = 29 ∨ i = 30 ∨ i = 31 ∨ i = 32 ∨ i = 33 ∨ i = 34 ∨ i = 35 ∨ i = 36 ∨ i = 37 ∨ i = 38 ∨ i = 39 ∨ i = 40 ∨ i = 41 := by omega
    rcases hii with rfl | rfl | rfl | rfl | rfl | rfl | rfl | rfl | rfl | rfl | rfl | rfl | rfl | rfl | rfl | rfl | rfl | rfl | rfl | rfl | rfl | rfl | rfl | rfl | rfl | rfl | rfl | rfl | rfl | rfl | rfl | rfl | rfl | rfl | rfl | rfl | rfl | rfl | rfl | rfl | rfl | rfl
    · simp at ho
      subst ho
      have b11 : a.tmps.getD 11 undef = .int .i64 cm := hR.base 11 (by kernel_rfl)
      refine plain_step rfl rfl ?_
      go_simp
      exact hK _ _ (rfl) (Below.refl _ _)
    · simp at ho
      subst ho
      have b9 : a.tmps.getD 9 undef = .pointer (some ⟨b9, 0, none⟩) := hR.base 9 (by kernel_rfl)
      obtain ⟨⟨cx0, cx1, cx2⟩, -⟩ := row_cells (heap_up hR.below HX9.out)
      refine plain_step rfl rfl ?_
      go_simp
      exact hK _ _ (rfl) (Below.refl _ _)
    · simp at ho
      subst ho
      have b8 : a.tmps.getD 8 undef = .pointer (some ⟨b8, 0, none⟩) := hR.base 8 (by kernel_rfl)
      obtain ⟨⟨cx0, cx1, cx2⟩, -⟩ := row_cells (heap_up hR.below HX8.out)
      refine plain_step rfl rfl ?_
      go_simp
      exact hK _ _ (rfl) (Below.refl _ _)
    · simp at ho
      subst ho
      have e1 : a.tmps.getD 24 undef = .agg #[.bool rb.neg, .string (encS rb.num), .string (encS rb.den)] := hR.dep ⟨1, .data⟩ (by simp) rfl
      have e2 : a.tmps.getD 25 undef = .agg #[.bool ra.neg, .string (encS ra.num), .string (encS ra.den)] := hR.dep ⟨2, .data⟩ (by simp) rfl
      refine plain_step rfl rfl ?_
      go_simp
      refine (C8.out w).mono ?_
      rintro e w' ⟨rfl, hb⟩
      exact hK _ _ (rfl) hb
    · simp at ho
      subst ho
      have e3 : a.tmps.getD 26 undef = .int .i64 (-cm) := hR.dep ⟨3, .data⟩ (by simp) rfl
      have q1 := HW1.out
      have q2 := q1; rw [Int.neg_neg] at q2
      refine plain_step rfl rfl ?_
      go_simp
      exact hK _ _ (rfl) (Below.refl _ _)
    · simp at ho
      subst ho
      have e0 : a.tmps.getD 23 undef = .int .i64 cm := hR.dep ⟨0, .data⟩ (by simp) rfl
      have e4 : a.tmps.getD 27 undef = .int .i64 cm := hR.dep ⟨4, .data⟩ (by simp) rfl
      refine plain_step rfl rfl ?_
      go_simp
      exact hK _ _ (rfl) (Below.refl _ _)
    · simp at ho
      subst ho
      have e5 : a.tmps.getD 28 undef = .bool true := hR.dep ⟨5, .data⟩ (by simp) rfl
      refine plain_step rfl rfl ?_
      go_simp
      exact hK _ _ (rfl) (Below.refl _ _)
    · simp at ho
      subst ho
      have e6 : a.tmps.getD 29 undef = .bool true := hR.dep ⟨6, .guard⟩ (by simp) rfl
      have b11 : a.tmps.getD 11 undef = .int .i64 cm := hR.base 11 (by kernel_rfl)
      refine guard_step rfl rfl rfl (b := true) e6 ?_
      go_simp
      exact hK _ _ (rfl) (Below.refl _ _)
    · simp at ho
      subst ho
      have e7 : a.tmps.getD 30 undef = .int .i64 cm := hR.dep ⟨7, .data⟩ (by simp) rfl
      have e6 : a.tmps.getD 29 undef = .bool true := hR.dep ⟨6, .guard⟩ (by simp) rfl
      have hz := HZ.out
      refine guard_step rfl rfl rfl (b := true) e6 ?_
      go_simp
      exact hK _ _ (rfl) (Below.refl _ _)
    · simp at ho
      subst ho
      have e6 : a.tmps.getD 29 undef = .bool true := hR.dep ⟨6, .guard⟩ (by simp) rfl
      have b8 : a.tmps.getD 8 undef = .pointer (some ⟨b8, 0, none⟩) := hR.base 8 (by kernel_rfl)
      obtain ⟨⟨cx0, cx1, cx2⟩, -⟩ := row_cells (heap_up hR.below HX8.out)
      refine guard_step rfl rfl rfl (b := true) e6 ?_
      go_simp
      exact hK _ _ (rfl) (Below.refl _ _)
    · simp at ho
      subst ho
      have e6 : a.tmps.getD 29 undef = .bool true := hR.dep ⟨6, .guard⟩ (by simp) rfl
      have b9 : a.tmps.getD 9 undef = .pointer (some ⟨b9, 0, none⟩) := hR.base 9 (by kernel_rfl)
      obtain ⟨⟨cx0, cx1, cx2⟩, -⟩ := row_cells (heap_up hR.below HX9.out)
      refine guard_step rfl rfl rfl (b := true) e6 ?_
      go_simp
      exact hK _ _ (rfl) (Below.refl _ _)
    · simp at ho
      subst ho
      have e9 : a.tmps.getD 32 undef = .agg #[.bool ra.neg, .string (encS ra.num), .string (encS ra.den)] := hR.dep ⟨9, .data⟩ (by simp) rfl
      have e10 : a.tmps.getD 33 undef = .agg #[.bool rb.neg, .string (encS rb.num), .string (encS rb.den)] := hR.dep ⟨10, .data⟩ (by simp) rfl
      have e6 : a.tmps.getD 29 undef = .bool true := hR.dep ⟨6, .guard⟩ (by simp) rfl
      refine guard_step rfl rfl rfl (b := true) e6 ?_
      go_simp
      rw [eql3, row_dec, HEQ.out]
      exact hK _ _ (rfl) (Below.refl _ _)
    · simp at ho
      subst ho
      have e8 : a.tmps.getD 31 undef = .bool Z := hR.dep ⟨8, .data⟩ (by simp) rfl
      have e11 : a.tmps.getD 34 undef = .bool Z := hR.dep ⟨11, .data⟩ (by simp) rfl
      have e6 : a.tmps.getD 29 undef = .bool true := hR.dep ⟨6, .guard⟩ (by simp) rfl
      refine guard_step rfl rfl rfl (b := true) e6 ?_
      go_simp
      exact hK _ _ (rfl) (Below.refl _ _)
    · simp at ho
      subst ho
      have e6 : a.tmps.getD 29 undef = .bool true := hR.dep ⟨6, .data⟩ (by simp) rfl
      have e12 : a.tmps.getD 35 undef = .bool true := hR.dep ⟨12, .data⟩ (by simp) rfl
      refine plain_step rfl rfl ?_
      go_simp
      exact hK _ _ (rfl) (Below.refl _ _)
    · simp at ho
      subst ho
      have e13 : a.tmps.getD 36 undef = .bool true := hR.dep ⟨13, .data⟩ (by simp) rfl
      refine plain_step rfl rfl ?_
      go_simp
      exact hK _ _ (rfl) (Below.refl _ _)
    · simp at ho
      subst ho
      have e14 : a.tmps.getD 37 undef = .bool true := hR.dep ⟨14, .guard⟩ (by simp) rfl
      have b11 : a.tmps.getD 11 undef = .int .i64 cm := hR.base 11 (by kernel_rfl)
      refine guard_step rfl rfl rfl (b := true) e14 ?_
      go_simp
      exact hK _ _ (rfl) (Below.refl _ _)
    · simp at ho
      subst ho
      have e15 : a.tmps.getD 38 undef = .int .i64 cm := hR.dep ⟨15, .data⟩ (by simp) rfl
      have e14 : a.tmps.getD 37 undef = .bool true := hR.dep ⟨14, .guard⟩ (by simp) rfl
      have hp := HP1.out
      refine guard_step rfl rfl rfl (b := true) e14 ?_
      go_simp
      exact hK _ _ (rfl) (Below.refl _ _)
    · simp at ho
      subst ho
      have e16 : a.tmps.getD 39 undef = .bool P1 := hR.dep ⟨16, .data⟩ (by simp) rfl
      have e14 : a.tmps.getD 37 undef = .bool true := hR.dep ⟨14, .guard⟩ (by simp) rfl
      refine guard_step rfl rfl rfl (b := true) e14 ?_
      go_simp
      exact hK _ _ (rfl) (Below.refl _ _)
    · simp at ho
      subst ho
      have e17 : a.tmps.getD 40 undef = .bool P1 := hR.dep ⟨17, .guard⟩ (by simp) rfl
      have b9 : a.tmps.getD 9 undef = .pointer (some ⟨b9, 0, none⟩) := hR.base 9 (by kernel_rfl)
      obtain ⟨⟨cx0, cx1, cx2⟩, -⟩ := row_cells (heap_up hR.below HX9.out)
      cases P1
      · refine guard_step rfl rfl rfl (b := false) e17 ?_
        go_simp
        exact hK _ _ (rfl) (Below.refl _ _)
      · refine guard_skip rfl rfl rfl (b := false) e17 (by decide) ?_
        exact hK _ _ rfl (Below.refl _ _)
    · simp at ho
      subst ho
      have e17 : a.tmps.getD 40 undef = .bool P1 := hR.dep ⟨17, .guard⟩ (by simp) rfl
      have b10 : a.tmps.getD 10 undef = .pointer (some ⟨b10, 0, none⟩) := hR.base 10 (by kernel_rfl)
      obtain ⟨⟨cx0, cx1, cx2⟩, -⟩ := row_cells (heap_up hR.below HX10.out)
      cases P1
      · refine guard_step rfl rfl rfl (b := false) e17 ?_
        go_simp
        exact hK _ _ (rfl) (Below.refl _ _)
      · refine guard_skip rfl rfl rfl (b := false) e17 (by decide) ?_
        exact hK _ _ rfl (Below.refl _ _)
    · simp at ho
      subst ho
      have e18 : a.tmps.getD 41 undef = (bif P1 then undef else .agg #[.bool rb.neg, .string (encS rb.num), .string (encS rb.den)]) := hR.dep ⟨18, .data⟩ (by simp) rfl
      have e19 : a.tmps.getD 42 undef = (bif P1 then undef else .agg #[.bool rc.neg, .string (encS rc.num), .string (encS rc.den)]) := hR.dep ⟨19, .data⟩ (by simp) rfl
      have e17 : a.tmps.getD 40 undef = .bool P1 := hR.dep ⟨17, .guard⟩ (by simp) rfl
      cases P1
      · refine guard_step rfl rfl rfl (b := false) e17 ?_
        go_simp
        refine (C9.out w).mono ?_
        rintro e w' ⟨rfl, hb⟩
        exact hK _ _ (rfl) hb
      · refine guard_skip rfl rfl rfl (b := false) e17 (by decide) ?_
        exact hK _ _ rfl (Below.refl _ _)
    · simp at ho
      subst ho
      have e20 : a.tmps.getD 43 undef = (bif P1 then undef else .int .i64 cbc) := hR.dep ⟨20, .data⟩ (by simp) rfl
      have e17 : a.tmps.getD 40 undef = .bool P1 := hR.dep ⟨17, .guard⟩ (by simp) rfl
      have hp := HP2.out
      cases P1
      · refine guard_step rfl rfl rfl (b := false) e17 ?_
        go_simp
        exact hK _ _ (rfl) (Below.refl _ _)
      · refine guard_skip rfl rfl rfl (b := false) e17 (by decide) ?_
        exact hK _ _ rfl (Below.refl _ _)
    · simp at ho
      subst ho
      have e17 : a.tmps.getD 40 undef = .bool P1 := hR.dep ⟨17, .data⟩ (by simp) rfl
      have e21 : a.tmps.getD 44 undef = (bif P1 then undef else .bool P2) := hR.dep ⟨21, .data⟩ (by simp) rfl
      have e14 : a.tmps.getD 37 undef = .bool true := hR.dep ⟨14, .guard⟩ (by simp) rfl
      cases P1
      · refine guard_step rfl rfl rfl (b := true) e14 ?_
        go_simp
        exact hK _ _ (by rw [HQ.out]; rfl) (Below.refl _ _)
      · refine guard_step rfl rfl rfl (b := true) e14 ?_
        go_simp
        exact hK _ _ (by rw [HQ.out]; rfl) (Below.refl _ _)
    · simp at ho
      subst ho
      have e22 : a.tmps.getD 45 undef = .bool Q := hR.dep ⟨22, .data⟩ (by simp) rfl
      have e14 : a.tmps.getD 37 undef = .bool true := hR.dep ⟨14, .guard⟩ (by simp) rfl
      refine guard_step rfl rfl rfl (b := true) e14 ?_
      go_simp
      exact hK _ _ (rfl) (Below.refl _ _)
    · simp at ho
      subst ho
      have e23 : a.tmps.getD 46 undef = .bool Q := hR.dep ⟨23, .guard⟩ (by simp) rfl
      have b8 : a.tmps.getD 8 undef = .pointer (some ⟨b8, 0, none⟩) := hR.base 8 (by kernel_rfl)
      obtain ⟨⟨cx0, cx1, cx2⟩, -⟩ := row_cells (heap_up hR.below HX8.out)
      cases Q
      · refine guard_step rfl rfl rfl (b := false) e23 ?_
        go_simp
        exact hK _ _ (rfl) (Below.refl _ _)
      · refine guard_skip rfl rfl rfl (b := false) e23 (by decide) ?_
        exact hK _ _ rfl (Below.refl _ _)
    · simp at ho
      subst ho
      have e23 : a.tmps.getD 46 undef = .bool Q := hR.dep ⟨23, .guard⟩ (by simp) rfl
      have b10 : a.tmps.getD 10 undef = .pointer (some ⟨b10, 0, none⟩) := hR.base 10 (by kernel_rfl)
      obtain ⟨⟨cx0, cx1, cx2⟩, -⟩ := row_cells (heap_up hR.below HX10.out)
      cases Q
      · refine guard_step rfl rfl rfl (b := false) e23 ?_
        go_simp
        exact hK _ _ (rfl) (Below.refl _ _)
      · refine guard_skip rfl rfl rfl (b := false) e23 (by decide) ?_
        exact hK _ _ rfl (Below.refl _ _)
    · simp at ho
      subst ho
      have e24 : a.tmps.getD 47 undef = (bif Q then undef else .agg #[.bool ra.neg, .string (encS ra.num), .string (encS ra.den)]) := hR.dep ⟨24, .data⟩ (by simp) rfl
      have e25 : a.tmps.getD 48 undef = (bif Q then undef else .agg #[.bool rc.neg, .string (encS rc.num), .string (encS rc.den)]) := hR.dep ⟨25, .data⟩ (by simp) rfl
      have e23 : a.tmps.getD 46 undef = .bool Q := hR.dep ⟨23, .guard⟩ (by simp) rfl
      cases Q
      · refine guard_step rfl rfl rfl (b := false) e23 ?_
        go_simp
        refine (C10.out w).mono ?_
        rintro e w' ⟨rfl, hb⟩
        exact hK _ _ (rfl) hb
      · refine guard_skip rfl rfl rfl (b := false) e23 (by decide) ?_
        exact hK _ _ rfl (Below.refl _ _)
    · simp at ho
      subst ho
      have e26 : a.tmps.getD 49 undef = (bif Q then undef else .int .i64 cac) := hR.dep ⟨26, .data⟩ (by simp) rfl
      have e23 : a.tmps.getD 46 undef = .bool Q := hR.dep ⟨23, .guard⟩ (by simp) rfl
      have htr := HTR.out
      cases Q
      · refine guard_step rfl rfl rfl (b := false) e23 ?_
        have ht := htr rfl; go_simp
        exact hK _ _ (rfl) (Below.refl _ _)
      · refine guard_skip rfl rfl rfl (b := false) e23 (by decide) ?_
        exact hK _ _ rfl (Below.refl _ _)
    · simp at ho
      subst ho
      have e23 : a.tmps.getD 46 undef = .bool Q := hR.dep ⟨23, .data⟩ (by simp) rfl
      have e27 : a.tmps.getD 50 undef = (bif Q then undef else .bool true) := hR.dep ⟨27, .data⟩ (by simp) rfl
      have e14 : a.tmps.getD 37 undef = .bool true := hR.dep ⟨14, .guard⟩ (by simp) rfl
      cases Q
      · refine guard_step rfl rfl rfl (b := true) e14 ?_
        go_simp
        exact hK _ _ (rfl) (Below.refl _ _)
      · refine guard_step rfl rfl rfl (b := true) e14 ?_
        go_simp
        exact hK _ _ (rfl) (Below.refl _ _)
    · simp at ho
      subst ho
      have e14 : a.tmps.getD 37 undef = .bool true := hR.dep ⟨14, .data⟩ (by simp) rfl
      have e28 : a.tmps.getD 51 undef = .bool true := hR.dep ⟨28, .data⟩ (by simp) rfl
      refine plain_step rfl rfl ?_
      go_simp
      exact hK _ _ (rfl) (Below.refl _ _)
    · simp at ho
      subst ho
      have e29 : a.tmps.getD 52 undef = .bool true := hR.dep ⟨29, .data⟩ (by simp) rfl
      refine plain_step rfl rfl ?_
      go_simp
      exact hK _ _ (rfl) (Below.refl _ _)
    · simp at ho
      subst ho
      have e30 : a.tmps.getD 53 undef = .bool true := hR.dep ⟨30, .guard⟩ (by simp) rfl
      have b8 : a.tmps.getD 8 undef = .pointer (some ⟨b8, 0, none⟩) := hR.base 8 (by kernel_rfl)
      obtain ⟨⟨cx0, cx1, cx2⟩, -⟩ := row_cells (heap_up hR.below HX8.out)
      refine guard_step rfl rfl rfl (b := true) e30 ?_
      go_simp
      exact hK _ _ (rfl) (Below.refl _ _)
    · simp at ho
      subst ho
      have e30 : a.tmps.getD 53 undef = .bool true := hR.dep ⟨30, .guard⟩ (by simp) rfl
      have b10 : a.tmps.getD 10 undef = .pointer (some ⟨b10, 0, none⟩) := hR.base 10 (by kernel_rfl)
      obtain ⟨⟨cx0, cx1, cx2⟩, -⟩ := row_cells (heap_up hR.below HX10.out)
      refine guard_step rfl rfl rfl (b := true) e30 ?_
      go_simp
      exact hK _ _ (rfl) (Below.refl _ _)
    · simp at ho
      subst ho
      have e31 : a.tmps.getD 54 undef = .agg #[.bool ra.neg, .string (encS ra.num), .string (encS ra.den)] := hR.dep ⟨31, .data⟩ (by simp) rfl
      have e32 : a.tmps.getD 55 undef = .agg #[.bool rc.neg, .string (encS rc.num), .string (encS rc.den)] := hR.dep ⟨32, .data⟩ (by simp) rfl
      have e30 : a.tmps.getD 53 undef = .bool true := hR.dep ⟨30, .guard⟩ (by simp) rfl
      refine guard_step rfl rfl rfl (b := true) e30 ?_
      go_simp
      refine (C2.out w).mono ?_
      rintro e w' ⟨rfl, hb⟩
      exact hK _ _ (rfl) hb
    · simp at ho
      subst ho
      have e30 : a.tmps.getD 53 undef = .bool true := hR.dep ⟨30, .guard⟩ (by simp) rfl
      have b9 : a.tmps.getD 9 undef = .pointer (some ⟨b9, 0, none⟩) := hR.base 9 (by kernel_rfl)
      obtain ⟨⟨cx0, cx1, cx2⟩, -⟩ := row_cells (heap_up hR.below HX9.out)
      refine guard_step rfl rfl rfl (b := true) e30 ?_
      go_simp
      exact hK _ _ (rfl) (Below.refl _ _)
    · simp at ho
      subst ho
      have e30 : a.tmps.getD 53 undef = .bool true := hR.dep ⟨30, .guard⟩ (by simp) rfl
      have b10 : a.tmps.getD 10 undef = .pointer (some ⟨b10, 0, none⟩) := hR.base 10 (by kernel_rfl)
      obtain ⟨⟨cx0, cx1, cx2⟩, -⟩ := row_cells (heap_up hR.below HX10.out)
      refine guard_step rfl rfl rfl (b := true) e30 ?_
      go_simp
      exact hK _ _ (rfl) (Below.refl _ _)
    · simp at ho
      subst ho
      have e34 : a.tmps.getD 57 undef = .agg #[.bool rb.neg, .string (encS rb.num), .string (encS rb.den)] := hR.dep ⟨34, .data⟩ (by simp) rfl
      have e35 : a.tmps.getD 58 undef = .agg #[.bool rc.neg, .string (encS rc.num), .string (encS rc.den)] := hR.dep ⟨35, .data⟩ (by simp) rfl
      have e30 : a.tmps.getD 53 undef = .bool true := hR.dep ⟨30, .guard⟩ (by simp) rfl
      refine guard_step rfl rfl rfl (b := true) e30 ?_
      go_simp
      refine (C3.out w).mono ?_
      rintro e w' ⟨rfl, hb⟩
      exact hK _ _ (rfl) hb
    · simp at ho
      subst ho
      have e33 : a.tmps.getD 56 undef = .agg #[.bool sac.neg, .string (encS sac.num), .string (encS sac.den)] := hR.dep ⟨33, .data⟩ (by simp) rfl
      have e36 : a.tmps.getD 59 undef = .agg #[.bool sbc.neg, .string (encS sbc.num), .string (encS sbc.den)] := hR.dep ⟨36, .data⟩ (by simp) rfl
      have e30 : a.tmps.getD 53 undef = .bool true := hR.dep ⟨30, .guard⟩ (by simp) rfl
      refine guard_step rfl rfl rfl (b := true) e30 ?_
      go_simp
      refine (C11.out w).mono ?_
      rintro e w' ⟨rfl, hb⟩
      exact hK _ _ (rfl) hb
    · simp at ho
      subst ho
      have e30 : a.tmps.getD 53 undef = .bool true := hR.dep ⟨30, .guard⟩ (by simp) rfl
      have b11 : a.tmps.getD 11 undef = .int .i64 cm := hR.base 11 (by kernel_rfl)
      refine guard_step rfl rfl rfl (b := true) e30 ?_
      go_simp
      exact hK _ _ (rfl) (Below.refl _ _)
    · simp at ho
      subst ho
      have e37 : a.tmps.getD 60 undef = .int .i64 cm := hR.dep ⟨37, .data⟩ (by simp) rfl
      have e38 : a.tmps.getD 61 undef = .int .i64 cm := hR.dep ⟨38, .data⟩ (by simp) rfl
      have e30 : a.tmps.getD 53 undef = .bool true := hR.dep ⟨30, .guard⟩ (by simp) rfl
      refine guard_step rfl rfl rfl (b := true) e30 ?_
      go_simp
      exact hK _ _ (rfl) (Below.refl _ _)
    · simp at ho
      subst ho
      have e30 : a.tmps.getD 53 undef = .bool true := hR.dep ⟨30, .data⟩ (by simp) rfl
      have e39 : a.tmps.getD 62 undef = .bool true := hR.dep ⟨39, .data⟩ (by simp) rfl
      refine plain_step rfl rfl ?_
      go_simp
      exact hK _ _ (rfl) (Below.refl _ _)
    · simp at ho
      subst ho
      have e40 : a.tmps.getD 63 undef = .bool true := hR.dep ⟨40, .data⟩ (by simp) rfl
      refine plain_step rfl rfl ?_
      go_simp
      exact hK _ _ (rfl) (Below.refl _ _)
  · intro s w hS hb
    have e41 : s 12 = .bool true := hS 41 (by decide)
    simp only [over, Nat.zero_add, Nat.reduceAdd, Nat.reduceLeDiff, Nat.reduceLT, decide_true, decide_false, Bool.and_true, Bool.and_false, Bool.or_false, Bool.or_true, cond_true, cond_false]
    have HB := Lib.hid (HB.out.trans (hb.mono HB.out.size))
    have HI0 := Lib.hid (heap_up hb HI0.out)
    have HI1 := Lib.hid (heap_up hb HI1.out)
    have HI2 := Lib.hid (heap_up hb HI2.out)
    have HX8 := Lib.hid (heap_up hb HX8.out)
    have HX9 := Lib.hid (heap_up hb HX9.out)
    have HX10 := Lib.hid (heap_up hb HX10.out)
    obtain ⟨wr6, hw8⟩ : ∃ w8, w8 = w := ⟨_, rfl⟩
    subst hw8
    rw [e41]
    clear hS hb e41
    go_wp2_with fail
    refine wp_region_vals (w := wr6) (by kernel_rfl) (SS7 b8 b9 b10 ra rb rc pac pbc d z cm sg sa) (fun t => (decide (6 ≤ t) && decide (t < 7)) || (decide (64 ≤ t) && decide (t < 98))) (by kernel_rfl) (by kernel_rfl) (by kernel_rfl) (SS7_up b8 b9 b10 ra rb rc pac pbc d z cm sg sa) ?_ ?_
    · intro i hi o listed a w hR K hK
      have ho := hR.at_
      have hi : i < 35 := hi
      have hii : i = 0 ∨ i = 1 ∨ i = 2 ∨ i = 3 ∨ i = 4 ∨ i = 5 ∨ i = 6 ∨ i = 7 ∨ i = 8 ∨ i = 9 ∨ i = 10 ∨ i = 11 ∨ i = 12 ∨ i = 13 ∨ i = 14 ∨ i = 15 ∨ i = 16 ∨ i = 17 ∨ i = 18 ∨ i = 19 ∨ i = 20 ∨ i = 21 ∨ i = 22 ∨ i = 23 ∨ i = 24 ∨ i = 25 ∨ i = 26 ∨ i = 27 ∨ i = 28 ∨ i = 29 ∨ i = 30 ∨ i = 31 ∨ i = 32 ∨ i = 33 ∨ i = 34 := by omega
      rcases hii with rfl | rfl | rfl | rfl | rfl | rfl | rfl | rfl | rfl | rfl | rfl | rfl | rfl | rfl | rfl | rfl | rfl | rfl | rfl | rfl | rfl | rfl | rfl | rfl | rfl | rfl | rfl | rfl | rfl | rfl | rfl | rfl | rfl | rfl | rfl
      · simp at ho
        subst ho
        have b7 : a.tmps.getD 7 undef = .bool true := hR.base 7 (by kernel_rfl)
        refine plain_step rfl rfl ?_
        go_simp
        exact hK _ _ (rfl) (Below.refl _ _)
      · simp at ho
        subst ho
        have e0 : a.tmps.getD 64 undef = .bool true := hR.dep ⟨0, .data⟩ (by simp) rfl
        refine plain_step rfl rfl ?_
        go_simp
        exact hK _ _ (rfl) (Below.refl _ _)
      · simp at ho
        subst ho
        have e1 : a.tmps.getD 65 undef = .bool true := hR.dep ⟨1, .guard⟩ (by simp) rfl
        have b12 : a.tmps.getD 12 undef = .bool true := hR.base 12 (by kernel_rfl)
        refine guard_step rfl rfl rfl (b := true) e1 ?_
        go_simp
        exact hK _ _ (rfl) (Below.refl _ _)
      · simp at ho
        subst ho
        have e1 : a.tmps.getD 65 undef = .bool true := hR.dep ⟨1, .data⟩ (by simp) rfl
        have e2 : a.tmps.getD 66 undef = .bool true := hR.dep ⟨2, .data⟩ (by simp) rfl
        refine plain_step rfl rfl ?_
        go_simp
        exact hK _ _ (rfl) (Below.refl _ _)
      · simp at ho
        subst ho
        have e3 : a.tmps.getD 67 undef = .bool true := hR.dep ⟨3, .data⟩ (by simp) rfl
        refine plain_step rfl rfl ?_
        go_simp
        exact hK _ _ (rfl) (Below.refl _ _)
      · simp at ho
        subst ho
        have e4 : a.tmps.getD 68 undef = .bool true := hR.dep ⟨4, .guard⟩ (by simp) rfl
        have b8 : a.tmps.getD 8 undef = .pointer (some ⟨b8, 0, none⟩) := hR.base 8 (by kernel_rfl)
        obtain ⟨⟨cx0, cx1, cx2⟩, -⟩ := row_cells (heap_up hR.below HX8.out)
        refine guard_step rfl rfl rfl (b := true) e4 ?_
        go_simp
        exact hK _ _ (rfl) (Below.refl _ _)
      · simp at ho
        subst ho
        have e4 : a.tmps.getD 68 undef = .bool true := hR.dep ⟨4, .guard⟩ (by simp) rfl
        have b10 : a.tmps.getD 10 undef = .pointer (some ⟨b10, 0, none⟩) := hR.base 10 (by kernel_rfl)
        obtain ⟨⟨cx0, cx1, cx2⟩, -⟩ := row_cells (heap_up hR.below HX10.out)
        refine guard_step rfl rfl rfl (b := true) e4 ?_
        go_simp
        exact hK _ _ (rfl) (Below.refl _ _)
      · simp at ho
        subst ho
        have e5 : a.tmps.getD 69 undef = .agg #[.bool ra.neg, .string (encS ra.num), .string (encS ra.den)] := hR.dep ⟨5, .data⟩ (by simp) rfl
        have e6 : a.tmps.getD 70 undef = .agg #[.bool rc.neg, .string (encS rc.num), .string (encS rc.den)] := hR.dep ⟨6, .data⟩ (by simp) rfl
        have e4 : a.tmps.getD 68 undef = .bool true := hR.dep ⟨4, .guard⟩ (by simp) rfl
        refine guard_step rfl rfl rfl (b := true) e4 ?_
        go_simp
        refine (C4.out w).mono ?_
        rintro e w' ⟨rfl, hb⟩
        exact hK _ _ (rfl) hb
      · simp at ho
        subst ho
        have e4 : a.tmps.getD 68 undef = .bool true := hR.dep ⟨4, .guard⟩ (by simp) rfl
        have b9 : a.tmps.getD 9 undef = .pointer (some ⟨b9, 0, none⟩) := hR.base 9 (by kernel_rfl)
        obtain ⟨⟨cx0, cx1, cx2⟩, -⟩ := row_cells (heap_up hR.below HX9.out)
        refine guard_step rfl rfl rfl (b := true) e4 ?_
        go_simp
        exact hK _ _ (rfl) (Below.refl _ _)
      · simp at ho
        subst ho
        have e4 : a.tmps.getD 68 undef = .bool true := hR.dep ⟨4, .guard⟩ (by simp) rfl
        have b10 : a.tmps.getD 10 undef = .pointer (some ⟨b10, 0, none⟩) := hR.base 10 (by kernel_rfl)
        obtain ⟨⟨cx0, cx1, cx2⟩, -⟩ := row_cells (heap_up hR.below HX10.out)
        refine guard_step rfl rfl rfl (b := true) e4 ?_
        go_simp
        exact hK _ _ (rfl) (Below.refl _ _)
      · simp at ho
        subst ho
        have e8 : a.tmps.getD 72 undef = .agg #[.bool rb.neg, .string (encS rb.num), .string (encS rb.den)] := hR.dep ⟨8, .data⟩ (by simp) rfl
        have e9 : a.tmps.getD 73 undef = .agg #[.bool rc.neg, .string (encS rc.num), .string (encS rc.den)] := hR.dep ⟨9, .data⟩ (by simp) rfl
        have e4 : a.tmps.getD 68 undef = .bool true := hR.dep ⟨4, .guard⟩ (by simp) rfl
        refine guard_step rfl rfl rfl (b := true) e4 ?_
        go_simp
        refine (C5.out w).mono ?_
        rintro e w' ⟨rfl, hb⟩
        exact hK _ _ (rfl) hb
      · simp at ho
        subst ho
        have e7 : a.tmps.getD 71 undef = .agg #[.bool pac.neg, .string (encS pac.num), .string (encS pac.den)] := hR.dep ⟨7, .data⟩ (by simp) rfl
        have e10 : a.tmps.getD 74 undef = .agg #[.bool pbc.neg, .string (encS pbc.num), .string (encS pbc.den)] := hR.dep ⟨10, .data⟩ (by simp) rfl
        have e4 : a.tmps.getD 68 undef = .bool true := hR.dep ⟨4, .guard⟩ (by simp) rfl
        refine guard_step rfl rfl rfl (b := true) e4 ?_
        go_simp
        refine (C12.out w).mono ?_
        rintro e w' ⟨rfl, hb⟩
        exact hK _ _ (rfl) hb
      · simp at ho
        subst ho
        have e4 : a.tmps.getD 68 undef = .bool true := hR.dep ⟨4, .guard⟩ (by simp) rfl
        have b11 : a.tmps.getD 11 undef = .int .i64 cm := hR.base 11 (by kernel_rfl)
        refine guard_step rfl rfl rfl (b := true) e4 ?_
        go_simp
        exact hK _ _ (rfl) (Below.refl _ _)
      · simp at ho
        subst ho
        have e4 : a.tmps.getD 68 undef = .bool true := hR.dep ⟨4, .guard⟩ (by simp) rfl
        have b10 : a.tmps.getD 10 undef = .pointer (some ⟨b10, 0, none⟩) := hR.base 10 (by kernel_rfl)
        obtain ⟨⟨cx0, cx1, cx2⟩, -⟩ := row_cells (heap_up hR.below HX10.out)
        refine guard_step rfl rfl rfl (b := true) e4 ?_
        go_simp
        exact hK _ _ (rfl) (Below.refl _ _)
      · simp at ho
        subst ho
        have e13 : a.tmps.getD 77 undef = .agg #[.bool rc.neg, .string (encS rc.num), .string (encS rc.den)] := hR.dep ⟨13, .data⟩ (by simp) rfl
        have e4 : a.tmps.getD 68 undef = .bool true := hR.dep ⟨4, .guard⟩ (by simp) rfl
        refine guard_step rfl rfl rfl (b := true) e4 ?_
        go_simp
        refine (C13.out w).mono ?_
        rintro e w' ⟨rfl, hb⟩
        exact hK _ _ (rfl) hb
      · simp at ho
        subst ho
        have e12 : a.tmps.getD 76 undef = .int .i64 cm := hR.dep ⟨12, .data⟩ (by simp) rfl
        have e14 : a.tmps.getD 78 undef = .int .i64 sg := hR.dep ⟨14, .data⟩ (by simp) rfl
        have e4 : a.tmps.getD 68 undef = .bool true := hR.dep ⟨4, .guard⟩ (by simp) rfl
        have q2 := HW2.out
        refine guard_step rfl rfl rfl (b := true) e4 ?_
        go_simp
        exact hK _ _ (rfl) (Below.refl _ _)
      · simp at ho
        subst ho
        have e11 : a.tmps.getD 75 undef = .int .i64 (cm * sg) := hR.dep ⟨11, .data⟩ (by simp) rfl
        have e15 : a.tmps.getD 79 undef = .int .i64 (cm * sg) := hR.dep ⟨15, .data⟩ (by simp) rfl
        have e4 : a.tmps.getD 68 undef = .bool true := hR.dep ⟨4, .guard⟩ (by simp) rfl
        refine guard_step rfl rfl rfl (b := true) e4 ?_
        go_simp
        exact hK _ _ (rfl) (Below.refl _ _)
      · simp at ho
        subst ho
        have e4 : a.tmps.getD 68 undef = .bool true := hR.dep ⟨4, .data⟩ (by simp) rfl
        have e16 : a.tmps.getD 80 undef = .bool true := hR.dep ⟨16, .data⟩ (by simp) rfl
        refine plain_step rfl rfl ?_
        go_simp
        exact hK _ _ (rfl) (Below.refl _ _)
      · simp at ho
        subst ho
        have e17 : a.tmps.getD 81 undef = .bool true := hR.dep ⟨17, .data⟩ (by simp) rfl
        refine plain_step rfl rfl ?_
        go_simp
        exact hK _ _ (rfl) (Below.refl _ _)
      · simp at ho
        subst ho
        have e18 : a.tmps.getD 82 undef = .bool true := hR.dep ⟨18, .guard⟩ (by simp) rfl
        have b8 : a.tmps.getD 8 undef = .pointer (some ⟨b8, 0, none⟩) := hR.base 8 (by kernel_rfl)
        obtain ⟨⟨cx0, cx1, cx2⟩, -⟩ := row_cells (heap_up hR.below HX8.out)
        refine guard_step rfl rfl rfl (b := true) e18 ?_
        go_simp
        exact hK _ _ (rfl) (Below.refl _ _)
      · simp at ho
        subst ho
        have e18 : a.tmps.getD 82 undef = .bool true := hR.dep ⟨18, .guard⟩ (by simp) rfl
        have b9 : a.tmps.getD 9 undef = .pointer (some ⟨b9, 0, none⟩) := hR.base 9 (by kernel_rfl)
        obtain ⟨⟨cx0, cx1, cx2⟩, -⟩ := row_cells (heap_up hR.below HX9.out)
        refine guard_step rfl rfl rfl (b := true) e18 ?_
        go_simp
        exact hK _ _ (rfl) (Below.refl _ _)
      · simp at ho
        subst ho
        have e19 : a.tmps.getD 83 undef = .agg #[.bool ra.neg, .string (encS ra.num), .string (encS ra.den)] := hR.dep ⟨19, .data⟩ (by simp) rfl
        have e20 : a.tmps.getD 84 undef = .agg #[.bool rb.neg, .string (encS rb.num), .string (encS rb.den)] := hR.dep ⟨20, .data⟩ (by simp) rfl
        have e18 : a.tmps.getD 82 undef = .bool true := hR.dep ⟨18, .guard⟩ (by simp) rfl
        refine guard_step rfl rfl rfl (b := true) e18 ?_
        go_simp
        refine (C6.out w).mono ?_
        rintro e w' ⟨rfl, hb⟩
        exact hK _ _ (rfl) hb
      · simp at ho
        subst ho
        have e21 : a.tmps.getD 85 undef = .agg #[.bool d.neg, .string (encS d.num), .string (encS d.den)] := hR.dep ⟨21, .data⟩ (by simp) rfl
        have e18 : a.tmps.getD 82 undef = .bool true := hR.dep ⟨18, .guard⟩ (by simp) rfl
        refine guard_step rfl rfl rfl (b := true) e18 ?_
        go_simp
        refine (C14.out w).mono ?_
        rintro e w' ⟨rfl, hb⟩
        exact hK _ _ (rfl) hb
      · simp at ho
        subst ho
        have e18 : a.tmps.getD 82 undef = .bool true := hR.dep ⟨18, .guard⟩ (by simp) rfl
        have b11 : a.tmps.getD 11 undef = .int .i64 cm := hR.base 11 (by kernel_rfl)
        refine guard_step rfl rfl rfl (b := true) e18 ?_
        go_simp
        exact hK _ _ (rfl) (Below.refl _ _)
      · simp at ho
        subst ho
        have e22 : a.tmps.getD 86 undef = .int .i64 cm := hR.dep ⟨22, .data⟩ (by simp) rfl
        have e23 : a.tmps.getD 87 undef = .int .i64 cm := hR.dep ⟨23, .data⟩ (by simp) rfl
        have e18 : a.tmps.getD 82 undef = .bool true := hR.dep ⟨18, .guard⟩ (by simp) rfl
        refine guard_step rfl rfl rfl (b := true) e18 ?_
        go_simp
        exact hK _ _ (rfl) (Below.refl _ _)
      · simp at ho
        subst ho
        have e18 : a.tmps.getD 82 undef = .bool true := hR.dep ⟨18, .data⟩ (by simp) rfl
        have e24 : a.tmps.getD 88 undef = .bool true := hR.dep ⟨24, .data⟩ (by simp) rfl
        refine plain_step rfl rfl ?_
        go_simp
        exact hK _ _ (rfl) (Below.refl _ _)
      · simp at ho
        subst ho
        have e25 : a.tmps.getD 89 undef = .bool true := hR.dep ⟨25, .data⟩ (by simp) rfl
        refine plain_step rfl rfl ?_
        go_simp
        exact hK _ _ (rfl) (Below.refl _ _)
      · simp at ho
        subst ho
        have e26 : a.tmps.getD 90 undef = .bool true := hR.dep ⟨26, .guard⟩ (by simp) rfl
        have b8 : a.tmps.getD 8 undef = .pointer (some ⟨b8, 0, none⟩) := hR.base 8 (by kernel_rfl)
        obtain ⟨⟨cx0, cx1, cx2⟩, -⟩ := row_cells (heap_up hR.below HX8.out)
        refine guard_step rfl rfl rfl (b := true) e26 ?_
        go_simp
        exact hK _ _ (rfl) (Below.refl _ _)
      · simp at ho
        subst ho
        have e27 : a.tmps.getD 91 undef = .agg #[.bool ra.neg, .string (encS ra.num), .string (encS ra.den)] := hR.dep ⟨27, .data⟩ (by simp) rfl
        have e26 : a.tmps.getD 90 undef = .bool true := hR.dep ⟨26, .guard⟩ (by simp) rfl
        refine guard_step rfl rfl rfl (b := true) e26 ?_
        go_simp
        refine (C15.out w).mono ?_
        rintro e w' ⟨rfl, hb⟩
        exact hK _ _ (rfl) hb
      · simp at ho
        subst ho
        have e26 : a.tmps.getD 90 undef = .bool true := hR.dep ⟨26, .guard⟩ (by simp) rfl
        have b8 : a.tmps.getD 8 undef = .pointer (some ⟨b8, 0, none⟩) := hR.base 8 (by kernel_rfl)
        obtain ⟨⟨cx0, cx1, cx2⟩, -⟩ := row_cells (heap_up hR.below HX8.out)
        refine guard_step rfl rfl rfl (b := true) e26 ?_
        go_simp
        exact hK _ _ (rfl) (Below.refl _ _)
      · simp at ho
        subst ho
        have e26 : a.tmps.getD 90 undef = .bool true := hR.dep ⟨26, .guard⟩ (by simp) rfl
        refine guard_step rfl rfl rfl (b := true) e26 ?_
        go_simp
        refine (C1.out w).mono ?_
        rintro e w' ⟨rfl, hb⟩
        exact hK _ _ (rfl) hb
      · simp at ho
        subst ho
        have e29 : a.tmps.getD 93 undef = .agg #[.bool ra.neg, .string (encS ra.num), .string (encS ra.den)] := hR.dep ⟨29, .data⟩ (by simp) rfl
        have e30 : a.tmps.getD 94 undef = .agg #[.bool z.neg, .string (encS z.num), .string (encS z.den)] := hR.dep ⟨30, .data⟩ (by simp) rfl
        have e26 : a.tmps.getD 90 undef = .bool true := hR.dep ⟨26, .guard⟩ (by simp) rfl
        refine guard_step rfl rfl rfl (b := true) e26 ?_
        go_simp
        refine (C16.out w).mono ?_
        rintro e w' ⟨rfl, hb⟩
        exact hK _ _ (rfl) hb
      · simp at ho
        subst ho
        have e28 : a.tmps.getD 92 undef = .int .i64 sa := hR.dep ⟨28, .data⟩ (by simp) rfl
        have e31 : a.tmps.getD 95 undef = .int .i64 sa := hR.dep ⟨31, .data⟩ (by simp) rfl
        have e26 : a.tmps.getD 90 undef = .bool true := hR.dep ⟨26, .guard⟩ (by simp) rfl
        refine guard_step rfl rfl rfl (b := true) e26 ?_
        go_simp
        exact hK _ _ (rfl) (Below.refl _ _)
      · simp at ho
        subst ho
        have e26 : a.tmps.getD 90 undef = .bool true := hR.dep ⟨26, .data⟩ (by simp) rfl
        have e32 : a.tmps.getD 96 undef = .bool true := hR.dep ⟨32, .data⟩ (by simp) rfl
        refine plain_step rfl rfl ?_
        go_simp
        exact hK _ _ (rfl) (Below.refl _ _)
      · simp at ho
        subst ho
        have e33 : a.tmps.getD 97 undef = .bool true := hR.dep ⟨33, .data⟩ (by simp) rfl
        refine plain_step rfl rfl ?_
        go_simp
        exact hK _ _ (rfl) (Below.refl _ _)
    · intro s w hS hb
      have e34 : s 6 = .bool true := hS 34 (by decide)
      simp only [over, Nat.zero_add, Nat.reduceAdd, Nat.reduceLeDiff, Nat.reduceLT, decide_true, decide_false, Bool.and_true, Bool.and_false, Bool.or_false, Bool.or_true, cond_true, cond_false]
      have HB := Lib.hid (HB.out.trans (hb.mono HB.out.size))
      have HI0 := Lib.hid (heap_up hb HI0.out)
      have HI1 := Lib.hid (heap_up hb HI1.out)
      have HI2 := Lib.hid (heap_up hb HI2.out)
      have HX8 := Lib.hid (heap_up hb HX8.out)
      have HX9 := Lib.hid (heap_up hb HX9.out)
      have HX10 := Lib.hid (heap_up hb HX10.out)
      obtain ⟨wr7, hw8⟩ : ∃ w8, w8 = w := ⟨_, rfl⟩
      subst hw8
      rw [e34]
      clear hS hb e34
      go_wp2_with fail
      go_ret
      exact ⟨rfl, HB.out⟩
end Go.Proofs.YtancflpioigjbaaGreatDoor.ratioOrder
