/- RatioSums: the walk. Each theorem names its conditions. -/
import Derived.Test.YtancflpioigjbaaGreatDoorRdE
import Derived.Test.YtancflpioigjbaaGreatDoorRatQ
namespace Go.Proofs.YtancflpioigjbaaGreatDoor.ratioSums
open Go.RowKit Go.Shelf
open Dgt
set_option linter.unusedVariables false

def ES6 (b6 b7 b8 b10 : Nat) (ra rb s d p : Rt) (qn qu : Bool) (qs qd : ByteArray) : Nat → Value
  | 0 => .agg #[.bool ra.neg, .string (encS ra.num), .string (encS ra.den)]
  | 1 => .agg #[.bool rb.neg, .string (encS rb.num), .string (encS rb.den)]
  | 2 => .agg #[.bool s.neg, .string (encS s.num), .string (encS s.den)]
  | 3 => .agg #[.bool ra.neg, .string (encS ra.num), .string (encS ra.den)]
  | 4 => .agg #[.bool rb.neg, .string (encS rb.num), .string (encS rb.den)]
  | 5 => .agg #[.bool s.neg, .string (encS s.num), .string (encS s.den)]
  | 6 => .bool true
  | 7 => .bool true
  | 8 => .agg #[.bool ra.neg, .string (encS ra.num), .string (encS ra.den)]
  | 9 => .agg #[.bool rb.neg, .string (encS rb.num), .string (encS rb.den)]
  | 10 => .agg #[.bool d.neg, .string (encS d.num), .string (encS d.den)]
  | 11 => .agg #[.bool ra.neg, .string (encS ra.num), .string (encS ra.den)]
  | 12 => .agg #[.bool rb.neg, .string (encS rb.num), .string (encS rb.den)]
  | 13 => .agg #[.bool d.neg, .string (encS d.num), .string (encS d.den)]
  | 14 => .bool true
  | 15 => .bool true
  | 16 => .bool true
  | 17 => .agg #[.bool ra.neg, .string (encS ra.num), .string (encS ra.den)]
  | 18 => .agg #[.bool rb.neg, .string (encS rb.num), .string (encS rb.den)]
  | 19 => .agg #[.bool p.neg, .string (encS p.num), .string (encS p.den)]
  | 20 => .agg #[.bool ra.neg, .string (encS ra.num), .string (encS ra.den)]
  | 21 => .agg #[.bool rb.neg, .string (encS rb.num), .string (encS rb.den)]
  | 22 => .agg #[.bool p.neg, .string (encS p.num), .string (encS p.den)]
  | 23 => .bool true
  | 24 => .bool true
  | 25 => .bool true
  | 26 => .agg #[.bool qn, .string qs, .string qd]
  | 27 => .agg #[.bool qn, .string qs, .string qd]
  | 28 => .bool true
  | 29 => .bool true
  | 30 => .bool true
  | 31 => .bool qu
  | 32 => .bool qu
  | 33 => .bool true
  | 34 => .bool true
  | 35 => .bool true
  | _ => undef
def SS6 (b6 b7 b8 b10 : Nat) (ra rb s d p : Rt) (qn qu : Bool) (qs qd : ByteArray) (ix : Nat) (v : Value) (w : World) : Prop :=
  match ix with
  | ix => v = ES6 b6 b7 b8 b10 ra rb s d p qn qu qs qd ix
theorem SS6_up (b6 b7 b8 b10 : Nat) (ra rb s d p : Rt) (qn qu : Bool) (qs qd : ByteArray) (ix : Nat) (v : Value) (w w' : World) (hb : Below w.heap.size w w') (h : SS6 b6 b7 b8 b10 ra rb s d p qn qu qs qd ix v w) : SS6 b6 b7 b8 b10 ra rb s d p qn qu qs qd ix v w' := by
  exact h

def ES7 (b6 b7 : Nat) (ra rb ng : Rt) (cm sg : Int) : Nat → Value
  | 0 => .bool true
  | 1 => .bool true
  | 2 => .bool true
  | 3 => .bool true
  | 4 => .bool true
  | 5 => .agg #[.bool ra.neg, .string (encS ra.num), .string (encS ra.den)]
  | 6 => .agg #[.bool rb.neg, .string (encS rb.num), .string (encS rb.den)]
  | 7 => .int .i64 cm
  | 8 => .agg #[.bool ra.neg, .string (encS ra.num), .string (encS ra.den)]
  | 9 => .agg #[.bool rb.neg, .string (encS rb.num), .string (encS rb.den)]
  | 10 => .int .i64 cm
  | 11 => .bool true
  | 12 => .bool true
  | 13 => .bool true
  | 14 => .agg #[.bool ra.neg, .string (encS ra.num), .string (encS ra.den)]
  | 15 => .int .i64 sg
  | 16 => .agg #[.bool ra.neg, .string (encS ra.num), .string (encS ra.den)]
  | 17 => .int .i64 sg
  | 18 => .bool true
  | 19 => .bool true
  | 20 => .bool true
  | 21 => .agg #[.bool ra.neg, .string (encS ra.num), .string (encS ra.den)]
  | 22 => .agg #[.bool ng.neg, .string (encS ng.num), .string (encS ng.den)]
  | 23 => .agg #[.bool ra.neg, .string (encS ra.num), .string (encS ra.den)]
  | 24 => .agg #[.bool ng.neg, .string (encS ng.num), .string (encS ng.den)]
  | 25 => .bool true
  | 26 => .bool true
  | 27 => .bool true
  | _ => undef
def SS7 (b6 b7 : Nat) (ra rb ng : Rt) (cm sg : Int) (ix : Nat) (v : Value) (w : World) : Prop :=
  match ix with
  | ix => v = ES7 b6 b7 ra rb ng cm sg ix
theorem SS7_up (b6 b7 : Nat) (ra rb ng : Rt) (cm sg : Int) (ix : Nat) (v : Value) (w w' : World) (hb : Below w.heap.size w w') (h : SS7 b6 b7 ra rb ng cm sg ix v w) : SS7 b6 b7 ra rb ng cm sg ix v w' := by
  exact h
set_option maxHeartbeats 4000000 in
set_option maxRecDepth 100000 in
theorem walk (x0 x1 x2 y0 y1 y2 : Int) (wq : World) (rx0 : inJ x0) (rx1 : inJ x1) (rx2 : inJ x2) (ry0 : inJ y0) (ry1 : inJ y1) (ry2 : inJ y2) (htab : Lib.TabIs Tryz.prog wq "internal/strconv.uint64pow10" .u64 Lib.pow10Tab) (m0 : Int) (hm : wq.cell? ⟨0, 0, none⟩ = some (.int .i64 m0)) :
    Calls Tryz.prog 7 #[.agg #[.int .i64 x0, .int .i64 x1, .int .i64 x2], .agg #[.int .i64 y0, .int .i64 y1, .int .i64 y2]] wq fun e w' => e = .returned (.bool true) ∧ Below wq.heap.size wq w' := by
  have HB := Lib.hid (Below.refl wq.heap.size wq)
  have HT := Lib.hid (Lib.tabBelow_of_tabIs htab)
  have HSAN := Lib.hid (fun W (h : Below wq.heap.size wq W) => sanity_any W (HT.out.on h).here m0 (cell_zero (W := W) hm h))
  have HMA : Hid (∀ w, Calls Tryz.prog 18 #[.agg #[.int .i64 x0, .int .i64 x1, .int .i64 x2]] w fun e w' => ∃ m : Rt, e = .returned (.agg #[.bool m.neg, .string (encS m.num), .string (encS m.den)]) ∧ m.Ok ∧ Rz m 32 ∧ Below w.heap.size w w') := Lib.hid fun w => Made_r x0 x1 x2 w rx0 rx1 rx2
  have HMB : Hid (∀ w, Calls Tryz.prog 18 #[.agg #[.int .i64 y0, .int .i64 y1, .int .i64 y2]] w fun e w' => ∃ m : Rt, e = .returned (.agg #[.bool m.neg, .string (encS m.num), .string (encS m.den)]) ∧ m.Ok ∧ Rz m 32 ∧ Below w.heap.size w w') := Lib.hid fun w => Made_r y0 y1 y2 w ry0 ry1 ry2
  clear htab hm rx0 rx1 rx2 ry0 ry1 ry2
  obtain ⟨W0, hW0, hx, hy, hbb⟩ := boxes2 wq (.cells #[.int .i64 x0, .int .i64 x1, .int .i64 x2] 34) (.cells #[.int .i64 y0, .int .i64 y1, .int .i64 y2] 34)
  have HX := Lib.hid hx; have HY := Lib.hid hy; have HB := Lib.hid hbb
  clear hx hy hbb
  go_enter Tryz.func7, Tryz.ntmps7
  go_wp2_with fail
  clear hW0
  obtain ⟨by', hby⟩ : ∃ b, wq.heap.size + 1 = b := ⟨_, rfl⟩
  obtain ⟨bx, hbx⟩ : ∃ b, wq.heap.size = b := ⟨_, rfl⟩
  rw [hby] at HY ⊢; rw [hbx] at HX ⊢; clear hbx hby
  refine (HSAN.out _ HB.out).mono ?_
  rintro e w1 ⟨rfl, hb⟩
  have HX := Lib.hid (heap_up hb HX.out)
  have HY := Lib.hid (heap_up hb HY.out)
  have HB := Lib.hid (HB.out.trans (hb.mono HB.out.size))
  clear hb
  obtain ⟨⟨k1a, k1b, k1c⟩, -⟩ := row_cells HX.out
  go_wp2_with fail
  clear k1a k1b k1c
  refine (HMA.out _).mono ?_
  rintro e w3 ⟨ra, rfl, o_ra, z_ra, hb⟩
  have HX := Lib.hid (heap_up hb HX.out)
  have HY := Lib.hid (heap_up hb HY.out)
  have HB := Lib.hid (HB.out.trans (hb.mono HB.out.size))
  have Ora := Lib.hid o_ra; have Zra := Lib.hid z_ra; clear o_ra z_ra
  clear hb
  have HX6 := Lib.hid (heap_alloc_new w3 (.cells #[.bool ra.neg, .string (encS ra.num), .string (encS ra.den)] 26))
  have HB := Lib.hid (HB.out.alloc HB.out.size (.cells #[.bool ra.neg, .string (encS ra.num), .string (encS ra.den)] 26))
  have HX := Lib.hid (heap_up ((Below.refl _ w3).alloc (Nat.le_refl _) (.cells #[.bool ra.neg, .string (encS ra.num), .string (encS ra.den)] 26)) HX.out)
  have HY := Lib.hid (heap_up ((Below.refl _ w3).alloc (Nat.le_refl _) (.cells #[.bool ra.neg, .string (encS ra.num), .string (encS ra.den)] 26)) HY.out)
  obtain ⟨W4, hW4⟩ : ∃ W, w3.alloc (.cells #[.bool ra.neg, .string (encS ra.num), .string (encS ra.den)] 26) = W := ⟨_, rfl⟩
  rw [hW4] at HX HY HX6 HB
  obtain ⟨⟨k2a, k2b, k2c⟩, -⟩ := row_cells HY.out
  go_wp2_with fail
  clear hW4
  obtain ⟨b6, hbb⟩ : ∃ b, w3.heap.size = b := ⟨_, rfl⟩
  rw [hbb] at HX6
  try rw [hbb]
  clear hbb
  clear k2a k2b k2c
  refine (HMB.out _).mono ?_
  rintro e w5 ⟨rb, rfl, o_rb, z_rb, hb⟩
  have HX := Lib.hid (heap_up hb HX.out)
  have HY := Lib.hid (heap_up hb HY.out)
  have HX6 := Lib.hid (heap_up hb HX6.out)
  have HB := Lib.hid (HB.out.trans (hb.mono HB.out.size))
  have Orb := Lib.hid o_rb; have Zrb := Lib.hid z_rb; clear o_rb z_rb
  clear hb
  have o_ra := Ora.out; have z_ra := Zra.out; have o_rb := Orb.out; have z_rb := Zrb.out
  obtain ⟨s, h_s⟩ : ∃ t, addR ra rb = t := ⟨_, rfl⟩
  have o_s : s.Ok := by rw [← h_s]; exact addR_ok o_ra o_rb
  have z_s : Rz s 65 := by rw [← h_s]; exact addR_sz z_ra z_rb
  obtain ⟨d, h_d⟩ : ∃ t, subR ra rb = t := ⟨_, rfl⟩
  have o_d : d.Ok := by rw [← h_d]; exact subR_ok o_ra o_rb
  have z_d : Rz d 65 := by rw [← h_d]; exact subR_sz z_ra z_rb
  obtain ⟨p, h_p⟩ : ∃ t, mulR ra rb = t := ⟨_, rfl⟩
  have o_p : p.Ok := by rw [← h_p]; exact mulR_ok o_ra o_rb
  have z_p : Rz p 64 := by rw [← h_p]; exact mulR_sz z_ra z_rb
  obtain ⟨ng, h_ng⟩ : ∃ t, negR ra = t := ⟨_, rfl⟩
  have o_ng : ng.Ok := by rw [← h_ng]; exact negR_ok o_ra
  have z_ng : Rz ng 32 := by rw [← h_ng]; exact negR_sz z_ra
  have C1 : Hid (∀ w, Calls Tryz.prog 27 #[.agg #[.bool ra.neg, .string (encS ra.num), .string (encS ra.den)], .agg #[.bool rb.neg, .string (encS rb.num), .string (encS rb.den)]] w fun e w' => e = .returned (.agg #[.bool s.neg, .string (encS s.num), .string (encS s.den)]) ∧ Below w.heap.size w w') := Lib.hid fun w => by
    have h := RatAdd_r (IsR.of o_ra (z_ra.mono (show 32 ≤ 1000 from by decide))) (IsR.of o_rb (z_rb.mono (show 32 ≤ 1000 from by decide))) (by decide) (by decide) w
    rw [h_s] at h
    exact h
  have C2 : Hid (∀ w, Calls Tryz.prog 34 #[.agg #[.bool ra.neg, .string (encS ra.num), .string (encS ra.den)], .agg #[.bool rb.neg, .string (encS rb.num), .string (encS rb.den)]] w fun e w' => e = .returned (.agg #[.bool s.neg, .string (encS s.num), .string (encS s.den)]) ∧ Below w.heap.size w w') := Lib.hid fun w => by
    have h := rRatAdd_r (IsR.of o_ra (z_ra.mono (show 32 ≤ 1000 from by decide))) (IsR.of o_rb (z_rb.mono (show 32 ≤ 1000 from by decide))) (by decide) (by decide) w
    rw [h_s] at h
    exact h
  have C3 : Hid (∀ w, Calls Tryz.prog 32 #[.agg #[.bool ra.neg, .string (encS ra.num), .string (encS ra.den)], .agg #[.bool rb.neg, .string (encS rb.num), .string (encS rb.den)]] w fun e w' => e = .returned (.agg #[.bool d.neg, .string (encS d.num), .string (encS d.den)]) ∧ Below w.heap.size w w') := Lib.hid fun w => by
    have h := RatSub_r (IsR.of o_ra (z_ra.mono (show 32 ≤ 1000 from by decide))) (IsR.of o_rb (z_rb.mono (show 32 ≤ 1000 from by decide))) (by decide) (by decide) w
    rw [h_d] at h
    exact h
  have C4 : Hid (∀ w, Calls Tryz.prog 35 #[.agg #[.bool ra.neg, .string (encS ra.num), .string (encS ra.den)], .agg #[.bool rb.neg, .string (encS rb.num), .string (encS rb.den)]] w fun e w' => e = .returned (.agg #[.bool d.neg, .string (encS d.num), .string (encS d.den)]) ∧ Below w.heap.size w w') := Lib.hid fun w => by
    have h := rRatSub_r (IsR.of o_ra (z_ra.mono (show 32 ≤ 1000 from by decide))) (IsR.of o_rb (z_rb.mono (show 32 ≤ 1000 from by decide))) (by decide) (by decide) w
    rw [h_d] at h
    exact h
  have C5 : Hid (∀ w, Calls Tryz.prog 29 #[.agg #[.bool ra.neg, .string (encS ra.num), .string (encS ra.den)], .agg #[.bool rb.neg, .string (encS rb.num), .string (encS rb.den)]] w fun e w' => e = .returned (.agg #[.bool p.neg, .string (encS p.num), .string (encS p.den)]) ∧ Below w.heap.size w w') := Lib.hid fun w => by
    have h := RatMul_r (IsR.of o_ra (z_ra.mono (show 32 ≤ 1000 from by decide))) (IsR.of o_rb (z_rb.mono (show 32 ≤ 1000 from by decide))) (by decide) (by decide) w
    rw [h_p] at h
    exact h
  have C6 : Hid (∀ w, Calls Tryz.prog 36 #[.agg #[.bool ra.neg, .string (encS ra.num), .string (encS ra.den)], .agg #[.bool rb.neg, .string (encS rb.num), .string (encS rb.den)]] w fun e w' => e = .returned (.agg #[.bool p.neg, .string (encS p.num), .string (encS p.den)]) ∧ Below w.heap.size w w') := Lib.hid fun w => by
    have h := rRatMul_r (IsR.of o_ra (z_ra.mono (show 32 ≤ 1000 from by decide))) (IsR.of o_rb (z_rb.mono (show 32 ≤ 1000 from by decide))) (by decide) (by decide) w
    rw [h_p] at h
    exact h
  have C7 : Hid (∀ w, Calls Tryz.prog 30 #[.agg #[.bool ra.neg, .string (encS ra.num), .string (encS ra.den)]] w fun e w' => e = .returned (.agg #[.bool ng.neg, .string (encS ng.num), .string (encS ng.den)]) ∧ Below w.heap.size w w') := Lib.hid fun w => by
    have h := RatNeg_r (IsR.of o_ra (z_ra.mono (show 32 ≤ 1000 from by decide))) (by decide) w
    rw [h_ng] at h
    exact h
  have C8 : Hid (∀ w, Calls Tryz.prog 41 #[.agg #[.bool ra.neg, .string (encS ra.num), .string (encS ra.den)]] w fun e w' => e = .returned (.agg #[.bool ng.neg, .string (encS ng.num), .string (encS ng.den)]) ∧ Below w.heap.size w w') := Lib.hid fun w => by
    have h := rRatNeg_r (IsR.of o_ra (z_ra.mono (show 32 ≤ 1000 from by decide))) (by decide) w
    rw [h_ng] at h
    exact h
  obtain ⟨cm, h_cm⟩ : ∃ t, cmpR ra rb = t := ⟨_, rfl⟩
  obtain ⟨sg, h_sg⟩ : ∃ t, sgnR ra = t := ⟨_, rfl⟩
  have C9 : Hid (∀ w, Calls Tryz.prog 37 #[.agg #[.bool ra.neg, .string (encS ra.num), .string (encS ra.den)], .agg #[.bool rb.neg, .string (encS rb.num), .string (encS rb.den)]] w fun e w' => e = .returned (.int .i64 cm) ∧ Below w.heap.size w w') := Lib.hid fun w => by
    have h := RatCmp_r (IsR.of o_ra (z_ra.mono (show 32 ≤ 1000 from by decide))) (IsR.of o_rb (z_rb.mono (show 32 ≤ 1000 from by decide))) (by decide) (by decide) w
    rw [h_cm] at h
    exact h
  have C10 : Hid (∀ w, Calls Tryz.prog 38 #[.agg #[.bool ra.neg, .string (encS ra.num), .string (encS ra.den)], .agg #[.bool rb.neg, .string (encS rb.num), .string (encS rb.den)]] w fun e w' => e = .returned (.int .i64 cm) ∧ Below w.heap.size w w') := Lib.hid fun w => by
    have h := rRatCmp_r (IsR.of o_ra (z_ra.mono (show 32 ≤ 1000 from by decide))) (IsR.of o_rb (z_rb.mono (show 32 ≤ 1000 from by decide))) (by decide) (by decide) w
    rw [h_cm] at h
    exact h
  have C11 : Hid (∀ w, Calls Tryz.prog 39 #[.agg #[.bool ra.neg, .string (encS ra.num), .string (encS ra.den)]] w fun e w' => e = .returned (.int .i64 sg) ∧ Below w.heap.size w w') := Lib.hid fun w => by
    have h := RatSign_r (IsR.of o_ra (z_ra.mono (show 32 ≤ 1000 from by decide))) (by decide) w
    rw [h_sg] at h
    exact h
  have C12 : Hid (∀ w, Calls Tryz.prog 40 #[.agg #[.bool ra.neg, .string (encS ra.num), .string (encS ra.den)]] w fun e w' => e = .returned (.int .i64 sg) ∧ Below w.heap.size w w') := Lib.hid fun w => by
    have h := rRatSign_r (IsR.of o_ra (z_ra.mono (show 32 ≤ 1000 from by decide))) (by decide) w
    rw [h_sg] at h
    exact h
  obtain ⟨qn, qs, qd, qu, h_q⟩ : ∃ n s d u, quoV ra rb = .tuple #[.agg #[.bool n, .string s, .string d], .bool u] := by unfold quoV; split <;> exact ⟨_, _, _, _, rfl⟩
  have C13 : Hid (∀ w, Calls Tryz.prog 31 #[.agg #[.bool ra.neg, .string (encS ra.num), .string (encS ra.den)], .agg #[.bool rb.neg, .string (encS rb.num), .string (encS rb.den)]] w fun e w' => e = .returned (.tuple #[.agg #[.bool qn, .string qs, .string qd], .bool qu]) ∧ Below w.heap.size w w') := Lib.hid fun w => by
    have h := RatQuo_r (IsR.of o_ra (z_ra.mono (show 32 ≤ 1000 from by decide))) (IsR.of o_rb (z_rb.mono (show 32 ≤ 1000 from by decide))) (by decide) (by decide) w
    rw [h_q] at h
    exact h
  have C14 : Hid (∀ w, Calls Tryz.prog 33 #[.agg #[.bool ra.neg, .string (encS ra.num), .string (encS ra.den)], .agg #[.bool rb.neg, .string (encS rb.num), .string (encS rb.den)]] w fun e w' => e = .returned (.tuple #[.agg #[.bool qn, .string qs, .string qd], .bool qu]) ∧ Below w.heap.size w w') := Lib.hid fun w => by
    have h := rRatQuo_r (IsR.of o_ra (z_ra.mono (show 32 ≤ 1000 from by decide))) (IsR.of o_rb (z_rb.mono (show 32 ≤ 1000 from by decide))) (by decide) (by decide) w
    rw [h_q] at h
    exact h
  clear o_ra z_ra o_rb z_rb o_s z_s h_s o_d z_d h_d o_p z_p h_p o_ng z_ng h_ng h_cm h_sg h_q
  have HX7 := Lib.hid (heap_alloc_new w5 (.cells #[.bool rb.neg, .string (encS rb.num), .string (encS rb.den)] 26))
  have HB := Lib.hid (HB.out.alloc HB.out.size (.cells #[.bool rb.neg, .string (encS rb.num), .string (encS rb.den)] 26))
  have HX := Lib.hid (heap_up ((Below.refl _ w5).alloc (Nat.le_refl _) (.cells #[.bool rb.neg, .string (encS rb.num), .string (encS rb.den)] 26)) HX.out)
  have HY := Lib.hid (heap_up ((Below.refl _ w5).alloc (Nat.le_refl _) (.cells #[.bool rb.neg, .string (encS rb.num), .string (encS rb.den)] 26)) HY.out)
  have HX6 := Lib.hid (heap_up ((Below.refl _ w5).alloc (Nat.le_refl _) (.cells #[.bool rb.neg, .string (encS rb.num), .string (encS rb.den)] 26)) HX6.out)
  obtain ⟨W6, hW6⟩ : ∃ W, w5.alloc (.cells #[.bool rb.neg, .string (encS rb.num), .string (encS rb.den)] 26) = W := ⟨_, rfl⟩
  rw [hW6] at HX HY HX6 HX7 HB
  obtain ⟨⟨k3a, k3b, k3c⟩, -⟩ := row_cells HX6.out
  obtain ⟨⟨k4a, k4b, k4c⟩, -⟩ := row_cells HX7.out
  go_wp2_with fail
  clear hW6
  obtain ⟨b7, hbb⟩ : ∃ b, w5.heap.size = b := ⟨_, rfl⟩
  rw [hbb] at HX7
  try rw [hbb]
  clear hbb
  clear k3a k3b k3c k4a k4b k4c
  refine (C13.out _).mono ?_
  rintro e w7 ⟨rfl, hb⟩
  have HX := Lib.hid (heap_up hb HX.out)
  have HY := Lib.hid (heap_up hb HY.out)
  have HX6 := Lib.hid (heap_up hb HX6.out)
  have HX7 := Lib.hid (heap_up hb HX7.out)
  have HB := Lib.hid (HB.out.trans (hb.mono HB.out.size))
  clear hb
  have HX8 := Lib.hid (heap_alloc_new w7 (.cells #[.bool qn, .string qs, .string qd] 26))
  have HB := Lib.hid (HB.out.alloc HB.out.size (.cells #[.bool qn, .string qs, .string qd] 26))
  have HX := Lib.hid (heap_up ((Below.refl _ w7).alloc (Nat.le_refl _) (.cells #[.bool qn, .string qs, .string qd] 26)) HX.out)
  have HY := Lib.hid (heap_up ((Below.refl _ w7).alloc (Nat.le_refl _) (.cells #[.bool qn, .string qs, .string qd] 26)) HY.out)
  have HX6 := Lib.hid (heap_up ((Below.refl _ w7).alloc (Nat.le_refl _) (.cells #[.bool qn, .string qs, .string qd] 26)) HX6.out)
  have HX7 := Lib.hid (heap_up ((Below.refl _ w7).alloc (Nat.le_refl _) (.cells #[.bool qn, .string qs, .string qd] 26)) HX7.out)
  obtain ⟨W8, hW8⟩ : ∃ W, w7.alloc (.cells #[.bool qn, .string qs, .string qd] 26) = W := ⟨_, rfl⟩
  rw [hW8] at HX HY HX6 HX7 HX8 HB
  obtain ⟨⟨k5a, k5b, k5c⟩, -⟩ := row_cells HX6.out
  obtain ⟨⟨k6a, k6b, k6c⟩, -⟩ := row_cells HX7.out
  go_wp2_with fail
  clear hW8
  obtain ⟨b8, hbb⟩ : ∃ b, w7.heap.size = b := ⟨_, rfl⟩
  rw [hbb] at HX8
  try rw [hbb]
  clear hbb
  clear k5a k5b k5c k6a k6b k6c
  refine (C14.out _).mono ?_
  rintro e w9 ⟨rfl, hb⟩
  have HX := Lib.hid (heap_up hb HX.out)
  have HY := Lib.hid (heap_up hb HY.out)
  have HX6 := Lib.hid (heap_up hb HX6.out)
  have HX7 := Lib.hid (heap_up hb HX7.out)
  have HX8 := Lib.hid (heap_up hb HX8.out)
  have HB := Lib.hid (HB.out.trans (hb.mono HB.out.size))
  clear hb
  have HX10 := Lib.hid (heap_alloc_new w9 (.cells #[.bool qn, .string qs, .string qd] 26))
  have HB := Lib.hid (HB.out.alloc HB.out.size (.cells #[.bool qn, .string qs, .string qd] 26))
  have HX := Lib.hid (heap_up ((Below.refl _ w9).alloc (Nat.le_refl _) (.cells #[.bool qn, .string qs, .string qd] 26)) HX.out)
  have HY := Lib.hid (heap_up ((Below.refl _ w9).alloc (Nat.le_refl _) (.cells #[.bool qn, .string qs, .string qd] 26)) HY.out)
  have HX6 := Lib.hid (heap_up ((Below.refl _ w9).alloc (Nat.le_refl _) (.cells #[.bool qn, .string qs, .string qd] 26)) HX6.out)
  have HX7 := Lib.hid (heap_up ((Below.refl _ w9).alloc (Nat.le_refl _) (.cells #[.bool qn, .string qs, .string qd] 26)) HX7.out)
  have HX8 := Lib.hid (heap_up ((Below.refl _ w9).alloc (Nat.le_refl _) (.cells #[.bool qn, .string qs, .string qd] 26)) HX8.out)
  obtain ⟨W10, hW10⟩ : ∃ W, w9.alloc (.cells #[.bool qn, .string qs, .string qd] 26) = W := ⟨_, rfl⟩
  rw [hW10] at HX HY HX6 HX7 HX8 HX10 HB
  go_wp2_with fail
  clear hW10
  obtain ⟨b10, hbb⟩ : ∃ b, w9.heap.size = b := ⟨_, rfl⟩
  rw [hbb] at HX10
  try rw [hbb]
  clear hbb
  refine wp_region_vals (w := W10) (by kernel_rfl) (SS6 b6 b7 b8 b10 ra rb s d p qn qu qs qd) (fun t => (decide (12 ≤ t) && decide (t < 13)) || (decide (30 ≤ t) && decide (t < 65))) (by kernel_rfl) (by kernel_rfl) (by kernel_rfl) (SS6_up b6 b7 b8 b10 ra rb s d p qn qu qs qd) ?_ ?_
  · intro i hi o listed a w hR K hK
    have ho := hR.at_
    have hi : i < 36 := hi
    have hii : i = 0 ∨ i = 1 ∨ i = 2 ∨ i = 3 ∨ i = 4 ∨ i = 5 ∨ i = 6 ∨ i = 7 ∨ i = 8 ∨ i = 9 ∨ i = 10 ∨ i = 11 ∨ i = 12 ∨ i = 13 ∨ i = 14 ∨ i = 15 ∨ i = 16 ∨ i = 17 ∨ i = 18 ∨ i = 19 ∨ i = 20 ∨ i = 21 ∨ i = 22 ∨ i = 23 ∨ i = 24 ∨ i = 25 ∨ i = 26 ∨ i = 27 ∨ i = 28 ∨ i = 29 ∨ i = 30 ∨ i = 31 ∨ i = 32 ∨ i = 33 ∨ i = 34 ∨ i = 35 := by omega
    rcases hii with rfl | rfl | rfl | rfl | rfl | rfl | rfl | rfl | rfl | rfl | rfl | rfl | rfl | rfl | rfl | rfl | rfl | rfl | rfl | rfl | rfl | rfl | rfl | rfl | rfl | rfl | rfl | rfl | rfl | rfl | rfl | rfl | rfl | rfl | rfl | rfl
    · simp at ho
      subst ho
      have b6 : a.tmps.getD 6 undef = .pointer (some ⟨b6, 0, none⟩) := hR.base 6 (by kernel_rfl)
      obtain ⟨⟨cx0, cx1, cx2⟩, -⟩ := row_cells (heap_up hR.below HX6.out)
      refine plain_step rfl rfl ?_
      go_simp
      exact hK _ _ (rfl) (Below.refl _ _)
    · simp at ho
      subst ho
      have b7 : a.tmps.getD 7 undef = .pointer (some ⟨b7, 0, none⟩) := hR.base 7 (by kernel_rfl)
      obtain ⟨⟨cx0, cx1, cx2⟩, -⟩ := row_cells (heap_up hR.below HX7.out)
      refine plain_step rfl rfl ?_
      go_simp
      exact hK _ _ (rfl) (Below.refl _ _)
    · simp at ho
      subst ho
      have e0 : a.tmps.getD 30 undef = .agg #[.bool ra.neg, .string (encS ra.num), .string (encS ra.den)] := hR.dep ⟨0, .data⟩ (by simp) rfl
      have e1 : a.tmps.getD 31 undef = .agg #[.bool rb.neg, .string (encS rb.num), .string (encS rb.den)] := hR.dep ⟨1, .data⟩ (by simp) rfl
      refine plain_step rfl rfl ?_
      go_simp
      refine (C1.out w).mono ?_
      rintro e w' ⟨rfl, hb⟩
      exact hK _ _ (rfl) hb
    · simp at ho
      subst ho
      have b6 : a.tmps.getD 6 undef = .pointer (some ⟨b6, 0, none⟩) := hR.base 6 (by kernel_rfl)
      obtain ⟨⟨cx0, cx1, cx2⟩, -⟩ := row_cells (heap_up hR.below HX6.out)
      refine plain_step rfl rfl ?_
      go_simp
      exact hK _ _ (rfl) (Below.refl _ _)
    · simp at ho
      subst ho
      have b7 : a.tmps.getD 7 undef = .pointer (some ⟨b7, 0, none⟩) := hR.base 7 (by kernel_rfl)
      obtain ⟨⟨cx0, cx1, cx2⟩, -⟩ := row_cells (heap_up hR.below HX7.out)
      refine plain_step rfl rfl ?_
      go_simp
      exact hK _ _ (rfl) (Below.refl _ _)
    · simp at ho
      subst ho
      have e3 : a.tmps.getD 33 undef = .agg #[.bool ra.neg, .string (encS ra.num), .string (encS ra.den)] := hR.dep ⟨3, .data⟩ (by simp) rfl
      have e4 : a.tmps.getD 34 undef = .agg #[.bool rb.neg, .string (encS rb.num), .string (encS rb.den)] := hR.dep ⟨4, .data⟩ (by simp) rfl
      refine plain_step rfl rfl ?_
      go_simp
      refine (C2.out w).mono ?_
      rintro e w' ⟨rfl, hb⟩
      exact hK _ _ (rfl) hb
    · simp at ho
      subst ho
      have e2 : a.tmps.getD 32 undef = .agg #[.bool s.neg, .string (encS s.num), .string (encS s.den)] := hR.dep ⟨2, .data⟩ (by simp) rfl
      have e5 : a.tmps.getD 35 undef = .agg #[.bool s.neg, .string (encS s.num), .string (encS s.den)] := hR.dep ⟨5, .data⟩ (by simp) rfl
      refine plain_step rfl rfl ?_
      go_simp
      exact hK _ _ (rfl) (Below.refl _ _)
    · simp at ho
      subst ho
      have e6 : a.tmps.getD 36 undef = .bool true := hR.dep ⟨6, .data⟩ (by simp) rfl
      refine plain_step rfl rfl ?_
      go_simp
      exact hK _ _ (rfl) (Below.refl _ _)
    · simp at ho
      subst ho
      have e7 : a.tmps.getD 37 undef = .bool true := hR.dep ⟨7, .guard⟩ (by simp) rfl
      have b6 : a.tmps.getD 6 undef = .pointer (some ⟨b6, 0, none⟩) := hR.base 6 (by kernel_rfl)
      obtain ⟨⟨cx0, cx1, cx2⟩, -⟩ := row_cells (heap_up hR.below HX6.out)
      refine guard_step rfl rfl rfl (b := true) e7 ?_
      go_simp
      exact hK _ _ (rfl) (Below.refl _ _)
    · simp at ho
      subst ho
      have e7 : a.tmps.getD 37 undef = .bool true := hR.dep ⟨7, .guard⟩ (by simp) rfl
      have b7 : a.tmps.getD 7 undef = .pointer (some ⟨b7, 0, none⟩) := hR.base 7 (by kernel_rfl)
      obtain ⟨⟨cx0, cx1, cx2⟩, -⟩ := row_cells (heap_up hR.below HX7.out)
      refine guard_step rfl rfl rfl (b := true) e7 ?_
      go_simp
      exact hK _ _ (rfl) (Below.refl _ _)
    · simp at ho
      subst ho
      have e8 : a.tmps.getD 38 undef = .agg #[.bool ra.neg, .string (encS ra.num), .string (encS ra.den)] := hR.dep ⟨8, .data⟩ (by simp) rfl
      have e9 : a.tmps.getD 39 undef = .agg #[.bool rb.neg, .string (encS rb.num), .string (encS rb.den)] := hR.dep ⟨9, .data⟩ (by simp) rfl
      have e7 : a.tmps.getD 37 undef = .bool true := hR.dep ⟨7, .guard⟩ (by simp) rfl
      refine guard_step rfl rfl rfl (b := true) e7 ?_
      go_simp
      refine (C3.out w).mono ?_
      rintro e w' ⟨rfl, hb⟩
      exact hK _ _ (rfl) hb
    · simp at ho
      subst ho
      have e7 : a.tmps.getD 37 undef = .bool true := hR.dep ⟨7, .guard⟩ (by simp) rfl
      have b6 : a.tmps.getD 6 undef = .pointer (some ⟨b6, 0, none⟩) := hR.base 6 (by kernel_rfl)
      obtain ⟨⟨cx0, cx1, cx2⟩, -⟩ := row_cells (heap_up hR.below HX6.out)
      refine guard_step rfl rfl rfl (b := true) e7 ?_
      go_simp
      exact hK _ _ (rfl) (Below.refl _ _)
    · simp at ho
      subst ho
      have e7 : a.tmps.getD 37 undef = .bool true := hR.dep ⟨7, .guard⟩ (by simp) rfl
      have b7 : a.tmps.getD 7 undef = .pointer (some ⟨b7, 0, none⟩) := hR.base 7 (by kernel_rfl)
      obtain ⟨⟨cx0, cx1, cx2⟩, -⟩ := row_cells (heap_up hR.below HX7.out)
      refine guard_step rfl rfl rfl (b := true) e7 ?_
      go_simp
      exact hK _ _ (rfl) (Below.refl _ _)
    · simp at ho
      subst ho
      have e11 : a.tmps.getD 41 undef = .agg #[.bool ra.neg, .string (encS ra.num), .string (encS ra.den)] := hR.dep ⟨11, .data⟩ (by simp) rfl
      have e12 : a.tmps.getD 42 undef = .agg #[.bool rb.neg, .string (encS rb.num), .string (encS rb.den)] := hR.dep ⟨12, .data⟩ (by simp) rfl
      have e7 : a.tmps.getD 37 undef = .bool true := hR.dep ⟨7, .guard⟩ (by simp) rfl
      refine guard_step rfl rfl rfl (b := true) e7 ?_
      go_simp
      refine (C4.out w).mono ?_
      rintro e w' ⟨rfl, hb⟩
      exact hK _ _ (rfl) hb
    · simp at ho
      subst ho
      have e10 : a.tmps.getD 40 undef = .agg #[.bool d.neg, .string (encS d.num), .string (encS d.den)] := hR.dep ⟨10, .data⟩ (by simp) rfl
      have e13 : a.tmps.getD 43 undef = .agg #[.bool d.neg, .string (encS d.num), .string (encS d.den)] := hR.dep ⟨13, .data⟩ (by simp) rfl
      have e7 : a.tmps.getD 37 undef = .bool true := hR.dep ⟨7, .guard⟩ (by simp) rfl
      refine guard_step rfl rfl rfl (b := true) e7 ?_
      go_simp
      exact hK _ _ (rfl) (Below.refl _ _)
    · simp at ho
      subst ho
      have e7 : a.tmps.getD 37 undef = .bool true := hR.dep ⟨7, .data⟩ (by simp) rfl
      have e14 : a.tmps.getD 44 undef = .bool true := hR.dep ⟨14, .data⟩ (by simp) rfl
      refine plain_step rfl rfl ?_
      go_simp
      exact hK _ _ (rfl) (Below.refl _ _)
    · simp at ho
      subst ho
      have e15 : a.tmps.getD 45 undef = .bool true := hR.dep ⟨15, .data⟩ (by simp) rfl
      refine plain_step rfl rfl ?_
      go_simp
      exact hK _ _ (rfl) (Below.refl _ _)
    · simp at ho
      subst ho
      have e16 : a.tmps.getD 46 undef = .bool true := hR.dep ⟨16, .guard⟩ (by simp) rfl
      have b6 : a.tmps.getD 6 undef = .pointer (some ⟨b6, 0, none⟩) := hR.base 6 (by kernel_rfl)
      obtain ⟨⟨cx0, cx1, cx2⟩, -⟩ := row_cells (heap_up hR.below HX6.out)
      refine guard_step rfl rfl rfl (b := true) e16 ?_
      go_simp
      exact hK _ _ (rfl) (Below.refl _ _)
    · simp at ho
      subst ho
      have e16 : a.tmps.getD 46 undef = .bool true := hR.dep ⟨16, .guard⟩ (by simp) rfl
      have b7 : a.tmps.getD 7 undef = .pointer (some ⟨b7, 0, none⟩) := hR.base 7 (by kernel_rfl)
      obtain ⟨⟨cx0, cx1, cx2⟩, -⟩ := row_cells (heap_up hR.below HX7.out)
      refine guard_step rfl rfl rfl (b := true) e16 ?_
      go_simp
      exact hK _ _ (rfl) (Below.refl _ _)
    · simp at ho
      subst ho
      have e17 : a.tmps.getD 47 undef = .agg #[.bool ra.neg, .string (encS ra.num), .string (encS ra.den)] := hR.dep ⟨17, .data⟩ (by simp) rfl
      have e18 : a.tmps.getD 48 undef = .agg #[.bool rb.neg, .string (encS rb.num), .string (encS rb.den)] := hR.dep ⟨18, .data⟩ (by simp) rfl
      have e16 : a.tmps.getD 46 undef = .bool true := hR.dep ⟨16, .guard⟩ (by simp) rfl
      refine guard_step rfl rfl rfl (b := true) e16 ?_
      go_simp
      refine (C5.out w).mono ?_
      rintro e w' ⟨rfl, hb⟩
      exact hK _ _ (rfl) hb
    · simp at ho
      subst ho
      have e16 : a.tmps.getD 46 undef = .bool true := hR.dep ⟨16, .guard⟩ (by simp) rfl
      have b6 : a.tmps.getD 6 undef = .pointer (some ⟨b6, 0, none⟩) := hR.base 6 (by kernel_rfl)
      obtain ⟨⟨cx0, cx1, cx2⟩, -⟩ := row_cells (heap_up hR.below HX6.out)
      refine guard_step rfl rfl rfl (b := true) e16 ?_
      go_simp
      exact hK _ _ (rfl) (Below.refl _ _)
    · simp at ho
      subst ho
      have e16 : a.tmps.getD 46 undef = .bool true := hR.dep ⟨16, .guard⟩ (by simp) rfl
      have b7 : a.tmps.getD 7 undef = .pointer (some ⟨b7, 0, none⟩) := hR.base 7 (by kernel_rfl)
      obtain ⟨⟨cx0, cx1, cx2⟩, -⟩ := row_cells (heap_up hR.below HX7.out)
      refine guard_step rfl rfl rfl (b := true) e16 ?_
      go_simp
      exact hK _ _ (rfl) (Below.refl _ _)
    · simp at ho
      subst ho
      have e20 : a.tmps.getD 50 undef = .agg #[.bool ra.neg, .string (encS ra.num), .string (encS ra.den)] := hR.dep ⟨20, .data⟩ (by simp) rfl
      have e21 : a.tmps.getD 51 undef = .agg #[.bool rb.neg, .string (encS rb.num), .string (encS rb.den)] := hR.dep ⟨21, .data⟩ (by simp) rfl
      have e16 : a.tmps.getD 46 undef = .bool true := hR.dep ⟨16, .guard⟩ (by simp) rfl
      refine guard_step rfl rfl rfl (b := true) e16 ?_
      go_simp
      refine (C6.out w).mono ?_
      rintro e w' ⟨rfl, hb⟩
      exact hK _ _ (rfl) hb
    · simp at ho
      subst ho
      have e19 : a.tmps.getD 49 undef = .agg #[.bool p.neg, .string (encS p.num), .string (encS p.den)] := hR.dep ⟨19, .data⟩ (by simp) rfl
      have e22 : a.tmps.getD 52 undef = .agg #[.bool p.neg, .string (encS p.num), .string (encS p.den)] := hR.dep ⟨22, .data⟩ (by simp) rfl
      have e16 : a.tmps.getD 46 undef = .bool true := hR.dep ⟨16, .guard⟩ (by simp) rfl
      refine guard_step rfl rfl rfl (b := true) e16 ?_
      go_simp
      exact hK _ _ (rfl) (Below.refl _ _)
    · simp at ho
      subst ho
      have e16 : a.tmps.getD 46 undef = .bool true := hR.dep ⟨16, .data⟩ (by simp) rfl
      have e23 : a.tmps.getD 53 undef = .bool true := hR.dep ⟨23, .data⟩ (by simp) rfl
      refine plain_step rfl rfl ?_
      go_simp
      exact hK _ _ (rfl) (Below.refl _ _)
    · simp at ho
      subst ho
      have e24 : a.tmps.getD 54 undef = .bool true := hR.dep ⟨24, .data⟩ (by simp) rfl
      refine plain_step rfl rfl ?_
      go_simp
      exact hK _ _ (rfl) (Below.refl _ _)
    · simp at ho
      subst ho
      have e25 : a.tmps.getD 55 undef = .bool true := hR.dep ⟨25, .guard⟩ (by simp) rfl
      have b8 : a.tmps.getD 8 undef = .pointer (some ⟨b8, 0, none⟩) := hR.base 8 (by kernel_rfl)
      obtain ⟨⟨cx0, cx1, cx2⟩, -⟩ := row_cells (heap_up hR.below HX8.out)
      refine guard_step rfl rfl rfl (b := true) e25 ?_
      go_simp
      exact hK _ _ (rfl) (Below.refl _ _)
    · simp at ho
      subst ho
      have e25 : a.tmps.getD 55 undef = .bool true := hR.dep ⟨25, .guard⟩ (by simp) rfl
      have b10 : a.tmps.getD 10 undef = .pointer (some ⟨b10, 0, none⟩) := hR.base 10 (by kernel_rfl)
      obtain ⟨⟨cx0, cx1, cx2⟩, -⟩ := row_cells (heap_up hR.below HX10.out)
      refine guard_step rfl rfl rfl (b := true) e25 ?_
      go_simp
      exact hK _ _ (rfl) (Below.refl _ _)
    · simp at ho
      subst ho
      have e26 : a.tmps.getD 56 undef = .agg #[.bool qn, .string qs, .string qd] := hR.dep ⟨26, .data⟩ (by simp) rfl
      have e27 : a.tmps.getD 57 undef = .agg #[.bool qn, .string qs, .string qd] := hR.dep ⟨27, .data⟩ (by simp) rfl
      have e25 : a.tmps.getD 55 undef = .bool true := hR.dep ⟨25, .guard⟩ (by simp) rfl
      refine guard_step rfl rfl rfl (b := true) e25 ?_
      go_simp
      exact hK _ _ (rfl) (Below.refl _ _)
    · simp at ho
      subst ho
      have e25 : a.tmps.getD 55 undef = .bool true := hR.dep ⟨25, .data⟩ (by simp) rfl
      have e28 : a.tmps.getD 58 undef = .bool true := hR.dep ⟨28, .data⟩ (by simp) rfl
      refine plain_step rfl rfl ?_
      go_simp
      exact hK _ _ (rfl) (Below.refl _ _)
    · simp at ho
      subst ho
      have e29 : a.tmps.getD 59 undef = .bool true := hR.dep ⟨29, .data⟩ (by simp) rfl
      refine plain_step rfl rfl ?_
      go_simp
      exact hK _ _ (rfl) (Below.refl _ _)
    · simp at ho
      subst ho
      have e30 : a.tmps.getD 60 undef = .bool true := hR.dep ⟨30, .guard⟩ (by simp) rfl
      have b9 : a.tmps.getD 9 undef = .bool qu := hR.base 9 (by kernel_rfl)
      refine guard_step rfl rfl rfl (b := true) e30 ?_
      go_simp
      exact hK _ _ (rfl) (Below.refl _ _)
    · simp at ho
      subst ho
      have e30 : a.tmps.getD 60 undef = .bool true := hR.dep ⟨30, .guard⟩ (by simp) rfl
      have b11 : a.tmps.getD 11 undef = .bool qu := hR.base 11 (by kernel_rfl)
      refine guard_step rfl rfl rfl (b := true) e30 ?_
      go_simp
      exact hK _ _ (rfl) (Below.refl _ _)
    · simp at ho
      subst ho
      have e31 : a.tmps.getD 61 undef = .bool qu := hR.dep ⟨31, .data⟩ (by simp) rfl
      have e32 : a.tmps.getD 62 undef = .bool qu := hR.dep ⟨32, .data⟩ (by simp) rfl
      have e30 : a.tmps.getD 60 undef = .bool true := hR.dep ⟨30, .guard⟩ (by simp) rfl
      refine guard_step rfl rfl rfl (b := true) e30 ?_
      go_simp
      exact hK _ _ (rfl) (Below.refl _ _)
    · simp at ho
      subst ho
      have e30 : a.tmps.getD 60 undef = .bool true := hR.dep ⟨30, .data⟩ (by simp) rfl
      have e33 : a.tmps.getD 63 undef = .bool true := hR.dep ⟨33, .data⟩ (by simp) rfl
      refine plain_step rfl rfl ?_
      go_simp
      exact hK _ _ (rfl) (Below.refl _ _)
    · simp at ho
      subst ho
      have e34 : a.tmps.getD 64 undef = .bool true := hR.dep ⟨34, .data⟩ (by simp) rfl
      refine plain_step rfl rfl ?_
      go_simp
      exact hK _ _ (rfl) (Below.refl _ _)
  · intro s w hS hb
    have e35 : s 12 = .bool true := hS 35 (by decide)
    simp only [over, Nat.zero_add, Nat.reduceAdd, Nat.reduceLeDiff, Nat.reduceLT, decide_true, decide_false, Bool.and_true, Bool.and_false, Bool.or_false, Bool.or_true, cond_true, cond_false]
    have HB := Lib.hid (HB.out.trans (hb.mono HB.out.size))
    have HX := Lib.hid (heap_up hb HX.out)
    have HY := Lib.hid (heap_up hb HY.out)
    have HX6 := Lib.hid (heap_up hb HX6.out)
    have HX7 := Lib.hid (heap_up hb HX7.out)
    have HX8 := Lib.hid (heap_up hb HX8.out)
    have HX10 := Lib.hid (heap_up hb HX10.out)
    obtain ⟨wr6, hw8⟩ : ∃ w8, w8 = w := ⟨_, rfl⟩
    subst hw8
    rw [e35]
    clear hS hb e35
    go_wp2_with fail
    refine wp_region_vals (w := wr6) (by kernel_rfl) (SS7 b6 b7 ra rb ng cm sg) (fun t => (decide (4 ≤ t) && decide (t < 5)) || (decide (65 ≤ t) && decide (t < 92))) (by kernel_rfl) (by kernel_rfl) (by kernel_rfl) (SS7_up b6 b7 ra rb ng cm sg) ?_ ?_
    · intro i hi o listed a w hR K hK
      have ho := hR.at_
      have hi : i < 28 := hi
      have hii : i = 0 ∨ i = 1 ∨ i = 2 ∨ i = 3 ∨ i = 4 ∨ i = 5 ∨ i = 6 ∨ i = 7 ∨ i = 8 ∨ i = 9 ∨ i = 10 ∨ i = 11 ∨ i = 12 ∨ i = 13 ∨ i = 14 ∨ i = 15 ∨ i = 16 ∨ i = 17 ∨ i = 18 ∨ i = 19 ∨ i = 20 ∨ i = 21 ∨ i = 22 ∨ i = 23 ∨ i = 24 ∨ i = 25 ∨ i = 26 ∨ i = 27 := by omega
      rcases hii with rfl | rfl | rfl | rfl | rfl | rfl | rfl | rfl | rfl | rfl | rfl | rfl | rfl | rfl | rfl | rfl | rfl | rfl | rfl | rfl | rfl | rfl | rfl | rfl | rfl | rfl | rfl | rfl
      · simp at ho
        subst ho
        have b5 : a.tmps.getD 5 undef = .bool true := hR.base 5 (by kernel_rfl)
        refine plain_step rfl rfl ?_
        go_simp
        exact hK _ _ (rfl) (Below.refl _ _)
      · simp at ho
        subst ho
        have e0 : a.tmps.getD 65 undef = .bool true := hR.dep ⟨0, .data⟩ (by simp) rfl
        refine plain_step rfl rfl ?_
        go_simp
        exact hK _ _ (rfl) (Below.refl _ _)
      · simp at ho
        subst ho
        have e1 : a.tmps.getD 66 undef = .bool true := hR.dep ⟨1, .guard⟩ (by simp) rfl
        have b12 : a.tmps.getD 12 undef = .bool true := hR.base 12 (by kernel_rfl)
        refine guard_step rfl rfl rfl (b := true) e1 ?_
        go_simp
        exact hK _ _ (rfl) (Below.refl _ _)
      · simp at ho
        subst ho
        have e1 : a.tmps.getD 66 undef = .bool true := hR.dep ⟨1, .data⟩ (by simp) rfl
        have e2 : a.tmps.getD 67 undef = .bool true := hR.dep ⟨2, .data⟩ (by simp) rfl
        refine plain_step rfl rfl ?_
        go_simp
        exact hK _ _ (rfl) (Below.refl _ _)
      · simp at ho
        subst ho
        have e3 : a.tmps.getD 68 undef = .bool true := hR.dep ⟨3, .data⟩ (by simp) rfl
        refine plain_step rfl rfl ?_
        go_simp
        exact hK _ _ (rfl) (Below.refl _ _)
      · simp at ho
        subst ho
        have e4 : a.tmps.getD 69 undef = .bool true := hR.dep ⟨4, .guard⟩ (by simp) rfl
        have b6 : a.tmps.getD 6 undef = .pointer (some ⟨b6, 0, none⟩) := hR.base 6 (by kernel_rfl)
        obtain ⟨⟨cx0, cx1, cx2⟩, -⟩ := row_cells (heap_up hR.below HX6.out)
        refine guard_step rfl rfl rfl (b := true) e4 ?_
        go_simp
        exact hK _ _ (rfl) (Below.refl _ _)
      · simp at ho
        subst ho
        have e4 : a.tmps.getD 69 undef = .bool true := hR.dep ⟨4, .guard⟩ (by simp) rfl
        have b7 : a.tmps.getD 7 undef = .pointer (some ⟨b7, 0, none⟩) := hR.base 7 (by kernel_rfl)
        obtain ⟨⟨cx0, cx1, cx2⟩, -⟩ := row_cells (heap_up hR.below HX7.out)
        refine guard_step rfl rfl rfl (b := true) e4 ?_
        go_simp
        exact hK _ _ (rfl) (Below.refl _ _)
      · simp at ho
        subst ho
        have e5 : a.tmps.getD 70 undef = .agg #[.bool ra.neg, .string (encS ra.num), .string (encS ra.den)] := hR.dep ⟨5, .data⟩ (by simp) rfl
        have e6 : a.tmps.getD 71 undef = .agg #[.bool rb.neg, .string (encS rb.num), .string (encS rb.den)] := hR.dep ⟨6, .data⟩ (by simp) rfl
        have e4 : a.tmps.getD 69 undef = .bool true := hR.dep ⟨4, .guard⟩ (by simp) rfl
        refine guard_step rfl rfl rfl (b := true) e4 ?_
        go_simp
        refine (C9.out w).mono ?_
        rintro e w' ⟨rfl, hb⟩
        exact hK _ _ (rfl) hb
      · simp at ho
        subst ho
        have e4 : a.tmps.getD 69 undef = .bool true := hR.dep ⟨4, .guard⟩ (by simp) rfl
        have b6 : a.tmps.getD 6 undef = .pointer (some ⟨b6, 0, none⟩) := hR.base 6 (by kernel_rfl)
        obtain ⟨⟨cx0, cx1, cx2⟩, -⟩ := row_cells (heap_up hR.below HX6.out)
        refine guard_step rfl rfl rfl (b := true) e4 ?_
        go_simp
        exact hK _ _ (rfl) (Below.refl _ _)
      · simp at ho
        subst ho
        have e4 : a.tmps.getD 69 undef = .bool true := hR.dep ⟨4, .guard⟩ (by simp) rfl
        have b7 : a.tmps.getD 7 undef = .pointer (some ⟨b7, 0, none⟩) := hR.base 7 (by kernel_rfl)
        obtain ⟨⟨cx0, cx1, cx2⟩, -⟩ := row_cells (heap_up hR.below HX7.out)
        refine guard_step rfl rfl rfl (b := true) e4 ?_
        go_simp
        exact hK _ _ (rfl) (Below.refl _ _)
      · simp at ho
        subst ho
        have e8 : a.tmps.getD 73 undef = .agg #[.bool ra.neg, .string (encS ra.num), .string (encS ra.den)] := hR.dep ⟨8, .data⟩ (by simp) rfl
        have e9 : a.tmps.getD 74 undef = .agg #[.bool rb.neg, .string (encS rb.num), .string (encS rb.den)] := hR.dep ⟨9, .data⟩ (by simp) rfl
        have e4 : a.tmps.getD 69 undef = .bool true := hR.dep ⟨4, .guard⟩ (by simp) rfl
        refine guard_step rfl rfl rfl (b := true) e4 ?_
        go_simp
        refine (C10.out w).mono ?_
        rintro e w' ⟨rfl, hb⟩
        exact hK _ _ (rfl) hb
      · simp at ho
        subst ho
        have e7 : a.tmps.getD 72 undef = .int .i64 cm := hR.dep ⟨7, .data⟩ (by simp) rfl
        have e10 : a.tmps.getD 75 undef = .int .i64 cm := hR.dep ⟨10, .data⟩ (by simp) rfl
        have e4 : a.tmps.getD 69 undef = .bool true := hR.dep ⟨4, .guard⟩ (by simp) rfl
        refine guard_step rfl rfl rfl (b := true) e4 ?_
        go_simp
        exact hK _ _ (rfl) (Below.refl _ _)
      · simp at ho
        subst ho
        have e4 : a.tmps.getD 69 undef = .bool true := hR.dep ⟨4, .data⟩ (by simp) rfl
        have e11 : a.tmps.getD 76 undef = .bool true := hR.dep ⟨11, .data⟩ (by simp) rfl
        refine plain_step rfl rfl ?_
        go_simp
        exact hK _ _ (rfl) (Below.refl _ _)
      · simp at ho
        subst ho
        have e12 : a.tmps.getD 77 undef = .bool true := hR.dep ⟨12, .data⟩ (by simp) rfl
        refine plain_step rfl rfl ?_
        go_simp
        exact hK _ _ (rfl) (Below.refl _ _)
      · simp at ho
        subst ho
        have e13 : a.tmps.getD 78 undef = .bool true := hR.dep ⟨13, .guard⟩ (by simp) rfl
        have b6 : a.tmps.getD 6 undef = .pointer (some ⟨b6, 0, none⟩) := hR.base 6 (by kernel_rfl)
        obtain ⟨⟨cx0, cx1, cx2⟩, -⟩ := row_cells (heap_up hR.below HX6.out)
        refine guard_step rfl rfl rfl (b := true) e13 ?_
        go_simp
        exact hK _ _ (rfl) (Below.refl _ _)
      · simp at ho
        subst ho
        have e14 : a.tmps.getD 79 undef = .agg #[.bool ra.neg, .string (encS ra.num), .string (encS ra.den)] := hR.dep ⟨14, .data⟩ (by simp) rfl
        have e13 : a.tmps.getD 78 undef = .bool true := hR.dep ⟨13, .guard⟩ (by simp) rfl
        refine guard_step rfl rfl rfl (b := true) e13 ?_
        go_simp
        refine (C11.out w).mono ?_
        rintro e w' ⟨rfl, hb⟩
        exact hK _ _ (rfl) hb
      · simp at ho
        subst ho
        have e13 : a.tmps.getD 78 undef = .bool true := hR.dep ⟨13, .guard⟩ (by simp) rfl
        have b6 : a.tmps.getD 6 undef = .pointer (some ⟨b6, 0, none⟩) := hR.base 6 (by kernel_rfl)
        obtain ⟨⟨cx0, cx1, cx2⟩, -⟩ := row_cells (heap_up hR.below HX6.out)
        refine guard_step rfl rfl rfl (b := true) e13 ?_
        go_simp
        exact hK _ _ (rfl) (Below.refl _ _)
      · simp at ho
        subst ho
        have e16 : a.tmps.getD 81 undef = .agg #[.bool ra.neg, .string (encS ra.num), .string (encS ra.den)] := hR.dep ⟨16, .data⟩ (by simp) rfl
        have e13 : a.tmps.getD 78 undef = .bool true := hR.dep ⟨13, .guard⟩ (by simp) rfl
        refine guard_step rfl rfl rfl (b := true) e13 ?_
        go_simp
        refine (C12.out w).mono ?_
        rintro e w' ⟨rfl, hb⟩
        exact hK _ _ (rfl) hb
      · simp at ho
        subst ho
        have e15 : a.tmps.getD 80 undef = .int .i64 sg := hR.dep ⟨15, .data⟩ (by simp) rfl
        have e17 : a.tmps.getD 82 undef = .int .i64 sg := hR.dep ⟨17, .data⟩ (by simp) rfl
        have e13 : a.tmps.getD 78 undef = .bool true := hR.dep ⟨13, .guard⟩ (by simp) rfl
        refine guard_step rfl rfl rfl (b := true) e13 ?_
        go_simp
        exact hK _ _ (rfl) (Below.refl _ _)
      · simp at ho
        subst ho
        have e13 : a.tmps.getD 78 undef = .bool true := hR.dep ⟨13, .data⟩ (by simp) rfl
        have e18 : a.tmps.getD 83 undef = .bool true := hR.dep ⟨18, .data⟩ (by simp) rfl
        refine plain_step rfl rfl ?_
        go_simp
        exact hK _ _ (rfl) (Below.refl _ _)
      · simp at ho
        subst ho
        have e19 : a.tmps.getD 84 undef = .bool true := hR.dep ⟨19, .data⟩ (by simp) rfl
        refine plain_step rfl rfl ?_
        go_simp
        exact hK _ _ (rfl) (Below.refl _ _)
      · simp at ho
        subst ho
        have e20 : a.tmps.getD 85 undef = .bool true := hR.dep ⟨20, .guard⟩ (by simp) rfl
        have b6 : a.tmps.getD 6 undef = .pointer (some ⟨b6, 0, none⟩) := hR.base 6 (by kernel_rfl)
        obtain ⟨⟨cx0, cx1, cx2⟩, -⟩ := row_cells (heap_up hR.below HX6.out)
        refine guard_step rfl rfl rfl (b := true) e20 ?_
        go_simp
        exact hK _ _ (rfl) (Below.refl _ _)
      · simp at ho
        subst ho
        have e21 : a.tmps.getD 86 undef = .agg #[.bool ra.neg, .string (encS ra.num), .string (encS ra.den)] := hR.dep ⟨21, .data⟩ (by simp) rfl
        have e20 : a.tmps.getD 85 undef = .bool true := hR.dep ⟨20, .guard⟩ (by simp) rfl
        refine guard_step rfl rfl rfl (b := true) e20 ?_
        go_simp
        refine (C7.out w).mono ?_
        rintro e w' ⟨rfl, hb⟩
        exact hK _ _ (rfl) hb
      · simp at ho
        subst ho
        have e20 : a.tmps.getD 85 undef = .bool true := hR.dep ⟨20, .guard⟩ (by simp) rfl
        have b6 : a.tmps.getD 6 undef = .pointer (some ⟨b6, 0, none⟩) := hR.base 6 (by kernel_rfl)
        obtain ⟨⟨cx0, cx1, cx2⟩, -⟩ := row_cells (heap_up hR.below HX6.out)
        refine guard_step rfl rfl rfl (b := true) e20 ?_
        go_simp
        exact hK _ _ (rfl) (Below.refl _ _)
      · simp at ho
        subst ho
        have e23 : a.tmps.getD 88 undef = .agg #[.bool ra.neg, .string (encS ra.num), .string (encS ra.den)] := hR.dep ⟨23, .data⟩ (by simp) rfl
        have e20 : a.tmps.getD 85 undef = .bool true := hR.dep ⟨20, .guard⟩ (by simp) rfl
        refine guard_step rfl rfl rfl (b := true) e20 ?_
        go_simp
        refine (C8.out w).mono ?_
        rintro e w' ⟨rfl, hb⟩
        exact hK _ _ (rfl) hb
      · simp at ho
        subst ho
        have e22 : a.tmps.getD 87 undef = .agg #[.bool ng.neg, .string (encS ng.num), .string (encS ng.den)] := hR.dep ⟨22, .data⟩ (by simp) rfl
        have e24 : a.tmps.getD 89 undef = .agg #[.bool ng.neg, .string (encS ng.num), .string (encS ng.den)] := hR.dep ⟨24, .data⟩ (by simp) rfl
        have e20 : a.tmps.getD 85 undef = .bool true := hR.dep ⟨20, .guard⟩ (by simp) rfl
        refine guard_step rfl rfl rfl (b := true) e20 ?_
        go_simp
        exact hK _ _ (rfl) (Below.refl _ _)
      · simp at ho
        subst ho
        have e20 : a.tmps.getD 85 undef = .bool true := hR.dep ⟨20, .data⟩ (by simp) rfl
        have e25 : a.tmps.getD 90 undef = .bool true := hR.dep ⟨25, .data⟩ (by simp) rfl
        refine plain_step rfl rfl ?_
        go_simp
        exact hK _ _ (rfl) (Below.refl _ _)
      · simp at ho
        subst ho
        have e26 : a.tmps.getD 91 undef = .bool true := hR.dep ⟨26, .data⟩ (by simp) rfl
        refine plain_step rfl rfl ?_
        go_simp
        exact hK _ _ (rfl) (Below.refl _ _)
    · intro s w hS hb
      have e27 : s 4 = .bool true := hS 27 (by decide)
      simp only [over, Nat.zero_add, Nat.reduceAdd, Nat.reduceLeDiff, Nat.reduceLT, decide_true, decide_false, Bool.and_true, Bool.and_false, Bool.or_false, Bool.or_true, cond_true, cond_false]
      have HB := Lib.hid (HB.out.trans (hb.mono HB.out.size))
      have HX := Lib.hid (heap_up hb HX.out)
      have HY := Lib.hid (heap_up hb HY.out)
      have HX6 := Lib.hid (heap_up hb HX6.out)
      have HX7 := Lib.hid (heap_up hb HX7.out)
      have HX8 := Lib.hid (heap_up hb HX8.out)
      have HX10 := Lib.hid (heap_up hb HX10.out)
      obtain ⟨wr7, hw8⟩ : ∃ w8, w8 = w := ⟨_, rfl⟩
      subst hw8
      rw [e27]
      clear hS hb e27
      go_wp2_with fail
      go_ret
      exact ⟨rfl, HB.out⟩
end Go.Proofs.YtancflpioigjbaaGreatDoor.ratioSums
