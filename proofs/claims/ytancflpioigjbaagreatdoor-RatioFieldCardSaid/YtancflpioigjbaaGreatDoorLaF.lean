/- RatioField: the walk. Each theorem names its conditions. -/
import Derived.Test.YtancflpioigjbaaGreatDoorRaH
namespace Go.Proofs.YtancflpioigjbaaGreatDoor.ratioField
open Go.RowKit Go.Shelf
open Dgt
set_option linter.unusedVariables false

def ES7 (b8 b9 b10 : Nat) (ra rb rc sab pab sabc sbc pabc pbc : Rt) : Nat → Value
  | 0 => .agg #[.bool ra.neg, .string (encS ra.num), .string (encS ra.den)]
  | 1 => .agg #[.bool rb.neg, .string (encS rb.num), .string (encS rb.den)]
  | 2 => .agg #[.bool sab.neg, .string (encS sab.num), .string (encS sab.den)]
  | 3 => .agg #[.bool rb.neg, .string (encS rb.num), .string (encS rb.den)]
  | 4 => .agg #[.bool ra.neg, .string (encS ra.num), .string (encS ra.den)]
  | 5 => .agg #[.bool sab.neg, .string (encS sab.num), .string (encS sab.den)]
  | 6 => .bool true
  | 7 => .bool true
  | 8 => .agg #[.bool ra.neg, .string (encS ra.num), .string (encS ra.den)]
  | 9 => .agg #[.bool rb.neg, .string (encS rb.num), .string (encS rb.den)]
  | 10 => .agg #[.bool pab.neg, .string (encS pab.num), .string (encS pab.den)]
  | 11 => .agg #[.bool rb.neg, .string (encS rb.num), .string (encS rb.den)]
  | 12 => .agg #[.bool ra.neg, .string (encS ra.num), .string (encS ra.den)]
  | 13 => .agg #[.bool pab.neg, .string (encS pab.num), .string (encS pab.den)]
  | 14 => .bool true
  | 15 => .bool true
  | 16 => .bool true
  | 17 => .agg #[.bool ra.neg, .string (encS ra.num), .string (encS ra.den)]
  | 18 => .agg #[.bool rb.neg, .string (encS rb.num), .string (encS rb.den)]
  | 19 => .agg #[.bool sab.neg, .string (encS sab.num), .string (encS sab.den)]
  | 20 => .agg #[.bool rc.neg, .string (encS rc.num), .string (encS rc.den)]
  | 21 => .agg #[.bool sabc.neg, .string (encS sabc.num), .string (encS sabc.den)]
  | 22 => .agg #[.bool ra.neg, .string (encS ra.num), .string (encS ra.den)]
  | 23 => .agg #[.bool rb.neg, .string (encS rb.num), .string (encS rb.den)]
  | 24 => .agg #[.bool rc.neg, .string (encS rc.num), .string (encS rc.den)]
  | 25 => .agg #[.bool sbc.neg, .string (encS sbc.num), .string (encS sbc.den)]
  | 26 => .agg #[.bool sabc.neg, .string (encS sabc.num), .string (encS sabc.den)]
  | 27 => .bool true
  | 28 => .bool true
  | 29 => .bool true
  | 30 => .agg #[.bool ra.neg, .string (encS ra.num), .string (encS ra.den)]
  | 31 => .agg #[.bool rb.neg, .string (encS rb.num), .string (encS rb.den)]
  | 32 => .agg #[.bool pab.neg, .string (encS pab.num), .string (encS pab.den)]
  | 33 => .agg #[.bool rc.neg, .string (encS rc.num), .string (encS rc.den)]
  | 34 => .agg #[.bool pabc.neg, .string (encS pabc.num), .string (encS pabc.den)]
  | 35 => .agg #[.bool ra.neg, .string (encS ra.num), .string (encS ra.den)]
  | 36 => .agg #[.bool rb.neg, .string (encS rb.num), .string (encS rb.den)]
  | 37 => .agg #[.bool rc.neg, .string (encS rc.num), .string (encS rc.den)]
  | 38 => .agg #[.bool pbc.neg, .string (encS pbc.num), .string (encS pbc.den)]
  | 39 => .agg #[.bool pabc.neg, .string (encS pabc.num), .string (encS pabc.den)]
  | 40 => .bool true
  | 41 => .bool true
  | 42 => .bool true
  | _ => undef
def SS7 (b8 b9 b10 : Nat) (ra rb rc sab pab sabc sbc pabc pbc : Rt) (ix : Nat) (v : Value) (w : World) : Prop :=
  match ix with
  | ix => v = ES7 b8 b9 b10 ra rb rc sab pab sabc sbc pabc pbc ix
theorem SS7_up (b8 b9 b10 : Nat) (ra rb rc sab pab sabc sbc pabc pbc : Rt) (ix : Nat) (v : Value) (w w' : World) (hb : Below w.heap.size w w') (h : SS7 b8 b9 b10 ra rb rc sab pab sabc sbc pabc pbc ix v w) : SS7 b8 b9 b10 ra rb rc sab pab sabc sbc pabc pbc ix v w' := by
  exact h

def ES8 (b8 b9 b10 b11 b12 : Nat) (ra rb rc sbc xs pab pac z u na : Rt) : Nat → Value
  | 0 => .agg #[.bool ra.neg, .string (encS ra.num), .string (encS ra.den)]
  | 1 => .agg #[.bool rb.neg, .string (encS rb.num), .string (encS rb.den)]
  | 2 => .agg #[.bool rc.neg, .string (encS rc.num), .string (encS rc.den)]
  | 3 => .agg #[.bool sbc.neg, .string (encS sbc.num), .string (encS sbc.den)]
  | 4 => .agg #[.bool xs.neg, .string (encS xs.num), .string (encS xs.den)]
  | 5 => .agg #[.bool ra.neg, .string (encS ra.num), .string (encS ra.den)]
  | 6 => .agg #[.bool rb.neg, .string (encS rb.num), .string (encS rb.den)]
  | 7 => .agg #[.bool pab.neg, .string (encS pab.num), .string (encS pab.den)]
  | 8 => .agg #[.bool ra.neg, .string (encS ra.num), .string (encS ra.den)]
  | 9 => .agg #[.bool rc.neg, .string (encS rc.num), .string (encS rc.den)]
  | 10 => .agg #[.bool pac.neg, .string (encS pac.num), .string (encS pac.den)]
  | 11 => .agg #[.bool xs.neg, .string (encS xs.num), .string (encS xs.den)]
  | 12 => .bool true
  | 13 => .bool true
  | 14 => .agg #[.bool ra.neg, .string (encS ra.num), .string (encS ra.den)]
  | 15 => .agg #[.bool z.neg, .string (encS z.num), .string (encS z.den)]
  | 16 => .agg #[.bool ra.neg, .string (encS ra.num), .string (encS ra.den)]
  | 17 => .agg #[.bool ra.neg, .string (encS ra.num), .string (encS ra.den)]
  | 18 => .bool true
  | 19 => .bool true
  | 20 => .bool true
  | 21 => .agg #[.bool ra.neg, .string (encS ra.num), .string (encS ra.den)]
  | 22 => .agg #[.bool u.neg, .string (encS u.num), .string (encS u.den)]
  | 23 => .agg #[.bool ra.neg, .string (encS ra.num), .string (encS ra.den)]
  | 24 => .agg #[.bool ra.neg, .string (encS ra.num), .string (encS ra.den)]
  | 25 => .bool true
  | 26 => .bool true
  | 27 => .bool true
  | 28 => .agg #[.bool ra.neg, .string (encS ra.num), .string (encS ra.den)]
  | 29 => .agg #[.bool ra.neg, .string (encS ra.num), .string (encS ra.den)]
  | 30 => .agg #[.bool na.neg, .string (encS na.num), .string (encS na.den)]
  | 31 => .agg #[.bool z.neg, .string (encS z.num), .string (encS z.den)]
  | 32 => .agg #[.bool z.neg, .string (encS z.num), .string (encS z.den)]
  | 33 => .bool true
  | 34 => .bool true
  | 35 => .bool true
  | _ => undef
def SS8 (b8 b9 b10 b11 b12 : Nat) (ra rb rc sbc xs pab pac z u na : Rt) (ix : Nat) (v : Value) (w : World) : Prop :=
  match ix with
  | ix => v = ES8 b8 b9 b10 b11 b12 ra rb rc sbc xs pab pac z u na ix
theorem SS8_up (b8 b9 b10 b11 b12 : Nat) (ra rb rc sbc xs pab pac z u na : Rt) (ix : Nat) (v : Value) (w w' : World) (hb : Below w.heap.size w w') (h : SS8 b8 b9 b10 b11 b12 ra rb rc sbc xs pab pac z u na ix v w) : SS8 b8 b9 b10 b11 b12 ra rb rc sbc xs pab pac z u na ix v w' := by
  exact h

def ES10 (b8 b9 b11 b15 : Nat) (ra rb z : Rt) (qn qu : Bool) (qs qd : ByteArray) : Nat → Value
  | 0 => .bool qu
  | 1 => .agg #[.bool rb.neg, .string (encS rb.num), .string (encS rb.den)]
  | 2 => .agg #[.bool z.neg, .string (encS z.num), .string (encS z.den)]
  | 3 => .bool qu
  | 4 => .bool true
  | 5 => .bool true
  | 6 => .bool qu
  | 7 => .bool (!qu)
  | 8 => .bool (!qu)
  | 9 => (bif qu then .agg #[.bool qn, .string qs, .string qd] else undef)
  | 10 => (bif qu then .agg #[.bool rb.neg, .string (encS rb.num), .string (encS rb.den)] else undef)
  | 11 => (bif qu then .agg #[.bool ra.neg, .string (encS ra.num), .string (encS ra.den)] else undef)
  | 12 => (bif qu then .agg #[.bool ra.neg, .string (encS ra.num), .string (encS ra.den)] else undef)
  | 13 => (bif qu then .bool true else undef)
  | 14 => .bool true
  | 15 => .bool true
  | 16 => .bool true
  | _ => undef
def SS10 (b8 b9 b11 b15 : Nat) (ra rb z : Rt) (qn qu : Bool) (qs qd : ByteArray) (ix : Nat) (v : Value) (w : World) : Prop :=
  match ix with
  | ix => v = ES10 b8 b9 b11 b15 ra rb z qn qu qs qd ix
theorem SS10_up (b8 b9 b11 b15 : Nat) (ra rb z : Rt) (qn qu : Bool) (qs qd : ByteArray) (ix : Nat) (v : Value) (w w' : World) (hb : Below w.heap.size w w') (h : SS10 b8 b9 b11 b15 ra rb z qn qu qs qd ix v w) : SS10 b8 b9 b11 b15 ra rb z qn qu qs qd ix v w' := by
  exact h

def ES11 (b8 b9 b10 : Nat) (ra rb rc nb d sab sabc : Rt) : Nat → Value
  | 0 => .bool true
  | 1 => .bool true
  | 2 => .bool true
  | 3 => .bool true
  | 4 => .bool true
  | 5 => .bool true
  | 6 => .bool true
  | 7 => .bool true
  | 8 => .bool true
  | 9 => .bool true
  | 10 => .bool true
  | 11 => .agg #[.bool ra.neg, .string (encS ra.num), .string (encS ra.den)]
  | 12 => .agg #[.bool rb.neg, .string (encS rb.num), .string (encS rb.den)]
  | 13 => .agg #[.bool d.neg, .string (encS d.num), .string (encS d.den)]
  | 14 => .agg #[.bool ra.neg, .string (encS ra.num), .string (encS ra.den)]
  | 15 => .agg #[.bool rb.neg, .string (encS rb.num), .string (encS rb.den)]
  | 16 => .agg #[.bool nb.neg, .string (encS nb.num), .string (encS nb.den)]
  | 17 => .agg #[.bool d.neg, .string (encS d.num), .string (encS d.den)]
  | 18 => .bool true
  | 19 => .bool true
  | 20 => .bool true
  | 21 => .agg #[.bool ra.neg, .string (encS ra.num), .string (encS ra.den)]
  | 22 => .agg #[.bool rb.neg, .string (encS rb.num), .string (encS rb.den)]
  | 23 => .agg #[.bool rc.neg, .string (encS rc.num), .string (encS rc.den)]
  | 25 => .agg #[.bool sabc.neg, .string (encS sabc.num), .string (encS sabc.den)]
  | 26 => .agg #[.bool ra.neg, .string (encS ra.num), .string (encS ra.den)]
  | 27 => .agg #[.bool rb.neg, .string (encS rb.num), .string (encS rb.den)]
  | 28 => .agg #[.bool sab.neg, .string (encS sab.num), .string (encS sab.den)]
  | 29 => .agg #[.bool rc.neg, .string (encS rc.num), .string (encS rc.den)]
  | 30 => .agg #[.bool sabc.neg, .string (encS sabc.num), .string (encS sabc.den)]
  | 31 => .bool true
  | 32 => .bool true
  | 33 => .bool true
  | _ => undef
def SS11 (b8 b9 b10 : Nat) (ra rb rc nb d sab sabc : Rt) (ix : Nat) (v : Value) (w : World) : Prop :=
  match ix with
  | 24 => LstR w v [rawR ra, rawR rb, rawR rc]
  | ix => v = ES11 b8 b9 b10 ra rb rc nb d sab sabc ix
theorem SS11_up (b8 b9 b10 : Nat) (ra rb rc nb d sab sabc : Rt) (ix : Nat) (v : Value) (w w' : World) (hb : Below w.heap.size w w') (h : SS11 b8 b9 b10 ra rb rc nb d sab sabc ix v w) : SS11 b8 b9 b10 ra rb rc nb d sab sabc ix v w' := by
  unfold SS11 at h ⊢
  split at h
  · exact LstR.up h hb
  · exact h
set_option maxHeartbeats 4000000 in
set_option maxRecDepth 100000 in
theorem walk (x0 x1 x2 y0 y1 y2 z0 z1 z2 : Int) (wq : World) (rx0 : inJ x0) (rx1 : inJ x1) (rx2 : inJ x2) (ry0 : inJ y0) (ry1 : inJ y1) (ry2 : inJ y2) (rz0 : inJ z0) (rz1 : inJ z1) (rz2 : inJ z2) (htab : Lib.TabIs Tryz.prog wq "internal/strconv.uint64pow10" .u64 Lib.pow10Tab) (m0 : Int) (hm : wq.cell? ⟨0, 0, none⟩ = some (.int .i64 m0)) :
    Calls Tryz.prog 6 #[.agg #[.int .i64 x0, .int .i64 x1, .int .i64 x2], .agg #[.int .i64 y0, .int .i64 y1, .int .i64 y2], .agg #[.int .i64 z0, .int .i64 z1, .int .i64 z2]] wq fun e w' => e = .returned (.bool true) ∧ Below wq.heap.size wq w' := by
  have HB := Lib.hid (Below.refl wq.heap.size wq)
  have HT := Lib.hid (Lib.tabBelow_of_tabIs htab)
  have HM := Lib.hid (fun W h => cell_zero (W := W) hm h)
  have HSAN := Lib.hid (fun W (h : Below wq.heap.size wq W) => sanity_any W (HT.out.on h).here m0 (cell_zero (W := W) hm h))
  have HMra : Hid (∀ w, Calls Tryz.prog 18 #[.agg #[.int .i64 x0, .int .i64 x1, .int .i64 x2]] w fun e w' => ∃ m : Rt, e = .returned (.agg #[.bool m.neg, .string (encS m.num), .string (encS m.den)]) ∧ m.Ok ∧ Rz m 32 ∧ Below w.heap.size w w') := Lib.hid fun w => Made_r x0 x1 x2 w rx0 rx1 rx2
  have HMrb : Hid (∀ w, Calls Tryz.prog 18 #[.agg #[.int .i64 y0, .int .i64 y1, .int .i64 y2]] w fun e w' => ∃ m : Rt, e = .returned (.agg #[.bool m.neg, .string (encS m.num), .string (encS m.den)]) ∧ m.Ok ∧ Rz m 32 ∧ Below w.heap.size w w') := Lib.hid fun w => Made_r y0 y1 y2 w ry0 ry1 ry2
  have HMrc : Hid (∀ w, Calls Tryz.prog 18 #[.agg #[.int .i64 z0, .int .i64 z1, .int .i64 z2]] w fun e w' => ∃ m : Rt, e = .returned (.agg #[.bool m.neg, .string (encS m.num), .string (encS m.den)]) ∧ m.Ok ∧ Rz m 32 ∧ Below w.heap.size w w') := Lib.hid fun w => Made_r z0 z1 z2 w rz0 rz1 rz2
  clear htab hm rx0 rx1 rx2 ry0 ry1 ry2 rz0 rz1 rz2
  obtain ⟨W0, hW0, h0, h1, h2, hbb⟩ := boxes3 wq (.cells #[.int .i64 x0, .int .i64 x1, .int .i64 x2] 34) (.cells #[.int .i64 y0, .int .i64 y1, .int .i64 y2] 34) (.cells #[.int .i64 z0, .int .i64 z1, .int .i64 z2] 34)
  have HI0 := Lib.hid h0
  have HI1 := Lib.hid h1
  have HI2 := Lib.hid h2
  have HB := Lib.hid hbb
  clear hbb h0 h1 h2
  go_enter Tryz.func6, Tryz.ntmps6
  go_wp2_with fail
  clear hW0
  obtain ⟨bi2, hbi2⟩ : ∃ b, wq.heap.size + 1 + 1 = b := ⟨_, rfl⟩
  rw [hbi2] at HI2 ⊢; clear hbi2
  obtain ⟨bi1, hbi1⟩ : ∃ b, wq.heap.size + 1 = b := ⟨_, rfl⟩
  rw [hbi1] at HI1 ⊢; clear hbi1
  obtain ⟨bi0, hbi0⟩ : ∃ b, wq.heap.size = b := ⟨_, rfl⟩
  rw [hbi0] at HI0 ⊢; clear hbi0
  refine (HSAN.out _ HB.out).mono ?_
  rintro e w1 ⟨rfl, hb⟩
  have HI0 := Lib.hid (heap_up hb HI0.out)
  have HI1 := Lib.hid (heap_up hb HI1.out)
  have HI2 := Lib.hid (heap_up hb HI2.out)
  have HB := Lib.hid (HB.out.trans (hb.mono HB.out.size))
  clear hb
  obtain ⟨⟨k1a, k1b, k1c⟩, -⟩ := row_cells HI0.out
  go_wp2_with fail
  clear k1a k1b k1c
  refine (HMra.out _).mono ?_
  rintro e w2 ⟨ra, rfl, o_ra, z_ra, hb⟩
  have HI0 := Lib.hid (heap_up hb HI0.out)
  have HI1 := Lib.hid (heap_up hb HI1.out)
  have HI2 := Lib.hid (heap_up hb HI2.out)
  have HB := Lib.hid (HB.out.trans (hb.mono HB.out.size))
  have Ora := Lib.hid o_ra; have Zra := Lib.hid z_ra; clear o_ra z_ra
  clear hb
  have HX8 := Lib.hid (heap_alloc_new w2 (.cells #[.bool ra.neg, .string (encS ra.num), .string (encS ra.den)] 26))
  have HB := Lib.hid (HB.out.alloc HB.out.size (.cells #[.bool ra.neg, .string (encS ra.num), .string (encS ra.den)] 26))
  have HI0 := Lib.hid (heap_up ((Below.refl _ w2).alloc (Nat.le_refl _) (.cells #[.bool ra.neg, .string (encS ra.num), .string (encS ra.den)] 26)) HI0.out)
  have HI1 := Lib.hid (heap_up ((Below.refl _ w2).alloc (Nat.le_refl _) (.cells #[.bool ra.neg, .string (encS ra.num), .string (encS ra.den)] 26)) HI1.out)
  have HI2 := Lib.hid (heap_up ((Below.refl _ w2).alloc (Nat.le_refl _) (.cells #[.bool ra.neg, .string (encS ra.num), .string (encS ra.den)] 26)) HI2.out)
  obtain ⟨W3, hW3⟩ : ∃ W, w2.alloc (.cells #[.bool ra.neg, .string (encS ra.num), .string (encS ra.den)] 26) = W := ⟨_, rfl⟩
  rw [hW3] at HI0 HI1 HI2 HX8 HB
  obtain ⟨⟨k2a, k2b, k2c⟩, -⟩ := row_cells HI1.out
  go_wp2_with fail
  clear hW3
  obtain ⟨b8, hbb⟩ : ∃ b, w2.heap.size = b := ⟨_, rfl⟩
  rw [hbb] at HX8
  try rw [hbb]
  clear hbb
  clear k2a k2b k2c
  refine (HMrb.out _).mono ?_
  rintro e w4 ⟨rb, rfl, o_rb, z_rb, hb⟩
  have HI0 := Lib.hid (heap_up hb HI0.out)
  have HI1 := Lib.hid (heap_up hb HI1.out)
  have HI2 := Lib.hid (heap_up hb HI2.out)
  have HX8 := Lib.hid (heap_up hb HX8.out)
  have HB := Lib.hid (HB.out.trans (hb.mono HB.out.size))
  have Orb := Lib.hid o_rb; have Zrb := Lib.hid z_rb; clear o_rb z_rb
  clear hb
  have HX9 := Lib.hid (heap_alloc_new w4 (.cells #[.bool rb.neg, .string (encS rb.num), .string (encS rb.den)] 26))
  have HB := Lib.hid (HB.out.alloc HB.out.size (.cells #[.bool rb.neg, .string (encS rb.num), .string (encS rb.den)] 26))
  have HI0 := Lib.hid (heap_up ((Below.refl _ w4).alloc (Nat.le_refl _) (.cells #[.bool rb.neg, .string (encS rb.num), .string (encS rb.den)] 26)) HI0.out)
  have HI1 := Lib.hid (heap_up ((Below.refl _ w4).alloc (Nat.le_refl _) (.cells #[.bool rb.neg, .string (encS rb.num), .string (encS rb.den)] 26)) HI1.out)
  have HI2 := Lib.hid (heap_up ((Below.refl _ w4).alloc (Nat.le_refl _) (.cells #[.bool rb.neg, .string (encS rb.num), .string (encS rb.den)] 26)) HI2.out)
  have HX8 := Lib.hid (heap_up ((Below.refl _ w4).alloc (Nat.le_refl _) (.cells #[.bool rb.neg, .string (encS rb.num), .string (encS rb.den)] 26)) HX8.out)
  obtain ⟨W5, hW5⟩ : ∃ W, w4.alloc (.cells #[.bool rb.neg, .string (encS rb.num), .string (encS rb.den)] 26) = W := ⟨_, rfl⟩
  rw [hW5] at HI0 HI1 HI2 HX8 HX9 HB
  obtain ⟨⟨k3a, k3b, k3c⟩, -⟩ := row_cells HI2.out
  go_wp2_with fail
  clear hW5
  obtain ⟨b9, hbb⟩ : ∃ b, w4.heap.size = b := ⟨_, rfl⟩
  rw [hbb] at HX9
  try rw [hbb]
  clear hbb
  clear k3a k3b k3c
  refine (HMrc.out _).mono ?_
  rintro e w6 ⟨rc, rfl, o_rc, z_rc, hb⟩
  have HI0 := Lib.hid (heap_up hb HI0.out)
  have HI1 := Lib.hid (heap_up hb HI1.out)
  have HI2 := Lib.hid (heap_up hb HI2.out)
  have HX8 := Lib.hid (heap_up hb HX8.out)
  have HX9 := Lib.hid (heap_up hb HX9.out)
  have HB := Lib.hid (HB.out.trans (hb.mono HB.out.size))
  have Orc := Lib.hid o_rc; have Zrc := Lib.hid z_rc; clear o_rc z_rc
  clear hb
  have o_ra := Ora.out; have z_ra := Zra.out
  have o_rb := Orb.out; have z_rb := Zrb.out
  have o_rc := Orc.out; have z_rc := Zrc.out
  obtain ⟨z, h_z⟩ : ∃ t, zeroR = t := ⟨_, rfl⟩
  have o_z : z.Ok := by rw [← h_z]; exact zeroR_ok
  have z_z : Rz z 1 := by rw [← h_z]; exact zeroR_sz
  obtain ⟨u, h_u⟩ : ∃ t, ofR 1 = t := ⟨_, rfl⟩
  have o_u : u.Ok := by rw [← h_u]; exact ofR_ok 1
  have z_u : Rz u 8 := by rw [← h_u]; exact ofR_sz (by decide) (by decide)
  have C1 : Hid (∀ w, Calls Tryz.prog 15 #[.int .i64 0] w fun e w' => e = .returned (.agg #[.bool z.neg, .string (encS z.num), .string (encS z.den)]) ∧ Below w.heap.size w w') := Lib.hid fun w => by
    have h := (fun w => RatOf_any 0 w (by decide) (by decide)) w
    rw [ofR_zero, h_z] at h
    exact h
  have C2 : Hid (∀ w, Calls Tryz.prog 15 #[.int .i64 1] w fun e w' => e = .returned (.agg #[.bool u.neg, .string (encS u.num), .string (encS u.den)]) ∧ Below w.heap.size w w') := Lib.hid fun w => by
    have h := (fun w => RatOf_any 1 w (by decide) (by decide)) w
    rw [h_u] at h
    exact h
  obtain ⟨sab, h_sab⟩ : ∃ t, addR ra rb = t := ⟨_, rfl⟩
  have o_sab : sab.Ok := by rw [← h_sab]; exact addR_ok o_ra o_rb
  have z_sab : Rz sab 65 := by rw [← h_sab]; exact addR_sz z_ra z_rb
  obtain ⟨pab, h_pab⟩ : ∃ t, mulR ra rb = t := ⟨_, rfl⟩
  have o_pab : pab.Ok := by rw [← h_pab]; exact mulR_ok o_ra o_rb
  have z_pab : Rz pab 64 := by rw [← h_pab]; exact mulR_sz z_ra z_rb
  obtain ⟨sabc, h_sabc⟩ : ∃ t, addR sab rc = t := ⟨_, rfl⟩
  have o_sabc : sabc.Ok := by rw [← h_sabc]; exact addR_ok o_sab o_rc
  have z_sabc : Rz sabc 98 := by rw [← h_sabc]; exact addR_sz z_sab z_rc
  obtain ⟨sbc, h_sbc⟩ : ∃ t, addR rb rc = t := ⟨_, rfl⟩
  have o_sbc : sbc.Ok := by rw [← h_sbc]; exact addR_ok o_rb o_rc
  have z_sbc : Rz sbc 65 := by rw [← h_sbc]; exact addR_sz z_rb z_rc
  obtain ⟨pabc, h_pabc⟩ : ∃ t, mulR pab rc = t := ⟨_, rfl⟩
  have o_pabc : pabc.Ok := by rw [← h_pabc]; exact mulR_ok o_pab o_rc
  have z_pabc : Rz pabc 96 := by rw [← h_pabc]; exact mulR_sz z_pab z_rc
  obtain ⟨pbc, h_pbc⟩ : ∃ t, mulR rb rc = t := ⟨_, rfl⟩
  have o_pbc : pbc.Ok := by rw [← h_pbc]; exact mulR_ok o_rb o_rc
  have z_pbc : Rz pbc 64 := by rw [← h_pbc]; exact mulR_sz z_rb z_rc
  obtain ⟨xs, h_xs⟩ : ∃ t, mulR ra sbc = t := ⟨_, rfl⟩
  have o_xs : xs.Ok := by rw [← h_xs]; exact mulR_ok o_ra o_sbc
  have z_xs : Rz xs 97 := by rw [← h_xs]; exact mulR_sz z_ra z_sbc
  obtain ⟨pac, h_pac⟩ : ∃ t, mulR ra rc = t := ⟨_, rfl⟩
  have o_pac : pac.Ok := by rw [← h_pac]; exact mulR_ok o_ra o_rc
  have z_pac : Rz pac 64 := by rw [← h_pac]; exact mulR_sz z_ra z_rc
  obtain ⟨na, h_na⟩ : ∃ t, negR ra = t := ⟨_, rfl⟩
  have o_na : na.Ok := by rw [← h_na]; exact negR_ok o_ra
  have z_na : Rz na 32 := by rw [← h_na]; exact negR_sz z_ra
  obtain ⟨nb, h_nb⟩ : ∃ t, negR rb = t := ⟨_, rfl⟩
  have o_nb : nb.Ok := by rw [← h_nb]; exact negR_ok o_rb
  have z_nb : Rz nb 32 := by rw [← h_nb]; exact negR_sz z_rb
  obtain ⟨d, h_d⟩ : ∃ t, subR ra rb = t := ⟨_, rfl⟩
  have o_d : d.Ok := by rw [← h_d]; exact subR_ok o_ra o_rb
  have z_d : Rz d 65 := by rw [← h_d]; exact subR_sz z_ra z_rb
  have C3 : Hid (∀ w, Calls Tryz.prog 27 #[.agg #[.bool ra.neg, .string (encS ra.num), .string (encS ra.den)], .agg #[.bool rb.neg, .string (encS rb.num), .string (encS rb.den)]] w fun e w' => e = .returned (.agg #[.bool sab.neg, .string (encS sab.num), .string (encS sab.den)]) ∧ Below w.heap.size w w') := Lib.hid fun w => by
    have h := RatAdd_r (IsR.of o_ra (z_ra.mono (show 32 ≤ 1000 from by decide))) (IsR.of o_rb (z_rb.mono (show 32 ≤ 1000 from by decide))) (by decide) (by decide) w
    rw [show addR ra rb = sab from by rw [h_sab]] at h
    exact h
  have C4 : Hid (∀ w, Calls Tryz.prog 27 #[.agg #[.bool rb.neg, .string (encS rb.num), .string (encS rb.den)], .agg #[.bool ra.neg, .string (encS ra.num), .string (encS ra.den)]] w fun e w' => e = .returned (.agg #[.bool sab.neg, .string (encS sab.num), .string (encS sab.den)]) ∧ Below w.heap.size w w') := Lib.hid fun w => by
    have h := RatAdd_r (IsR.of o_rb (z_rb.mono (show 32 ≤ 1000 from by decide))) (IsR.of o_ra (z_ra.mono (show 32 ≤ 1000 from by decide))) (by decide) (by decide) w
    rw [show addR rb ra = sab from by rw [addR_comm o_rb o_ra, h_sab]] at h
    exact h
  have C5 : Hid (∀ w, Calls Tryz.prog 29 #[.agg #[.bool ra.neg, .string (encS ra.num), .string (encS ra.den)], .agg #[.bool rb.neg, .string (encS rb.num), .string (encS rb.den)]] w fun e w' => e = .returned (.agg #[.bool pab.neg, .string (encS pab.num), .string (encS pab.den)]) ∧ Below w.heap.size w w') := Lib.hid fun w => by
    have h := RatMul_r (IsR.of o_ra (z_ra.mono (show 32 ≤ 1000 from by decide))) (IsR.of o_rb (z_rb.mono (show 32 ≤ 1000 from by decide))) (by decide) (by decide) w
    rw [show mulR ra rb = pab from by rw [h_pab]] at h
    exact h
  have C6 : Hid (∀ w, Calls Tryz.prog 29 #[.agg #[.bool rb.neg, .string (encS rb.num), .string (encS rb.den)], .agg #[.bool ra.neg, .string (encS ra.num), .string (encS ra.den)]] w fun e w' => e = .returned (.agg #[.bool pab.neg, .string (encS pab.num), .string (encS pab.den)]) ∧ Below w.heap.size w w') := Lib.hid fun w => by
    have h := RatMul_r (IsR.of o_rb (z_rb.mono (show 32 ≤ 1000 from by decide))) (IsR.of o_ra (z_ra.mono (show 32 ≤ 1000 from by decide))) (by decide) (by decide) w
    rw [show mulR rb ra = pab from by rw [mulR_comm o_rb o_ra, h_pab]] at h
    exact h
  have C7 : Hid (∀ w, Calls Tryz.prog 27 #[.agg #[.bool sab.neg, .string (encS sab.num), .string (encS sab.den)], .agg #[.bool rc.neg, .string (encS rc.num), .string (encS rc.den)]] w fun e w' => e = .returned (.agg #[.bool sabc.neg, .string (encS sabc.num), .string (encS sabc.den)]) ∧ Below w.heap.size w w') := Lib.hid fun w => by
    have h := RatAdd_r (IsR.of o_sab (z_sab.mono (show 65 ≤ 1000 from by decide))) (IsR.of o_rc (z_rc.mono (show 32 ≤ 1000 from by decide))) (by decide) (by decide) w
    rw [show addR sab rc = sabc from by rw [h_sabc]] at h
    exact h
  have C8 : Hid (∀ w, Calls Tryz.prog 27 #[.agg #[.bool rb.neg, .string (encS rb.num), .string (encS rb.den)], .agg #[.bool rc.neg, .string (encS rc.num), .string (encS rc.den)]] w fun e w' => e = .returned (.agg #[.bool sbc.neg, .string (encS sbc.num), .string (encS sbc.den)]) ∧ Below w.heap.size w w') := Lib.hid fun w => by
    have h := RatAdd_r (IsR.of o_rb (z_rb.mono (show 32 ≤ 1000 from by decide))) (IsR.of o_rc (z_rc.mono (show 32 ≤ 1000 from by decide))) (by decide) (by decide) w
    rw [show addR rb rc = sbc from by rw [h_sbc]] at h
    exact h
  have C9 : Hid (∀ w, Calls Tryz.prog 27 #[.agg #[.bool ra.neg, .string (encS ra.num), .string (encS ra.den)], .agg #[.bool sbc.neg, .string (encS sbc.num), .string (encS sbc.den)]] w fun e w' => e = .returned (.agg #[.bool sabc.neg, .string (encS sabc.num), .string (encS sabc.den)]) ∧ Below w.heap.size w w') := Lib.hid fun w => by
    have h := RatAdd_r (IsR.of o_ra (z_ra.mono (show 32 ≤ 1000 from by decide))) (IsR.of o_sbc (z_sbc.mono (show 65 ≤ 1000 from by decide))) (by decide) (by decide) w
    rw [show addR ra sbc = sabc from by rw [← h_sbc, ← addR_assoc o_ra o_rb o_rc, h_sab, h_sabc]] at h
    exact h
  have C10 : Hid (∀ w, Calls Tryz.prog 29 #[.agg #[.bool pab.neg, .string (encS pab.num), .string (encS pab.den)], .agg #[.bool rc.neg, .string (encS rc.num), .string (encS rc.den)]] w fun e w' => e = .returned (.agg #[.bool pabc.neg, .string (encS pabc.num), .string (encS pabc.den)]) ∧ Below w.heap.size w w') := Lib.hid fun w => by
    have h := RatMul_r (IsR.of o_pab (z_pab.mono (show 64 ≤ 1000 from by decide))) (IsR.of o_rc (z_rc.mono (show 32 ≤ 1000 from by decide))) (by decide) (by decide) w
    rw [show mulR pab rc = pabc from by rw [h_pabc]] at h
    exact h
  have C11 : Hid (∀ w, Calls Tryz.prog 29 #[.agg #[.bool rb.neg, .string (encS rb.num), .string (encS rb.den)], .agg #[.bool rc.neg, .string (encS rc.num), .string (encS rc.den)]] w fun e w' => e = .returned (.agg #[.bool pbc.neg, .string (encS pbc.num), .string (encS pbc.den)]) ∧ Below w.heap.size w w') := Lib.hid fun w => by
    have h := RatMul_r (IsR.of o_rb (z_rb.mono (show 32 ≤ 1000 from by decide))) (IsR.of o_rc (z_rc.mono (show 32 ≤ 1000 from by decide))) (by decide) (by decide) w
    rw [show mulR rb rc = pbc from by rw [h_pbc]] at h
    exact h
  have C12 : Hid (∀ w, Calls Tryz.prog 29 #[.agg #[.bool ra.neg, .string (encS ra.num), .string (encS ra.den)], .agg #[.bool pbc.neg, .string (encS pbc.num), .string (encS pbc.den)]] w fun e w' => e = .returned (.agg #[.bool pabc.neg, .string (encS pabc.num), .string (encS pabc.den)]) ∧ Below w.heap.size w w') := Lib.hid fun w => by
    have h := RatMul_r (IsR.of o_ra (z_ra.mono (show 32 ≤ 1000 from by decide))) (IsR.of o_pbc (z_pbc.mono (show 64 ≤ 1000 from by decide))) (by decide) (by decide) w
    rw [show mulR ra pbc = pabc from by rw [← h_pbc, ← mulR_assoc o_ra o_rb o_rc, h_pab, h_pabc]] at h
    exact h
  have C13 : Hid (∀ w, Calls Tryz.prog 29 #[.agg #[.bool ra.neg, .string (encS ra.num), .string (encS ra.den)], .agg #[.bool sbc.neg, .string (encS sbc.num), .string (encS sbc.den)]] w fun e w' => e = .returned (.agg #[.bool xs.neg, .string (encS xs.num), .string (encS xs.den)]) ∧ Below w.heap.size w w') := Lib.hid fun w => by
    have h := RatMul_r (IsR.of o_ra (z_ra.mono (show 32 ≤ 1000 from by decide))) (IsR.of o_sbc (z_sbc.mono (show 65 ≤ 1000 from by decide))) (by decide) (by decide) w
    rw [show mulR ra sbc = xs from by rw [h_xs]] at h
    exact h
  have C14 : Hid (∀ w, Calls Tryz.prog 29 #[.agg #[.bool ra.neg, .string (encS ra.num), .string (encS ra.den)], .agg #[.bool rc.neg, .string (encS rc.num), .string (encS rc.den)]] w fun e w' => e = .returned (.agg #[.bool pac.neg, .string (encS pac.num), .string (encS pac.den)]) ∧ Below w.heap.size w w') := Lib.hid fun w => by
    have h := RatMul_r (IsR.of o_ra (z_ra.mono (show 32 ≤ 1000 from by decide))) (IsR.of o_rc (z_rc.mono (show 32 ≤ 1000 from by decide))) (by decide) (by decide) w
    rw [show mulR ra rc = pac from by rw [h_pac]] at h
    exact h
  have C15 : Hid (∀ w, Calls Tryz.prog 27 #[.agg #[.bool pab.neg, .string (encS pab.num), .string (encS pab.den)], .agg #[.bool pac.neg, .string (encS pac.num), .string (encS pac.den)]] w fun e w' => e = .returned (.agg #[.bool xs.neg, .string (encS xs.num), .string (encS xs.den)]) ∧ Below w.heap.size w w') := Lib.hid fun w => by
    have h := RatAdd_r (IsR.of o_pab (z_pab.mono (show 64 ≤ 1000 from by decide))) (IsR.of o_pac (z_pac.mono (show 64 ≤ 1000 from by decide))) (by decide) (by decide) w
    rw [show addR pab pac = xs from by rw [← h_pab, ← h_pac, ← mulR_addR o_ra o_rb o_rc, h_sbc, h_xs]] at h
    exact h
  have C16 : Hid (∀ w, Calls Tryz.prog 27 #[.agg #[.bool ra.neg, .string (encS ra.num), .string (encS ra.den)], .agg #[.bool z.neg, .string (encS z.num), .string (encS z.den)]] w fun e w' => e = .returned (.agg #[.bool ra.neg, .string (encS ra.num), .string (encS ra.den)]) ∧ Below w.heap.size w w') := Lib.hid fun w => by
    have h := RatAdd_r (IsR.of o_ra (z_ra.mono (show 32 ≤ 1000 from by decide))) (IsR.of o_z (z_z.mono (show 1 ≤ 1000 from by decide))) (by decide) (by decide) w
    rw [show addR ra z = ra from by rw [← h_z, addR_zero o_ra]] at h
    exact h
  have C17 : Hid (∀ w, Calls Tryz.prog 29 #[.agg #[.bool ra.neg, .string (encS ra.num), .string (encS ra.den)], .agg #[.bool u.neg, .string (encS u.num), .string (encS u.den)]] w fun e w' => e = .returned (.agg #[.bool ra.neg, .string (encS ra.num), .string (encS ra.den)]) ∧ Below w.heap.size w w') := Lib.hid fun w => by
    have h := RatMul_r (IsR.of o_ra (z_ra.mono (show 32 ≤ 1000 from by decide))) (IsR.of o_u (z_u.mono (show 8 ≤ 1000 from by decide))) (by decide) (by decide) w
    rw [show mulR ra u = ra from by rw [← h_u, mulR_one o_ra]] at h
    exact h
  have C18 : Hid (∀ w, Calls Tryz.prog 30 #[.agg #[.bool ra.neg, .string (encS ra.num), .string (encS ra.den)]] w fun e w' => e = .returned (.agg #[.bool na.neg, .string (encS na.num), .string (encS na.den)]) ∧ Below w.heap.size w w') := Lib.hid fun w => by
    have h := RatNeg_r (IsR.of o_ra (z_ra.mono (show 32 ≤ 1000 from by decide))) (by decide) w
    rw [h_na] at h
    exact h
  have C19 : Hid (∀ w, Calls Tryz.prog 30 #[.agg #[.bool rb.neg, .string (encS rb.num), .string (encS rb.den)]] w fun e w' => e = .returned (.agg #[.bool nb.neg, .string (encS nb.num), .string (encS nb.den)]) ∧ Below w.heap.size w w') := Lib.hid fun w => by
    have h := RatNeg_r (IsR.of o_rb (z_rb.mono (show 32 ≤ 1000 from by decide))) (by decide) w
    rw [h_nb] at h
    exact h
  have C20 : Hid (∀ w, Calls Tryz.prog 27 #[.agg #[.bool ra.neg, .string (encS ra.num), .string (encS ra.den)], .agg #[.bool na.neg, .string (encS na.num), .string (encS na.den)]] w fun e w' => e = .returned (.agg #[.bool z.neg, .string (encS z.num), .string (encS z.den)]) ∧ Below w.heap.size w w') := Lib.hid fun w => by
    have h := RatAdd_r (IsR.of o_ra (z_ra.mono (show 32 ≤ 1000 from by decide))) (IsR.of o_na (z_na.mono (show 32 ≤ 1000 from by decide))) (by decide) (by decide) w
    rw [show addR ra na = z from by rw [← h_na, addR_negR o_ra, h_z]] at h
    exact h
  have C21 : Hid (∀ w, Calls Tryz.prog 32 #[.agg #[.bool ra.neg, .string (encS ra.num), .string (encS ra.den)], .agg #[.bool rb.neg, .string (encS rb.num), .string (encS rb.den)]] w fun e w' => e = .returned (.agg #[.bool d.neg, .string (encS d.num), .string (encS d.den)]) ∧ Below w.heap.size w w') := Lib.hid fun w => by
    have h := RatSub_r (IsR.of o_ra (z_ra.mono (show 32 ≤ 1000 from by decide))) (IsR.of o_rb (z_rb.mono (show 32 ≤ 1000 from by decide))) (by decide) (by decide) w
    rw [show subR ra rb = d from by rw [h_d]] at h
    exact h
  have C22 : Hid (∀ w, Calls Tryz.prog 27 #[.agg #[.bool ra.neg, .string (encS ra.num), .string (encS ra.den)], .agg #[.bool nb.neg, .string (encS nb.num), .string (encS nb.den)]] w fun e w' => e = .returned (.agg #[.bool d.neg, .string (encS d.num), .string (encS d.den)]) ∧ Below w.heap.size w w') := Lib.hid fun w => by
    have h := RatAdd_r (IsR.of o_ra (z_ra.mono (show 32 ≤ 1000 from by decide))) (IsR.of o_nb (z_nb.mono (show 32 ≤ 1000 from by decide))) (by decide) (by decide) w
    rw [show addR ra nb = d from by rw [← h_nb, show addR ra (negR rb) = subR ra rb from rfl, h_d]] at h
    exact h
  obtain ⟨qn, qs, qd, qu, h_q⟩ : ∃ n s d u, quoV ra rb = .tuple #[.agg #[.bool n, .string s, .string d], .bool u] := by unfold quoV; split <;> exact ⟨_, _, _, _, rfl⟩
  have C23 : Hid (∀ w, Calls Tryz.prog 31 #[.agg #[.bool ra.neg, .string (encS ra.num), .string (encS ra.den)], .agg #[.bool rb.neg, .string (encS rb.num), .string (encS rb.den)]] w fun e w' => e = .returned (.tuple #[.agg #[.bool qn, .string qs, .string qd], .bool qu]) ∧ Below w.heap.size w w') := Lib.hid fun w => by
    have h := RatQuo_r (IsR.of o_ra (z_ra.mono (show 32 ≤ 1000 from by decide))) (IsR.of o_rb (z_rb.mono (show 32 ≤ 1000 from by decide))) (by decide) (by decide) w
    rw [h_q] at h
    exact h
  have hqp := quo_parts o_ra o_rb h_q
  have HNE : Hid (eqR rb z = !qu) := Lib.hid (by rw [hqp.1, h_z, Bool.not_not])
  have HQM : Hid (qu = true → ∀ w, Calls Tryz.prog 29 #[.agg #[.bool qn, .string qs, .string qd], .agg #[.bool rb.neg, .string (encS rb.num), .string (encS rb.den)]] w fun e w' => e = .returned (.agg #[.bool ra.neg, .string (encS ra.num), .string (encS ra.den)]) ∧ Below w.heap.size w w') := Lib.hid fun hq w => by
    obtain ⟨h1, h2, h3, h4⟩ := hqp.2 hq
    have h := RatMul_r (IsR.of (quoR_ok o_ra (show 0 < rb.num by omega)) ((quoR_sz z_ra z_rb).mono (show 64 ≤ 1000 from by decide))) (IsR.of o_rb (z_rb.mono (show 32 ≤ 1000 from by decide))) (by decide) (by decide) w
    rw [quoR_mulR o_ra o_rb h4] at h
    rw [h1, h2, h3]; exact h
  clear hqp h_q
  have HSUM : Hid (∀ w v, LstR w v [rawR ra, rawR rb, rawR rc] → Calls Tryz.prog 28 #[v] w fun e w' => e = .returned (.agg #[.bool sabc.neg, .string (encS sabc.num), .string (encS sabc.den)]) ∧ Below w.heap.size w w') := Lib.hid fun w v hv => by
    have h := Sum_any _ v w hv (by simp) (szl3 z_ra z_rb z_rc (by decide))
    rw [sum3 o_ra o_rb o_rc, h_sab, h_sabc] at h; exact h
  clear o_ra z_ra o_rb z_rb o_rc z_rc o_z z_z h_z o_u z_u h_u o_sab z_sab h_sab o_pab z_pab h_pab o_sabc z_sabc h_sabc o_sbc z_sbc h_sbc o_pabc z_pabc h_pabc o_pbc z_pbc h_pbc o_xs z_xs h_xs o_pac z_pac h_pac o_na z_na h_na o_nb z_nb h_nb o_d z_d h_d
  have HX10 := Lib.hid (heap_alloc_new w6 (.cells #[.bool rc.neg, .string (encS rc.num), .string (encS rc.den)] 26))
  have HB := Lib.hid (HB.out.alloc HB.out.size (.cells #[.bool rc.neg, .string (encS rc.num), .string (encS rc.den)] 26))
  have HI0 := Lib.hid (heap_up ((Below.refl _ w6).alloc (Nat.le_refl _) (.cells #[.bool rc.neg, .string (encS rc.num), .string (encS rc.den)] 26)) HI0.out)
  have HI1 := Lib.hid (heap_up ((Below.refl _ w6).alloc (Nat.le_refl _) (.cells #[.bool rc.neg, .string (encS rc.num), .string (encS rc.den)] 26)) HI1.out)
  have HI2 := Lib.hid (heap_up ((Below.refl _ w6).alloc (Nat.le_refl _) (.cells #[.bool rc.neg, .string (encS rc.num), .string (encS rc.den)] 26)) HI2.out)
  have HX8 := Lib.hid (heap_up ((Below.refl _ w6).alloc (Nat.le_refl _) (.cells #[.bool rc.neg, .string (encS rc.num), .string (encS rc.den)] 26)) HX8.out)
  have HX9 := Lib.hid (heap_up ((Below.refl _ w6).alloc (Nat.le_refl _) (.cells #[.bool rc.neg, .string (encS rc.num), .string (encS rc.den)] 26)) HX9.out)
  obtain ⟨W7, hW7⟩ : ∃ W, w6.alloc (.cells #[.bool rc.neg, .string (encS rc.num), .string (encS rc.den)] 26) = W := ⟨_, rfl⟩
  rw [hW7] at HI0 HI1 HI2 HX8 HX9 HX10 HB
  go_wp2_with fail
  clear hW7
  obtain ⟨b10, hbb⟩ : ∃ b, w6.heap.size = b := ⟨_, rfl⟩
  rw [hbb] at HX10
  try rw [hbb]
  clear hbb
  refine (C1.out _).mono ?_
  rintro e w8 ⟨rfl, hb⟩
  have HI0 := Lib.hid (heap_up hb HI0.out)
  have HI1 := Lib.hid (heap_up hb HI1.out)
  have HI2 := Lib.hid (heap_up hb HI2.out)
  have HX8 := Lib.hid (heap_up hb HX8.out)
  have HX9 := Lib.hid (heap_up hb HX9.out)
  have HX10 := Lib.hid (heap_up hb HX10.out)
  have HB := Lib.hid (HB.out.trans (hb.mono HB.out.size))
  clear hb
  have HX11 := Lib.hid (heap_alloc_new w8 (.cells #[.bool z.neg, .string (encS z.num), .string (encS z.den)] 26))
  have HB := Lib.hid (HB.out.alloc HB.out.size (.cells #[.bool z.neg, .string (encS z.num), .string (encS z.den)] 26))
  have HI0 := Lib.hid (heap_up ((Below.refl _ w8).alloc (Nat.le_refl _) (.cells #[.bool z.neg, .string (encS z.num), .string (encS z.den)] 26)) HI0.out)
  have HI1 := Lib.hid (heap_up ((Below.refl _ w8).alloc (Nat.le_refl _) (.cells #[.bool z.neg, .string (encS z.num), .string (encS z.den)] 26)) HI1.out)
  have HI2 := Lib.hid (heap_up ((Below.refl _ w8).alloc (Nat.le_refl _) (.cells #[.bool z.neg, .string (encS z.num), .string (encS z.den)] 26)) HI2.out)
  have HX8 := Lib.hid (heap_up ((Below.refl _ w8).alloc (Nat.le_refl _) (.cells #[.bool z.neg, .string (encS z.num), .string (encS z.den)] 26)) HX8.out)
  have HX9 := Lib.hid (heap_up ((Below.refl _ w8).alloc (Nat.le_refl _) (.cells #[.bool z.neg, .string (encS z.num), .string (encS z.den)] 26)) HX9.out)
  have HX10 := Lib.hid (heap_up ((Below.refl _ w8).alloc (Nat.le_refl _) (.cells #[.bool z.neg, .string (encS z.num), .string (encS z.den)] 26)) HX10.out)
  obtain ⟨W9, hW9⟩ : ∃ W, w8.alloc (.cells #[.bool z.neg, .string (encS z.num), .string (encS z.den)] 26) = W := ⟨_, rfl⟩
  rw [hW9] at HI0 HI1 HI2 HX8 HX9 HX10 HX11 HB
  go_wp2_with fail
  clear hW9
  obtain ⟨b11, hbb⟩ : ∃ b, w8.heap.size = b := ⟨_, rfl⟩
  rw [hbb] at HX11
  try rw [hbb]
  clear hbb
  refine (C2.out _).mono ?_
  rintro e w10 ⟨rfl, hb⟩
  have HI0 := Lib.hid (heap_up hb HI0.out)
  have HI1 := Lib.hid (heap_up hb HI1.out)
  have HI2 := Lib.hid (heap_up hb HI2.out)
  have HX8 := Lib.hid (heap_up hb HX8.out)
  have HX9 := Lib.hid (heap_up hb HX9.out)
  have HX10 := Lib.hid (heap_up hb HX10.out)
  have HX11 := Lib.hid (heap_up hb HX11.out)
  have HB := Lib.hid (HB.out.trans (hb.mono HB.out.size))
  clear hb
  have HX12 := Lib.hid (heap_alloc_new w10 (.cells #[.bool u.neg, .string (encS u.num), .string (encS u.den)] 26))
  have HB := Lib.hid (HB.out.alloc HB.out.size (.cells #[.bool u.neg, .string (encS u.num), .string (encS u.den)] 26))
  have HI0 := Lib.hid (heap_up ((Below.refl _ w10).alloc (Nat.le_refl _) (.cells #[.bool u.neg, .string (encS u.num), .string (encS u.den)] 26)) HI0.out)
  have HI1 := Lib.hid (heap_up ((Below.refl _ w10).alloc (Nat.le_refl _) (.cells #[.bool u.neg, .string (encS u.num), .string (encS u.den)] 26)) HI1.out)
  have HI2 := Lib.hid (heap_up ((Below.refl _ w10).alloc (Nat.le_refl _) (.cells #[.bool u.neg, .string (encS u.num), .string (encS u.den)] 26)) HI2.out)
  have HX8 := Lib.hid (heap_up ((Below.refl _ w10).alloc (Nat.le_refl _) (.cells #[.bool u.neg, .string (encS u.num), .string (encS u.den)] 26)) HX8.out)
  have HX9 := Lib.hid (heap_up ((Below.refl _ w10).alloc (Nat.le_refl _) (.cells #[.bool u.neg, .string (encS u.num), .string (encS u.den)] 26)) HX9.out)
  have HX10 := Lib.hid (heap_up ((Below.refl _ w10).alloc (Nat.le_refl _) (.cells #[.bool u.neg, .string (encS u.num), .string (encS u.den)] 26)) HX10.out)
  have HX11 := Lib.hid (heap_up ((Below.refl _ w10).alloc (Nat.le_refl _) (.cells #[.bool u.neg, .string (encS u.num), .string (encS u.den)] 26)) HX11.out)
  obtain ⟨W11, hW11⟩ : ∃ W, w10.alloc (.cells #[.bool u.neg, .string (encS u.num), .string (encS u.den)] 26) = W := ⟨_, rfl⟩
  rw [hW11] at HI0 HI1 HI2 HX8 HX9 HX10 HX11 HX12 HB
  go_wp2_with fail
  clear hW11
  obtain ⟨b12, hbb⟩ : ∃ b, w10.heap.size = b := ⟨_, rfl⟩
  rw [hbb] at HX12
  try rw [hbb]
  clear hbb
  refine wp_region_vals (w := W11) (by kernel_rfl) (SS7 b8 b9 b10 ra rb rc sab pab sabc sbc pabc pbc) (fun t => (decide (13 ≤ t) && decide (t < 14)) || (decide (27 ≤ t) && decide (t < 69))) (by kernel_rfl) (by kernel_rfl) (by kernel_rfl) (SS7_up b8 b9 b10 ra rb rc sab pab sabc sbc pabc pbc) ?_ ?_
  · intro i hi o listed a w hR K hK
    have ho := hR.at_
    have hi : i < 43 := hi
    have hii : i = 0 ∨ i = 1 ∨ i = 2 ∨ i = 3 ∨ i = 4 ∨ i = 5 ∨ i = 6 ∨ i = 7 ∨ i = 8 ∨ i = 9 ∨ i = 10 ∨ i = 11 ∨ i = 12 ∨ i = 13 ∨ i = 14 ∨ i = 15 ∨ i = 16 ∨ i = 17 ∨ i = 18 ∨ i = 19 ∨ i = 20 ∨ i = 21 ∨ i = 22 ∨ i = 23 ∨ i = 24 ∨ i = 25 ∨ i = 26 ∨ i = 27 ∨ i = 28 ∨ i = 29 ∨ i = 30 ∨ i = 31 ∨ i = 32 ∨ i = 33 ∨ i = 34 ∨ i = 35 ∨ i = 36 ∨ i = 37 ∨ i = 38 ∨ i = 39 ∨ i = 40 ∨ i = 41 ∨ i = 42 := by omega
    rcases hii with rfl | rfl | rfl | rfl | rfl | rfl | rfl | rfl | rfl | rfl | rfl | rfl | rfl | rfl | rfl | rfl | rfl | rfl | rfl | rfl | rfl | rfl | rfl | rfl | rfl | rfl | rfl | rfl | rfl | rfl | rfl | rfl | rfl | rfl | rfl | rfl | rfl | rfl | rfl | rfl | rfl | rfl | rfl
    · simp at ho
      subst ho
      have b8 : a.tmps.getD 8 undef = .pointer (some ⟨b8, 0, none⟩) := hR.base 8 (by kernel_rfl)
      obtain ⟨⟨cx0, cx1, cx2⟩, -⟩ := row_cells (heap_up hR.below HX8.out)
      refine plain_step rfl rfl ?_
      go_simp
      exact hK _ _ (rfl) (Below.refl _ _)
    · simp at ho
      subst ho
      have b9 : a.tmps.getD 9 undef = .pointer (some ⟨b9, 0, none⟩) := hR.base 9 (by kernel_rfl)
      obtain ⟨⟨cx0, cx1, cx2⟩, -⟩ := row_cells (heap_up hR.below HX9.out)
      refine plain_step rfl rfl ?_
      go_simp
      exact hK _ _ (rfl) (Below.refl _ _)
    · simp at ho
      subst ho
      have e0 : a.tmps.getD 27 undef = .agg #[.bool ra.neg, .string (encS ra.num), .string (encS ra.den)] := hR.dep ⟨0, .data⟩ (by simp) rfl
      have e1 : a.tmps.getD 28 undef = .agg #[.bool rb.neg, .string (encS rb.num), .string (encS rb.den)] := hR.dep ⟨1, .data⟩ (by simp) rfl
      refine plain_step rfl rfl ?_
      go_simp
      refine (C3.out w).mono ?_
      rintro e w' ⟨rfl, hb⟩
      exact hK _ _ (rfl) hb
    · simp at ho
      subst ho
      have b9 : a.tmps.getD 9 undef = .pointer (some ⟨b9, 0, none⟩) := hR.base 9 (by kernel_rfl)
      obtain ⟨⟨cx0, cx1, cx2⟩, -⟩ := row_cells (heap_up hR.below HX9.out)
      refine plain_step rfl rfl ?_
      go_simp
      exact hK _ _ (rfl) (Below.refl _ _)
    · simp at ho
      subst ho
      have b8 : a.tmps.getD 8 undef = .pointer (some ⟨b8, 0, none⟩) := hR.base 8 (by kernel_rfl)
      obtain ⟨⟨cx0, cx1, cx2⟩, -⟩ := row_cells (heap_up hR.below HX8.out)
      refine plain_step rfl rfl ?_
      go_simp
      exact hK _ _ (rfl) (Below.refl _ _)
    · simp at ho
      subst ho
      have e3 : a.tmps.getD 30 undef = .agg #[.bool rb.neg, .string (encS rb.num), .string (encS rb.den)] := hR.dep ⟨3, .data⟩ (by simp) rfl
      have e4 : a.tmps.getD 31 undef = .agg #[.bool ra.neg, .string (encS ra.num), .string (encS ra.den)] := hR.dep ⟨4, .data⟩ (by simp) rfl
      refine plain_step rfl rfl ?_
      go_simp
      refine (C4.out w).mono ?_
      rintro e w' ⟨rfl, hb⟩
      exact hK _ _ (rfl) hb
    · simp at ho
      subst ho
      have e2 : a.tmps.getD 29 undef = .agg #[.bool sab.neg, .string (encS sab.num), .string (encS sab.den)] := hR.dep ⟨2, .data⟩ (by simp) rfl
      have e5 : a.tmps.getD 32 undef = .agg #[.bool sab.neg, .string (encS sab.num), .string (encS sab.den)] := hR.dep ⟨5, .data⟩ (by simp) rfl
      refine plain_step rfl rfl ?_
      go_simp
      exact hK _ _ (rfl) (Below.refl _ _)
    · simp at ho
      subst ho
      have e6 : a.tmps.getD 33 undef = .bool true := hR.dep ⟨6, .data⟩ (by simp) rfl
      refine plain_step rfl rfl ?_
      go_simp
      exact hK _ _ (rfl) (Below.refl _ _)
    · simp at ho
      subst ho
      have e7 : a.tmps.getD 34 undef = .bool true := hR.dep ⟨7, .guard⟩ (by simp) rfl
      have b8 : a.tmps.getD 8 undef = .pointer (some ⟨b8, 0, none⟩) := hR.base 8 (by kernel_rfl)
      obtain ⟨⟨cx0, cx1, cx2⟩, -⟩ := row_cells (heap_up hR.below HX8.out)
      refine guard_step rfl rfl rfl (b := true) e7 ?_
      go_simp
      exact hK _ _ (rfl) (Below.refl _ _)
    · simp at ho
      subst ho
      have e7 : a.tmps.getD 34 undef = .bool true := hR.dep ⟨7, .guard⟩ (by simp) rfl
      have b9 : a.tmps.getD 9 undef = .pointer (some ⟨b9, 0, none⟩) := hR.base 9 (by kernel_rfl)
      obtain ⟨⟨cx0, cx1, cx2⟩, -⟩ := row_cells (heap_up hR.below HX9.out)
      refine guard_step rfl rfl rfl (b := true) e7 ?_
      go_simp
      exact hK _ _ (rfl) (Below.refl _ _)
    · simp at ho
      subst ho
      have e8 : a.tmps.getD 35 undef = .agg #[.bool ra.neg, .string (encS ra.num), .string (encS ra.den)] := hR.dep ⟨8, .data⟩ (by simp) rfl
      have e9 : a.tmps.getD 36 undef = .agg #[.bool rb.neg, .string (encS rb.num), .string (encS rb.den)] := hR.dep ⟨9, .data⟩ (by simp) rfl
      have e7 : a.tmps.getD 34 undef = .bool true := hR.dep ⟨7, .guard⟩ (by simp) rfl
      refine guard_step rfl rfl rfl (b := true) e7 ?_
      go_simp
      refine (C5.out w).mono ?_
      rintro e w' ⟨rfl, hb⟩
      exact hK _ _ (rfl) hb
    · simp at ho
      subst ho
      have e7 : a.tmps.getD 34 undef = .bool true := hR.dep ⟨7, .guard⟩ (by simp) rfl
      have b9 : a.tmps.getD 9 undef = .pointer (some ⟨b9, 0, none⟩) := hR.base 9 (by kernel_rfl)
      obtain ⟨⟨cx0, cx1, cx2⟩, -⟩ := row_cells (heap_up hR.below HX9.out)
      refine guard_step rfl rfl rfl (b := true) e7 ?_
      go_simp
      exact hK _ _ (rfl) (Below.refl _ _)
    · simp at ho
      subst ho
      have e7 : a.tmps.getD 34 undef = .bool true := hR.dep ⟨7, .guard⟩ (by simp) rfl
      have b8 : a.tmps.getD 8 undef = .pointer (some ⟨b8, 0, none⟩) := hR.base 8 (by kernel_rfl)
      obtain ⟨⟨cx0, cx1, cx2⟩, -⟩ := row_cells (heap_up hR.below HX8.out)
      refine guard_step rfl rfl rfl (b := true) e7 ?_
      go_simp
      exact hK _ _ (rfl) (Below.refl _ _)
    · simp at ho
      subst ho
      have e11 : a.tmps.getD 38 undef = .agg #[.bool rb.neg, .string (encS rb.num), .string (encS rb.den)] := hR.dep ⟨11, .data⟩ (by simp) rfl
      have e12 : a.tmps.getD 39 undef = .agg #[.bool ra.neg, .string (encS ra.num), .string (encS ra.den)] := hR.dep ⟨12, .data⟩ (by simp) rfl
      have e7 : a.tmps.getD 34 undef = .bool true := hR.dep ⟨7, .guard⟩ (by simp) rfl
      refine guard_step rfl rfl rfl (b := true) e7 ?_
      go_simp
      refine (C6.out w).mono ?_
      rintro e w' ⟨rfl, hb⟩
      exact hK _ _ (rfl) hb
    · simp at ho
      subst ho
      have e10 : a.tmps.getD 37 undef = .agg #[.bool pab.neg, .string (encS pab.num), .string (encS pab.den)] := hR.dep ⟨10, .data⟩ (by simp) rfl
      have e13 : a.tmps.getD 40 undef = .agg #[.bool pab.neg, .string (encS pab.num), .string (encS pab.den)] := hR.dep ⟨13, .data⟩ (by simp) rfl
      have e7 : a.tmps.getD 34 undef = .bool true := hR.dep ⟨7, .guard⟩ (by simp) rfl
      refine guard_step rfl rfl rfl (b := true) e7 ?_
      go_simp
      exact hK _ _ (rfl) (Below.refl _ _)
    · simp at ho
      subst ho
      have e7 : a.tmps.getD 34 undef = .bool true := hR.dep ⟨7, .data⟩ (by simp) rfl
      have e14 : a.tmps.getD 41 undef = .bool true := hR.dep ⟨14, .data⟩ (by simp) rfl
      refine plain_step rfl rfl ?_
      go_simp
      exact hK _ _ (rfl) (Below.refl _ _)
    · simp at ho
      subst ho
      have e15 : a.tmps.getD 42 undef = .bool true := hR.dep ⟨15, .data⟩ (by simp) rfl
      refine plain_step rfl rfl ?_
      go_simp
      exact hK _ _ (rfl) (Below.refl _ _)
    · simp at ho
      subst ho
      have e16 : a.tmps.getD 43 undef = .bool true := hR.dep ⟨16, .guard⟩ (by simp) rfl
      have b8 : a.tmps.getD 8 undef = .pointer (some ⟨b8, 0, none⟩) := hR.base 8 (by kernel_rfl)
      obtain ⟨⟨cx0, cx1, cx2⟩, -⟩ := row_cells (heap_up hR.below HX8.out)
      refine guard_step rfl rfl rfl (b := true) e16 ?_
      go_simp
      exact hK _ _ (rfl) (Below.refl _ _)
    · simp at ho
      subst ho
      have e16 : a.tmps.getD 43 undef = .bool true := hR.dep ⟨16, .guard⟩ (by simp) rfl
      have b9 : a.tmps.getD 9 undef = .pointer (some ⟨b9, 0, none⟩) := hR.base 9 (by kernel_rfl)
      obtain ⟨⟨cx0, cx1, cx2⟩, -⟩ := row_cells (heap_up hR.below HX9.out)
      refine guard_step rfl rfl rfl (b := true) e16 ?_
      go_simp
      exact hK _ _ (rfl) (Below.refl _ _)
    · simp at ho
      subst ho
      have e17 : a.tmps.getD 44 undef = .agg #[.bool ra.neg, .string (encS ra.num), .string (encS ra.den)] := hR.dep ⟨17, .data⟩ (by simp) rfl
      have e18 : a.tmps.getD 45 undef = .agg #[.bool rb.neg, .string (encS rb.num), .string (encS rb.den)] := hR.dep ⟨18, .data⟩ (by simp) rfl
      have e16 : a.tmps.getD 43 undef = .bool true := hR.dep ⟨16, .guard⟩ (by simp) rfl
      refine guard_step rfl rfl rfl (b := true) e16 ?_
      go_simp
      refine (C3.out w).mono ?_
      rintro e w' ⟨rfl, hb⟩
      exact hK _ _ (rfl) hb
    · simp at ho
      subst ho
      have e16 : a.tmps.getD 43 undef = .bool true := hR.dep ⟨16, .guard⟩ (by simp) rfl
      have b10 : a.tmps.getD 10 undef = .pointer (some ⟨b10, 0, none⟩) := hR.base 10 (by kernel_rfl)
      obtain ⟨⟨cx0, cx1, cx2⟩, -⟩ := row_cells (heap_up hR.below HX10.out)
      refine guard_step rfl rfl rfl (b := true) e16 ?_
      go_simp
      exact hK _ _ (rfl) (Below.refl _ _)
    · simp at ho
      subst ho
      have e19 : a.tmps.getD 46 undef = .agg #[.bool sab.neg, .string (encS sab.num), .string (encS sab.den)] := hR.dep ⟨19, .data⟩ (by simp) rfl
      have e20 : a.tmps.getD 47 undef = .agg #[.bool rc.neg, .string (encS rc.num), .string (encS rc.den)] := hR.dep ⟨20, .data⟩ (by simp) rfl
      have e16 : a.tmps.getD 43 undef = .bool true := hR.dep ⟨16, .guard⟩ (by simp) rfl
      refine guard_step rfl rfl rfl (b := true) e16 ?_
      go_simp
      refine (C7.out w).mono ?_
      rintro e w' ⟨rfl, hb⟩
      exact hK _ _ (rfl) hb
    · simp at ho
      subst ho
      have e16 : a.tmps.getD 43 undef = .bool true := hR.dep ⟨16, .guard⟩ (by simp) rfl
      have b8 : a.tmps.getD 8 undef = .pointer (some ⟨b8, 0, none⟩) := hR.base 8 (by kernel_rfl)
      obtain ⟨⟨cx0, cx1, cx2⟩, -⟩ := row_cells (heap_up hR.below HX8.out)
      refine guard_step rfl rfl rfl (b := true) e16 ?_
      go_simp
      exact hK _ _ (rfl) (Below.refl _ _)
    · simp at ho
      subst ho
      have e16 : a.tmps.getD 43 undef = .bool true := hR.dep ⟨16, .guard⟩ (by simp) rfl
      have b9 : a.tmps.getD 9 undef = .pointer (some ⟨b9, 0, none⟩) := hR.base 9 (by kernel_rfl)
      obtain ⟨⟨cx0, cx1, cx2⟩, -⟩ := row_cells (heap_up hR.below HX9.out)
      refine guard_step rfl rfl rfl (b := true) e16 ?_
      go_simp
      exact hK _ _ (rfl) (Below.refl _ _)
    · simp at ho
      subst ho
      have e16 : a.tmps.getD 43 undef = .bool true := hR.dep ⟨16, .guard⟩ (by simp) rfl
      have b10 : a.tmps.getD 10 undef = .pointer (some ⟨b10, 0, none⟩) := hR.base 10 (by kernel_rfl)
      obtain ⟨⟨cx0, cx1, cx2⟩, -⟩ := row_cells (heap_up hR.below HX10.out)
      refine guard_step rfl rfl rfl (b := true) e16 ?_
      go_simp
      exact hK _ _ (rfl) (Below.refl _ _)
    · simp at ho
      subst ho
      have e23 : a.tmps.getD 50 undef = .agg #[.bool rb.neg, .string (encS rb.num), .string (encS rb.den)] := hR.dep ⟨23, .data⟩ (by simp) rfl
      have e24 : a.tmps.getD 51 undef = .agg #[.bool rc.neg, .string (encS rc.num), .string (encS rc.den)] := hR.dep ⟨24, .data⟩ (by simp) rfl
      have e16 : a.tmps.getD 43 undef = .bool true := hR.dep ⟨16, .guard⟩ (by simp) rfl
      refine guard_step rfl rfl rfl (b := true) e16 ?_
      go_simp
      refine (C8.out w).mono ?_
      rintro e w' ⟨rfl, hb⟩
      exact hK _ _ (rfl) hb
    · simp at ho
      subst ho
      have e22 : a.tmps.getD 49 undef = .agg #[.bool ra.neg, .string (encS ra.num), .string (encS ra.den)] := hR.dep ⟨22, .data⟩ (by simp) rfl
      have e25 : a.tmps.getD 52 undef = .agg #[.bool sbc.neg, .string (encS sbc.num), .string (encS sbc.den)] := hR.dep ⟨25, .data⟩ (by simp) rfl
      have e16 : a.tmps.getD 43 undef = .bool true := hR.dep ⟨16, .guard⟩ (by simp) rfl
      refine guard_step rfl rfl rfl (b := true) e16 ?_
      go_simp
      refine (C9.out w).mono ?_
      rintro e w' ⟨rfl, hb⟩
      exact hK _ _ (rfl) hb
    · simp at ho
      subst ho
      have e21 : a.tmps.getD 48 undef = .agg #[.bool sabc.neg, .string (encS sabc.num), .string (encS sabc.den)] := hR.dep ⟨21, .data⟩ (by simp) rfl
      have e26 : a.tmps.getD 53 undef = .agg #[.bool sabc.neg, .string (encS sabc.num), .string (encS sabc.den)] := hR.dep ⟨26, .data⟩ (by simp) rfl
      have e16 : a.tmps.getD 43 undef = .bool true := hR.dep ⟨16, .guard⟩ (by simp) rfl
      refine guard_step rfl rfl rfl (b := true) e16 ?_
      go_simp
      exact hK _ _ (rfl) (Below.refl _ _)
    · simp at ho
      subst ho
      have e16 : a.tmps.getD 43 undef = .bool true := hR.dep ⟨16, .data⟩ (by simp) rfl
      have e27 : a.tmps.getD 54 undef = .bool true := hR.dep ⟨27, .data⟩ (by simp) rfl
      refine plain_step rfl rfl ?_
      go_simp
      exact hK _ _ (rfl) (Below.refl _ _)
    · simp at ho
      subst ho
      have e28 : a.tmps.getD 55 undef = .bool true := hR.dep ⟨28, .data⟩ (by simp) rfl
      refine plain_step rfl rfl ?_
      go_simp
      exact hK _ _ (rfl) (Below.refl _ _)
    · simp at ho
      subst ho
      have e29 : a.tmps.getD 56 undef = .bool true := hR.dep ⟨29, .guard⟩ (by simp) rfl
      have b8 : a.tmps.getD 8 undef = .pointer (some ⟨b8, 0, none⟩) := hR.base 8 (by kernel_rfl)
      obtain ⟨⟨cx0, cx1, cx2⟩, -⟩ := row_cells (heap_up hR.below HX8.out)
      refine guard_step rfl rfl rfl (b := true) e29 ?_
      go_simp
      exact hK _ _ (rfl) (Below.refl _ _)
    · simp at ho
      subst ho
      have e29 : a.tmps.getD 56 undef = .bool true := hR.dep ⟨29, .guard⟩ (by simp) rfl
      have b9 : a.tmps.getD 9 undef = .pointer (some ⟨b9, 0, none⟩) := hR.base 9 (by kernel_rfl)
      obtain ⟨⟨cx0, cx1, cx2⟩, -⟩ := row_cells (heap_up hR.below HX9.out)
      refine guard_step rfl rfl rfl (b := true) e29 ?_
      go_simp
      exact hK _ _ (rfl) (Below.refl _ _)
    · simp at ho
      subst ho
      have e30 : a.tmps.getD 57 undef = .agg #[.bool ra.neg, .string (encS ra.num), .string (encS ra.den)] := hR.dep ⟨30, .data⟩ (by simp) rfl
      have e31 : a.tmps.getD 58 undef = .agg #[.bool rb.neg, .string (encS rb.num), .string (encS rb.den)] := hR.dep ⟨31, .data⟩ (by simp) rfl
      have e29 : a.tmps.getD 56 undef = .bool true := hR.dep ⟨29, .guard⟩ (by simp) rfl
      refine guard_step rfl rfl rfl (b := true) e29 ?_
      go_simp
      refine (C5.out w).mono ?_
      rintro e w' ⟨rfl, hb⟩
      exact hK _ _ (rfl) hb
    · simp at ho
      subst ho
      have e29 : a.tmps.getD 56 undef = .bool true := hR.dep ⟨29, .guard⟩ (by simp) rfl
      have b10 : a.tmps.getD 10 undef = .pointer (some ⟨b10, 0, none⟩) := hR.base 10 (by kernel_rfl)
      obtain ⟨⟨cx0, cx1, cx2⟩, -⟩ := row_cells (heap_up hR.below HX10.out)
      refine guard_step rfl rfl rfl (b := true) e29 ?_
      go_simp
      exact hK _ _ (rfl) (Below.refl _ _)
    · simp at ho
      subst ho
      have e32 : a.tmps.getD 59 undef = .agg #[.bool pab.neg, .string (encS pab.num), .string (encS pab.den)] := hR.dep ⟨32, .data⟩ (by simp) rfl
      have e33 : a.tmps.getD 60 undef = .agg #[.bool rc.neg, .string (encS rc.num), .string (encS rc.den)] := hR.dep ⟨33, .data⟩ (by simp) rfl
      have e29 : a.tmps.getD 56 undef = .bool true := hR.dep ⟨29, .guard⟩ (by simp) rfl
      refine guard_step rfl rfl rfl (b := true) e29 ?_
      go_simp
      refine (C10.out w).mono ?_
      rintro e w' ⟨rfl, hb⟩
      exact hK _ _ (rfl) hb
    · simp at ho
      subst ho
      have e29 : a.tmps.getD 56 undef = .bool true := hR.dep ⟨29, .guard⟩ (by simp) rfl
      have b8 : a.tmps.getD 8 undef = .pointer (some ⟨b8, 0, none⟩) := hR.base 8 (by kernel_rfl)
      obtain ⟨⟨cx0, cx1, cx2⟩, -⟩ := row_cells (heap_up hR.below HX8.out)
      refine guard_step rfl rfl rfl (b := true) e29 ?_
      go_simp
      exact hK _ _ (rfl) (Below.refl _ _)
    · simp at ho
      subst ho
      have e29 : a.tmps.getD 56 undef = .bool true := hR.dep ⟨29, .guard⟩ (by simp) rfl
      have b9 : a.tmps.getD 9 undef = .pointer (some ⟨b9, 0, none⟩) := hR.base 9 (by kernel_rfl)
      obtain ⟨⟨cx0, cx1, cx2⟩, -⟩ := row_cells (heap_up hR.below HX9.out)
      refine guard_step rfl rfl rfl (b := true) e29 ?_
      go_simp
      exact hK _ _ (rfl) (Below.refl _ _)
    · simp at ho
      subst ho
      have e29 : a.tmps.getD 56 undef = .bool true := hR.dep ⟨29, .guard⟩ (by simp) rfl
      have b10 : a.tmps.getD 10 undef = .pointer (some ⟨b10, 0, none⟩) := hR.base 10 (by kernel_rfl)
      obtain ⟨⟨cx0, cx1, cx2⟩, -⟩ := row_cells (heap_up hR.below HX10.out)
      refine guard_step rfl rfl rfl (b := true) e29 ?_
      go_simp
      exact hK _ _ (rfl) (Below.refl _ _)
    · simp at ho
      subst ho
      have e36 : a.tmps.getD 63 undef = .agg #[.bool rb.neg, .string (encS rb.num), .string (encS rb.den)] := hR.dep ⟨36, .data⟩ (by simp) rfl
      have e37 : a.tmps.getD 64 undef = .agg #[.bool rc.neg, .string (encS rc.num), .string (encS rc.den)] := hR.dep ⟨37, .data⟩ (by simp) rfl
      have e29 : a.tmps.getD 56 undef = .bool true := hR.dep ⟨29, .guard⟩ (by simp) rfl
      refine guard_step rfl rfl rfl (b := true) e29 ?_
      go_simp
      refine (C11.out w).mono ?_
      rintro e w' ⟨rfl, hb⟩
      exact hK _ _ (rfl) hb
    · simp at ho
      subst ho
      have e35 : a.tmps.getD 62 undef = .agg #[.bool ra.neg, .string (encS ra.num), .string (encS ra.den)] := hR.dep ⟨35, .data⟩ (by simp) rfl
      have e38 : a.tmps.getD 65 undef = .agg #[.bool pbc.neg, .string (encS pbc.num), .string (encS pbc.den)] := hR.dep ⟨38, .data⟩ (by simp) rfl
      have e29 : a.tmps.getD 56 undef = .bool true := hR.dep ⟨29, .guard⟩ (by simp) rfl
      refine guard_step rfl rfl rfl (b := true) e29 ?_
      go_simp
      refine (C12.out w).mono ?_
      rintro e w' ⟨rfl, hb⟩
      exact hK _ _ (rfl) hb
    · simp at ho
      subst ho
      have e34 : a.tmps.getD 61 undef = .agg #[.bool pabc.neg, .string (encS pabc.num), .string (encS pabc.den)] := hR.dep ⟨34, .data⟩ (by simp) rfl
      have e39 : a.tmps.getD 66 undef = .agg #[.bool pabc.neg, .string (encS pabc.num), .string (encS pabc.den)] := hR.dep ⟨39, .data⟩ (by simp) rfl
      have e29 : a.tmps.getD 56 undef = .bool true := hR.dep ⟨29, .guard⟩ (by simp) rfl
      refine guard_step rfl rfl rfl (b := true) e29 ?_
      go_simp
      exact hK _ _ (rfl) (Below.refl _ _)
    · simp at ho
      subst ho
      have e29 : a.tmps.getD 56 undef = .bool true := hR.dep ⟨29, .data⟩ (by simp) rfl
      have e40 : a.tmps.getD 67 undef = .bool true := hR.dep ⟨40, .data⟩ (by simp) rfl
      refine plain_step rfl rfl ?_
      go_simp
      exact hK _ _ (rfl) (Below.refl _ _)
    · simp at ho
      subst ho
      have e41 : a.tmps.getD 68 undef = .bool true := hR.dep ⟨41, .data⟩ (by simp) rfl
      refine plain_step rfl rfl ?_
      go_simp
      exact hK _ _ (rfl) (Below.refl _ _)
  · intro s w hS hb
    have e42 : s 13 = .bool true := hS 42 (by decide)
    simp only [over, Nat.zero_add, Nat.reduceAdd, Nat.reduceLeDiff, Nat.reduceLT, decide_true, decide_false, Bool.and_true, Bool.and_false, Bool.or_false, Bool.or_true, cond_true, cond_false]
    have HB := Lib.hid (HB.out.trans (hb.mono HB.out.size))
    have HI0 := Lib.hid (heap_up hb HI0.out)
    have HI1 := Lib.hid (heap_up hb HI1.out)
    have HI2 := Lib.hid (heap_up hb HI2.out)
    have HX8 := Lib.hid (heap_up hb HX8.out)
    have HX9 := Lib.hid (heap_up hb HX9.out)
    have HX10 := Lib.hid (heap_up hb HX10.out)
    have HX11 := Lib.hid (heap_up hb HX11.out)
    have HX12 := Lib.hid (heap_up hb HX12.out)
    obtain ⟨wr7, hw8⟩ : ∃ w8, w8 = w := ⟨_, rfl⟩
    subst hw8
    rw [e42]
    clear hS hb e42
    go_wp2_with fail
    refine wp_region_vals (w := wr7) (by kernel_rfl) (SS8 b8 b9 b10 b11 b12 ra rb rc sbc xs pab pac z u na) (fun t => (decide (14 ≤ t) && decide (t < 15)) || (decide (69 ≤ t) && decide (t < 104))) (by kernel_rfl) (by kernel_rfl) (by kernel_rfl) (SS8_up b8 b9 b10 b11 b12 ra rb rc sbc xs pab pac z u na) ?_ ?_
    · intro i hi o listed a w hR K hK
      have ho := hR.at_
      have hi : i < 36 := hi
      have hii : i = 0 ∨ i = 1 ∨ i = 2 ∨ i = 3 ∨ i = 4 ∨ i = 5 ∨ i = 6 ∨ i = 7 ∨ i = 8 ∨ i = 9 ∨ i = 10 ∨ i = 11 ∨ i = 12 ∨ i = 13 ∨ i = 14 ∨ i = 15 ∨ i = 16 ∨ i = 17 ∨ i = 18 ∨ i = 19 ∨ i = 20 ∨ i = 21 ∨ i = 22 ∨ i = 23 ∨ i = 24 ∨ i = 25 ∨ i = 26 ∨ i = 27 ∨ i = 28 ∨ i = 29 ∨ i = 30 ∨ i = 31 ∨ i = 32 ∨ i = 33 ∨ i = 34 ∨ i = 35 := by omega
      rcases hii with rfl | rfl | rfl | rfl | rfl | rfl | rfl | rfl | rfl | rfl | rfl | rfl | rfl | rfl | rfl | rfl | rfl | rfl | rfl | rfl | rfl | rfl | rfl | rfl | rfl | rfl | rfl | rfl | rfl | rfl | rfl | rfl | rfl | rfl | rfl | rfl
      · simp at ho
        subst ho
        have b8 : a.tmps.getD 8 undef = .pointer (some ⟨b8, 0, none⟩) := hR.base 8 (by kernel_rfl)
        obtain ⟨⟨cx0, cx1, cx2⟩, -⟩ := row_cells (heap_up hR.below HX8.out)
        refine plain_step rfl rfl ?_
        go_simp
        exact hK _ _ (rfl) (Below.refl _ _)
      · simp at ho
        subst ho
        have b9 : a.tmps.getD 9 undef = .pointer (some ⟨b9, 0, none⟩) := hR.base 9 (by kernel_rfl)
        obtain ⟨⟨cx0, cx1, cx2⟩, -⟩ := row_cells (heap_up hR.below HX9.out)
        refine plain_step rfl rfl ?_
        go_simp
        exact hK _ _ (rfl) (Below.refl _ _)
      · simp at ho
        subst ho
        have b10 : a.tmps.getD 10 undef = .pointer (some ⟨b10, 0, none⟩) := hR.base 10 (by kernel_rfl)
        obtain ⟨⟨cx0, cx1, cx2⟩, -⟩ := row_cells (heap_up hR.below HX10.out)
        refine plain_step rfl rfl ?_
        go_simp
        exact hK _ _ (rfl) (Below.refl _ _)
      · simp at ho
        subst ho
        have e1 : a.tmps.getD 70 undef = .agg #[.bool rb.neg, .string (encS rb.num), .string (encS rb.den)] := hR.dep ⟨1, .data⟩ (by simp) rfl
        have e2 : a.tmps.getD 71 undef = .agg #[.bool rc.neg, .string (encS rc.num), .string (encS rc.den)] := hR.dep ⟨2, .data⟩ (by simp) rfl
        refine plain_step rfl rfl ?_
        go_simp
        refine (C8.out w).mono ?_
        rintro e w' ⟨rfl, hb⟩
        exact hK _ _ (rfl) hb
      · simp at ho
        subst ho
        have e0 : a.tmps.getD 69 undef = .agg #[.bool ra.neg, .string (encS ra.num), .string (encS ra.den)] := hR.dep ⟨0, .data⟩ (by simp) rfl
        have e3 : a.tmps.getD 72 undef = .agg #[.bool sbc.neg, .string (encS sbc.num), .string (encS sbc.den)] := hR.dep ⟨3, .data⟩ (by simp) rfl
        refine plain_step rfl rfl ?_
        go_simp
        refine (C13.out w).mono ?_
        rintro e w' ⟨rfl, hb⟩
        exact hK _ _ (rfl) hb
      · simp at ho
        subst ho
        have b8 : a.tmps.getD 8 undef = .pointer (some ⟨b8, 0, none⟩) := hR.base 8 (by kernel_rfl)
        obtain ⟨⟨cx0, cx1, cx2⟩, -⟩ := row_cells (heap_up hR.below HX8.out)
        refine plain_step rfl rfl ?_
        go_simp
        exact hK _ _ (rfl) (Below.refl _ _)
      · simp at ho
        subst ho
        have b9 : a.tmps.getD 9 undef = .pointer (some ⟨b9, 0, none⟩) := hR.base 9 (by kernel_rfl)
        obtain ⟨⟨cx0, cx1, cx2⟩, -⟩ := row_cells (heap_up hR.below HX9.out)
        refine plain_step rfl rfl ?_
        go_simp
        exact hK _ _ (rfl) (Below.refl _ _)
      · simp at ho
        subst ho
        have e5 : a.tmps.getD 74 undef = .agg #[.bool ra.neg, .string (encS ra.num), .string (encS ra.den)] := hR.dep ⟨5, .data⟩ (by simp) rfl
        have e6 : a.tmps.getD 75 undef = .agg #[.bool rb.neg, .string (encS rb.num), .string (encS rb.den)] := hR.dep ⟨6, .data⟩ (by simp) rfl
        refine plain_step rfl rfl ?_
        go_simp
        refine (C5.out w).mono ?_
        rintro e w' ⟨rfl, hb⟩
        exact hK _ _ (rfl) hb
      · simp at ho
        subst ho
        have b8 : a.tmps.getD 8 undef = .pointer (some ⟨b8, 0, none⟩) := hR.base 8 (by kernel_rfl)
        obtain ⟨⟨cx0, cx1, cx2⟩, -⟩ := row_cells (heap_up hR.below HX8.out)
        refine plain_step rfl rfl ?_
        go_simp
        exact hK _ _ (rfl) (Below.refl _ _)
      · simp at ho
        subst ho
        have b10 : a.tmps.getD 10 undef = .pointer (some ⟨b10, 0, none⟩) := hR.base 10 (by kernel_rfl)
        obtain ⟨⟨cx0, cx1, cx2⟩, -⟩ := row_cells (heap_up hR.below HX10.out)
        refine plain_step rfl rfl ?_
        go_simp
        exact hK _ _ (rfl) (Below.refl _ _)
      · simp at ho
        subst ho
        have e8 : a.tmps.getD 77 undef = .agg #[.bool ra.neg, .string (encS ra.num), .string (encS ra.den)] := hR.dep ⟨8, .data⟩ (by simp) rfl
        have e9 : a.tmps.getD 78 undef = .agg #[.bool rc.neg, .string (encS rc.num), .string (encS rc.den)] := hR.dep ⟨9, .data⟩ (by simp) rfl
        refine plain_step rfl rfl ?_
        go_simp
        refine (C14.out w).mono ?_
        rintro e w' ⟨rfl, hb⟩
        exact hK _ _ (rfl) hb
      · simp at ho
        subst ho
        have e7 : a.tmps.getD 76 undef = .agg #[.bool pab.neg, .string (encS pab.num), .string (encS pab.den)] := hR.dep ⟨7, .data⟩ (by simp) rfl
        have e10 : a.tmps.getD 79 undef = .agg #[.bool pac.neg, .string (encS pac.num), .string (encS pac.den)] := hR.dep ⟨10, .data⟩ (by simp) rfl
        refine plain_step rfl rfl ?_
        go_simp
        refine (C15.out w).mono ?_
        rintro e w' ⟨rfl, hb⟩
        exact hK _ _ (rfl) hb
      · simp at ho
        subst ho
        have e4 : a.tmps.getD 73 undef = .agg #[.bool xs.neg, .string (encS xs.num), .string (encS xs.den)] := hR.dep ⟨4, .data⟩ (by simp) rfl
        have e11 : a.tmps.getD 80 undef = .agg #[.bool xs.neg, .string (encS xs.num), .string (encS xs.den)] := hR.dep ⟨11, .data⟩ (by simp) rfl
        refine plain_step rfl rfl ?_
        go_simp
        exact hK _ _ (rfl) (Below.refl _ _)
      · simp at ho
        subst ho
        have e12 : a.tmps.getD 81 undef = .bool true := hR.dep ⟨12, .data⟩ (by simp) rfl
        refine plain_step rfl rfl ?_
        go_simp
        exact hK _ _ (rfl) (Below.refl _ _)
      · simp at ho
        subst ho
        have e13 : a.tmps.getD 82 undef = .bool true := hR.dep ⟨13, .guard⟩ (by simp) rfl
        have b8 : a.tmps.getD 8 undef = .pointer (some ⟨b8, 0, none⟩) := hR.base 8 (by kernel_rfl)
        obtain ⟨⟨cx0, cx1, cx2⟩, -⟩ := row_cells (heap_up hR.below HX8.out)
        refine guard_step rfl rfl rfl (b := true) e13 ?_
        go_simp
        exact hK _ _ (rfl) (Below.refl _ _)
      · simp at ho
        subst ho
        have e13 : a.tmps.getD 82 undef = .bool true := hR.dep ⟨13, .guard⟩ (by simp) rfl
        have b11 : a.tmps.getD 11 undef = .pointer (some ⟨b11, 0, none⟩) := hR.base 11 (by kernel_rfl)
        obtain ⟨⟨cx0, cx1, cx2⟩, -⟩ := row_cells (heap_up hR.below HX11.out)
        refine guard_step rfl rfl rfl (b := true) e13 ?_
        go_simp
        exact hK _ _ (rfl) (Below.refl _ _)
      · simp at ho
        subst ho
        have e14 : a.tmps.getD 83 undef = .agg #[.bool ra.neg, .string (encS ra.num), .string (encS ra.den)] := hR.dep ⟨14, .data⟩ (by simp) rfl
        have e15 : a.tmps.getD 84 undef = .agg #[.bool z.neg, .string (encS z.num), .string (encS z.den)] := hR.dep ⟨15, .data⟩ (by simp) rfl
        have e13 : a.tmps.getD 82 undef = .bool true := hR.dep ⟨13, .guard⟩ (by simp) rfl
        refine guard_step rfl rfl rfl (b := true) e13 ?_
        go_simp
        refine (C16.out w).mono ?_
        rintro e w' ⟨rfl, hb⟩
        exact hK _ _ (rfl) hb
      · simp at ho
        subst ho
        have e13 : a.tmps.getD 82 undef = .bool true := hR.dep ⟨13, .guard⟩ (by simp) rfl
        have b8 : a.tmps.getD 8 undef = .pointer (some ⟨b8, 0, none⟩) := hR.base 8 (by kernel_rfl)
        obtain ⟨⟨cx0, cx1, cx2⟩, -⟩ := row_cells (heap_up hR.below HX8.out)
        refine guard_step rfl rfl rfl (b := true) e13 ?_
        go_simp
        exact hK _ _ (rfl) (Below.refl _ _)
      · simp at ho
        subst ho
        have e16 : a.tmps.getD 85 undef = .agg #[.bool ra.neg, .string (encS ra.num), .string (encS ra.den)] := hR.dep ⟨16, .data⟩ (by simp) rfl
        have e17 : a.tmps.getD 86 undef = .agg #[.bool ra.neg, .string (encS ra.num), .string (encS ra.den)] := hR.dep ⟨17, .data⟩ (by simp) rfl
        have e13 : a.tmps.getD 82 undef = .bool true := hR.dep ⟨13, .guard⟩ (by simp) rfl
        refine guard_step rfl rfl rfl (b := true) e13 ?_
        go_simp
        exact hK _ _ (rfl) (Below.refl _ _)
      · simp at ho
        subst ho
        have e13 : a.tmps.getD 82 undef = .bool true := hR.dep ⟨13, .data⟩ (by simp) rfl
        have e18 : a.tmps.getD 87 undef = .bool true := hR.dep ⟨18, .data⟩ (by simp) rfl
        refine plain_step rfl rfl ?_
        go_simp
        exact hK _ _ (rfl) (Below.refl _ _)
      · simp at ho
        subst ho
        have e19 : a.tmps.getD 88 undef = .bool true := hR.dep ⟨19, .data⟩ (by simp) rfl
        refine plain_step rfl rfl ?_
        go_simp
        exact hK _ _ (rfl) (Below.refl _ _)
      · simp at ho
        subst ho
        have e20 : a.tmps.getD 89 undef = .bool true := hR.dep ⟨20, .guard⟩ (by simp) rfl
        have b8 : a.tmps.getD 8 undef = .pointer (some ⟨b8, 0, none⟩) := hR.base 8 (by kernel_rfl)
        obtain ⟨⟨cx0, cx1, cx2⟩, -⟩ := row_cells (heap_up hR.below HX8.out)
        refine guard_step rfl rfl rfl (b := true) e20 ?_
        go_simp
        exact hK _ _ (rfl) (Below.refl _ _)
      · simp at ho
        subst ho
        have e20 : a.tmps.getD 89 undef = .bool true := hR.dep ⟨20, .guard⟩ (by simp) rfl
        have b12 : a.tmps.getD 12 undef = .pointer (some ⟨b12, 0, none⟩) := hR.base 12 (by kernel_rfl)
        obtain ⟨⟨cx0, cx1, cx2⟩, -⟩ := row_cells (heap_up hR.below HX12.out)
        refine guard_step rfl rfl rfl (b := true) e20 ?_
        go_simp
        exact hK _ _ (rfl) (Below.refl _ _)
      · simp at ho
        subst ho
        have e21 : a.tmps.getD 90 undef = .agg #[.bool ra.neg, .string (encS ra.num), .string (encS ra.den)] := hR.dep ⟨21, .data⟩ (by simp) rfl
        have e22 : a.tmps.getD 91 undef = .agg #[.bool u.neg, .string (encS u.num), .string (encS u.den)] := hR.dep ⟨22, .data⟩ (by simp) rfl
        have e20 : a.tmps.getD 89 undef = .bool true := hR.dep ⟨20, .guard⟩ (by simp) rfl
        refine guard_step rfl rfl rfl (b := true) e20 ?_
        go_simp
        refine (C17.out w).mono ?_
        rintro e w' ⟨rfl, hb⟩
        exact hK _ _ (rfl) hb
      · simp at ho
        subst ho
        have e20 : a.tmps.getD 89 undef = .bool true := hR.dep ⟨20, .guard⟩ (by simp) rfl
        have b8 : a.tmps.getD 8 undef = .pointer (some ⟨b8, 0, none⟩) := hR.base 8 (by kernel_rfl)
        obtain ⟨⟨cx0, cx1, cx2⟩, -⟩ := row_cells (heap_up hR.below HX8.out)
        refine guard_step rfl rfl rfl (b := true) e20 ?_
        go_simp
        exact hK _ _ (rfl) (Below.refl _ _)
      · simp at ho
        subst ho
        have e23 : a.tmps.getD 92 undef = .agg #[.bool ra.neg, .string (encS ra.num), .string (encS ra.den)] := hR.dep ⟨23, .data⟩ (by simp) rfl
        have e24 : a.tmps.getD 93 undef = .agg #[.bool ra.neg, .string (encS ra.num), .string (encS ra.den)] := hR.dep ⟨24, .data⟩ (by simp) rfl
        have e20 : a.tmps.getD 89 undef = .bool true := hR.dep ⟨20, .guard⟩ (by simp) rfl
        refine guard_step rfl rfl rfl (b := true) e20 ?_
        go_simp
        exact hK _ _ (rfl) (Below.refl _ _)
      · simp at ho
        subst ho
        have e20 : a.tmps.getD 89 undef = .bool true := hR.dep ⟨20, .data⟩ (by simp) rfl
        have e25 : a.tmps.getD 94 undef = .bool true := hR.dep ⟨25, .data⟩ (by simp) rfl
        refine plain_step rfl rfl ?_
        go_simp
        exact hK _ _ (rfl) (Below.refl _ _)
      · simp at ho
        subst ho
        have e26 : a.tmps.getD 95 undef = .bool true := hR.dep ⟨26, .data⟩ (by simp) rfl
        refine plain_step rfl rfl ?_
        go_simp
        exact hK _ _ (rfl) (Below.refl _ _)
      · simp at ho
        subst ho
        have e27 : a.tmps.getD 96 undef = .bool true := hR.dep ⟨27, .guard⟩ (by simp) rfl
        have b8 : a.tmps.getD 8 undef = .pointer (some ⟨b8, 0, none⟩) := hR.base 8 (by kernel_rfl)
        obtain ⟨⟨cx0, cx1, cx2⟩, -⟩ := row_cells (heap_up hR.below HX8.out)
        refine guard_step rfl rfl rfl (b := true) e27 ?_
        go_simp
        exact hK _ _ (rfl) (Below.refl _ _)
      · simp at ho
        subst ho
        have e27 : a.tmps.getD 96 undef = .bool true := hR.dep ⟨27, .guard⟩ (by simp) rfl
        have b8 : a.tmps.getD 8 undef = .pointer (some ⟨b8, 0, none⟩) := hR.base 8 (by kernel_rfl)
        obtain ⟨⟨cx0, cx1, cx2⟩, -⟩ := row_cells (heap_up hR.below HX8.out)
        refine guard_step rfl rfl rfl (b := true) e27 ?_
        go_simp
        exact hK _ _ (rfl) (Below.refl _ _)
      · simp at ho
        subst ho
        have e29 : a.tmps.getD 98 undef = .agg #[.bool ra.neg, .string (encS ra.num), .string (encS ra.den)] := hR.dep ⟨29, .data⟩ (by simp) rfl
        have e27 : a.tmps.getD 96 undef = .bool true := hR.dep ⟨27, .guard⟩ (by simp) rfl
        refine guard_step rfl rfl rfl (b := true) e27 ?_
        go_simp
        refine (C18.out w).mono ?_
        rintro e w' ⟨rfl, hb⟩
        exact hK _ _ (rfl) hb
      · simp at ho
        subst ho
        have e28 : a.tmps.getD 97 undef = .agg #[.bool ra.neg, .string (encS ra.num), .string (encS ra.den)] := hR.dep ⟨28, .data⟩ (by simp) rfl
        have e30 : a.tmps.getD 99 undef = .agg #[.bool na.neg, .string (encS na.num), .string (encS na.den)] := hR.dep ⟨30, .data⟩ (by simp) rfl
        have e27 : a.tmps.getD 96 undef = .bool true := hR.dep ⟨27, .guard⟩ (by simp) rfl
        refine guard_step rfl rfl rfl (b := true) e27 ?_
        go_simp
        refine (C20.out w).mono ?_
        rintro e w' ⟨rfl, hb⟩
        exact hK _ _ (rfl) hb
      · simp at ho
        subst ho
        have e27 : a.tmps.getD 96 undef = .bool true := hR.dep ⟨27, .guard⟩ (by simp) rfl
        have b11 : a.tmps.getD 11 undef = .pointer (some ⟨b11, 0, none⟩) := hR.base 11 (by kernel_rfl)
        obtain ⟨⟨cx0, cx1, cx2⟩, -⟩ := row_cells (heap_up hR.below HX11.out)
        refine guard_step rfl rfl rfl (b := true) e27 ?_
        go_simp
        exact hK _ _ (rfl) (Below.refl _ _)
      · simp at ho
        subst ho
        have e31 : a.tmps.getD 100 undef = .agg #[.bool z.neg, .string (encS z.num), .string (encS z.den)] := hR.dep ⟨31, .data⟩ (by simp) rfl
        have e32 : a.tmps.getD 101 undef = .agg #[.bool z.neg, .string (encS z.num), .string (encS z.den)] := hR.dep ⟨32, .data⟩ (by simp) rfl
        have e27 : a.tmps.getD 96 undef = .bool true := hR.dep ⟨27, .guard⟩ (by simp) rfl
        refine guard_step rfl rfl rfl (b := true) e27 ?_
        go_simp
        exact hK _ _ (rfl) (Below.refl _ _)
      · simp at ho
        subst ho
        have e27 : a.tmps.getD 96 undef = .bool true := hR.dep ⟨27, .data⟩ (by simp) rfl
        have e33 : a.tmps.getD 102 undef = .bool true := hR.dep ⟨33, .data⟩ (by simp) rfl
        refine plain_step rfl rfl ?_
        go_simp
        exact hK _ _ (rfl) (Below.refl _ _)
      · simp at ho
        subst ho
        have e34 : a.tmps.getD 103 undef = .bool true := hR.dep ⟨34, .data⟩ (by simp) rfl
        refine plain_step rfl rfl ?_
        go_simp
        exact hK _ _ (rfl) (Below.refl _ _)
    · intro s w hS hb
      have e35 : s 14 = .bool true := hS 35 (by decide)
      simp only [over, Nat.zero_add, Nat.reduceAdd, Nat.reduceLeDiff, Nat.reduceLT, decide_true, decide_false, Bool.and_true, Bool.and_false, Bool.or_false, Bool.or_true, cond_true, cond_false]
      have HB := Lib.hid (HB.out.trans (hb.mono HB.out.size))
      have HI0 := Lib.hid (heap_up hb HI0.out)
      have HI1 := Lib.hid (heap_up hb HI1.out)
      have HI2 := Lib.hid (heap_up hb HI2.out)
      have HX8 := Lib.hid (heap_up hb HX8.out)
      have HX9 := Lib.hid (heap_up hb HX9.out)
      have HX10 := Lib.hid (heap_up hb HX10.out)
      have HX11 := Lib.hid (heap_up hb HX11.out)
      have HX12 := Lib.hid (heap_up hb HX12.out)
      obtain ⟨wr8, hw8⟩ : ∃ w8, w8 = w := ⟨_, rfl⟩
      subst hw8
      rw [e35]
      clear hS hb e35
      obtain ⟨⟨k4a, k4b, k4c⟩, -⟩ := row_cells HX8.out
      obtain ⟨⟨k5a, k5b, k5c⟩, -⟩ := row_cells HX9.out
      go_wp2_with fail
      clear k4a k4b k4c k5a k5b k5c
      refine (C23.out _).mono ?_
      rintro e w12 ⟨rfl, hb⟩
      have HI0 := Lib.hid (heap_up hb HI0.out)
      have HI1 := Lib.hid (heap_up hb HI1.out)
      have HI2 := Lib.hid (heap_up hb HI2.out)
      have HX8 := Lib.hid (heap_up hb HX8.out)
      have HX9 := Lib.hid (heap_up hb HX9.out)
      have HX10 := Lib.hid (heap_up hb HX10.out)
      have HX11 := Lib.hid (heap_up hb HX11.out)
      have HX12 := Lib.hid (heap_up hb HX12.out)
      have HB := Lib.hid (HB.out.trans (hb.mono HB.out.size))
      clear hb
      have HX15 := Lib.hid (heap_alloc_new w12 (.cells #[.bool qn, .string qs, .string qd] 26))
      have HB := Lib.hid (HB.out.alloc HB.out.size (.cells #[.bool qn, .string qs, .string qd] 26))
      have HI0 := Lib.hid (heap_up ((Below.refl _ w12).alloc (Nat.le_refl _) (.cells #[.bool qn, .string qs, .string qd] 26)) HI0.out)
      have HI1 := Lib.hid (heap_up ((Below.refl _ w12).alloc (Nat.le_refl _) (.cells #[.bool qn, .string qs, .string qd] 26)) HI1.out)
      have HI2 := Lib.hid (heap_up ((Below.refl _ w12).alloc (Nat.le_refl _) (.cells #[.bool qn, .string qs, .string qd] 26)) HI2.out)
      have HX8 := Lib.hid (heap_up ((Below.refl _ w12).alloc (Nat.le_refl _) (.cells #[.bool qn, .string qs, .string qd] 26)) HX8.out)
      have HX9 := Lib.hid (heap_up ((Below.refl _ w12).alloc (Nat.le_refl _) (.cells #[.bool qn, .string qs, .string qd] 26)) HX9.out)
      have HX10 := Lib.hid (heap_up ((Below.refl _ w12).alloc (Nat.le_refl _) (.cells #[.bool qn, .string qs, .string qd] 26)) HX10.out)
      have HX11 := Lib.hid (heap_up ((Below.refl _ w12).alloc (Nat.le_refl _) (.cells #[.bool qn, .string qs, .string qd] 26)) HX11.out)
      have HX12 := Lib.hid (heap_up ((Below.refl _ w12).alloc (Nat.le_refl _) (.cells #[.bool qn, .string qs, .string qd] 26)) HX12.out)
      obtain ⟨W13, hW13⟩ : ∃ W, w12.alloc (.cells #[.bool qn, .string qs, .string qd] 26) = W := ⟨_, rfl⟩
      rw [hW13] at HI0 HI1 HI2 HX8 HX9 HX10 HX11 HX12 HX15 HB
      go_wp2_with fail
      clear hW13
      obtain ⟨b15, hbb⟩ : ∃ b, w12.heap.size = b := ⟨_, rfl⟩
      rw [hbb] at HX15
      try rw [hbb]
      clear hbb
      refine wp_region_vals (w := W13) (by kernel_rfl) (SS10 b8 b9 b11 b15 ra rb z qn qu qs qd) (fun t => (decide (17 ≤ t) && decide (t < 18)) || (decide (110 ≤ t) && decide (t < 126))) (by kernel_rfl) (by kernel_rfl) (by kernel_rfl) (SS10_up b8 b9 b11 b15 ra rb z qn qu qs qd) ?_ ?_
      · intro i hi o listed a w hR K hK
        have ho := hR.at_
        have hi : i < 17 := hi
        have hii : i = 0 ∨ i = 1 ∨ i = 2 ∨ i = 3 ∨ i = 4 ∨ i = 5 ∨ i = 6 ∨ i = 7 ∨ i = 8 ∨ i = 9 ∨ i = 10 ∨ i = 11 ∨ i = 12 ∨ i = 13 ∨ i = 14 ∨ i = 15 ∨ i = 16 := by omega
        rcases hii with rfl | rfl | rfl | rfl | rfl | rfl | rfl | rfl | rfl | rfl | rfl | rfl | rfl | rfl | rfl | rfl | rfl
        · simp at ho
          subst ho
          have b16 : a.tmps.getD 16 undef = .bool qu := hR.base 16 (by kernel_rfl)
          refine plain_step rfl rfl ?_
          go_simp
          exact hK _ _ (rfl) (Below.refl _ _)
        · simp at ho
          subst ho
          have b9 : a.tmps.getD 9 undef = .pointer (some ⟨b9, 0, none⟩) := hR.base 9 (by kernel_rfl)
          obtain ⟨⟨cx0, cx1, cx2⟩, -⟩ := row_cells (heap_up hR.below HX9.out)
          refine plain_step rfl rfl ?_
          go_simp
          exact hK _ _ (rfl) (Below.refl _ _)
        · simp at ho
          subst ho
          have b11 : a.tmps.getD 11 undef = .pointer (some ⟨b11, 0, none⟩) := hR.base 11 (by kernel_rfl)
          obtain ⟨⟨cx0, cx1, cx2⟩, -⟩ := row_cells (heap_up hR.below HX11.out)
          refine plain_step rfl rfl ?_
          go_simp
          exact hK _ _ (rfl) (Below.refl _ _)
        · simp at ho
          subst ho
          have e1 : a.tmps.getD 111 undef = .agg #[.bool rb.neg, .string (encS rb.num), .string (encS rb.den)] := hR.dep ⟨1, .data⟩ (by simp) rfl
          have e2 : a.tmps.getD 112 undef = .agg #[.bool z.neg, .string (encS z.num), .string (encS z.den)] := hR.dep ⟨2, .data⟩ (by simp) rfl
          refine plain_step rfl rfl ?_
          go_simp
          rw [neq3, row_dec, HNE.out, Bool.not_not]
          exact hK _ _ (rfl) (Below.refl _ _)
        · simp at ho
          subst ho
          have e0 : a.tmps.getD 110 undef = .bool qu := hR.dep ⟨0, .data⟩ (by simp) rfl
          have e3 : a.tmps.getD 113 undef = .bool qu := hR.dep ⟨3, .data⟩ (by simp) rfl
          refine plain_step rfl rfl ?_
          go_simp
          exact hK _ _ (rfl) (Below.refl _ _)
        · simp at ho
          subst ho
          have e4 : a.tmps.getD 114 undef = .bool true := hR.dep ⟨4, .data⟩ (by simp) rfl
          refine plain_step rfl rfl ?_
          go_simp
          exact hK _ _ (rfl) (Below.refl _ _)
        · simp at ho
          subst ho
          have e5 : a.tmps.getD 115 undef = .bool true := hR.dep ⟨5, .guard⟩ (by simp) rfl
          have b16 : a.tmps.getD 16 undef = .bool qu := hR.base 16 (by kernel_rfl)
          refine guard_step rfl rfl rfl (b := true) e5 ?_
          go_simp
          exact hK _ _ (rfl) (Below.refl _ _)
        · simp at ho
          subst ho
          have e6 : a.tmps.getD 116 undef = .bool qu := hR.dep ⟨6, .data⟩ (by simp) rfl
          have e5 : a.tmps.getD 115 undef = .bool true := hR.dep ⟨5, .guard⟩ (by simp) rfl
          refine guard_step rfl rfl rfl (b := true) e5 ?_
          go_simp
          exact hK _ _ (rfl) (Below.refl _ _)
        · simp at ho
          subst ho
          have e7 : a.tmps.getD 117 undef = .bool (!qu) := hR.dep ⟨7, .data⟩ (by simp) rfl
          have e5 : a.tmps.getD 115 undef = .bool true := hR.dep ⟨5, .guard⟩ (by simp) rfl
          refine guard_step rfl rfl rfl (b := true) e5 ?_
          go_simp
          exact hK _ _ (rfl) (Below.refl _ _)
        · simp at ho
          subst ho
          have e8 : a.tmps.getD 118 undef = .bool (!qu) := hR.dep ⟨8, .guard⟩ (by simp) rfl
          have b15 : a.tmps.getD 15 undef = .pointer (some ⟨b15, 0, none⟩) := hR.base 15 (by kernel_rfl)
          obtain ⟨⟨cx0, cx1, cx2⟩, -⟩ := row_cells (heap_up hR.below HX15.out)
          cases qu
          · refine guard_skip rfl rfl rfl (b := false) e8 (by decide) ?_
            exact hK _ _ rfl (Below.refl _ _)
          · refine guard_step rfl rfl rfl (b := false) e8 ?_
            go_simp
            exact hK _ _ (rfl) (Below.refl _ _)
        · simp at ho
          subst ho
          have e8 : a.tmps.getD 118 undef = .bool (!qu) := hR.dep ⟨8, .guard⟩ (by simp) rfl
          have b9 : a.tmps.getD 9 undef = .pointer (some ⟨b9, 0, none⟩) := hR.base 9 (by kernel_rfl)
          obtain ⟨⟨cx0, cx1, cx2⟩, -⟩ := row_cells (heap_up hR.below HX9.out)
          cases qu
          · refine guard_skip rfl rfl rfl (b := false) e8 (by decide) ?_
            exact hK _ _ rfl (Below.refl _ _)
          · refine guard_step rfl rfl rfl (b := false) e8 ?_
            go_simp
            exact hK _ _ (rfl) (Below.refl _ _)
        · simp at ho
          subst ho
          have e9 : a.tmps.getD 119 undef = (bif qu then .agg #[.bool qn, .string qs, .string qd] else undef) := hR.dep ⟨9, .data⟩ (by simp) rfl
          have e10 : a.tmps.getD 120 undef = (bif qu then .agg #[.bool rb.neg, .string (encS rb.num), .string (encS rb.den)] else undef) := hR.dep ⟨10, .data⟩ (by simp) rfl
          have e8 : a.tmps.getD 118 undef = .bool (!qu) := hR.dep ⟨8, .guard⟩ (by simp) rfl
          cases qu
          · refine guard_skip rfl rfl rfl (b := false) e8 (by decide) ?_
            exact hK _ _ rfl (Below.refl _ _)
          · refine guard_step rfl rfl rfl (b := false) e8 ?_
            go_simp
            refine ((HQM.out rfl) w).mono ?_
            rintro e w' ⟨rfl, hb⟩
            exact hK _ _ (rfl) hb
        · simp at ho
          subst ho
          have e8 : a.tmps.getD 118 undef = .bool (!qu) := hR.dep ⟨8, .guard⟩ (by simp) rfl
          have b8 : a.tmps.getD 8 undef = .pointer (some ⟨b8, 0, none⟩) := hR.base 8 (by kernel_rfl)
          obtain ⟨⟨cx0, cx1, cx2⟩, -⟩ := row_cells (heap_up hR.below HX8.out)
          cases qu
          · refine guard_skip rfl rfl rfl (b := false) e8 (by decide) ?_
            exact hK _ _ rfl (Below.refl _ _)
          · refine guard_step rfl rfl rfl (b := false) e8 ?_
            go_simp
            exact hK _ _ (rfl) (Below.refl _ _)
        · simp at ho
          subst ho
          have e11 : a.tmps.getD 121 undef = (bif qu then .agg #[.bool ra.neg, .string (encS ra.num), .string (encS ra.den)] else undef) := hR.dep ⟨11, .data⟩ (by simp) rfl
          have e12 : a.tmps.getD 122 undef = (bif qu then .agg #[.bool ra.neg, .string (encS ra.num), .string (encS ra.den)] else undef) := hR.dep ⟨12, .data⟩ (by simp) rfl
          have e8 : a.tmps.getD 118 undef = .bool (!qu) := hR.dep ⟨8, .guard⟩ (by simp) rfl
          cases qu
          · refine guard_skip rfl rfl rfl (b := false) e8 (by decide) ?_
            exact hK _ _ rfl (Below.refl _ _)
          · refine guard_step rfl rfl rfl (b := false) e8 ?_
            go_simp
            exact hK _ _ (rfl) (Below.refl _ _)
        · simp at ho
          subst ho
          have e8 : a.tmps.getD 118 undef = .bool (!qu) := hR.dep ⟨8, .data⟩ (by simp) rfl
          have e13 : a.tmps.getD 123 undef = (bif qu then .bool true else undef) := hR.dep ⟨13, .data⟩ (by simp) rfl
          have e5 : a.tmps.getD 115 undef = .bool true := hR.dep ⟨5, .guard⟩ (by simp) rfl
          cases qu
          · refine guard_step rfl rfl rfl (b := true) e5 ?_
            go_simp
            exact hK _ _ (rfl) (Below.refl _ _)
          · refine guard_step rfl rfl rfl (b := true) e5 ?_
            go_simp
            exact hK _ _ (rfl) (Below.refl _ _)
        · simp at ho
          subst ho
          have e5 : a.tmps.getD 115 undef = .bool true := hR.dep ⟨5, .data⟩ (by simp) rfl
          have e14 : a.tmps.getD 124 undef = .bool true := hR.dep ⟨14, .data⟩ (by simp) rfl
          refine plain_step rfl rfl ?_
          go_simp
          exact hK _ _ (rfl) (Below.refl _ _)
        · simp at ho
          subst ho
          have e15 : a.tmps.getD 125 undef = .bool true := hR.dep ⟨15, .data⟩ (by simp) rfl
          refine plain_step rfl rfl ?_
          go_simp
          exact hK _ _ (rfl) (Below.refl _ _)
      · intro s w hS hb
        have e16 : s 17 = .bool true := hS 16 (by decide)
        simp only [over, Nat.zero_add, Nat.reduceAdd, Nat.reduceLeDiff, Nat.reduceLT, decide_true, decide_false, Bool.and_true, Bool.and_false, Bool.or_false, Bool.or_true, cond_true, cond_false]
        have HB := Lib.hid (HB.out.trans (hb.mono HB.out.size))
        have HI0 := Lib.hid (heap_up hb HI0.out)
        have HI1 := Lib.hid (heap_up hb HI1.out)
        have HI2 := Lib.hid (heap_up hb HI2.out)
        have HX8 := Lib.hid (heap_up hb HX8.out)
        have HX9 := Lib.hid (heap_up hb HX9.out)
        have HX10 := Lib.hid (heap_up hb HX10.out)
        have HX11 := Lib.hid (heap_up hb HX11.out)
        have HX12 := Lib.hid (heap_up hb HX12.out)
        have HX15 := Lib.hid (heap_up hb HX15.out)
        obtain ⟨wr10, hw8⟩ : ∃ w8, w8 = w := ⟨_, rfl⟩
        subst hw8
        rw [e16]
        clear hS hb e16
        go_wp2_with fail
        refine wp_region_vals (w := wr10) (by kernel_rfl) (SS11 b8 b9 b10 ra rb rc nb d sab sabc) (fun t => (decide (6 ≤ t) && decide (t < 7)) || (decide (126 ≤ t) && decide (t < 159))) (by kernel_rfl) (by kernel_rfl) (by kernel_rfl) (SS11_up b8 b9 b10 ra rb rc nb d sab sabc) ?_ ?_
        · intro i hi o listed a w hR K hK
          have ho := hR.at_
          have hi : i < 34 := hi
          have hii : i = 0 ∨ i = 1 ∨ i = 2 ∨ i = 3 ∨ i = 4 ∨ i = 5 ∨ i = 6 ∨ i = 7 ∨ i = 8 ∨ i = 9 ∨ i = 10 ∨ i = 11 ∨ i = 12 ∨ i = 13 ∨ i = 14 ∨ i = 15 ∨ i = 16 ∨ i = 17 ∨ i = 18 ∨ i = 19 ∨ i = 20 ∨ i = 21 ∨ i = 22 ∨ i = 23 ∨ i = 24 ∨ i = 25 ∨ i = 26 ∨ i = 27 ∨ i = 28 ∨ i = 29 ∨ i = 30 ∨ i = 31 ∨ i = 32 ∨ i = 33 := by omega
          rcases hii with rfl | rfl | rfl | rfl | rfl | rfl | rfl | rfl | rfl | rfl | rfl | rfl | rfl | rfl | rfl | rfl | rfl | rfl | rfl | rfl | rfl | rfl | rfl | rfl | rfl | rfl | rfl | rfl | rfl | rfl | rfl | rfl | rfl | rfl
          · simp at ho
            subst ho
            have b7 : a.tmps.getD 7 undef = .bool true := hR.base 7 (by kernel_rfl)
            refine plain_step rfl rfl ?_
            go_simp
            exact hK _ _ (rfl) (Below.refl _ _)
          · simp at ho
            subst ho
            have e0 : a.tmps.getD 126 undef = .bool true := hR.dep ⟨0, .data⟩ (by simp) rfl
            refine plain_step rfl rfl ?_
            go_simp
            exact hK _ _ (rfl) (Below.refl _ _)
          · simp at ho
            subst ho
            have e1 : a.tmps.getD 127 undef = .bool true := hR.dep ⟨1, .guard⟩ (by simp) rfl
            have b13 : a.tmps.getD 13 undef = .bool true := hR.base 13 (by kernel_rfl)
            refine guard_step rfl rfl rfl (b := true) e1 ?_
            go_simp
            exact hK _ _ (rfl) (Below.refl _ _)
          · simp at ho
            subst ho
            have e1 : a.tmps.getD 127 undef = .bool true := hR.dep ⟨1, .data⟩ (by simp) rfl
            have e2 : a.tmps.getD 128 undef = .bool true := hR.dep ⟨2, .data⟩ (by simp) rfl
            refine plain_step rfl rfl ?_
            go_simp
            exact hK _ _ (rfl) (Below.refl _ _)
          · simp at ho
            subst ho
            have e3 : a.tmps.getD 129 undef = .bool true := hR.dep ⟨3, .data⟩ (by simp) rfl
            refine plain_step rfl rfl ?_
            go_simp
            exact hK _ _ (rfl) (Below.refl _ _)
          · simp at ho
            subst ho
            have e4 : a.tmps.getD 130 undef = .bool true := hR.dep ⟨4, .guard⟩ (by simp) rfl
            have b14 : a.tmps.getD 14 undef = .bool true := hR.base 14 (by kernel_rfl)
            refine guard_step rfl rfl rfl (b := true) e4 ?_
            go_simp
            exact hK _ _ (rfl) (Below.refl _ _)
          · simp at ho
            subst ho
            have e4 : a.tmps.getD 130 undef = .bool true := hR.dep ⟨4, .data⟩ (by simp) rfl
            have e5 : a.tmps.getD 131 undef = .bool true := hR.dep ⟨5, .data⟩ (by simp) rfl
            refine plain_step rfl rfl ?_
            go_simp
            exact hK _ _ (rfl) (Below.refl _ _)
          · simp at ho
            subst ho
            have e6 : a.tmps.getD 132 undef = .bool true := hR.dep ⟨6, .data⟩ (by simp) rfl
            refine plain_step rfl rfl ?_
            go_simp
            exact hK _ _ (rfl) (Below.refl _ _)
          · simp at ho
            subst ho
            have e7 : a.tmps.getD 133 undef = .bool true := hR.dep ⟨7, .guard⟩ (by simp) rfl
            have b17 : a.tmps.getD 17 undef = .bool true := hR.base 17 (by kernel_rfl)
            refine guard_step rfl rfl rfl (b := true) e7 ?_
            go_simp
            exact hK _ _ (rfl) (Below.refl _ _)
          · simp at ho
            subst ho
            have e7 : a.tmps.getD 133 undef = .bool true := hR.dep ⟨7, .data⟩ (by simp) rfl
            have e8 : a.tmps.getD 134 undef = .bool true := hR.dep ⟨8, .data⟩ (by simp) rfl
            refine plain_step rfl rfl ?_
            go_simp
            exact hK _ _ (rfl) (Below.refl _ _)
          · simp at ho
            subst ho
            have e9 : a.tmps.getD 135 undef = .bool true := hR.dep ⟨9, .data⟩ (by simp) rfl
            refine plain_step rfl rfl ?_
            go_simp
            exact hK _ _ (rfl) (Below.refl _ _)
          · simp at ho
            subst ho
            have e10 : a.tmps.getD 136 undef = .bool true := hR.dep ⟨10, .guard⟩ (by simp) rfl
            have b8 : a.tmps.getD 8 undef = .pointer (some ⟨b8, 0, none⟩) := hR.base 8 (by kernel_rfl)
            obtain ⟨⟨cx0, cx1, cx2⟩, -⟩ := row_cells (heap_up hR.below HX8.out)
            refine guard_step rfl rfl rfl (b := true) e10 ?_
            go_simp
            exact hK _ _ (rfl) (Below.refl _ _)
          · simp at ho
            subst ho
            have e10 : a.tmps.getD 136 undef = .bool true := hR.dep ⟨10, .guard⟩ (by simp) rfl
            have b9 : a.tmps.getD 9 undef = .pointer (some ⟨b9, 0, none⟩) := hR.base 9 (by kernel_rfl)
            obtain ⟨⟨cx0, cx1, cx2⟩, -⟩ := row_cells (heap_up hR.below HX9.out)
            refine guard_step rfl rfl rfl (b := true) e10 ?_
            go_simp
            exact hK _ _ (rfl) (Below.refl _ _)
          · simp at ho
            subst ho
            have e11 : a.tmps.getD 137 undef = .agg #[.bool ra.neg, .string (encS ra.num), .string (encS ra.den)] := hR.dep ⟨11, .data⟩ (by simp) rfl
            have e12 : a.tmps.getD 138 undef = .agg #[.bool rb.neg, .string (encS rb.num), .string (encS rb.den)] := hR.dep ⟨12, .data⟩ (by simp) rfl
            have e10 : a.tmps.getD 136 undef = .bool true := hR.dep ⟨10, .guard⟩ (by simp) rfl
            refine guard_step rfl rfl rfl (b := true) e10 ?_
            go_simp
            refine (C21.out w).mono ?_
            rintro e w' ⟨rfl, hb⟩
            exact hK _ _ (rfl) hb
          · simp at ho
            subst ho
            have e10 : a.tmps.getD 136 undef = .bool true := hR.dep ⟨10, .guard⟩ (by simp) rfl
            have b8 : a.tmps.getD 8 undef = .pointer (some ⟨b8, 0, none⟩) := hR.base 8 (by kernel_rfl)
            obtain ⟨⟨cx0, cx1, cx2⟩, -⟩ := row_cells (heap_up hR.below HX8.out)
            refine guard_step rfl rfl rfl (b := true) e10 ?_
            go_simp
            exact hK _ _ (rfl) (Below.refl _ _)
          · simp at ho
            subst ho
            have e10 : a.tmps.getD 136 undef = .bool true := hR.dep ⟨10, .guard⟩ (by simp) rfl
            have b9 : a.tmps.getD 9 undef = .pointer (some ⟨b9, 0, none⟩) := hR.base 9 (by kernel_rfl)
            obtain ⟨⟨cx0, cx1, cx2⟩, -⟩ := row_cells (heap_up hR.below HX9.out)
            refine guard_step rfl rfl rfl (b := true) e10 ?_
            go_simp
            exact hK _ _ (rfl) (Below.refl _ _)
          · simp at ho
            subst ho
            have e15 : a.tmps.getD 141 undef = .agg #[.bool rb.neg, .string (encS rb.num), .string (encS rb.den)] := hR.dep ⟨15, .data⟩ (by simp) rfl
            have e10 : a.tmps.getD 136 undef = .bool true := hR.dep ⟨10, .guard⟩ (by simp) rfl
            refine guard_step rfl rfl rfl (b := true) e10 ?_
            go_simp
            refine (C19.out w).mono ?_
            rintro e w' ⟨rfl, hb⟩
            exact hK _ _ (rfl) hb
          · simp at ho
            subst ho
            have e14 : a.tmps.getD 140 undef = .agg #[.bool ra.neg, .string (encS ra.num), .string (encS ra.den)] := hR.dep ⟨14, .data⟩ (by simp) rfl
            have e16 : a.tmps.getD 142 undef = .agg #[.bool nb.neg, .string (encS nb.num), .string (encS nb.den)] := hR.dep ⟨16, .data⟩ (by simp) rfl
            have e10 : a.tmps.getD 136 undef = .bool true := hR.dep ⟨10, .guard⟩ (by simp) rfl
            refine guard_step rfl rfl rfl (b := true) e10 ?_
            go_simp
            refine (C22.out w).mono ?_
            rintro e w' ⟨rfl, hb⟩
            exact hK _ _ (rfl) hb
          · simp at ho
            subst ho
            have e13 : a.tmps.getD 139 undef = .agg #[.bool d.neg, .string (encS d.num), .string (encS d.den)] := hR.dep ⟨13, .data⟩ (by simp) rfl
            have e17 : a.tmps.getD 143 undef = .agg #[.bool d.neg, .string (encS d.num), .string (encS d.den)] := hR.dep ⟨17, .data⟩ (by simp) rfl
            have e10 : a.tmps.getD 136 undef = .bool true := hR.dep ⟨10, .guard⟩ (by simp) rfl
            refine guard_step rfl rfl rfl (b := true) e10 ?_
            go_simp
            exact hK _ _ (rfl) (Below.refl _ _)
          · simp at ho
            subst ho
            have e10 : a.tmps.getD 136 undef = .bool true := hR.dep ⟨10, .data⟩ (by simp) rfl
            have e18 : a.tmps.getD 144 undef = .bool true := hR.dep ⟨18, .data⟩ (by simp) rfl
            refine plain_step rfl rfl ?_
            go_simp
            exact hK _ _ (rfl) (Below.refl _ _)
          · simp at ho
            subst ho
            have e19 : a.tmps.getD 145 undef = .bool true := hR.dep ⟨19, .data⟩ (by simp) rfl
            refine plain_step rfl rfl ?_
            go_simp
            exact hK _ _ (rfl) (Below.refl _ _)
          · simp at ho
            subst ho
            have e20 : a.tmps.getD 146 undef = .bool true := hR.dep ⟨20, .guard⟩ (by simp) rfl
            have b8 : a.tmps.getD 8 undef = .pointer (some ⟨b8, 0, none⟩) := hR.base 8 (by kernel_rfl)
            obtain ⟨⟨cx0, cx1, cx2⟩, -⟩ := row_cells (heap_up hR.below HX8.out)
            refine guard_step rfl rfl rfl (b := true) e20 ?_
            go_simp
            exact hK _ _ (rfl) (Below.refl _ _)
          · simp at ho
            subst ho
            have e20 : a.tmps.getD 146 undef = .bool true := hR.dep ⟨20, .guard⟩ (by simp) rfl
            have b9 : a.tmps.getD 9 undef = .pointer (some ⟨b9, 0, none⟩) := hR.base 9 (by kernel_rfl)
            obtain ⟨⟨cx0, cx1, cx2⟩, -⟩ := row_cells (heap_up hR.below HX9.out)
            refine guard_step rfl rfl rfl (b := true) e20 ?_
            go_simp
            exact hK _ _ (rfl) (Below.refl _ _)
          · simp at ho
            subst ho
            have e20 : a.tmps.getD 146 undef = .bool true := hR.dep ⟨20, .guard⟩ (by simp) rfl
            have b10 : a.tmps.getD 10 undef = .pointer (some ⟨b10, 0, none⟩) := hR.base 10 (by kernel_rfl)
            obtain ⟨⟨cx0, cx1, cx2⟩, -⟩ := row_cells (heap_up hR.below HX10.out)
            refine guard_step rfl rfl rfl (b := true) e20 ?_
            go_simp
            exact hK _ _ (rfl) (Below.refl _ _)
          · simp at ho
            subst ho
            have e21 : a.tmps.getD 147 undef = .agg #[.bool ra.neg, .string (encS ra.num), .string (encS ra.den)] := hR.dep ⟨21, .data⟩ (by simp) rfl
            have e22 : a.tmps.getD 148 undef = .agg #[.bool rb.neg, .string (encS rb.num), .string (encS rb.den)] := hR.dep ⟨22, .data⟩ (by simp) rfl
            have e23 : a.tmps.getD 149 undef = .agg #[.bool rc.neg, .string (encS rc.num), .string (encS rc.den)] := hR.dep ⟨23, .data⟩ (by simp) rfl
            have e20 : a.tmps.getD 146 undef = .bool true := hR.dep ⟨20, .guard⟩ (by simp) rfl
            have g21 := e21
            rw [Array.getD_eq_getD_getElem?] at g21
            have g22 := e22
            rw [Array.getD_eq_getD_getElem?] at g22
            have g23 := e23
            rw [Array.getD_eq_getD_getElem?] at g23
            refine guard_step rfl rfl rfl (b := true) e20 ?_
            go_simp
            refine hK _ _ ?_ ((Below.refl _ _).alloc (Nat.le_refl _) _); exact lit_lstR (l := [rawR ra, rawR rb, rawR rc]) (cap := 3) (heap_alloc_new w _) (by simp) rfl
          · simp at ho
            subst ho
            have e24 := hR.dep ⟨24, .data⟩ (by simp) rfl
            have e20 : a.tmps.getD 146 undef = .bool true := hR.dep ⟨20, .guard⟩ (by simp) rfl
            have f24 : LstR w (a.tmps.getD 150 undef) [rawR ra, rawR rb, rawR rc] := e24
            rw [Array.getD_eq_getD_getElem?] at f24
            refine guard_step rfl rfl rfl (b := true) e20 ?_
            go_simp
            refine (HSUM.out w _ f24).mono ?_
            rintro e w' ⟨rfl, hb⟩
            exact hK _ _ (rfl) hb
          · simp at ho
            subst ho
            have e20 : a.tmps.getD 146 undef = .bool true := hR.dep ⟨20, .guard⟩ (by simp) rfl
            have b8 : a.tmps.getD 8 undef = .pointer (some ⟨b8, 0, none⟩) := hR.base 8 (by kernel_rfl)
            obtain ⟨⟨cx0, cx1, cx2⟩, -⟩ := row_cells (heap_up hR.below HX8.out)
            refine guard_step rfl rfl rfl (b := true) e20 ?_
            go_simp
            exact hK _ _ (rfl) (Below.refl _ _)
          · simp at ho
            subst ho
            have e20 : a.tmps.getD 146 undef = .bool true := hR.dep ⟨20, .guard⟩ (by simp) rfl
            have b9 : a.tmps.getD 9 undef = .pointer (some ⟨b9, 0, none⟩) := hR.base 9 (by kernel_rfl)
            obtain ⟨⟨cx0, cx1, cx2⟩, -⟩ := row_cells (heap_up hR.below HX9.out)
            refine guard_step rfl rfl rfl (b := true) e20 ?_
            go_simp
            exact hK _ _ (rfl) (Below.refl _ _)
          · simp at ho
            subst ho
            have e26 : a.tmps.getD 152 undef = .agg #[.bool ra.neg, .string (encS ra.num), .string (encS ra.den)] := hR.dep ⟨26, .data⟩ (by simp) rfl
            have e27 : a.tmps.getD 153 undef = .agg #[.bool rb.neg, .string (encS rb.num), .string (encS rb.den)] := hR.dep ⟨27, .data⟩ (by simp) rfl
            have e20 : a.tmps.getD 146 undef = .bool true := hR.dep ⟨20, .guard⟩ (by simp) rfl
            refine guard_step rfl rfl rfl (b := true) e20 ?_
            go_simp
            refine (C3.out w).mono ?_
            rintro e w' ⟨rfl, hb⟩
            exact hK _ _ (rfl) hb
          · simp at ho
            subst ho
            have e20 : a.tmps.getD 146 undef = .bool true := hR.dep ⟨20, .guard⟩ (by simp) rfl
            have b10 : a.tmps.getD 10 undef = .pointer (some ⟨b10, 0, none⟩) := hR.base 10 (by kernel_rfl)
            obtain ⟨⟨cx0, cx1, cx2⟩, -⟩ := row_cells (heap_up hR.below HX10.out)
            refine guard_step rfl rfl rfl (b := true) e20 ?_
            go_simp
            exact hK _ _ (rfl) (Below.refl _ _)
          · simp at ho
            subst ho
            have e28 : a.tmps.getD 154 undef = .agg #[.bool sab.neg, .string (encS sab.num), .string (encS sab.den)] := hR.dep ⟨28, .data⟩ (by simp) rfl
            have e29 : a.tmps.getD 155 undef = .agg #[.bool rc.neg, .string (encS rc.num), .string (encS rc.den)] := hR.dep ⟨29, .data⟩ (by simp) rfl
            have e20 : a.tmps.getD 146 undef = .bool true := hR.dep ⟨20, .guard⟩ (by simp) rfl
            refine guard_step rfl rfl rfl (b := true) e20 ?_
            go_simp
            refine (C7.out w).mono ?_
            rintro e w' ⟨rfl, hb⟩
            exact hK _ _ (rfl) hb
          · simp at ho
            subst ho
            have e25 : a.tmps.getD 151 undef = .agg #[.bool sabc.neg, .string (encS sabc.num), .string (encS sabc.den)] := hR.dep ⟨25, .data⟩ (by simp) rfl
            have e30 : a.tmps.getD 156 undef = .agg #[.bool sabc.neg, .string (encS sabc.num), .string (encS sabc.den)] := hR.dep ⟨30, .data⟩ (by simp) rfl
            have e20 : a.tmps.getD 146 undef = .bool true := hR.dep ⟨20, .guard⟩ (by simp) rfl
            refine guard_step rfl rfl rfl (b := true) e20 ?_
            go_simp
            exact hK _ _ (rfl) (Below.refl _ _)
          · simp at ho
            subst ho
            have e20 : a.tmps.getD 146 undef = .bool true := hR.dep ⟨20, .data⟩ (by simp) rfl
            have e31 : a.tmps.getD 157 undef = .bool true := hR.dep ⟨31, .data⟩ (by simp) rfl
            refine plain_step rfl rfl ?_
            go_simp
            exact hK _ _ (rfl) (Below.refl _ _)
          · simp at ho
            subst ho
            have e32 : a.tmps.getD 158 undef = .bool true := hR.dep ⟨32, .data⟩ (by simp) rfl
            refine plain_step rfl rfl ?_
            go_simp
            exact hK _ _ (rfl) (Below.refl _ _)
        · intro s w hS hb
          have e33 : s 6 = .bool true := hS 33 (by decide)
          simp only [over, Nat.zero_add, Nat.reduceAdd, Nat.reduceLeDiff, Nat.reduceLT, decide_true, decide_false, Bool.and_true, Bool.and_false, Bool.or_false, Bool.or_true, cond_true, cond_false]
          have HB := Lib.hid (HB.out.trans (hb.mono HB.out.size))
          have HI0 := Lib.hid (heap_up hb HI0.out)
          have HI1 := Lib.hid (heap_up hb HI1.out)
          have HI2 := Lib.hid (heap_up hb HI2.out)
          have HX8 := Lib.hid (heap_up hb HX8.out)
          have HX9 := Lib.hid (heap_up hb HX9.out)
          have HX10 := Lib.hid (heap_up hb HX10.out)
          have HX11 := Lib.hid (heap_up hb HX11.out)
          have HX12 := Lib.hid (heap_up hb HX12.out)
          have HX15 := Lib.hid (heap_up hb HX15.out)
          obtain ⟨wr11, hw8⟩ : ∃ w8, w8 = w := ⟨_, rfl⟩
          subst hw8
          rw [e33]
          clear hS hb e33
          go_wp2_with fail
          go_ret
          exact ⟨rfl, HB.out⟩
end Go.Proofs.YtancflpioigjbaaGreatDoor.ratioField
