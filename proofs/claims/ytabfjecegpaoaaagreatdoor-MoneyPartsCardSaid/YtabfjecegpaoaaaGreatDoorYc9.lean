/- Contracts that the proofs of this seat share. Each theorem names its conditions. -/

import Derived.Test.YtabfjecegpaoaaaGreatDoorYc5
import Derived.Test.YtabfjecegpaoaaaGreatDoorYc8
import Derived.Test.YtabfjecegpaoaaaGreatDoorYb9
namespace Go.Proofs.YtabfjecegpaoaaaGreatDoor
open Go.RowKit Go.Shelf
open Dgt
set_option linter.unusedVariables false
def textV (a : Rt) : Value := if centsOk a = true then .tuple #[.string ⟨(textM a).toArray⟩, .bool true] else .tuple #[.string ⟨#[]⟩, .bool false]
theorem text_one {a : Rt} {x : UInt8} (h : (centN a).num % 100 < 10) (hx : Lib.decDigits ((centN a).num % 100) = [x]) :
  (⟨(textM a).toArray⟩ : ByteArray) = (((⟨#[36]⟩ ++ (if a.neg then ⟨#[45]⟩ else ⟨#[]⟩)) ++ ⟨(Lib.decDigits ((centN a).num / 100)).toArray⟩) ++ ⟨#[46]⟩) ++ (⟨#[48]⟩ ++ ⟨#[x]⟩) := by
 unfold textM two; rw [if_pos h, hx];show _ = ((((⟨[36].toArray⟩ : ByteArray) ++ (if a.neg then ⟨[45].toArray⟩ else ⟨([] : List UInt8).toArray⟩)) ++ ⟨(Lib.decDigits ((centN a).num / 100)).toArray⟩) ++ ⟨[46].toArray⟩) ++ (⟨[48].toArray⟩ ++ ⟨[x].toArray⟩);unfold sgnL;cases a.neg <;> simp [str_append]
theorem text_two {a : Rt} {x y : UInt8} (h : ¬ (centN a).num % 100 < 10) (hx : Lib.decDigits ((centN a).num % 100) = [x, y]) :
  (⟨(textM a).toArray⟩ : ByteArray) = (((⟨#[36]⟩ ++ (if a.neg then ⟨#[45]⟩ else ⟨#[]⟩)) ++ ⟨(Lib.decDigits ((centN a).num / 100)).toArray⟩) ++ ⟨#[46]⟩) ++ ⟨#[x, y]⟩ := by
 unfold textM two; rw [if_neg h, hx];show _ = ((((⟨[36].toArray⟩ : ByteArray) ++ (if a.neg then ⟨[45].toArray⟩ else ⟨([] : List UInt8).toArray⟩)) ++ ⟨(Lib.decDigits ((centN a).num / 100)).toArray⟩) ++ ⟨[46].toArray⟩) ++ ⟨[x, y].toArray⟩;unfold sgnL;cases a.neg <;> simp [str_append]
def EMoText_r_4_1 (a : Rt) (t : Rt) (m : Rt) (u : Nat) (c : Nat) (nn : Bool) : Nat → Value
 | 0 => .agg #[.bool nn, .string (encS a.num), .string (encS a.den)]
 | 1 => .agg #[.bool t.neg, .string (encS t.num), .string (encS t.den)]
 | 2 => .agg #[.bool m.neg, .string (encS m.num), .string (encS m.den)]
 | 3 => .string (encS m.num)
 | 4 => .string (encS 100)
 | 5 => .tuple #[.string (encS u), .string (encS c), .bool true]
 | 6 => .tuple #[.string (encS u), .string (encS c), .bool true]
 | 7 => .string (encS u)
 | 8 => .string (encS c)
 | 9 => .bool true
 | 10 => .string (encS u)
 | 11 => .string (encS c)
 | 12 => .bool true
 | _ => undef
def SMoText_r_4_1 (a : Rt) (t : Rt) (m : Rt) (u : Nat) (c : Nat) (nn : Bool) (ix : Nat) (v : Value) (w : World) : Prop :=
 match ix with
 | ix => v = EMoText_r_4_1 a t m u c nn ix
theorem SMoText_r_4_1_up (a : Rt) (t : Rt) (m : Rt) (u : Nat) (c : Nat) (nn : Bool) (ix : Nat) (v : Value) (w w' : World) (hb : Below w.heap.size w w') (h : SMoText_r_4_1 a t m u c nn ix v w) : SMoText_r_4_1 a t m u c nn ix v w' := by
 exact h
set_option maxHeartbeats 2000000 in
set_option maxRecDepth 100000 in
theorem MoText_r {a : Rt} (ha : a.Ok) (za : Rz a 90000) (wq : World) (htab : Lib.TabIs Tryz.prog wq "internal/strconv.uint64pow10" .u64 Lib.pow10Tab):
  Calls Tryz.prog 30 #[.agg #[.bool a.neg, .string (encS a.num), .string (encS a.den)]] wq fun e w' => e = .returned (textV a) ∧ Below wq.heap.size wq w' := by
 have HTB := Lib.hid (Lib.tabBelow_of_tabIs htab);have z2 : Rz (ofR 100) 90000 := (ofR_sz (by decide) (by decide)).mono (by decide);have zm : Rz (centN a) (90000 + 90000) := by unfold centN; exact mulR_sz za z2
 have c1 := fun w => MoCents_r ha za w
 unfold centsV at c1;have c2 := fun w => RatOf_any 100 w (by decide) (by decide)
 have c3 := fun w => RatMul_r (IsR.of ha za) (IsR.of hun_ok z2) (by decide) (by decide) w
 rw [show mulR a (ofR 100) = centN a from rfl] at c3; unfold rtV at c3;have c4 := fun w => Of_any 100 w (by decide)
 rw [show (100 : Int).toNat = 100 from rfl] at c4;have c5 := fun w => Quo_n (numS_encS (centN a).num) (numS_encS 100) (zm.1.enc (by decide)) (Nat.le_trans (encS_size_lt (show Sz 100 1 by unfold Sz; decide)) (by decide)) w
 rw [show remS (centN a).num 100 = (centN a).num % 100 from rfl, show decide (0 < 100) = true from rfl] at c5;have hc : (centN a).num % 100 < 100 := Nat.mod_lt _ (by decide);have su : Sz ((centN a).num / 100) 180000 := zm.1.div _;have sc : Sz ((centN a).num % 100) 180000 := zm.1.mod _;have iu := decL_len su;have hU : ((Lib.decDigits ((centN a).num / 100)).length : Int) ≤ 600000 := by omega
 have c6 : ∀ w, Below wq.heap.size wq w → _ := fun w h => Text_any (encS ((centN a).num / 100)) w (Nat.le_trans (encS_size_lt su) (by decide)) (HTB.out.on h).here
 have c7 : ∀ w, Below wq.heap.size wq w → _ := fun w h => Text_any (encS ((centN a).num % 100)) w (Nat.le_trans (encS_size_lt sc) (by decide)) (HTB.out.on h).here
 simp only [numS_encS] at c6 c7;have K1 := Lib.hid (fun (x : UInt8) => text_one (a := a) (x := x)); have K2 := Lib.hid (fun (x y : UInt8) => text_two (a := a) (x := x) (y := y));have HV : Hid (textV a = if centsOk a = true then .tuple #[.string ⟨(textM a).toArray⟩, .bool true] else .tuple #[.string ⟨#[]⟩, .bool false]) := Lib.hid rfl;obtain ⟨R, h0⟩ : ∃ R, textV a = R := ⟨_, rfl⟩; rw [h0] at HV ⊢;obtain ⟨ok, h1⟩ : ∃ k, centsOk a = k := ⟨_, rfl⟩; rw [h1] at c1 HV;obtain ⟨ci, h2⟩ : ∃ k, centsI a = k := ⟨_, rfl⟩; rw [h2] at c1;obtain ⟨X, h3⟩ : ∃ X, (⟨(textM a).toArray⟩ : ByteArray) = X := ⟨_, rfl⟩; rw [h3] at K1 K2 HV;obtain ⟨m, h4⟩ : ∃ m, centN a = m := ⟨_, rfl⟩; rw [h4] at c3 c5 K1 K2 c6 c7 hc hU;obtain ⟨u, h5⟩ : ∃ u, m.num / 100 = u := ⟨_, rfl⟩; rw [h5] at c5 K1 K2 c6 hU;obtain ⟨c, h6⟩ : ∃ u, m.num % 100 = u := ⟨_, rfl⟩; rw [h6] at c5 K1 K2 c7 hc
 obtain ⟨U, h7⟩ : ∃ U, Lib.decDigits u = U := ⟨_, rfl⟩; rw [h7] at c6 K1 K2 hU;obtain ⟨t, h8⟩ : ∃ t, ofR 100 = t := ⟨_, rfl⟩; rw [h8] at c2 c3;obtain ⟨nn, h9⟩ : ∃ b, a.neg = b := ⟨_, rfl⟩; rw [h9] at c1 c3 K1 K2 ⊢;have C1 : Hid (∀ w, Calls Tryz.prog 29 #[.agg #[.bool nn, .string (encS a.num), .string (encS a.den)]] w fun e w' => e = .returned (.tuple #[.int .i64 ci, .bool ok]) ∧ Below w.heap.size w w') := Lib.hid fun w => by
  have h := c1 w;exact h
 have C2 : Hid (∀ w, Calls Tryz.prog 59 #[.int .i64 100] w fun e w' => e = .returned (.agg #[.bool t.neg, .string (encS t.num), .string (encS t.den)]) ∧ Below w.heap.size w w') := Lib.hid fun w => by
  have h := c2 w;exact h
 have C3 : Hid (∀ w, Calls Tryz.prog 61 #[.agg #[.bool nn, .string (encS a.num), .string (encS a.den)], .agg #[.bool t.neg, .string (encS t.num), .string (encS t.den)]] w fun e w' => e = .returned (.agg #[.bool m.neg, .string (encS m.num), .string (encS m.den)]) ∧ Below w.heap.size w w') := Lib.hid fun w => by
  have h := c3 w;exact h
 have C4 : Hid (∀ w, Calls Tryz.prog 72 #[.int .i64 100] w fun e w' => e = .returned (.string (encS 100)) ∧ Below w.heap.size w w') := Lib.hid fun w => by
  have h := c4 w;exact h
 have C5 : Hid (∀ w, Calls Tryz.prog 74 #[.string (encS m.num), .string (encS 100)] w fun e w' => e = .returned (.tuple #[.string (encS u), .string (encS c), .bool true]) ∧ Below w.heap.size w w') := Lib.hid fun w => by
  have h := c5 w;exact h
 have C6 : Hid (∀ w, Below wq.heap.size wq w → Calls Tryz.prog 75 #[.string (encS u)] w fun e w' => e = .returned (.string ⟨U.toArray⟩) ∧ Below w.heap.size w w') := Lib.hid fun w hp0 => by
  have h := c6 w hp0;exact h
 have HC7 := Lib.hid c7; have HCC := Lib.hid hc; have HU := Lib.hid hU;clear c1 c2 c3 c4 c5 c6 c7 h0 h1 h2 h3 h4 h5 h6 h7 h8 h9 z2 zm hc su sc iu hU htab ha za;have HB := Lib.hid (Below.refl wq.heap.size wq);obtain ⟨n0, hn0⟩ : ∃ n, n = wq.heap.size := ⟨_, rfl⟩; rw [← hn0]; have HN0 := Lib.hid hn0; clear hn0;go_enter Tryz.func30, Tryz.ntmps30;obtain ⟨W1, bk1, hW1, hbk1, HX1_1, HB, HG1_1, hup⟩ := boxn HB HN0 (.cells #[.bool nn, .string (encS a.num), .string (encS a.den)] 26);clear hup;obtain ⟨k2a, k2b, k2c⟩ := c3 HX1_1;go_wp2_with fail;clear hW1 hbk1 k2a k2b k2c;refine (C1.out _).mono ?_;rintro e w2 ⟨rfl, hb⟩;have HX1_1 := uH hb HX1_1;have HB := mH HB hb;clear hb;cases ok
 case false =>
  go_wp2_with fail;go_ret2;have h : R = .tuple #[.string ⟨#[]⟩, .bool false] := by rw [HV.out]; rfl
  subst h;exact ⟨rfl, by rw [HN0.out]; exact HB.out⟩
 case true =>
  go_wp2_with fail;refine wp_region_vals (w := w2) (by kernel_rfl) (SMoText_r_4_1 a t m u c nn) (fun t => (decide (6 ≤ t) && decide (t < 9)) || (decide (18 ≤ t) && decide (t < 28))) (by kernel_rfl) (by kernel_rfl) (by kernel_rfl) (SMoText_r_4_1_up a t m u c nn) ?_ ?_
  ·intro i hi ov_ listed av_ w hR K hK;have ho := hR.at_;have hi : i < 13 := hi;have hii : i = 0 ∨ i = 1 ∨ i = 2 ∨ i = 3 ∨ i = 4 ∨ i = 5 ∨ i = 6 ∨ i = 7 ∨ i = 8 ∨ i = 9 ∨ i = 10 ∨ i = 11 ∨ i = 12 := by omega
   rcases hii with rfl | rfl | rfl | rfl | rfl | rfl | rfl | rfl | rfl | rfl | rfl | rfl | rfl
   ·simp at ho;subst ho;have b1 : av_.tmps.getD 1 undef = .pointer (some ⟨bk1, 0, none⟩) := hR.base 1 (by kernel_rfl);obtain ⟨cx0, cx1, cx2⟩ := c3 (uH hR.below HX1_1);refine plain_step rfl rfl ?_;go_simp;exact hK _ _ rfl rB
   ·simp at ho;subst ho;refine plain_step rfl rfl ?_;go_simp;refine (C2.out w).mono ?_;rintro e w' ⟨rfl, hb⟩;exact hK _ _ (rfl) hb
   ·simp at ho;subst ho;have e0 : av_.tmps.getD 19 undef = .agg #[.bool nn, .string (encS a.num), .string (encS a.den)] := hR.dep ⟨0, .data⟩ (by simp) rfl;have e1 : av_.tmps.getD 20 undef = .agg #[.bool t.neg, .string (encS t.num), .string (encS t.den)] := hR.dep ⟨1, .data⟩ (by simp) rfl;refine plain_step rfl rfl ?_;go_simp;refine (C3.out w).mono ?_;rintro e w' ⟨rfl, hb⟩;exact hK _ _ (rfl) hb
   ·simp at ho;subst ho;have e2 : av_.tmps.getD 21 undef = .agg #[.bool m.neg, .string (encS m.num), .string (encS m.den)] := hR.dep ⟨2, .data⟩ (by simp) rfl;refine plain_step rfl rfl ?_;go_simp;exact hK _ _ rfl rB
   ·simp at ho;subst ho;refine plain_step rfl rfl ?_;go_simp;refine (C4.out w).mono ?_;rintro e w' ⟨rfl, hb⟩;exact hK _ _ (rfl) hb
   ·simp at ho;subst ho;have e3 : av_.tmps.getD 22 undef = .string (encS m.num) := hR.dep ⟨3, .data⟩ (by simp) rfl;have e4 : av_.tmps.getD 23 undef = .string (encS 100) := hR.dep ⟨4, .data⟩ (by simp) rfl;refine plain_step rfl rfl ?_;go_simp;refine (C5.out w).mono ?_;rintro e w' ⟨rfl, hb⟩;exact hK _ _ (rfl) hb
   ·simp at ho;subst ho;have e5 : av_.tmps.getD 24 undef = .tuple #[.string (encS u), .string (encS c), .bool true] := hR.dep ⟨5, .data⟩ (by simp) rfl;refine plain_step rfl rfl ?_;go_simp;exact hK _ _ rfl rB
   ·simp at ho;subst ho;have e6 : av_.tmps.getD 18 undef = .tuple #[.string (encS u), .string (encS c), .bool true] := hR.dep ⟨6, .data⟩ (by simp) rfl;refine plain_step rfl rfl ?_;go_simp;exact hK _ _ rfl rB
   ·simp at ho;subst ho;have e6 : av_.tmps.getD 18 undef = .tuple #[.string (encS u), .string (encS c), .bool true] := hR.dep ⟨6, .data⟩ (by simp) rfl;refine plain_step rfl rfl ?_;go_simp;exact hK _ _ rfl rB
   ·simp at ho;subst ho;have e6 : av_.tmps.getD 18 undef = .tuple #[.string (encS u), .string (encS c), .bool true] := hR.dep ⟨6, .data⟩ (by simp) rfl;refine plain_step rfl rfl ?_;go_simp;exact hK _ _ rfl rB
   ·simp at ho;subst ho;have e7 : av_.tmps.getD 25 undef = .string (encS u) := hR.dep ⟨7, .data⟩ (by simp) rfl;refine plain_step rfl rfl ?_;go_simp;exact hK _ _ rfl rB
   ·simp at ho;subst ho;have e8 : av_.tmps.getD 26 undef = .string (encS c) := hR.dep ⟨8, .data⟩ (by simp) rfl;refine plain_step rfl rfl ?_;go_simp;exact hK _ _ rfl rB
   ·simp at ho;subst ho;have e9 : av_.tmps.getD 27 undef = .bool true := hR.dep ⟨9, .data⟩ (by simp) rfl;refine plain_step rfl rfl ?_;go_simp;exact hK _ _ rfl rB
  ·intro sv_ w hS hb;have e10 : sv_ 6 = .string (encS u) := hS 10 (by decide);have e11 : sv_ 7 = .string (encS c) := hS 11 (by decide);simp only [over, Nat.zero_add, Nat.reduceAdd, Nat.reduceLeDiff, Nat.reduceLT, decide_true, decide_false, Bool.and_true, Bool.and_false, Bool.or_false, Bool.or_true, cond_true, cond_false];have HB := mH HB hb;have HX1_1 := uH hb HX1_1;obtain ⟨w3, hw⟩ : ∃ w8, w8 = w := ⟨_, rfl⟩;subst hw;rw [e10, e11];clear hS hb e10 e11
   by_cases hc : c < 10
   ·have hx := Lib.decDigits_one hc; obtain ⟨x, hx1⟩ : ∃ x, UInt8.ofNat (48 + c) = x := ⟨_, rfl⟩; rw [hx1] at hx; clear hx1;have C7 : Hid (∀ w, Below wq.heap.size wq w → Calls Tryz.prog 75 #[.string (encS c)] w fun e w' => e = .returned (.string ⟨#[x]⟩) ∧ Below w.heap.size w w') := Lib.hid fun w hp0 => by
     have h := HC7.out w hp0;rw [hx] at h;exact h
    have HX := Lib.hid (K1.out x hc hx);go_wp2_with fail;refine (C7.out _ HB.out).mono ?_;rintro e w4 ⟨rfl, hb⟩;have HX1_1 := uH hb HX1_1;have HB := mH HB hb;clear hb;have k3 : w4.cell? ⟨bk1, 0, none⟩ = some (.bool nn) := by rw [Lib.cell_of_heap HX1_1.out]; rfl
    cases nn
    case false =>
     have hU := HU.out;go_wp2_with fail;clear k3;refine (C6.out _ HB.out).mono ?_;rintro e w5 ⟨rfl, hb⟩;have HX1_1 := uH hb HX1_1;have HB := mH HB hb;clear hb;have hU := HU.out;go_wp2_with fail;go_ret2;have h : R = .tuple #[.string X, .bool true] := by rw [HV.out]; rfl
     subst h;rw [HX.out];exact ⟨rfl, by rw [HN0.out]; exact HB.out⟩
    case true =>
     have hU := HU.out;go_wp2_with fail;clear k3;refine (C6.out _ HB.out).mono ?_;rintro e w6 ⟨rfl, hb⟩;have HX1_1 := uH hb HX1_1;have HB := mH HB hb;clear hb;have hU := HU.out;go_wp2_with fail;go_ret2;have h : R = .tuple #[.string X, .bool true] := by rw [HV.out]; rfl
     subst h;rw [HX.out];exact ⟨rfl, by rw [HN0.out]; exact HB.out⟩
   ·have hx := Lib.decDigits_two hc HCC.out; obtain ⟨x, hx1⟩ : ∃ x, UInt8.ofNat (48 + c / 10) = x := ⟨_, rfl⟩; obtain ⟨y, hx2⟩ : ∃ x, UInt8.ofNat (48 + c % 10) = x := ⟨_, rfl⟩; rw [hx1, hx2] at hx; clear hx1 hx2;have C7 : Hid (∀ w, Below wq.heap.size wq w → Calls Tryz.prog 75 #[.string (encS c)] w fun e w' => e = .returned (.string ⟨#[x, y]⟩) ∧ Below w.heap.size w w') := Lib.hid fun w hp0 => by
     have h := HC7.out w hp0;rw [hx] at h;exact h
    have HX := Lib.hid (K2.out x y hc hx);go_wp2_with fail;refine (C7.out _ HB.out).mono ?_;rintro e w7 ⟨rfl, hb⟩;have HX1_1 := uH hb HX1_1;have HB := mH HB hb;clear hb;have k4 : w7.cell? ⟨bk1, 0, none⟩ = some (.bool nn) := by rw [Lib.cell_of_heap HX1_1.out]; rfl
    cases nn
    case false =>
     have hU := HU.out;go_wp2_with fail;clear k4;refine (C6.out _ HB.out).mono ?_;rintro e w8 ⟨rfl, hb⟩;have HX1_1 := uH hb HX1_1;have HB := mH HB hb;clear hb;have hU := HU.out;go_wp2_with fail;go_ret2;have h : R = .tuple #[.string X, .bool true] := by rw [HV.out]; rfl
     subst h;rw [HX.out];exact ⟨rfl, by rw [HN0.out]; exact HB.out⟩
    case true =>
     have hU := HU.out;go_wp2_with fail;clear k4;refine (C6.out _ HB.out).mono ?_;rintro e w9 ⟨rfl, hb⟩;have HX1_1 := uH hb HX1_1;have HB := mH HB hb;clear hb;have hU := HU.out;go_wp2_with fail;go_ret2;have h : R = .tuple #[.string X, .bool true] := by rw [HV.out]; rfl
     subst h;rw [HX.out];exact ⟨rfl, by rw [HN0.out]; exact HB.out⟩
end Go.Proofs.YtabfjecegpaoaaaGreatDoor
