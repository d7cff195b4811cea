/- Contracts that the proofs of this seat share. Each theorem names its conditions. -/

import Derived.Test.YtabfjecegpaoaaaGreatDoorYc2
import Derived.Test.YtabfjecegpaoaaaGreatDoorYb9
namespace Go.Proofs.YtabfjecegpaoaaaGreatDoor
open Go.RowKit Go.Shelf
open Dgt
set_option linter.unusedVariables false
def stepsB (na : Bool) (sa da : ByteArray) (nb : Bool) (sb db : ByteArray) : Bool := rightR na sa da && rightR nb sb db && decide (0 < sgnR (valQ nb sb db))
theorem steps_r {a s : Rt} (ha : a.Ok) (hs : s.Ok) (h : 0 < sgnR s) : stepsB a.neg (encS a.num) (encS a.den) s.neg (encS s.num) (encS s.den) = true := by
 unfold stepsB; rw [rightR_of ha, rightR_of hs, valQ_of hs]; simp [h]
theorem fl_sz {a : Rt} {k : Nat} (ha : a.Ok) (hz : Rz a k) : Rz (flR a) (k + 1) := by
 rw [← whole_fl ha];refine low_sz ?_ ?_
 ·unfold wholeN; split
  ·exact (hz.1.div _).add (show Sz 1 k from by have := hz.2; have := ha.pos; unfold Sz at *; omega)
  ·exact (hz.1.div _).mono (by omega)
 ·exact sz_one'.mono (by omega)
theorem down_sz {a s : Rt} {k j : Nat} (ha : a.Ok) (hs : s.Ok) (hn : s.num ≠ 0) (hz : Rz a k) (hzs : Rz s j) : Rz (downR a s) (k + j + 1 + j) :=
 mulR_sz (fl_sz (quoR_ok ha (by omega)) (quoR_sz hz hzs)) hzs
theorem sgn_pos {s : Rt} (h : 0 < sgnR s) : s.num ≠ 0 := fun e => by unfold sgnR at h; rw [if_pos e] at h; exact absurd h (by decide)
set_option maxHeartbeats 2000000 in
set_option maxRecDepth 100000 in
theorem MoSteps_any (na : Bool) (sa da : ByteArray) (nb : Bool) (sb db : ByteArray) (za : sa.size ≤ 10000) (zda : da.size ≤ 10000) (zb : sb.size ≤ 10000) (zdb : db.size ≤ 10000) (wq : World) :
  Calls Tryz.prog 70 #[.agg #[.bool na, .string sa, .string da], .agg #[.bool nb, .string sb, .string db]] wq fun e w' => e = .returned (.bool (stepsB na sa da nb sb db)) ∧ Below wq.heap.size wq w' := by
 have c1 := fun w => RatRight_any na sa da w (by omega) (by omega); have c2 := fun w => RatRight_any nb sb db w (by omega) (by omega)
 have c3 := fun w => RatSign_r (show IsR (.agg #[.bool nb, .string sb, .string db]) (valQ nb sb db) 10000 from ⟨_, _, _, rfl, zb, zdb, rfl⟩) (by decide) w
 have HE : Hid (stepsB na sa da nb sb db = (rightR na sa da && rightR nb sb db && decide (0 < sgnR (valQ nb sb db)))) := Lib.hid rfl;obtain ⟨R1, h1⟩ : ∃ b, rightR na sa da = b := ⟨_, rfl⟩; obtain ⟨R2, h2⟩ : ∃ b, rightR nb sb db = b := ⟨_, rfl⟩; obtain ⟨g, h3⟩ : ∃ b, sgnR (valQ nb sb db) = b := ⟨_, rfl⟩;obtain ⟨P, hP⟩ : ∃ b, decide (0 < g) = b := ⟨_, rfl⟩;rw [h1] at c1 HE; rw [h2] at c2 HE; rw [h3] at c3 HE; rw [hP] at HE; rw [HE.out]; have HP := Lib.hid hP;have C1 : Hid (∀ w, Calls Tryz.prog 58 #[.agg #[.bool na, .string sa, .string da]] w fun e w' => e = .returned (.bool R1) ∧ Below w.heap.size w w') := Lib.hid fun w => by
  have h := c1 w;exact h
 have C2 : Hid (∀ w, Calls Tryz.prog 58 #[.agg #[.bool nb, .string sb, .string db]] w fun e w' => e = .returned (.bool R2) ∧ Below w.heap.size w w') := Lib.hid fun w => by
  have h := c2 w;exact h
 have C3 : Hid (∀ w, Calls Tryz.prog 55 #[.agg #[.bool nb, .string sb, .string db]] w fun e w' => e = .returned (.int .i64 g) ∧ Below w.heap.size w w') := Lib.hid fun w => by
  have h := c3 w;exact h
 clear c1 c2 c3 HE h1 h2 h3 hP za zda zb zdb;have HB := Lib.hid (Below.refl wq.heap.size wq);obtain ⟨n0, hn0⟩ : ∃ n, n = wq.heap.size := ⟨_, rfl⟩; rw [← hn0]; have HN0 := Lib.hid hn0; clear hn0;go_enter Tryz.func70, Tryz.ntmps70;obtain ⟨W1, bk2, hW1, hbk2, HX2_1, HB, HG2_1, hup⟩ := boxn HB HN0 (.cells #[.bool na, .string sa, .string da] 26);clear hup;obtain ⟨W2, bk3, hW2, hbk3, HX3_2, HB, HG3_2, hup⟩ := boxn HB HN0 (.cells #[.bool nb, .string sb, .string db] 26);have HL3_2 := (hup _ _ HX2_1).2;have HX2_1 := (hup _ _ HX2_1).1;clear hup;obtain ⟨k3a, k3b, k3c⟩ := c3 HX2_1;go_wp2_with fail;clear hW1 hbk2 hW2 hbk3 k3a k3b k3c;refine (C1.out _).mono ?_;rintro e w3 ⟨rfl, hb⟩;have HX2_1 := uH hb HX2_1;have HX3_2 := uH hb HX3_2;have HB := mH HB hb;clear hb;cases R1
 case false =>
  go_wp2_with fail;go_ret;exact ⟨rfl, by rw [HN0.out]; exact HB.out⟩
 case true =>
  obtain ⟨k4a, k4b, k4c⟩ := c3 HX3_2;go_wp2_with fail;clear k4a k4b k4c;refine (C2.out _).mono ?_;rintro e w4 ⟨rfl, hb⟩;have HX2_1 := uH hb HX2_1;have HX3_2 := uH hb HX3_2;have HB := mH HB hb;clear hb;cases R2
  case false =>
   go_wp2_with fail;go_ret;exact ⟨rfl, by rw [HN0.out]; exact HB.out⟩
  case true =>
   obtain ⟨k5a, k5b, k5c⟩ := c3 HX3_2;go_wp2_with fail;clear k5a k5b k5c;refine (C3.out _).mono ?_;rintro e w5 ⟨rfl, hb⟩;have HX2_1 := uH hb HX2_1;have HX3_2 := uH hb HX3_2;have HB := mH HB hb;clear hb;have q6 := HP.out;go_wp2_with fail;clear q6;go_ret;exact ⟨rfl, by rw [HN0.out]; exact HB.out⟩
def EMoDown_r_4_1 (s : Rt) (q : Rt) (f : Rt) (d : Rt) : Nat → Value
 | 0 => .agg #[.bool q.neg, .string (encS q.num), .string (encS q.den)]
 | 1 => .agg #[.bool f.neg, .string (encS f.num), .string (encS f.den)]
 | 2 => .agg #[.bool s.neg, .string (encS s.num), .string (encS s.den)]
 | 3 => .agg #[.bool d.neg, .string (encS d.num), .string (encS d.den)]
 | _ => undef
def SMoDown_r_4_1 (s : Rt) (q : Rt) (f : Rt) (d : Rt) (ix : Nat) (v : Value) (w : World) : Prop :=
 match ix with
 | ix => v = EMoDown_r_4_1 s q f d ix
theorem SMoDown_r_4_1_up (s : Rt) (q : Rt) (f : Rt) (d : Rt) (ix : Nat) (v : Value) (w w' : World) (hb : Below w.heap.size w w') (h : SMoDown_r_4_1 s q f d ix v w) : SMoDown_r_4_1 s q f d ix v w' := by
 exact h
set_option maxHeartbeats 2000000 in
set_option maxRecDepth 100000 in
theorem MoDown_r {a s : Rt} (ha : a.Ok) (hs : s.Ok) (za : Rz a 9000) (zs : Rz s 9000) (hp : 0 < sgnR s) (wq : World) :
  Calls Tryz.prog 23 #[.agg #[.bool a.neg, .string (encS a.num), .string (encS a.den)], .agg #[.bool s.neg, .string (encS s.num), .string (encS s.den)]] wq fun e w' => e = .returned (.tuple #[rtV (downR a s), .bool true]) ∧ Below wq.heap.size wq w' := by
 have hn := sgn_pos hp;have ia : IsR (rtV a) a 9000 := IsR.of ha za; have is : IsR (rtV s) s 9000 := IsR.of hs zs;have c1 := fun w => MoSteps_any a.neg (encS a.num) (encS a.den) s.neg (encS s.num) (encS s.den) (Nat.le_trans (encS_size_lt za.1) (by decide)) (Nat.le_trans (encS_size_lt za.2) (by decide)) (Nat.le_trans (encS_size_lt zs.1) (by decide)) (Nat.le_trans (encS_size_lt zs.2) (by decide)) w
 have hq : (quoR a s).Ok := quoR_ok ha (by omega);have zq := quoR_sz za zs;have c2 := fun w => RatQuo_r ia is (by decide) (by decide) w
 have c3 := fun w => MoWhole_r hq zq (by decide) w
 have c4 := fun w => RatMul_r (IsR.of (flR_ok (quoR a s)) ((fl_sz hq zq).mono (show 9000 + 9000 + 1 ≤ 20000 by decide))) (IsR.of hs (zs.mono (show 9000 ≤ 20000 by decide))) (by decide) (by decide) w
 rw [steps_r ha hs hp] at c1;unfold quoV at c2; rw [if_neg hn] at c2;rw [show mulR (flR (quoR a s)) s = downR a s from rfl] at c4;obtain ⟨q, h1⟩ : ∃ q, quoR a s = q := ⟨_, rfl⟩; rw [h1] at c2 c3 c4;obtain ⟨f, h2⟩ : ∃ f, flR q = f := ⟨_, rfl⟩; rw [h2] at c3 c4;obtain ⟨d, h3⟩ : ∃ d, downR a s = d := ⟨_, rfl⟩; rw [h3] at c4 ⊢;have C1 : Hid (∀ w, Calls Tryz.prog 70 #[.agg #[.bool a.neg, .string (encS a.num), .string (encS a.den)], .agg #[.bool s.neg, .string (encS s.num), .string (encS s.den)]] w fun e w' => e = .returned (.bool true) ∧ Below w.heap.size w w') := Lib.hid fun w => by
  have h := c1 w;exact h
 have C2 : Hid (∀ w, Calls Tryz.prog 60 #[.agg #[.bool a.neg, .string (encS a.num), .string (encS a.den)], .agg #[.bool s.neg, .string (encS s.num), .string (encS s.den)]] w fun e w' => e = .returned (.tuple #[.agg #[.bool q.neg, .string (encS q.num), .string (encS q.den)], .bool true]) ∧ Below w.heap.size w w') := Lib.hid fun w => by
  have h := c2 w;exact h
 have C3 : Hid (∀ w, Calls Tryz.prog 62 #[.agg #[.bool q.neg, .string (encS q.num), .string (encS q.den)]] w fun e w' => e = .returned (.agg #[.bool f.neg, .string (encS f.num), .string (encS f.den)]) ∧ Below w.heap.size w w') := Lib.hid fun w => by
  have h := c3 w;exact h
 have C4 : Hid (∀ w, Calls Tryz.prog 61 #[.agg #[.bool f.neg, .string (encS f.num), .string (encS f.den)], .agg #[.bool s.neg, .string (encS s.num), .string (encS s.den)]] w fun e w' => e = .returned (.agg #[.bool d.neg, .string (encS d.num), .string (encS d.den)]) ∧ Below w.heap.size w w') := Lib.hid fun w => by
  have h := c4 w;exact h
 clear c1 c2 c3 c4 h1 h2 h3 ia is hq zq hn ha hs za zs hp;have HB := Lib.hid (Below.refl wq.heap.size wq);obtain ⟨n0, hn0⟩ : ∃ n, n = wq.heap.size := ⟨_, rfl⟩; rw [← hn0]; have HN0 := Lib.hid hn0; clear hn0;go_enter Tryz.func23, Tryz.ntmps23;obtain ⟨W1, bk2, hW1, hbk2, HX2_1, HB, HG2_1, hup⟩ := boxn HB HN0 (.cells #[.bool a.neg, .string (encS a.num), .string (encS a.den)] 26);clear hup;obtain ⟨W2, bk3, hW2, hbk3, HX3_2, HB, HG3_2, hup⟩ := boxn HB HN0 (.cells #[.bool s.neg, .string (encS s.num), .string (encS s.den)] 26);have HL3_2 := (hup _ _ HX2_1).2;have HX2_1 := (hup _ _ HX2_1).1;clear hup;obtain ⟨W3, bk4, hW3, hbk4, HX4_3, HB, HG4_3, hup⟩ := boxn HB HN0 (.cells #[.bool false, .string ⟨#[]⟩, .string ⟨#[]⟩] 26);have HL4_3 := (hup _ _ HX3_2).2;have HX2_1 := (hup _ _ HX2_1).1;have HX3_2 := (hup _ _ HX3_2).1;clear hup;obtain ⟨k4a, k4b, k4c⟩ := c3 HX2_1;obtain ⟨k5a, k5b, k5c⟩ := c3 HX3_2
 go_wp2_with fail;clear hW1 hbk2 hW2 hbk3 hW3 hbk4 k4a k4b k4c k5a k5b k5c;refine (C1.out _).mono ?_;rintro e w4 ⟨rfl, hb⟩;have HX2_1 := uH hb HX2_1;have HX3_2 := uH hb HX3_2;have HX4_3 := uH hb HX4_3;have HB := mH HB hb;clear hb;obtain ⟨k6a, k6b, k6c⟩ := c3 HX2_1;obtain ⟨k7a, k7b, k7c⟩ := c3 HX3_2;go_wp2_with fail;clear k6a k6b k6c k7a k7b k7c;refine (C2.out _).mono ?_;rintro e w5 ⟨rfl, hb⟩;have HX2_1 := uH hb HX2_1;have HX3_2 := uH hb HX3_2;have HX4_3 := uH hb HX4_3;have HB := mH HB hb;clear hb;obtain ⟨W6, bk6, hW6, hbk6, HX6_8, HB, HG6_8, hup⟩ := boxn HB HN0 (.cells #[.bool false, .string ⟨#[]⟩, .string ⟨#[]⟩] 26);have HL6_8 := (hup _ _ HX4_3).2;have HX2_1 := (hup _ _ HX2_1).1;have HX3_2 := (hup _ _ HX3_2).1;have HX4_3 := (hup _ _ HX4_3).1;clear hup
 obtain ⟨W7, hW7, HX6_8, HB, ho, f9a, f9b, f9c, k9a, k9b, k9c⟩ := put3 HX6_8 HB HN0 HG6_8 (.bool q.neg) (.string (encS q.num)) (.string (encS q.den));have HX2_1 := ho _ _ (by have h0 := HL3_2.out; have h1 := HL4_3.out; have h2 := HL6_8.out; omega) HX2_1;have HX3_2 := ho _ _ (by have h1 := HL4_3.out; have h2 := HL6_8.out; omega) HX3_2;have HX4_3 := ho _ _ (by have h2 := HL6_8.out; omega) HX4_3;clear ho;go_wp2_with fail;clear hW6 hbk6 f9a f9b f9c k9a k9b k9c hW7;refine wp_region_tail (w := W7) (by kernel_rfl) (SMoDown_r_4_1 s q f d) 4 (fun t => (decide (19 ≤ t) && decide (t < 23))) (by decide) (by kernel_rfl) (by kernel_rfl) (by kernel_rfl) (by kernel_rfl) (by kernel_rfl) (SMoDown_r_4_1_up s q f d) ?_ ?_
 ·intro i hi ov_ listed av_ w hR K hK;have ho := hR.at_;have hi : i < 4 := hi;have hii : i = 0 ∨ i = 1 ∨ i = 2 ∨ i = 3 := by omega
  rcases hii with rfl | rfl | rfl | rfl
  ·simp at ho;subst ho;have b6 : av_.tmps.getD 6 undef = .pointer (some ⟨bk6, 0, none⟩) := hR.base 6 (by kernel_rfl);obtain ⟨cx0, cx1, cx2⟩ := c3 (uH hR.below HX6_8);refine plain_step rfl rfl ?_;go_simp;exact hK _ _ rfl rB
  ·simp at ho;subst ho;have e0 : av_.tmps.getD 19 undef = .agg #[.bool q.neg, .string (encS q.num), .string (encS q.den)] := hR.dep ⟨0, .data⟩ (by simp) rfl (by decide);refine plain_step rfl rfl ?_;go_simp;refine (C3.out w).mono ?_;rintro e w' ⟨rfl, hb⟩;exact hK _ _ (rfl) hb
  ·simp at ho;subst ho;have b3 : av_.tmps.getD 3 undef = .pointer (some ⟨bk3, 0, none⟩) := hR.base 3 (by kernel_rfl);obtain ⟨cx0, cx1, cx2⟩ := c3 (uH hR.below HX3_2);refine plain_step rfl rfl ?_;go_simp;exact hK _ _ rfl rB
  ·simp at ho;subst ho;have e1 : av_.tmps.getD 20 undef = .agg #[.bool f.neg, .string (encS f.num), .string (encS f.den)] := hR.dep ⟨1, .data⟩ (by simp) rfl (by decide);have e2 : av_.tmps.getD 21 undef = .agg #[.bool s.neg, .string (encS s.num), .string (encS s.den)] := hR.dep ⟨2, .data⟩ (by simp) rfl (by decide);refine plain_step rfl rfl ?_;go_simp;refine (C4.out w).mono ?_;rintro e w' ⟨rfl, hb⟩;exact hK _ _ (rfl) hb
 ·intro sv_ w hS hb;have e3 : sv_ 22 = .agg #[.bool d.neg, .string (encS d.num), .string (encS d.den)] := hS 3 (by decide);simp only [over, Nat.zero_add, Nat.reduceAdd, Nat.reduceLeDiff, Nat.reduceLT, decide_true, decide_false, Bool.and_true, cond_true, cond_false];have HX2_1 := uH hb HX2_1;have HX3_2 := uH hb HX3_2;have HX4_3 := uH hb HX4_3;have HX6_8 := uH hb HX6_8;have HB := mH HB hb;obtain ⟨w8, hw⟩ : ∃ w8, w8 = w := ⟨_, rfl⟩;subst hw;rw [e3];clear hS hb e3;obtain ⟨W9, hW9, HX4_3, HB, ho, f10a, f10b, f10c, k10a, k10b, k10c⟩ := put3 HX4_3 HB HN0 HG4_3 (.bool d.neg) (.string (encS d.num)) (.string (encS d.den));have HX2_1 := ho _ _ (by have h0 := HL3_2.out; have h1 := HL4_3.out; omega) HX2_1;have HX3_2 := ho _ _ (by have h1 := HL4_3.out; omega) HX3_2;have HX6_8 := ho _ _ (by have h2 := HL6_8.out; omega) HX6_8;clear ho;refine tail_step (n := 1) rfl rfl ?_;go_simp
  try rw [hW9]
  clear f10a f10b f10c k10a k10b k10c hW9;refine tail_step (n := 0) rfl rfl ?_;go_simp;simp only [wpTail];go_wp2_with fail;refine bodyPost_ret (results_cell_row2 rfl _ _ bk4 26 _ (0, 0) _ rfl HX4_3.out Tryz.underlying26 rfl (by kernel_rfl)) rfl ?_;exact ⟨rfl, by rw [HN0.out]; exact HB.out⟩
set_option maxHeartbeats 2000000 in
set_option maxRecDepth 100000 in
theorem MoDown_no (na : Bool) (sa da : ByteArray) (nb : Bool) (sb db : ByteArray) (za : sa.size ≤ 10000) (zda : da.size ≤ 10000) (zb : sb.size ≤ 10000) (zdb : db.size ≤ 10000) (h : stepsB na sa da nb sb db = false) (wq : World) :
  Calls Tryz.prog 23 #[.agg #[.bool na, .string sa, .string da], .agg #[.bool nb, .string sb, .string db]] wq fun e w' => e = .returned (.tuple #[.agg #[.bool false, .string ⟨#[]⟩, .string ⟨#[]⟩], .bool false]) ∧ Below wq.heap.size wq w' := by
 have c1 := fun w => MoSteps_any na sa da nb sb db za zda zb zdb w; rw [h] at c1
 have C1 : Hid (∀ w, Calls Tryz.prog 70 #[.agg #[.bool na, .string sa, .string da], .agg #[.bool nb, .string sb, .string db]] w fun e w' => e = .returned (.bool false) ∧ Below w.heap.size w w') := Lib.hid fun w => by
  have h := c1 w;exact h
 clear c1 h za zda zb zdb;have HB := Lib.hid (Below.refl wq.heap.size wq);obtain ⟨n0, hn0⟩ : ∃ n, n = wq.heap.size := ⟨_, rfl⟩; rw [← hn0]; have HN0 := Lib.hid hn0; clear hn0;go_enter Tryz.func23, Tryz.ntmps23;obtain ⟨W1, bk2, hW1, hbk2, HX2_1, HB, HG2_1, hup⟩ := boxn HB HN0 (.cells #[.bool na, .string sa, .string da] 26);clear hup;obtain ⟨W2, bk3, hW2, hbk3, HX3_2, HB, HG3_2, hup⟩ := boxn HB HN0 (.cells #[.bool nb, .string sb, .string db] 26);have HL3_2 := (hup _ _ HX2_1).2;have HX2_1 := (hup _ _ HX2_1).1;clear hup;obtain ⟨W3, bk4, hW3, hbk4, HX4_3, HB, HG4_3, hup⟩ := boxn HB HN0 (.cells #[.bool false, .string ⟨#[]⟩, .string ⟨#[]⟩] 26);have HL4_3 := (hup _ _ HX3_2).2;have HX2_1 := (hup _ _ HX2_1).1;have HX3_2 := (hup _ _ HX3_2).1;clear hup;obtain ⟨k4a, k4b, k4c⟩ := c3 HX2_1;obtain ⟨k5a, k5b, k5c⟩ := c3 HX3_2;go_wp2_with fail;clear hW1 hbk2 hW2 hbk3 hW3 hbk4 k4a k4b k4c k5a k5b k5c
 refine (C1.out _).mono ?_;rintro e w4 ⟨rfl, hb⟩;have HX2_1 := uH hb HX2_1;have HX3_2 := uH hb HX3_2;have HX4_3 := uH hb HX4_3;have HB := mH HB hb;clear hb;obtain ⟨W5, hW5, HX4_3, HB, ho, f6a, f6b, f6c, k6a, k6b, k6c⟩ := put3 HX4_3 HB HN0 HG4_3 (.bool false) (.string ⟨#[]⟩) (.string ⟨#[]⟩);have HX2_1 := ho _ _ (by have h0 := HL3_2.out; have h1 := HL4_3.out; omega) HX2_1;have HX3_2 := ho _ _ (by have h1 := HL4_3.out; omega) HX3_2;clear ho;go_wp2_with fail;clear f6a f6b f6c k6a k6b k6c hW5;refine bodyPost_ret (results_cell_row2 rfl _ _ bk4 26 _ (0, 0) _ rfl HX4_3.out Tryz.underlying26 rfl (by kernel_rfl)) rfl ?_;exact ⟨rfl, by rw [HN0.out]; exact HB.out⟩
end Go.Proofs.YtabfjecegpaoaaaGreatDoor
