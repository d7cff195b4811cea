/- Contracts that the proofs of this seat share. Each theorem names its conditions. -/

import Derived.Test.YtabfjecegpaoaaaGreatDoorYc6
import Derived.Test.YtabfjecegpaoaaaGreatDoorYb9
import Derived.Test.YtabfjecegpaoaaaGreatDoorYb8
import Derived.Test.YtabfjecegpaoaaaGreatDoorYb0
namespace Go.Proofs.YtabfjecegpaoaaaGreatDoor
open Go.RowKit Go.Shelf
open Dgt
set_option linter.unusedVariables false
set_option maxHeartbeats 2000000 in
set_option maxRecDepth 100000 in
theorem MoSplit_no {na : Bool} {sa da : ByteArray} {c : Int} {okc : Bool} {ls : List Rw} (hc : ∀ w, Calls Tryz.prog 29 #[.agg #[.bool na, .string sa, .string da]] w fun e w' => e = .returned (.tuple #[.int .i64 c, .bool okc]) ∧ Below w.heap.size w w') (hz : SzL ls 1000) (hn : ls.length ≤ 20) (hno : okc = true → 0 < sgnR (sumL ls zeroR) → ls.any Rw.bad = true) (v : Value) (wq : World) (hl : LstR wq v ls) :
  Calls Tryz.prog 19 #[.agg #[.bool na, .string sa, .string da], v] wq fun e w' => e = .returned (.tuple #[.slice none 0 0, .bool false]) ∧ Below wq.heap.size wq w' := by
 obtain ⟨p, ca, rfl, -, -⟩ := hl.open;have c2 : ∀ w, Below wq.heap.size wq w → _ := fun w h => Sum_any ls (.slice p ls.length ca) w (hl.up h) (by omega) hz
 have hS : (sumL ls zeroR).Ok := sumL_ok ls zeroR zeroR_ok;have zS : Rz (sumL ls zeroR) 30000 := (sumL_sz ls zeroR 1 hz zeroR_sz).mono (by omega);have c3 := fun w => RatSign_r (IsR.of hS zS) (by decide) w
 have c4 : ∀ w, Below wq.heap.size wq w → _ := fun w h => containsW_any ls (.slice p ls.length ca) w (hl.up h) hz
 obtain ⟨S, h3⟩ : ∃ S, sumL ls zeroR = S := ⟨_, rfl⟩; rw [h3] at c2 c3 hno;obtain ⟨bd, hbd⟩ : ∃ b, ls.any Rw.bad = b := ⟨_, rfl⟩; rw [hbd] at c4 hno;obtain ⟨z, hzz⟩ : ∃ z, sgnR S = z := ⟨_, rfl⟩; rw [hzz] at c3 hno;obtain ⟨n, hnn⟩ : ∃ n, ls.length = n := ⟨_, rfl⟩; rw [hnn] at c2 c4 hn;have HLEN := Lib.hid hn; have HNO := Lib.hid hno;rw [hnn];have C1 : Hid (∀ w, Calls Tryz.prog 29 #[.agg #[.bool na, .string sa, .string da]] w fun e w' => e = .returned (.tuple #[.int .i64 c, .bool okc]) ∧ Below w.heap.size w w') := Lib.hid fun w => by
  have h := hc w;exact h
 have C2 : Hid (∀ w, Below wq.heap.size wq w → Calls Tryz.prog 54 #[.slice p n ca] w fun e w' => e = .returned (.agg #[.bool S.neg, .string (encS S.num), .string (encS S.den)]) ∧ Below w.heap.size w w') := Lib.hid fun w hp0 => by
  have h := c2 w hp0;exact h
 have C3 : Hid (∀ w, Calls Tryz.prog 55 #[.agg #[.bool S.neg, .string (encS S.num), .string (encS S.den)]] w fun e w' => e = .returned (.int .i64 z) ∧ Below w.heap.size w w') := Lib.hid fun w => by
  have h := c3 w;exact h
 have C4 : Hid (∀ w, Below wq.heap.size wq w → Calls Tryz.prog 56 #[.slice p n ca, .func (Fn.func 57) #[] #[]] w fun e w' => e = .returned (.bool bd) ∧ Below w.heap.size w w') := Lib.hid fun w hp0 => by
  have h := c4 w hp0;exact h
 clear c2 c3 c4 hc hz hl hS zS h3 hbd hzz hnn hn hno;have HB := Lib.hid (Below.refl wq.heap.size wq);obtain ⟨n0, hn0⟩ : ∃ n, n = wq.heap.size := ⟨_, rfl⟩; rw [← hn0]; have HN0 := Lib.hid hn0; clear hn0;go_enter Tryz.func19, Tryz.ntmps19;obtain ⟨W1, bk2, hW1, hbk2, HX2_1, HB, HG2_1, hup⟩ := boxn HB HN0 (.cells #[.bool na, .string sa, .string da] 26);clear hup;obtain ⟨k2a, k2b, k2c⟩ := c3 HX2_1;go_wp2_with fail;clear hW1 hbk2 k2a k2b k2c;refine (C1.out _).mono ?_;rintro e w2 ⟨rfl, hb⟩;have HX2_1 := uH hb HX2_1;have HB := mH HB hb;clear hb;go_wp2_with fail;refine (C2.out _ HB.out).mono ?_;rintro e w3 ⟨rfl, hb⟩;have HX2_1 := uH hb HX2_1;have HB := mH HB hb;clear hb;obtain ⟨W4, bk8, hW4, hbk8, HX8_3, HB, HG8_3, hup⟩ := boxn HB HN0 (.cells #[.bool false, .string ⟨#[]⟩, .string ⟨#[]⟩] 26);have HL8_3 := (hup _ _ HX2_1).2;have HX2_1 := (hup _ _ HX2_1).1;clear hup
 obtain ⟨W5, hW5, HX8_3, HB, ho, f4a, f4b, f4c, k4a, k4b, k4c⟩ := put3 HX8_3 HB HN0 HG8_3 (.bool S.neg) (.string (encS S.num)) (.string (encS S.den));have HX2_1 := ho _ _ (by have h0 := HL8_3.out; omega) HX2_1;clear ho;cases okc
 case false =>
  go_wp2_with fail;clear hW4 hbk8 f4a f4b f4c k4a k4b k4c hW5;go_ret2;exact ⟨rfl, by rw [HN0.out]; exact HB.out⟩
 case true =>
  have hlen : ¬ (n : Int) > 100 := by have := HLEN.out; omega
  have hlen2 : ¬ (100 : Int) < (n : Int) := by have := HLEN.out; omega
  by_cases hz1 : z ≤ 0
  ·have HZ := Lib.hid hz1;obtain ⟨k5a, k5b, k5c⟩ := c3 HX8_3;go_wp2_with fail;clear hW4 hbk8 f4a f4b f4c k4a k4b k4c hW5 k5a k5b k5c;refine (C3.out _).mono ?_;rintro e w6 ⟨rfl, hb⟩;have HX2_1 := uH hb HX2_1;have HX8_3 := uH hb HX8_3;have HB := mH HB hb;clear hb;go_wp2_with fail;clear hlen hlen2 hz1;go_ret2;exact ⟨rfl, by rw [HN0.out]; exact HB.out⟩
  ·obtain rfl : bd = true := HNO.out rfl (by omega);obtain ⟨k6a, k6b, k6c⟩ := c3 HX8_3;go_wp2_with fail;clear hW4 hbk8 f4a f4b f4c k4a k4b k4c hW5 k6a k6b k6c;refine (C3.out _).mono ?_;rintro e w7 ⟨rfl, hb⟩;have HX2_1 := uH hb HX2_1;have HX8_3 := uH hb HX8_3;have HB := mH HB hb;clear hb;go_wp2_with fail;refine (C4.out _ HB.out).mono ?_;rintro e w8 ⟨rfl, hb⟩;have HX2_1 := uH hb HX2_1;have HX8_3 := uH hb HX8_3;have HB := mH HB hb;clear hb;go_wp2_with fail;clear hlen hlen2 hz1;go_ret2;exact ⟨rfl, by rw [HN0.out]; exact HB.out⟩
theorem decL_len {n k : Nat} (h : Sz n k) : (Lib.decDigits n).length ≤ 3 * k + 1 := by
 have h1 := dec_size (encS n);rw [numS_encS] at h1;have h2 := encS_size_lt h;omega
end Go.Proofs.YtabfjecegpaoaaaGreatDoor
