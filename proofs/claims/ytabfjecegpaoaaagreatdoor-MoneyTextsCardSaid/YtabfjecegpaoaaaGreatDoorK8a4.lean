/- MoneyTexts: for every input the law returns true, and each argument reads afterwards as it read before; the listed tables read as the program lays them (the tied card). -/
import Derived.WalkKit
import Derived.RangeFuncNested
import Derived.RangeFuncCalls
import Derived.RangeFuncLeaves
import Derived.Shelf.Abstract
import Derived.Below
import Derived.Lib.LaidIn
import Derived.RegionTactic
import Derived.KernelRfl
import Derived.Lib.Hide
import Derived.OrdersIn
import Derived.Laws.AppendOwnNone
import Derived.Test.YtabfjecegpaoaaaGreatDoorProg
import Derived.WalkSpells
import Derived.WalkLawsBesides
import Derived.IntWalk
import Derived.Laws.BitsAllLaws
import Derived.StillTailTactics
import Derived.Deep.OwnRows
import Derived.Lib.ConvBytes
import Derived.BigQuiet
import Derived.Deep.QuietTactic
import Derived.Shelf.Strings.Builder1
import Derived.Shelf.Strings.Builder2
import Derived.Shelf.Strings.Trim
import Derived.Shelf.Small.Utf8
import Derived.Shelf.Small.Bits
import Derived.Shelf.Small.Strs
import Derived.Shelf.Strings.BuilderF
import Derived.Shelf.Strings.BuilderK
import Derived.Shelf.Strings.Builder2Cap
import Derived.Shelf.Strconv.Atoi
import Derived.Shelf.Strconv.Itoa0
import Derived.Shelf.Strconv.Itoa1
import Derived.Shelf.LaysM
import Derived.Shelf.Strconv.Itoa2
import Derived.Shelf.Strconv.Itoa3
import Derived.Shelf.Strconv.AtoiErrFast
import Derived.Shelf.Strconv.ParseIntEmpty
import Derived.Shelf.Strconv.AtoiFail
import Derived.Shelf.Strconv.Clone
import Derived.Shelf.Strconv.SyntaxError
import Derived.Shelf.LaysC
import Derived.Shelf.Strconv.ToError
import Derived.Shelf.Strconv.Lower
import Derived.Shelf.Strconv.ParseUint10
import Derived.Shelf.Strconv.ParseUint10Empty
import Derived.Shelf.Strconv.ParseUint10Any
import Derived.Shelf.Strconv.ParseInt10
import Derived.Shelf.Strconv.AtoiLong
import Derived.Shelf.Strconv.AtoiInnerAll
import Derived.Shelf.Strconv.RangeError
import Derived.Shelf.Strconv.ToErrorRange
import Derived.Shelf.Strconv.AtoiAll
import Derived.Shelf.Strconv.ErrVarAll
import Derived.Shelf.Strconv.ParseUintEmpty
import Derived.Shelf.Strconv.ParseUint10b64
import Derived.Shelf.Strconv.ParseUint10b32
import Derived.Shelf.Strconv.ParseUint10b16
import Derived.Shelf.Strconv.ParseUint10b8
import Derived.Shelf.Strconv.ParseUint10At
import Derived.Shelf.Strconv.ParseInt10At64
import Derived.Shelf.Strconv.ParseInt10At32
import Derived.Shelf.Strconv.ParseInt10At16
import Derived.Shelf.Strconv.ParseInt10At8
import Derived.Shelf.Strconv.ParseInt10All
import Derived.Shelf.Strings.Search1
import Derived.Shelf.GgClosure.StringsIndexFunc
import Derived.Ground.GgwProg
import Derived.Shelf.GgClosure.StringsIndexFuncTop
import Derived.Shelf.GgClosure.StringsRunes
import Derived.Shelf.Strings.Prefix
import Derived.Shelf.Strings.Runes
import Derived.Shelf.Strings.AsciiSet
import Derived.Shelf.Bits.Mul64
import Derived.Shelf.Strings.Repeat
import Derived.Shelf.Unicode.DecodeSlow
import Derived.Shelf.Unicode.DecodeAny
import Derived.Shelf.Strings.FuncGrows
import Derived.Shelf.Strings.BuilderCap
import Derived.Lib.IndexMore
import Derived.Test.YtabfjecegpaoaaaGreatDoorYd1
import Derived.Test.YtabfjecegpaoaaaGreatDoorYc9
import Derived.Test.YtabfjecegpaoaaaGreatDoorYc5
import Derived.Test.YtabfjecegpaoaaaGreatDoorYc4
import Derived.Test.YtabfjecegpaoaaaGreatDoorYc3
import Derived.Test.YtabfjecegpaoaaaGreatDoorYc2
import Derived.Test.YtabfjecegpaoaaaGreatDoorYc1
import Derived.Test.YtabfjecegpaoaaaGreatDoorYb3
import Derived.Test.YtabfjecegpaoaaaGreatDoorYb2
import Derived.Test.YtabfjecegpaoaaaGreatDoorYb1
import Derived.Test.YtabfjecegpaoaaaGreatDoorYa6
import Derived.Test.YtabfjecegpaoaaaGreatDoorK8a0
import Derived.Test.YtabfjecegpaoaaaGreatDoorYa1
import Derived.Test.YtabfjecegpaoaaaGreatDoorYb7
import Derived.Test.YtabfjecegpaoaaaGreatDoorYb6
import Derived.Test.YtabfjecegpaoaaaGreatDoorYb5
import Derived.Test.YtabfjecegpaoaaaGreatDoorYb4
import Derived.Test.YtabfjecegpaoaaaGreatDoorK8a2
import Derived.Test.YtabfjecegpaoaaaGreatDoorYb9
import Derived.Test.YtabfjecegpaoaaaGreatDoorYb8
import Derived.Test.YtabfjecegpaoaaaGreatDoorYa9
import Derived.Test.YtabfjecegpaoaaaGreatDoorYa8
import Derived.Test.YtabfjecegpaoaaaGreatDoorYa3
import Derived.Test.YtabfjecegpaoaaaGreatDoorYa0
import Derived.Test.YtabfjecegpaoaaaGreatDoorYa2
import Derived.Test.YtabfjecegpaoaaaGreatDoorYc8
import Derived.Test.YtabfjecegpaoaaaGreatDoorYb0
import Derived.Test.YtabfjecegpaoaaaGreatDoorK8a1
import Derived.Test.YtabfjecegpaoaaaGreatDoorYd0
import Derived.Test.YtabfjecegpaoaaaGreatDoorK8a3
namespace Go.Proofs.YtabfjecegpaoaaaGreatDoor
open Go.RowKit Go.Shelf
open Dgt
set_option linter.unusedVariables false
theorem parseR_n {l : List UInt8} (h : candR l = none) : parseM l = none := by rw [← parse_eq]; unfold parseRM; rw [h]
theorem candR_n1 {l : List UInt8} (h : shapeR l = false) : candR l = none := by unfold candR; rw [h]; simp
theorem candR_n2 {l : List UInt8} (h : okP (unitL l) = false) : candR l = none := by unfold candR; rw [h]; simp
theorem candR_n3 {l : List UInt8} (h : (tailL l).all dB = false) : candR l = none := by unfold candR; rw [if_neg (by rintro ⟨-, -, h3⟩; rw [h] at h3; cases h3)]
theorem parseR_yes {l : List UInt8} (h : shapeR l = true) (h2 : okP (unitL l) = true) (h3 : (tailL l).all dB = true) : parseM l = if accept l (low (negL l) (decV (unitL l) * 100 + decV (tailL l)) 100) then some (low (negL l) (decV (unitL l) * 100 + decV (tailL l)) 100) else none := by
 rw [← parse_eq]; unfold parseRM candR; rw [if_pos ⟨h, h2, h3⟩]
theorem dB_iff (c : UInt8) : dB c = (!(decide ((c.toNat : Int) < 48)) && !(decide (57 < (c.toNat : Int)))) := by
 unfold dB;rw [Bool.eq_iff_iff];simp;omega
set_option maxHeartbeats 2000000 in
set_option maxRecDepth 100000 in
theorem rParse4_any (S : ByteArray) (hS : S.size ≤ 1000) (wq : World) :
  Calls Tryz.prog 33 #[.string S] wq fun e w' => e = .returned (parsV (parseM S.data.toList)) ∧ Below wq.heap.size wq w' := by
 obtain ⟨l, hl⟩ : ∃ l, S.data.toList = l := ⟨_, rfl⟩; have HL := Lib.hid hl;have hn : l.length = S.size := by rw [← hl]; exact list_size S
 obtain ⟨R, h0⟩ : ∃ R, parsV (parseM S.data.toList) = R := ⟨_, rfl⟩; rw [h0]; have HR := Lib.hid h0; rw [hl] at HR;have HBAD : Hid (parseM l = none → R = .tuple #[.agg #[.bool false, .string ⟨#[]⟩, .string ⟨#[]⟩], .bool false]) := Lib.hid fun h => by rw [← HR.out, h]; rfl
 have HN := Lib.hid hn;clear h0 hl hn hS;have HB := Lib.hid (Below.refl wq.heap.size wq);obtain ⟨n0, hn0⟩ : ∃ n, n = wq.heap.size := ⟨_, rfl⟩; rw [← hn0]; have HN0 := Lib.hid hn0; clear hn0;go_enter Tryz.func33, Tryz.ntmps33;obtain ⟨W1, bk2, hW1, hbk2, HX2_1, HB, HG2_1, hup⟩ := boxn HB HN0 (.cells #[.bool false, .string ⟨#[]⟩, .string ⟨#[]⟩] 26);clear hup
 by_cases h5 : S.size < 5
 ·have h5' : (S.size : Int) < 5 := by omega
  obtain ⟨W2, hW2, HX2_1, HB, ho, f2a, f2b, f2c, k2a, k2b, k2c⟩ := put3 HX2_1 HB HN0 HG2_1 (.bool false) (.string ⟨#[]⟩) (.string ⟨#[]⟩);clear ho;go_wp2_with fail;clear hW1 hbk2 f2a f2b f2c k2a k2b k2c hW2;refine bodyPost_ret (results_cell_row2 rfl _ _ bk2 26 _ (0, 0) _ rfl HX2_1.out Tryz.underlying26 rfl (by kernel_rfl)) rfl ?_;have h := HBAD.out (parseR_n (candR_n1 (by have := HN.out; unfold shapeR; simp; omega)));subst h;exact ⟨rfl, by rw [HN0.out]; exact HB.out⟩
 ·have h5' : ¬ (S.size : Int) < 5 := by omega
  by_cases h40 : 40 < S.size
  ·have h40' : 40 < (S.size : Int) := by omega
   obtain ⟨W3, hW3, HX2_1, HB, ho, f3a, f3b, f3c, k3a, k3b, k3c⟩ := put3 HX2_1 HB HN0 HG2_1 (.bool false) (.string ⟨#[]⟩) (.string ⟨#[]⟩);clear ho;go_wp2_with fail;clear hW1 hbk2 f3a f3b f3c k3a k3b k3c hW3;refine bodyPost_ret (results_cell_row2 rfl _ _ bk2 26 _ (0, 0) _ rfl HX2_1.out Tryz.underlying26 rfl (by kernel_rfl)) rfl ?_;have h := HBAD.out (parseR_n (candR_n1 (by have := HN.out; unfold shapeR; simp; omega)));subst h;exact ⟨rfl, by rw [HN0.out]; exact HB.out⟩
  ·have h40' : ¬ 40 < (S.size : Int) := by omega
   have k3 : (0 : Int) ≤ (S.size : Int) - 3 := by omega
   have j0 : 0 < S.size := by omega
   have j3 : S.size - 3 < S.size := by omega
   have j1 : 1 < S.size := by omega
   obtain ⟨q, hq⟩ : ∃ d, S[0]'j0 = d := ⟨_, rfl⟩;obtain ⟨d, hd⟩ : ∃ d, S[S.size - 3]'j3 = d := ⟨_, rfl⟩;obtain ⟨m, hm⟩ : ∃ d, S[1]'j1 = d := ⟨_, rfl⟩;have HQ : Hid (l[0]? = some q) := Lib.hid (by rw [← HL.out, ← hq]; exact list_at S j0);have HD : Hid (l[l.length - 3]? = some d) := Lib.hid (by rw [HN.out, ← HL.out, ← hd]; exact list_at S j3);have HM : Hid (l[1]? = some m) := Lib.hid (by rw [← HL.out, ← hm]; exact list_at S j1)
   by_cases hdol : q = 36
   ·subst hdol;have hq2 : ((((36 : UInt8).toNat : Nat) : Int) == 36) = true := rfl
    by_cases hdot : d = 46
    ·subst hdot;have HSH : Hid (shapeR l = true) := Lib.hid (by have := HN.out; unfold shapeR; rw [HD.out, HQ.out]; simp; omega);have hi : ((((46 : UInt8).toNat : Nat) : Int) == 46) = true := rfl
     by_cases hneg : m = 45
     ·subst hneg;have hmm : ((((45 : UInt8).toNat : Nat) : Int) == 45) = true := rfl;have HNG : Hid (negL l = true) := Lib.hid (by unfold negL; rw [HM.out]; simp);have HS := Lib.hid (And.intro h5 h40);have hw3 : IntKind.i64.wrap ((S.size : Int) - 3) = (S.size : Int) - 3 := IntWalk.i64_in _ (by omega);have q2 : (2 : Int) ≤ (S.size : Int) - 3 := by omega
      have q3 : (S.size : Int) - 3 ≤ (S.size : Int) := by omega
      go_wp2_with fail;clear hq hd hm hi hmm hq2 h5 h40 h5' h40' k3 j3 j1 j0 hw3 q2 q3;obtain ⟨X, hX⟩ : ∃ X, S.extract 2 (S.size - 3) = X := ⟨_, rfl⟩;have HX : Hid (X.data.toList = unitL l) := Lib.hid (by rw [← hX, ext_list, HL.out]; unfold unitL; rw [HN.out, HNG.out]; rfl);have HXS : Hid (X.size ≤ 60) := Lib.hid (by have := HS.out.2; rw [← hX, ByteArray.size_extract]; omega);rw [hX]; clear hX;have HP : Hid (∀ w, Calls Tryz.prog 80 #[.string X] w fun e w' => e = .returned (.tuple #[.string (encS (parV X)), .bool (parB X)]) ∧ Below w.heap.size w w') := Lib.hid fun w => rParse_any X w (by have := HXS.out; omega)
      have HPB : Hid (parB X = okP (unitL l)) := Lib.hid (by unfold parB; rw [HX.out]);have HPV : Hid (okP (unitL l) = true → parV X = decV (unitL l)) := Lib.hid fun h => by unfold parV; rw [HX.out, if_pos h]
      have HPS : Hid (Sz (parV X) 60) := Lib.hid (by have := HXS.out; exact (parV_sz X).mono this);obtain ⟨p, hp⟩ : ∃ p, parB X = p := ⟨_, rfl⟩;obtain ⟨v, hv⟩ : ∃ p, parV X = p := ⟨_, rfl⟩;rw [hp] at HP HPB; rw [hv] at HP HPV HPS; clear hp hv;refine (HP.out _).mono ?_;rintro e w4 ⟨rfl, hb⟩;have HX2_1 := uH hb HX2_1;have HB := mH HB hb;clear hb;cases p
      case false =>
       obtain ⟨W5, hW5, HX2_1, HB, ho, f4a, f4b, f4c, k4a, k4b, k4c⟩ := put3 HX2_1 HB HN0 HG2_1 (.bool false) (.string ⟨#[]⟩) (.string ⟨#[]⟩);clear ho;go_wp2_with fail;clear hW1 hbk2 f4a f4b f4c k4a k4b k4c hW5;refine bodyPost_ret (results_cell_row2 rfl _ _ bk2 26 _ (0, 0) _ rfl HX2_1.out Tryz.underlying26 rfl (by kernel_rfl)) rfl ?_;have h := HBAD.out (parseR_n (candR_n2 HPB.out.symm));subst h;exact ⟨rfl, by rw [HN0.out]; exact HB.out⟩
      case true =>
       obtain ⟨T, hT⟩ : ∃ T, tailL l = T := ⟨_, rfl⟩;have HT := Lib.hid hT;have HTL : Hid (T.length = 2) := Lib.hid (by rw [← hT]; unfold tailL; rw [List.length_drop, HN.out]; have := HS.out.1; omega);have HTG : Hid (∀ i (h : i < 2) (h2 : S.size - 2 + i < S.size), T[i]? = some (S[S.size - 2 + i]'h2)) := Lib.hid fun i h h2 => by
        rw [← hT]; unfold tailL; rw [List.getElem?_drop, HN.out, ← HL.out]; exact list_at S h2
       clear hT;have hw2 : IntKind.i64.wrap ((S.size : Int) - 2) = (S.size : Int) - 2 := IntWalk.i64_in _ (by have := HS.out.1; have := HS.out.2; omega);go_wp2_with fail;clear hw2
       go_loopw [8, 9] (fun c i wr => ∃ j : Nat, j ≤ 2 ∧ i = .int .i64 ((S.size - 2 + j : Nat) : Int) ∧ c = .int .i64 ((decV (T.take j) : Nat) : Int) ∧ Hid ((T.take j).all dB = true) ∧ Hid (wr.heap[bk2]? = some (.cells #[.bool false, .string ⟨#[]⟩, .string ⟨#[]⟩] 26 (0, 0))) ∧ Hid (Below wq.heap.size wq wr)) (fun _ i _ => S.size - (intOf i).toNat)
       case atStart => exact ⟨0, by omega, by have := HS.out.1; congr 1; omega, rfl, Lib.hid rfl, HX2_1, HB⟩
       case round =>
        obtain ⟨j, hj, rfl, rfl, HA, HX2_1, HB⟩ := hrel
        by_cases hlt : j < 2
        ·have h5 := HS.out.1; have h40 := HS.out.2;obtain ⟨i, hi⟩ : ∃ i, S.size - 2 + j = i := ⟨_, rfl⟩;have hiS : i < S.size := by omega
         have hlt' : (i : Int) < (S.size : Int) := by omega
         obtain ⟨b, hb⟩ : ∃ b, S[i]'hiS = b := ⟨_, rfl⟩;have hTj : T[j]? = some b := by rw [← hb]; subst hi; exact HTG.out j hlt hiS
         have hjl : j < T.length := by rw [HTL.out]; exact hlt
         have hTe : T[j] = b := by rw [List.getElem?_eq_getElem hjl] at hTj; exact Option.some.inj hTj
         have HTK : Hid (T.take (j + 1) = T.take j ++ [b]) := Lib.hid (by rw [List.take_succ_eq_append_getElem hjl, hTe]);have HDV : Hid (decV (T.take (j + 1)) = decV (T.take j) * 10 + (b.toNat - 48)) := Lib.hid (by rw [HTK.out]; exact decV_snoc _ _);have HSZ : Hid (decV (T.take j) < 100) := Lib.hid (by
          have h1 := decF_lt _ HA.out;have h2 : (T.take j).length ≤ 2 := by rw [List.length_take]; omega
          exact Nat.lt_of_lt_of_le h1 (Nat.pow_le_pow_right (by decide) h2))
         have HDB := Lib.hid (dB_iff b);have HJ := Lib.hid (And.intro hi hlt);rw [hi];obtain ⟨c, hc⟩ : ∃ c, decV (T.take j) = c := ⟨_, rfl⟩;rw [hc] at HDV HSZ ⊢;clear h5 h40 hTj hTe hjl hc hi
         by_cases hdb : dB b = true
         ·have h3 : ¬ (b.toNat : Int) < 48 := by have := HDB.out; rw [hdb] at this; simp at this; omega
          have h4 : ¬ 57 < (b.toNat : Int) := by have := HDB.out; rw [hdb] at this; simp at this; omega
          have hA2 : (T.take (j + 1)).all dB = true := by rw [HTK.out, List.all_append, HA.out, List.all_cons, hdb]; rfl
          have HA2 := Lib.hid hA2;have hc1 := HSZ.out;have w1 : IntKind.u8.wrap ((b.toNat : Int) - 48) = (b.toNat : Int) - 48 := by unfold IntKind.wrap; simp [IntKind.bits, IntKind.signed]; omega
          have w2 : IntKind.i64.wrap ((b.toNat : Int) - 48) = (b.toNat : Int) - 48 := IntWalk.i64_in _ (by omega);have w3 : IntKind.i64.wrap (10 * (c : Int)) = 10 * (c : Int) := IntWalk.i64_in _ (by omega);have w4 : IntKind.i64.wrap (10 * (c : Int) + ((b.toNat : Int) - 48)) = ((c * 10 + (b.toNat - 48) : Nat) : Int) := by rw [IntWalk.i64_in _ (by omega)]; omega
          have w5 : IntKind.i64.wrap ((i : Int) + 1) = ((i + 1 : Nat) : Int) := by rw [IntWalk.i64_in _ (by have := HS.out.2; omega)]; omega
          clear hA2 hdb;go_wp2_with fail
          go_roundw
          case rel => exact ⟨j + 1, by have := HJ.out.2; omega, by have := HJ.out.1; congr 1; omega, by rw [HDV.out]; first | rfl | (congr 1; omega), HA2, HX2_1, HB⟩
          case measure => have := HJ.out; simp [intOf]; omega
         ·have hF : dB b = false := by simpa using hdb
          have HB3 : Hid ((tailL l).all dB = false) := Lib.hid (by
           rw [HT.out];cases h : T.all dB
           ·rfl
           ·have h2 := List.all_eq_true.1 h b (List.mem_of_mem_take (i := j + 1) (by rw [HTK.out]; simp));rw [hF] at h2; cases h2)
          by_cases h3 : (b.toNat : Int) < 48
          ·clear hdb hF hlt;obtain ⟨W6, hW6, HX2_1, HB, ho, f5a, f5b, f5c, k5a, k5b, k5c⟩ := put3 HX2_1 HB HN0 HG2_1 (.bool false) (.string ⟨#[]⟩) (.string ⟨#[]⟩);clear ho;go_wp2_with fail;clear hW1 hbk2 hb hlt' hiS f5a f5b f5c k5a k5b k5c hW6;refine bodyPost_ret (results_cell_row2 rfl _ _ bk2 26 _ (0, 0) _ rfl HX2_1.out Tryz.underlying26 rfl (by kernel_rfl)) rfl ?_;have h := HBAD.out (parseR_n (candR_n3 HB3.out));subst h;exact ⟨rfl, by rw [HN0.out]; exact HB.out⟩
          ·have h4 : 57 < (b.toNat : Int) := by have := HDB.out; rw [hF] at this; simp at this; omega
           clear hdb hF hlt;obtain ⟨W7, hW7, HX2_1, HB, ho, f6a, f6b, f6c, k6a, k6b, k6c⟩ := put3 HX2_1 HB HN0 HG2_1 (.bool false) (.string ⟨#[]⟩) (.string ⟨#[]⟩);clear ho;go_wp2_with fail;clear hW1 hbk2 h4 hb hlt' hiS f6a f6b f6c k6a k6b k6c hW7;refine bodyPost_ret (results_cell_row2 rfl _ _ bk2 26 _ (0, 0) _ rfl HX2_1.out Tryz.underlying26 rfl (by kernel_rfl)) rfl ?_;have h := HBAD.out (parseR_n (candR_n3 HB3.out));subst h;exact ⟨rfl, by rw [HN0.out]; exact HB.out⟩
        ·obtain rfl : j = 2 := by omega
         have h5 := HS.out.1;have hTT : T.take 2 = T := List.take_of_length_le (by rw [HTL.out]; exact Nat.le_refl _);have hge : ¬ (((S.size - 2 + 2 : Nat) : Nat) : Int) < (S.size : Int) := by omega
         have HSZ : Hid (decV T < 100) := Lib.hid (by
          have h1 := decF_lt T (by rw [hTT] at HA; exact HA.out);have h2 := HTL.out;rw [h2] at h1; exact h1)
         have HALL : Hid ((tailL l).all dB = true) := Lib.hid (by rw [HT.out]; rw [hTT] at HA; exact HA.out);have HDV : Hid (decV (tailL l) = decV T) := Lib.hid (by rw [HT.out]);rw [hTT];obtain ⟨c, hc⟩ : ∃ c, decV T = c := ⟨_, rfl⟩;rw [hc] at HSZ HDV ⊢;clear hc hTT h5 hlt HA;have hv2 := HPV.out HPB.out.symm;have hgd := parseR_yes HSH.out HPB.out.symm HALL.out;rw [HNG.out, ← hv2, HDV.out] at hgd;have s1 : Sz (v * 100) 61 := HPS.out.mul (show Sz 100 1 by unfold Sz; decide);have sc : Sz c 61 := (show Sz c 1 from by have := HSZ.out; unfold Sz; omega).mono (by decide);have s2 : Sz (v * 100 + c) 62 := s1.add sc;have hLo : (low true (v * 100 + c) 100).Ok := low_ok _ (by decide);have hLz : Rz (low true (v * 100 + c) 100) 62 := low_sz s2 ((show Sz 100 1 by unfold Sz; decide).mono (by decide))
         have c0 := fun w => rMul_any (encS v) (encS 100) w (Nat.le_trans (encS_size_lt HPS.out) (by decide)) (Nat.le_trans (encS_size_lt (show Sz 100 1 by unfold Sz; decide)) (by decide))
         simp only [numS_encS] at c0;have c9 := fun w => rOf_any (c : Int) w (by have := HSZ.out; omega)
         rw [Int.toNat_natCast] at c9;have c8 := fun w => rAdd_any (encS (v * 100)) (encS c) w (Nat.le_trans (encS_size_lt s1) (by decide)) (Nat.le_trans (encS_size_lt sc) (by decide))
         simp only [numS_encS] at c8;have c1 := fun w => rRatMake_any true (encS (v * 100 + c)) (encS 100) w (Nat.le_trans (encS_size_lt s2) (by decide)) (Nat.le_trans (encS_size_lt (show Sz 100 1 by unfold Sz; decide)) (by decide))
         have e : makeV true (encS (v * 100 + c)) (encS 100) = .tuple #[rtV (low true (v * 100 + c) 100), .bool true] := by unfold makeV; rw [right_enc, right_enc, numS_encS, numS_encS]; rfl
         rw [e] at c1; clear e;have c2 := fun w => rText_r hLo (hLz.mono (by decide)) w
         obtain ⟨L, hL⟩ : ∃ L, low true (v * 100 + c) 100 = L := ⟨_, rfl⟩;rw [hL] at hgd c1 c2;obtain ⟨y, hy⟩ : ∃ y, v * 100 = y := ⟨_, rfl⟩;rw [hy] at c0 c8 c1;obtain ⟨z, hz⟩ : ∃ z, y + c = z := ⟨_, rfl⟩;rw [hz] at c8 c1;have HGD := Lib.hid hgd;clear hgd hv2 hLo hLz hL s1 s2 sc hy hz
         by_cases hac : accept l L = true
         ·obtain ⟨ha1, ha2⟩ := accept_iff.1 hac;rw [if_pos hac] at HGD;have hR : R = .tuple #[rtV L, .bool true] := by rw [← HR.out, HGD.out]; rfl
          have hts : (⟨(textM L).toArray⟩ : ByteArray) = S := by rw [ha2, ← HL.out]
          unfold textV at c2; simp only [if_pos ha1, hts] at c2;subst hR;have C1 : Hid (∀ w, Calls Tryz.prog 40 #[.int .i64 100] w fun e w' => e = .returned (.string (encS 100)) ∧ Below w.heap.size w w') := Lib.hid fun w => by
           have h := (fun w => rOf_any 100 w (by decide)) w;exact h
          have C2 : Hid (∀ w, Calls Tryz.prog 42 #[.string (encS v), .string (encS 100)] w fun e w' => e = .returned (.string (encS y)) ∧ Below w.heap.size w w') := Lib.hid fun w => by
           have h := c0 w;exact h
          have C3 : Hid (∀ w, Calls Tryz.prog 40 #[.int .i64 (c : Int)] w fun e w' => e = .returned (.string (encS c)) ∧ Below w.heap.size w w') := Lib.hid fun w => by
           have h := c9 w;exact h
          have C4 : Hid (∀ w, Calls Tryz.prog 53 #[.string (encS y), .string (encS c)] w fun e w' => e = .returned (.string (encS z)) ∧ Below w.heap.size w w') := Lib.hid fun w => by
           have h := c8 w;exact h
          have C5 : Hid (∀ w, Calls Tryz.prog 81 #[.bool true, .string (encS z), .string (encS 100)] w fun e w' => e = .returned (.tuple #[.agg #[.bool L.neg, .string (encS L.num), .string (encS L.den)], .bool true]) ∧ Below w.heap.size w w') := Lib.hid fun w => by
           have h := c1 w;exact h
          have C6 : Hid (∀ w, Calls Tryz.prog 50 #[.agg #[.bool L.neg, .string (encS L.num), .string (encS L.den)]] w fun e w' => e = .returned (.tuple #[.string S, .bool true]) ∧ Below w.heap.size w w') := Lib.hid fun w => by
           have h := c2 w;exact h
          clear c0 c1 c2 c8 c9;go_wp2_with fail;clear hW1 hbk2 hge;refine (C1.out _).mono ?_;rintro e w8 ⟨rfl, hb⟩;have HX2_1 := uH hb HX2_1;have HB := mH HB hb;clear hb;go_wp2_with fail;refine (C2.out _).mono ?_;rintro e w9 ⟨rfl, hb⟩;have HX2_1 := uH hb HX2_1;have HB := mH HB hb;clear hb;go_wp2_with fail;refine (C3.out _).mono ?_;rintro e w10 ⟨rfl, hb⟩;have HX2_1 := uH hb HX2_1;have HB := mH HB hb;clear hb;go_wp2_with fail;refine (C4.out _).mono ?_;rintro e w11 ⟨rfl, hb⟩;have HX2_1 := uH hb HX2_1;have HB := mH HB hb;clear hb;go_wp2_with fail;refine (C1.out _).mono ?_;rintro e w12 ⟨rfl, hb⟩;have HX2_1 := uH hb HX2_1;have HB := mH HB hb;clear hb;go_wp2_with fail;refine (C5.out _).mono ?_;rintro e w13 ⟨rfl, hb⟩;have HX2_1 := uH hb HX2_1;have HB := mH HB hb;clear hb
          obtain ⟨W14, bk11, hW14, hbk11, HX11_7, HB, HG11_7, hup⟩ := boxn HB HN0 (.cells #[.bool false, .string ⟨#[]⟩, .string ⟨#[]⟩] 26);have HL11_7 := (hup _ _ HX2_1).2;have HX2_1 := (hup _ _ HX2_1).1;clear hup;obtain ⟨W15, hW15, HX11_7, HB, ho, f8a, f8b, f8c, k8a, k8b, k8c⟩ := put3 HX11_7 HB HN0 HG11_7 (.bool L.neg) (.string (encS L.num)) (.string (encS L.den));have HX2_1 := ho _ _ (by have h0 := HL11_7.out; omega) HX2_1;clear ho;obtain ⟨k9a, k9b, k9c⟩ := c3 HX11_7;go_wp2_with fail;clear hW14 hbk11 f8a f8b f8c k8a k8b k8c hW15 k9a k9b k9c;refine (C6.out _).mono ?_;rintro e w16 ⟨rfl, hb⟩;have HX2_1 := uH hb HX2_1;have HX11_7 := uH hb HX11_7;have HB := mH HB hb;clear hb;obtain ⟨k10a, k10b, k10c⟩ := c3 HX11_7;obtain ⟨W17, hW17, HX2_1, HB, ho, f11a, f11b, f11c, k11a, k11b, k11c⟩ := put3 HX2_1 HB HN0 HG2_1 (.bool L.neg) (.string (encS L.num)) (.string (encS L.den))
          have HX11_7 := ho _ _ (by have h0 := HL11_7.out; omega) HX11_7;clear ho;go_wp2_with fail;clear k10a k10b k10c f11a f11b f11c k11a k11b k11c hW17;refine bodyPost_ret (results_cell_row2 rfl _ _ bk2 26 _ (0, 0) _ rfl HX2_1.out Tryz.underlying26 rfl (by kernel_rfl)) rfl ?_;exact ⟨rfl, by rw [HN0.out]; exact HB.out⟩
         ·have hno : accept l L = false := by simpa using hac
          rw [hno] at HGD;have hR := HBAD.out HGD.out;subst hR
          by_cases ha1 : centsOk L = true
          ·have hne : ¬ (⟨(textM L).toArray⟩ : ByteArray) = S := fun h => hac (accept_iff.2 ⟨ha1, by rw [← HL.out, ← h]⟩)
           unfold textV at c2; simp only [if_pos ha1] at c2;obtain ⟨Z, hZ⟩ : ∃ Z, (⟨(textM L).toArray⟩ : ByteArray) = Z := ⟨_, rfl⟩;rw [hZ] at hne; simp only [hZ] at c2;have HNE : Hid (¬ Z.toList = S.toList) := Lib.hid fun h => hne (bytes_ext.1 h)
           clear hZ hne hac hno ha1;have C1 : Hid (∀ w, Calls Tryz.prog 40 #[.int .i64 100] w fun e w' => e = .returned (.string (encS 100)) ∧ Below w.heap.size w w') := Lib.hid fun w => by
            have h := (fun w => rOf_any 100 w (by decide)) w;exact h
           have C2 : Hid (∀ w, Calls Tryz.prog 42 #[.string (encS v), .string (encS 100)] w fun e w' => e = .returned (.string (encS y)) ∧ Below w.heap.size w w') := Lib.hid fun w => by
            have h := c0 w;exact h
           have C3 : Hid (∀ w, Calls Tryz.prog 40 #[.int .i64 (c : Int)] w fun e w' => e = .returned (.string (encS c)) ∧ Below w.heap.size w w') := Lib.hid fun w => by
            have h := c9 w;exact h
           have C4 : Hid (∀ w, Calls Tryz.prog 53 #[.string (encS y), .string (encS c)] w fun e w' => e = .returned (.string (encS z)) ∧ Below w.heap.size w w') := Lib.hid fun w => by
            have h := c8 w;exact h
           have C5 : Hid (∀ w, Calls Tryz.prog 81 #[.bool true, .string (encS z), .string (encS 100)] w fun e w' => e = .returned (.tuple #[.agg #[.bool L.neg, .string (encS L.num), .string (encS L.den)], .bool true]) ∧ Below w.heap.size w w') := Lib.hid fun w => by
            have h := c1 w;exact h
           have C6 : Hid (∀ w, Calls Tryz.prog 50 #[.agg #[.bool L.neg, .string (encS L.num), .string (encS L.den)]] w fun e w' => e = .returned (.tuple #[.string Z, .bool true]) ∧ Below w.heap.size w w') := Lib.hid fun w => by
            have h := c2 w;exact h
           clear c0 c1 c2 c8 c9;go_wp2_with fail;clear hW1 hbk2 hge;refine (C1.out _).mono ?_;rintro e w18 ⟨rfl, hb⟩;have HX2_1 := uH hb HX2_1;have HB := mH HB hb;clear hb;go_wp2_with fail;refine (C2.out _).mono ?_;rintro e w19 ⟨rfl, hb⟩;have HX2_1 := uH hb HX2_1;have HB := mH HB hb;clear hb;go_wp2_with fail;refine (C3.out _).mono ?_;rintro e w20 ⟨rfl, hb⟩;have HX2_1 := uH hb HX2_1;have HB := mH HB hb;clear hb;go_wp2_with fail;refine (C4.out _).mono ?_;rintro e w21 ⟨rfl, hb⟩;have HX2_1 := uH hb HX2_1;have HB := mH HB hb;clear hb;go_wp2_with fail;refine (C1.out _).mono ?_;rintro e w22 ⟨rfl, hb⟩;have HX2_1 := uH hb HX2_1;have HB := mH HB hb;clear hb;go_wp2_with fail;refine (C5.out _).mono ?_;rintro e w23 ⟨rfl, hb⟩;have HX2_1 := uH hb HX2_1;have HB := mH HB hb;clear hb
           obtain ⟨W24, bk11, hW24, hbk11, HX11_12, HB, HG11_12, hup⟩ := boxn HB HN0 (.cells #[.bool false, .string ⟨#[]⟩, .string ⟨#[]⟩] 26);have HL11_12 := (hup _ _ HX2_1).2;have HX2_1 := (hup _ _ HX2_1).1;clear hup;obtain ⟨W25, hW25, HX11_12, HB, ho, f13a, f13b, f13c, k13a, k13b, k13c⟩ := put3 HX11_12 HB HN0 HG11_12 (.bool L.neg) (.string (encS L.num)) (.string (encS L.den));have HX2_1 := ho _ _ (by have h0 := HL11_12.out; omega) HX2_1;clear ho;obtain ⟨k14a, k14b, k14c⟩ := c3 HX11_12;go_wp2_with fail;clear hW24 hbk11 f13a f13b f13c k13a k13b k13c hW25 k14a k14b k14c;refine (C6.out _).mono ?_;rintro e w26 ⟨rfl, hb⟩;have HX2_1 := uH hb HX2_1;have HX11_12 := uH hb HX11_12;have HB := mH HB hb;clear hb;have q15 := HNE.out;have q16 := (show (Z.toList == S.toList) = false from by rw [beq_eq_false_iff_ne]; exact HNE.out)
           obtain ⟨W27, hW27, HX2_1, HB, ho, f17a, f17b, f17c, k17a, k17b, k17c⟩ := put3 HX2_1 HB HN0 HG2_1 (.bool false) (.string ⟨#[]⟩) (.string ⟨#[]⟩);have HX11_12 := ho _ _ (by have h0 := HL11_12.out; omega) HX11_12;clear ho;go_wp2_with fail;clear q15 q16 f17a f17b f17c k17a k17b k17c hW27;refine bodyPost_ret (results_cell_row2 rfl _ _ bk2 26 _ (0, 0) _ rfl HX2_1.out Tryz.underlying26 rfl (by kernel_rfl)) rfl ?_;exact ⟨rfl, by rw [HN0.out]; exact HB.out⟩
          ·unfold textV at c2; simp only [if_neg ha1] at c2;clear hac hno ha1;have C1 : Hid (∀ w, Calls Tryz.prog 40 #[.int .i64 100] w fun e w' => e = .returned (.string (encS 100)) ∧ Below w.heap.size w w') := Lib.hid fun w => by
            have h := (fun w => rOf_any 100 w (by decide)) w;exact h
           have C2 : Hid (∀ w, Calls Tryz.prog 42 #[.string (encS v), .string (encS 100)] w fun e w' => e = .returned (.string (encS y)) ∧ Below w.heap.size w w') := Lib.hid fun w => by
            have h := c0 w;exact h
           have C3 : Hid (∀ w, Calls Tryz.prog 40 #[.int .i64 (c : Int)] w fun e w' => e = .returned (.string (encS c)) ∧ Below w.heap.size w w') := Lib.hid fun w => by
            have h := c9 w;exact h
           have C4 : Hid (∀ w, Calls Tryz.prog 53 #[.string (encS y), .string (encS c)] w fun e w' => e = .returned (.string (encS z)) ∧ Below w.heap.size w w') := Lib.hid fun w => by
            have h := c8 w;exact h
           have C5 : Hid (∀ w, Calls Tryz.prog 81 #[.bool true, .string (encS z), .string (encS 100)] w fun e w' => e = .returned (.tuple #[.agg #[.bool L.neg, .string (encS L.num), .string (encS L.den)], .bool true]) ∧ Below w.heap.size w w') := Lib.hid fun w => by
            have h := c1 w;exact h
           have C6 : Hid (∀ w, Calls Tryz.prog 50 #[.agg #[.bool L.neg, .string (encS L.num), .string (encS L.den)]] w fun e w' => e = .returned (.tuple #[.string ⟨#[]⟩, .bool false]) ∧ Below w.heap.size w w') := Lib.hid fun w => by
            have h := c2 w;exact h
           clear c0 c1 c2 c8 c9;go_wp2_with fail;clear hW1 hbk2 hge;refine (C1.out _).mono ?_;rintro e w28 ⟨rfl, hb⟩;have HX2_1 := uH hb HX2_1;have HB := mH HB hb;clear hb;go_wp2_with fail;refine (C2.out _).mono ?_;rintro e w29 ⟨rfl, hb⟩;have HX2_1 := uH hb HX2_1;have HB := mH HB hb;clear hb;go_wp2_with fail;refine (C3.out _).mono ?_;rintro e w30 ⟨rfl, hb⟩;have HX2_1 := uH hb HX2_1;have HB := mH HB hb;clear hb;go_wp2_with fail;refine (C4.out _).mono ?_;rintro e w31 ⟨rfl, hb⟩;have HX2_1 := uH hb HX2_1;have HB := mH HB hb;clear hb;go_wp2_with fail;refine (C1.out _).mono ?_;rintro e w32 ⟨rfl, hb⟩;have HX2_1 := uH hb HX2_1;have HB := mH HB hb;clear hb;go_wp2_with fail;refine (C5.out _).mono ?_;rintro e w33 ⟨rfl, hb⟩;have HX2_1 := uH hb HX2_1;have HB := mH HB hb;clear hb
           obtain ⟨W34, bk11, hW34, hbk11, HX11_18, HB, HG11_18, hup⟩ := boxn HB HN0 (.cells #[.bool false, .string ⟨#[]⟩, .string ⟨#[]⟩] 26);have HL11_18 := (hup _ _ HX2_1).2;have HX2_1 := (hup _ _ HX2_1).1;clear hup;obtain ⟨W35, hW35, HX11_18, HB, ho, f19a, f19b, f19c, k19a, k19b, k19c⟩ := put3 HX11_18 HB HN0 HG11_18 (.bool L.neg) (.string (encS L.num)) (.string (encS L.den));have HX2_1 := ho _ _ (by have h0 := HL11_18.out; omega) HX2_1;clear ho;obtain ⟨k20a, k20b, k20c⟩ := c3 HX11_18;go_wp2_with fail;clear hW34 hbk11 f19a f19b f19c k19a k19b k19c hW35 k20a k20b k20c;refine (C6.out _).mono ?_;rintro e w36 ⟨rfl, hb⟩;have HX2_1 := uH hb HX2_1;have HX11_18 := uH hb HX11_18;have HB := mH HB hb;clear hb;obtain ⟨W37, hW37, HX2_1, HB, ho, f21a, f21b, f21c, k21a, k21b, k21c⟩ := put3 HX2_1 HB HN0 HG2_1 (.bool false) (.string ⟨#[]⟩) (.string ⟨#[]⟩)
           have HX11_18 := ho _ _ (by have h0 := HL11_18.out; omega) HX11_18;clear ho;go_wp2_with fail;clear f21a f21b f21c k21a k21b k21c hW37;refine bodyPost_ret (results_cell_row2 rfl _ _ bk2 26 _ (0, 0) _ rfl HX2_1.out Tryz.underlying26 rfl (by kernel_rfl)) rfl ?_;exact ⟨rfl, by rw [HN0.out]; exact HB.out⟩
     ·have hmm : ((m.toNat : Int) == 45) = false := u8_ne (by decide) hneg;have HNG : Hid (negL l = false) := Lib.hid (by unfold negL; rw [HM.out]; simp [hneg]);have HS := Lib.hid (And.intro h5 h40);have hw3 : IntKind.i64.wrap ((S.size : Int) - 3) = (S.size : Int) - 3 := IntWalk.i64_in _ (by omega);have q2 : (1 : Int) ≤ (S.size : Int) - 3 := by omega
      have q3 : (S.size : Int) - 3 ≤ (S.size : Int) := by omega
      go_wp2_with fail;clear hq hd hm hi hmm hq2 h5 h40 h5' h40' k3 j3 j1 j0 hw3 q2 q3 hneg;obtain ⟨X, hX⟩ : ∃ X, S.extract 1 (S.size - 3) = X := ⟨_, rfl⟩;have HX : Hid (X.data.toList = unitL l) := Lib.hid (by rw [← hX, ext_list, HL.out]; unfold unitL; rw [HN.out, HNG.out]; rfl);have HXS : Hid (X.size ≤ 60) := Lib.hid (by have := HS.out.2; rw [← hX, ByteArray.size_extract]; omega);rw [hX]; clear hX;have HP : Hid (∀ w, Calls Tryz.prog 80 #[.string X] w fun e w' => e = .returned (.tuple #[.string (encS (parV X)), .bool (parB X)]) ∧ Below w.heap.size w w') := Lib.hid fun w => rParse_any X w (by have := HXS.out; omega)
      have HPB : Hid (parB X = okP (unitL l)) := Lib.hid (by unfold parB; rw [HX.out]);have HPV : Hid (okP (unitL l) = true → parV X = decV (unitL l)) := Lib.hid fun h => by unfold parV; rw [HX.out, if_pos h]
      have HPS : Hid (Sz (parV X) 60) := Lib.hid (by have := HXS.out; exact (parV_sz X).mono this);obtain ⟨p, hp⟩ : ∃ p, parB X = p := ⟨_, rfl⟩;obtain ⟨v, hv⟩ : ∃ p, parV X = p := ⟨_, rfl⟩;rw [hp] at HP HPB; rw [hv] at HP HPV HPS; clear hp hv;refine (HP.out _).mono ?_;rintro e w38 ⟨rfl, hb⟩;have HX2_1 := uH hb HX2_1;have HB := mH HB hb;clear hb;cases p
      case false =>
       obtain ⟨W39, hW39, HX2_1, HB, ho, f22a, f22b, f22c, k22a, k22b, k22c⟩ := put3 HX2_1 HB HN0 HG2_1 (.bool false) (.string ⟨#[]⟩) (.string ⟨#[]⟩);clear ho;go_wp2_with fail;clear hW1 hbk2 f22a f22b f22c k22a k22b k22c hW39;refine bodyPost_ret (results_cell_row2 rfl _ _ bk2 26 _ (0, 0) _ rfl HX2_1.out Tryz.underlying26 rfl (by kernel_rfl)) rfl ?_;have h := HBAD.out (parseR_n (candR_n2 HPB.out.symm));subst h;exact ⟨rfl, by rw [HN0.out]; exact HB.out⟩
      case true =>
       obtain ⟨T, hT⟩ : ∃ T, tailL l = T := ⟨_, rfl⟩;have HT := Lib.hid hT;have HTL : Hid (T.length = 2) := Lib.hid (by rw [← hT]; unfold tailL; rw [List.length_drop, HN.out]; have := HS.out.1; omega);have HTG : Hid (∀ i (h : i < 2) (h2 : S.size - 2 + i < S.size), T[i]? = some (S[S.size - 2 + i]'h2)) := Lib.hid fun i h h2 => by
        rw [← hT]; unfold tailL; rw [List.getElem?_drop, HN.out, ← HL.out]; exact list_at S h2
       clear hT;have hw2 : IntKind.i64.wrap ((S.size : Int) - 2) = (S.size : Int) - 2 := IntWalk.i64_in _ (by have := HS.out.1; have := HS.out.2; omega);go_wp2_with fail;clear hw2
       go_loopw [8, 9] (fun c i wr => ∃ j : Nat, j ≤ 2 ∧ i = .int .i64 ((S.size - 2 + j : Nat) : Int) ∧ c = .int .i64 ((decV (T.take j) : Nat) : Int) ∧ Hid ((T.take j).all dB = true) ∧ Hid (wr.heap[bk2]? = some (.cells #[.bool false, .string ⟨#[]⟩, .string ⟨#[]⟩] 26 (0, 0))) ∧ Hid (Below wq.heap.size wq wr)) (fun _ i _ => S.size - (intOf i).toNat)
       case atStart => exact ⟨0, by omega, by have := HS.out.1; congr 1; omega, rfl, Lib.hid rfl, HX2_1, HB⟩
       case round =>
        obtain ⟨j, hj, rfl, rfl, HA, HX2_1, HB⟩ := hrel
        by_cases hlt : j < 2
        ·have h5 := HS.out.1; have h40 := HS.out.2;obtain ⟨i, hi⟩ : ∃ i, S.size - 2 + j = i := ⟨_, rfl⟩;have hiS : i < S.size := by omega
         have hlt' : (i : Int) < (S.size : Int) := by omega
         obtain ⟨b, hb⟩ : ∃ b, S[i]'hiS = b := ⟨_, rfl⟩;have hTj : T[j]? = some b := by rw [← hb]; subst hi; exact HTG.out j hlt hiS
         have hjl : j < T.length := by rw [HTL.out]; exact hlt
         have hTe : T[j] = b := by rw [List.getElem?_eq_getElem hjl] at hTj; exact Option.some.inj hTj
         have HTK : Hid (T.take (j + 1) = T.take j ++ [b]) := Lib.hid (by rw [List.take_succ_eq_append_getElem hjl, hTe]);have HDV : Hid (decV (T.take (j + 1)) = decV (T.take j) * 10 + (b.toNat - 48)) := Lib.hid (by rw [HTK.out]; exact decV_snoc _ _);have HSZ : Hid (decV (T.take j) < 100) := Lib.hid (by
          have h1 := decF_lt _ HA.out;have h2 : (T.take j).length ≤ 2 := by rw [List.length_take]; omega
          exact Nat.lt_of_lt_of_le h1 (Nat.pow_le_pow_right (by decide) h2))
         have HDB := Lib.hid (dB_iff b);have HJ := Lib.hid (And.intro hi hlt);rw [hi];obtain ⟨c, hc⟩ : ∃ c, decV (T.take j) = c := ⟨_, rfl⟩;rw [hc] at HDV HSZ ⊢;clear h5 h40 hTj hTe hjl hc hi
         by_cases hdb : dB b = true
         ·have h3 : ¬ (b.toNat : Int) < 48 := by have := HDB.out; rw [hdb] at this; simp at this; omega
          have h4 : ¬ 57 < (b.toNat : Int) := by have := HDB.out; rw [hdb] at this; simp at this; omega
          have hA2 : (T.take (j + 1)).all dB = true := by rw [HTK.out, List.all_append, HA.out, List.all_cons, hdb]; rfl
          have HA2 := Lib.hid hA2;have hc1 := HSZ.out;have w1 : IntKind.u8.wrap ((b.toNat : Int) - 48) = (b.toNat : Int) - 48 := by unfold IntKind.wrap; simp [IntKind.bits, IntKind.signed]; omega
          have w2 : IntKind.i64.wrap ((b.toNat : Int) - 48) = (b.toNat : Int) - 48 := IntWalk.i64_in _ (by omega);have w3 : IntKind.i64.wrap (10 * (c : Int)) = 10 * (c : Int) := IntWalk.i64_in _ (by omega);have w4 : IntKind.i64.wrap (10 * (c : Int) + ((b.toNat : Int) - 48)) = ((c * 10 + (b.toNat - 48) : Nat) : Int) := by rw [IntWalk.i64_in _ (by omega)]; omega
          have w5 : IntKind.i64.wrap ((i : Int) + 1) = ((i + 1 : Nat) : Int) := by rw [IntWalk.i64_in _ (by have := HS.out.2; omega)]; omega
          clear hA2 hdb;go_wp2_with fail
          go_roundw
          case rel => exact ⟨j + 1, by have := HJ.out.2; omega, by have := HJ.out.1; congr 1; omega, by rw [HDV.out]; first | rfl | (congr 1; omega), HA2, HX2_1, HB⟩
          case measure => have := HJ.out; simp [intOf]; omega
         ·have hF : dB b = false := by simpa using hdb
          have HB3 : Hid ((tailL l).all dB = false) := Lib.hid (by
           rw [HT.out];cases h : T.all dB
           ·rfl
           ·have h2 := List.all_eq_true.1 h b (List.mem_of_mem_take (i := j + 1) (by rw [HTK.out]; simp));rw [hF] at h2; cases h2)
          by_cases h3 : (b.toNat : Int) < 48
          ·clear hdb hF hlt;obtain ⟨W40, hW40, HX2_1, HB, ho, f23a, f23b, f23c, k23a, k23b, k23c⟩ := put3 HX2_1 HB HN0 HG2_1 (.bool false) (.string ⟨#[]⟩) (.string ⟨#[]⟩);clear ho;go_wp2_with fail;clear hW1 hbk2 hb hlt' hiS f23a f23b f23c k23a k23b k23c hW40;refine bodyPost_ret (results_cell_row2 rfl _ _ bk2 26 _ (0, 0) _ rfl HX2_1.out Tryz.underlying26 rfl (by kernel_rfl)) rfl ?_;have h := HBAD.out (parseR_n (candR_n3 HB3.out));subst h;exact ⟨rfl, by rw [HN0.out]; exact HB.out⟩
          ·have h4 : 57 < (b.toNat : Int) := by have := HDB.out; rw [hF] at this; simp at this; omega
           clear hdb hF hlt;obtain ⟨W41, hW41, HX2_1, HB, ho, f24a, f24b, f24c, k24a, k24b, k24c⟩ := put3 HX2_1 HB HN0 HG2_1 (.bool false) (.string ⟨#[]⟩) (.string ⟨#[]⟩);clear ho;go_wp2_with fail;clear hW1 hbk2 h4 hb hlt' hiS f24a f24b f24c k24a k24b k24c hW41;refine bodyPost_ret (results_cell_row2 rfl _ _ bk2 26 _ (0, 0) _ rfl HX2_1.out Tryz.underlying26 rfl (by kernel_rfl)) rfl ?_;have h := HBAD.out (parseR_n (candR_n3 HB3.out));subst h;exact ⟨rfl, by rw [HN0.out]; exact HB.out⟩
        ·obtain rfl : j = 2 := by omega
         have h5 := HS.out.1;have hTT : T.take 2 = T := List.take_of_length_le (by rw [HTL.out]; exact Nat.le_refl _);have hge : ¬ (((S.size - 2 + 2 : Nat) : Nat) : Int) < (S.size : Int) := by omega
         have HSZ : Hid (decV T < 100) := Lib.hid (by
          have h1 := decF_lt T (by rw [hTT] at HA; exact HA.out);have h2 := HTL.out;rw [h2] at h1; exact h1)
         have HALL : Hid ((tailL l).all dB = true) := Lib.hid (by rw [HT.out]; rw [hTT] at HA; exact HA.out);have HDV : Hid (decV (tailL l) = decV T) := Lib.hid (by rw [HT.out]);rw [hTT];obtain ⟨c, hc⟩ : ∃ c, decV T = c := ⟨_, rfl⟩;rw [hc] at HSZ HDV ⊢;clear hc hTT h5 hlt HA;have hv2 := HPV.out HPB.out.symm;have hgd := parseR_yes HSH.out HPB.out.symm HALL.out;rw [HNG.out, ← hv2, HDV.out] at hgd;have s1 : Sz (v * 100) 61 := HPS.out.mul (show Sz 100 1 by unfold Sz; decide);have sc : Sz c 61 := (show Sz c 1 from by have := HSZ.out; unfold Sz; omega).mono (by decide);have s2 : Sz (v * 100 + c) 62 := s1.add sc;have hLo : (low false (v * 100 + c) 100).Ok := low_ok _ (by decide);have hLz : Rz (low false (v * 100 + c) 100) 62 := low_sz s2 ((show Sz 100 1 by unfold Sz; decide).mono (by decide))
         have c0 := fun w => rMul_any (encS v) (encS 100) w (Nat.le_trans (encS_size_lt HPS.out) (by decide)) (Nat.le_trans (encS_size_lt (show Sz 100 1 by unfold Sz; decide)) (by decide))
         simp only [numS_encS] at c0;have c9 := fun w => rOf_any (c : Int) w (by have := HSZ.out; omega)
         rw [Int.toNat_natCast] at c9;have c8 := fun w => rAdd_any (encS (v * 100)) (encS c) w (Nat.le_trans (encS_size_lt s1) (by decide)) (Nat.le_trans (encS_size_lt sc) (by decide))
         simp only [numS_encS] at c8;have c1 := fun w => rRatMake_any false (encS (v * 100 + c)) (encS 100) w (Nat.le_trans (encS_size_lt s2) (by decide)) (Nat.le_trans (encS_size_lt (show Sz 100 1 by unfold Sz; decide)) (by decide))
         have e : makeV false (encS (v * 100 + c)) (encS 100) = .tuple #[rtV (low false (v * 100 + c) 100), .bool true] := by unfold makeV; rw [right_enc, right_enc, numS_encS, numS_encS]; rfl
         rw [e] at c1; clear e;have c2 := fun w => rText_r hLo (hLz.mono (by decide)) w
         obtain ⟨L, hL⟩ : ∃ L, low false (v * 100 + c) 100 = L := ⟨_, rfl⟩;rw [hL] at hgd c1 c2;obtain ⟨y, hy⟩ : ∃ y, v * 100 = y := ⟨_, rfl⟩;rw [hy] at c0 c8 c1;obtain ⟨z, hz⟩ : ∃ z, y + c = z := ⟨_, rfl⟩;rw [hz] at c8 c1;have HGD := Lib.hid hgd;clear hgd hv2 hLo hLz hL s1 s2 sc hy hz
         by_cases hac : accept l L = true
         ·obtain ⟨ha1, ha2⟩ := accept_iff.1 hac;rw [if_pos hac] at HGD;have hR : R = .tuple #[rtV L, .bool true] := by rw [← HR.out, HGD.out]; rfl
          have hts : (⟨(textM L).toArray⟩ : ByteArray) = S := by rw [ha2, ← HL.out]
          unfold textV at c2; simp only [if_pos ha1, hts] at c2;subst hR;have C1 : Hid (∀ w, Calls Tryz.prog 40 #[.int .i64 100] w fun e w' => e = .returned (.string (encS 100)) ∧ Below w.heap.size w w') := Lib.hid fun w => by
           have h := (fun w => rOf_any 100 w (by decide)) w;exact h
          have C2 : Hid (∀ w, Calls Tryz.prog 42 #[.string (encS v), .string (encS 100)] w fun e w' => e = .returned (.string (encS y)) ∧ Below w.heap.size w w') := Lib.hid fun w => by
           have h := c0 w;exact h
          have C3 : Hid (∀ w, Calls Tryz.prog 40 #[.int .i64 (c : Int)] w fun e w' => e = .returned (.string (encS c)) ∧ Below w.heap.size w w') := Lib.hid fun w => by
           have h := c9 w;exact h
          have C4 : Hid (∀ w, Calls Tryz.prog 53 #[.string (encS y), .string (encS c)] w fun e w' => e = .returned (.string (encS z)) ∧ Below w.heap.size w w') := Lib.hid fun w => by
           have h := c8 w;exact h
          have C5 : Hid (∀ w, Calls Tryz.prog 81 #[.bool false, .string (encS z), .string (encS 100)] w fun e w' => e = .returned (.tuple #[.agg #[.bool L.neg, .string (encS L.num), .string (encS L.den)], .bool true]) ∧ Below w.heap.size w w') := Lib.hid fun w => by
           have h := c1 w;exact h
          have C6 : Hid (∀ w, Calls Tryz.prog 50 #[.agg #[.bool L.neg, .string (encS L.num), .string (encS L.den)]] w fun e w' => e = .returned (.tuple #[.string S, .bool true]) ∧ Below w.heap.size w w') := Lib.hid fun w => by
           have h := c2 w;exact h
          clear c0 c1 c2 c8 c9;go_wp2_with fail;clear hW1 hbk2 hge;refine (C1.out _).mono ?_;rintro e w42 ⟨rfl, hb⟩;have HX2_1 := uH hb HX2_1;have HB := mH HB hb;clear hb;go_wp2_with fail;refine (C2.out _).mono ?_;rintro e w43 ⟨rfl, hb⟩;have HX2_1 := uH hb HX2_1;have HB := mH HB hb;clear hb;go_wp2_with fail;refine (C3.out _).mono ?_;rintro e w44 ⟨rfl, hb⟩;have HX2_1 := uH hb HX2_1;have HB := mH HB hb;clear hb;go_wp2_with fail;refine (C4.out _).mono ?_;rintro e w45 ⟨rfl, hb⟩;have HX2_1 := uH hb HX2_1;have HB := mH HB hb;clear hb;go_wp2_with fail;refine (C1.out _).mono ?_;rintro e w46 ⟨rfl, hb⟩;have HX2_1 := uH hb HX2_1;have HB := mH HB hb;clear hb;go_wp2_with fail;refine (C5.out _).mono ?_;rintro e w47 ⟨rfl, hb⟩;have HX2_1 := uH hb HX2_1;have HB := mH HB hb;clear hb
          obtain ⟨W48, bk11, hW48, hbk11, HX11_25, HB, HG11_25, hup⟩ := boxn HB HN0 (.cells #[.bool false, .string ⟨#[]⟩, .string ⟨#[]⟩] 26);have HL11_25 := (hup _ _ HX2_1).2;have HX2_1 := (hup _ _ HX2_1).1;clear hup;obtain ⟨W49, hW49, HX11_25, HB, ho, f26a, f26b, f26c, k26a, k26b, k26c⟩ := put3 HX11_25 HB HN0 HG11_25 (.bool L.neg) (.string (encS L.num)) (.string (encS L.den));have HX2_1 := ho _ _ (by have h0 := HL11_25.out; omega) HX2_1;clear ho;obtain ⟨k27a, k27b, k27c⟩ := c3 HX11_25;go_wp2_with fail;clear hW48 hbk11 f26a f26b f26c k26a k26b k26c hW49 k27a k27b k27c;refine (C6.out _).mono ?_;rintro e w50 ⟨rfl, hb⟩;have HX2_1 := uH hb HX2_1;have HX11_25 := uH hb HX11_25;have HB := mH HB hb;clear hb;obtain ⟨k28a, k28b, k28c⟩ := c3 HX11_25
          obtain ⟨W51, hW51, HX2_1, HB, ho, f29a, f29b, f29c, k29a, k29b, k29c⟩ := put3 HX2_1 HB HN0 HG2_1 (.bool L.neg) (.string (encS L.num)) (.string (encS L.den));have HX11_25 := ho _ _ (by have h0 := HL11_25.out; omega) HX11_25;clear ho;go_wp2_with fail;clear k28a k28b k28c f29a f29b f29c k29a k29b k29c hW51;refine bodyPost_ret (results_cell_row2 rfl _ _ bk2 26 _ (0, 0) _ rfl HX2_1.out Tryz.underlying26 rfl (by kernel_rfl)) rfl ?_;exact ⟨rfl, by rw [HN0.out]; exact HB.out⟩
         ·have hno : accept l L = false := by simpa using hac
          rw [hno] at HGD;have hR := HBAD.out HGD.out;subst hR
          by_cases ha1 : centsOk L = true
          ·have hne : ¬ (⟨(textM L).toArray⟩ : ByteArray) = S := fun h => hac (accept_iff.2 ⟨ha1, by rw [← HL.out, ← h]⟩)
           unfold textV at c2; simp only [if_pos ha1] at c2;obtain ⟨Z, hZ⟩ : ∃ Z, (⟨(textM L).toArray⟩ : ByteArray) = Z := ⟨_, rfl⟩;rw [hZ] at hne; simp only [hZ] at c2;have HNE : Hid (¬ Z.toList = S.toList) := Lib.hid fun h => hne (bytes_ext.1 h)
           clear hZ hne hac hno ha1;have C1 : Hid (∀ w, Calls Tryz.prog 40 #[.int .i64 100] w fun e w' => e = .returned (.string (encS 100)) ∧ Below w.heap.size w w') := Lib.hid fun w => by
            have h := (fun w => rOf_any 100 w (by decide)) w;exact h
           have C2 : Hid (∀ w, Calls Tryz.prog 42 #[.string (encS v), .string (encS 100)] w fun e w' => e = .returned (.string (encS y)) ∧ Below w.heap.size w w') := Lib.hid fun w => by
            have h := c0 w;exact h
           have C3 : Hid (∀ w, Calls Tryz.prog 40 #[.int .i64 (c : Int)] w fun e w' => e = .returned (.string (encS c)) ∧ Below w.heap.size w w') := Lib.hid fun w => by
            have h := c9 w;exact h
           have C4 : Hid (∀ w, Calls Tryz.prog 53 #[.string (encS y), .string (encS c)] w fun e w' => e = .returned (.string (encS z)) ∧ Below w.heap.size w w') := Lib.hid fun w => by
            have h := c8 w;exact h
           have C5 : Hid (∀ w, Calls Tryz.prog 81 #[.bool false, .string (encS z), .string (encS 100)] w fun e w' => e = .returned (.tuple #[.agg #[.bool L.neg, .string (encS L.num), .string (encS L.den)], .bool true]) ∧ Below w.heap.size w w') := Lib.hid fun w => by
            have h := c1 w;exact h
           have C6 : Hid (∀ w, Calls Tryz.prog 50 #[.agg #[.bool L.neg, .string (encS L.num), .string (encS L.den)]] w fun e w' => e = .returned (.tuple #[.string Z, .bool true]) ∧ Below w.heap.size w w') := Lib.hid fun w => by
            have h := c2 w;exact h
           clear c0 c1 c2 c8 c9;go_wp2_with fail;clear hW1 hbk2 hge;refine (C1.out _).mono ?_;rintro e w52 ⟨rfl, hb⟩;have HX2_1 := uH hb HX2_1;have HB := mH HB hb;clear hb;go_wp2_with fail;refine (C2.out _).mono ?_;rintro e w53 ⟨rfl, hb⟩;have HX2_1 := uH hb HX2_1;have HB := mH HB hb;clear hb;go_wp2_with fail;refine (C3.out _).mono ?_;rintro e w54 ⟨rfl, hb⟩;have HX2_1 := uH hb HX2_1;have HB := mH HB hb;clear hb;go_wp2_with fail;refine (C4.out _).mono ?_;rintro e w55 ⟨rfl, hb⟩;have HX2_1 := uH hb HX2_1;have HB := mH HB hb;clear hb;go_wp2_with fail;refine (C1.out _).mono ?_;rintro e w56 ⟨rfl, hb⟩;have HX2_1 := uH hb HX2_1;have HB := mH HB hb;clear hb;go_wp2_with fail;refine (C5.out _).mono ?_;rintro e w57 ⟨rfl, hb⟩;have HX2_1 := uH hb HX2_1;have HB := mH HB hb;clear hb
           obtain ⟨W58, bk11, hW58, hbk11, HX11_30, HB, HG11_30, hup⟩ := boxn HB HN0 (.cells #[.bool false, .string ⟨#[]⟩, .string ⟨#[]⟩] 26);have HL11_30 := (hup _ _ HX2_1).2;have HX2_1 := (hup _ _ HX2_1).1;clear hup;obtain ⟨W59, hW59, HX11_30, HB, ho, f31a, f31b, f31c, k31a, k31b, k31c⟩ := put3 HX11_30 HB HN0 HG11_30 (.bool L.neg) (.string (encS L.num)) (.string (encS L.den));have HX2_1 := ho _ _ (by have h0 := HL11_30.out; omega) HX2_1;clear ho;obtain ⟨k32a, k32b, k32c⟩ := c3 HX11_30;go_wp2_with fail;clear hW58 hbk11 f31a f31b f31c k31a k31b k31c hW59 k32a k32b k32c;refine (C6.out _).mono ?_;rintro e w60 ⟨rfl, hb⟩;have HX2_1 := uH hb HX2_1;have HX11_30 := uH hb HX11_30;have HB := mH HB hb;clear hb;have q33 := HNE.out;have q34 := (show (Z.toList == S.toList) = false from by rw [beq_eq_false_iff_ne]; exact HNE.out)
           obtain ⟨W61, hW61, HX2_1, HB, ho, f35a, f35b, f35c, k35a, k35b, k35c⟩ := put3 HX2_1 HB HN0 HG2_1 (.bool false) (.string ⟨#[]⟩) (.string ⟨#[]⟩);have HX11_30 := ho _ _ (by have h0 := HL11_30.out; omega) HX11_30;clear ho;go_wp2_with fail;clear q33 q34 f35a f35b f35c k35a k35b k35c hW61;refine bodyPost_ret (results_cell_row2 rfl _ _ bk2 26 _ (0, 0) _ rfl HX2_1.out Tryz.underlying26 rfl (by kernel_rfl)) rfl ?_;exact ⟨rfl, by rw [HN0.out]; exact HB.out⟩
          ·unfold textV at c2; simp only [if_neg ha1] at c2;clear hac hno ha1;have C1 : Hid (∀ w, Calls Tryz.prog 40 #[.int .i64 100] w fun e w' => e = .returned (.string (encS 100)) ∧ Below w.heap.size w w') := Lib.hid fun w => by
            have h := (fun w => rOf_any 100 w (by decide)) w;exact h
           have C2 : Hid (∀ w, Calls Tryz.prog 42 #[.string (encS v), .string (encS 100)] w fun e w' => e = .returned (.string (encS y)) ∧ Below w.heap.size w w') := Lib.hid fun w => by
            have h := c0 w;exact h
           have C3 : Hid (∀ w, Calls Tryz.prog 40 #[.int .i64 (c : Int)] w fun e w' => e = .returned (.string (encS c)) ∧ Below w.heap.size w w') := Lib.hid fun w => by
            have h := c9 w;exact h
           have C4 : Hid (∀ w, Calls Tryz.prog 53 #[.string (encS y), .string (encS c)] w fun e w' => e = .returned (.string (encS z)) ∧ Below w.heap.size w w') := Lib.hid fun w => by
            have h := c8 w;exact h
           have C5 : Hid (∀ w, Calls Tryz.prog 81 #[.bool false, .string (encS z), .string (encS 100)] w fun e w' => e = .returned (.tuple #[.agg #[.bool L.neg, .string (encS L.num), .string (encS L.den)], .bool true]) ∧ Below w.heap.size w w') := Lib.hid fun w => by
            have h := c1 w;exact h
           have C6 : Hid (∀ w, Calls Tryz.prog 50 #[.agg #[.bool L.neg, .string (encS L.num), .string (encS L.den)]] w fun e w' => e = .returned (.tuple #[.string ⟨#[]⟩, .bool false]) ∧ Below w.heap.size w w') := Lib.hid fun w => by
            have h := c2 w;exact h
           clear c0 c1 c2 c8 c9;go_wp2_with fail;clear hW1 hbk2 hge;refine (C1.out _).mono ?_;rintro e w62 ⟨rfl, hb⟩;have HX2_1 := uH hb HX2_1;have HB := mH HB hb;clear hb;go_wp2_with fail;refine (C2.out _).mono ?_;rintro e w63 ⟨rfl, hb⟩;have HX2_1 := uH hb HX2_1;have HB := mH HB hb;clear hb;go_wp2_with fail;refine (C3.out _).mono ?_;rintro e w64 ⟨rfl, hb⟩;have HX2_1 := uH hb HX2_1;have HB := mH HB hb;clear hb;go_wp2_with fail;refine (C4.out _).mono ?_;rintro e w65 ⟨rfl, hb⟩;have HX2_1 := uH hb HX2_1;have HB := mH HB hb;clear hb;go_wp2_with fail;refine (C1.out _).mono ?_;rintro e w66 ⟨rfl, hb⟩;have HX2_1 := uH hb HX2_1;have HB := mH HB hb;clear hb;go_wp2_with fail;refine (C5.out _).mono ?_;rintro e w67 ⟨rfl, hb⟩;have HX2_1 := uH hb HX2_1;have HB := mH HB hb;clear hb
           obtain ⟨W68, bk11, hW68, hbk11, HX11_36, HB, HG11_36, hup⟩ := boxn HB HN0 (.cells #[.bool false, .string ⟨#[]⟩, .string ⟨#[]⟩] 26);have HL11_36 := (hup _ _ HX2_1).2;have HX2_1 := (hup _ _ HX2_1).1;clear hup;obtain ⟨W69, hW69, HX11_36, HB, ho, f37a, f37b, f37c, k37a, k37b, k37c⟩ := put3 HX11_36 HB HN0 HG11_36 (.bool L.neg) (.string (encS L.num)) (.string (encS L.den));have HX2_1 := ho _ _ (by have h0 := HL11_36.out; omega) HX2_1;clear ho;obtain ⟨k38a, k38b, k38c⟩ := c3 HX11_36;go_wp2_with fail;clear hW68 hbk11 f37a f37b f37c k37a k37b k37c hW69 k38a k38b k38c;refine (C6.out _).mono ?_;rintro e w70 ⟨rfl, hb⟩;have HX2_1 := uH hb HX2_1;have HX11_36 := uH hb HX11_36;have HB := mH HB hb;clear hb;obtain ⟨W71, hW71, HX2_1, HB, ho, f39a, f39b, f39c, k39a, k39b, k39c⟩ := put3 HX2_1 HB HN0 HG2_1 (.bool false) (.string ⟨#[]⟩) (.string ⟨#[]⟩)
           have HX11_36 := ho _ _ (by have h0 := HL11_36.out; omega) HX11_36;clear ho;go_wp2_with fail;clear f39a f39b f39c k39a k39b k39c hW71;refine bodyPost_ret (results_cell_row2 rfl _ _ bk2 26 _ (0, 0) _ rfl HX2_1.out Tryz.underlying26 rfl (by kernel_rfl)) rfl ?_;exact ⟨rfl, by rw [HN0.out]; exact HB.out⟩
    ·have hd2 : ((d.toNat : Int) == 46) = false := u8_ne (by decide) hdot;obtain ⟨W72, hW72, HX2_1, HB, ho, f40a, f40b, f40c, k40a, k40b, k40c⟩ := put3 HX2_1 HB HN0 HG2_1 (.bool false) (.string ⟨#[]⟩) (.string ⟨#[]⟩);clear ho;go_wp2_with fail;clear hW1 hbk2 f40a f40b f40c k40a k40b k40c hW72;refine bodyPost_ret (results_cell_row2 rfl _ _ bk2 26 _ (0, 0) _ rfl HX2_1.out Tryz.underlying26 rfl (by kernel_rfl)) rfl ?_;have h := HBAD.out (parseR_n (candR_n1 (by unfold shapeR; rw [HD.out]; simp [hdot])));subst h;exact ⟨rfl, by rw [HN0.out]; exact HB.out⟩
   ·have hq2 : ((q.toNat : Int) == 36) = false := u8_ne (by decide) hdol;obtain ⟨W73, hW73, HX2_1, HB, ho, f41a, f41b, f41c, k41a, k41b, k41c⟩ := put3 HX2_1 HB HN0 HG2_1 (.bool false) (.string ⟨#[]⟩) (.string ⟨#[]⟩);clear ho;go_wp2_with fail;clear hW1 hbk2 f41a f41b f41c k41a k41b k41c hW73;refine bodyPost_ret (results_cell_row2 rfl _ _ bk2 26 _ (0, 0) _ rfl HX2_1.out Tryz.underlying26 rfl (by kernel_rfl)) rfl ?_;have h := HBAD.out (parseR_n (candR_n1 (by unfold shapeR; rw [HQ.out]; simp [hdol])));subst h;exact ⟨rfl, by rw [HN0.out]; exact HB.out⟩
end Go.Proofs.YtabfjecegpaoaaaGreatDoor
