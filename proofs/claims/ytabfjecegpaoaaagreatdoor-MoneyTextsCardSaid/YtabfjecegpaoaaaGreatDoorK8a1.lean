/- MoneyTexts: for every input the law returns true, and each argument reads afterwards as it read before; the listed tables read as the program lays them (the tied card). -/
import Derived.Shelf.GgClosure.StringsIndexFunc
import Derived.Lib.AtoiAll
import Derived.Lib.UnsafeStr
import Derived.Deep.LoopGhost
import Derived.Deep.QuietTactic
import Derived.BigQuiet
import Derived.Test.YtabfjecegpaoaaaGreatDoorProg
import Derived.WalkKit
import Derived.WalkSpells
import Derived.WalkLawsBesides
import Derived.IntWalk
import Derived.Lib.Hide
import Derived.Laws.BitsAllLaws
import Derived.StillTailTactics
import Derived.Deep.OwnRows
import Derived.Lib.ConvBytes
import Derived.Below
import Derived.RangeFuncNested
import Derived.RangeFuncCalls
import Derived.RangeFuncLeaves
import Derived.Shelf.Abstract
import Derived.Lib.LaidIn
import Derived.RegionTactic
import Derived.KernelRfl
import Derived.OrdersIn
import Derived.Shelf.Strings.Builder1
import Derived.Shelf.Strings.Builder2
import Derived.Shelf.Strings.Trim
import Derived.Shelf.Small.Utf8
import Derived.Shelf.Small.Bits
import Derived.Shelf.Small.Strs
import Derived.Shelf.Strings.BuilderF
import Derived.Shelf.Strings.BuilderK
import Derived.Shelf.Strings.Builder2Cap
import Derived.Shelf.Strconv.Atoi
import Derived.Shelf.Strconv.Itoa0
import Derived.Shelf.Strconv.Itoa1
import Derived.Shelf.LaysM
import Derived.Shelf.Strconv.Itoa2
import Derived.Shelf.Strconv.Itoa3
import Derived.Shelf.Strconv.AtoiErrFast
import Derived.Shelf.Strconv.ParseIntEmpty
import Derived.Shelf.Strconv.AtoiFail
import Derived.Shelf.Strconv.Clone
import Derived.Shelf.Strconv.SyntaxError
import Derived.Shelf.LaysC
import Derived.Shelf.Strconv.ToError
import Derived.Shelf.Strconv.Lower
import Derived.Shelf.Strconv.ParseUint10
import Derived.Shelf.Strconv.ParseUint10Empty
import Derived.Shelf.Strconv.ParseUint10Any
import Derived.Shelf.Strconv.ParseInt10
import Derived.Shelf.Strconv.AtoiLong
import Derived.Shelf.Strconv.AtoiInnerAll
import Derived.Shelf.Strconv.RangeError
import Derived.Shelf.Strconv.ToErrorRange
import Derived.Shelf.Strconv.AtoiAll
import Derived.Shelf.Strconv.ErrVarAll
import Derived.Shelf.Strconv.ParseUintEmpty
import Derived.Shelf.Strconv.ParseUint10b64
import Derived.Shelf.Strconv.ParseUint10b32
import Derived.Shelf.Strconv.ParseUint10b16
import Derived.Shelf.Strconv.ParseUint10b8
import Derived.Shelf.Strconv.ParseUint10At
import Derived.Shelf.Strconv.ParseInt10At64
import Derived.Shelf.Strconv.ParseInt10At32
import Derived.Shelf.Strconv.ParseInt10At16
import Derived.Shelf.Strconv.ParseInt10At8
import Derived.Shelf.Strconv.ParseInt10All
import Derived.Shelf.Strings.Search1
import Derived.Ground.GgwProg
import Derived.Shelf.GgClosure.StringsIndexFuncTop
import Derived.Shelf.GgClosure.StringsRunes
import Derived.Shelf.Strings.Prefix
import Derived.Shelf.Strings.Runes
import Derived.Shelf.Strings.AsciiSet
import Derived.Shelf.Bits.Mul64
import Derived.Shelf.Strings.Repeat
import Derived.Shelf.Unicode.DecodeSlow
import Derived.Shelf.Unicode.DecodeAny
import Derived.Shelf.Strings.FuncGrows
import Derived.Shelf.Strings.BuilderCap
import Derived.Lib.AppendIntMem
import Derived.Lib.ItoaNum
import Derived.Lib.Itoa
import Derived.Laws.AppendOwnNone
import Derived.Test.YtabfjecegpaoaaaGreatDoorYa5
import Derived.Test.YtabfjecegpaoaaaGreatDoorYa4
import Derived.Test.YtabfjecegpaoaaaGreatDoorYa3
import Derived.Test.YtabfjecegpaoaaaGreatDoorYa0
import Derived.Test.YtabfjecegpaoaaaGreatDoorYa1
import Derived.Test.YtabfjecegpaoaaaGreatDoorYa2
import Derived.Test.YtabfjecegpaoaaaGreatDoorYa6
import Derived.Test.YtabfjecegpaoaaaGreatDoorYa9
import Derived.Test.YtabfjecegpaoaaaGreatDoorYa8
import Derived.Test.YtabfjecegpaoaaaGreatDoorK8a0
import Derived.Test.YtabfjecegpaoaaaGreatDoorYb0
namespace Go.Proofs.YtabfjecegpaoaaaGreatDoor
open Go Go.Lib
set_option linter.unusedVariables false
end Go.Proofs.YtabfjecegpaoaaaGreatDoor
namespace Go.Proofs.YtabfjecegpaoaaaGreatDoor
open Go.RowKit Go.Shelf
open Dgt
set_option linter.unusedVariables false
end Go.Proofs.YtabfjecegpaoaaaGreatDoor
namespace Go.Proofs.YtabfjecegpaoaaaGreatDoor
open Go Go.Lib
set_option linter.unusedVariables false
theorem dig_nat {m : Nat} (h : m < 10) : (UInt8.ofNat (48 + m)).toNat = 48 + m := by rw [UInt8.toNat_ofNat']; omega
theorem dig_dB {m : Nat} (h : m < 10) : dB (UInt8.ofNat (48 + m)) = true := by
 unfold dB; rw [dig_nat h, decide_eq_true_eq]; omega
theorem dec_spec : ∀ (n : Nat), (decDigits n).all dB = true ∧ decF 0 (decDigits n) = n ∧ (n = 0 ∨ (decDigits n).headD 0 ≠ 48) ∧ decDigits n ≠ [] := by
 intro n
 induction n using Nat.strongRecOn with
 | _ n ih =>
  by_cases h : n < 10
  ·rw [decDigits_one h];refine ⟨by rw [List.all_cons, dig_dB h]; rfl, by rw [decF_cons, decF_nil, dig_nat h]; omega, ?_, by simp⟩;rcases Nat.eq_zero_or_pos n with h0 | h0
   ·exact .inl h0
   ·right
    show UInt8.ofNat (48 + n) ≠ 48;intro e;have := congrArg UInt8.toNat e;rw [dig_nat h] at this;have h48 : (48 : UInt8).toNat = 48 := rfl;omega
  ·obtain ⟨h1, h2, h3, h4⟩ := ih (n / 10) (by omega);rw [decDigits, dif_neg h];have hm : n % 10 < 10 := Nat.mod_lt _ (by decide);refine ⟨by rw [List.all_append, h1, List.all_cons, dig_dB hm]; rfl, by rw [decF_append, h2, decF_cons, decF_nil, dig_nat hm]; omega, ?_, by simp⟩
   right
   rcases h3 with h3 | h3
   ·omega
   ·match hd : decDigits (n / 10), h4 with
    | c :: r, _ => rw [hd] at h3; simpa using h3
theorem ok_dec (n : Nat) : okP (decDigits n) = true := by
 obtain ⟨h1, h2, h3, h4⟩ := dec_spec n;have e1 : (decDigits n).isEmpty = false := by
  match hd : decDigits n, h4 with
  | c :: r, _ => rfl
 have e2 : (decide (1 < (decDigits n).length) && ((decDigits n).headD 0 == 48)) = false := by
  rcases h3 with rfl | h3
  ·rw [decDigits_one (by decide)]; rfl
  ·have : ((decDigits n).headD 0 == 48) = false := by simpa using h3
   rw [this, Bool.and_false]
 simp only [okP, e1, e2, h1]; rfl
end Go.Proofs.YtabfjecegpaoaaaGreatDoor
namespace Go.Proofs.YtabfjecegpaoaaaGreatDoor
open Go.RowKit Go.Shelf
open Dgt
set_option linter.unusedVariables false
theorem dec_ten {n : Nat} (h : ¬ n < 10) : Lib.decDigits n = Lib.decDigits (n / 10) ++ [UInt8.ofNat (48 + n % 10)] := by rw [Lib.decDigits, dif_neg h]
theorem dec_one {n : Nat} (h : n < 10) : Lib.decDigits n = [UInt8.ofNat (48 + n)] := by rw [Lib.decDigits, dif_pos h]
set_option maxHeartbeats 4000000 in
set_option maxRecDepth 100000 in
theorem rText_any (a : ByteArray) (w : World) (ha : a.size ≤ 1000000) :
  Calls Tryz.prog 91 #[.string a] w fun e w' => e = .returned (.string ⟨(Lib.decDigits (numS a)).toArray⟩) ∧ Below w.heap.size w w' := by
 have CA := Lib.hid (Canon_any a · (by omega));have hL := dec_size a;have HAS : Hid ((encS (numS a)).size ≤ 1000000) := Lib.hid (Nat.le_trans (encS_len_le a) ha);obtain ⟨A, hA⟩ : ∃ A, numS a = A := ⟨_, rfl⟩;rw [hA] at CA HAS hL ⊢;have HL : Hid ((Lib.decDigits A).length ≤ 3000001) := Lib.hid (by omega);have HOT := Lib.hid (fun w => rOf_any 10 w (by decide));rw [show ((10 : Int)).toNat = 10 from rfl] at HOT;clear ha hA hL;rcases Nat.eq_zero_or_pos A with hA0 | hA0
 ·subst hA0;rw [encS_zero] at CA;have hE : Hid (Lib.decDigits 0 = [48]) := Lib.hid (by rw [dec_one (by decide)]; rfl);go_enter Tryz.func91, Tryz.ntmps91;go_wp2_with fail;refine (CA.out _).mono ?_;rintro e w1 ⟨rfl, rfl⟩;go_wp2_with fail;go_ret;exact ⟨by rw [hE.out]; rfl, Below.refl _ _⟩
 have hpos : ∀ n : Nat, 0 < n → 0 < ((encS n).size : Int) := fun n hn => by
  have : (encS n).size ≠ 0 := fun h => by
   rw [encS_size] at h;have := List.eq_nil_of_length_eq_zero h;rw [digs_eq_nil (by decide)] at this; omega
  omega
 have HPOS := Lib.hid hpos;obtain ⟨s0, hs0⟩ : ∃ s0, (encS A).size = s0 := ⟨_, rfl⟩;have hz0 : (((encS A).size : Int) == 0) = false := by rw [beq_eq_false_iff_ne]; have := hpos A hA0; omega
 have HA0 := Lib.hid hA0;clear hpos hA0 hs0;go_enter Tryz.func91, Tryz.ntmps91;go_wp2_with fail;refine (CA.out _).mono ?_;rintro e w1 ⟨rfl, rfl⟩;go_wp2_with fail;clear hz0
 go_loopw [0, 3] (fun x y wr => ∃ (n : Nat) (o : List UInt8), x = .string (encS n) ∧ y = .string ⟨o.toArray⟩ ∧ Hid ((n = 0 → o = Lib.decDigits A) ∧ (0 < n → Lib.decDigits A = Lib.decDigits n ++ o)) ∧ Hid ((encS n).size ≤ 1000000) ∧ Hid (Below w.heap.size w wr)) (fun x _ _ => strSz x)
 case atStart => exact ⟨A, [], rfl, rfl, Lib.hid ⟨fun h => by have := HA0.out; omega, fun _ => by simp⟩, HAS, Lib.hid rB⟩
 case round =>
  obtain ⟨n, o, rfl, rfl, HD, HNS, HBW⟩ := hrel;rcases Nat.eq_zero_or_pos n with hn | hn
  ·subst hn;have HF := Lib.hid (HD.out.1 rfl);have hz : ¬ 0 < ((encS 0).size : Int) := by rw [encS_zero]; decide
   go_wp2_with fail;go_ret;exact ⟨by rw [← HF.out]; rfl, HBW.out⟩
  ·have hp := HPOS.out n hn;have hD := HD.out.2 hn;have hol : (o.length : Int) ≤ 3000001 := by
    have h1 := congrArg List.length hD;rw [List.length_append] at h1;have := HL.out; omega
   have HQ := Lib.hid (fun w => rQuo_any (encS n) (encS 10) w HNS.out (by rw [show encS 10 = ⟨#[10]⟩ from by simp [encS, encL, digs_pos, digs_zero]]; decide));rw [numS_encS, numS_encS, show remS n 10 = n % 10 from rfl] at HQ;obtain ⟨d, hd⟩ : ∃ d, n % 10 = d := ⟨_, rfl⟩;rw [hd] at HQ;have hd9 : d < 10 := by omega
   have HI := Lib.hid (fun w => rInt_any (encS d) w ((Sz.enc (k := 1) (show d < 256 ^ 1 by omega) (by decide))));obtain ⟨hiy, hiv⟩ := int_yes (m := d) (by omega);rw [numS_encS, hiv, hiy] at HI;obtain ⟨x, hx⟩ : ∃ x, 48 + d = x := ⟨_, rfl⟩;have f1 : 48 + (d : Int) = (x : Int) := by omega
   have hx9 : (x : Int) < 58 := by omega
   have f2 : (x : Int) % 256 = (x : Int) := by omega
   have HN' : Hid ((n / 10 = 0 → UInt8.ofNat x :: o = Lib.decDigits A) ∧ (0 < n / 10 → Lib.decDigits A = Lib.decDigits (n / 10) ++ (UInt8.ofNat x :: o))) := Lib.hid (by
    refine ⟨fun h => ?_, fun h => ?_⟩
    ·rw [hD, dec_one (by omega), ← hx, ← hd, Nat.mod_eq_of_lt (by omega)]; rfl
    ·rw [hD, dec_ten (by omega), ← hx, ← hd, List.append_assoc]; rfl)
   have hcv : ∀ W : World, (convert 85 9 (.slice (some ⟨W.heap.size, 0, none⟩) 1 1)).run Tryz.prog (W.alloc (.cells #[.int .u8 (x : Int)] 5)) = .ok (.string ⟨#[UInt8.ofNat x]⟩) (W.alloc (.cells #[.int .u8 (x : Int)] 5)) := fun W =>
    conv_own (l := [x]) Tryz.underlying9 (own_one W (.int .u8 (x : Int)) 5 rfl) (fun y hy => by simp at hy; subst hy; omega)
   have HLT : Hid (n / 10 < n) := Lib.hid (by omega);clear hn hD hd hd9 hiy hiv hx hp;have hp := HPOS.out n (by have := HLT.out; omega);go_wp2_with fail;refine (HOT.out _).mono ?_;rintro e w2 ⟨rfl, hb⟩;have HB2 := Lib.hid (HBW.out.trans (hb.mono HBW.out.size));clear hb;go_wp2_with fail;refine (HQ.out _).mono ?_;rintro e w3 ⟨rfl, hb⟩;have HB3 := Lib.hid (HB2.out.trans (hb.mono HB2.out.size));clear hb;go_wp2_with fail;refine (HI.out _).mono ?_;rintro e w4 ⟨rfl, rfl⟩;go_wp2_with fail
   go_roundw
   case rel => exact ⟨n / 10, UInt8.ofNat x :: o, rfl, by rw [show (⟨#[UInt8.ofNat x]⟩ : ByteArray) = ⟨[UInt8.ofNat x].toArray⟩ from rfl, str_append]; rfl, HN', Lib.hid (Nat.le_trans (by rw [encS_size, encS_size]; exact digs_len_mono (by decide) (Nat.div_le_self _ _)) HNS.out), Lib.hid (HB3.out.alloc HB3.out.size _)⟩
   case measure => simp [strSz, numS_encS]; exact HLT.out
end Go.Proofs.YtabfjecegpaoaaaGreatDoor
namespace Go.Proofs.YtabfjecegpaoaaaGreatDoor
open Go.RowKit Go.Shelf
open Dgt
set_option linter.unusedVariables false
theorem ok_cons {c : UInt8} {r : List UInt8} (h : r = [] ∨ c ≠ 48) : okP (c :: r) = (c :: r).all dB := by
 have h1 : (decide (1 < (c :: r).length) && ((c :: r).headD 0 == 48)) = false := by
  rcases h with rfl | h
  ·rfl
  ·simp [h]
 simp only [okP, h1, List.isEmpty_cons, Bool.not_false, Bool.true_and]
theorem decV_snoc (l : List UInt8) (c : UInt8) : decV (l ++ [c]) = decV l * 10 + (c.toNat - 48) := by
 rw [decV, decF_append, decF_cons, decF_nil]; rfl
theorem decV_size {l : List UInt8} (h : l.all dB = true) : Sz (decV l) l.length := Nat.lt_of_lt_of_le (decF_lt l h) (Nat.pow_le_pow_left (by decide) _)
def EPR (S : ByteArray) (A k x d : Nat) : Nat → Value
 | 0 => .string (encS A)
 | 1 => .string (encS 10)
 | 2 => .string (encS (A * 10))
 | 3 => .string S
 | 4 => .int .i64 (k : Int)
 | 5 => .int .u8 (x : Int)
 | 6 => .int .u8 (d : Int)
 | 7 => .int .i64 (d : Int)
 | 8 => .string (encS d)
 | 9 => .string (encS (A * 10 + d))
 | 10 => .string (encS (A * 10 + d))
 | _ => undef
def SPR (S : ByteArray) (A k x d : Nat) (ix : Nat) (v : Value) (w : World) : Prop :=
 match ix with
 | ix => v = EPR S A k x d ix
theorem SPR_up (S : ByteArray) (A k x d : Nat) (ix : Nat) (v : Value) (w w' : World) (hb : Below w.heap.size w w') (h : SPR S A k x d ix v w) : SPR S A k x d ix v w' := by
 exact h
set_option maxHeartbeats 4000000 in
set_option maxRecDepth 100000 in
theorem rParse_any (s : ByteArray) (w : World) (hs : s.size ≤ 100000) :
  Calls Tryz.prog 80 #[.string s] w fun e w' => e = .returned (.tuple #[.string (encS (parV s)), .bool (parB s)]) ∧ Below w.heap.size w w' := by
 obtain ⟨l, rfl⟩ : ∃ l : List UInt8, s = ⟨l.toArray⟩ := ⟨s.data.toList, by simp⟩;have hdl : (⟨l.toArray⟩ : ByteArray).data.toList = l := by simp
 have HOK := Lib.hid (show parB ⟨l.toArray⟩ = okP l from by unfold parB; rw [hdl]);have HPV := Lib.hid (show parV ⟨l.toArray⟩ = if okP l = true then decV l else 0 from by unfold parV; rw [hdl]);clear hdl;rcases l with _ | ⟨c, r⟩
 ·have hE1 : Hid (parV ⟨([] : List UInt8).toArray⟩ = 0) := Lib.hid (by rw [HPV.out]; rfl);have hE2 : Hid (parB ⟨([] : List UInt8).toArray⟩ = false) := Lib.hid (by rw [HOK.out]; rfl);clear hs;go_enter Tryz.func80, Tryz.ntmps80;go_wp2_with fail;go_ret2;exact ⟨by rw [hE1.out, hE2.out, encS_zero]; rfl, Below.refl _ _⟩
 ·obtain ⟨l, hl⟩ : ∃ l, c :: r = l := ⟨_, rfl⟩;obtain ⟨S, hS⟩ : ∃ S : ByteArray, S = ⟨l.toArray⟩ := ⟨_, rfl⟩;have hsz : S.size = l.length := by rw [hS]; rfl
  rw [hl, ← hS] at HOK HPV hs ⊢;obtain ⟨n, hn⟩ : ∃ n : Nat, S.size = n := ⟨_, rfl⟩;have hl1 : l.length = r.length + 1 := by rw [← hl]; rfl
  have hl0 : 0 < S.size := by omega
  have hget : S[0]'hl0 = c := by subst hS; subst hl; rfl
  have hnb : ((S.size : Int) == 0) = false := by rw [beq_eq_false_iff_ne]; omega
  obtain ⟨bA, hbA⟩ : ∃ bA : Bool, decide (1 < (S.size : Int)) = bA := ⟨_, rfl⟩;obtain ⟨bB, hbB⟩ : ∃ bB : Bool, ((((S[0]'hl0).toNat : Nat) : Int) == 48) = bB := ⟨_, rfl⟩;obtain ⟨bC, hbC⟩ : ∃ bC : Bool, (bA && bB) = bC := ⟨_, rfl⟩;have HOKL : Hid (okP l = (!bC && l.all dB)) := Lib.hid (by
   rw [← hbC, ← hbA, ← hbB, ← hl]
   by_cases h1 : c = 48
   ·subst h1;have e1 : ((((S[0]'hl0).toNat : Nat) : Int) == 48) = true := by rw [hget]; rfl
    rw [e1]
    by_cases h2 : 1 < (S.size : Int)
    ·rw [decide_eq_true h2];have h3 : decide (1 < ((48 : UInt8) :: r).length) = true := by rw [decide_eq_true_eq]; show 1 < r.length + 1; omega
     simp only [okP, h3]; rfl
    ·rw [decide_eq_false h2];have h3 : r = [] := List.eq_nil_of_length_eq_zero (by omega);rw [ok_cons (.inl h3)]; rfl
   ·have e1 : ((((S[0]'hl0).toNat : Nat) : Int) == 48) = false := by
     rw [hget, beq_eq_false_iff_ne];intro h;exact h1 (UInt8.toNat_inj.1 (by show c.toNat = 48; omega))
    rw [e1, Bool.and_false, ok_cons (.inr h1)]; rfl)
  have HSL : Hid (S.size = l.length ∧ l.length = n ∧ n ≤ 100000) := Lib.hid (by omega);have HS := Lib.hid hS;have hn9 : (S.size : Int) ≤ 100000 := by omega
  have HN := Lib.hid hn;clear hl hS hsz hs hl1 hget hn;cases bC
  ·have HOKL : Hid (okP l = l.all dB) := Lib.hid (by rw [HOKL.out]; rfl);go_enter Tryz.func80, Tryz.ntmps80;cases bA <;> cases bB
   all_goals first | cases hbC | skip
   all_goals
    go_wp2_with fail
    go_loopw [4, 5] (fun v kv wr => ∃ (k : Nat), v = .string (encS (decV (l.take k))) ∧ kv = .int .i64 (k : Int) ∧ Hid ((l.take k).all dB = true) ∧ Hid (k ≤ n) ∧ Hid (Below w.heap.size w wr)) (fun _ kv _ => n - (intOf kv).toNat)
    case atStart => exact ⟨0, by rw [List.take_zero]; show _ = Value.string (encS 0); rw [encS_zero], rfl, Lib.hid (by rw [List.take_zero]; rfl), Lib.hid (Nat.zero_le _), Lib.hid rB⟩
    case round =>
     obtain ⟨k, rfl, rfl, HAL, HK, HB⟩ := hrel;obtain ⟨A, hA⟩ : ∃ A, decV (l.take k) = A := ⟨_, rfl⟩;rw [hA];have HA := Lib.hid hA;clear hA;have hk' := HK.out
     by_cases hk : k < n
     ·have hkS : k < S.size := by rw [HN.out]; exact hk
      have hkl : k < l.length := by have := HSL.out; omega
      obtain ⟨x, hx⟩ : ∃ x, (S[k]'hkS).toNat = x := ⟨_, rfl⟩;have hgk : S[k]'hkS = l[k]'hkl := by have h := HS.out; subst h; rfl
      have hkd : decide ((k : Int) < (S.size : Int)) = true := by rw [decide_eq_true_eq]; omega
      have HTK : Hid (l.take (k + 1) = l.take k ++ [S[k]'hkS]) := Lib.hid (by rw [hgk]; exact List.take_succ_eq_append_getElem hkl);have HX := Lib.hid hx;have hxb : (x : Int) < 256 := by have := (S[k]'hkS).toNat_lt; omega
      clear hgk hk hk';have hnd : ∀ h : dB (S[k]'hkS) = false, okP l = false := fun h => by
       rw [HOKL.out, ← List.take_append_drop (k + 1) l, HTK.out, List.all_append, List.all_append, List.all_cons, h]; simp
      have HND := Lib.hid hnd;clear hnd
      by_cases h1 : x < 48
      ·have hE0 := HND.out (by simp [dB, HX.out]; omega);have hE1 : Hid (parV S = 0) := Lib.hid (by rw [HPV.out, hE0]; rfl);have hE2 : Hid (parB S = false) := Lib.hid (by rw [HOK.out, hE0]);have h1' : decide ((x : Int) < 48) = true := by rw [decide_eq_true_eq]; omega
       clear h1 hE0;go_wp2_with fail;go_ret2;exact ⟨by rw [hE1.out, hE2.out, encS_zero]; rfl, HB.out⟩
      ·have h1' : decide ((x : Int) < 48) = false := by rw [decide_eq_false_iff_not]; omega
       by_cases h2 : 57 < x
       ·have hE0 := HND.out (by simp [dB, HX.out]; omega);have hE1 : Hid (parV S = 0) := Lib.hid (by rw [HPV.out, hE0]; rfl);have hE2 : Hid (parB S = false) := Lib.hid (by rw [HOK.out, hE0]);have h2' : decide (57 < (x : Int)) = true := by rw [decide_eq_true_eq]; omega
        clear h1 h2 hE0;go_wp2_with fail;go_ret2;exact ⟨by rw [hE1.out, hE2.out, encS_zero]; rfl, HB.out⟩
       ·have h2' : decide (57 < (x : Int)) = false := by rw [decide_eq_false_iff_not]; omega
        obtain ⟨d, hd⟩ : ∃ d, x - 48 = d := ⟨_, rfl⟩;have hxd : x = d + 48 := by omega
        have hd9 : d ≤ 9 := by omega
        have HAL2 : Hid ((l.take (k + 1)).all dB = true) := Lib.hid (by
         rw [HTK.out, List.all_append, HAL.out, List.all_cons];have : dB (S[k]'hkS) = true := by simp only [dB, HX.out, decide_eq_true_eq]; omega
         rw [this]; rfl)
        have HA2 : Hid (decV (l.take (k + 1)) = A * 10 + d) := Lib.hid (by rw [HTK.out, decV_snoc, HA.out, HX.out, hd]);have HKL : Hid (k < 100000 ∧ k < n) := Lib.hid (by have := HSL.out; have := HN.out; omega);have hsA : Sz A 100000 := by rw [← HA.out]; exact (decV_size HAL.out).mono (by rw [List.length_take]; have := HKL.out; omega)
        have hs1 : (encS A).size ≤ 1000000 := Nat.le_trans (encS_size_lt hsA) (by decide);have hs2 : (encS (A * 10)).size ≤ 1000000 := Nat.le_trans (encS_size_lt (hsA.mul (show Sz 10 1 by unfold Sz; decide))) (by decide);have HS1 := Lib.hid hs1; have HS2 := Lib.hid hs2;have HXD := Lib.hid hxd; have HD9 := Lib.hid hd9;clear hd hs1 hs2 hsA h1 h2 hxd hd9;go_wp2_with fail;have ht0 : (encS 10).size ≤ 1000000 := Nat.le_trans (encS_size_lt (k := 1) (by unfold Sz; decide)) (by decide);have hs1 := HS1.out;have hs2 := HS2.out;have hs3 : (encS d).size ≤ 1000000 := Nat.le_trans (encS_size_lt (k := 1) (by unfold Sz; have := HD9.out; omega)) (by decide);refine wp_region_vals (w := wr) (by kernel_rfl) (SPR S A k x d) (fun t => (decide (4 ≤ t) && decide (t < 5)) || (decide (35 ≤ t) && decide (t < 45))) (by kernel_rfl) (by kernel_rfl) (by kernel_rfl) (SPR_up S A k x d) ?_ ?_
        ·intro i hi o listed a w hR K hK;have ho := hR.at_;have hi : i < 11 := hi;have hii : i = 0 ∨ i = 1 ∨ i = 2 ∨ i = 3 ∨ i = 4 ∨ i = 5 ∨ i = 6 ∨ i = 7 ∨ i = 8 ∨ i = 9 ∨ i = 10 := by omega
         rcases hii with rfl | rfl | rfl | rfl | rfl | rfl | rfl | rfl | rfl | rfl | rfl
         ·simp at ho;subst ho;have b4 : a.tmps.getD 4 undef = .string (encS A) := hR.early (j := 10) (by kernel_rfl) rfl ⟨0, .phase⟩ (by simp) rfl rfl;refine plain_step rfl rfl ?_;go_simp;exact hK _ _ rfl rB
         ·simp at ho;subst ho;refine plain_step rfl rfl ?_;go_simp;refine (rOf_any 10 _ (by decide)).mono ?_;rintro r w2 ⟨rfl, hb⟩;exact hK _ _ (rfl) hb
         ·simp at ho;subst ho;have e0 : a.tmps.getD 35 undef = .string (encS A) := hR.dep ⟨0, .data⟩ (by simp) rfl;have e1 : a.tmps.getD 36 undef = .string (encS 10) := hR.dep ⟨1, .data⟩ (by simp) rfl;refine plain_step rfl rfl ?_;go_simp;refine (rMul_any _ _ _ hs1 ht0).mono ?_;rintro r w2 ⟨rfl, hb⟩;rw [numS_encS, numS_encS];exact hK _ _ (rfl) hb
         ·simp at ho;subst ho;have b0 : a.tmps.getD 0 undef = .string S := hR.base 0 (by kernel_rfl);refine plain_step rfl rfl ?_;go_simp;exact hK _ _ rfl rB
         ·simp at ho;subst ho;have b5 : a.tmps.getD 5 undef = .int .i64 (k : Int) := hR.base 5 (by kernel_rfl);refine plain_step rfl rfl ?_;go_simp;exact hK _ _ rfl rB
         ·simp at ho;subst ho;have e3 : a.tmps.getD 38 undef = .string S := hR.dep ⟨3, .data⟩ (by simp) rfl;have e4 : a.tmps.getD 39 undef = .int .i64 (k : Int) := hR.dep ⟨4, .data⟩ (by simp) rfl;have hx := HX.out;refine plain_step rfl rfl ?_;go_simp;exact hK _ _ rfl rB
         ·simp at ho;subst ho;have e5 : a.tmps.getD 40 undef = .int .u8 (x : Int) := hR.dep ⟨5, .data⟩ (by simp) rfl;have q1 : IntKind.u8.wrap ((x : Int) - 48) = (d : Int) := by have := HXD.out; have := HD9.out; rw [IntKind.wrap_u8']; omega
          refine plain_step rfl rfl ?_;go_simp;exact hK _ _ rfl rB
         ·simp at ho;subst ho;have e6 : a.tmps.getD 41 undef = .int .u8 (d : Int) := hR.dep ⟨6, .data⟩ (by simp) rfl;have q2 : IntKind.i64.wrap (d : Int) = (d : Int) := by have := HD9.out; exact IntWalk.i64_in _ (by omega)
          refine plain_step rfl rfl ?_;go_simp;exact hK _ _ rfl rB
         ·simp at ho;subst ho;have e7 : a.tmps.getD 42 undef = .int .i64 (d : Int) := hR.dep ⟨7, .data⟩ (by simp) rfl;refine plain_step rfl rfl ?_;go_simp;refine (rOf_any (d : Int) _ (by have := HD9.out; omega)).mono ?_;rintro r w2 ⟨rfl, hb⟩;rw [Int.toNat_natCast];exact hK _ _ (rfl) hb
         ·simp at ho;subst ho;have e2 : a.tmps.getD 37 undef = .string (encS (A * 10)) := hR.dep ⟨2, .data⟩ (by simp) rfl;have e8 : a.tmps.getD 43 undef = .string (encS d) := hR.dep ⟨8, .data⟩ (by simp) rfl;refine plain_step rfl rfl ?_;go_simp;refine (rAdd_any _ _ _ hs2 hs3).mono ?_;rintro r w2 ⟨rfl, hb⟩;rw [numS_encS, numS_encS];exact hK _ _ (rfl) hb
         ·simp at ho;subst ho;have e9 : a.tmps.getD 44 undef = .string (encS (A * 10 + d)) := hR.dep ⟨9, .data⟩ (by simp) rfl;refine plain_step rfl rfl ?_;go_simp;exact hK _ _ rfl rB
        ·intro s w hS hb;have e10 : s 4 = .string (encS (A * 10 + d)) := hS 10 (by decide);simp only [over, Nat.zero_add, Nat.reduceAdd, Nat.reduceLeDiff, Nat.reduceLT, decide_true, decide_false, Bool.and_true, Bool.and_false, Bool.or_false, Bool.or_true, cond_true, cond_false];have HB2 := mH HB hb;clear hb hS;have hkd := HKL.out.2;clear hs1 hs2 hs3 ht0;go_wp2_with fail
         go_roundw
         case rel => exact ⟨k + 1, by rw [HA2.out]; exact e10, by go_num, HAL2, Lib.hid (by have := HKL.out; omega), HB2⟩
         case measure => have := HKL.out; simp [intOf]; omega
     ·have hkn : k = n := by omega
      subst hkn;have hkd : decide ((k : Int) < (S.size : Int)) = false := by rw [decide_eq_false_iff_not, HN.out]; omega
      have hkd2 : decide (k < S.size) = false := by rw [decide_eq_false_iff_not, HN.out]; omega
      have hkd3 : ¬ k < S.size := by rw [HN.out]; omega
      have hTL : l.take k = l := List.take_of_length_le (by have := HSL.out; omega);have hE0 : okP l = true := by rw [HOKL.out, ← hTL]; exact HAL.out
      have hE1 : Hid (parV S = A) := Lib.hid (by rw [HPV.out, hE0, ← HA.out, hTL]; rfl);have hE2 : Hid (parB S = true) := Lib.hid (by rw [HOK.out, hE0]);clear hk hk' hTL hE0;go_wp2_with fail;go_ret2;exact ⟨by rw [hE1.out, hE2.out]; rfl, HB.out⟩
  ·have hE1 : Hid (parV S = 0) := Lib.hid (by rw [HPV.out, HOKL.out]; rfl);have hE2 : Hid (parB S = false) := Lib.hid (by rw [HOK.out, HOKL.out]; rfl);cases bA <;> cases bB
   all_goals first | cases hbC | skip
   go_enter Tryz.func80, Tryz.ntmps80;go_wp2_with fail;go_ret2;exact ⟨by rw [hE1.out, hE2.out, encS_zero]; rfl, Below.refl _ _⟩
end Go.Proofs.YtabfjecegpaoaaaGreatDoor
