/- MoneyCents: for every input the law returns true, and each argument reads afterwards as it read before; the listed tables read as the program lays them (the tied card). -/
import Derived.Test.YtabfjecegpaoaaaGreatDoorRows
import Derived.WalkKit
import Derived.ProofKit
import Derived.OpenShut
import Derived.Below
import Derived.ChangeSame
import Derived.Shelf.GgClosure.StringsIndexFunc
import Derived.Lib.AtoiAll
import Derived.Lib.UnsafeStr
import Derived.Deep.LoopGhost
import Derived.Deep.QuietTactic
import Derived.BigQuiet
import Derived.Test.YtabfjecegpaoaaaGreatDoorProg
import Derived.WalkSpells
import Derived.WalkLawsBesides
import Derived.IntWalk
import Derived.Lib.Hide
import Derived.Laws.BitsAllLaws
import Derived.StillTailTactics
import Derived.Deep.OwnRows
import Derived.Lib.ConvBytes
import Derived.RangeFuncNested
import Derived.RangeFuncCalls
import Derived.RangeFuncLeaves
import Derived.Shelf.Abstract
import Derived.Lib.LaidIn
import Derived.RegionTactic
import Derived.KernelRfl
import Derived.OrdersIn
import Derived.Shelf.Strings.Builder1
import Derived.Shelf.Strings.Builder2
import Derived.Shelf.Strings.Trim
import Derived.Shelf.Small.Utf8
import Derived.Shelf.Small.Bits
import Derived.Shelf.Small.Strs
import Derived.Shelf.Strings.BuilderF
import Derived.Shelf.Strings.BuilderK
import Derived.Shelf.Strings.Builder2Cap
import Derived.Shelf.Strconv.Atoi
import Derived.Shelf.Strconv.Itoa0
import Derived.Shelf.Strconv.Itoa1
import Derived.Shelf.LaysM
import Derived.Shelf.Strconv.Itoa2
import Derived.Shelf.Strconv.Itoa3
import Derived.Shelf.Strconv.AtoiErrFast
import Derived.Shelf.Strconv.ParseIntEmpty
import Derived.Shelf.Strconv.AtoiFail
import Derived.Shelf.Strconv.Clone
import Derived.Shelf.Strconv.SyntaxError
import Derived.Shelf.LaysC
import Derived.Shelf.Strconv.ToError
import Derived.Shelf.Strconv.Lower
import Derived.Shelf.Strconv.ParseUint10
import Derived.Shelf.Strconv.ParseUint10Empty
import Derived.Shelf.Strconv.ParseUint10Any
import Derived.Shelf.Strconv.ParseInt10
import Derived.Shelf.Strconv.AtoiLong
import Derived.Shelf.Strconv.AtoiInnerAll
import Derived.Shelf.Strconv.RangeError
import Derived.Shelf.Strconv.ToErrorRange
import Derived.Shelf.Strconv.AtoiAll
import Derived.Shelf.Strconv.ErrVarAll
import Derived.Shelf.Strconv.ParseUintEmpty
import Derived.Shelf.Strconv.ParseUint10b64
import Derived.Shelf.Strconv.ParseUint10b32
import Derived.Shelf.Strconv.ParseUint10b16
import Derived.Shelf.Strconv.ParseUint10b8
import Derived.Shelf.Strconv.ParseUint10At
import Derived.Shelf.Strconv.ParseInt10At64
import Derived.Shelf.Strconv.ParseInt10At32
import Derived.Shelf.Strconv.ParseInt10At16
import Derived.Shelf.Strconv.ParseInt10At8
import Derived.Shelf.Strconv.ParseInt10All
import Derived.Shelf.Strings.Search1
import Derived.Ground.GgwProg
import Derived.Shelf.GgClosure.StringsIndexFuncTop
import Derived.Shelf.GgClosure.StringsRunes
import Derived.Shelf.Strings.Prefix
import Derived.Shelf.Strings.Runes
import Derived.Shelf.Strings.AsciiSet
import Derived.Shelf.Bits.Mul64
import Derived.Shelf.Strings.Repeat
import Derived.Shelf.Unicode.DecodeSlow
import Derived.Shelf.Unicode.DecodeAny
import Derived.Shelf.Strings.FuncGrows
import Derived.Shelf.Strings.BuilderCap
import Derived.Lib.AppendIntMem
import Derived.Lib.ItoaNum
import Derived.Lib.Itoa
import Derived.Laws.AppendOwnNone
import Derived.Lib.ItoaLen
import Derived.RangeFuncKeeps
import Derived.OwnWalkIn
import Derived.TacticsInMore
import Derived.LoopNIn
import Derived.LoopIn
import Derived.Lib.IndexMore
import Derived.Test.YtabfjecegpaoaaaGreatDoorCards
import Derived.Test.YtabfjecegpaoaaaGreatDoorTie
import Derived.LaidMore
import Derived.Deep.DeepHandedRow
import Derived.Deep.DeepWitnessRowRef
import Derived.Lib.LaidTab
import Derived.Lib.ItoaMem
import Derived.Stop.LaidErr
import Derived.Test.YtabfjecegpaoaaaGreatDoorYa5
import Derived.Test.YtabfjecegpaoaaaGreatDoorYa4
import Derived.Test.YtabfjecegpaoaaaGreatDoorYa3
import Derived.Test.YtabfjecegpaoaaaGreatDoorYa0
import Derived.Test.YtabfjecegpaoaaaGreatDoorYa1
import Derived.Test.YtabfjecegpaoaaaGreatDoorYa2
import Derived.Test.YtabfjecegpaoaaaGreatDoorYa6
import Derived.Test.YtabfjecegpaoaaaGreatDoorYa9
import Derived.Test.YtabfjecegpaoaaaGreatDoorYa8
import Derived.Test.YtabfjecegpaoaaaGreatDoorK7a0
import Derived.Test.YtabfjecegpaoaaaGreatDoorYb0
import Derived.Test.YtabfjecegpaoaaaGreatDoorYb1
import Derived.Test.YtabfjecegpaoaaaGreatDoorYd2
import Derived.Test.YtabfjecegpaoaaaGreatDoorYc7
import Derived.Test.YtabfjecegpaoaaaGreatDoorYc6
import Derived.Test.YtabfjecegpaoaaaGreatDoorYb9
import Derived.Test.YtabfjecegpaoaaaGreatDoorYb3
import Derived.Test.YtabfjecegpaoaaaGreatDoorYb2
import Derived.Test.YtabfjecegpaoaaaGreatDoorYb7
import Derived.Test.YtabfjecegpaoaaaGreatDoorYb6
import Derived.Test.YtabfjecegpaoaaaGreatDoorYb5
import Derived.Test.YtabfjecegpaoaaaGreatDoorYb4
import Derived.Test.YtabfjecegpaoaaaGreatDoorYb8
import Derived.Test.YtabfjecegpaoaaaGreatDoorK7a1
import Derived.Test.YtabfjecegpaoaaaGreatDoorYc1
import Derived.Test.YtabfjecegpaoaaaGreatDoorYc0
import Derived.Test.YtabfjecegpaoaaaGreatDoorYc5
import Derived.Test.YtabfjecegpaoaaaGreatDoorYc4
import Derived.Test.YtabfjecegpaoaaaGreatDoorYc3
import Derived.Test.YtabfjecegpaoaaaGreatDoorYc2
import Derived.Test.YtabfjecegpaoaaaGreatDoorYc8
import Derived.Test.YtabfjecegpaoaaaGreatDoorYc9
import Derived.Test.YtabfjecegpaoaaaGreatDoorYd1
import Derived.Test.YtabfjecegpaoaaaGreatDoorYd0
import Derived.Test.YtabfjecegpaoaaaGreatDoorYd3
import Derived.Test.YtabfjecegpaoaaaGreatDoorYd4
namespace Go.Proofs.YtabfjecegpaoaaaGreatDoor
open Go.ChangeShapes Go.WideShapes Go.ChangeAt Go.RowKit
section
variable {H : Type} {enc : TypeId × Value → H} {P : Program}
theorem post_of_below {f : Func} {s : ChangeSpec} {apart fresh handsOn again : Bool} {W W' : World} {args : Array Value} {v : Value} {ds gs : List (DataW H)} {before pa pv : List MemPlace}
  (hW : DataW.Whole enc P f.params.toList s.vars apart W args.toList ds gs before)
  (hres : ∀ (b : Nat) (sp : Nat → Bool) (hd : Bool), DataW.TrodAll enc P W' b sp hd f.resultTypes.toList (v.resultList f.resultTypes.size) (s.fn H (ds ++ gs)).results [])
  (hargs : ∀ sp : Nat → Bool, (∀ p ∈ before, sp p.block = true) → DataW.TrodAll enc P W' 0 sp true f.params.toList args.toList (s.fn H (ds ++ gs)).args pa)
  (hvars : ∀ sp : Nat → Bool, (∀ p ∈ before, sp p.block = true) → DataW.TrodVars enc P W' sp s.vars (s.fn H (ds ++ gs)).vars pv)
  (hps : before = pa ++ pv) (hb : Below W.heap.size W W')
  (hok : ∀ (j : Nat) (t : TypeId) (r : Value), f.resultTypes[j]? = some t → (v.resultList f.resultTypes.size)[j]? = some r → Value.okWide P W' .any 0 t r) :
  s.post enc P f apart fresh handsOn again W args v W' := by
 have hlt : ∀ p ∈ before, p.block < W.heap.size := fun p hp => hW.lt p hp
 have hold : ∀ p ∈ before, (fun b => decide (b < W.heap.size)) p.block = true := fun p hp => by simpa using hlt p hp
 refine ⟨ds, gs, before, [], pa, pv, hW, hres _ _ _, hargs _ hold, hvars _ hold, World.keptBut_mono (fun p hp => ⟨hp, ?_⟩) (hb.frame (· ∈ before)), fun _ => ?_⟩
 ·rw [hps, List.mem_append] at hp
  exact Or.inr hp
 ·obtain ⟨_, _, _, _, _, hz, hn⟩ := hW
  refine ⟨hok, _, _, ([] ++ pa) ++ pv, ⟨[] ++ pa, pv, trodAll_append (hargs _ (fun _ _ => rfl)) (hres _ _ _), hvars _ (fun _ _ => rfl), rfl, ?_, ?_⟩, ?_⟩
  ·intro b off hp
   have hin : MemPlace.cell b off ∈ before := by rw [hps]; simpa using hp
   rw [hb.frozen (hlt _ hin)]
   exact hz b off hin
  ·intro ha
   have := hn ha
   rw [hps] at this
   simpa using this
  ·intro p hp _
   rw [hps]
   simpa using hp
end
end Go.Proofs.YtabfjecegpaoaaaGreatDoor
namespace Go.Proofs.YtabfjecegpaoaaaGreatDoor
open Go Go.Lib
set_option linter.unusedVariables false
end Go.Proofs.YtabfjecegpaoaaaGreatDoor
namespace Go.Proofs.YtabfjecegpaoaaaGreatDoor
open Go.RowKit Go.Shelf
open Dgt
set_option linter.unusedVariables false
end Go.Proofs.YtabfjecegpaoaaaGreatDoor
namespace Go.Proofs.YtabfjecegpaoaaaGreatDoor
open Go Go.Lib
set_option linter.unusedVariables false
theorem dig_nat {m : Nat} (h : m < 10) : (UInt8.ofNat (48 + m)).toNat = 48 + m := by rw [UInt8.toNat_ofNat']; omega
theorem dig_dB {m : Nat} (h : m < 10) : dB (UInt8.ofNat (48 + m)) = true := by
 unfold dB; rw [dig_nat h, decide_eq_true_eq]; omega
theorem dec_spec : ∀ (n : Nat), (decDigits n).all dB = true ∧ decF 0 (decDigits n) = n ∧ (n = 0 ∨ (decDigits n).headD 0 ≠ 48) ∧ decDigits n ≠ [] := by
 intro n
 induction n using Nat.strongRecOn with
 | _ n ih =>
  by_cases h : n < 10
  ·rw [decDigits_one h];refine ⟨by rw [List.all_cons, dig_dB h]; rfl, by rw [decF_cons, decF_nil, dig_nat h]; omega, ?_, by simp⟩;rcases Nat.eq_zero_or_pos n with h0 | h0
   ·exact .inl h0
   ·right
    show UInt8.ofNat (48 + n) ≠ 48;intro e;have := congrArg UInt8.toNat e;rw [dig_nat h] at this;have h48 : (48 : UInt8).toNat = 48 := rfl;omega
  ·obtain ⟨h1, h2, h3, h4⟩ := ih (n / 10) (by omega);rw [decDigits, dif_neg h];have hm : n % 10 < 10 := Nat.mod_lt _ (by decide);refine ⟨by rw [List.all_append, h1, List.all_cons, dig_dB hm]; rfl, by rw [decF_append, h2, decF_cons, decF_nil, dig_nat hm]; omega, ?_, by simp⟩
   right
   rcases h3 with h3 | h3
   ·omega
   ·match hd : decDigits (n / 10), h4 with
    | c :: r, _ => rw [hd] at h3; simpa using h3
theorem ok_dec (n : Nat) : okP (decDigits n) = true := by
 obtain ⟨h1, h2, h3, h4⟩ := dec_spec n;have e1 : (decDigits n).isEmpty = false := by
  match hd : decDigits n, h4 with
  | c :: r, _ => rfl
 have e2 : (decide (1 < (decDigits n).length) && ((decDigits n).headD 0 == 48)) = false := by
  rcases h3 with rfl | h3
  ·rw [decDigits_one (by decide)]; rfl
  ·have : ((decDigits n).headD 0 == 48) = false := by simpa using h3
   rw [this, Bool.and_false]
 simp only [okP, e1, e2, h1]; rfl
end Go.Proofs.YtabfjecegpaoaaaGreatDoor
namespace Go.Proofs.YtabfjecegpaoaaaGreatDoor
open Go.RowKit Go.Shelf
open Dgt
set_option linter.unusedVariables false
end Go.Proofs.YtabfjecegpaoaaaGreatDoor
namespace Go.Proofs.YtabfjecegpaoaaaGreatDoor
open Go.RowKit Go.Shelf
open Dgt
set_option linter.unusedVariables false
end Go.Proofs.YtabfjecegpaoaaaGreatDoor
namespace Go.Proofs.YtabfjecegpaoaaaGreatDoor
open Go.RowKit Go.Shelf Go.Lib
open Dgt
set_option linter.unusedVariables false
theorem centN_ofC (c : Int) : centN (ofC c) = ofR c := q_inj (centN_ok (ofC_ok c)) (ofR_ok c) (by rw [q_centN (ofC_ok c), q_ofC, q_of]; grind)
theorem cents_of {c : Int} (h1 : -9223372036854775808 ≤ c) (h2 : c ≤ 9223372036854775807) : centsOk (ofC c) = true ∧ centsI (ofC c) = c := by
 have h : centsOk (ofC c) = true := by
  unfold centsOk; rw [centN_ofC]; unfold ofR
  by_cases hc : c < 0
  ·simp [hc]; omega
  ·simp [hc]; omega
 refine ⟨h, ?_⟩;unfold centsI; rw [if_pos h, centN_ofC]; unfold ofR iv
 by_cases hc : c < 0
 ·simp [hc]; omega
 ·simp [hc]; omega
theorem centN_neg {a : Rt} (ha : a.Ok) : (centN a).neg = a.neg := by
 unfold centN mulR;cases hn : a.neg
 ·simp [ofR, low]
 ·have := ha.nz hn;rw [low_neg (by rw [show (ofR 100).num = 100 from rfl]; omega)]; rfl
theorem low_cents {a : Rt} (ha : a.Ok) (h1 : (centN a).den = 1) : low a.neg (centN a).num 100 = a := by
 refine q_inj (low_ok _ (by decide)) ha ?_;have hq := q_centN ha;rw [iv_one (centN_ok ha) h1, q_of, centN_neg ha] at hq;rw [q_low _ (by decide), Rat.mkRat_eq_div, hq]
 grind
theorem two_len {r : Nat} (h : r < 100) : (two r).length = 2 := by
 unfold two; split
 ·rename_i h1; rw [decDigits_one h1]; rfl
 ·rename_i h1; rw [decDigits_two h1 h]; rfl
theorem two_pad {r : Nat} (h : r < 100) : two r = padD 2 r := by
 rw [padD_dec 1 r h];unfold two; split
 ·rename_i h1; rw [nDigits_small h1]; rfl
 ·rename_i h1; rw [nDigits_big h1, nDigits_small (by omega)]; rfl
theorem strip_dec (N : Nat) : strip (decDigits (N / 100) ++ two (N % 100)) = decDigits N := by
 by_cases h : N < 100
 ·rw [Nat.div_eq_of_lt h, Nat.mod_eq_of_lt h, decDigits_one (by decide : 0 < 10)];unfold two; split
  ·rename_i h1; rw [decDigits_one h1]; simp [strip]
  ·rename_i h1
   have h2 := (dec_spec N).2.2.1;have e : [UInt8.ofNat (48 + 0)] ++ decDigits N = 48 :: decDigits N := rfl;rw [e];have h3 : (decDigits N).headD 0 ≠ 48 := by rcases h2 with h2 | h2; omega; exact h2
   rw [decDigits_two h1 h] at h3 ⊢;rw [strip, if_pos rfl]; exact strip_ne h3
 ·have hq : 0 < N / 100 := by omega
  have e := decDigits_pad hq 2 (N % 100) (Nat.mod_lt _ (by decide));rw [show N / 100 * 10 ^ 2 + N % 100 = N by omega, ← two_pad (Nat.mod_lt _ (by decide))] at e;rw [← e];rcases (dec_spec N).2.2.1 with h2 | h2
  ·omega
  ·exact strip_ne h2
section
variable {a : Rt}
theorem text_len (a : Rt) : (textM a).length = (sgnL a.neg ++ decDigits ((centN a).num / 100)).length + 4 := by
 unfold textM;rw [List.length_cons, List.length_append, List.length_cons, two_len (Nat.mod_lt _ (by decide))]
theorem pre_len (h : centsOk a = true) : 1 ≤ (sgnL a.neg ++ decDigits ((centN a).num / 100)).length ∧ (sgnL a.neg ++ decDigits ((centN a).num / 100)).length ≤ 21 := by
 unfold centsOk at h;simp only [Bool.and_eq_true, Bool.or_eq_true, decide_eq_true_eq] at h;have h1 := nDigits_pos ((centN a).num / 100);have h2 := nDigits_le20 ((centN a).num / 100) (by omega);rw [List.length_append, decDigits_length];have : (sgnL a.neg).length ≤ 1 := by unfold sgnL; split <;> simp
 omega
theorem text_take (a : Rt) : (textM a).take ((textM a).length - 3) = 36 :: (sgnL a.neg ++ decDigits ((centN a).num / 100)) := by
 rw [text_len];unfold textM;rw [show (sgnL a.neg ++ decDigits ((centN a).num / 100)).length + 4 - 3 = (sgnL a.neg ++ decDigits ((centN a).num / 100)).length + 1 by omega, List.take_succ_cons, List.take_left]
theorem text_drop (a : Rt) : (textM a).drop ((textM a).length - 2) = two ((centN a).num % 100) := by
 rw [text_len];unfold textM;rw [show (sgnL a.neg ++ decDigits ((centN a).num / 100)).length + 4 - 2 = (sgnL a.neg ++ decDigits ((centN a).num / 100)).length + 1 + 1 by omega, List.drop_succ_cons, List.drop_append];simp
theorem text_dot (a : Rt) : (textM a)[(textM a).length - 3]? = some 46 := by
 rw [text_len];unfold textM;rw [show (sgnL a.neg ++ decDigits ((centN a).num / 100)).length + 4 - 3 = (sgnL a.neg ++ decDigits ((centN a).num / 100)).length + 1 by omega, List.getElem?_cons_succ, List.getElem?_append_right (Nat.le_refl _)];simp
theorem text_neg (a : Rt) : negL (textM a) = a.neg := by
 unfold negL textM;rw [List.getElem?_cons_succ];cases hn : a.neg
 ·unfold sgnL;simp only [Bool.false_eq_true, if_false, List.nil_append];obtain ⟨h1, -, -, h4⟩ := dec_spec ((centN a).num / 100)
  match hd : decDigits ((centN a).num / 100), h4 with
  | c :: r, _ =>
   rw [hd] at h1;simp only [List.all_cons, Bool.and_eq_true] at h1;have : c ≠ 45 := fun e => by rw [e] at h1; exact absurd h1.1 (by decide)
   simp [this]
 ·simp [sgnL]
theorem candP_text (ha : a.Ok) (h : centsOk a = true) : candP (textM a) = some a := by
 have hl := pre_len h;rw [List.length_append] at hl;have h1 : (centN a).den = 1 := by unfold centsOk at h; simp only [Bool.and_eq_true, decide_eq_true_eq] at h; exact h.1
 have hs : shapeP (textM a) = true := by
  unfold shapeP; rw [text_dot, text_len]; simp; omega
 have hd : stripP (textM a) = decDigits (centN a).num := by
  unfold stripP dgs;rw [text_take, text_drop, text_neg];refine Eq.trans ?_ (strip_dec (centN a).num)
  congr 1
  unfold sgnL;cases a.neg <;> simp
 unfold candP;rw [hs, hd, text_neg, ok_dec, if_pos ⟨rfl, rfl⟩, show decV (decDigits (centN a).num) = (centN a).num from (dec_spec _).2.1, low_cents ha h1]
end
theorem parse_text {a : Rt} (ha : a.Ok) (h : centsOk a = true) : parseM (textM a) = some a := by
 unfold parseM; rw [candP_text ha h];show (if accept (textM a) a = true then some a else none) = some a;rw [if_pos (accept_iff.2 ⟨h, rfl⟩)]
end Go.Proofs.YtabfjecegpaoaaaGreatDoor
namespace Go.Proofs.YtabfjecegpaoaaaGreatDoor
open Go.RowKit Go.Shelf Go
open Dgt
set_option linter.unusedVariables false
theorem ofC_sz {c : Int} (h1 : -9223372036854775808 ≤ c) (h2 : c ≤ 9223372036854775807) : Rz (ofC c) 16 := quoR_sz (ofR_sz h1 h2) (ofR_sz (n := 100) (by decide) (by decide))
theorem half_of (n h : Int) : addR (ofC h) (ofC (n - h)) = ofC n :=
 q_inj (addR_ok (ofC_ok _) (ofC_ok _)) (ofC_ok _) (by rw [q_add (ofC_ok _) (ofC_ok _), q_ofC, q_ofC, q_ofC, Rat.intCast_sub]; grind)
theorem half_in {n : Int} (h : inJ n) : inJ (n.tdiv 2) ∧ inJ (n - n.tdiv 2) ∧ IntKind.i64.wrap (n.tdiv 2) = n.tdiv 2 ∧ IntKind.i64.wrap (n - n.tdiv 2) = n - n.tdiv 2 := by
 unfold inJ at *;have e : n.tdiv 2 = if 0 ≤ n ∨ 2 ∣ n then n / 2 else n / 2 + 1 := by rw [Int.tdiv_eq_ediv]; split <;> simp
 have h1 : -9223372036854775808 ≤ n.tdiv 2 ∧ n.tdiv 2 ≤ 9223372036854775807 := by rw [e]; split <;> omega
 have h2 : -9223372036854775808 ≤ n - n.tdiv 2 ∧ n - n.tdiv 2 ≤ 9223372036854775807 := by rw [e]; split <;> omega
 exact ⟨h1, h2, IntWalk.i64_in _ h1, IntWalk.i64_in _ h2⟩
theorem text_small {a : Rt} (h : centsOk a = true) : (⟨(textM a).toArray⟩ : ByteArray).size ≤ 1000 := by
 have h1 := text_len a;have h2 := (pre_len h).2;show (textM a).toArray.size ≤ 1000;rw [List.size_toArray, h1]; omega
end Go.Proofs.YtabfjecegpaoaaaGreatDoor
namespace Go.Proofs.YtabfjecegpaoaaaGreatDoor.moneyCents
open Go.RowKit Go.Shelf
open Dgt
set_option linter.unusedVariables false
def Ewalk_9_1 (n : Int) (hh : Int) (a : Rt) (a1 : Rt) (a2 : Rt) : Nat → Value
 | 0 => .bool true
 | 1 => .bool true
 | 2 => .int .i64 hh
 | 3 => .agg #[.bool a1.neg, .string (encS a1.num), .string (encS a1.den)]
 | 4 => .int .i64 n
 | 5 => .int .i64 hh
 | 6 => .int .i64 (n - hh)
 | 7 => .agg #[.bool a2.neg, .string (encS a2.num), .string (encS a2.den)]
 | 8 => .agg #[.bool a.neg, .string (encS a.num), .string (encS a.den)]
 | 9 => .agg #[.bool a.neg, .string (encS a.num), .string (encS a.den)]
 | 10 => .bool true
 | 11 => .bool true
 | 12 => .bool true
 | _ => undef
def Swalk_9_1 (n : Int) (hh : Int) (a : Rt) (a1 : Rt) (a2 : Rt) (ix : Nat) (v : Value) (w : World) : Prop :=
 match ix with
 | ix => v = Ewalk_9_1 n hh a a1 a2 ix
theorem Swalk_9_1_up (n : Int) (hh : Int) (a : Rt) (a1 : Rt) (a2 : Rt) (ix : Nat) (v : Value) (w w' : World) (hb : Below w.heap.size w w') (h : Swalk_9_1 n hh a a1 a2 ix v w) : Swalk_9_1 n hh a a1 a2 ix v w' := by
 exact h
set_option maxHeartbeats 8000000 in
set_option maxRecDepth 100000 in
theorem walk (n : Int) (rn : inJ n) (wq : World) (htab : Lib.TabIs Tryz.prog wq "internal/strconv.uint64pow10" .u64 Lib.pow10Tab) :
  Calls Tryz.prog 7 #[.int .i64 n] wq fun e w' => e = .returned (.bool true) ∧ Below wq.heap.size wq w' := by
 have HT := Lib.hid (Lib.tabBelow_of_tabIs htab); clear htab;have C1 : Hid (∀ w, Below wq.heap.size wq w → Calls Tryz.prog 11 #[] w fun e w' => e = .returned (.bool true) ∧ Below w.heap.size w w') := Lib.hid fun w hp0 => by
  exact sanity_any w (HT.out.on hp0).here
 obtain ⟨hk, hi⟩ := cents_of rn.1 rn.2;have o1 := ofC_ok n; have z1 := ofC_sz rn.1 rn.2;obtain ⟨hh, hn2⟩ : ∃ h, n.tdiv 2 = h := ⟨_, rfl⟩;obtain ⟨r1, r2, w1, w2⟩ := half_in rn; rw [hn2] at r1 r2 w1 w2;have c1 := fun w => MoOf_any n rn.1 rn.2 w
 have c2 := fun w => MoCents_r o1 (z1.mono (by decide)) w; unfold centsV at c2; rw [hk, hi] at c2
 have c3 := fun w => MoText_r o1 (z1.mono (by decide)) w; unfold textV at c3; rw [if_pos hk] at c3
 have c4 := fun w => MoParse_any ⟨(textM (ofC n)).toArray⟩ (text_small hk) w
 rw [show parseM ((⟨(textM (ofC n)).toArray⟩ : ByteArray).data.toList) = some (ofC n) from parse_text o1 hk] at c4; unfold parsV at c4;have c5 := fun w => MoOf_any hh r1.1 r1.2 w; have c6 := fun w => MoOf_any (n - hh) r2.1 r2.2 w
 have c7 := fun w => rRatAdd_r (IsR.of (ofC_ok hh) (ofC_sz r1.1 r1.2)) (IsR.of (ofC_ok (n - hh)) (ofC_sz r2.1 r2.2)) (by decide) (by decide) w
 rw [half_of] at c7;obtain ⟨T, hT⟩ : ∃ T, (⟨(textM (ofC n)).toArray⟩ : ByteArray) = T := ⟨_, rfl⟩; rw [hT] at c3 c4;obtain ⟨a, ha⟩ : ∃ a, ofC n = a := ⟨_, rfl⟩; rw [ha] at c1 c2 c3 c4 c7;obtain ⟨a1, ha1⟩ : ∃ a, ofC hh = a := ⟨_, rfl⟩; rw [ha1] at c5 c7;obtain ⟨a2, ha2⟩ : ∃ a, ofC (n - hh) = a := ⟨_, rfl⟩; rw [ha2] at c6 c7;have HW1 := Lib.hid (show IntKind.i64.wrap (n.tdiv 2) = hh from by rw [hn2]; exact w1); have HW2 := Lib.hid w2;have C2 : Hid (∀ w, Calls Tryz.prog 20 #[.int .i64 n] w fun e w' => e = .returned (.agg #[.bool a.neg, .string (encS a.num), .string (encS a.den)]) ∧ Below w.heap.size w w') := Lib.hid fun w => by
  have h := c1 w;exact h
 have C3 : Hid (∀ w, Calls Tryz.prog 29 #[.agg #[.bool a.neg, .string (encS a.num), .string (encS a.den)]] w fun e w' => e = .returned (.tuple #[.int .i64 n, .bool true]) ∧ Below w.heap.size w w') := Lib.hid fun w => by
  have h := c2 w;exact h
 have C4 : Hid (∀ w, Below wq.heap.size wq w → Calls Tryz.prog 30 #[.agg #[.bool a.neg, .string (encS a.num), .string (encS a.den)]] w fun e w' => e = .returned (.tuple #[.string T, .bool true]) ∧ Below w.heap.size w w') := Lib.hid fun w hp0 => by
  exact c3 w (HT.out.on hp0).here
 have C5 : Hid (∀ w, Below wq.heap.size wq w → Calls Tryz.prog 31 #[.string T] w fun e w' => e = .returned (.tuple #[.agg #[.bool a.neg, .string (encS a.num), .string (encS a.den)], .bool true]) ∧ Below w.heap.size w w') := Lib.hid fun w hp0 => by
  exact c4 w (HT.out.on hp0).here
 have C6 : Hid (∀ w, Calls Tryz.prog 20 #[.int .i64 hh] w fun e w' => e = .returned (.agg #[.bool a1.neg, .string (encS a1.num), .string (encS a1.den)]) ∧ Below w.heap.size w w') := Lib.hid fun w => by
  have h := c5 w;exact h
 have C7 : Hid (∀ w, Calls Tryz.prog 20 #[.int .i64 (n - hh)] w fun e w' => e = .returned (.agg #[.bool a2.neg, .string (encS a2.num), .string (encS a2.den)]) ∧ Below w.heap.size w w') := Lib.hid fun w => by
  have h := c6 w;exact h
 have C8 : Hid (∀ w, Calls Tryz.prog 32 #[.agg #[.bool a1.neg, .string (encS a1.num), .string (encS a1.den)], .agg #[.bool a2.neg, .string (encS a2.num), .string (encS a2.den)]] w fun e w' => e = .returned (.agg #[.bool a.neg, .string (encS a.num), .string (encS a.den)]) ∧ Below w.heap.size w w') := Lib.hid fun w => by
  have h := c7 w;exact h
 clear c1 c2 c3 c4 c5 c6 c7 ha ha1 ha2 hT hk hi o1 z1 r1 r2 w1 w2 hn2 rn;have HB := Lib.hid (Below.refl wq.heap.size wq);obtain ⟨n0, hn0⟩ : ∃ n, n = wq.heap.size := ⟨_, rfl⟩; rw [← hn0]; have HN0 := Lib.hid hn0; clear hn0;go_enter Tryz.func7, Tryz.ntmps7;go_wp2_with fail;refine (C1.out _ HB.out).mono ?_;rintro e w1 ⟨rfl, hb⟩;have HB := mH HB hb;clear hb;go_wp2_with fail;refine (C2.out _).mono ?_;rintro e w2 ⟨rfl, hb⟩;have HB := mH HB hb;clear hb;obtain ⟨W3, bk4, hW3, hbk4, HX4_1, HB, HG4_1, hup⟩ := boxn HB HN0 (.cells #[.bool false, .string ⟨#[]⟩, .string ⟨#[]⟩] 26);clear hup;obtain ⟨W4, hW4, HX4_1, HB, ho, f2a, f2b, f2c, k2a, k2b, k2c⟩ := put3 HX4_1 HB HN0 HG4_1 (.bool a.neg) (.string (encS a.num)) (.string (encS a.den));clear ho;obtain ⟨k3a, k3b, k3c⟩ := c3 HX4_1;go_wp2_with fail;clear hW3 hbk4 f2a f2b f2c k2a k2b k2c hW4 k3a k3b k3c;refine (C3.out _).mono ?_;rintro e w5 ⟨rfl, hb⟩
 have HX4_1 := uH hb HX4_1;have HB := mH HB hb;clear hb;obtain ⟨k4a, k4b, k4c⟩ := c3 HX4_1;go_wp2_with fail;clear k4a k4b k4c;refine (C4.out _ HB.out).mono ?_;rintro e w6 ⟨rfl, hb⟩;have HX4_1 := uH hb HX4_1;have HB := mH HB hb;clear hb;go_wp2_with fail;refine (C5.out _ HB.out).mono ?_;rintro e w7 ⟨rfl, hb⟩;have HX4_1 := uH hb HX4_1;have HB := mH HB hb;clear hb;obtain ⟨W8, bk9, hW8, hbk9, HX9_5, HB, HG9_5, hup⟩ := boxn HB HN0 (.cells #[.bool false, .string ⟨#[]⟩, .string ⟨#[]⟩] 26);have HL9_5 := (hup _ _ HX4_1).2;have HX4_1 := (hup _ _ HX4_1).1;clear hup;obtain ⟨W9, hW9, HX9_5, HB, ho, f6a, f6b, f6c, k6a, k6b, k6c⟩ := put3 HX9_5 HB HN0 HG9_5 (.bool a.neg) (.string (encS a.num)) (.string (encS a.den));have HX4_1 := ho _ _ (by have h0 := HL9_5.out; omega) HX4_1;clear ho;obtain ⟨k7a, k7b, k7c⟩ := c3 HX9_5;obtain ⟨k8a, k8b, k8c⟩ := c3 HX4_1;have q9 := HW1.out;go_wp2_with fail
 clear hW8 hbk9 f6a f6b f6c k6a k6b k6c hW9 k7a k7b k7c k8a k8b k8c q9;refine wp_region_vals (w := W9) (by kernel_rfl) (Swalk_9_1 n hh a a1 a2) (fun t => (decide (2 ≤ t) && decide (t < 3)) || (decide (52 ≤ t) && decide (t < 64))) (by kernel_rfl) (by kernel_rfl) (by kernel_rfl) (Swalk_9_1_up n hh a a1 a2) ?_ ?_
 ·intro i hi ov_ listed av_ w hR K hK;have ho := hR.at_;have hi : i < 13 := hi;have hii : i = 0 ∨ i = 1 ∨ i = 2 ∨ i = 3 ∨ i = 4 ∨ i = 5 ∨ i = 6 ∨ i = 7 ∨ i = 8 ∨ i = 9 ∨ i = 10 ∨ i = 11 ∨ i = 12 := by omega
  rcases hii with rfl | rfl | rfl | rfl | rfl | rfl | rfl | rfl | rfl | rfl | rfl | rfl | rfl
  ·simp at ho;subst ho;have b3 : av_.tmps.getD 3 undef = .bool true := hR.base 3 (by kernel_rfl);refine plain_step rfl rfl ?_;go_simp;exact hK _ _ rfl rB
  ·simp at ho;subst ho;have e0 : av_.tmps.getD 52 undef = .bool true := hR.dep ⟨0, .data⟩ (by simp) rfl;refine plain_step rfl rfl ?_;go_simp;exact hK _ _ rfl rB
  ·simp at ho;subst ho;have e1 : av_.tmps.getD 53 undef = .bool true := hR.dep ⟨1, .guard⟩ (by simp) rfl;have b11 : av_.tmps.getD 11 undef = .int .i64 hh := hR.base 11 (by kernel_rfl);refine guard_step rfl rfl rfl (b := true) e1 ?_;go_simp;exact hK _ _ rfl rB
  ·simp at ho;subst ho;have e2 : av_.tmps.getD 54 undef = .int .i64 hh := hR.dep ⟨2, .data⟩ (by simp) rfl;have e1 : av_.tmps.getD 53 undef = .bool true := hR.dep ⟨1, .guard⟩ (by simp) rfl;refine guard_step rfl rfl rfl (b := true) e1 ?_;go_simp;refine (C6.out w).mono ?_;rintro e w' ⟨rfl, hb⟩;exact hK _ _ (rfl) hb
  ·simp at ho;subst ho;have e1 : av_.tmps.getD 53 undef = .bool true := hR.dep ⟨1, .guard⟩ (by simp) rfl;have b0 : av_.tmps.getD 0 undef = .int .i64 n := hR.base 0 (by kernel_rfl);refine guard_step rfl rfl rfl (b := true) e1 ?_;go_simp;exact hK _ _ rfl rB
  ·simp at ho;subst ho;have e1 : av_.tmps.getD 53 undef = .bool true := hR.dep ⟨1, .guard⟩ (by simp) rfl;have b11 : av_.tmps.getD 11 undef = .int .i64 hh := hR.base 11 (by kernel_rfl);refine guard_step rfl rfl rfl (b := true) e1 ?_;go_simp;exact hK _ _ rfl rB
  ·simp at ho;subst ho;have e4 : av_.tmps.getD 56 undef = .int .i64 n := hR.dep ⟨4, .data⟩ (by simp) rfl;have e5 : av_.tmps.getD 57 undef = .int .i64 hh := hR.dep ⟨5, .data⟩ (by simp) rfl;have e1 : av_.tmps.getD 53 undef = .bool true := hR.dep ⟨1, .guard⟩ (by simp) rfl;have hw := HW2.out;refine guard_step rfl rfl rfl (b := true) e1 ?_;go_simp;exact hK _ _ rfl rB
  ·simp at ho;subst ho;have e6 : av_.tmps.getD 58 undef = .int .i64 (n - hh) := hR.dep ⟨6, .data⟩ (by simp) rfl;have e1 : av_.tmps.getD 53 undef = .bool true := hR.dep ⟨1, .guard⟩ (by simp) rfl;refine guard_step rfl rfl rfl (b := true) e1 ?_;go_simp;refine (C7.out w).mono ?_;rintro e w' ⟨rfl, hb⟩;exact hK _ _ (rfl) hb
  ·simp at ho;subst ho;have e3 : av_.tmps.getD 55 undef = .agg #[.bool a1.neg, .string (encS a1.num), .string (encS a1.den)] := hR.dep ⟨3, .data⟩ (by simp) rfl;have e7 : av_.tmps.getD 59 undef = .agg #[.bool a2.neg, .string (encS a2.num), .string (encS a2.den)] := hR.dep ⟨7, .data⟩ (by simp) rfl;have e1 : av_.tmps.getD 53 undef = .bool true := hR.dep ⟨1, .guard⟩ (by simp) rfl;refine guard_step rfl rfl rfl (b := true) e1 ?_;go_simp;refine (C8.out w).mono ?_;rintro e w' ⟨rfl, hb⟩;exact hK _ _ (rfl) hb
  ·simp at ho;subst ho;have e1 : av_.tmps.getD 53 undef = .bool true := hR.dep ⟨1, .guard⟩ (by simp) rfl;have b4 : av_.tmps.getD 4 undef = .pointer (some ⟨bk4, 0, none⟩) := hR.base 4 (by kernel_rfl);obtain ⟨cx0, cx1, cx2⟩ := c3 (uH hR.below HX4_1);refine guard_step rfl rfl rfl (b := true) e1 ?_;go_simp;exact hK _ _ rfl rB
  ·simp at ho;subst ho;have e8 : av_.tmps.getD 60 undef = .agg #[.bool a.neg, .string (encS a.num), .string (encS a.den)] := hR.dep ⟨8, .data⟩ (by simp) rfl;have e9 : av_.tmps.getD 61 undef = .agg #[.bool a.neg, .string (encS a.num), .string (encS a.den)] := hR.dep ⟨9, .data⟩ (by simp) rfl;have e1 : av_.tmps.getD 53 undef = .bool true := hR.dep ⟨1, .guard⟩ (by simp) rfl;refine guard_step rfl rfl rfl (b := true) e1 ?_;go_simp;exact hK _ _ rfl rB
  ·simp at ho;subst ho;have e1 : av_.tmps.getD 53 undef = .bool true := hR.dep ⟨1, .data⟩ (by simp) rfl;have e10 : av_.tmps.getD 62 undef = .bool true := hR.dep ⟨10, .data⟩ (by simp) rfl;refine plain_step rfl rfl ?_;go_simp;exact hK _ _ rfl rB
  ·simp at ho;subst ho;have e11 : av_.tmps.getD 63 undef = .bool true := hR.dep ⟨11, .data⟩ (by simp) rfl;refine plain_step rfl rfl ?_;go_simp;exact hK _ _ rfl rB
 ·intro sv_ w hS hb;have e12 : sv_ 2 = .bool true := hS 12 (by decide);simp only [over, Nat.zero_add, Nat.reduceAdd, Nat.reduceLeDiff, Nat.reduceLT, decide_true, decide_false, Bool.and_true, Bool.and_false, Bool.or_false, Bool.or_true, cond_true, cond_false];have HB := mH HB hb;have HX4_1 := uH hb HX4_1;have HX9_5 := uH hb HX9_5;obtain ⟨w10, hw⟩ : ∃ w8, w8 = w := ⟨_, rfl⟩;subst hw;rw [e12];clear hS hb e12;go_wp2_with fail;go_ret;exact ⟨rfl, by rw [HN0.out]; exact HB.out⟩
end Go.Proofs.YtabfjecegpaoaaaGreatDoor.moneyCents
namespace Go.Proofs.YtabfjecegpaoaaaGreatDoor.moneyCents
open Go.ChangeShapes Go.WideShapes Go.ChangeAt Go.RowKit Go
set_option linter.unusedVariables false
set_option maxRecDepth 100000 in
theorem contract (H : Type) (enc : TypeId × Value → H) (W : World) (base : Nat) (args : Array Value) (ds gs : List (DataW H)) (before : List MemPlace)
  (hval : ∀ (j : Nat) t v, Tryz.f7.params[j]? = some t → args[j]? = some v → Value.okWide Tryz.prog W .any base t v)
  (hW : DataW.Whole enc Tryz.prog Tryz.f7.params.toList Rows.moneyCentsSpec.vars false W args.toList ds gs before) (hL : laidMetH Tryz.prog Rows.moneyCentsRow.laid W) (hsh : W.ShapedOpen Tryz.prog) :
  Calls Tryz.prog 7 args W fun e W' => ∃ v, e = .returned v ∧ Rows.moneyCentsSpec.post enc Tryz.prog Tryz.f7 false true false false W args v W' := by
 have hW' := hW;obtain ⟨p, q, hA0, hV, rfl, hfz, hnd⟩ := hW;have hA : DataW.TrodAll enc Tryz.prog W 0 (fun _ => true) true Tryz.f7.params.toList args.toList ds p := hA0;rw [Tryz.params7] at hA hval;obtain ⟨v0, vs0, d0, ds0, p0, q0, hargs, rfl, rfl, h0, r0⟩ := trodAll_cons hA;obtain ⟨rfl, rfl, rfl⟩ := trodAll_nil r0;obtain rfl : args = #[v0] := by cases args; simp_all
 obtain ⟨rfl, rfl⟩ := trodVars_none hV;obtain ⟨a0, rfl, rfl, rfl, w0⟩ := open_int Tryz.underlying3 (hval 0 3 v0 rfl rfl) h0;clear hA0;simp only [List.append_nil] at hW';refine (walk a0 (wf_rng w0) W (table hL)).mono fun e W' ⟨he, hb⟩ => ?_
 subst he;exact ⟨_, rfl, post_of_below (pa := []) (pv := []) hW' (fun _ _ _ => (trodAll_cons_mk (shut_bool Tryz.underlying4 _) trodAll_mk0)) (fun sp hsp => (trodAll_cons_mk (shut_int Tryz.underlying3 w0) trodAll_mk0)) (fun _ _ => rfl) (by simp)
  hb (ok_one (by kernel_rfl) rfl (okWide_bool_mk Tryz.underlying4 _))⟩
theorem reads (os : Os) {H : Type} (enc : TypeId × Value → H) : ∃ places, DataW.whole enc Tryz.prog ((laidWorld os).forCall (fun _ _ => 0) ⟨#[], #[.int .i64 0], []⟩).memory Tryz.f7.params.toList Rows.moneyCentsSpec.vars false (#[Value.int .i64 0] : Array Value).toList 8 = some ([.lit (.int .i64 0)], [], places) :=
 ⟨[], by kernel_rfl⟩
set_option maxRecDepth 100000 in
theorem lifted (os : Os) (started : os.Started) (H : Type) (enc : TypeId × Value → H) (F : Stop.Interp) :
  ReturnsInHanded {} Tryz.checked os 7 .any ((OpenSpec.ofChange Rows.moneyCentsSpec).preRow enc Tryz.prog Tryz.f7 Rows.moneyCentsRow.domain false Rows.moneyCentsRow.laid) (((OpenSpec.ofChange Rows.moneyCentsSpec).at F).post enc Tryz.prog Tryz.f7 false true false false) := by
 obtain ⟨places, hx⟩ := reads os enc;refine returnsInHanded_of_row (C := Tryz.checked) (s := OpenSpec.ofChange Rows.moneyCentsSpec) own started (by kernel_rfl) Tryz.func7
  (witness_row_atRef (enc := enc) (C := Tryz.checked) false (laidWorld os) #[.int .i64 0] rfl (by kernel_rfl) (by kernel_rfl) (by kernel_rfl)
   (OpenSpec.preRow_of_cond 8 hx (by kernel_rfl) (fun k hk => by cases hk) (by kernel_rfl) (laid_met os _))) ?_
 intro W base args ds gs before hval hW _ _ _ hL hsh _;exact contract H enc W base args ds gs before hval hW hL hsh
theorem said : Rows.MoneyCentsSaid :=
 OpenClaim.holds_of_cond 7 Tryz.f7 rfl rfl rfl rfl rfl rfl rfl ⟨rfl, rfl, rfl, rfl, rfl⟩ rfl rfl rfl rfl rfl (by kernel_rfl) Tryz.func7 (by kernel_rfl)
  (of_decide_eq_true (by kernel_rfl)) (by unfold Func.isWrapper; first | (rw [if_pos (by decide +kernel)]; kernel_rfl) | (rw [if_neg (by decide +kernel)]; exact ⟨rfl, rfl⟩))
  (fun os started H enc _ F => by rw [OpenClaim.pre_eq_preRow]; exact lifted os started H enc F)
theorem plain (f : FuncId) (fn : Func) (hf : Tryz.pinned.checked.prog.funcNamed "tithing/tithinglaw04.MoneyCents" = some f) (hfn : Tryz.pinned.checked.prog.funcs[f]? = some fn) :
  true = Tryz.pinned.checked.prog.looks [] ∧ ∀ (j : Nat) t, fn.params[j]? = some t → Tryz.pinned.checked.prog.wantsStandIn t = false := by
 obtain rfl : f = 7 := Option.some.inj ((show Tryz.prog.funcNamed "tithing/tithinglaw04.MoneyCents" = some 7 by kernel_rfl).symm.trans hf) |>.symm
 obtain rfl : fn = Tryz.f7 := (Option.some.inj (Tryz.func7.symm.trans hfn)).symm;refine ⟨by kernel_rfl, fun j t ht => ?_⟩;rw [Tryz.params7] at ht;have hm : t ∈ [3] := by simpa using Array.mem_of_getElem? ht
 have hall : ([3].all fun u => !Tryz.prog.wantsStandIn u) = true := by kernel_rfl
 exact (show Tryz.prog.wantsStandIn t = false by simpa using List.all_eq_true.1 hall t hm)
theorem proved : Rows.MoneyCentsCardSaid :=
 Claim7.holds_tied_plain_at .later [] _ _ _ _ said (fun _ h => by cases h) (by kernel_rfl) (fun _ h => by cases h) moneyCents_row_tie rfl ⟨rfl, rfl⟩ (by kernel_rfl) rfl plain (by kernel_rfl)
#print axioms proved
end Go.Proofs.YtabfjecegpaoaaaGreatDoor.moneyCents
