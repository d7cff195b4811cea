/- MoneyTexts: for every input the law returns true, and each argument reads afterwards as it read before; the listed tables read as the program lays them (the tied card). -/
import Derived.Lib.ItoaLen
import Derived.WalkKit
import Derived.RangeFuncNested
import Derived.RangeFuncCalls
import Derived.RangeFuncLeaves
import Derived.Shelf.Abstract
import Derived.Below
import Derived.Lib.LaidIn
import Derived.RegionTactic
import Derived.KernelRfl
import Derived.Lib.Hide
import Derived.OrdersIn
import Derived.Laws.AppendOwnNone
import Derived.Test.YtabfjecegpaoaaaGreatDoorProg
import Derived.WalkSpells
import Derived.WalkLawsBesides
import Derived.IntWalk
import Derived.Laws.BitsAllLaws
import Derived.StillTailTactics
import Derived.Deep.OwnRows
import Derived.Lib.ConvBytes
import Derived.BigQuiet
import Derived.Deep.QuietTactic
import Derived.Shelf.Strings.Builder1
import Derived.Shelf.Strings.Builder2
import Derived.Shelf.Strings.Trim
import Derived.Shelf.Small.Utf8
import Derived.Shelf.Small.Bits
import Derived.Shelf.Small.Strs
import Derived.Shelf.Strings.BuilderF
import Derived.Shelf.Strings.BuilderK
import Derived.Shelf.Strings.Builder2Cap
import Derived.Shelf.Strconv.Atoi
import Derived.Shelf.Strconv.Itoa0
import Derived.Shelf.Strconv.Itoa1
import Derived.Shelf.LaysM
import Derived.Shelf.Strconv.Itoa2
import Derived.Shelf.Strconv.Itoa3
import Derived.Shelf.Strconv.AtoiErrFast
import Derived.Shelf.Strconv.ParseIntEmpty
import Derived.Shelf.Strconv.AtoiFail
import Derived.Shelf.Strconv.Clone
import Derived.Shelf.Strconv.SyntaxError
import Derived.Shelf.LaysC
import Derived.Shelf.Strconv.ToError
import Derived.Shelf.Strconv.Lower
import Derived.Shelf.Strconv.ParseUint10
import Derived.Shelf.Strconv.ParseUint10Empty
import Derived.Shelf.Strconv.ParseUint10Any
import Derived.Shelf.Strconv.ParseInt10
import Derived.Shelf.Strconv.AtoiLong
import Derived.Shelf.Strconv.AtoiInnerAll
import Derived.Shelf.Strconv.RangeError
import Derived.Shelf.Strconv.ToErrorRange
import Derived.Shelf.Strconv.AtoiAll
import Derived.Shelf.Strconv.ErrVarAll
import Derived.Shelf.Strconv.ParseUintEmpty
import Derived.Shelf.Strconv.ParseUint10b64
import Derived.Shelf.Strconv.ParseUint10b32
import Derived.Shelf.Strconv.ParseUint10b16
import Derived.Shelf.Strconv.ParseUint10b8
import Derived.Shelf.Strconv.ParseUint10At
import Derived.Shelf.Strconv.ParseInt10At64
import Derived.Shelf.Strconv.ParseInt10At32
import Derived.Shelf.Strconv.ParseInt10At16
import Derived.Shelf.Strconv.ParseInt10At8
import Derived.Shelf.Strconv.ParseInt10All
import Derived.Shelf.Strings.Search1
import Derived.Shelf.GgClosure.StringsIndexFunc
import Derived.Ground.GgwProg
import Derived.Shelf.GgClosure.StringsIndexFuncTop
import Derived.Shelf.GgClosure.StringsRunes
import Derived.Shelf.Strings.Prefix
import Derived.Shelf.Strings.Runes
import Derived.Shelf.Strings.AsciiSet
import Derived.Shelf.Bits.Mul64
import Derived.Shelf.Strings.Repeat
import Derived.Shelf.Unicode.DecodeSlow
import Derived.Shelf.Unicode.DecodeAny
import Derived.Shelf.Strings.FuncGrows
import Derived.Shelf.Strings.BuilderCap
import Derived.Test.YtabfjecegpaoaaaGreatDoorYa6
import Derived.Test.YtabfjecegpaoaaaGreatDoorK8a0
import Derived.Test.YtabfjecegpaoaaaGreatDoorYb0
import Derived.Test.YtabfjecegpaoaaaGreatDoorK8a1
import Derived.Test.YtabfjecegpaoaaaGreatDoorYb1
import Derived.Test.YtabfjecegpaoaaaGreatDoorYc4
import Derived.Test.YtabfjecegpaoaaaGreatDoorYc3
import Derived.Test.YtabfjecegpaoaaaGreatDoorYc2
import Derived.Test.YtabfjecegpaoaaaGreatDoorYc1
import Derived.Test.YtabfjecegpaoaaaGreatDoorYb3
import Derived.Test.YtabfjecegpaoaaaGreatDoorYb2
import Derived.Test.YtabfjecegpaoaaaGreatDoorYa1
import Derived.Test.YtabfjecegpaoaaaGreatDoorYb7
import Derived.Test.YtabfjecegpaoaaaGreatDoorYb6
import Derived.Test.YtabfjecegpaoaaaGreatDoorYb5
import Derived.Test.YtabfjecegpaoaaaGreatDoorYb4
import Derived.Test.YtabfjecegpaoaaaGreatDoorYb9
import Derived.Test.YtabfjecegpaoaaaGreatDoorYb8
import Derived.Test.YtabfjecegpaoaaaGreatDoorYa9
import Derived.Test.YtabfjecegpaoaaaGreatDoorYa8
import Derived.Test.YtabfjecegpaoaaaGreatDoorYa3
import Derived.Test.YtabfjecegpaoaaaGreatDoorYa0
import Derived.Test.YtabfjecegpaoaaaGreatDoorYa2
namespace Go.Proofs.YtabfjecegpaoaaaGreatDoor
open Go.RowKit Go.Shelf Go.Lib
open Dgt
set_option linter.unusedVariables false
theorem centN_neg {a : Rt} (ha : a.Ok) : (centN a).neg = a.neg := by
 unfold centN mulR;cases hn : a.neg
 ·simp [ofR, low]
 ·have := ha.nz hn;rw [low_neg (by rw [show (ofR 100).num = 100 from rfl]; omega)]; rfl
theorem low_cents {a : Rt} (ha : a.Ok) (h1 : (centN a).den = 1) : low a.neg (centN a).num 100 = a := by
 refine q_inj (low_ok _ (by decide)) ha ?_;have hq := q_centN ha;rw [iv_one (centN_ok ha) h1, q_of, centN_neg ha] at hq;rw [q_low _ (by decide), Rat.mkRat_eq_div, hq]
 grind
theorem two_len {r : Nat} (h : r < 100) : (two r).length = 2 := by
 unfold two; split
 ·rename_i h1; rw [decDigits_one h1]; rfl
 ·rename_i h1; rw [decDigits_two h1 h]; rfl
theorem two_pad {r : Nat} (h : r < 100) : two r = padD 2 r := by
 rw [padD_dec 1 r h];unfold two; split
 ·rename_i h1; rw [nDigits_small h1]; rfl
 ·rename_i h1; rw [nDigits_big h1, nDigits_small (by omega)]; rfl
theorem strip_dec (N : Nat) : strip (decDigits (N / 100) ++ two (N % 100)) = decDigits N := by
 by_cases h : N < 100
 ·rw [Nat.div_eq_of_lt h, Nat.mod_eq_of_lt h, decDigits_one (by decide : 0 < 10)];unfold two; split
  ·rename_i h1; rw [decDigits_one h1]; simp [strip]
  ·rename_i h1
   have h2 := (dec_spec N).2.2.1;have e : [UInt8.ofNat (48 + 0)] ++ decDigits N = 48 :: decDigits N := rfl;rw [e];have h3 : (decDigits N).headD 0 ≠ 48 := by rcases h2 with h2 | h2; omega; exact h2
   rw [decDigits_two h1 h] at h3 ⊢;rw [strip, if_pos rfl]; exact strip_ne h3
 ·have hq : 0 < N / 100 := by omega
  have e := decDigits_pad hq 2 (N % 100) (Nat.mod_lt _ (by decide));rw [show N / 100 * 10 ^ 2 + N % 100 = N by omega, ← two_pad (Nat.mod_lt _ (by decide))] at e;rw [← e];rcases (dec_spec N).2.2.1 with h2 | h2
  ·omega
  ·exact strip_ne h2
def shapeR (l : List UInt8) : Bool := decide (5 ≤ l.length) && decide (l.length ≤ 40) && decide (l[0]? = some 36) && decide (l[l.length - 3]? = some 46)
def unitL (l : List UInt8) : List UInt8 := (l.take (l.length - 3)).drop (if negL l then 2 else 1)
def tailL (l : List UInt8) : List UInt8 := l.drop (l.length - 2)
def candR (l : List UInt8) : Option Rt := if shapeR l = true ∧ okP (unitL l) = true ∧ (tailL l).all dB = true then some (low (negL l) (decV (unitL l) * 100 + decV (tailL l)) 100) else none
def parseRM (l : List UInt8) : Option Rt := match candR l with
 | some a => if accept l a then some a else none
 | none => none
section
variable {a : Rt}
theorem text_len (a : Rt) : (textM a).length = (sgnL a.neg ++ decDigits ((centN a).num / 100)).length + 4 := by
 unfold textM;rw [List.length_cons, List.length_append, List.length_cons, two_len (Nat.mod_lt _ (by decide))]
theorem pre_len (h : centsOk a = true) : 1 ≤ (sgnL a.neg ++ decDigits ((centN a).num / 100)).length ∧ (sgnL a.neg ++ decDigits ((centN a).num / 100)).length ≤ 21 := by
 unfold centsOk at h;simp only [Bool.and_eq_true, Bool.or_eq_true, decide_eq_true_eq] at h;have h1 := nDigits_pos ((centN a).num / 100);have h2 := nDigits_le20 ((centN a).num / 100) (by omega);rw [List.length_append, decDigits_length];have : (sgnL a.neg).length ≤ 1 := by unfold sgnL; split <;> simp
 omega
theorem text_take (a : Rt) : (textM a).take ((textM a).length - 3) = 36 :: (sgnL a.neg ++ decDigits ((centN a).num / 100)) := by
 rw [text_len];unfold textM;rw [show (sgnL a.neg ++ decDigits ((centN a).num / 100)).length + 4 - 3 = (sgnL a.neg ++ decDigits ((centN a).num / 100)).length + 1 by omega, List.take_succ_cons, List.take_left]
theorem text_drop (a : Rt) : (textM a).drop ((textM a).length - 2) = two ((centN a).num % 100) := by
 rw [text_len];unfold textM;rw [show (sgnL a.neg ++ decDigits ((centN a).num / 100)).length + 4 - 2 = (sgnL a.neg ++ decDigits ((centN a).num / 100)).length + 1 + 1 by omega, List.drop_succ_cons, List.drop_append];simp
theorem text_dot (a : Rt) : (textM a)[(textM a).length - 3]? = some 46 := by
 rw [text_len];unfold textM;rw [show (sgnL a.neg ++ decDigits ((centN a).num / 100)).length + 4 - 3 = (sgnL a.neg ++ decDigits ((centN a).num / 100)).length + 1 by omega, List.getElem?_cons_succ, List.getElem?_append_right (Nat.le_refl _)];simp
theorem text_neg (a : Rt) : negL (textM a) = a.neg := by
 unfold negL textM;rw [List.getElem?_cons_succ];cases hn : a.neg
 ·unfold sgnL;simp only [Bool.false_eq_true, if_false, List.nil_append];obtain ⟨h1, -, -, h4⟩ := dec_spec ((centN a).num / 100)
  match hd : decDigits ((centN a).num / 100), h4 with
  | c :: r, _ =>
   rw [hd] at h1;simp only [List.all_cons, Bool.and_eq_true] at h1;have : c ≠ 45 := fun e => by rw [e] at h1; exact absurd h1.1 (by decide)
   simp [this]
 ·simp [sgnL]
theorem candP_text (ha : a.Ok) (h : centsOk a = true) : candP (textM a) = some a := by
 have hl := pre_len h;rw [List.length_append] at hl;have h1 : (centN a).den = 1 := by unfold centsOk at h; simp only [Bool.and_eq_true, decide_eq_true_eq] at h; exact h.1
 have hs : shapeP (textM a) = true := by
  unfold shapeP; rw [text_dot, text_len]; simp; omega
 have hd : stripP (textM a) = decDigits (centN a).num := by
  unfold stripP dgs;rw [text_take, text_drop, text_neg];refine Eq.trans ?_ (strip_dec (centN a).num)
  congr 1
  unfold sgnL;cases a.neg <;> simp
 unfold candP;rw [hs, hd, text_neg, ok_dec, if_pos ⟨rfl, rfl⟩, show decV (decDigits (centN a).num) = (centN a).num from (dec_spec _).2.1, low_cents ha h1]
theorem candR_text (ha : a.Ok) (h : centsOk a = true) : candR (textM a) = some a := by
 have hl := pre_len h;rw [List.length_append] at hl;have h1 : (centN a).den = 1 := by unfold centsOk at h; simp only [Bool.and_eq_true, decide_eq_true_eq] at h; exact h.1
 have hs : shapeR (textM a) = true := by
  unfold shapeR; rw [text_dot, text_len]; simp [textM]; omega
 have hu : unitL (textM a) = decDigits ((centN a).num / 100) := by
  unfold unitL;rw [text_take, text_neg];unfold sgnL;cases a.neg <;> simp
 have hm : (centN a).num % 100 < 100 := Nat.mod_lt _ (by decide);have ht : tailL (textM a) = two ((centN a).num % 100) := text_drop a;have hall : (two ((centN a).num % 100)).all dB = true ∧ decV (two ((centN a).num % 100)) = (centN a).num % 100 := by
  obtain ⟨d1, d2, -, -⟩ := dec_spec ((centN a).num % 100);unfold two; split
  ·refine ⟨by rw [List.all_cons, d1]; decide, ?_⟩;unfold decV; rw [decF_cons]; exact d2
  ·exact ⟨d1, d2⟩
 unfold candR;rw [hs, hu, ht, text_neg, ok_dec, hall.1, if_pos ⟨rfl, rfl, rfl⟩, show decV (decDigits ((centN a).num / 100)) = (centN a).num / 100 from (dec_spec _).2.1, hall.2, show (centN a).num / 100 * 100 + (centN a).num % 100 = (centN a).num by omega, low_cents ha h1]
end
theorem candP_ok {l : List UInt8} {a : Rt} (h : candP l = some a) : a.Ok := by
 unfold candP at h; split at h
 ·obtain rfl := Option.some.inj h; exact low_ok _ (by decide)
 ·cases h
theorem candR_ok {l : List UInt8} {a : Rt} (h : candR l = some a) : a.Ok := by
 unfold candR at h; split at h
 ·obtain rfl := Option.some.inj h; exact low_ok _ (by decide)
 ·cases h
theorem parse_text {a : Rt} (ha : a.Ok) (h : centsOk a = true) : parseM (textM a) = some a := by
 unfold parseM; rw [candP_text ha h];show (if accept (textM a) a = true then some a else none) = some a;rw [if_pos (accept_iff.2 ⟨h, rfl⟩)]
theorem parseR_text {a : Rt} (ha : a.Ok) (h : centsOk a = true) : parseRM (textM a) = some a := by
 unfold parseRM; rw [candR_text ha h];show (if accept (textM a) a = true then some a else none) = some a;rw [if_pos (accept_iff.2 ⟨h, rfl⟩)]
theorem parse_some {l : List UInt8} {a : Rt} (h : parseM l = some a) : a.Ok ∧ centsOk a = true ∧ textM a = l := by
 unfold parseM at h
 split at h
 ·rename_i b hb
  split at h
  ·rename_i hc
   obtain rfl := Option.some.inj h;exact ⟨candP_ok hb, accept_iff.1 hc⟩
  ·cases h
 ·cases h
theorem parseR_some {l : List UInt8} {a : Rt} (h : parseRM l = some a) : a.Ok ∧ centsOk a = true ∧ textM a = l := by
 unfold parseRM at h
 split at h
 ·rename_i b hb
  split at h
  ·rename_i hc
   obtain rfl := Option.some.inj h;exact ⟨candR_ok hb, accept_iff.1 hc⟩
  ·cases h
 ·cases h
theorem parse_eq (l : List UInt8) : parseRM l = parseM l := by
 cases h : parseM l with
 | some a =>
  obtain ⟨h1, h2, h3⟩ := parse_some h;rw [← h3]; exact parseR_text h1 h2
 | none =>
  cases h2 : parseRM l with
  | none => rfl
  | some a =>
   obtain ⟨k1, k2, k3⟩ := parseR_some h2;rw [← k3, parse_text k1 k2] at h;cases h
end Go.Proofs.YtabfjecegpaoaaaGreatDoor
namespace Go.Proofs.YtabfjecegpaoaaaGreatDoor
open Go.RowKit Go.Shelf
open Dgt
set_option linter.unusedVariables false
theorem toBelow {P : Program} {f : FuncId} {args : Array Value} {w : World} {v : Value} (h : Calls P f args w fun e w' => e = .returned v ∧ w = w') : Calls P f args w fun e w' => e = .returned v ∧ Below w.heap.size w w' :=
 h.mono fun e w' ⟨h1, h2⟩ => ⟨h1, by subst h2; exact Below.refl _ _⟩
end Go.Proofs.YtabfjecegpaoaaaGreatDoor
