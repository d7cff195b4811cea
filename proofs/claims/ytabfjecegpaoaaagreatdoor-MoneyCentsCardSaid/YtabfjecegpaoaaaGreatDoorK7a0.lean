/- MoneyCents: for every input the law returns true, and each argument reads afterwards as it read before; the listed tables read as the program lays them (the tied card). -/
import Derived.Deep.LoopGhost
import Derived.Deep.QuietTactic
import Derived.BigQuiet
import Derived.Test.YtabfjecegpaoaaaGreatDoorProg
import Derived.WalkKit
import Derived.WalkSpells
import Derived.WalkLawsBesides
import Derived.IntWalk
import Derived.Lib.Hide
import Derived.Laws.BitsAllLaws
import Derived.StillTailTactics
import Derived.Deep.OwnRows
import Derived.Lib.ConvBytes
import Derived.Below
import Derived.RangeFuncNested
import Derived.RangeFuncCalls
import Derived.RangeFuncLeaves
import Derived.Shelf.Abstract
import Derived.Lib.LaidIn
import Derived.RegionTactic
import Derived.KernelRfl
import Derived.OrdersIn
import Derived.Shelf.Strings.Builder1
import Derived.Shelf.Strings.Builder2
import Derived.Shelf.Strings.Trim
import Derived.Shelf.Small.Utf8
import Derived.Shelf.Small.Bits
import Derived.Shelf.Small.Strs
import Derived.Shelf.Strings.BuilderF
import Derived.Shelf.Strings.BuilderK
import Derived.Shelf.Strings.Builder2Cap
import Derived.Shelf.Strconv.Atoi
import Derived.Shelf.Strconv.Itoa0
import Derived.Shelf.Strconv.Itoa1
import Derived.Shelf.LaysM
import Derived.Shelf.Strconv.Itoa2
import Derived.Shelf.Strconv.Itoa3
import Derived.Shelf.Strconv.AtoiErrFast
import Derived.Shelf.Strconv.ParseIntEmpty
import Derived.Shelf.Strconv.AtoiFail
import Derived.Shelf.Strconv.Clone
import Derived.Shelf.Strconv.SyntaxError
import Derived.Shelf.LaysC
import Derived.Shelf.Strconv.ToError
import Derived.Shelf.Strconv.Lower
import Derived.Shelf.Strconv.ParseUint10
import Derived.Shelf.Strconv.ParseUint10Empty
import Derived.Shelf.Strconv.ParseUint10Any
import Derived.Shelf.Strconv.ParseInt10
import Derived.Shelf.Strconv.AtoiLong
import Derived.Shelf.Strconv.AtoiInnerAll
import Derived.Shelf.Strconv.RangeError
import Derived.Shelf.Strconv.ToErrorRange
import Derived.Shelf.Strconv.AtoiAll
import Derived.Shelf.Strconv.ErrVarAll
import Derived.Shelf.Strconv.ParseUintEmpty
import Derived.Shelf.Strconv.ParseUint10b64
import Derived.Shelf.Strconv.ParseUint10b32
import Derived.Shelf.Strconv.ParseUint10b16
import Derived.Shelf.Strconv.ParseUint10b8
import Derived.Shelf.Strconv.ParseUint10At
import Derived.Shelf.Strconv.ParseInt10At64
import Derived.Shelf.Strconv.ParseInt10At32
import Derived.Shelf.Strconv.ParseInt10At16
import Derived.Shelf.Strconv.ParseInt10At8
import Derived.Shelf.Strconv.ParseInt10All
import Derived.Shelf.Strings.Search1
import Derived.Shelf.GgClosure.StringsIndexFunc
import Derived.Ground.GgwProg
import Derived.Shelf.GgClosure.StringsIndexFuncTop
import Derived.Shelf.GgClosure.StringsRunes
import Derived.Shelf.Strings.Prefix
import Derived.Shelf.Strings.Runes
import Derived.Shelf.Strings.AsciiSet
import Derived.Shelf.Bits.Mul64
import Derived.Shelf.Strings.Repeat
import Derived.Shelf.Unicode.DecodeSlow
import Derived.Shelf.Unicode.DecodeAny
import Derived.Shelf.Strings.FuncGrows
import Derived.Shelf.Strings.BuilderCap
import Derived.OwnWalk
import Derived.Laws.AppendOwn
import Derived.Lib.IndexBytes
import Derived.Test.YtabfjecegpaoaaaGreatDoorYa5
import Derived.Test.YtabfjecegpaoaaaGreatDoorYa4
import Derived.Test.YtabfjecegpaoaaaGreatDoorYa3
import Derived.Test.YtabfjecegpaoaaaGreatDoorYa0
import Derived.Test.YtabfjecegpaoaaaGreatDoorYa1
import Derived.Test.YtabfjecegpaoaaaGreatDoorYa2
import Derived.Test.YtabfjecegpaoaaaGreatDoorYa6
import Derived.Test.YtabfjecegpaoaaaGreatDoorYa7
import Derived.Test.YtabfjecegpaoaaaGreatDoorYa8
namespace Go.Proofs.YtabfjecegpaoaaaGreatDoor
open Go.RowKit Go.Shelf
open Dgt
set_option linter.unusedVariables false
theorem low_neg {neg : Bool} {n d : Nat} (hn : 0 < n) : (low neg n d).neg = neg := by
 simp [low, low_num_pos (neg := neg) (d := d) hn]
end Go.Proofs.YtabfjecegpaoaaaGreatDoor
namespace Go.Proofs.YtabfjecegpaoaaaGreatDoor
open Go.RowKit Go.Shelf
open Dgt
set_option linter.unusedVariables false
end Go.Proofs.YtabfjecegpaoaaaGreatDoor
namespace Go.Proofs.YtabfjecegpaoaaaGreatDoor
open Go.RowKit Go.Shelf
open Dgt
set_option linter.unusedVariables false
end Go.Proofs.YtabfjecegpaoaaaGreatDoor
namespace Go.Proofs.YtabfjecegpaoaaaGreatDoor
open Go.RowKit Go.Shelf
open Dgt
set_option linter.unusedVariables false
end Go.Proofs.YtabfjecegpaoaaaGreatDoor
namespace Go.Proofs.YtabfjecegpaoaaaGreatDoor
open Go.RowKit Go.Shelf
open Dgt
set_option linter.unusedVariables false
theorem rminus_any (vu vv : Value) (U V : List Nat) (w : World) (hu : LimR w vu U) (hv : LimR w vv V) (hle : valB 16777216 V ≤ valB 16777216 U) (hlen : V.length ≤ U.length) (hl9 : U.length ≤ 30000000) :
  Calls Tryz.prog 117 #[vu, vv] w fun e w' => ∃ v', e = .returned v' ∧ LimR w' v' (digs 16777216 (valB 16777216 U - valB 16777216 V)) ∧ Below w.heap.size w w' :=
 (rminus_ok vu vv U V w hu hv hle hlen hl9).mono fun e w' ⟨v', h1, h2, h3, h4⟩ => ⟨v', h1, h2, h4⟩
set_option maxHeartbeats 4000000 in
set_option maxRecDepth 100000 in
theorem rSub_any (a b : ByteArray) (w : World) (ha : a.size ≤ 1000000) (hb : b.size ≤ 1000000) :
  Calls Tryz.prog 79 #[.string a, .string b] w fun e w' => e = .returned (.tuple #[.string (encS (numS a - numS b)), .bool (decide (numS b ≤ numS a))]) ∧ Below w.heap.size w w' := by
 have HCM := Lib.hid (rCmp_any a b · (by omega) (by omega));have OA := Lib.hid (rof_any a · (by omega)); have OB := Lib.hid (rof_any b · (by omega));have la : (digs 16777216 (numS a)).length ≤ 1000000 := Nat.le_trans (digs_len_le (by decide) (Nat.lt_of_lt_of_le (numS_lt a) (Nat.pow_le_pow_left (by decide) _))) ha;obtain ⟨A, hA⟩ : ∃ A, numS a = A := ⟨_, rfl⟩;obtain ⟨B, hB⟩ : ∃ B, numS b = B := ⟨_, rfl⟩;rw [hA] at OA la HCM; rw [hB] at OB HCM;rw [hA, hB];have LA := Lib.hid la;clear ha hb la hA hB;rcases Nat.lt_or_ge A B with hlt | hge
 ·rw [cmpI_lt hlt] at HCM;have hE : Hid (encS (A - B) = ⟨#[]⟩) := Lib.hid (by rw [show A - B = 0 by omega, encS_zero]);have hD : Hid (decide (B ≤ A) = false) := Lib.hid (by rw [decide_eq_false_iff_not]; omega);clear hlt;go_enter Tryz.func79, Tryz.ntmps79;go_wp2_with fail;refine (HCM.out _).mono ?_;rintro e w1 ⟨rfl, rfl⟩;go_wp2_with fail;go_ret2;exact ⟨by rw [hE.out, hD.out]; rfl, Below.refl _ _⟩
 ·obtain ⟨c, hc, hc0⟩ := cmp_ge hge;rw [hc] at HCM;have hc0' : ¬ c < 0 := by omega
  have hD : Hid (decide (B ≤ A) = true) := Lib.hid (by rw [decide_eq_true_eq]; omega);have HGE := Lib.hid hge;have HLN := Lib.hid (digs_len_mono (B := 16777216) (by decide) hge);clear hge hc hc0;go_enter Tryz.func79, Tryz.ntmps79;go_wp2_with fail;refine (HCM.out _).mono ?_;rintro e w1 ⟨rfl, rfl⟩;go_wp2_with fail;refine (OA.out _).mono ?_;rintro e w1 ⟨vu, rfl, hl, hb⟩;have HU := Lib.hid hl; have HB := Lib.hid hb;clear hl hb;go_wp2_with fail;refine (OB.out _).mono ?_;rintro e w2 ⟨vv, rfl, hl, hb⟩;have HU := Lib.hid (HU.out.up hb); have HV := Lib.hid hl; have HB := mH HB hb;clear hl hb;go_wp2_with fail;refine (rminus_any _ _ _ _ _ HU.out HV.out (by rw [valB_digs (by decide), valB_digs (by decide)]; exact HGE.out) HLN.out (by have := LA.out; omega)).mono ?_;rintro e w3 ⟨vm, rfl, hl, hb⟩;rw [valB_digs (by decide), valB_digs (by decide)] at hl;have HM := Lib.hid hl; have HB := mH HB hb
  clear hl hb;go_wp2_with fail;refine (rnumber_any _ _ _ HM.out (Nat.le_trans (digs_len_mono (by decide) (Nat.sub_le _ _)) (by have := LA.out; omega))).mono ?_;rintro e w4 ⟨rfl, hb⟩;rw [valB_digs (by decide)];have HB := mH HB hb;clear hb;go_wp2_with fail;go_ret2;exact ⟨by rw [hD.out]; rfl, HB.out⟩
end Go.Proofs.YtabfjecegpaoaaaGreatDoor
namespace Go.Proofs.YtabfjecegpaoaaaGreatDoor
open Go.RowKit Go.Shelf
open Dgt
set_option linter.unusedVariables false
end Go.Proofs.YtabfjecegpaoaaaGreatDoor
