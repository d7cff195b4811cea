/- MoneyTexts: for every input the law returns true, and each argument reads afterwards as it read before; the listed tables read as the program lays them (the tied card). -/
import Derived.WalkKit
import Derived.RangeFuncKeeps
import Derived.RangeFuncNested
import Derived.RangeFuncCalls
import Derived.RangeFuncLeaves
import Derived.Shelf.Abstract
import Derived.Below
import Derived.Lib.LaidIn
import Derived.RegionTactic
import Derived.KernelRfl
import Derived.Lib.Hide
import Derived.OrdersIn
import Derived.OwnWalkIn
import Derived.TacticsInMore
import Derived.LoopNIn
import Derived.LoopIn
import Derived.Laws.AppendOwnNone
import Derived.Test.YtabfjecegpaoaaaGreatDoorProg
import Derived.WalkSpells
import Derived.WalkLawsBesides
import Derived.IntWalk
import Derived.Laws.BitsAllLaws
import Derived.StillTailTactics
import Derived.Deep.OwnRows
import Derived.Lib.ConvBytes
import Derived.BigQuiet
import Derived.Deep.QuietTactic
import Derived.Shelf.Strings.Builder1
import Derived.Shelf.Strings.Builder2
import Derived.Shelf.Strings.Trim
import Derived.Shelf.Small.Utf8
import Derived.Shelf.Small.Bits
import Derived.Shelf.Small.Strs
import Derived.Shelf.Strings.BuilderF
import Derived.Shelf.Strings.BuilderK
import Derived.Shelf.Strings.Builder2Cap
import Derived.Shelf.Strconv.Atoi
import Derived.Shelf.Strconv.Itoa0
import Derived.Shelf.Strconv.Itoa1
import Derived.Shelf.LaysM
import Derived.Shelf.Strconv.Itoa2
import Derived.Shelf.Strconv.Itoa3
import Derived.Shelf.Strconv.AtoiErrFast
import Derived.Shelf.Strconv.ParseIntEmpty
import Derived.Shelf.Strconv.AtoiFail
import Derived.Shelf.Strconv.Clone
import Derived.Shelf.Strconv.SyntaxError
import Derived.Shelf.LaysC
import Derived.Shelf.Strconv.ToError
import Derived.Shelf.Strconv.Lower
import Derived.Shelf.Strconv.ParseUint10
import Derived.Shelf.Strconv.ParseUint10Empty
import Derived.Shelf.Strconv.ParseUint10Any
import Derived.Shelf.Strconv.ParseInt10
import Derived.Shelf.Strconv.AtoiLong
import Derived.Shelf.Strconv.AtoiInnerAll
import Derived.Shelf.Strconv.RangeError
import Derived.Shelf.Strconv.ToErrorRange
import Derived.Shelf.Strconv.AtoiAll
import Derived.Shelf.Strconv.ErrVarAll
import Derived.Shelf.Strconv.ParseUintEmpty
import Derived.Shelf.Strconv.ParseUint10b64
import Derived.Shelf.Strconv.ParseUint10b32
import Derived.Shelf.Strconv.ParseUint10b16
import Derived.Shelf.Strconv.ParseUint10b8
import Derived.Shelf.Strconv.ParseUint10At
import Derived.Shelf.Strconv.ParseInt10At64
import Derived.Shelf.Strconv.ParseInt10At32
import Derived.Shelf.Strconv.ParseInt10At16
import Derived.Shelf.Strconv.ParseInt10At8
import Derived.Shelf.Strconv.ParseInt10All
import Derived.Shelf.Strings.Search1
import Derived.Shelf.GgClosure.StringsIndexFunc
import Derived.Ground.GgwProg
import Derived.Shelf.GgClosure.StringsIndexFuncTop
import Derived.Shelf.GgClosure.StringsRunes
import Derived.Shelf.Strings.Prefix
import Derived.Shelf.Strings.Runes
import Derived.Shelf.Strings.AsciiSet
import Derived.Shelf.Bits.Mul64
import Derived.Shelf.Strings.Repeat
import Derived.Shelf.Unicode.DecodeSlow
import Derived.Shelf.Unicode.DecodeAny
import Derived.Shelf.Strings.FuncGrows
import Derived.Shelf.Strings.BuilderCap
import Derived.Lib.IndexMore
import Derived.ChangeMaps5
import Derived.Test.YtabfjecegpaoaaaGreatDoorCards
import Derived.Test.YtabfjecegpaoaaaGreatDoorTie
import Derived.ProofKit
import Derived.OpenShut
import Derived.LaidMore
import Derived.Deep.DeepHandedRow
import Derived.Deep.DeepWitnessRowRef
import Derived.Lib.LaidTab
import Derived.Lib.ItoaMem
import Derived.Stop.LaidErr
import Derived.Test.YtabfjecegpaoaaaGreatDoorYd2
import Derived.Test.YtabfjecegpaoaaaGreatDoorYc7
import Derived.Test.YtabfjecegpaoaaaGreatDoorYc6
import Derived.Test.YtabfjecegpaoaaaGreatDoorYb9
import Derived.Test.YtabfjecegpaoaaaGreatDoorYb3
import Derived.Test.YtabfjecegpaoaaaGreatDoorYb1
import Derived.Test.YtabfjecegpaoaaaGreatDoorYa6
import Derived.Test.YtabfjecegpaoaaaGreatDoorK8a0
import Derived.Test.YtabfjecegpaoaaaGreatDoorK8a2
import Derived.Test.YtabfjecegpaoaaaGreatDoorYb2
import Derived.Test.YtabfjecegpaoaaaGreatDoorYa1
import Derived.Test.YtabfjecegpaoaaaGreatDoorYb7
import Derived.Test.YtabfjecegpaoaaaGreatDoorYb6
import Derived.Test.YtabfjecegpaoaaaGreatDoorYb5
import Derived.Test.YtabfjecegpaoaaaGreatDoorYb4
import Derived.Test.YtabfjecegpaoaaaGreatDoorYb8
import Derived.Test.YtabfjecegpaoaaaGreatDoorYc1
import Derived.Test.YtabfjecegpaoaaaGreatDoorYc0
import Derived.Test.YtabfjecegpaoaaaGreatDoorYc5
import Derived.Test.YtabfjecegpaoaaaGreatDoorYc4
import Derived.Test.YtabfjecegpaoaaaGreatDoorYc3
import Derived.Test.YtabfjecegpaoaaaGreatDoorYc2
import Derived.Test.YtabfjecegpaoaaaGreatDoorYa9
import Derived.Test.YtabfjecegpaoaaaGreatDoorYa8
import Derived.Test.YtabfjecegpaoaaaGreatDoorYa3
import Derived.Test.YtabfjecegpaoaaaGreatDoorYa0
import Derived.Test.YtabfjecegpaoaaaGreatDoorYa2
import Derived.Test.YtabfjecegpaoaaaGreatDoorYc8
import Derived.Test.YtabfjecegpaoaaaGreatDoorK8a3
import Derived.Test.YtabfjecegpaoaaaGreatDoorK8a4
import Derived.Test.YtabfjecegpaoaaaGreatDoorYd3
import Derived.Test.YtabfjecegpaoaaaGreatDoorYc9
import Derived.Test.YtabfjecegpaoaaaGreatDoorYb0
import Derived.Test.YtabfjecegpaoaaaGreatDoorK8a1
import Derived.Test.YtabfjecegpaoaaaGreatDoorYd1
import Derived.Test.YtabfjecegpaoaaaGreatDoorYd0
import Derived.Test.YtabfjecegpaoaaaGreatDoorYd4
namespace Go.Proofs.YtabfjecegpaoaaaGreatDoor
open Go.RowKit Go.Shelf Go
open Dgt
set_option linter.unusedVariables false
theorem ofC_sz {c : Int} (h1 : -9223372036854775808 ≤ c) (h2 : c ≤ 9223372036854775807) : Rz (ofC c) 16 := quoR_sz (ofR_sz h1 h2) (ofR_sz (n := 100) (by decide) (by decide))
theorem cut_size (s : ByteArray) (k m : Nat) (hk : k ≤ m) : (s.extract 0 k).size ≤ m := by
 rw [ByteArray.size_extract]; omega
end Go.Proofs.YtabfjecegpaoaaaGreatDoor
namespace Go.Proofs.YtabfjecegpaoaaaGreatDoor.moneyTexts
open Go.RowKit Go.Shelf
open Dgt
set_option linter.unusedVariables false
set_option maxHeartbeats 8000000 in
set_option maxRecDepth 100000 in
theorem walk (raw : ByteArray) (zraw : (raw.size : Int) ≤ 9223372036854775807) (wq : World) (htab : Lib.TabIs Tryz.prog wq "internal/strconv.uint64pow10" .u64 Lib.pow10Tab) :
  Calls Tryz.prog 8 #[.string raw] wq fun e w' => e = .returned (.bool true) ∧ Below wq.heap.size wq w' := by
 have HT := Lib.hid (Lib.tabBelow_of_tabIs htab); clear htab;have C1 : Hid (∀ w, Below wq.heap.size wq w → Calls Tryz.prog 11 #[] w fun e w' => e = .returned (.bool true) ∧ Below w.heap.size w w') := Lib.hid fun w hp0 => by
  exact sanity_any w (HT.out.on hp0).here
 obtain ⟨k0, hk0⟩ : ∃ k : Nat, min (raw.size : Int) 60 = (k : Int) := ⟨(min (raw.size : Int) 60).toNat, by omega⟩;obtain ⟨ca, hca⟩ : ∃ c, raw.extract 0 k0 = c := ⟨_, rfl⟩;have zca : ca.size ≤ 60 := by rw [← hca]; exact cut_size _ _ _ (by omega)
 have lk0 : (0 : Int) ≤ ((k0 : Nat) : Int) ∧ ((k0 : Nat) : Int) ≤ (raw.size : Int) := by omega
 have PK := Lib.hid (And.intro hk0 (And.intro hca lk0)); have HZ := Lib.hid zca;have c1 := fun w => MoParse_any ca (by omega) w; have c2 := fun w => rParse4_any ca (by omega) w
 have hps : ∀ a, parseM ca.data.toList = some a → a.Ok ∧ centsOk a = true ∧ textM a = ca.data.toList := fun a h => parse_some h
 obtain ⟨pm, hpm⟩ : ∃ p, parseM ca.data.toList = p := ⟨_, rfl⟩; rw [hpm] at c1 c2 hps;have HC1 := Lib.hid c1; have HC2 := Lib.hid c2; have HPS := Lib.hid hps;clear c1 c2 hps hpm hk0 hca zca lk0 zraw;have HB := Lib.hid (Below.refl wq.heap.size wq);obtain ⟨n0, hn0⟩ : ∃ n, n = wq.heap.size := ⟨_, rfl⟩; rw [← hn0]; have HN0 := Lib.hid hn0; clear hn0;go_enter Tryz.func8, Tryz.ntmps8;go_wp2_with fail;refine (C1.out _ HB.out).mono ?_;rintro e w1 ⟨rfl, hb⟩;have HB := mH HB hb;clear hb;cases pm with
 | none =>
  have C2 : Hid (∀ w, Below wq.heap.size wq w → Calls Tryz.prog 31 #[.string ca] w fun e w' => e = .returned (.tuple #[.agg #[.bool false, .string ⟨#[]⟩, .string ⟨#[]⟩], .bool false]) ∧ Below w.heap.size w w') := Lib.hid fun w hp0 => by
   exact HC1.out w (HT.out.on hp0).here
  have C3 : Hid (∀ w, Calls Tryz.prog 33 #[.string ca] w fun e w' => e = .returned (.tuple #[.agg #[.bool false, .string ⟨#[]⟩, .string ⟨#[]⟩], .bool false]) ∧ Below w.heap.size w w') := Lib.hid fun w => by
   exact HC2.out w
  obtain ⟨hk0, hca, lk0⟩ := PK.out;go_wp2_with fail;clear hk0 hca lk0;refine (C2.out _ HB.out).mono ?_;rintro e w2 ⟨rfl, hb⟩;have HB := mH HB hb;clear hb;obtain ⟨W3, bk4, hW3, hbk4, HX4_1, HB, HG4_1, hup⟩ := boxn HB HN0 (.cells #[.bool false, .string ⟨#[]⟩, .string ⟨#[]⟩] 26);clear hup;obtain ⟨W4, hW4, HX4_1, HB, ho, f2a, f2b, f2c, k2a, k2b, k2c⟩ := put3 HX4_1 HB HN0 HG4_1 (.bool false) (.string ⟨#[]⟩) (.string ⟨#[]⟩);clear ho;go_wp2_with fail;clear hW3 hbk4 f2a f2b f2c k2a k2b k2c hW4;refine (C3.out _).mono ?_;rintro e w5 ⟨rfl, hb⟩;have HX4_1 := uH hb HX4_1;have HB := mH HB hb;clear hb;obtain ⟨W6, bk6, hW6, hbk6, HX6_3, HB, HG6_3, hup⟩ := boxn HB HN0 (.cells #[.bool false, .string ⟨#[]⟩, .string ⟨#[]⟩] 26);have HL6_3 := (hup _ _ HX4_1).2;have HX4_1 := (hup _ _ HX4_1).1;clear hup
  obtain ⟨W7, hW7, HX6_3, HB, ho, f4a, f4b, f4c, k4a, k4b, k4c⟩ := put3 HX6_3 HB HN0 HG6_3 (.bool false) (.string ⟨#[]⟩) (.string ⟨#[]⟩);have HX4_1 := ho _ _ (by have h0 := HL6_3.out; omega) HX4_1;clear ho;obtain ⟨k5a, k5b, k5c⟩ := c3 HX4_1;obtain ⟨k6a, k6b, k6c⟩ := c3 HX6_3;obtain ⟨k7a, k7b, k7c⟩ := c3 HX4_1;go_wp2_with fail;clear hW6 hbk6 f4a f4b f4c k4a k4b k4c hW7 k5a k5b k5c k6a k6b k6c k7a k7b k7c;go_ret;exact ⟨rfl, by rw [HN0.out]; exact HB.out⟩
 | some a =>
  obtain ⟨o1, hk, ht⟩ := HPS.out a rfl;have hT : (⟨(textM a).toArray⟩ : ByteArray) = ca := by rw [ht]
  have z1 : Rz a 16 := by obtain ⟨e1, e2, e3⟩ := cents_back o1 hk; rw [e1]; exact ofC_sz e2 e3
  have c3 := fun w => MoText_r o1 (z1.mono (by decide)) w; unfold textV at c3; rw [if_pos hk, hT] at c3
  have C2 : Hid (∀ w, Below wq.heap.size wq w → Calls Tryz.prog 30 #[.agg #[.bool a.neg, .string (encS a.num), .string (encS a.den)]] w fun e w' => e = .returned (.tuple #[.string ca, .bool true]) ∧ Below w.heap.size w w') := Lib.hid fun w hp0 => by
   exact c3 w (HT.out.on hp0).here
  clear c3 z1 hT ht hk o1;have C3 : Hid (∀ w, Below wq.heap.size wq w → Calls Tryz.prog 31 #[.string ca] w fun e w' => e = .returned (.tuple #[.agg #[.bool a.neg, .string (encS a.num), .string (encS a.den)], .bool true]) ∧ Below w.heap.size w w') := Lib.hid fun w hp0 => by
   exact HC1.out w (HT.out.on hp0).here
  have C4 : Hid (∀ w, Calls Tryz.prog 33 #[.string ca] w fun e w' => e = .returned (.tuple #[.agg #[.bool a.neg, .string (encS a.num), .string (encS a.den)], .bool true]) ∧ Below w.heap.size w w') := Lib.hid fun w => by
   exact HC2.out w
  obtain ⟨hk0, hca, lk0⟩ := PK.out;go_wp2_with fail;clear hk0 hca lk0;refine (C3.out _ HB.out).mono ?_;rintro e w8 ⟨rfl, hb⟩;have HB := mH HB hb;clear hb;obtain ⟨W9, bk4, hW9, hbk4, HX4_8, HB, HG4_8, hup⟩ := boxn HB HN0 (.cells #[.bool false, .string ⟨#[]⟩, .string ⟨#[]⟩] 26);clear hup;obtain ⟨W10, hW10, HX4_8, HB, ho, f9a, f9b, f9c, k9a, k9b, k9c⟩ := put3 HX4_8 HB HN0 HG4_8 (.bool a.neg) (.string (encS a.num)) (.string (encS a.den));clear ho;go_wp2_with fail;clear hW9 hbk4 f9a f9b f9c k9a k9b k9c hW10;refine (C4.out _).mono ?_;rintro e w11 ⟨rfl, hb⟩;have HX4_8 := uH hb HX4_8;have HB := mH HB hb;clear hb;obtain ⟨W12, bk6, hW12, hbk6, HX6_10, HB, HG6_10, hup⟩ := boxn HB HN0 (.cells #[.bool false, .string ⟨#[]⟩, .string ⟨#[]⟩] 26);have HL6_10 := (hup _ _ HX4_8).2;have HX4_8 := (hup _ _ HX4_8).1;clear hup
  obtain ⟨W13, hW13, HX6_10, HB, ho, f11a, f11b, f11c, k11a, k11b, k11c⟩ := put3 HX6_10 HB HN0 HG6_10 (.bool a.neg) (.string (encS a.num)) (.string (encS a.den));have HX4_8 := ho _ _ (by have h0 := HL6_10.out; omega) HX4_8;clear ho;obtain ⟨k12a, k12b, k12c⟩ := c3 HX4_8;obtain ⟨k13a, k13b, k13c⟩ := c3 HX6_10;obtain ⟨k14a, k14b, k14c⟩ := c3 HX4_8;go_wp2_with fail;clear hW12 hbk6 f11a f11b f11c k11a k11b k11c hW13 k12a k12b k12c k13a k13b k13c k14a k14b k14c;refine (C2.out _ HB.out).mono ?_;rintro e w14 ⟨rfl, hb⟩;have HX4_8 := uH hb HX4_8;have HX6_10 := uH hb HX6_10;have HB := mH HB hb;clear hb;go_wp2_with fail;go_ret;exact ⟨rfl, by rw [HN0.out]; exact HB.out⟩
end Go.Proofs.YtabfjecegpaoaaaGreatDoor.moneyTexts
namespace Go.Proofs.YtabfjecegpaoaaaGreatDoor.moneyTexts
open Go.ChangeShapes Go.WideShapes Go.ChangeAt Go.RowKit Go Go.ChangeMaps
set_option linter.unusedVariables false
set_option maxRecDepth 100000 in
theorem contract (H : Type) (enc : TypeId × Value → H) (W : World) (base : Nat) (args : Array Value) (ds gs : List (DataW H)) (before : List MemPlace)
  (hval : ∀ (j : Nat) t v, Tryz.f8.params[j]? = some t → args[j]? = some v → Value.okWide Tryz.prog W .any base t v)
  (hW : DataW.Whole enc Tryz.prog Tryz.f8.params.toList Rows.moneyTextsSpec.vars false W args.toList ds gs before) (hL : laidMetH Tryz.prog Rows.moneyTextsRow.laid W) (hsh : W.ShapedOpen Tryz.prog) :
  Calls Tryz.prog 8 args W fun e W' => ∃ v, e = .returned v ∧ Rows.moneyTextsSpec.post enc Tryz.prog Tryz.f8 false true false false W args v W' := by
 have hW' := hW;obtain ⟨p, q, hA0, hV, rfl, hfz, hnd⟩ := hW;have hA : DataW.TrodAll enc Tryz.prog W 0 (fun _ => true) true Tryz.f8.params.toList args.toList ds p := hA0;rw [Tryz.params8] at hA hval;obtain ⟨v0, vs0, d0, ds0, p0, q0, hargs, rfl, rfl, h0, r0⟩ := trodAll_cons hA;obtain ⟨rfl, rfl, rfl⟩ := trodAll_nil r0;obtain rfl : args = #[v0] := by cases args; simp_all
 obtain ⟨rfl, rfl⟩ := trodVars_none hV;obtain ⟨s0, rfl, rfl, rfl, w0⟩ := open_string Tryz.underlying9 (hval 0 9 v0 rfl rfl) h0;clear hA0;simp only [List.append_nil] at hW';refine (walk s0 (by have := w0; unfold maxLen at this; omega) W (table hL)).mono fun e W' ⟨he, hb⟩ => ?_
 subst he;exact ⟨_, rfl, post_of_below (pa := []) (pv := []) hW' (fun _ _ _ => (trodAll_cons_mk (shut_bool Tryz.underlying4 _) trodAll_mk0)) (fun sp hsp => (trodAll_cons_mk (shut_string Tryz.underlying9 w0) trodAll_mk0)) (fun _ _ => rfl) (by simp)
  hb (ok_one (by kernel_rfl) rfl (okWide_bool_mk Tryz.underlying4 _))⟩
theorem reads (os : Os) {H : Type} (enc : TypeId × Value → H) : ∃ places, DataW.whole enc Tryz.prog ((laidWorld os).forCall (fun _ _ => 0) ⟨#[], #[.string ⟨#[]⟩], []⟩).memory Tryz.f8.params.toList Rows.moneyTextsSpec.vars false (#[Value.string ⟨#[]⟩] : Array Value).toList 8 = some ([.lit (.string [])], [], places) :=
 ⟨[], by kernel_rfl⟩
set_option maxRecDepth 100000 in
theorem lifted (os : Os) (started : os.Started) (H : Type) (enc : TypeId × Value → H) (F : Stop.Interp) :
  ReturnsInHanded {} Tryz.checked os 8 .any ((OpenSpec.ofChange Rows.moneyTextsSpec).preRow enc Tryz.prog Tryz.f8 Rows.moneyTextsRow.domain false Rows.moneyTextsRow.laid) (((OpenSpec.ofChange Rows.moneyTextsSpec).at F).post enc Tryz.prog Tryz.f8 false true false false) := by
 obtain ⟨places, hx⟩ := reads os enc;refine returnsInHanded_of_row (C := Tryz.checked) (s := OpenSpec.ofChange Rows.moneyTextsSpec) own started (by kernel_rfl) Tryz.func8
  (witness_row_atRef (enc := enc) (C := Tryz.checked) false (laidWorld os) #[.string ⟨#[]⟩] rfl (by kernel_rfl) (by kernel_rfl) (by kernel_rfl)
   (OpenSpec.preRow_of_cond 8 hx (by kernel_rfl) (fun k hk => by cases hk) (by kernel_rfl) (laid_met os _))) ?_
 intro W base args ds gs before hval hW _ _ _ hL hsh _;exact contract H enc W base args ds gs before hval hW hL hsh
theorem said : Rows.MoneyTextsSaid :=
 OpenClaim.holds_of_cond 8 Tryz.f8 rfl rfl rfl rfl rfl rfl rfl ⟨rfl, rfl, rfl, rfl, rfl⟩ rfl rfl rfl rfl rfl (by kernel_rfl) Tryz.func8 (by kernel_rfl)
  (of_decide_eq_true (by kernel_rfl)) (by unfold Func.isWrapper; first | (rw [if_pos (by decide +kernel)]; kernel_rfl) | (rw [if_neg (by decide +kernel)]; exact ⟨rfl, rfl⟩))
  (fun os started H enc _ F => by rw [OpenClaim.pre_eq_preRow]; exact lifted os started H enc F)
theorem plain (f : FuncId) (fn : Func) (hf : Tryz.pinned.checked.prog.funcNamed "tithing/tithinglaw04.MoneyTexts" = some f) (hfn : Tryz.pinned.checked.prog.funcs[f]? = some fn) :
  true = Tryz.pinned.checked.prog.looks [] ∧ ∀ (j : Nat) t, fn.params[j]? = some t → Tryz.pinned.checked.prog.wantsStandIn t = false := by
 obtain rfl : f = 8 := Option.some.inj ((show Tryz.prog.funcNamed "tithing/tithinglaw04.MoneyTexts" = some 8 by kernel_rfl).symm.trans hf) |>.symm
 obtain rfl : fn = Tryz.f8 := (Option.some.inj (Tryz.func8.symm.trans hfn)).symm;refine ⟨by kernel_rfl, fun j t ht => ?_⟩;rw [Tryz.params8] at ht;have hm : t ∈ [9] := by simpa using Array.mem_of_getElem? ht
 have hall : ([9].all fun u => !Tryz.prog.wantsStandIn u) = true := by kernel_rfl
 exact (show Tryz.prog.wantsStandIn t = false by simpa using List.all_eq_true.1 hall t hm)
theorem proved : Rows.MoneyTextsCardSaid :=
 Claim7.holds_tied_plain_at .later [] _ _ _ _ said (fun _ h => by cases h) (by kernel_rfl) (fun _ h => by cases h) moneyTexts_row_tie rfl ⟨rfl, rfl⟩ (by kernel_rfl) rfl plain (by kernel_rfl)
#print axioms proved
end Go.Proofs.YtabfjecegpaoaaaGreatDoor.moneyTexts
