/- MoneyCents: for every input the law returns true, and each argument reads afterwards as it read before; the listed tables read as the program lays them (the tied card). -/
import Derived.RangeFuncNested
import Derived.RangeFuncCalls
import Derived.RangeFuncLeaves
import Derived.Shelf.Abstract
import Derived.Below
import Derived.Lib.LaidIn
import Derived.RegionTactic
import Derived.KernelRfl
import Derived.Lib.Hide
import Derived.OrdersIn
import Derived.Laws.AppendOwnNone
import Derived.Test.YtabfjecegpaoaaaGreatDoorProg
import Derived.WalkKit
import Derived.WalkSpells
import Derived.WalkLawsBesides
import Derived.IntWalk
import Derived.Laws.BitsAllLaws
import Derived.StillTailTactics
import Derived.Deep.OwnRows
import Derived.Lib.ConvBytes
import Derived.BigQuiet
import Derived.Deep.QuietTactic
import Derived.Shelf.Strings.Builder1
import Derived.Shelf.Strings.Builder2
import Derived.Shelf.Strings.Trim
import Derived.Shelf.Small.Utf8
import Derived.Shelf.Small.Bits
import Derived.Shelf.Small.Strs
import Derived.Shelf.Strings.BuilderF
import Derived.Shelf.Strings.BuilderK
import Derived.Shelf.Strings.Builder2Cap
import Derived.Shelf.Strconv.Atoi
import Derived.Shelf.Strconv.Itoa0
import Derived.Shelf.Strconv.Itoa1
import Derived.Shelf.LaysM
import Derived.Shelf.Strconv.Itoa2
import Derived.Shelf.Strconv.Itoa3
import Derived.Shelf.Strconv.AtoiErrFast
import Derived.Shelf.Strconv.ParseIntEmpty
import Derived.Shelf.Strconv.AtoiFail
import Derived.Shelf.Strconv.Clone
import Derived.Shelf.Strconv.SyntaxError
import Derived.Shelf.LaysC
import Derived.Shelf.Strconv.ToError
import Derived.Shelf.Strconv.Lower
import Derived.Shelf.Strconv.ParseUint10
import Derived.Shelf.Strconv.ParseUint10Empty
import Derived.Shelf.Strconv.ParseUint10Any
import Derived.Shelf.Strconv.ParseInt10
import Derived.Shelf.Strconv.AtoiLong
import Derived.Shelf.Strconv.AtoiInnerAll
import Derived.Shelf.Strconv.RangeError
import Derived.Shelf.Strconv.ToErrorRange
import Derived.Shelf.Strconv.AtoiAll
import Derived.Shelf.Strconv.ErrVarAll
import Derived.Shelf.Strconv.ParseUintEmpty
import Derived.Shelf.Strconv.ParseUint10b64
import Derived.Shelf.Strconv.ParseUint10b32
import Derived.Shelf.Strconv.ParseUint10b16
import Derived.Shelf.Strconv.ParseUint10b8
import Derived.Shelf.Strconv.ParseUint10At
import Derived.Shelf.Strconv.ParseInt10At64
import Derived.Shelf.Strconv.ParseInt10At32
import Derived.Shelf.Strconv.ParseInt10At16
import Derived.Shelf.Strconv.ParseInt10At8
import Derived.Shelf.Strconv.ParseInt10All
import Derived.Shelf.Strings.Search1
import Derived.Shelf.GgClosure.StringsIndexFunc
import Derived.Ground.GgwProg
import Derived.Shelf.GgClosure.StringsIndexFuncTop
import Derived.Shelf.GgClosure.StringsRunes
import Derived.Shelf.Strings.Prefix
import Derived.Shelf.Strings.Runes
import Derived.Shelf.Strings.AsciiSet
import Derived.Shelf.Bits.Mul64
import Derived.Shelf.Strings.Repeat
import Derived.Shelf.Unicode.DecodeSlow
import Derived.Shelf.Unicode.DecodeAny
import Derived.Shelf.Strings.FuncGrows
import Derived.Shelf.Strings.BuilderCap
import Derived.Test.YtabfjecegpaoaaaGreatDoorYb8
import Derived.Test.YtabfjecegpaoaaaGreatDoorYb7
import Derived.Test.YtabfjecegpaoaaaGreatDoorYb6
import Derived.Test.YtabfjecegpaoaaaGreatDoorYb5
import Derived.Test.YtabfjecegpaoaaaGreatDoorYb4
import Derived.Test.YtabfjecegpaoaaaGreatDoorYb3
import Derived.Test.YtabfjecegpaoaaaGreatDoorYb2
import Derived.Test.YtabfjecegpaoaaaGreatDoorYb1
import Derived.Test.YtabfjecegpaoaaaGreatDoorYa6
import Derived.Test.YtabfjecegpaoaaaGreatDoorK7a0
import Derived.Test.YtabfjecegpaoaaaGreatDoorYa1
import Derived.Test.YtabfjecegpaoaaaGreatDoorYa9
import Derived.Test.YtabfjecegpaoaaaGreatDoorYa8
import Derived.Test.YtabfjecegpaoaaaGreatDoorYa3
import Derived.Test.YtabfjecegpaoaaaGreatDoorYa0
import Derived.Test.YtabfjecegpaoaaaGreatDoorYa2
namespace Go.Proofs.YtabfjecegpaoaaaGreatDoor
open Go.RowKit Go.Shelf
open Dgt
set_option linter.unusedVariables false
def EWC (ba bb : Nat) (ra rb L : Rt) (X Y D : Nat) (xn : Bool) : Nat → Value
 | 0 => .pointer (some ⟨ba, 0, none⟩)
 | 1 => .bool xn
 | 2 => .string (encS X)
 | 3 => .string (encS Y)
 | 4 => .string (encS (X + Y))
 | 5 => .string (encS D)
 | 6 => .agg #[.bool L.neg, .string (encS L.num), .string (encS L.den)]
 | _ => undef
def SWC (ba bb : Nat) (ra rb L : Rt) (X Y D : Nat) (xn : Bool) (ix : Nat) (v : Value) (w : World) : Prop :=
 match ix with
 | ix => v = EWC ba bb ra rb L X Y D xn ix
theorem SWC_up (ba bb : Nat) (ra rb L : Rt) (X Y D : Nat) (xn : Bool) (ix : Nat) (v : Value) (w w' : World) (hb : Below w.heap.size w w') (h : SWC ba bb ra rb L X Y D xn ix v w) : SWC ba bb ra rb L X Y D xn ix v w' := by
 exact h
set_option maxHeartbeats 1000000 in
set_option maxRecDepth 100000 in
theorem rRatAdd_r {va vb : Value} {ra rb : Rt} {k : Nat} (ha : IsR va ra k) (hb : IsR vb rb k) (hk1 : 1 ≤ k) (hk : k ≤ 400000) (wq : World) :
  Calls Tryz.prog 32 #[va, vb] wq fun e w' => e = .returned (rtV (addR ra rb)) ∧ Below wq.heap.size wq w' := by
 have HVA := Lib.hid (fun w => rvalue_r ha (by omega) w); have HVB := Lib.hid (fun w => rvalue_r hb (by omega) w);have za := ha.rz hk1; have zb := hb.rz hk1; have oka := ha.ok; have okb := hb.ok;have HX := Lib.hid (fun w => rMul_any (encS ra.num) (encS rb.den) w (Nat.le_trans (encS_size_lt za.1) (by omega)) (Nat.le_trans (encS_size_lt zb.2) (by omega)));simp only [numS_encS] at HX;have HY := Lib.hid (fun w => rMul_any (encS rb.num) (encS ra.den) w (Nat.le_trans (encS_size_lt zb.1) (by omega)) (Nat.le_trans (encS_size_lt za.2) (by omega)));simp only [numS_encS] at HY;have HD := Lib.hid (fun w => rMul_any (encS ra.den) (encS rb.den) w (Nat.le_trans (encS_size_lt za.2) (by omega)) (Nat.le_trans (encS_size_lt zb.2) (by omega)));simp only [numS_encS] at HD
 have zx := (za.1.mul zb.2).mono (j := 2 * k) (by omega); have zy := (zb.1.mul za.2).mono (j := 2 * k) (by omega); have zd := (za.2.mul zb.2).mono (j := 2 * k) (by omega);have hdp := Nat.mul_pos oka.pos okb.pos;have HE1 : Hid (ra.neg = rb.neg → addR ra rb = low ra.neg (ra.num * rb.den + rb.num * ra.den) (ra.den * rb.den)) := Lib.hid fun h => by unfold addR; rw [if_pos h]
 have HE2 : Hid (¬ ra.neg = rb.neg → rb.num * ra.den ≤ ra.num * rb.den → addR ra rb = low ra.neg (ra.num * rb.den - rb.num * ra.den) (ra.den * rb.den)) := Lib.hid fun h h2 => by unfold addR; rw [if_neg h, if_pos h2]
 have HE3 : Hid (¬ ra.neg = rb.neg → ¬ rb.num * ra.den ≤ ra.num * rb.den → addR ra rb = low rb.neg (rb.num * ra.den - ra.num * rb.den) (ra.den * rb.den)) := Lib.hid fun h h2 => by unfold addR; rw [if_neg h, if_neg h2]
 obtain ⟨Z, hZ⟩ : ∃ Z, addR ra rb = Z := ⟨_, rfl⟩;obtain ⟨X, hX⟩ : ∃ X, ra.num * rb.den = X := ⟨_, rfl⟩;obtain ⟨Y, hY⟩ : ∃ Y, rb.num * ra.den = Y := ⟨_, rfl⟩;obtain ⟨D, hD⟩ : ∃ D, ra.den * rb.den = D := ⟨_, rfl⟩;obtain ⟨xn, hxn⟩ : ∃ b, ra.neg = b := ⟨_, rfl⟩;obtain ⟨yn, hyn⟩ : ∃ b, rb.neg = b := ⟨_, rfl⟩;rw [hX] at HX zx; rw [hY] at HY zy; rw [hD] at HD zd hdp;simp only [hX, hY, hD, hZ, hxn, hyn] at HE1 HE2 HE3;rw [hxn] at HVA; rw [hyn] at HVB;rw [hZ];have sx := Nat.le_trans (encS_size_lt zx) (show 2 * k ≤ 1000000 by omega); have sy := Nat.le_trans (encS_size_lt zy) (show 2 * k ≤ 1000000 by omega);have HS := Lib.hid (fun w => rAdd_any (encS X) (encS Y) w sx sy);have HU := Lib.hid (fun w => rSub_any (encS X) (encS Y) w sx sy);have HU2 := Lib.hid (fun w => rSub_any (encS Y) (encS X) w sy sx)
 have HC := Lib.hid (fun w => rCmp_any (encS X) (encS Y) w (Nat.le_trans sx (by decide)) (Nat.le_trans sy (by decide)));simp only [numS_encS] at HS HU HU2 HC;have HLQ := Lib.hid (fun (b : Bool) (N : Nat) (hN : Sz N (2 * k + 1)) w => rlowest_n b N D w hdp (hN.mono (by omega)) (zd.mono (by omega)));have ZX : Hid (Sz (X + Y) (2 * k + 1) ∧ Sz (X - Y) (2 * k + 1) ∧ Sz (Y - X) (2 * k + 1)) := Lib.hid ⟨zx.add zy, (zx.sub _).mono (by omega), (zy.sub _).mono (by omega)⟩;clear zx zy zd hdp hX hY hD hZ hxn hyn sx sy;obtain ⟨na, sa, da, rfl, -⟩ := ha;obtain ⟨nb, sb, db, rfl, -⟩ := hb;clear za zb hk1 hk oka okb;obtain ⟨W3, hW3, hxa, hxb, hxz, hb3⟩ := boxes3 wq (.cells #[.bool na, .string sa, .string da] 26) (.cells #[.bool nb, .string sb, .string db] 26) (.cells #[.bool false, .string ⟨#[]⟩, .string ⟨#[]⟩] 26);obtain ⟨⟨ca0, ca1, ca2⟩, -⟩ := row_cells hxa;go_enter Tryz.func32, Tryz.ntmps32
 go_wp2_with fail;obtain ⟨ba, hba⟩ : ∃ b, wq.heap.size = b := ⟨_, rfl⟩;obtain ⟨bb, hbb⟩ : ∃ b, ba + 1 = b := ⟨_, rfl⟩;obtain ⟨bz, hbz⟩ : ∃ b, bb + 1 = b := ⟨_, rfl⟩;rw [hba] at hxa hxb hxz ⊢;rw [hbb] at hxb hxz ⊢;rw [hbz] at hxz ⊢;have HNE : Hid (ba ≠ bb) := Lib.hid (by omega); have HNZA : Hid (bz ≠ ba) := Lib.hid (by omega); have HNZB : Hid (bz ≠ bb) := Lib.hid (by omega);refine (HVA.out _).mono ?_;rintro e w1 ⟨rfl, hb⟩;have hxa1 := heap_up hb hxa; have hxb1 := heap_up hb hxb; have hxz1 := heap_up hb hxz;have hbl1 := hb3.trans (hb.mono hb3.size);clear hb hb3 hxa hxb hxz ca0 ca1 ca2 hW3;obtain ⟨⟨ca0, ca1, ca2⟩, hfa⟩ := row_cells hxa1;have fa0 := hfa 0; have fa1 := hfa 1; have fa2 := hfa 2;obtain ⟨W4, hW4⟩ : ∃ W4, ((w1.setCell ⟨ba, 0, none⟩ (.bool xn)).setCell ⟨ba, 1, none⟩ (.string (encS ra.num))).setCell ⟨ba, 2, none⟩ (.string (encS ra.den)) = W4 := ⟨_, rfl⟩
 have hxa4 : W4.heap[ba]? = some (.cells #[.bool xn, .string (encS ra.num), .string (encS ra.den)] 26 (0, 0)) := by rw [← hW4]; exact row_set hxa1 _ _ _
 have hxb4 : W4.heap[bb]? = some (.cells #[.bool nb, .string sb, .string db] 26 (0, 0)) := by rw [← hW4]; simpa [World.setCell, Array.getElem?_modify, HNE.out] using hxb1
 have hxz4 : W4.heap[bz]? = some (.cells #[.bool false, .string ⟨#[]⟩, .string ⟨#[]⟩] 26 (0, 0)) := by rw [← hW4]; simpa [World.setCell, Array.getElem?_modify, Ne.symm HNZA.out] using hxz1
 have hbl4 : Below wq.heap.size wq W4 := by rw [← hW4]; exact below_row hbl1 (by omega) _ _ _
 obtain ⟨⟨cb0, cb1, cb2⟩, -⟩ := row_cells hxb4;have HXA := Lib.hid hxa4; have HXB := Lib.hid hxb4; have HXZ := Lib.hid hxz4; have HB4 := Lib.hid hbl4;clear hfa hxa1 hxb1 hxz1 hbl1 hxa4 hxb4 hxz4 hbl4;go_wp2_with fail;refine (HVB.out _).mono ?_;rintro e w2 ⟨rfl, hb⟩;have hxa1 := heap_up hb HXA.out; have hxb1 := heap_up hb HXB.out; have hxz1 := heap_up hb HXZ.out;have hbl1 := HB4.out.trans (hb.mono HB4.out.size);clear hb cb0 cb1 cb2 ca0 ca1 ca2 fa0 fa1 fa2 hW4;obtain ⟨⟨cb0, cb1, cb2⟩, hfb⟩ := row_cells hxb1;have fb0 := hfb 0; have fb1 := hfb 1; have fb2 := hfb 2;obtain ⟨W5, hW5⟩ : ∃ W5, ((w2.setCell ⟨bb, 0, none⟩ (.bool yn)).setCell ⟨bb, 1, none⟩ (.string (encS rb.num))).setCell ⟨bb, 2, none⟩ (.string (encS rb.den)) = W5 := ⟨_, rfl⟩;have hxb5 : W5.heap[bb]? = some (.cells #[.bool yn, .string (encS rb.num), .string (encS rb.den)] 26 (0, 0)) := by rw [← hW5]; exact row_set hxb1 _ _ _
 have hxa5 : W5.heap[ba]? = some (.cells #[.bool xn, .string (encS ra.num), .string (encS ra.den)] 26 (0, 0)) := by rw [← hW5]; simpa [World.setCell, Array.getElem?_modify, Ne.symm HNE.out] using hxa1
 have hxz5 : W5.heap[bz]? = some (.cells #[.bool false, .string ⟨#[]⟩, .string ⟨#[]⟩] 26 (0, 0)) := by rw [← hW5]; simpa [World.setCell, Array.getElem?_modify, Ne.symm HNZB.out] using hxz1
 have HB5 : Hid (Below wq.heap.size wq W5) := Lib.hid (by rw [← hW5]; exact below_row hbl1 (by omega) _ _ _);have HXA := Lib.hid hxa5; have HXB := Lib.hid hxb5; have HXZ := Lib.hid hxz5;clear hfb hxa1 hxb1 hxz1 hbl1 hxa5 hxz5;clear hxb5;obtain ⟨⟨ca0, ca1, ca2⟩, -⟩ := row_cells HXA.out;obtain ⟨⟨cd0, cd1, cd2⟩, -⟩ := row_cells HXB.out;go_wp2_with fail;refine (HX.out _).mono ?_;rintro e w3 ⟨rfl, hb⟩;have HXA := uH hb HXA; have HXB := uH hb HXB; have HXZ := uH hb HXZ;have HB5 := Lib.hid (HB5.out.trans (hb.mono HB5.out.size));clear hb ca0 ca1 ca2 cd0 cd1 cd2 cb0 cb1 cb2 fb0 fb1 fb2 hW5;obtain ⟨⟨ca0, ca1, ca2⟩, -⟩ := row_cells HXA.out;obtain ⟨⟨cd0, cd1, cd2⟩, -⟩ := row_cells HXB.out;go_wp2_with fail;refine (HY.out _).mono ?_;rintro e w4 ⟨rfl, hb⟩;have HXA := uH hb HXA; have HXB := uH hb HXB; have HXZ := uH hb HXZ;have HB5 := Lib.hid (HB5.out.trans (hb.mono HB5.out.size))
 clear hb ca0 ca1 ca2 cd0 cd1 cd2;obtain ⟨⟨ca0, ca1, ca2⟩, -⟩ := row_cells HXA.out;obtain ⟨⟨cd0, cd1, cd2⟩, -⟩ := row_cells HXB.out;go_wp2_with fail;refine (HD.out _).mono ?_;rintro e w6 ⟨rfl, hb⟩;have HXA := uH hb HXA; have HXB := uH hb HXB; have HXZ := uH hb HXZ;have HB5 := Lib.hid (HB5.out.trans (hb.mono HB5.out.size));clear hb ca0 ca1 ca2 cd0 cd1 cd2;obtain ⟨⟨ca0, ca1, ca2⟩, -⟩ := row_cells HXA.out;obtain ⟨⟨cd0, cd1, cd2⟩, -⟩ := row_cells HXB.out
 by_cases hxy : xn = yn
 ·have hq := HE1.out hxy;obtain ⟨L, hL⟩ : ∃ L, low xn (X + Y) D = L := ⟨_, rfl⟩;have HL1 := Lib.hid (HLQ.out xn (X + Y) ZX.out.1);rw [hL] at hq HL1;obtain rfl : L = Z := hq.symm;clear hL hq;have HXY := Lib.hid hxy;have hxy2 : (xn == yn) = true := by rw [hxy]; simp
  clear hxy HE1 HE2 HE3;go_wp2_with fail;clear ca0 ca1 ca2 cd0 cd1 cd2;refine wp_region_tail (w := w6) (by kernel_rfl) (SWC ba bb ra rb L X Y D xn) 7 (fun t => (decide (36 ≤ t) && decide (t < 43))) (by decide) (by kernel_rfl) (by kernel_rfl) (by kernel_rfl) (by kernel_rfl) (by kernel_rfl) (SWC_up ba bb ra rb L X Y D xn) ?_ ?_
  ·intro i hi o listed a w hR K hK;have ho := hR.at_;have hi : i < 7 := hi;have hii : i = 0 ∨ i = 1 ∨ i = 2 ∨ i = 3 ∨ i = 4 ∨ i = 5 ∨ i = 6 := by omega
   rcases hii with rfl | rfl | rfl | rfl | rfl | rfl | rfl
   ·simp at ho;subst ho;have b2 : a.tmps.getD 2 undef = .pointer (some ⟨ba, 0, none⟩) := hR.base 2 (by kernel_rfl);refine plain_step rfl rfl ?_;go_simp;exact hK _ _ rfl rB
   ·simp at ho;subst ho;have e0 : a.tmps.getD 36 undef = .pointer (some ⟨ba, 0, none⟩) := hR.dep ⟨0, .data⟩ (by simp) rfl (by decide);obtain ⟨⟨cx0, cx1, cx2⟩, -⟩ := row_cells (heap_up hR.below HXA.out);refine plain_step rfl rfl ?_;go_simp;exact hK _ _ rfl rB
   ·simp at ho;subst ho;have b5 : a.tmps.getD 5 undef = .string (encS X) := hR.base 5 (by kernel_rfl);refine plain_step rfl rfl ?_;go_simp;exact hK _ _ rfl rB
   ·simp at ho;subst ho;have b6 : a.tmps.getD 6 undef = .string (encS Y) := hR.base 6 (by kernel_rfl);refine plain_step rfl rfl ?_;go_simp;exact hK _ _ rfl rB
   ·simp at ho;subst ho;have e2 : a.tmps.getD 38 undef = .string (encS X) := hR.dep ⟨2, .data⟩ (by simp) rfl (by decide);have e3 : a.tmps.getD 39 undef = .string (encS Y) := hR.dep ⟨3, .data⟩ (by simp) rfl (by decide);refine plain_step rfl rfl ?_;go_simp;refine (HS.out w).mono ?_;rintro e w' ⟨rfl, hb⟩;exact hK _ _ (rfl) hb
   ·simp at ho;subst ho;have b7 : a.tmps.getD 7 undef = .string (encS D) := hR.base 7 (by kernel_rfl);refine plain_step rfl rfl ?_;go_simp;exact hK _ _ rfl rB
   ·simp at ho;subst ho;have e1 : a.tmps.getD 37 undef = .bool xn := hR.dep ⟨1, .data⟩ (by simp) rfl (by decide);have e4 : a.tmps.getD 40 undef = .string (encS (X + Y)) := hR.dep ⟨4, .data⟩ (by simp) rfl (by decide);have e5 : a.tmps.getD 41 undef = .string (encS D) := hR.dep ⟨5, .data⟩ (by simp) rfl (by decide);refine plain_step rfl rfl ?_;go_simp;refine (HL1.out w).mono ?_;rintro e w' ⟨rfl, hb⟩;exact hK _ _ (rfl) hb
  ·intro s w hS hb;have e6 : s 42 = .agg #[.bool L.neg, .string (encS L.num), .string (encS L.den)] := hS 6 (by decide);simp only [over, Nat.zero_add, Nat.reduceAdd, Nat.reduceLeDiff, Nat.reduceLT, decide_true, decide_false, Bool.and_true, Bool.and_false, cond_true, cond_false];obtain ⟨⟨cz0, cz1, cz2⟩, hfz⟩ := row_cells (heap_up hb HXZ.out);have fz0 := hfz 0; have fz1 := hfz 1; have fz2 := hfz 2;refine tail_step (n := 0) rfl rfl ?_;go_simp;simp only [wpTail];have hrow := row_set (heap_up hb HXZ.out) (.bool L.neg) (.string (encS L.num)) (.string (encS L.den));have hbw := below_row (HB5.out.trans (hb.mono HB5.out.size)) (b := bz) (by omega) (.bool L.neg) (.string (encS L.num)) (.string (encS L.den));have HROW := Lib.hid hrow; have HBW := Lib.hid hbw;clear hrow hbw hS hb cz0 cz1 cz2 hfz fz0 fz1 fz2;go_wp2_with fail
   refine bodyPost_ret (results_cell_row rfl _ _ bz 26 _ (0, 0) _ rfl HROW.out Tryz.underlying26 rfl (by kernel_rfl)) rfl ?_;exact ⟨rfl, HBW.out⟩
 ·have HQ2 := Lib.hid (HE2.out hxy); have HQ3 := Lib.hid (HE3.out hxy);have hxy2 : (xn == yn) = false := by simp [hxy]
  clear HE1 HE2 HE3;go_wp2_with fail;refine (HC.out _).mono ?_;rintro e w7 ⟨rfl, rfl⟩
  by_cases hle : Y ≤ X
  ·have hq := HQ2.out hle;obtain ⟨L, hL⟩ : ∃ L, low xn (X - Y) D = L := ⟨_, rfl⟩;have HL1 := Lib.hid (HLQ.out xn (X - Y) ZX.out.2.1);rw [hL] at hq HL1;subst hq;clear hL;obtain ⟨c, hc, hc0⟩ := cmp_ge (m := X) (n := Y) hle;rw [hc];rw [decide_eq_true hle] at HU;clear hle hc;go_wp2_with fail;refine (HU.out _).mono ?_;rintro e w8 ⟨rfl, hb⟩;have HXA := uH hb HXA; have HXB := uH hb HXB; have HXZ := uH hb HXZ;have HB5 := Lib.hid (HB5.out.trans (hb.mono HB5.out.size));clear hb ca0 ca1 ca2 cd0 cd1 cd2;obtain ⟨⟨ca0, ca1, ca2⟩, -⟩ := row_cells HXA.out;obtain ⟨⟨cd0, cd1, cd2⟩, -⟩ := row_cells HXB.out;go_wp2_with fail;refine (HL1.out _).mono ?_;rintro e w5 ⟨rfl, hb⟩;unfold rtV;obtain ⟨⟨cz0, cz1, cz2⟩, hfz⟩ := row_cells (heap_up hb HXZ.out);have fz0 := hfz 0; have fz1 := hfz 1; have fz2 := hfz 2;have hrow := row_set (heap_up hb HXZ.out) (.bool Z.neg) (.string (encS Z.num)) (.string (encS Z.den))
   have hbw := below_row (HB5.out.trans (hb.mono HB5.out.size)) (b := bz) (by omega) (.bool Z.neg) (.string (encS Z.num)) (.string (encS Z.den));have HROW := Lib.hid hrow; have HBW := Lib.hid hbw;clear hrow hbw hb hfz ca0 ca1 ca2 cd0 cd1 cd2;go_wp2_with fail;refine bodyPost_ret (results_cell_row rfl _ _ bz 26 _ (0, 0) _ rfl HROW.out Tryz.underlying26 rfl (by kernel_rfl)) rfl ?_;exact ⟨rfl, HBW.out⟩
  ·have hq := HQ3.out hle;obtain ⟨L, hL⟩ : ∃ L, low yn (Y - X) D = L := ⟨_, rfl⟩;have HL1 := Lib.hid (HLQ.out yn (Y - X) ZX.out.2.2);rw [hL] at hq HL1;subst hq;clear hL;rw [cmpI_lt (by omega)];rw [decide_eq_true (show X ≤ Y by omega)] at HU2;clear hle;go_wp2_with fail;refine (HU2.out _).mono ?_;rintro e w8 ⟨rfl, hb⟩;have HXA := uH hb HXA; have HXB := uH hb HXB; have HXZ := uH hb HXZ;have HB5 := Lib.hid (HB5.out.trans (hb.mono HB5.out.size));clear hb ca0 ca1 ca2 cd0 cd1 cd2;obtain ⟨⟨ca0, ca1, ca2⟩, -⟩ := row_cells HXA.out;obtain ⟨⟨cd0, cd1, cd2⟩, -⟩ := row_cells HXB.out;go_wp2_with fail;refine (HL1.out _).mono ?_;rintro e w5 ⟨rfl, hb⟩;unfold rtV;obtain ⟨⟨cz0, cz1, cz2⟩, hfz⟩ := row_cells (heap_up hb HXZ.out);have fz0 := hfz 0; have fz1 := hfz 1; have fz2 := hfz 2;have hrow := row_set (heap_up hb HXZ.out) (.bool Z.neg) (.string (encS Z.num)) (.string (encS Z.den))
   have hbw := below_row (HB5.out.trans (hb.mono HB5.out.size)) (b := bz) (by omega) (.bool Z.neg) (.string (encS Z.num)) (.string (encS Z.den));have HROW := Lib.hid hrow; have HBW := Lib.hid hbw;clear hrow hbw hb hfz ca0 ca1 ca2 cd0 cd1 cd2;go_wp2_with fail;refine bodyPost_ret (results_cell_row rfl _ _ bz 26 _ (0, 0) _ rfl HROW.out Tryz.underlying26 rfl (by kernel_rfl)) rfl ?_;exact ⟨rfl, HBW.out⟩
end Go.Proofs.YtabfjecegpaoaaaGreatDoor
