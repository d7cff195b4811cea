/- MoneyParts: for every input the law returns true, and each argument reads afterwards as it read before; the listed tables read as the program lays them (the tied card). -/
import Derived.RangeFuncKeeps
import Derived.WalkKit
import Derived.Deep.LoopGhost
import Derived.Deep.QuietTactic
import Derived.BigQuiet
import Derived.Test.YtabfjecegpaoaaaGreatDoorProg
import Derived.WalkSpells
import Derived.WalkLawsBesides
import Derived.IntWalk
import Derived.Lib.Hide
import Derived.Laws.BitsAllLaws
import Derived.StillTailTactics
import Derived.Deep.OwnRows
import Derived.Lib.ConvBytes
import Derived.Below
import Derived.RangeFuncNested
import Derived.RangeFuncCalls
import Derived.RangeFuncLeaves
import Derived.Shelf.Abstract
import Derived.Lib.LaidIn
import Derived.RegionTactic
import Derived.KernelRfl
import Derived.OrdersIn
import Derived.Shelf.Strings.Builder1
import Derived.Shelf.Strings.Builder2
import Derived.Shelf.Strings.Trim
import Derived.Shelf.Small.Utf8
import Derived.Shelf.Small.Bits
import Derived.Shelf.Small.Strs
import Derived.Shelf.Strings.BuilderF
import Derived.Shelf.Strings.BuilderK
import Derived.Shelf.Strings.Builder2Cap
import Derived.Shelf.Strconv.Atoi
import Derived.Shelf.Strconv.Itoa0
import Derived.Shelf.Strconv.Itoa1
import Derived.Shelf.LaysM
import Derived.Shelf.Strconv.Itoa2
import Derived.Shelf.Strconv.Itoa3
import Derived.Shelf.Strconv.AtoiErrFast
import Derived.Shelf.Strconv.ParseIntEmpty
import Derived.Shelf.Strconv.AtoiFail
import Derived.Shelf.Strconv.Clone
import Derived.Shelf.Strconv.SyntaxError
import Derived.Shelf.LaysC
import Derived.Shelf.Strconv.ToError
import Derived.Shelf.Strconv.Lower
import Derived.Shelf.Strconv.ParseUint10
import Derived.Shelf.Strconv.ParseUint10Empty
import Derived.Shelf.Strconv.ParseUint10Any
import Derived.Shelf.Strconv.ParseInt10
import Derived.Shelf.Strconv.AtoiLong
import Derived.Shelf.Strconv.AtoiInnerAll
import Derived.Shelf.Strconv.RangeError
import Derived.Shelf.Strconv.ToErrorRange
import Derived.Shelf.Strconv.AtoiAll
import Derived.Shelf.Strconv.ErrVarAll
import Derived.Shelf.Strconv.ParseUintEmpty
import Derived.Shelf.Strconv.ParseUint10b64
import Derived.Shelf.Strconv.ParseUint10b32
import Derived.Shelf.Strconv.ParseUint10b16
import Derived.Shelf.Strconv.ParseUint10b8
import Derived.Shelf.Strconv.ParseUint10At
import Derived.Shelf.Strconv.ParseInt10At64
import Derived.Shelf.Strconv.ParseInt10At32
import Derived.Shelf.Strconv.ParseInt10At16
import Derived.Shelf.Strconv.ParseInt10At8
import Derived.Shelf.Strconv.ParseInt10All
import Derived.Shelf.Strings.Search1
import Derived.Shelf.GgClosure.StringsIndexFunc
import Derived.Ground.GgwProg
import Derived.Shelf.GgClosure.StringsIndexFuncTop
import Derived.Shelf.GgClosure.StringsRunes
import Derived.Shelf.Strings.Prefix
import Derived.Shelf.Strings.Runes
import Derived.Shelf.Strings.AsciiSet
import Derived.Shelf.Bits.Mul64
import Derived.Shelf.Strings.Repeat
import Derived.Shelf.Unicode.DecodeSlow
import Derived.Shelf.Unicode.DecodeAny
import Derived.Shelf.Strings.FuncGrows
import Derived.Shelf.Strings.BuilderCap
import Derived.OwnWalkIn
import Derived.TacticsInMore
import Derived.LoopNIn
import Derived.LoopIn
import Derived.Laws.AppendOwnNone
import Derived.Lib.AtoiAll
import Derived.Lib.UnsafeStr
import Derived.Lib.AppendIntMem
import Derived.Lib.ItoaNum
import Derived.Lib.Itoa
import Derived.Lib.IndexMore
import Derived.Test.YtabfjecegpaoaaaGreatDoorYd3
import Derived.Test.YtabfjecegpaoaaaGreatDoorYd2
import Derived.Test.YtabfjecegpaoaaaGreatDoorYc7
import Derived.Test.YtabfjecegpaoaaaGreatDoorYc6
import Derived.Test.YtabfjecegpaoaaaGreatDoorYb9
import Derived.Test.YtabfjecegpaoaaaGreatDoorYb3
import Derived.Test.YtabfjecegpaoaaaGreatDoorYb1
import Derived.Test.YtabfjecegpaoaaaGreatDoorK10a3
import Derived.Test.YtabfjecegpaoaaaGreatDoorYb2
import Derived.Test.YtabfjecegpaoaaaGreatDoorYa6
import Derived.Test.YtabfjecegpaoaaaGreatDoorYa5
import Derived.Test.YtabfjecegpaoaaaGreatDoorYa4
import Derived.Test.YtabfjecegpaoaaaGreatDoorYa3
import Derived.Test.YtabfjecegpaoaaaGreatDoorYa0
import Derived.Test.YtabfjecegpaoaaaGreatDoorYa1
import Derived.Test.YtabfjecegpaoaaaGreatDoorYa2
import Derived.Test.YtabfjecegpaoaaaGreatDoorYb7
import Derived.Test.YtabfjecegpaoaaaGreatDoorYb6
import Derived.Test.YtabfjecegpaoaaaGreatDoorYb5
import Derived.Test.YtabfjecegpaoaaaGreatDoorYb4
import Derived.Test.YtabfjecegpaoaaaGreatDoorYc1
import Derived.Test.YtabfjecegpaoaaaGreatDoorYc0
import Derived.Test.YtabfjecegpaoaaaGreatDoorYc5
import Derived.Test.YtabfjecegpaoaaaGreatDoorYc4
import Derived.Test.YtabfjecegpaoaaaGreatDoorYc3
import Derived.Test.YtabfjecegpaoaaaGreatDoorYc2
import Derived.Test.YtabfjecegpaoaaaGreatDoorYb8
import Derived.Test.YtabfjecegpaoaaaGreatDoorYa9
import Derived.Test.YtabfjecegpaoaaaGreatDoorYa8
import Derived.Test.YtabfjecegpaoaaaGreatDoorK10a0
import Derived.Test.YtabfjecegpaoaaaGreatDoorYc8
import Derived.Test.YtabfjecegpaoaaaGreatDoorYc9
import Derived.Test.YtabfjecegpaoaaaGreatDoorK10a2
import Derived.Test.YtabfjecegpaoaaaGreatDoorYb0
import Derived.Test.YtabfjecegpaoaaaGreatDoorYd1
import Derived.Test.YtabfjecegpaoaaaGreatDoorYd0
import Derived.Test.YtabfjecegpaoaaaGreatDoorK10a4
namespace Go.Proofs.YtabfjecegpaoaaaGreatDoor.moneyParts
open Go.RowKit Go.Shelf
open Dgt
set_option linter.unusedVariables false
def Ewalk_7_1 (t : Rt) (n : Nat) (gw : Nat) (ow : Nat) (ca : Nat) (bg : Nat) : Nat → Value
 | 0 => .slice (some ⟨bg, 0, none⟩) n n
 | 1 => .int .i64 (n : Int)
 | 2 => .slice (some ⟨gw, ow, none⟩) n ca
 | 3 => .int .i64 (n : Int)
 | 4 => .bool false
 | 5 => .bool false
 | 6 => .slice (some ⟨bg, 0, none⟩) n n
 | 7 => .agg #[.bool t.neg, .string (encS t.num), .string (encS t.den)]
 | 8 => .agg #[.bool t.neg, .string (encS t.num), .string (encS t.den)]
 | 9 => .bool false
 | 10 => .bool false
 | _ => undef
def Ewalk_13_2 (t : Rt) (n : Nat) (k : Nat) (gw : Nat) (ow : Nat) (ca : Nat) (pk : Rt) (qk : Rt) (fr : Rt) (bg : Nat) : Nat → Value
 | 0 => .slice (some ⟨bg, 0, none⟩) n n
 | 1 => .int .i64 (k : Int)
 | 2 => .pointer (some ⟨bg, k * 3, none⟩)
 | 3 => .agg #[.bool pk.neg, .string (encS pk.num), .string (encS pk.den)]
 | 4 => .agg #[.bool t.neg, .string (encS t.num), .string (encS t.den)]
 | 5 => .slice (some ⟨gw, ow, none⟩) n ca
 | 6 => .int .i64 (k : Int)
 | 7 => .agg #[.bool qk.neg, .string (encS qk.num), .string (encS qk.den)]
 | 8 => .agg #[.bool fr.neg, .string (encS fr.num), .string (encS fr.den)]
 | 9 => undef
 | 10 => undef
 | _ => undef
def Ewalk_15_3 (fr : Rt) (on : Rt) : Nat → Value
 | 0 => .bool true
 | 1 => .bool false
 | 2 => .bool false
 | 3 => .agg #[.bool false, .string (encS fr.num), .string (encS fr.den)]
 | 4 => .agg #[.bool on.neg, .string (encS on.num), .string (encS on.den)]
 | 5 => .int .i64 (-1)
 | 6 => .bool false
 | 7 => .bool false
 | _ => undef
def Ewalk_20_4 (n : Nat) (k : Nat) (i : Nat) (gw : Nat) (ow : Nat) (ca : Nat) (wi : Rt) (wk : Rt) (mo : Int) : Nat → Value
 | 0 => .slice (some ⟨gw, ow, none⟩) n ca
 | 1 => .int .i64 (i : Int)
 | 2 => .pointer (some ⟨gw, ow + i * 3, none⟩)
 | 3 => .agg #[.bool wi.neg, .string (encS wi.num), .string (encS wi.den)]
 | 4 => .slice (some ⟨gw, ow, none⟩) n ca
 | 5 => .int .i64 (k : Int)
 | 6 => .pointer (some ⟨gw, ow + k * 3, none⟩)
 | 7 => .agg #[.bool wk.neg, .string (encS wk.num), .string (encS wk.den)]
 | 8 => .int .i64 mo
 | 9 => .int .i64 mo
 | _ => undef
def Ewalk_21_5 (n : Nat) (k : Nat) (i : Nat) (pk : Rt) (pi_ : Rt) (si : Int) (bg : Nat) : Nat → Value
 | 0 => .slice (some ⟨bg, 0, none⟩) n n
 | 1 => .int .i64 (i : Int)
 | 2 => .pointer (some ⟨bg, i * 3, none⟩)
 | 3 => .agg #[.bool pi_.neg, .string (encS pi_.num), .string (encS pi_.den)]
 | 4 => .slice (some ⟨bg, 0, none⟩) n n
 | 5 => .int .i64 (k : Int)
 | 6 => .pointer (some ⟨bg, k * 3, none⟩)
 | 7 => .agg #[.bool pk.neg, .string (encS pk.num), .string (encS pk.den)]
 | 8 => .int .i64 si
 | 9 => .int .i64 si
 | _ => undef
set_option maxHeartbeats 8000000 in
set_option maxRecDepth 100000 in
theorem walk (c : Int) (v1 : Value) (rc : inJ c) (wq : World) (hv : ArgT wq v1) (htab : Lib.TabIs Tryz.prog wq "internal/strconv.uint64pow10" .u64 Lib.pow10Tab) :
  Calls Tryz.prog 10 #[.int .i64 c, v1] wq fun e w' => e = .returned (.bool true) ∧ Below wq.heap.size wq w' := by
 have HT := Lib.hid (Lib.tabBelow_of_tabIs htab); clear htab;have C1 : Hid (∀ w, Below wq.heap.size wq w → Calls Tryz.prog 11 #[] w fun e w' => e = .returned (.bool true) ∧ Below w.heap.size w w') := Lib.hid fun w hp0 => by
  exact sanity_any w (HT.out.on hp0).here
 have HWT := Lib.hid (fun W (h : Below wq.heap.size wq W) => Weights_any v1 W (hv.up h));have HRC := Lib.hid rc;clear hv rc;have HB := Lib.hid (Below.refl wq.heap.size wq);obtain ⟨n0, hn0⟩ : ∃ n, n = wq.heap.size := ⟨_, rfl⟩; rw [← hn0]; have HN0 := Lib.hid hn0; clear hn0;go_enter Tryz.func10, Tryz.ntmps10;go_wp2_with fail;refine (C1.out _ HB.out).mono ?_;rintro e w1 ⟨rfl, hb⟩;have HB := mH HB hb;clear hb;go_wp2_with fail;refine (HWT.out _ HB.out).mono ?_;rintro e w2 ⟨wv, l, rfl, hl, hn8, hall, hb⟩;have HB := mH HB hb;clear hb;have HBQ := Lib.hid HB.out; have HNP := Lib.hid HN0.out; clear HB HN0 HWT HT;obtain ⟨wp, rfl⟩ : ∃ w, w = wq := ⟨_, rfl⟩; obtain ⟨np, rfl⟩ : ∃ w, w = n0 := ⟨_, rfl⟩; obtain ⟨wq, rfl⟩ : ∃ w, w = w2 := ⟨_, rfl⟩;have HB := Lib.hid (Below.refl wq.heap.size wq);obtain ⟨n0, hn0⟩ : ∃ n, n = wq.heap.size := ⟨_, rfl⟩; have HN0 := Lib.hid hn0; clear hn0
 have ho : ∀ a ∈ l, a.Ok := fun a ha => (hall a ha).1
 have hnn : ∀ a ∈ l, a.neg = false := fun a ha => (hall a ha).2.2
 have hz : ∀ a ∈ l, Rz a 1000 := fun a ha => (hall a ha).2.1.mono (by decide)
 obtain ⟨hck, hci⟩ := cents_of HRC.out.1 HRC.out.2;have o_t := ofC_ok c; have z_t := ofC_sz HRC.out.1 HRC.out.2;have c1 := fun w => rOfC_any c HRC.out.1 HRC.out.2 w
 by_cases hpos : 0 < sgnR (sumT l)
 ·obtain ⟨hw, hn1⟩ := wts_of ho hnn hpos;have HSP := Lib.hid (fun w (h : Below wq.heap.size wq w) => MoSplit_r (a := ofC c) (ws := l) o_t (z_t.mono (by decide)) hck hw hz hn1 hn8 wv w (hl.up h));have HQO := Lib.hid (fun (k : Nat) (hk : k < l.length) (w : World) (h : Below wq.heap.size wq w) => Quota_r (a := ofC c) (ws := l) o_t (z_t.mono (by decide)) ho hz (by omega) hw.snum k hk wv w (hl.up h));rw [hci] at HSP;have hraw := hl;rcases hl with ⟨-, hnil⟩ | ⟨gw, ow, ca, rfl, hgw, -, hcells⟩
  ·exact absurd hnil (by intro h; rw [List.map_eq_nil_iff] at h; subst h; simp at hn1)
  have HCL : Hid (∀ w, Below wq.heap.size wq w → ∀ i (h : i < l.length), w.cell? ⟨gw, ow + i * 3, none⟩ = some (.bool l[i].neg) ∧ w.cell? ⟨gw, ow + i * 3 + 1, none⟩ = some (.string (encS l[i].num)) ∧ w.cell? ⟨gw, ow + i * 3 + 2, none⟩ = some (.string (encS l[i].den))) := Lib.hid fun w hb i h => by
   have h2 := hcells i (by rw [List.length_map]; exact h);rw [List.getElem_map] at h2;exact ⟨by rw [cell_up hb hgw]; exact h2.1, by rw [cell_up hb hgw]; exact h2.2.1, by rw [cell_up hb hgw]; exact h2.2.2⟩
  rw [List.length_map] at HSP HQO hraw ⊢;have HW := Lib.hid hw; have HZS := Lib.hid hz; have HOO := Lib.hid ho;have HOT := Lib.hid (And.intro o_t z_t);have HPT := Lib.hid (fun (s : List Nat) (hs : OrdS c l s) => parts_len (c := c) (ws := l) (s := s));obtain ⟨t, ht⟩ : ∃ x, ofC c = x := ⟨_, rfl⟩; rw [ht] at c1 HSP HQO HOT;obtain ⟨n, hnn2⟩ : ∃ n, l.length = n := ⟨_, rfl⟩;have HNN := Lib.hid hnn2; have HTT := Lib.hid ht;rw [hnn2] at HSP HQO hn8 hn1 ⊢;have HLEN := Lib.hid (And.intro hn1 hn8);have C2 : Hid (∀ w, Calls Tryz.prog 14 #[.int .i64 c] w fun e w' => e = .returned (.agg #[.bool t.neg, .string (encS t.num), .string (encS t.den)]) ∧ Below w.heap.size w w') := Lib.hid fun w => by
   have h := c1 w;exact h
  clear c1 ht hnn2 hpos hall ho hnn hz hck hci o_t z_t hn8 hn1 hw hcells hraw;go_wp2_with fail;refine (C2.out _).mono ?_;rintro e w3 ⟨rfl, hb⟩;have HB := mH HB hb;clear hb;obtain ⟨W4, bk7, hW4, hbk7, HX7_1, HB, HG7_1, hup⟩ := boxn HB HN0 (.cells #[.bool false, .string ⟨#[]⟩, .string ⟨#[]⟩] 26);clear hup;obtain ⟨W5, hW5, HX7_1, HB, ho, f2a, f2b, f2c, k2a, k2b, k2c⟩ := put3 HX7_1 HB HN0 HG7_1 (.bool t.neg) (.string (encS t.num)) (.string (encS t.den));clear ho;obtain ⟨k3a, k3b, k3c⟩ := c3 HX7_1;go_wp2_with fail;clear hW4 hbk7 f2a f2b f2c k2a k2b k2c hW5 k3a k3b k3c;refine (HSP.out _ HB.out).mono ?_;rintro e w6 ⟨bg, s, hS, rfl, hge, hN, hb⟩;have HG25_4 : Hid (n0 ≤ bg) := Lib.hid (by rw [HN0.out]; exact Nat.le_trans HB.out.size hge);have HL25_4 := Lib.hid (Nat.lt_of_lt_of_le (Array.getElem?_eq_some_iff.1 HX7_1.out).1 hge);have HX7_1 := uH hb HX7_1;have HB := mH HB hb;have HSO := Lib.hid hS
  obtain ⟨ps, hps⟩ : ∃ x, partsT c l s = x := ⟨_, rfl⟩; rw [hps] at hN;have HPS := Lib.hid hps;have HX25_4 := Lib.hid hN; clear hN hge hb;have hpl : ps.length = n := by rw [← HPS.out, parts_len]; exact HNN.out
  have HPL := Lib.hid hpl;have hpo : ∀ a ∈ ps, a.Ok := by rw [← HPS.out]; exact parts_ok
  have hpz : ∀ a ∈ ps, Rz a 1000 := by
   intro a ha;rw [← HPS.out] at ha;unfold partsT at ha;obtain ⟨k, hk, rfl⟩ := List.mem_map.1 ha;have hx := HW.out.x_int hS HRC.out.1 HRC.out.2 (List.mem_range.1 hk);exact (ofC_sz hx.1 hx.2).mono (by decide)
  have HPO := Lib.hid hpo; have HPZ := Lib.hid hpz;clear hpl hpo hpz hps hS;have C3 : Hid (∀ w, w.heap[bg]? = some (.cells ((cel ps).toArray) 26 (0, 0)) → Calls Tryz.prog 36 #[.slice (some ⟨bg, 0, none⟩) n n] w fun e w' => e = .returned (.agg #[.bool t.neg, .string (encS t.num), .string (encS t.den)]) ∧ Below w.heap.size w w') := Lib.hid fun w hp0 => by
   have hh : LstR w (.slice (some ⟨bg, 0, none⟩) n n) (ps.map rawR) := by
    have h1 := lit_lstR (l := ps.map rawR) (cap := n) (by rw [← cel_cells3]; exact hp0) (by rw [List.length_map, HPL.out]; have := HLEN.out; omega) (by rw [List.length_map, HPL.out]);rw [List.length_map, HPL.out] at h1; exact h1
   have h := rSum_any (ps.map rawR) _ w hh (by rw [List.length_map, HPL.out]; have := HLEN.out; omega) (szl_raw HPZ.out);rw [sumT_raw HPO.out, show sumT ps = t from by rw [← HPS.out, HW.out.parts_sum HSO.out, HTT.out]] at h;exact h
  go_wp2_with fail;refine wp_region_vals (w := w6) (by kernel_rfl) (fun j v _ => v = Ewalk_7_1 t n gw ow ca bg j) (fun t => (decide (42 ≤ t) && decide (t < 53))) (by kernel_rfl) (by kernel_rfl) (by kernel_rfl) (fun _ _ _ _ _ h => h) ?_ ?_
  ·intro i hi ov_ listed av_ w hR K hK;have ho := hR.at_;have hi : i < 11 := hi;have hii : i = 0 ∨ i = 1 ∨ i = 2 ∨ i = 3 ∨ i = 4 ∨ i = 5 ∨ i = 6 ∨ i = 7 ∨ i = 8 ∨ i = 9 ∨ i = 10 := by omega
   rcases hii with rfl | rfl | rfl | rfl | rfl | rfl | rfl | rfl | rfl | rfl | rfl
   ·simp at ho;subst ho;have b8 : av_.tmps.getD 8 undef = .slice (some ⟨bg, 0, none⟩) n n := hR.base 8 (by kernel_rfl);refine plain_step rfl rfl ?_;go_simp;exact hK _ _ rfl rB
   ·simp at ho;subst ho;have e0 : av_.tmps.getD 42 undef = .slice (some ⟨bg, 0, none⟩) n n := hR.dep ⟨0, .data⟩ (by simp) rfl;refine plain_step rfl rfl ?_;go_simp;exact hK _ _ rfl rB
   ·simp at ho;subst ho;have b6 : av_.tmps.getD 6 undef = .slice (some ⟨gw, ow, none⟩) n ca := hR.base 6 (by kernel_rfl);refine plain_step rfl rfl ?_;go_simp;exact hK _ _ rfl rB
   ·simp at ho;subst ho;have e2 : av_.tmps.getD 44 undef = .slice (some ⟨gw, ow, none⟩) n ca := hR.dep ⟨2, .data⟩ (by simp) rfl;refine plain_step rfl rfl ?_;go_simp;exact hK _ _ rfl rB
   ·simp at ho;subst ho;have e1 : av_.tmps.getD 43 undef = .int .i64 (n : Int) := hR.dep ⟨1, .data⟩ (by simp) rfl;have e3 : av_.tmps.getD 45 undef = .int .i64 (n : Int) := hR.dep ⟨3, .data⟩ (by simp) rfl;refine plain_step rfl rfl ?_;go_simp;exact hK _ _ rfl rB
   ·simp at ho;subst ho;have e4 : av_.tmps.getD 46 undef = .bool false := hR.dep ⟨4, .data⟩ (by simp) rfl;refine plain_step rfl rfl ?_;go_simp;exact hK _ _ rfl rB
   ·simp at ho;subst ho;have e5 : av_.tmps.getD 47 undef = .bool false := hR.dep ⟨5, .guard⟩ (by simp) rfl;have b8 : av_.tmps.getD 8 undef = .slice (some ⟨bg, 0, none⟩) n n := hR.base 8 (by kernel_rfl);refine guard_step rfl rfl rfl (b := false) e5 ?_;go_simp;exact hK _ _ rfl rB
   ·simp at ho;subst ho;have e6 : av_.tmps.getD 48 undef = .slice (some ⟨bg, 0, none⟩) n n := hR.dep ⟨6, .data⟩ (by simp) rfl;have e5 : av_.tmps.getD 47 undef = .bool false := hR.dep ⟨5, .guard⟩ (by simp) rfl;refine guard_step rfl rfl rfl (b := false) e5 ?_;go_simp;refine (C3.out w (heap_up hR.below HX25_4.out)).mono ?_;rintro e w' ⟨rfl, hb⟩;exact hK _ _ (rfl) hb
   ·simp at ho;subst ho;have e5 : av_.tmps.getD 47 undef = .bool false := hR.dep ⟨5, .guard⟩ (by simp) rfl;have b7 : av_.tmps.getD 7 undef = .pointer (some ⟨bk7, 0, none⟩) := hR.base 7 (by kernel_rfl);obtain ⟨cx0, cx1, cx2⟩ := c3 (uH hR.below HX7_1);refine guard_step rfl rfl rfl (b := false) e5 ?_;go_simp;exact hK _ _ rfl rB
   ·simp at ho;subst ho;have e7 : av_.tmps.getD 49 undef = .agg #[.bool t.neg, .string (encS t.num), .string (encS t.den)] := hR.dep ⟨7, .data⟩ (by simp) rfl;have e8 : av_.tmps.getD 50 undef = .agg #[.bool t.neg, .string (encS t.num), .string (encS t.den)] := hR.dep ⟨8, .data⟩ (by simp) rfl;have e5 : av_.tmps.getD 47 undef = .bool false := hR.dep ⟨5, .guard⟩ (by simp) rfl;refine guard_step rfl rfl rfl (b := false) e5 ?_;go_simp;exact hK _ _ rfl rB
   ·simp at ho;subst ho;have e5 : av_.tmps.getD 47 undef = .bool false := hR.dep ⟨5, .data⟩ (by simp) rfl;have e9 : av_.tmps.getD 51 undef = .bool false := hR.dep ⟨9, .data⟩ (by simp) rfl;refine plain_step rfl rfl ?_;go_simp;exact hK _ _ rfl rB
  ·intro sv_ w hS hb;have e10 : sv_ 52 = .bool false := hS 10 (by decide);simp only [over, Nat.zero_add, Nat.reduceAdd, Nat.reduceLeDiff, Nat.reduceLT, decide_true, decide_false, Bool.and_true, Bool.and_false, cond_true, cond_false];have HB := mH HB hb;have HX7_1 := uH hb HX7_1;have HX25_4 := uH hb HX25_4;obtain ⟨w7, hw⟩ : ∃ w8, w8 = w := ⟨_, rfl⟩;subst hw;rw [e10];clear hS hb e10;go_wp2_with fail
   go_loopw [10] (fun v wr => ∃ k : Nat, k ≤ n ∧ v = .int .i64 (k : Int) ∧ Hid (wr.heap[bk7]? = some (.cells #[.bool t.neg, .string (encS t.num), .string (encS t.den)] 26 (0, 0))) ∧ Hid (wr.heap[bg]? = some (.cells ((cel ps).toArray) 26 (0, 0))) ∧ Hid (Below wq.heap.size wq wr)) (fun v _ => n - (intOf v).toNat)
   case atStart => exact ⟨0, by omega, rfl, HX7_1, HX25_4, HB⟩
   case round =>
    obtain ⟨k, hk, rfl, HX7_1, HX25_4, HB⟩ := hrel
    by_cases hlt : k < n
    ·have hlt' : (k : Int) < (n : Int) := by omega
     have hkl : k < l.length := by rw [HNN.out]; exact hlt
     have hxi := HW.out.x_int HSO.out HRC.out.1 HRC.out.2 hkl;have hpk : ps[k]? = some (ofC (sgZ c (xZ c l s k))) := by rw [← HPS.out, List.getElem?_eq_getElem (by rw [parts_len]; exact hkl), parts_at hkl]
     obtain ⟨hk1, hk2⟩ := cents_of hxi.1 hxi.2;have o_p := ofC_ok (sgZ c (xZ c l s k)); have z_p := ofC_sz hxi.1 hxi.2;have m1 := fun w => MoCents_r o_p (z_p.mono (by decide)) w
     unfold centsV at m1; rw [hk1] at m1;have m2 : ∀ w, Below wq.heap.size wq w → _ := fun w h => HQO.out k hlt w h
     have o_q : (quoR (mulR t (l.getD k zeroR)) (sumT l)).Ok := quoR_ok (mulR_ok HOT.out.1 (HW.out.okk k)) (by have := HW.out.snum; omega);have z_q : Rz (quoR (mulR t (l.getD k zeroR)) (sumT l)) 40000 := (quoR_sz (mulR_sz HOT.out.2 (show Rz (l.getD k zeroR) 1000 from by rw [getD_at' hkl]; exact HZS.out _ (List.getElem_mem hkl))) (sumT_sz HOO.out HZS.out (by rw [HNN.out]; have := HLEN.out.2; omega))).mono (by decide);have m3 := fun w => rRatSub_r (IsR.of o_p (z_p.mono (show 16 ≤ 40000 by decide))) (IsR.of o_q z_q) (by decide) (by decide) w
     have hfar := parts_far HW.out HSO.out k;rw [HTT.out] at hfar;obtain ⟨ck, hck⟩ : ∃ x, centsI (ofC (sgZ c (xZ c l s k))) = x := ⟨_, rfl⟩; rw [hck] at m1;obtain ⟨pk, hpe⟩ : ∃ x, ofC (sgZ c (xZ c l s k)) = x := ⟨_, rfl⟩; rw [hpe] at m1 m3 hpk hfar o_p z_p;obtain ⟨qk, hqe⟩ : ∃ x, quoR (mulR t (l.getD k zeroR)) (sumT l) = x := ⟨_, rfl⟩; rw [hqe] at m2 m3 hfar o_q z_q;have o_f := subR_ok o_p o_q; have z_f := subR_sz z_p z_q;obtain ⟨fr, hfe⟩ : ∃ x, subR pk qk = x := ⟨_, rfl⟩; rw [hfe] at m3 hfar o_f z_f;have o_1 := ofC_ok 1; have z_1 := ofC_sz (c := 1) (by decide) (by decide);have m4 := fun w => MoOf_any 1 (by decide) (by decide) w
     have m5 := fun w => rRatCmp_r (IsR.of (absR_ok o_f) ((absR_sz z_f).mono (show _ ≤ 50000 by decide))) (IsR.of o_1 (z_1.mono (show 16 ≤ 50000 by decide))) (by decide) (by decide) w
     rw [hfar] at m5;obtain ⟨on, hone⟩ : ∃ x, ofC 1 = x := ⟨_, rfl⟩; rw [hone] at m4 m5;obtain ⟨d1, d2, d3⟩ := cel_cells HX25_4.out hpk;have HPK := Lib.hid hpk; have HKN := Lib.hid hlt; have HKL := Lib.hid hkl; have HPE := Lib.hid hpe; have HOP := Lib.hid (And.intro o_p z_p);have C4 : Hid (∀ w, Calls Tryz.prog 29 #[.agg #[.bool pk.neg, .string (encS pk.num), .string (encS pk.den)]] w fun e w' => e = .returned (.tuple #[.int .i64 ck, .bool true]) ∧ Below w.heap.size w w') := Lib.hid fun w => by
      have h := m1 w;exact h
     have C5 : Hid (∀ w, Below wq.heap.size wq w → Calls Tryz.prog 37 #[.agg #[.bool t.neg, .string (encS t.num), .string (encS t.den)], .slice (some ⟨gw, ow, none⟩) n ca, .int .i64 (k : Int)] w fun e w' => e = .returned (.agg #[.bool qk.neg, .string (encS qk.num), .string (encS qk.den)]) ∧ Below w.heap.size w w') := Lib.hid fun w hp0 => by
      have h := m2 w hp0;exact h
     have C6 : Hid (∀ w, Calls Tryz.prog 27 #[.agg #[.bool pk.neg, .string (encS pk.num), .string (encS pk.den)], .agg #[.bool qk.neg, .string (encS qk.num), .string (encS qk.den)]] w fun e w' => e = .returned (.agg #[.bool fr.neg, .string (encS fr.num), .string (encS fr.den)]) ∧ Below w.heap.size w w') := Lib.hid fun w => by
      have h := m3 w;exact h
     have C7 : Hid (∀ w, Calls Tryz.prog 20 #[.int .i64 1] w fun e w' => e = .returned (.agg #[.bool on.neg, .string (encS on.num), .string (encS on.den)]) ∧ Below w.heap.size w w') := Lib.hid fun w => by
      have h := m4 w;exact h
     have C8 : Hid (∀ w, Calls Tryz.prog 28 #[.agg #[.bool false, .string (encS fr.num), .string (encS fr.den)], .agg #[.bool on.neg, .string (encS on.num), .string (encS on.den)]] w fun e w' => e = .returned (.int .i64 (-1)) ∧ Below w.heap.size w w') := Lib.hid fun w => by
      have h := m5 w;exact h
     clear m1 m2 m3 m4 m5 hck hpe hqe hfe hone hfar hpk hk hlt hkl hxi hk1 hk2 o_p z_p o_q z_q o_f z_f o_1 z_1;go_wp2_with fail;clear hlt' d1 d2 d3;refine (C4.out _).mono ?_;rintro e w8 ⟨rfl, hb⟩;have HX7_1 := uH hb HX7_1;have HX25_4 := uH hb HX25_4;have HB := mH HB hb;clear hb;go_wp2_with fail;refine wp_region_box (w0 := w8) (by kernel_rfl) (fun j v _ => v = Ewalk_13_2 t n k gw ow ca pk qk fr bg j) 9 10 (.cells #[.bool false, .string ⟨#[]⟩, .string ⟨#[]⟩] 26 (0, 0)) (.cells #[.bool fr.neg, .string (encS fr.num), .string (encS fr.den)] 26 (0, 0)) (fun t => (decide (13 ≤ t) && decide (t < 14)) || (decide (67 ≤ t) && decide (t < 76))) (by kernel_rfl) (by kernel_rfl) (by kernel_rfl) (by decide) (by decide) (by kernel_rfl) rfl (fun _ _ _ _ _ h => h) ?_ ?_ ?_ ?_
     ·intro i hi hia his ov_ listed av_ w hR K hK;have ho := hR.at_;have hi : i < 11 := hi;have hii : i = 0 ∨ i = 1 ∨ i = 2 ∨ i = 3 ∨ i = 4 ∨ i = 5 ∨ i = 6 ∨ i = 7 ∨ i = 8 := by omega
      rcases hii with rfl | rfl | rfl | rfl | rfl | rfl | rfl | rfl | rfl
      ·simp at ho;subst ho;have b8 : av_.tmps.getD 8 undef = .slice (some ⟨bg, 0, none⟩) n n := hR.base 8 (by kernel_rfl);refine plain_step rfl rfl ?_;go_simp;exact hK _ _ rfl rB
      ·simp at ho;subst ho;have b10 : av_.tmps.getD 10 undef = .int .i64 (k : Int) := hR.base 10 (by kernel_rfl);refine plain_step rfl rfl ?_;go_simp;exact hK _ _ rfl rB
      ·simp at ho;subst ho;have e0 : av_.tmps.getD 67 undef = .slice (some ⟨bg, 0, none⟩) n n := hR.dep ⟨0, .data⟩ (by simp) rfl (by decide) (by decide);have e1 : av_.tmps.getD 68 undef = .int .i64 (k : Int) := hR.dep ⟨1, .data⟩ (by simp) rfl (by decide) (by decide);have q1 : (k : Int) < (n : Int) := by have := HKN.out; omega
       refine plain_step rfl rfl ?_;go_simp;exact hK _ _ rfl rB
      ·simp at ho;subst ho;have e2 : av_.tmps.getD 69 undef = .pointer (some ⟨bg, k * 3, none⟩) := hR.dep ⟨2, .data⟩ (by simp) rfl (by decide) (by decide);obtain ⟨d0, d1, d2⟩ := cel_cells (heap_up hR.below HX25_4.out) HPK.out;refine plain_step rfl rfl ?_;go_simp;exact hK _ _ rfl rB
      ·simp at ho;subst ho;have b7 : av_.tmps.getD 7 undef = .pointer (some ⟨bk7, 0, none⟩) := hR.base 7 (by kernel_rfl);obtain ⟨cx0, cx1, cx2⟩ := c3 (uH hR.below HX7_1);refine plain_step rfl rfl ?_;go_simp;exact hK _ _ rfl rB
      ·simp at ho;subst ho;have b6 : av_.tmps.getD 6 undef = .slice (some ⟨gw, ow, none⟩) n ca := hR.base 6 (by kernel_rfl);refine plain_step rfl rfl ?_;go_simp;exact hK _ _ rfl rB
      ·simp at ho;subst ho;have b10 : av_.tmps.getD 10 undef = .int .i64 (k : Int) := hR.base 10 (by kernel_rfl);refine plain_step rfl rfl ?_;go_simp;exact hK _ _ rfl rB
      ·simp at ho;subst ho;have e4 : av_.tmps.getD 71 undef = .agg #[.bool t.neg, .string (encS t.num), .string (encS t.den)] := hR.dep ⟨4, .data⟩ (by simp) rfl (by decide) (by decide);have e5 : av_.tmps.getD 72 undef = .slice (some ⟨gw, ow, none⟩) n ca := hR.dep ⟨5, .data⟩ (by simp) rfl (by decide) (by decide);have e6 : av_.tmps.getD 73 undef = .int .i64 (k : Int) := hR.dep ⟨6, .data⟩ (by simp) rfl (by decide) (by decide);refine plain_step rfl rfl ?_;go_simp;refine (C5.out w (HB.out.trans (hR.below.mono HB.out.size))).mono ?_;rintro e w' ⟨rfl, hb⟩;exact hK _ _ (rfl) hb
      ·simp at ho;subst ho;have e3 : av_.tmps.getD 70 undef = .agg #[.bool pk.neg, .string (encS pk.num), .string (encS pk.den)] := hR.dep ⟨3, .data⟩ (by simp) rfl (by decide) (by decide);have e7 : av_.tmps.getD 74 undef = .agg #[.bool qk.neg, .string (encS qk.num), .string (encS qk.den)] := hR.dep ⟨7, .data⟩ (by simp) rfl (by decide) (by decide);refine plain_step rfl rfl ?_;go_simp;refine (C6.out w).mono ?_;rintro e w' ⟨rfl, hb⟩;exact hK _ _ (rfl) hb
     ·intro ov_ av_ w ho K hK;simp at ho;subst ho;refine plain_step rfl rfl ?_;go_simp;exact hK _ _ _ rfl (Nat.le_refl _) (heap_alloc_new _ _) (rB.alloc (Nat.le_refl _) _)
     ·intro ov_ listed av_ w g hR hv hg hz K hK;have ho := hR.at_;simp at ho;subst ho;have e9 : av_.tmps.getD 13 undef = .pointer (some ⟨g, 0, none⟩) := hv;have e8 : av_.tmps.getD 75 undef = .agg #[.bool fr.neg, .string (encS fr.num), .string (encS fr.den)] := hR.dep ⟨8, .data⟩ (by simp) rfl (by decide) (by decide);have cz0 : w.cell? ⟨g, 0, none⟩ = some (.bool false) := by rw [Lib.cell_of_heap hz]; rfl
      have fz0 : w.frozen? ⟨g, 0, none⟩ = false := frz0 hz 0;have cz1 : w.cell? ⟨g, 1, none⟩ = some (.string ⟨#[]⟩) := by rw [Lib.cell_of_heap hz]; rfl
      have fz1 : w.frozen? ⟨g, 1, none⟩ = false := frz0 hz 1;have cz2 : w.cell? ⟨g, 2, none⟩ = some (.string ⟨#[]⟩) := by rw [Lib.cell_of_heap hz]; rfl
      have fz2 : w.frozen? ⟨g, 2, none⟩ = false := frz0 hz 2;refine plain_step rfl rfl ?_;go_simp;exact hK _ (by simp [World.setCell, Array.getElem?_modify, hz]) (((rB.setCell (p := ⟨g, 0, none⟩) hg (.bool fr.neg)).setCell (p := ⟨g, 1, none⟩) hg (.string (encS fr.num))).setCell (p := ⟨g, 2, none⟩) hg (.string (encS fr.den)))
     ·intro sv_ w g hS hg0 hge hN hb;have e9 : sv_ 13 = .pointer (some ⟨g, 0, none⟩) := hg0;simp only [over, Nat.zero_add, Nat.reduceAdd, Nat.reduceLeDiff, Nat.reduceLT, decide_true, decide_false, Bool.and_true, Bool.and_false, Bool.or_false, Bool.or_true, cond_true, cond_false];obtain ⟨bk13, hg1⟩ : ∃ b, g = b := ⟨_, rfl⟩;rw [hg1] at e9 hge hN; clear hg1;have HG13_5 : Hid (n0 ≤ bk13) := Lib.hid (by rw [HN0.out]; exact Nat.le_trans HB.out.size hge);have HL13_5 := Lib.hid (Nat.lt_of_lt_of_le (Array.getElem?_eq_some_iff.1 HX25_4.out).1 hge);have HX13_5 := Lib.hid hN; clear hN hge hg0;have HX7_1 := uH hb HX7_1;have HX25_4 := uH hb HX25_4;have HB := mH HB hb;obtain ⟨w9, hw⟩ : ∃ w8, w8 = w := ⟨_, rfl⟩;subst hw;rw [e9];clear hS hb e9;have f6 : w9.frozen? ⟨bk13, 0, none⟩ = false := frz0 HX13_5.out 0
      have k7 : w9.cell? ⟨bk13, 0, none⟩ = some (.bool fr.neg) := by rw [Lib.cell_of_heap HX13_5.out]; rfl
      have hB := (HB.out.setCell (p := ⟨bk13, 0, none⟩) (by rw [← HN0.out]; exact HG13_5.out) (.bool false));have hN : (w9.setCell ⟨bk13, 0, none⟩ (.bool false)).heap[bk13]? = some (.cells #[.bool false, .string (encS fr.num), .string (encS fr.den)] 26 (0, 0)) := by simp [World.setCell, Array.getElem?_modify, HX13_5.out]
      have hx7_1 : (w9.setCell ⟨bk13, 0, none⟩ (.bool false)).heap[bk7]? = _ := (row_else HX7_1.out (by have h0 := HL25_4.out; have h1 := HL13_5.out; omega) _);have HX7_1 := Lib.hid hx7_1; clear hx7_1;have hx25_4 : (w9.setCell ⟨bk13, 0, none⟩ (.bool false)).heap[bg]? = _ := (row_else HX25_4.out (by have h1 := HL13_5.out; omega) _);have HX25_4 := Lib.hid hx25_4; clear hx25_4;obtain ⟨W10, hW10⟩ : ∃ W, (w9.setCell ⟨bk13, 0, none⟩ (.bool false)) = W := ⟨_, rfl⟩;rw [hW10] at hN hB HX7_1 HX25_4;have HX13_5 := Lib.hid hN; have HB := Lib.hid hB; clear hN hB;go_wp2_with fail;clear f6 k7 hW10;refine wp_region_vals (w := W10) (by kernel_rfl) (fun j v _ => v = Ewalk_15_3 fr on j) (fun t => (decide (77 ≤ t) && decide (t < 85))) (by kernel_rfl) (by kernel_rfl) (by kernel_rfl) (fun _ _ _ _ _ h => h) ?_ ?_
      ·intro i hi ov_ listed av_ w hR K hK;have ho := hR.at_;have hi : i < 8 := hi;have hii : i = 0 ∨ i = 1 ∨ i = 2 ∨ i = 3 ∨ i = 4 ∨ i = 5 ∨ i = 6 ∨ i = 7 := by omega
       rcases hii with rfl | rfl | rfl | rfl | rfl | rfl | rfl | rfl
       ·simp at ho;subst ho;have b12 : av_.tmps.getD 12 undef = .bool true := hR.base 12 (by kernel_rfl);refine plain_step rfl rfl ?_;go_simp;exact hK _ _ rfl rB
       ·simp at ho;subst ho;have e0 : av_.tmps.getD 77 undef = .bool true := hR.dep ⟨0, .data⟩ (by simp) rfl;refine plain_step rfl rfl ?_;go_simp;exact hK _ _ rfl rB
       ·simp at ho;subst ho;have e1 : av_.tmps.getD 78 undef = .bool false := hR.dep ⟨1, .data⟩ (by simp) rfl;refine plain_step rfl rfl ?_;go_simp;exact hK _ _ rfl rB
       ·simp at ho;subst ho;have e2 : av_.tmps.getD 79 undef = .bool false := hR.dep ⟨2, .guard⟩ (by simp) rfl;have b13 : av_.tmps.getD 13 undef = .pointer (some ⟨bk13, 0, none⟩) := hR.base 13 (by kernel_rfl);obtain ⟨cx0, cx1, cx2⟩ := c3 (uH hR.below HX13_5);refine guard_step rfl rfl rfl (b := false) e2 ?_;go_simp;exact hK _ _ rfl rB
       ·simp at ho;subst ho;have e2 : av_.tmps.getD 79 undef = .bool false := hR.dep ⟨2, .guard⟩ (by simp) rfl;refine guard_step rfl rfl rfl (b := false) e2 ?_;go_simp;refine (C7.out w).mono ?_;rintro e w' ⟨rfl, hb⟩;exact hK _ _ (rfl) hb
       ·simp at ho;subst ho;have e3 : av_.tmps.getD 80 undef = .agg #[.bool false, .string (encS fr.num), .string (encS fr.den)] := hR.dep ⟨3, .data⟩ (by simp) rfl;have e4 : av_.tmps.getD 81 undef = .agg #[.bool on.neg, .string (encS on.num), .string (encS on.den)] := hR.dep ⟨4, .data⟩ (by simp) rfl;have e2 : av_.tmps.getD 79 undef = .bool false := hR.dep ⟨2, .guard⟩ (by simp) rfl;refine guard_step rfl rfl rfl (b := false) e2 ?_;go_simp;refine (C8.out w).mono ?_;rintro e w' ⟨rfl, hb⟩;exact hK _ _ (rfl) hb
       ·simp at ho;subst ho;have e5 : av_.tmps.getD 82 undef = .int .i64 (-1) := hR.dep ⟨5, .data⟩ (by simp) rfl;have e2 : av_.tmps.getD 79 undef = .bool false := hR.dep ⟨2, .guard⟩ (by simp) rfl;refine guard_step rfl rfl rfl (b := false) e2 ?_;go_simp;exact hK _ _ rfl rB
       ·simp at ho;subst ho;have e2 : av_.tmps.getD 79 undef = .bool false := hR.dep ⟨2, .data⟩ (by simp) rfl;have e6 : av_.tmps.getD 83 undef = .bool false := hR.dep ⟨6, .data⟩ (by simp) rfl;refine plain_step rfl rfl ?_;go_simp;exact hK _ _ rfl rB
      ·intro sv_ w hS hb;have e7 : sv_ 84 = .bool false := hS 7 (by decide);simp only [over, Nat.zero_add, Nat.reduceAdd, Nat.reduceLeDiff, Nat.reduceLT, decide_true, decide_false, Bool.and_true, Bool.and_false, cond_true, cond_false];have HB := mH HB hb;have HX7_1 := uH hb HX7_1;have HX25_4 := uH hb HX25_4;have HX13_5 := uH hb HX13_5;obtain ⟨w11, hw⟩ : ∃ w8, w8 = w := ⟨_, rfl⟩;subst hw;rw [e7];clear hS hb e7;go_wp2_with fail
       go_loopw [14] (fun v wr2 => ∃ i : Nat, i ≤ k ∧ v = .int .i64 (i : Int) ∧ Hid (wr2.heap[bk7]? = some (.cells #[.bool t.neg, .string (encS t.num), .string (encS t.den)] 26 (0, 0))) ∧ Hid (wr2.heap[bg]? = some (.cells ((cel ps).toArray) 26 (0, 0))) ∧ Hid (Below wq.heap.size wq wr2)) (fun v _ => k - (intOf v).toNat)
       case atStart => exact ⟨0, by omega, rfl, HX7_1, HX25_4, HB⟩
       case round =>
        obtain ⟨i, hi, rfl, HX7_1, HX25_4, HB⟩ := hrel
        by_cases hik : i < k
        ·have hik' : (i : Int) < (k : Int) := by omega
         have hil : i < l.length := Nat.lt_trans hik HKL.out;have hxi := HW.out.x_int HSO.out HRC.out.1 HRC.out.2 hil;have hpi : ps[i]? = some (ofC (sgZ c (xZ c l s i))) := by rw [← HPS.out, List.getElem?_eq_getElem (by rw [parts_len]; exact hil), parts_at hil]
         have hwi := fun w (hb : Below wq.heap.size wq w) => HCL.out w hb i hil
         have hwk := fun w (hb : Below wq.heap.size wq w) => HCL.out w hb k HKL.out
         have o_i := ofC_ok (sgZ c (xZ c l s i)); have z_i := ofC_sz hxi.1 hxi.2;have m1 := fun w => rRatCmp_r (IsR.of (HOO.out l[i] (List.getElem_mem hil)) (HZS.out l[i] (List.getElem_mem hil))) (IsR.of (HOO.out (l[k]'HKL.out) (List.getElem_mem HKL.out)) (HZS.out (l[k]'HKL.out) (List.getElem_mem HKL.out))) (by decide) (by decide) w
         have m2 := fun w => rRatCmp_r (IsR.of o_i z_i) (IsR.of HOP.out.1 HOP.out.2) (by decide) (by decide) w
         obtain ⟨sz, hsz⟩ : ∃ z, z = if c < 0 then -cmpR (ofC (sgZ c (xZ c l s i))) (ofC (sgZ c (xZ c l s k))) else cmpR (ofC (sgZ c (xZ c l s i))) (ofC (sgZ c (xZ c l s k))) := ⟨_, rfl⟩
         have hor := parts_order HW.out HSO.out hik HKL.out hsz;rw [getD_at' hil, getD_at' HKL.out] at hor;rw [HPE.out] at hsz;obtain ⟨pi_, hpe2⟩ : ∃ x, ofC (sgZ c (xZ c l s i)) = x := ⟨_, rfl⟩; rw [hpe2] at m2 hpi hsz;obtain ⟨wi, hwie⟩ : ∃ x, l[i] = x := ⟨_, rfl⟩; rw [hwie] at m1 hwi hor;obtain ⟨wk, hwke⟩ : ∃ x, l[k]'HKL.out = x := ⟨_, rfl⟩; rw [hwke] at m1 hwk hor;obtain ⟨mo, hmo⟩ : ∃ x, cmpR wi wk = x := ⟨_, rfl⟩; rw [hmo] at m1 hor;have hrg := cmp_rng pi_ pk;obtain ⟨si, hsi⟩ : ∃ x, cmpR pi_ pk = x := ⟨_, rfl⟩; rw [hsi] at m2 hsz hrg;have HWI := Lib.hid hwi; have HWK := Lib.hid hwk; have HPI := Lib.hid hpi; have HOR := Lib.hid hor; have HIK := Lib.hid hik; have HSZ := Lib.hid hsz; have HRG := Lib.hid hrg
         have C9 : Hid (∀ w, Calls Tryz.prog 28 #[.agg #[.bool wi.neg, .string (encS wi.num), .string (encS wi.den)], .agg #[.bool wk.neg, .string (encS wk.num), .string (encS wk.den)]] w fun e w' => e = .returned (.int .i64 mo) ∧ Below w.heap.size w w') := Lib.hid fun w => by
          have h := m1 w;exact h
         have C10 : Hid (∀ w, Calls Tryz.prog 28 #[.agg #[.bool pi_.neg, .string (encS pi_.num), .string (encS pi_.den)], .agg #[.bool pk.neg, .string (encS pk.num), .string (encS pk.den)]] w fun e w' => e = .returned (.int .i64 si) ∧ Below w.heap.size w w') := Lib.hid fun w => by
          have h := m2 w;exact h
         clear m1 m2 hsi hmo hwie hwke hpe2 hwi hwk hpi hor hsz hrg hxi hil hi hik o_i z_i;go_wp2_with fail;clear hik';refine wp_region_vals (w := wr) (by kernel_rfl) (fun j v _ => v = Ewalk_20_4 n k i gw ow ca wi wk mo j) (fun t => (decide (15 ≤ t) && decide (t < 16)) || (decide (90 ≤ t) && decide (t < 99))) (by kernel_rfl) (by kernel_rfl) (by kernel_rfl) (fun _ _ _ _ _ h => h) ?_ ?_
         ·intro i hi ov_ listed av_ w hR K hK;have ho := hR.at_;have hi : i < 10 := hi;have hii : i = 0 ∨ i = 1 ∨ i = 2 ∨ i = 3 ∨ i = 4 ∨ i = 5 ∨ i = 6 ∨ i = 7 ∨ i = 8 ∨ i = 9 := by omega
          rcases hii with rfl | rfl | rfl | rfl | rfl | rfl | rfl | rfl | rfl | rfl
          ·simp at ho;subst ho;have b6 : av_.tmps.getD 6 undef = .slice (some ⟨gw, ow, none⟩) n ca := hR.base 6 (by kernel_rfl);refine plain_step rfl rfl ?_;go_simp;exact hK _ _ rfl rB
          ·simp at ho;subst ho;have b14 : av_.tmps.getD 14 undef = .int .i64 (i : Int) := hR.base 14 (by kernel_rfl);refine plain_step rfl rfl ?_;go_simp;exact hK _ _ rfl rB
          ·simp at ho;subst ho;have e0 : av_.tmps.getD 90 undef = .slice (some ⟨gw, ow, none⟩) n ca := hR.dep ⟨0, .data⟩ (by simp) rfl;have e1 : av_.tmps.getD 91 undef = .int .i64 (i : Int) := hR.dep ⟨1, .data⟩ (by simp) rfl;have q1 : (i : Int) < (n : Int) := by have := HKN.out; have := HIK.out; omega
           refine plain_step rfl rfl ?_;go_simp;exact hK _ _ rfl rB
          ·simp at ho;subst ho;have e2 : av_.tmps.getD 92 undef = .pointer (some ⟨gw, ow + i * 3, none⟩) := hR.dep ⟨2, .data⟩ (by simp) rfl;obtain ⟨d0, d1, d2⟩ := HWI.out w (HB.out.trans (hR.below.mono HB.out.size));refine plain_step rfl rfl ?_;go_simp;exact hK _ _ rfl rB
          ·simp at ho;subst ho;have b6 : av_.tmps.getD 6 undef = .slice (some ⟨gw, ow, none⟩) n ca := hR.base 6 (by kernel_rfl);refine plain_step rfl rfl ?_;go_simp;exact hK _ _ rfl rB
          ·simp at ho;subst ho;have b10 : av_.tmps.getD 10 undef = .int .i64 (k : Int) := hR.base 10 (by kernel_rfl);refine plain_step rfl rfl ?_;go_simp;exact hK _ _ rfl rB
          ·simp at ho;subst ho;have e4 : av_.tmps.getD 94 undef = .slice (some ⟨gw, ow, none⟩) n ca := hR.dep ⟨4, .data⟩ (by simp) rfl;have e5 : av_.tmps.getD 95 undef = .int .i64 (k : Int) := hR.dep ⟨5, .data⟩ (by simp) rfl;have q1 : (k : Int) < (n : Int) := by have := HKN.out; omega
           refine plain_step rfl rfl ?_;go_simp;exact hK _ _ rfl rB
          ·simp at ho;subst ho;have e6 : av_.tmps.getD 96 undef = .pointer (some ⟨gw, ow + k * 3, none⟩) := hR.dep ⟨6, .data⟩ (by simp) rfl;obtain ⟨d0, d1, d2⟩ := HWK.out w (HB.out.trans (hR.below.mono HB.out.size));refine plain_step rfl rfl ?_;go_simp;exact hK _ _ rfl rB
          ·simp at ho;subst ho;have e3 : av_.tmps.getD 93 undef = .agg #[.bool wi.neg, .string (encS wi.num), .string (encS wi.den)] := hR.dep ⟨3, .data⟩ (by simp) rfl;have e7 : av_.tmps.getD 97 undef = .agg #[.bool wk.neg, .string (encS wk.num), .string (encS wk.den)] := hR.dep ⟨7, .data⟩ (by simp) rfl;refine plain_step rfl rfl ?_;go_simp;refine (C9.out w).mono ?_;rintro e w' ⟨rfl, hb⟩;exact hK _ _ (rfl) hb
          ·simp at ho;subst ho;have e8 : av_.tmps.getD 98 undef = .int .i64 mo := hR.dep ⟨8, .data⟩ (by simp) rfl;refine plain_step rfl rfl ?_;go_simp;exact hK _ _ rfl rB
         ·intro sv_ w hS hb;have e9 : sv_ 15 = .int .i64 mo := hS 9 (by decide);simp only [over, Nat.zero_add, Nat.reduceAdd, Nat.reduceLeDiff, Nat.reduceLT, decide_true, decide_false, Bool.and_true, Bool.and_false, Bool.or_false, Bool.or_true, cond_true, cond_false];have HB := mH HB hb;have HX7_1 := uH hb HX7_1;have HX25_4 := uH hb HX25_4;obtain ⟨w12, hw⟩ : ∃ w8, w8 = w := ⟨_, rfl⟩;subst hw;rw [e9];clear hS hb e9;go_wp2_with fail;refine wp_region_vals (w := w12) (by kernel_rfl) (fun j v _ => v = Ewalk_21_5 n k i pk pi_ si bg j) (fun t => (decide (16 ≤ t) && decide (t < 17)) || (decide (99 ≤ t) && decide (t < 108))) (by kernel_rfl) (by kernel_rfl) (by kernel_rfl) (fun _ _ _ _ _ h => h) ?_ ?_
          ·intro i hi ov_ listed av_ w hR K hK;have ho := hR.at_;have hi : i < 10 := hi;have hii : i = 0 ∨ i = 1 ∨ i = 2 ∨ i = 3 ∨ i = 4 ∨ i = 5 ∨ i = 6 ∨ i = 7 ∨ i = 8 ∨ i = 9 := by omega
           rcases hii with rfl | rfl | rfl | rfl | rfl | rfl | rfl | rfl | rfl | rfl
           ·simp at ho;subst ho;have b8 : av_.tmps.getD 8 undef = .slice (some ⟨bg, 0, none⟩) n n := hR.base 8 (by kernel_rfl);refine plain_step rfl rfl ?_;go_simp;exact hK _ _ rfl rB
           ·simp at ho;subst ho;have b14 : av_.tmps.getD 14 undef = .int .i64 (i : Int) := hR.base 14 (by kernel_rfl);refine plain_step rfl rfl ?_;go_simp;exact hK _ _ rfl rB
           ·simp at ho;subst ho;have e0 : av_.tmps.getD 99 undef = .slice (some ⟨bg, 0, none⟩) n n := hR.dep ⟨0, .data⟩ (by simp) rfl;have e1 : av_.tmps.getD 100 undef = .int .i64 (i : Int) := hR.dep ⟨1, .data⟩ (by simp) rfl;have q1 : (i : Int) < (n : Int) := by have := HKN.out; have := HIK.out; omega
            refine plain_step rfl rfl ?_;go_simp;exact hK _ _ rfl rB
           ·simp at ho;subst ho;have e2 : av_.tmps.getD 101 undef = .pointer (some ⟨bg, i * 3, none⟩) := hR.dep ⟨2, .data⟩ (by simp) rfl;obtain ⟨d0, d1, d2⟩ := cel_cells (heap_up hR.below HX25_4.out) HPI.out;refine plain_step rfl rfl ?_;go_simp;exact hK _ _ rfl rB
           ·simp at ho;subst ho;have b8 : av_.tmps.getD 8 undef = .slice (some ⟨bg, 0, none⟩) n n := hR.base 8 (by kernel_rfl);refine plain_step rfl rfl ?_;go_simp;exact hK _ _ rfl rB
           ·simp at ho;subst ho;have b10 : av_.tmps.getD 10 undef = .int .i64 (k : Int) := hR.base 10 (by kernel_rfl);refine plain_step rfl rfl ?_;go_simp;exact hK _ _ rfl rB
           ·simp at ho;subst ho;have e4 : av_.tmps.getD 103 undef = .slice (some ⟨bg, 0, none⟩) n n := hR.dep ⟨4, .data⟩ (by simp) rfl;have e5 : av_.tmps.getD 104 undef = .int .i64 (k : Int) := hR.dep ⟨5, .data⟩ (by simp) rfl;have q1 : (k : Int) < (n : Int) := by have := HKN.out; omega
            refine plain_step rfl rfl ?_;go_simp;exact hK _ _ rfl rB
           ·simp at ho;subst ho;have e6 : av_.tmps.getD 105 undef = .pointer (some ⟨bg, k * 3, none⟩) := hR.dep ⟨6, .data⟩ (by simp) rfl;obtain ⟨d0, d1, d2⟩ := cel_cells (heap_up hR.below HX25_4.out) HPK.out;refine plain_step rfl rfl ?_;go_simp;exact hK _ _ rfl rB
           ·simp at ho;subst ho;have e3 : av_.tmps.getD 102 undef = .agg #[.bool pi_.neg, .string (encS pi_.num), .string (encS pi_.den)] := hR.dep ⟨3, .data⟩ (by simp) rfl;have e7 : av_.tmps.getD 106 undef = .agg #[.bool pk.neg, .string (encS pk.num), .string (encS pk.den)] := hR.dep ⟨7, .data⟩ (by simp) rfl;refine plain_step rfl rfl ?_;go_simp;refine (C10.out w).mono ?_;rintro e w' ⟨rfl, hb⟩;exact hK _ _ (rfl) hb
           ·simp at ho;subst ho;have e8 : av_.tmps.getD 107 undef = .int .i64 si := hR.dep ⟨8, .data⟩ (by simp) rfl;refine plain_step rfl rfl ?_;go_simp;exact hK _ _ rfl rB
          ·intro sv_ w hS hb;have e9 : sv_ 16 = .int .i64 si := hS 9 (by decide);simp only [over, Nat.zero_add, Nat.reduceAdd, Nat.reduceLeDiff, Nat.reduceLT, decide_true, decide_false, Bool.and_true, Bool.and_false, Bool.or_false, Bool.or_true, cond_true, cond_false];have HB := mH HB hb;have HX7_1 := uH hb HX7_1;have HX25_4 := uH hb HX25_4;obtain ⟨w13, hw⟩ : ∃ w8, w8 = w := ⟨_, rfl⟩;subst hw;rw [e9];clear hS hb e9
           by_cases hc : c < 0
           ·have hws : IntKind.i64.wrap (-si) = sz := by have e := HSZ.out; rw [if_pos hc] at e; rw [e]; exact IntWalk.i64_in _ (by have := HRG.out; omega)
            by_cases hmo : 0 ≤ mo
            ·have hz1 := HOR.out.1 hmo; have hz2 : ¬ mo < 0 := by omega
             have hwi : IntKind.i64.wrap ((i : Int) + 1) = ((i + 1 : Nat) : Int) := by rw [IntWalk.i64_in _ (by have := HIK.out; have := HKN.out; have := HLEN.out.2; omega)]; omega
             go_wp2_with fail;clear hws hc hmo hz1 hz2 hwi
             go_roundw
             case rel => exact ⟨i + 1, by have := HIK.out; omega, by first | rfl | go_num, HX7_1, HX25_4, HB⟩
             case measure => have := HIK.out; simp [intOf]; omega
            ·have hz1 := HOR.out.2 (by omega); have hz2 : mo < 0 := by omega
             have hwi : IntKind.i64.wrap ((i : Int) + 1) = ((i + 1 : Nat) : Int) := by rw [IntWalk.i64_in _ (by have := HIK.out; have := HKN.out; have := HLEN.out.2; omega)]; omega
             go_wp2_with fail;clear hws hc hmo hz1 hz2 hwi
             go_roundw
             case rel => exact ⟨i + 1, by have := HIK.out; omega, by first | rfl | go_num, HX7_1, HX25_4, HB⟩
             case measure => have := HIK.out; simp [intOf]; omega
           ·obtain rfl : sz = si := by have e := HSZ.out; rw [if_neg hc] at e; exact e
            by_cases hmo : 0 ≤ mo
            ·have hz1 := HOR.out.1 hmo; have hz2 : ¬ mo < 0 := by omega
             have hwi : IntKind.i64.wrap ((i : Int) + 1) = ((i + 1 : Nat) : Int) := by rw [IntWalk.i64_in _ (by have := HIK.out; have := HKN.out; have := HLEN.out.2; omega)]; omega
             go_wp2_with fail;clear hc hmo hz1 hz2 hwi
             go_roundw
             case rel => exact ⟨i + 1, by have := HIK.out; omega, by first | rfl | go_num, HX7_1, HX25_4, HB⟩
             case measure => have := HIK.out; simp [intOf]; omega
            ·have hz1 := HOR.out.2 (by omega); have hz2 : mo < 0 := by omega
             have hwi : IntKind.i64.wrap ((i : Int) + 1) = ((i + 1 : Nat) : Int) := by rw [IntWalk.i64_in _ (by have := HIK.out; have := HKN.out; have := HLEN.out.2; omega)]; omega
             go_wp2_with fail;clear hc hmo hz1 hz2 hwi
             go_roundw
             case rel => exact ⟨i + 1, by have := HIK.out; omega, by first | rfl | go_num, HX7_1, HX25_4, HB⟩
             case measure => have := HIK.out; simp [intOf]; omega
        ·have hge : ¬ (i : Int) < (k : Int) := by omega
         clear hik hi;have hwk : IntKind.i64.wrap ((k : Int) + 1) = ((k + 1 : Nat) : Int) := by rw [IntWalk.i64_in _ (by have := HKN.out; have := HLEN.out.2; omega)]; omega
         go_wp2_with fail;clear hge hwk
         go_roundw
         case rel => exact ⟨k + 1, by have := HKN.out; omega, by first | rfl | go_num, HX7_1, HX25_4, HB⟩
         case measure => have := HKN.out; simp [intOf]; omega
    ·have hge : ¬ (k : Int) < (n : Int) := by omega
     clear hlt hk;go_wp2_with fail;clear hge;go_ret;exact ⟨rfl, by rw [HNP.out]; exact HBQ.out.trans (HB.out.mono HBQ.out.size)⟩
 ·have h0 := sum_none ho hnn hpos;have hsr : sumL (l.map rawR) zeroR = sumT l := sumT_raw ho;have c2 : ∀ w, Below wq.heap.size wq w → _ := fun w h => MoSplit_no (na := (ofC c).neg) (sa := encS (ofC c).num) (da := encS (ofC c).den) (ls := l.map rawR) (c := c) (okc := true) (fun w => by have h := MoCents_r o_t (z_t.mono (by decide)) w; unfold centsV at h; rw [hck, hci] at h; exact h) (szl_raw hz) (by rw [List.length_map]; omega) (fun _ h => by rw [hsr] at h; exact absurd h hpos) wv w (hl.up h)
  have c3 : ∀ w, Below wq.heap.size wq w → _ := fun w h => rSum_any (l.map rawR) wv w (hl.up h) (by rw [List.length_map]; omega) (szl_raw hz)
  have c4 := fun w => rRatSign_r (IsR.of (sumT_ok ho) (sumT_sz ho hz (by omega))) (by decide) w
  rw [hsr] at c3; rw [h0] at c4;obtain ⟨t, ht⟩ : ∃ x, ofC c = x := ⟨_, rfl⟩; rw [ht] at c1 c2;obtain ⟨sm, hsm⟩ : ∃ x, sumT l = x := ⟨_, rfl⟩; rw [hsm] at c3 c4;have C2 : Hid (∀ w, Calls Tryz.prog 14 #[.int .i64 c] w fun e w' => e = .returned (.agg #[.bool t.neg, .string (encS t.num), .string (encS t.den)]) ∧ Below w.heap.size w w') := Lib.hid fun w => by
   have h := c1 w;exact h
  have C3 : Hid (∀ w, Below wq.heap.size wq w → Calls Tryz.prog 19 #[.agg #[.bool t.neg, .string (encS t.num), .string (encS t.den)], wv] w fun e w' => e = .returned (.tuple #[.slice none 0 0, .bool false]) ∧ Below w.heap.size w w') := Lib.hid fun w hp0 => by
   have h := c2 w hp0;exact h
  have C4 : Hid (∀ w, Below wq.heap.size wq w → Calls Tryz.prog 36 #[wv] w fun e w' => e = .returned (.agg #[.bool sm.neg, .string (encS sm.num), .string (encS sm.den)]) ∧ Below w.heap.size w w') := Lib.hid fun w hp0 => by
   have h := c3 w hp0;exact h
  have C5 : Hid (∀ w, Calls Tryz.prog 35 #[.agg #[.bool sm.neg, .string (encS sm.num), .string (encS sm.den)]] w fun e w' => e = .returned (.int .i64 0) ∧ Below w.heap.size w w') := Lib.hid fun w => by
   have h := c4 w;exact h
  clear c1 c2 c3 c4 ht hsm h0 hsr hpos hl hall ho hnn hz hck hci o_t z_t hn8;go_wp2_with fail;refine (C2.out _).mono ?_;rintro e w14 ⟨rfl, hb⟩;have HB := mH HB hb;clear hb;obtain ⟨W15, bk7, hW15, hbk7, HX7_8, HB, HG7_8, hup⟩ := boxn HB HN0 (.cells #[.bool false, .string ⟨#[]⟩, .string ⟨#[]⟩] 26);clear hup;obtain ⟨W16, hW16, HX7_8, HB, ho, f9a, f9b, f9c, k9a, k9b, k9c⟩ := put3 HX7_8 HB HN0 HG7_8 (.bool t.neg) (.string (encS t.num)) (.string (encS t.den));clear ho;obtain ⟨k10a, k10b, k10c⟩ := c3 HX7_8;go_wp2_with fail;clear hW15 hbk7 f9a f9b f9c k9a k9b k9c hW16 k10a k10b k10c;refine (C3.out _ HB.out).mono ?_;rintro e w17 ⟨rfl, hb⟩;have HX7_8 := uH hb HX7_8;have HB := mH HB hb;clear hb;go_wp2_with fail;refine (C4.out _ HB.out).mono ?_;rintro e w18 ⟨rfl, hb⟩;have HX7_8 := uH hb HX7_8;have HB := mH HB hb;clear hb;go_wp2_with fail;refine (C5.out _).mono ?_;rintro e w19 ⟨rfl, hb⟩
  have HX7_8 := uH hb HX7_8;have HB := mH HB hb;clear hb;go_wp2_with fail;go_ret;exact ⟨rfl, by rw [HNP.out]; exact HBQ.out.trans (HB.out.mono HBQ.out.size)⟩
end Go.Proofs.YtabfjecegpaoaaaGreatDoor.moneyParts
