/- MoneyBetween: for every input the law returns true, and each argument reads afterwards as it read before; the listed tables read as the program lays them (the tied card). -/
import Derived.RangeFuncKeeps
import Derived.Lib.ItoaLen
import Derived.Shelf.GgClosure.StringsIndexFunc
import Derived.Lib.AtoiAll
import Derived.Lib.UnsafeStr
import Derived.Deep.LoopGhost
import Derived.Deep.QuietTactic
import Derived.BigQuiet
import Derived.Test.YtabfjecegpaoaaaGreatDoorProg
import Derived.WalkKit
import Derived.WalkSpells
import Derived.WalkLawsBesides
import Derived.IntWalk
import Derived.Lib.Hide
import Derived.Laws.BitsAllLaws
import Derived.StillTailTactics
import Derived.Deep.OwnRows
import Derived.Lib.ConvBytes
import Derived.Below
import Derived.RangeFuncNested
import Derived.RangeFuncCalls
import Derived.RangeFuncLeaves
import Derived.Shelf.Abstract
import Derived.Lib.LaidIn
import Derived.RegionTactic
import Derived.KernelRfl
import Derived.OrdersIn
import Derived.Shelf.Strings.Builder1
import Derived.Shelf.Strings.Builder2
import Derived.Shelf.Strings.Trim
import Derived.Shelf.Small.Utf8
import Derived.Shelf.Small.Bits
import Derived.Shelf.Small.Strs
import Derived.Shelf.Strings.BuilderF
import Derived.Shelf.Strings.BuilderK
import Derived.Shelf.Strings.Builder2Cap
import Derived.Shelf.Strconv.Atoi
import Derived.Shelf.Strconv.Itoa0
import Derived.Shelf.Strconv.Itoa1
import Derived.Shelf.LaysM
import Derived.Shelf.Strconv.Itoa2
import Derived.Shelf.Strconv.Itoa3
import Derived.Shelf.Strconv.AtoiErrFast
import Derived.Shelf.Strconv.ParseIntEmpty
import Derived.Shelf.Strconv.AtoiFail
import Derived.Shelf.Strconv.Clone
import Derived.Shelf.Strconv.SyntaxError
import Derived.Shelf.LaysC
import Derived.Shelf.Strconv.ToError
import Derived.Shelf.Strconv.Lower
import Derived.Shelf.Strconv.ParseUint10
import Derived.Shelf.Strconv.ParseUint10Empty
import Derived.Shelf.Strconv.ParseUint10Any
import Derived.Shelf.Strconv.ParseInt10
import Derived.Shelf.Strconv.AtoiLong
import Derived.Shelf.Strconv.AtoiInnerAll
import Derived.Shelf.Strconv.RangeError
import Derived.Shelf.Strconv.ToErrorRange
import Derived.Shelf.Strconv.AtoiAll
import Derived.Shelf.Strconv.ErrVarAll
import Derived.Shelf.Strconv.ParseUintEmpty
import Derived.Shelf.Strconv.ParseUint10b64
import Derived.Shelf.Strconv.ParseUint10b32
import Derived.Shelf.Strconv.ParseUint10b16
import Derived.Shelf.Strconv.ParseUint10b8
import Derived.Shelf.Strconv.ParseUint10At
import Derived.Shelf.Strconv.ParseInt10At64
import Derived.Shelf.Strconv.ParseInt10At32
import Derived.Shelf.Strconv.ParseInt10At16
import Derived.Shelf.Strconv.ParseInt10At8
import Derived.Shelf.Strconv.ParseInt10All
import Derived.Shelf.Strings.Search1
import Derived.Ground.GgwProg
import Derived.Shelf.GgClosure.StringsIndexFuncTop
import Derived.Shelf.GgClosure.StringsRunes
import Derived.Shelf.Strings.Prefix
import Derived.Shelf.Strings.Runes
import Derived.Shelf.Strings.AsciiSet
import Derived.Shelf.Bits.Mul64
import Derived.Shelf.Strings.Repeat
import Derived.Shelf.Unicode.DecodeSlow
import Derived.Shelf.Unicode.DecodeAny
import Derived.Shelf.Strings.FuncGrows
import Derived.Shelf.Strings.BuilderCap
import Derived.Lib.AppendIntMem
import Derived.Lib.ItoaNum
import Derived.Lib.Itoa
import Derived.Laws.AppendOwnNone
import Derived.OwnWalkIn
import Derived.TacticsInMore
import Derived.LoopNIn
import Derived.LoopIn
import Derived.Lib.IndexMore
import Derived.Test.YtabfjecegpaoaaaGreatDoorYd3
import Derived.Test.YtabfjecegpaoaaaGreatDoorYd2
import Derived.Test.YtabfjecegpaoaaaGreatDoorYc7
import Derived.Test.YtabfjecegpaoaaaGreatDoorYc6
import Derived.Test.YtabfjecegpaoaaaGreatDoorYb9
import Derived.Test.YtabfjecegpaoaaaGreatDoorYb3
import Derived.Test.YtabfjecegpaoaaaGreatDoorYb1
import Derived.Test.YtabfjecegpaoaaaGreatDoorYa6
import Derived.Test.YtabfjecegpaoaaaGreatDoorK5a3
import Derived.Test.YtabfjecegpaoaaaGreatDoorYb0
import Derived.Test.YtabfjecegpaoaaaGreatDoorYa5
import Derived.Test.YtabfjecegpaoaaaGreatDoorYa4
import Derived.Test.YtabfjecegpaoaaaGreatDoorYa3
import Derived.Test.YtabfjecegpaoaaaGreatDoorYa0
import Derived.Test.YtabfjecegpaoaaaGreatDoorYa1
import Derived.Test.YtabfjecegpaoaaaGreatDoorYa2
import Derived.Test.YtabfjecegpaoaaaGreatDoorYa9
import Derived.Test.YtabfjecegpaoaaaGreatDoorYa8
import Derived.Test.YtabfjecegpaoaaaGreatDoorK5a0
import Derived.Test.YtabfjecegpaoaaaGreatDoorYb2
import Derived.Test.YtabfjecegpaoaaaGreatDoorYb7
import Derived.Test.YtabfjecegpaoaaaGreatDoorYb6
import Derived.Test.YtabfjecegpaoaaaGreatDoorYb5
import Derived.Test.YtabfjecegpaoaaaGreatDoorYb4
import Derived.Test.YtabfjecegpaoaaaGreatDoorYb8
import Derived.Test.YtabfjecegpaoaaaGreatDoorK5a2
import Derived.Test.YtabfjecegpaoaaaGreatDoorYc1
import Derived.Test.YtabfjecegpaoaaaGreatDoorYc0
import Derived.Test.YtabfjecegpaoaaaGreatDoorYc5
import Derived.Test.YtabfjecegpaoaaaGreatDoorYc4
import Derived.Test.YtabfjecegpaoaaaGreatDoorYc3
import Derived.Test.YtabfjecegpaoaaaGreatDoorYc2
import Derived.Test.YtabfjecegpaoaaaGreatDoorYc8
import Derived.Test.YtabfjecegpaoaaaGreatDoorYc9
import Derived.Test.YtabfjecegpaoaaaGreatDoorYd1
import Derived.Test.YtabfjecegpaoaaaGreatDoorYd0
import Derived.Test.YtabfjecegpaoaaaGreatDoorK5a1
namespace Go.Proofs.YtabfjecegpaoaaaGreatDoor.moneyBetween
open Go.RowKit Go.Shelf
open Dgt
set_option linter.unusedVariables false
theorem enc_one : encS 1 = ⟨#[1]⟩ := by decide +kernel
theorem nn_neg {a : Rt} (ha : a.Ok) (h : 0 ≤ a.q) : a.neg = false := by
 cases hn : a.neg
 ·rfl
 ·have h1 : sgnR a = -1 := by
   have := ha.nz hn;unfold sgnR;rw [if_neg (by omega), hn]; rfl
  have := (q_sgn ha).2.2.1 h1
  grind
theorem lt_cmp {a b : Rt} (ha : a.Ok) (hb : b.Ok) (h : a.q < b.q) : cmpR a b = -1 := by
 rw [cmpR_q ha hb, sgQ_eqm]; grind
theorem step_pos {s : Rt} (h : s.Ok) (h1 : s.neg = false) (h2 : s.num ≠ 0) : 0 < s.q := by
 have h3 := nn_q h h1
 by_cases h4 : s.q = 0
 ·exact absurd ((q_eq_zero h).1 h4) h2
 ·grind
theorem mult_facts {m s : Rt} (hm : m.Ok) (hs : s.Ok) (h : 0 < s.q) (z : Rz m 200) (j : Int) (hj : m.q = (j : Rat) * s.q) : m.Ok ∧ Rz m 200 ∧ (quoR m s).den = 1 ∧ downR m s = m ∧ upR m s = m :=
 ⟨hm, z, quo_mult hm hs h j hj, down_mult hm hs h j hj, up_mult hm hs h j hj⟩
theorem mults {a s : Rt} (ha : a.Ok) (hs : s.Ok) (za : Rz a 32) (zs : Rz s 32) (h : 0 < s.q) : ∀ k, k < 3 → ∃ m, [downR a s, upR a s, nearR a s][k]? = some m ∧ m.Ok ∧ Rz m 200 ∧ (quoR m s).den = 1 ∧ downR m s = m ∧ upR m s = m := by
 have hn := num_ne hs h;intro k hk;have hkk : k = 0 ∨ k = 1 ∨ k = 2 := by omega
 rcases hkk with rfl | rfl | rfl
 ·exact ⟨_, rfl, mult_facts (downR_ok hs) hs h ((down_sz ha hs hn za zs).mono (by decide)) _ (q_downp ha hs h)⟩
 ·exact ⟨_, rfl, mult_facts (upR_ok hs) hs h ((up_sz ha hs hn za zs).mono (by decide)) _ (q_up ha hs h)⟩
 ·exact ⟨_, rfl, mult_facts (nearR_ok hs) hs h ((near_sz ha hs hn za zs).mono (by decide)) _ (q_near ha hs h)⟩
def Ewalk_2_1 (x0 : Int) (x1 : Int) (x2 : Int) (s0 : Int) (s1 : Int) (s2 : Int) (ws : Nat) : Nat → Value
 | 0 => .agg #[.int .i64 x0, .int .i64 x1, .int .i64 x2]
 | 2 => .agg #[.int .i64 s0, .int .i64 s1, .int .i64 s2]
 | _ => undef
def Swalk_2_1 (x0 : Int) (x1 : Int) (x2 : Int) (s0 : Int) (s1 : Int) (s2 : Int) (ws : Nat) (ix : Nat) (v : Value) (w : World) : Prop :=
 match ix with
 | 1 => ∃ m : Rt, v = .agg #[.bool m.neg, .string (encS m.num), .string (encS m.den)] ∧ m.Ok ∧ Rz m 32
 | 3 => ∃ m : Rt, v = .agg #[.bool m.neg, .string (encS m.num), .string (encS m.den)] ∧ m.Ok ∧ Rz m 32 ∧ m.neg = false ∧ m.num ≠ 0
 | 4 => ∃ g, v = .pointer (some ⟨g, 0, none⟩) ∧ ws ≤ g ∧ w.heap[g]? = some (.cells #[.bool false, .string ⟨#[]⟩, .string ⟨#[]⟩] 26 (0, 0))
 | 5 => ∃ g, v = .pointer (some ⟨g, 0, none⟩) ∧ ws ≤ g ∧ w.heap[g]? = some (.cells #[.bool false, .string ⟨#[]⟩, .string ⟨#[]⟩] 26 (0, 0))
 | ix => v = Ewalk_2_1 x0 x1 x2 s0 s1 s2 ws ix
theorem Swalk_2_1_up (x0 : Int) (x1 : Int) (x2 : Int) (s0 : Int) (s1 : Int) (s2 : Int) (ws : Nat) (ix : Nat) (v : Value) (w w' : World) (hb : Below w.heap.size w w') (h : Swalk_2_1 x0 x1 x2 s0 s1 s2 ws ix v w) : Swalk_2_1 x0 x1 x2 s0 s1 s2 ws ix v w' := by
 unfold Swalk_2_1 at h ⊢
 split at h
 ·exact h
 ·exact h
 ·exact by obtain ⟨g, e1, e2, e3⟩ := h; exact ⟨g, e1, e2, heap_up hb e3⟩
 ·exact by obtain ⟨g, e1, e2, e3⟩ := h; exact ⟨g, e1, e2, heap_up hb e3⟩
 ·exact h
set_option maxHeartbeats 8000000 in
set_option maxRecDepth 100000 in
theorem walk (x0 x1 x2 s0 s1 s2 : Int) (rx0 : inJ x0) (rx1 : inJ x1) (rx2 : inJ x2) (rs0 : inJ s0) (rs1 : inJ s1) (rs2 : inJ s2) (wq : World) (htab : Lib.TabIs Tryz.prog wq "internal/strconv.uint64pow10" .u64 Lib.pow10Tab) :
  Calls Tryz.prog 5 #[.agg #[.int .i64 x0, .int .i64 x1, .int .i64 x2], .agg #[.int .i64 s0, .int .i64 s1, .int .i64 s2]] wq fun e w' => e = .returned (.bool true) ∧ Below wq.heap.size wq w' := by
 have HT := Lib.hid (Lib.tabBelow_of_tabIs htab); clear htab;have C1 : Hid (∀ w, Below wq.heap.size wq w → Calls Tryz.prog 11 #[] w fun e w' => e = .returned (.bool true) ∧ Below w.heap.size w w') := Lib.hid fun w hp0 => by
  exact sanity_any w (HT.out.on hp0).here
 have C2 : Hid (∀ w, Calls Tryz.prog 12 #[.agg #[.int .i64 x0, .int .i64 x1, .int .i64 x2]] w fun e w' => ∃ m : Rt, e = .returned (.agg #[.bool m.neg, .string (encS m.num), .string (encS m.den)]) ∧ m.Ok ∧ Rz m 32 ∧ Below w.heap.size w w') := Lib.hid fun w => by
  exact Made_r x0 x1 x2 w rx0 rx1 rx2
 have C3 : Hid (∀ w, Calls Tryz.prog 13 #[.agg #[.int .i64 s0, .int .i64 s1, .int .i64 s2]] w fun e w' => ∃ m : Rt, e = .returned (.agg #[.bool m.neg, .string (encS m.num), .string (encS m.den)]) ∧ m.Ok ∧ Rz m 32 ∧ m.neg = false ∧ m.num ≠ 0 ∧ Below w.heap.size w w') := Lib.hid fun w => by
  exact Step_r s0 s1 s2 rs0 rs1 rs2 w
 clear rx0 rx1 rx2 rs0 rs1 rs2;have HB := Lib.hid (Below.refl wq.heap.size wq);obtain ⟨n0, hn0⟩ : ∃ n, n = wq.heap.size := ⟨_, rfl⟩; rw [← hn0]; have HN0 := Lib.hid hn0; clear hn0;go_enter Tryz.func5, Tryz.ntmps5;obtain ⟨W1, bk2, hW1, hbk2, HX2_1, HB, HG2_1, hup⟩ := boxn HB HN0 (.cells #[.int .i64 x0, .int .i64 x1, .int .i64 x2] 22);clear hup;obtain ⟨W2, bk3, hW2, hbk3, HX3_2, HB, HG3_2, hup⟩ := boxn HB HN0 (.cells #[.int .i64 s0, .int .i64 s1, .int .i64 s2] 22);have HL3_2 := (hup _ _ HX2_1).2;have HX2_1 := (hup _ _ HX2_1).1;clear hup;go_wp2_with fail;clear hW1 hbk2 hW2 hbk3;refine (C1.out _ HB.out).mono ?_;rintro e w3 ⟨rfl, hb⟩;have HX2_1 := uH hb HX2_1;have HX3_2 := uH hb HX3_2;have HB := mH HB hb;clear hb;go_wp2_with fail
 refine wp_region_tailW (w := w3) (by kernel_rfl) (Swalk_2_1 x0 x1 x2 s0 s1 s2 w3.heap.size) (fun i => i == 4 || i == 5) 6 (fun t => (decide (6 ≤ t) && decide (t < 8)) || (decide (25 ≤ t) && decide (t < 29))) (by decide) (by kernel_rfl) (by kernel_rfl) (by kernel_rfl) (by kernel_rfl) (by kernel_rfl) (Swalk_2_1_up x0 x1 x2 s0 s1 s2 w3.heap.size) ?_ ?_
 ·intro i hi ov_ listed av_ w hR K hK;have ho := hR.at_;have hi : i < 6 := hi;have hii : i = 0 ∨ i = 1 ∨ i = 2 ∨ i = 3 ∨ i = 4 ∨ i = 5 := by omega
  rcases hii with rfl | rfl | rfl | rfl | rfl | rfl
  ·simp at ho;subst ho;have b2 : av_.tmps.getD 2 undef = .pointer (some ⟨bk2, 0, none⟩) := hR.base 2 (by kernel_rfl);obtain ⟨cx0, cx1, cx2⟩ := c3 (uH hR.below HX2_1);refine plain_step rfl rfl ?_;go_simp;exact hK _ _ rfl rB (fun h => absurd h (by decide))
  ·simp at ho;subst ho;have e0 : av_.tmps.getD 25 undef = .agg #[.int .i64 x0, .int .i64 x1, .int .i64 x2] := hR.dep ⟨0, .data⟩ (by simp) rfl (by decide);refine plain_step rfl rfl ?_;go_simp;refine (C2.out w).mono ?_;rintro e w' ⟨m, rfl, h0, h1, hb⟩;exact hK _ _ (⟨m, rfl, h0, h1⟩) hb (fun h => absurd h (by decide))
  ·simp at ho;subst ho;have b3 : av_.tmps.getD 3 undef = .pointer (some ⟨bk3, 0, none⟩) := hR.base 3 (by kernel_rfl);obtain ⟨cx0, cx1, cx2⟩ := c3 (uH hR.below HX3_2);refine plain_step rfl rfl ?_;go_simp;exact hK _ _ rfl rB (fun h => absurd h (by decide))
  ·simp at ho;subst ho;have e2 : av_.tmps.getD 27 undef = .agg #[.int .i64 s0, .int .i64 s1, .int .i64 s2] := hR.dep ⟨2, .data⟩ (by simp) rfl (by decide);refine plain_step rfl rfl ?_;go_simp;refine (C3.out w).mono ?_;rintro e w' ⟨m, rfl, h0, h1, h2, h3, hb⟩;exact hK _ _ (⟨m, rfl, h0, h1, h2, h3⟩) hb (fun h => absurd h (by decide))
  ·simp at ho;subst ho;refine plain_step rfl rfl ?_;go_simp;exact hK _ _ (⟨_, rfl, hR.below.size, heap_alloc_new _ _⟩) (rB.alloc (Nat.le_refl _) _) (fun _ => ⟨_, rfl, Nat.le_refl _, alloc_lt _ _⟩)
  ·simp at ho;subst ho;refine plain_step rfl rfl ?_;go_simp;exact hK _ _ (⟨_, rfl, hR.below.size, heap_alloc_new _ _⟩) (rB.alloc (Nat.le_refl _) _) (fun _ => ⟨_, rfl, Nat.le_refl _, alloc_lt _ _⟩)
 ·intro sv_ w hS hb hne;have e1 := hS 1 (by decide);have e3 := hS 3 (by decide);have e4 := hS 4 (by decide);have e5 := hS 5 (by decide);simp only [over, Nat.zero_add, Nat.reduceAdd, Nat.reduceLeDiff, Nat.reduceLT, decide_true, decide_false, Bool.and_true, Bool.and_false, Bool.or_false, Bool.or_true, cond_true, cond_false];obtain ⟨a, e1b, o_a, z_a⟩ : ∃ m : Rt, sv_ 26 = .agg #[.bool m.neg, .string (encS m.num), .string (encS m.den)] ∧ m.Ok ∧ Rz m 32 := e1
  try clear e1
  have e1 := e1b; clear e1b;have HHo_a := Lib.hid o_a; clear o_a;have HHz_a := Lib.hid z_a; clear z_a;obtain ⟨st, e3b, o_st, z_st, g_st, u_st⟩ : ∃ m : Rt, sv_ 28 = .agg #[.bool m.neg, .string (encS m.num), .string (encS m.den)] ∧ m.Ok ∧ Rz m 32 ∧ m.neg = false ∧ m.num ≠ 0 := e3
  try clear e3
  have e3 := e3b; clear e3b;have HHo_st := Lib.hid o_st; clear o_st;have HHz_st := Lib.hid z_st; clear z_st;have HHg_st := Lib.hid g_st; clear g_st;have HHu_st := Lib.hid u_st; clear u_st;obtain ⟨bk6, e4b, hg, hN⟩ : ∃ g, sv_ 6 = .pointer (some ⟨g, 0, none⟩) ∧ w3.heap.size ≤ g ∧ w.heap[g]? = some (.cells #[.bool false, .string ⟨#[]⟩, .string ⟨#[]⟩] 26 (0, 0)) := e4;have HG6_3 : Hid (n0 ≤ bk6) := Lib.hid (by rw [HN0.out]; exact Nat.le_trans HB.out.size hg);have HL6_3 := Lib.hid (Nat.lt_of_lt_of_le (Array.getElem?_eq_some_iff.1 HX3_2.out).1 hg);have HS6_3 := Lib.hid hg;have HX6_3 := Lib.hid hN; clear hN hg
  try clear e4
  have e4 := e4b; clear e4b;obtain ⟨bk7, e5b, hg, hN⟩ : ∃ g, sv_ 7 = .pointer (some ⟨g, 0, none⟩) ∧ w3.heap.size ≤ g ∧ w.heap[g]? = some (.cells #[.bool false, .string ⟨#[]⟩, .string ⟨#[]⟩] 26 (0, 0)) := e5;have HG7_4 : Hid (n0 ≤ bk7) := Lib.hid (by rw [HN0.out]; exact Nat.le_trans HB.out.size hg);have HL7_4 := Lib.hid (Nat.lt_of_lt_of_le (Array.getElem?_eq_some_iff.1 HX3_2.out).1 hg);have HS7_4 := Lib.hid hg;have HX7_4 := Lib.hid hN; clear hN hg
  try clear e5
  have e5 := e5b; clear e5b;have HM6_3_bk2 : Hid (bk2 ≠ bk6) := Lib.hid (by have := (Array.getElem?_eq_some_iff.1 HX2_1.out).1; have := HS6_3.out; omega);have HM6_3_bk3 : Hid (bk3 ≠ bk6) := Lib.hid (by have := (Array.getElem?_eq_some_iff.1 HX3_2.out).1; have := HS6_3.out; omega);have hq := hne 4 5 rfl rfl (by decide) (by decide) (by decide);have hq : sv_ 6 ≠ sv_ 7 := hq; rw [e4, e5] at hq;have HQ6_3_7_4 : Hid (bk6 ≠ bk7) := Lib.hid (fun h => hq (by rw [h])); clear hq;clear hne;have HX2_1 := uH hb HX2_1;have HX3_2 := uH hb HX3_2;have HB := mH HB hb;obtain ⟨w4, hw⟩ : ∃ w8, w8 = w := ⟨_, rfl⟩;subst hw;rw [e1, e3, e4, e5];clear hS hb e1 e3 e4 e5;obtain ⟨W5, hW5, HX6_3, HB, ho, f5a, f5b, f5c, k5a, k5b, k5c⟩ := put3 HX6_3 HB HN0 HG6_3 (.bool a.neg) (.string (encS a.num)) (.string (encS a.den));have HX2_1 := ho _ _ (fun hc => HM6_3_bk2.out hc.symm) HX2_1
  have HX3_2 := ho _ _ (fun hc => HM6_3_bk3.out hc.symm) HX3_2;have HX7_4 := ho _ _ HQ6_3_7_4.out HX7_4;clear ho;refine tail_step (n := 1) rfl rfl ?_;go_simp
  try rw [hW5]
  clear f5a f5b f5c k5a k5b k5c hW5;obtain ⟨W6, hW6, HX7_4, HB, ho, f6a, f6b, f6c, k6a, k6b, k6c⟩ := put3 HX7_4 HB HN0 HG7_4 (.bool st.neg) (.string (encS st.num)) (.string (encS st.den));have HX2_1 := ho _ _ (by have h0 := HL3_2.out; have h1 := HL7_4.out; omega) HX2_1;have HX3_2 := ho _ _ (by have h1 := HL7_4.out; omega) HX3_2;have HX6_3 := ho _ _ (fun hc => HQ6_3_7_4.out hc.symm) HX6_3;clear ho;refine tail_step (n := 0) rfl rfl ?_;go_simp
  try rw [hW6]
  clear f6a f6b f6c k6a k6b k6c hW6;simp only [wpTail];have o_a := HHo_a.out; clear HHo_a;have z_a := HHz_a.out; clear HHz_a;have o_st := HHo_st.out; clear HHo_st;have z_st := HHz_st.out; clear HHz_st;have g_st := HHg_st.out; clear HHg_st;have u_st := HHu_st.out; clear HHu_st;have hs0 : 0 < st.q := step_pos o_st g_st u_st;have hp : 0 < sgnR st := by rw [(q_sgn o_st).2.1.2 hs0]; decide
  have c1 := fun w => MoDown_r o_a o_st (z_a.mono (show 32 ≤ 9000 by decide)) (z_st.mono (show 32 ≤ 9000 by decide)) hp w
  have c2 := fun w => MoUp_r o_a o_st (z_a.mono (show 32 ≤ 9000 by decide)) (z_st.mono (show 32 ≤ 9000 by decide)) hp w
  have c3 := fun w => MoNear_r o_a o_st (z_a.mono (show 32 ≤ 9000 by decide)) (z_st.mono (show 32 ≤ 9000 by decide)) hp w
  have c4 := fun w => rRatSub_r (IsR.of o_a (z_a.mono (show 32 ≤ 200 by decide))) (IsR.of (downR_ok o_st) ((down_sz o_a o_st u_st z_a z_st).mono (show _ ≤ 200 by decide))) (by decide) (by decide) w
  have c5 := fun w => rRatSub_r (IsR.of (upR_ok o_st) ((up_sz o_a o_st u_st z_a z_st).mono (show _ ≤ 200 by decide))) (IsR.of o_a (z_a.mono (show 32 ≤ 200 by decide))) (by decide) (by decide) w
  have o_l : (subR a (downR a st)).Ok := subR_ok o_a (downR_ok o_st); have o_h : (subR (upR a st) a).Ok := subR_ok (upR_ok o_st) o_a;have z_l : Rz (subR a (downR a st)) 401 := subR_sz (z_a.mono (show 32 ≤ 200 by decide)) ((down_sz o_a o_st u_st z_a z_st).mono (show _ ≤ 200 by decide));have z_h : Rz (subR (upR a st) a) 401 := subR_sz ((up_sz o_a o_st u_st z_a z_st).mono (show _ ≤ 200 by decide)) (z_a.mono (show 32 ≤ 200 by decide));have b1 := below_le o_a o_st hs0; have b2 := above_le o_a o_st hs0;have n1 := nn_neg o_l b1.1; have n2 := nn_neg o_h b2.1;have hnw := near_which o_a o_st hs0;have HMS := Lib.hid (mults o_a o_st z_a z_st hs0);have c6 := fun w => rRatCmp_r (IsR.of o_l z_l) (IsR.of o_st (z_st.mono (show 32 ≤ 401 by decide))) (by decide) (by decide) w
  have c7 := fun w => rRatCmp_r (IsR.of o_h z_h) (IsR.of o_st (z_st.mono (show 32 ≤ 401 by decide))) (by decide) (by decide) w
  have c8 := fun w => rRatCmp_r (IsR.of o_l z_l) (IsR.of o_h z_h) (by decide) (by decide) w
  rw [lt_cmp o_l o_st b1.2] at c6; rw [lt_cmp o_h o_st b2.2] at c7;obtain ⟨vd, hd⟩ : ∃ x, downR a st = x := ⟨_, rfl⟩; rw [hd] at c1 c4 c6 c8 HMS hnw o_l z_l n1;obtain ⟨vu, hu⟩ : ∃ x, upR a st = x := ⟨_, rfl⟩; rw [hu] at c2 c5 c7 c8 HMS hnw o_h z_h n2;obtain ⟨vn, hn⟩ : ∃ x, nearR a st = x := ⟨_, rfl⟩; rw [hn] at c3 HMS hnw;obtain ⟨lo, hl⟩ : ∃ x, subR a vd = x := ⟨_, rfl⟩; rw [hl] at c4 c6 c8 hnw n1;obtain ⟨hi, hh⟩ : ∃ x, subR vu a = x := ⟨_, rfl⟩; rw [hh] at c5 c7 c8 hnw n2;obtain ⟨cm, hcm⟩ : ∃ x, cmpR lo hi = x := ⟨_, rfl⟩; rw [hcm] at c8 hnw;have HNW := Lib.hid hnw; have HOS := Lib.hid (And.intro o_st (And.intro z_st hp))
  have C4 : Hid (∀ w, Calls Tryz.prog 23 #[.agg #[.bool a.neg, .string (encS a.num), .string (encS a.den)], .agg #[.bool st.neg, .string (encS st.num), .string (encS st.den)]] w fun e w' => e = .returned (.tuple #[.agg #[.bool vd.neg, .string (encS vd.num), .string (encS vd.den)], .bool true]) ∧ Below w.heap.size w w') := Lib.hid fun w => by
   have h := c1 w;exact h
  have C5 : Hid (∀ w, Calls Tryz.prog 24 #[.agg #[.bool a.neg, .string (encS a.num), .string (encS a.den)], .agg #[.bool st.neg, .string (encS st.num), .string (encS st.den)]] w fun e w' => e = .returned (.tuple #[.agg #[.bool vu.neg, .string (encS vu.num), .string (encS vu.den)], .bool true]) ∧ Below w.heap.size w w') := Lib.hid fun w => by
   have h := c2 w;exact h
  have C6 : Hid (∀ w, Calls Tryz.prog 25 #[.agg #[.bool a.neg, .string (encS a.num), .string (encS a.den)], .agg #[.bool st.neg, .string (encS st.num), .string (encS st.den)]] w fun e w' => e = .returned (.tuple #[.agg #[.bool vn.neg, .string (encS vn.num), .string (encS vn.den)], .bool true]) ∧ Below w.heap.size w w') := Lib.hid fun w => by
   have h := c3 w;exact h
  have C7 : Hid (∀ w, Calls Tryz.prog 27 #[.agg #[.bool a.neg, .string (encS a.num), .string (encS a.den)], .agg #[.bool vd.neg, .string (encS vd.num), .string (encS vd.den)]] w fun e w' => e = .returned (.agg #[.bool false, .string (encS lo.num), .string (encS lo.den)]) ∧ Below w.heap.size w w') := Lib.hid fun w => by
   have h := c4 w;unfold rtV at h; rw [n1] at h;exact h
  have C8 : Hid (∀ w, Calls Tryz.prog 27 #[.agg #[.bool vu.neg, .string (encS vu.num), .string (encS vu.den)], .agg #[.bool a.neg, .string (encS a.num), .string (encS a.den)]] w fun e w' => e = .returned (.agg #[.bool false, .string (encS hi.num), .string (encS hi.den)]) ∧ Below w.heap.size w w') := Lib.hid fun w => by
   have h := c5 w;unfold rtV at h; rw [n2] at h;exact h
  have C9 : Hid (∀ w, Calls Tryz.prog 28 #[.agg #[.bool false, .string (encS lo.num), .string (encS lo.den)], .agg #[.bool st.neg, .string (encS st.num), .string (encS st.den)]] w fun e w' => e = .returned (.int .i64 (-1)) ∧ Below w.heap.size w w') := Lib.hid fun w => by
   have h := c6 w;unfold rtV at h; rw [n1] at h;exact h
  have C10 : Hid (∀ w, Calls Tryz.prog 28 #[.agg #[.bool false, .string (encS hi.num), .string (encS hi.den)], .agg #[.bool st.neg, .string (encS st.num), .string (encS st.den)]] w fun e w' => e = .returned (.int .i64 (-1)) ∧ Below w.heap.size w w') := Lib.hid fun w => by
   have h := c7 w;unfold rtV at h; rw [n2] at h;exact h
  have C11 : Hid (∀ w, Calls Tryz.prog 28 #[.agg #[.bool false, .string (encS lo.num), .string (encS lo.den)], .agg #[.bool false, .string (encS hi.num), .string (encS hi.den)]] w fun e w' => e = .returned (.int .i64 cm) ∧ Below w.heap.size w w') := Lib.hid fun w => by
   have h := c8 w;unfold rtV at h; rw [n1, n2] at h;exact h
  clear c1 c2 c3 c4 c5 c6 c7 c8 hd hu hn hl hh hcm hnw n1 n2 b1 b2 o_l o_h z_l z_h hs0 hp o_a z_a o_st z_st g_st u_st;obtain ⟨k7a, k7b, k7c⟩ := c3 HX6_3;obtain ⟨k8a, k8b, k8c⟩ := c3 HX7_4;go_wp2_with fail;clear k7a k7b k7c k8a k8b k8c;refine (C4.out _).mono ?_;rintro e w7 ⟨rfl, hb⟩;have HX2_1 := uH hb HX2_1;have HX3_2 := uH hb HX3_2;have HX6_3 := uH hb HX6_3;have HX7_4 := uH hb HX7_4;have HB := mH HB hb;clear hb;obtain ⟨W8, bk8, hW8, hbk8, HX8_9, HB, HG8_9, hup⟩ := boxn HB HN0 (.cells #[.bool false, .string ⟨#[]⟩, .string ⟨#[]⟩] 26);have HL8_9 := (hup _ _ HX7_4).2;have HM8_9_bk6 := Lib.hid (Nat.ne_of_lt (hup _ _ HX6_3).2.out);have HX2_1 := (hup _ _ HX2_1).1;have HX3_2 := (hup _ _ HX3_2).1;have HX6_3 := (hup _ _ HX6_3).1;have HX7_4 := (hup _ _ HX7_4).1;clear hup
  obtain ⟨W9, hW9, HX8_9, HB, ho, f10a, f10b, f10c, k10a, k10b, k10c⟩ := put3 HX8_9 HB HN0 HG8_9 (.bool vd.neg) (.string (encS vd.num)) (.string (encS vd.den));have HX2_1 := ho _ _ (by have h0 := HL3_2.out; have h1 := HL7_4.out; have h2 := HL8_9.out; omega) HX2_1;have HX3_2 := ho _ _ (by have h1 := HL7_4.out; have h2 := HL8_9.out; omega) HX3_2;have HX6_3 := ho _ _ (fun hc => HM8_9_bk6.out hc.symm) HX6_3;have HX7_4 := ho _ _ (by have h2 := HL8_9.out; omega) HX7_4;clear ho;obtain ⟨k11a, k11b, k11c⟩ := c3 HX6_3;obtain ⟨k12a, k12b, k12c⟩ := c3 HX7_4;go_wp2_with fail;clear hW8 hbk8 f10a f10b f10c k10a k10b k10c hW9 k11a k11b k11c k12a k12b k12c;refine (C5.out _).mono ?_;rintro e w10 ⟨rfl, hb⟩;have HX2_1 := uH hb HX2_1;have HX3_2 := uH hb HX3_2;have HX6_3 := uH hb HX6_3;have HX7_4 := uH hb HX7_4;have HX8_9 := uH hb HX8_9;have HB := mH HB hb;clear hb
  obtain ⟨W11, bk10, hW11, hbk10, HX10_13, HB, HG10_13, hup⟩ := boxn HB HN0 (.cells #[.bool false, .string ⟨#[]⟩, .string ⟨#[]⟩] 26);have HL10_13 := (hup _ _ HX8_9).2;have HM10_13_bk6 := Lib.hid (Nat.ne_of_lt (hup _ _ HX6_3).2.out);have HX2_1 := (hup _ _ HX2_1).1;have HX3_2 := (hup _ _ HX3_2).1;have HX6_3 := (hup _ _ HX6_3).1;have HX7_4 := (hup _ _ HX7_4).1;have HX8_9 := (hup _ _ HX8_9).1;clear hup;obtain ⟨W12, hW12, HX10_13, HB, ho, f14a, f14b, f14c, k14a, k14b, k14c⟩ := put3 HX10_13 HB HN0 HG10_13 (.bool vu.neg) (.string (encS vu.num)) (.string (encS vu.den));have HX2_1 := ho _ _ (by have h0 := HL3_2.out; have h1 := HL7_4.out; have h2 := HL8_9.out; have h3 := HL10_13.out; omega) HX2_1;have HX3_2 := ho _ _ (by have h1 := HL7_4.out; have h2 := HL8_9.out; have h3 := HL10_13.out; omega) HX3_2;have HX6_3 := ho _ _ (fun hc => HM10_13_bk6.out hc.symm) HX6_3
  have HX7_4 := ho _ _ (by have h2 := HL8_9.out; have h3 := HL10_13.out; omega) HX7_4;have HX8_9 := ho _ _ (by have h3 := HL10_13.out; omega) HX8_9;clear ho;obtain ⟨k15a, k15b, k15c⟩ := c3 HX6_3;obtain ⟨k16a, k16b, k16c⟩ := c3 HX7_4;go_wp2_with fail;clear hW11 hbk10 f14a f14b f14c k14a k14b k14c hW12 k15a k15b k15c k16a k16b k16c;refine (C6.out _).mono ?_;rintro e w13 ⟨rfl, hb⟩;have HX2_1 := uH hb HX2_1;have HX3_2 := uH hb HX3_2;have HX6_3 := uH hb HX6_3;have HX7_4 := uH hb HX7_4;have HX8_9 := uH hb HX8_9;have HX10_13 := uH hb HX10_13;have HB := mH HB hb;clear hb;obtain ⟨W14, bk12, hW14, hbk12, HX12_17, HB, HG12_17, hup⟩ := boxn HB HN0 (.cells #[.bool false, .string ⟨#[]⟩, .string ⟨#[]⟩] 26);have HL12_17 := (hup _ _ HX10_13).2;have HM12_17_bk6 := Lib.hid (Nat.ne_of_lt (hup _ _ HX6_3).2.out);have HX2_1 := (hup _ _ HX2_1).1;have HX3_2 := (hup _ _ HX3_2).1;have HX6_3 := (hup _ _ HX6_3).1
  have HX7_4 := (hup _ _ HX7_4).1;have HX8_9 := (hup _ _ HX8_9).1;have HX10_13 := (hup _ _ HX10_13).1;clear hup;obtain ⟨W15, hW15, HX12_17, HB, ho, f18a, f18b, f18c, k18a, k18b, k18c⟩ := put3 HX12_17 HB HN0 HG12_17 (.bool vn.neg) (.string (encS vn.num)) (.string (encS vn.den));have HX2_1 := ho _ _ (by have h0 := HL3_2.out; have h1 := HL7_4.out; have h2 := HL8_9.out; have h3 := HL10_13.out; have h4 := HL12_17.out; omega) HX2_1;have HX3_2 := ho _ _ (by have h1 := HL7_4.out; have h2 := HL8_9.out; have h3 := HL10_13.out; have h4 := HL12_17.out; omega) HX3_2;have HX6_3 := ho _ _ (fun hc => HM12_17_bk6.out hc.symm) HX6_3;have HX7_4 := ho _ _ (by have h2 := HL8_9.out; have h3 := HL10_13.out; have h4 := HL12_17.out; omega) HX7_4;have HX8_9 := ho _ _ (by have h3 := HL10_13.out; have h4 := HL12_17.out; omega) HX8_9;have HX10_13 := ho _ _ (by have h4 := HL12_17.out; omega) HX10_13;clear ho
  obtain ⟨k19a, k19b, k19c⟩ := c3 HX8_9;obtain ⟨k20a, k20b, k20c⟩ := c3 HX10_13;obtain ⟨k21a, k21b, k21c⟩ := c3 HX12_17;obtain ⟨W16, bk60, hW16, hbk60, HX60_22, HB, HG60_22, hup⟩ := boxn HB HN0 (.cells #[.bool vd.neg, .string (encS vd.num), .string (encS vd.den), .bool vu.neg, .string (encS vu.num), .string (encS vu.den), .bool vn.neg, .string (encS vn.num), .string (encS vn.den)] 26);have HL60_22 := (hup _ _ HX12_17).2;have HM60_22_bk6 := Lib.hid (Nat.ne_of_lt (hup _ _ HX6_3).2.out);have HX2_1 := (hup _ _ HX2_1).1;have HX3_2 := (hup _ _ HX3_2).1;have HX6_3 := (hup _ _ HX6_3).1;have HX7_4 := (hup _ _ HX7_4).1;have HX8_9 := (hup _ _ HX8_9).1;have HX10_13 := (hup _ _ HX10_13).1;have HX12_17 := (hup _ _ HX12_17).1;clear hup;go_wp2_with fail;clear hW14 hbk12 f18a f18b f18c k18a k18b k18c hW15 k19a k19b k19c k20a k20b k20c k21a k21b k21c hW16 hbk60
  go_loopw [62] (fun v wr => ∃ k : Nat, k ≤ 3 ∧ v = .int .i64 (k : Int) ∧ Hid (wr.heap[bk6]? = some (.cells #[.bool a.neg, .string (encS a.num), .string (encS a.den)] 26 (0, 0))) ∧ Hid (wr.heap[bk7]? = some (.cells #[.bool st.neg, .string (encS st.num), .string (encS st.den)] 26 (0, 0))) ∧ Hid (wr.heap[bk8]? = some (.cells #[.bool vd.neg, .string (encS vd.num), .string (encS vd.den)] 26 (0, 0))) ∧ Hid (wr.heap[bk10]? = some (.cells #[.bool vu.neg, .string (encS vu.num), .string (encS vu.den)] 26 (0, 0))) ∧ Hid (wr.heap[bk12]? = some (.cells #[.bool vn.neg, .string (encS vn.num), .string (encS vn.den)] 26 (0, 0))) ∧ Hid (wr.heap[bk60]? = some (.cells #[.bool vd.neg, .string (encS vd.num), .string (encS vd.den), .bool vu.neg, .string (encS vu.num), .string (encS vu.den), .bool vn.neg, .string (encS vn.num), .string (encS vn.den)] 26 (0, 0))) ∧ Hid (Below wq.heap.size wq wr)) (fun v _ => 3 - (intOf v).toNat)
  case atStart => exact ⟨0, by omega, rfl, HX6_3, HX7_4, HX8_9, HX10_13, HX12_17, HX60_22, HB⟩
  case round =>
   obtain ⟨k, hk, rfl, HX6_3, HX7_4, HX8_9, HX10_13, HX12_17, HX60_22, HB⟩ := hrel
   by_cases hlt : k < 3
   ·have hlt' : (k : Int) < (3 : Int) := by omega
    obtain ⟨m, hm, o_m, z_m, h_q, h_d, h_u⟩ := HMS.out k hlt;obtain ⟨d1, d2, d3⟩ := cel_cells (l := [vd, vu, vn]) HX60_22.out hm;have hm7 : (quoR m st).Ok := quoR_ok o_m (by have := sgn_pos HOS.out.2.2; omega);have c1 := fun w => rRatQuo_r (IsR.of o_m z_m) (IsR.of HOS.out.1 (HOS.out.2.1.mono (show 32 ≤ 200 by decide))) (by decide) (by decide) w
    unfold quoV at c1; rw [if_neg (by have := sgn_pos HOS.out.2.2; omega)] at c1;have c2 := fun w => MoDown_r o_m HOS.out.1 (z_m.mono (show 200 ≤ 9000 by decide)) (HOS.out.2.1.mono (show 32 ≤ 9000 by decide)) HOS.out.2.2 w
    have c3 := fun w => MoUp_r o_m HOS.out.1 (z_m.mono (show 200 ≤ 9000 by decide)) (HOS.out.2.1.mono (show 32 ≤ 9000 by decide)) HOS.out.2.2 w
    rw [h_d] at c2; rw [h_u] at c3;obtain ⟨qv, hqv⟩ : ∃ x, quoR m st = x := ⟨_, rfl⟩; rw [hqv] at c1 h_q;have HKN := Lib.hid hlt;have C12 : Hid (∀ w, Calls Tryz.prog 26 #[.agg #[.bool m.neg, .string (encS m.num), .string (encS m.den)], .agg #[.bool st.neg, .string (encS st.num), .string (encS st.den)]] w fun e w' => e = .returned (.tuple #[.agg #[.bool qv.neg, .string (encS qv.num), .string ⟨#[1]⟩], .bool true]) ∧ Below w.heap.size w w') := Lib.hid fun w => by
     have h := c1 w;unfold rtV at h; rw [h_q, show encS 1 = ⟨#[1]⟩ from enc_one] at h;exact h
    have C13 : Hid (∀ w, Calls Tryz.prog 23 #[.agg #[.bool m.neg, .string (encS m.num), .string (encS m.den)], .agg #[.bool st.neg, .string (encS st.num), .string (encS st.den)]] w fun e w' => e = .returned (.tuple #[.agg #[.bool m.neg, .string (encS m.num), .string (encS m.den)], .bool true]) ∧ Below w.heap.size w w') := Lib.hid fun w => by
     have h := c2 w;exact h
    have C14 : Hid (∀ w, Calls Tryz.prog 24 #[.agg #[.bool m.neg, .string (encS m.num), .string (encS m.den)], .agg #[.bool st.neg, .string (encS st.num), .string (encS st.den)]] w fun e w' => e = .returned (.tuple #[.agg #[.bool m.neg, .string (encS m.num), .string (encS m.den)], .bool true]) ∧ Below w.heap.size w w') := Lib.hid fun w => by
     have h := c3 w;exact h
    clear c1 c2 c3 hqv h_q h_d h_u hm7 o_m z_m hm hk hlt;obtain ⟨W17, bk15, hW17, hbk15, HX15_23, HB, HG15_23, hup⟩ := boxn HB HN0 (.cells #[.bool false, .string ⟨#[]⟩, .string ⟨#[]⟩] 26);have HL15_23 := (hup _ _ HX60_22).2;have HM15_23_bk6 := Lib.hid (Nat.ne_of_lt (hup _ _ HX6_3).2.out);have HX6_3 := (hup _ _ HX6_3).1;have HX7_4 := (hup _ _ HX7_4).1;have HX8_9 := (hup _ _ HX8_9).1;have HX10_13 := (hup _ _ HX10_13).1;have HX12_17 := (hup _ _ HX12_17).1;have HX60_22 := (hup _ _ HX60_22).1;clear hup;obtain ⟨W18, hW18, HX15_23, HB, ho, f24a, f24b, f24c, k24a, k24b, k24c⟩ := put3 HX15_23 HB HN0 HG15_23 (.bool m.neg) (.string (encS m.num)) (.string (encS m.den));have HX6_3 := ho _ _ (fun hc => HM15_23_bk6.out hc.symm) HX6_3;have HX7_4 := ho _ _ (by have h0 := HL8_9.out; have h1 := HL10_13.out; have h2 := HL12_17.out; have h3 := HL60_22.out; have h4 := HL15_23.out; omega) HX7_4
    have HX8_9 := ho _ _ (by have h1 := HL10_13.out; have h2 := HL12_17.out; have h3 := HL60_22.out; have h4 := HL15_23.out; omega) HX8_9;have HX10_13 := ho _ _ (by have h2 := HL12_17.out; have h3 := HL60_22.out; have h4 := HL15_23.out; omega) HX10_13;have HX12_17 := ho _ _ (by have h3 := HL60_22.out; have h4 := HL15_23.out; omega) HX12_17;have HX60_22 := ho _ _ (by have h4 := HL15_23.out; omega) HX60_22;clear ho;obtain ⟨k25a, k25b, k25c⟩ := c3 HX15_23;obtain ⟨k26a, k26b, k26c⟩ := c3 HX7_4;go_wp2_with fail;clear hlt' d1 d2 d3 hW17 hbk15 f24a f24b f24c k24a k24b k24c hW18 k25a k25b k25c k26a k26b k26c;refine (C12.out _).mono ?_;rintro e w19 ⟨rfl, hb⟩;have HX6_3 := uH hb HX6_3;have HX7_4 := uH hb HX7_4;have HX8_9 := uH hb HX8_9;have HX10_13 := uH hb HX10_13;have HX12_17 := uH hb HX12_17;have HX60_22 := uH hb HX60_22;have HX15_23 := uH hb HX15_23;have HB := mH HB hb;clear hb
    obtain ⟨W20, bk16, hW20, hbk16, HX16_27, HB, HG16_27, hup⟩ := boxn HB HN0 (.cells #[.bool false, .string ⟨#[]⟩, .string ⟨#[]⟩] 26);have HL16_27 := (hup _ _ HX15_23).2;have HM16_27_bk6 := Lib.hid (Nat.ne_of_lt (hup _ _ HX6_3).2.out);have HX6_3 := (hup _ _ HX6_3).1;have HX7_4 := (hup _ _ HX7_4).1;have HX8_9 := (hup _ _ HX8_9).1;have HX10_13 := (hup _ _ HX10_13).1;have HX12_17 := (hup _ _ HX12_17).1;have HX60_22 := (hup _ _ HX60_22).1;have HX15_23 := (hup _ _ HX15_23).1;clear hup;obtain ⟨W21, hW21, HX16_27, HB, ho, f28a, f28b, f28c, k28a, k28b, k28c⟩ := put3 HX16_27 HB HN0 HG16_27 (.bool qv.neg) (.string (encS qv.num)) (.string ⟨#[1]⟩);have HX6_3 := ho _ _ (fun hc => HM16_27_bk6.out hc.symm) HX6_3;have HX7_4 := ho _ _ (by have h0 := HL8_9.out; have h1 := HL10_13.out; have h2 := HL12_17.out; have h3 := HL60_22.out; have h4 := HL15_23.out; have h5 := HL16_27.out; omega) HX7_4
    have HX8_9 := ho _ _ (by have h1 := HL10_13.out; have h2 := HL12_17.out; have h3 := HL60_22.out; have h4 := HL15_23.out; have h5 := HL16_27.out; omega) HX8_9;have HX10_13 := ho _ _ (by have h2 := HL12_17.out; have h3 := HL60_22.out; have h4 := HL15_23.out; have h5 := HL16_27.out; omega) HX10_13;have HX12_17 := ho _ _ (by have h3 := HL60_22.out; have h4 := HL15_23.out; have h5 := HL16_27.out; omega) HX12_17;have HX60_22 := ho _ _ (by have h4 := HL15_23.out; have h5 := HL16_27.out; omega) HX60_22;have HX15_23 := ho _ _ (by have h5 := HL16_27.out; omega) HX15_23;clear ho;obtain ⟨k29a, k29b, k29c⟩ := c3 HX15_23;obtain ⟨k30a, k30b, k30c⟩ := c3 HX7_4;go_wp2_with fail;clear hW20 hbk16 f28a f28b f28c k28a k28b k28c hW21 k29a k29b k29c k30a k30b k30c;refine (C13.out _).mono ?_;rintro e w22 ⟨rfl, hb⟩;have HX6_3 := uH hb HX6_3;have HX7_4 := uH hb HX7_4;have HX8_9 := uH hb HX8_9
    have HX10_13 := uH hb HX10_13;have HX12_17 := uH hb HX12_17;have HX60_22 := uH hb HX60_22;have HX15_23 := uH hb HX15_23;have HX16_27 := uH hb HX16_27;have HB := mH HB hb;clear hb;obtain ⟨W23, bk18, hW23, hbk18, HX18_31, HB, HG18_31, hup⟩ := boxn HB HN0 (.cells #[.bool false, .string ⟨#[]⟩, .string ⟨#[]⟩] 26);have HL18_31 := (hup _ _ HX16_27).2;have HM18_31_bk6 := Lib.hid (Nat.ne_of_lt (hup _ _ HX6_3).2.out);have HX6_3 := (hup _ _ HX6_3).1;have HX7_4 := (hup _ _ HX7_4).1;have HX8_9 := (hup _ _ HX8_9).1;have HX10_13 := (hup _ _ HX10_13).1;have HX12_17 := (hup _ _ HX12_17).1;have HX60_22 := (hup _ _ HX60_22).1;have HX15_23 := (hup _ _ HX15_23).1;have HX16_27 := (hup _ _ HX16_27).1;clear hup;obtain ⟨W24, hW24, HX18_31, HB, ho, f32a, f32b, f32c, k32a, k32b, k32c⟩ := put3 HX18_31 HB HN0 HG18_31 (.bool m.neg) (.string (encS m.num)) (.string (encS m.den))
    have HX6_3 := ho _ _ (fun hc => HM18_31_bk6.out hc.symm) HX6_3;have HX7_4 := ho _ _ (by have h0 := HL8_9.out; have h1 := HL10_13.out; have h2 := HL12_17.out; have h3 := HL60_22.out; have h4 := HL15_23.out; have h5 := HL16_27.out; have h6 := HL18_31.out; omega) HX7_4;have HX8_9 := ho _ _ (by have h1 := HL10_13.out; have h2 := HL12_17.out; have h3 := HL60_22.out; have h4 := HL15_23.out; have h5 := HL16_27.out; have h6 := HL18_31.out; omega) HX8_9;have HX10_13 := ho _ _ (by have h2 := HL12_17.out; have h3 := HL60_22.out; have h4 := HL15_23.out; have h5 := HL16_27.out; have h6 := HL18_31.out; omega) HX10_13;have HX12_17 := ho _ _ (by have h3 := HL60_22.out; have h4 := HL15_23.out; have h5 := HL16_27.out; have h6 := HL18_31.out; omega) HX12_17;have HX60_22 := ho _ _ (by have h4 := HL15_23.out; have h5 := HL16_27.out; have h6 := HL18_31.out; omega) HX60_22
    have HX15_23 := ho _ _ (by have h5 := HL16_27.out; have h6 := HL18_31.out; omega) HX15_23;have HX16_27 := ho _ _ (by have h6 := HL18_31.out; omega) HX16_27;clear ho;obtain ⟨k33a, k33b, k33c⟩ := c3 HX15_23;obtain ⟨k34a, k34b, k34c⟩ := c3 HX7_4;go_wp2_with fail;clear hW23 hbk18 f32a f32b f32c k32a k32b k32c hW24 k33a k33b k33c k34a k34b k34c;refine (C14.out _).mono ?_;rintro e w25 ⟨rfl, hb⟩;have HX6_3 := uH hb HX6_3;have HX7_4 := uH hb HX7_4;have HX8_9 := uH hb HX8_9;have HX10_13 := uH hb HX10_13;have HX12_17 := uH hb HX12_17;have HX60_22 := uH hb HX60_22;have HX15_23 := uH hb HX15_23;have HX16_27 := uH hb HX16_27;have HX18_31 := uH hb HX18_31;have HB := mH HB hb;clear hb;obtain ⟨W26, bk20, hW26, hbk20, HX20_35, HB, HG20_35, hup⟩ := boxn HB HN0 (.cells #[.bool false, .string ⟨#[]⟩, .string ⟨#[]⟩] 26);have HL20_35 := (hup _ _ HX18_31).2
    have HM20_35_bk6 := Lib.hid (Nat.ne_of_lt (hup _ _ HX6_3).2.out);have HX6_3 := (hup _ _ HX6_3).1;have HX7_4 := (hup _ _ HX7_4).1;have HX8_9 := (hup _ _ HX8_9).1;have HX10_13 := (hup _ _ HX10_13).1;have HX12_17 := (hup _ _ HX12_17).1;have HX60_22 := (hup _ _ HX60_22).1;have HX15_23 := (hup _ _ HX15_23).1;have HX16_27 := (hup _ _ HX16_27).1;have HX18_31 := (hup _ _ HX18_31).1;clear hup;obtain ⟨W27, hW27, HX20_35, HB, ho, f36a, f36b, f36c, k36a, k36b, k36c⟩ := put3 HX20_35 HB HN0 HG20_35 (.bool m.neg) (.string (encS m.num)) (.string (encS m.den));have HX6_3 := ho _ _ (fun hc => HM20_35_bk6.out hc.symm) HX6_3;have HX7_4 := ho _ _ (by have h0 := HL8_9.out; have h1 := HL10_13.out; have h2 := HL12_17.out; have h3 := HL60_22.out; have h4 := HL15_23.out; have h5 := HL16_27.out; have h6 := HL18_31.out; have h7 := HL20_35.out; omega) HX7_4
    have HX8_9 := ho _ _ (by have h1 := HL10_13.out; have h2 := HL12_17.out; have h3 := HL60_22.out; have h4 := HL15_23.out; have h5 := HL16_27.out; have h6 := HL18_31.out; have h7 := HL20_35.out; omega) HX8_9;have HX10_13 := ho _ _ (by have h2 := HL12_17.out; have h3 := HL60_22.out; have h4 := HL15_23.out; have h5 := HL16_27.out; have h6 := HL18_31.out; have h7 := HL20_35.out; omega) HX10_13;have HX12_17 := ho _ _ (by have h3 := HL60_22.out; have h4 := HL15_23.out; have h5 := HL16_27.out; have h6 := HL18_31.out; have h7 := HL20_35.out; omega) HX12_17;have HX60_22 := ho _ _ (by have h4 := HL15_23.out; have h5 := HL16_27.out; have h6 := HL18_31.out; have h7 := HL20_35.out; omega) HX60_22;have HX15_23 := ho _ _ (by have h5 := HL16_27.out; have h6 := HL18_31.out; have h7 := HL20_35.out; omega) HX15_23;have HX16_27 := ho _ _ (by have h6 := HL18_31.out; have h7 := HL20_35.out; omega) HX16_27
    have HX18_31 := ho _ _ (by have h7 := HL20_35.out; omega) HX18_31;clear ho;have k37 : W27.cell? ⟨bk16, 2, none⟩ = some (.string ⟨#[1]⟩) := by rw [Lib.cell_of_heap HX16_27.out]; rfl
    obtain ⟨k38a, k38b, k38c⟩ := c3 HX18_31;obtain ⟨k39a, k39b, k39c⟩ := c3 HX15_23;obtain ⟨k40a, k40b, k40c⟩ := c3 HX20_35;obtain ⟨k41a, k41b, k41c⟩ := c3 HX15_23;have hwi : IntKind.i64.wrap ((k : Int) + 1) = ((k + 1 : Nat) : Int) := by rw [IntWalk.i64_in _ (by have := HKN.out; omega)]; omega
    go_wp2_with fail;clear hW26 hbk20 f36a f36b f36c k36a k36b k36c hW27 k37 k38a k38b k38c k39a k39b k39c k40a k40b k40c k41a k41b k41c hwi
    go_roundw
    case rel => exact ⟨k + 1, by have := HKN.out; omega, by first | rfl | go_num, HX6_3, HX7_4, HX8_9, HX10_13, HX12_17, HX60_22, HB⟩
    case measure => have := HKN.out; simp [intOf]; omega
   ·have hge : ¬ (k : Int) < (3 : Int) := by omega
    clear hlt hk;obtain ⟨k42a, k42b, k42c⟩ := c3 HX6_3;obtain ⟨k43a, k43b, k43c⟩ := c3 HX8_9;go_wp2_with fail;clear hge k42a k42b k42c k43a k43b k43c;refine (C7.out _).mono ?_;rintro e w28 ⟨rfl, hb⟩;have HX6_3 := uH hb HX6_3;have HX7_4 := uH hb HX7_4;have HX8_9 := uH hb HX8_9;have HX10_13 := uH hb HX10_13;have HX12_17 := uH hb HX12_17;have HX60_22 := uH hb HX60_22;have HB := mH HB hb;clear hb;obtain ⟨W29, bk22, hW29, hbk22, HX22_44, HB, HG22_44, hup⟩ := boxn HB HN0 (.cells #[.bool false, .string ⟨#[]⟩, .string ⟨#[]⟩] 26);have HL22_44 := (hup _ _ HX60_22).2;have HM22_44_bk6 := Lib.hid (Nat.ne_of_lt (hup _ _ HX6_3).2.out);have HX6_3 := (hup _ _ HX6_3).1;have HX7_4 := (hup _ _ HX7_4).1;have HX8_9 := (hup _ _ HX8_9).1;have HX10_13 := (hup _ _ HX10_13).1;have HX12_17 := (hup _ _ HX12_17).1;have HX60_22 := (hup _ _ HX60_22).1;clear hup
    obtain ⟨W30, hW30, HX22_44, HB, ho, f45a, f45b, f45c, k45a, k45b, k45c⟩ := put3 HX22_44 HB HN0 HG22_44 (.bool false) (.string (encS lo.num)) (.string (encS lo.den));have HX6_3 := ho _ _ (fun hc => HM22_44_bk6.out hc.symm) HX6_3;have HX7_4 := ho _ _ (by have h0 := HL8_9.out; have h1 := HL10_13.out; have h2 := HL12_17.out; have h3 := HL60_22.out; have h4 := HL22_44.out; omega) HX7_4;have HX8_9 := ho _ _ (by have h1 := HL10_13.out; have h2 := HL12_17.out; have h3 := HL60_22.out; have h4 := HL22_44.out; omega) HX8_9;have HX10_13 := ho _ _ (by have h2 := HL12_17.out; have h3 := HL60_22.out; have h4 := HL22_44.out; omega) HX10_13;have HX12_17 := ho _ _ (by have h3 := HL60_22.out; have h4 := HL22_44.out; omega) HX12_17;have HX60_22 := ho _ _ (by have h4 := HL22_44.out; omega) HX60_22;clear ho;obtain ⟨k46a, k46b, k46c⟩ := c3 HX10_13;obtain ⟨k47a, k47b, k47c⟩ := c3 HX6_3;go_wp2_with fail
    clear hW29 hbk22 f45a f45b f45c k45a k45b k45c hW30 k46a k46b k46c k47a k47b k47c;refine (C8.out _).mono ?_;rintro e w31 ⟨rfl, hb⟩;have HX6_3 := uH hb HX6_3;have HX7_4 := uH hb HX7_4;have HX8_9 := uH hb HX8_9;have HX10_13 := uH hb HX10_13;have HX12_17 := uH hb HX12_17;have HX60_22 := uH hb HX60_22;have HX22_44 := uH hb HX22_44;have HB := mH HB hb;clear hb;obtain ⟨W32, bk23, hW32, hbk23, HX23_48, HB, HG23_48, hup⟩ := boxn HB HN0 (.cells #[.bool false, .string ⟨#[]⟩, .string ⟨#[]⟩] 26);have HL23_48 := (hup _ _ HX22_44).2;have HM23_48_bk6 := Lib.hid (Nat.ne_of_lt (hup _ _ HX6_3).2.out);have HX6_3 := (hup _ _ HX6_3).1;have HX7_4 := (hup _ _ HX7_4).1;have HX8_9 := (hup _ _ HX8_9).1;have HX10_13 := (hup _ _ HX10_13).1;have HX12_17 := (hup _ _ HX12_17).1;have HX60_22 := (hup _ _ HX60_22).1;have HX22_44 := (hup _ _ HX22_44).1;clear hup
    obtain ⟨W33, hW33, HX23_48, HB, ho, f49a, f49b, f49c, k49a, k49b, k49c⟩ := put3 HX23_48 HB HN0 HG23_48 (.bool false) (.string (encS hi.num)) (.string (encS hi.den));have HX6_3 := ho _ _ (fun hc => HM23_48_bk6.out hc.symm) HX6_3;have HX7_4 := ho _ _ (by have h0 := HL8_9.out; have h1 := HL10_13.out; have h2 := HL12_17.out; have h3 := HL60_22.out; have h4 := HL22_44.out; have h5 := HL23_48.out; omega) HX7_4;have HX8_9 := ho _ _ (by have h1 := HL10_13.out; have h2 := HL12_17.out; have h3 := HL60_22.out; have h4 := HL22_44.out; have h5 := HL23_48.out; omega) HX8_9;have HX10_13 := ho _ _ (by have h2 := HL12_17.out; have h3 := HL60_22.out; have h4 := HL22_44.out; have h5 := HL23_48.out; omega) HX10_13;have HX12_17 := ho _ _ (by have h3 := HL60_22.out; have h4 := HL22_44.out; have h5 := HL23_48.out; omega) HX12_17
    have HX60_22 := ho _ _ (by have h4 := HL22_44.out; have h5 := HL23_48.out; omega) HX60_22;have HX22_44 := ho _ _ (by have h5 := HL23_48.out; omega) HX22_44;clear ho;have k50 : W33.cell? ⟨bk22, 0, none⟩ = some (.bool false) := by rw [Lib.cell_of_heap HX22_44.out]; rfl
    have k51 : W33.cell? ⟨bk23, 0, none⟩ = some (.bool false) := by rw [Lib.cell_of_heap HX23_48.out]; rfl
    obtain ⟨k52a, k52b, k52c⟩ := c3 HX22_44;obtain ⟨k53a, k53b, k53c⟩ := c3 HX7_4;go_wp2_with fail;clear hW32 hbk23 f49a f49b f49c k49a k49b k49c hW33 k50 k51 k52a k52b k52c k53a k53b k53c;refine (C9.out _).mono ?_;rintro e w34 ⟨rfl, hb⟩;have HX6_3 := uH hb HX6_3;have HX7_4 := uH hb HX7_4;have HX8_9 := uH hb HX8_9;have HX10_13 := uH hb HX10_13;have HX12_17 := uH hb HX12_17;have HX60_22 := uH hb HX60_22;have HX22_44 := uH hb HX22_44;have HX23_48 := uH hb HX23_48;have HB := mH HB hb;clear hb;obtain ⟨k54a, k54b, k54c⟩ := c3 HX23_48;obtain ⟨k55a, k55b, k55c⟩ := c3 HX7_4;go_wp2_with fail;clear k54a k54b k54c k55a k55b k55c;refine (C10.out _).mono ?_;rintro e w35 ⟨rfl, hb⟩;have HX6_3 := uH hb HX6_3;have HX7_4 := uH hb HX7_4;have HX8_9 := uH hb HX8_9;have HX10_13 := uH hb HX10_13;have HX12_17 := uH hb HX12_17;have HX60_22 := uH hb HX60_22;have HX22_44 := uH hb HX22_44
    have HX23_48 := uH hb HX23_48;have HB := mH HB hb;clear hb;obtain ⟨k56a, k56b, k56c⟩ := c3 HX22_44;obtain ⟨k57a, k57b, k57c⟩ := c3 HX23_48;go_wp2_with fail;clear k56a k56b k56c k57a k57b k57c;refine (C11.out _).mono ?_;rintro e w36 ⟨rfl, hb⟩;have HX6_3 := uH hb HX6_3;have HX7_4 := uH hb HX7_4;have HX8_9 := uH hb HX8_9;have HX10_13 := uH hb HX10_13;have HX12_17 := uH hb HX12_17;have HX60_22 := uH hb HX60_22;have HX22_44 := uH hb HX22_44;have HX23_48 := uH hb HX23_48;have HB := mH HB hb;clear hb
    by_cases hc : cm < 0
    ·obtain rfl : vn = vd := by have h := HNW.out; rw [if_pos hc] at h; exact h
     obtain ⟨k58a, k58b, k58c⟩ := c3 HX12_17;obtain ⟨k59a, k59b, k59c⟩ := c3 HX8_9;go_wp2_with fail;clear hc k58a k58b k58c k59a k59b k59c;go_ret;exact ⟨rfl, by rw [HN0.out]; exact HB.out⟩
    ·obtain rfl : vn = vu := by have h := HNW.out; rw [if_neg hc] at h; exact h
     obtain ⟨k60a, k60b, k60c⟩ := c3 HX12_17;obtain ⟨k61a, k61b, k61c⟩ := c3 HX10_13;go_wp2_with fail;clear hc k60a k60b k60c k61a k61b k61c;go_ret;exact ⟨rfl, by rw [HN0.out]; exact HB.out⟩
end Go.Proofs.YtabfjecegpaoaaaGreatDoor.moneyBetween
