/- MoneyParts: for every input the law returns true, and each argument reads afterwards as it read before; the listed tables read as the program lays them (the tied card). -/
import Derived.Test.YtabfjecegpaoaaaGreatDoorRows
import Derived.WalkKit
import Derived.ProofKit
import Derived.OpenShut
import Derived.Below
import Derived.ChangeSame
import Derived.Deep.SlicePairs
import Derived.Carry
import Derived.Test.YtabfjecegpaoaaaGreatDoorCards
import Derived.Test.YtabfjecegpaoaaaGreatDoorTie
import Derived.LaidMore
import Derived.Deep.DeepHandedRow
import Derived.Deep.DeepWitnessRowRef
import Derived.Lib.LaidTab
import Derived.Lib.ItoaMem
import Derived.Stop.LaidErr
import Derived.Deep.LoopGhost
import Derived.Deep.QuietTactic
import Derived.BigQuiet
import Derived.Test.YtabfjecegpaoaaaGreatDoorProg
import Derived.WalkSpells
import Derived.WalkLawsBesides
import Derived.IntWalk
import Derived.Lib.Hide
import Derived.Laws.BitsAllLaws
import Derived.StillTailTactics
import Derived.Deep.OwnRows
import Derived.Lib.ConvBytes
import Derived.RangeFuncNested
import Derived.RangeFuncCalls
import Derived.RangeFuncLeaves
import Derived.Shelf.Abstract
import Derived.Lib.LaidIn
import Derived.RegionTactic
import Derived.KernelRfl
import Derived.OrdersIn
import Derived.Shelf.Strings.Builder1
import Derived.Shelf.Strings.Builder2
import Derived.Shelf.Strings.Trim
import Derived.Shelf.Small.Utf8
import Derived.Shelf.Small.Bits
import Derived.Shelf.Small.Strs
import Derived.Shelf.Strings.BuilderF
import Derived.Shelf.Strings.BuilderK
import Derived.Shelf.Strings.Builder2Cap
import Derived.Shelf.Strconv.Atoi
import Derived.Shelf.Strconv.Itoa0
import Derived.Shelf.Strconv.Itoa1
import Derived.Shelf.LaysM
import Derived.Shelf.Strconv.Itoa2
import Derived.Shelf.Strconv.Itoa3
import Derived.Shelf.Strconv.AtoiErrFast
import Derived.Shelf.Strconv.ParseIntEmpty
import Derived.Shelf.Strconv.AtoiFail
import Derived.Shelf.Strconv.Clone
import Derived.Shelf.Strconv.SyntaxError
import Derived.Shelf.LaysC
import Derived.Shelf.Strconv.ToError
import Derived.Shelf.Strconv.Lower
import Derived.Shelf.Strconv.ParseUint10
import Derived.Shelf.Strconv.ParseUint10Empty
import Derived.Shelf.Strconv.ParseUint10Any
import Derived.Shelf.Strconv.ParseInt10
import Derived.Shelf.Strconv.AtoiLong
import Derived.Shelf.Strconv.AtoiInnerAll
import Derived.Shelf.Strconv.RangeError
import Derived.Shelf.Strconv.ToErrorRange
import Derived.Shelf.Strconv.AtoiAll
import Derived.Shelf.Strconv.ErrVarAll
import Derived.Shelf.Strconv.ParseUintEmpty
import Derived.Shelf.Strconv.ParseUint10b64
import Derived.Shelf.Strconv.ParseUint10b32
import Derived.Shelf.Strconv.ParseUint10b16
import Derived.Shelf.Strconv.ParseUint10b8
import Derived.Shelf.Strconv.ParseUint10At
import Derived.Shelf.Strconv.ParseInt10At64
import Derived.Shelf.Strconv.ParseInt10At32
import Derived.Shelf.Strconv.ParseInt10At16
import Derived.Shelf.Strconv.ParseInt10At8
import Derived.Shelf.Strconv.ParseInt10All
import Derived.Shelf.Strings.Search1
import Derived.Shelf.GgClosure.StringsIndexFunc
import Derived.Ground.GgwProg
import Derived.Shelf.GgClosure.StringsIndexFuncTop
import Derived.Shelf.GgClosure.StringsRunes
import Derived.Shelf.Strings.Prefix
import Derived.Shelf.Strings.Runes
import Derived.Shelf.Strings.AsciiSet
import Derived.Shelf.Bits.Mul64
import Derived.Shelf.Strings.Repeat
import Derived.Shelf.Unicode.DecodeSlow
import Derived.Shelf.Unicode.DecodeAny
import Derived.Shelf.Strings.FuncGrows
import Derived.Shelf.Strings.BuilderCap
import Derived.Lib.ItoaLen
import Derived.Lib.AtoiAll
import Derived.Lib.UnsafeStr
import Derived.Lib.AppendIntMem
import Derived.Lib.ItoaNum
import Derived.Lib.Itoa
import Derived.Laws.AppendOwnNone
import Derived.OwnWalkIn
import Derived.TacticsInMore
import Derived.LoopNIn
import Derived.LoopIn
import Derived.RangeFuncKeeps
import Derived.Lib.IndexMore
import Derived.Test.YtabfjecegpaoaaaGreatDoorYb8
import Derived.Test.YtabfjecegpaoaaaGreatDoorK10a2
import Derived.Test.YtabfjecegpaoaaaGreatDoorYb9
import Derived.Test.YtabfjecegpaoaaaGreatDoorYc6
import Derived.Test.YtabfjecegpaoaaaGreatDoorYd4
import Derived.Test.YtabfjecegpaoaaaGreatDoorYa6
import Derived.Test.YtabfjecegpaoaaaGreatDoorYa5
import Derived.Test.YtabfjecegpaoaaaGreatDoorYa4
import Derived.Test.YtabfjecegpaoaaaGreatDoorYa3
import Derived.Test.YtabfjecegpaoaaaGreatDoorYa0
import Derived.Test.YtabfjecegpaoaaaGreatDoorYa1
import Derived.Test.YtabfjecegpaoaaaGreatDoorYa2
import Derived.Test.YtabfjecegpaoaaaGreatDoorYb0
import Derived.Test.YtabfjecegpaoaaaGreatDoorYa9
import Derived.Test.YtabfjecegpaoaaaGreatDoorYa8
import Derived.Test.YtabfjecegpaoaaaGreatDoorK10a0
import Derived.Test.YtabfjecegpaoaaaGreatDoorYb1
import Derived.Test.YtabfjecegpaoaaaGreatDoorYc4
import Derived.Test.YtabfjecegpaoaaaGreatDoorYc3
import Derived.Test.YtabfjecegpaoaaaGreatDoorYc2
import Derived.Test.YtabfjecegpaoaaaGreatDoorYc1
import Derived.Test.YtabfjecegpaoaaaGreatDoorYb3
import Derived.Test.YtabfjecegpaoaaaGreatDoorYb2
import Derived.Test.YtabfjecegpaoaaaGreatDoorYb7
import Derived.Test.YtabfjecegpaoaaaGreatDoorYb6
import Derived.Test.YtabfjecegpaoaaaGreatDoorYb5
import Derived.Test.YtabfjecegpaoaaaGreatDoorYb4
import Derived.Test.YtabfjecegpaoaaaGreatDoorK10a1
import Derived.Test.YtabfjecegpaoaaaGreatDoorYc0
import Derived.Test.YtabfjecegpaoaaaGreatDoorYc5
import Derived.Test.YtabfjecegpaoaaaGreatDoorYd2
import Derived.Test.YtabfjecegpaoaaaGreatDoorYc7
import Derived.Test.YtabfjecegpaoaaaGreatDoorYc8
import Derived.Test.YtabfjecegpaoaaaGreatDoorYc9
import Derived.Test.YtabfjecegpaoaaaGreatDoorYd1
import Derived.Test.YtabfjecegpaoaaaGreatDoorYd0
namespace Go.Proofs.YtabfjecegpaoaaaGreatDoor
open Go.RowKit Go.Shelf
open Dgt
set_option linter.unusedVariables false
def ERS (b3 g off n ca k : Nat) (B C : Rt) (en : Bool) (es ed : ByteArray) : Nat → Value
 | 0 => .agg #[.bool B.neg, .string (encS B.num), .string (encS B.den)]
 | 1 => .slice (some ⟨g, off, none⟩) n ca
 | 2 => .int .i64 (k : Int)
 | 3 => .pointer (some ⟨g, off + k * 3, none⟩)
 | 4 => .agg #[.bool en, .string es, .string ed]
 | 5 => .agg #[.bool C.neg, .string (encS C.num), .string (encS C.den)]
 | _ => undef
def SRS (b3 g off n ca k : Nat) (B C : Rt) (en : Bool) (es ed : ByteArray) (ix : Nat) (v : Value) (w : World) : Prop :=
 match ix with
 | ix => v = ERS b3 g off n ca k B C en es ed ix
theorem SRS_up (b3 g off n ca k : Nat) (B C : Rt) (en : Bool) (es ed : ByteArray) (ix : Nat) (v : Value) (w w' : World) (hb : Below w.heap.size w w') (h : SRS b3 g off n ca k B C en es ed ix v w) : SRS b3 g off n ca k B C en es ed ix v w' := by
 exact h
set_option maxHeartbeats 1000000 in
set_option maxRecDepth 100000 in
theorem rSum_any (l : List Rw) (v : Value) (wq : World) (hl : LstR wq v l) (hn : l.length ≤ 20) (hs : SzL l 1000) :
  Calls Tryz.prog 36 #[v] wq fun e w' => e = .returned (rtV (sumL l zeroR)) ∧ Below wq.heap.size wq w' := by
 obtain ⟨p, ca, rfl, hla, hca⟩ := hl.open;have HC := Lib.hid hca;have HO := Lib.hid (fun w => rRatOf_any 0 w (by decide) (by decide));rw [ofR_zero] at HO;have HF : Hid (∀ k (h : k < l.length) w, Calls Tryz.prog 32 #[rtV (sumL (l.take k) zeroR), .agg #[.bool l[k].neg, .string l[k].n, .string l[k].d]] w fun e w' => e = .returned (rtV (sumL (l.take (k + 1)) zeroR)) ∧ Below w.heap.size w w') := Lib.hid fun k h w => by
  rw [sumL_take h];have hh := sumR_step hn hs zeroR_ok (zeroR_sz.mono (by decide)) h;exact rRatAdd_r hh.1 hh.2 (by decide) (by decide) w
 obtain ⟨A, hA⟩ : ∃ A, zeroR = A := ⟨_, rfl⟩;rw [hA] at HO HF ⊢;clear hca hl hs hA;have HX0 := Lib.hid (zeroR_row wq);have HB0 := Lib.hid (below_zrow wq rB);go_enter Tryz.func36, Tryz.ntmps36;go_wp2_with fail;refine (HO.out _).mono ?_;rintro e w1 ⟨rfl, hb⟩;unfold rtV;have HX1 := uH hb HX0;have HB1 := Lib.hid (HB0.out.trans (hb.mono HB0.out.size));clear hb;obtain ⟨b2, hb2⟩ : ∃ b, wq.heap.size = b := ⟨_, rfl⟩;rw [hb2] at HX1 ⊢;have HX2 := Lib.hid (heap_up ((Below.refl _ w1).alloc (Nat.le_refl _) (.cells #[.bool A.neg, .string (encS A.num), .string (encS A.den)] 26)) HX1.out);have HX3 := Lib.hid (heap_alloc_new w1 (.cells #[.bool A.neg, .string (encS A.num), .string (encS A.den)] 26));have HB2 := Lib.hid (HB1.out.alloc HB1.out.size (.cells #[.bool A.neg, .string (encS A.num), .string (encS A.den)] 26));go_wp2_with fail
 obtain ⟨W2, hW2⟩ : ∃ W2, w1.alloc (.cells #[.bool A.neg, .string (encS A.num), .string (encS A.den)] 26) = W2 := ⟨_, rfl⟩;obtain ⟨b3, hb3⟩ : ∃ b, w1.heap.size = b := ⟨_, rfl⟩;rw [hW2] at HX2 HX3 HB2 ⊢;rw [hb3] at HX3 ⊢;have HNE : Hid (b2 ≠ b3) := Lib.hid (by have := (Array.getElem?_eq_some_iff.1 HX1.out).1; omega);have HLE : Hid (wq.heap.size ≤ b3) := Lib.hid (by have := HB1.out.size; omega);clear hW2
 go_loopw [4] (fun i wr => ∃ (k : Nat) (B : Rt), k ≤ l.length ∧ i = .int .i64 (k : Int) ∧ Hid (B = sumL (l.take k) A) ∧ Hid (wr.heap[b3]? = some (.cells #[.bool B.neg, .string (encS B.num), .string (encS B.den)] 26 (0, 0))) ∧ Hid (wr.heap[b2]? = some (.cells #[.bool false, .string ⟨#[]⟩, .string ⟨#[]⟩] 26 (0, 0))) ∧ Hid (Below wq.heap.size wq wr)) (fun i _ => l.length - (intOf i).toNat)
 case atStart => exact ⟨0, A, by omega, rfl, Lib.hid rfl, HX3, HX2, HB2⟩
 case round =>
  obtain ⟨k, B, hk, rfl, HBE, HX3, HX2, HBW⟩ := hrel
  by_cases hlt : k < l.length
  ·have hlt' : (k : Int) < (l.length : Int) := by omega
   obtain ⟨g, off, rfl, hg, c1, c2, c3⟩ := HC.out k hlt;have hgr := Nat.lt_of_lt_of_le hg HBW.out.size;have d1 : wr.cell? ⟨g, off + k * 3, none⟩ = some (.bool l[k].neg) := by rw [cell_up HBW.out hg]; exact c1
   have d2 : wr.cell? ⟨g, off + k * 3 + 1, none⟩ = some (.string l[k].n) := by rw [cell_up HBW.out hg]; exact c2
   have d3 : wr.cell? ⟨g, off + k * 3 + 2, none⟩ = some (.string l[k].d) := by rw [cell_up HBW.out hg]; exact c3
   clear c1 c2 c3;obtain ⟨wo, hwo⟩ : ∃ wo, wo = wr := ⟨_, rfl⟩;subst hwo;have HFK := Lib.hid (HF.out k hlt);rw [← HBE.out] at HFK;obtain ⟨C, hC⟩ : ∃ C, sumL (l.take (k + 1)) A = C := ⟨_, rfl⟩;rw [hC] at HFK;have HCE := Lib.hid hC.symm;clear hC;unfold rtV at HFK;obtain ⟨en, hen⟩ : ∃ x, l[k].neg = x := ⟨_, rfl⟩;obtain ⟨es, hes⟩ : ∃ x, l[k].n = x := ⟨_, rfl⟩;obtain ⟨ed, hed⟩ : ∃ x, l[k].d = x := ⟨_, rfl⟩;rw [hen, hes, hed] at HFK; rw [hen] at d1; rw [hes] at d2; rw [hed] at d3;clear hen hes hed;obtain ⟨n, hnl⟩ : ∃ n, l.length = n := ⟨_, rfl⟩;rw [hnl] at hlt hlt' hn hk ⊢;have HNL := Lib.hid hnl;clear hnl;go_wp2_with fail;refine wp_region_tail (w := wo) (by kernel_rfl) (SRS b3 g off n ca k B C en es ed) 6 (fun t => (decide (12 ≤ t) && decide (t < 18))) (by decide) (by kernel_rfl) (by kernel_rfl) (by kernel_rfl) (by kernel_rfl) (by kernel_rfl) (SRS_up b3 g off n ca k B C en es ed) ?_ ?_
   ·intro i hi o listed a w hR K hK;have ho := hR.at_;have hi : i < 6 := hi;have hii : i = 0 ∨ i = 1 ∨ i = 2 ∨ i = 3 ∨ i = 4 ∨ i = 5 := by omega
    rcases hii with rfl | rfl | rfl | rfl | rfl | rfl
    ·simp at ho;subst ho;have b3 : a.tmps.getD 3 undef = .pointer (some ⟨b3, 0, none⟩) := hR.base 3 (by kernel_rfl);obtain ⟨⟨cx0, cx1, cx2⟩, -⟩ := row_cells (heap_up hR.below HX3.out);refine plain_step rfl rfl ?_;go_simp;exact hK _ _ rfl rB
    ·simp at ho;subst ho;have b0 : a.tmps.getD 0 undef = .slice (some ⟨g, off, none⟩) n ca := hR.base 0 (by kernel_rfl);refine plain_step rfl rfl ?_;go_simp;exact hK _ _ rfl rB
    ·simp at ho;subst ho;have b4 : a.tmps.getD 4 undef = .int .i64 (k : Int) := hR.base 4 (by kernel_rfl);refine plain_step rfl rfl ?_;go_simp;exact hK _ _ rfl rB
    ·simp at ho;subst ho;have e1 : a.tmps.getD 13 undef = .slice (some ⟨g, off, none⟩) n ca := hR.dep ⟨1, .data⟩ (by simp) rfl (by decide);have e2 : a.tmps.getD 14 undef = .int .i64 (k : Int) := hR.dep ⟨2, .data⟩ (by simp) rfl (by decide);refine plain_step rfl rfl ?_;go_simp;exact hK _ _ rfl rB
    ·simp at ho;subst ho;have e3 : a.tmps.getD 15 undef = .pointer (some ⟨g, off + k * 3, none⟩) := hR.dep ⟨3, .data⟩ (by simp) rfl (by decide);have x1 := (cell_up hR.below hgr).trans d1; have x2 := (cell_up hR.below hgr).trans d2; have x3 := (cell_up hR.below hgr).trans d3;refine plain_step rfl rfl ?_;go_simp;exact hK _ _ rfl rB
    ·simp at ho;subst ho;have e0 : a.tmps.getD 12 undef = .agg #[.bool B.neg, .string (encS B.num), .string (encS B.den)] := hR.dep ⟨0, .data⟩ (by simp) rfl (by decide);have e4 : a.tmps.getD 16 undef = .agg #[.bool en, .string es, .string ed] := hR.dep ⟨4, .data⟩ (by simp) rfl (by decide);refine plain_step rfl rfl ?_;go_simp;refine (HFK.out w).mono ?_;rintro e w' ⟨rfl, hb⟩;exact hK _ _ (rfl) hb
   ·intro s w hS hb;have e5 : s 17 = .agg #[.bool C.neg, .string (encS C.num), .string (encS C.den)] := hS 5 (by decide);simp only [over, Nat.zero_add, Nat.reduceAdd, Nat.reduceLeDiff, Nat.reduceLT, decide_true, decide_false, Bool.and_true, Bool.and_false, cond_true, cond_false];obtain ⟨⟨cz0, cz1, cz2⟩, hfz⟩ := row_cells (heap_up hb HX3.out);have fz0 := hfz 0; have fz1 := hfz 1; have fz2 := hfz 2;refine tail_step (n := 0) rfl rfl ?_;go_simp;simp only [wpTail];have HROW := Lib.hid (row_set (heap_up hb HX3.out) (.bool C.neg) (.string (encS C.num)) (.string (encS C.den)));have HBN := Lib.hid (below_row (HBW.out.trans (hb.mono HBW.out.size)) (b := b3) (by have := HLE.out; omega) (.bool C.neg) (.string (encS C.num)) (.string (encS C.den)))
    have HZ2 : Hid ((((w.setCell ⟨b3, 0, none⟩ (.bool C.neg)).setCell ⟨b3, 1, none⟩ (.string (encS C.num))).setCell ⟨b3, 2, none⟩ (.string (encS C.den))).heap[b2]? = some (.cells #[.bool false, .string ⟨#[]⟩, .string ⟨#[]⟩] 26 (0, 0))) := Lib.hid (by simpa [World.setCell, Array.getElem?_modify, Ne.symm HNE.out] using heap_up hb HX2.out);clear hS hb cz0 cz1 cz2 hfz fz0 fz1 fz2;go_wp2_with fail
    go_roundw
    case rel => exact ⟨k + 1, C, by omega, by go_num, HCE, HROW, HZ2, HBN⟩
    case measure => simp [intOf]; omega
  ·have hge : (l.length : Int) ≤ (k : Int) := by omega
   have HT : Hid (sumL l A = B) := Lib.hid (by rw [HBE.out, List.take_of_length_le (by omega)]);obtain ⟨⟨ca0, ca1, ca2⟩, -⟩ := row_cells HX3.out;obtain ⟨⟨cz0, cz1, cz2⟩, hfz⟩ := row_cells HX2.out;have fz0 := hfz 0; have fz1 := hfz 1; have fz2 := hfz 2;have HROW := Lib.hid (row_set HX2.out (.bool B.neg) (.string (encS B.num)) (.string (encS B.den)));have HBN := Lib.hid (below_row HBW.out (b := b2) (by omega) (.bool B.neg) (.string (encS B.num)) (.string (encS B.den)));clear hfz;go_wp2_with fail;refine bodyPost_ret (results_cell_row rfl _ _ b2 26 _ (0, 0) _ rfl HROW.out Tryz.underlying26 rfl (by kernel_rfl)) rfl ?_;exact ⟨by rw [HT.out]; rfl, HBN.out⟩
theorem cells3_one (l : List Rw) : ∀ u ∈ cells3 l, u.oneCell' = true := by
 intro u hu;simp only [cells3, List.mem_flatMap] at hu;obtain ⟨s, -, hu⟩ := hu;simp at hu;rcases hu with rfl | rfl | rfl <;> rfl
theorem cell_fresh3 (w : World) (x y z : Value) (t : TypeId) : ∀ (j : Nat) (u : Value), [x, y, z][j]? = some u → (w.alloc (.cells #[x, y, z] t)).cell? ((⟨w.heap.size, 0, none⟩ : Addr).add j) = some u := by
 intro j u hj;have hr := heap_alloc_new w (.cells #[x, y, z] t);have hadd : ((⟨w.heap.size, 0, none⟩ : Addr).add j) = ⟨w.heap.size, 0 + j, none⟩ := by unfold Addr.add; split <;> simp_all
 rw [hadd, Nat.zero_add, Lib.cell_of_heap hr]
 match j, hj with
 | 0, hj => simpa using hj
 | 1, hj => simpa using hj
 | 2, hj => simpa using hj
end Go.Proofs.YtabfjecegpaoaaaGreatDoor
namespace Go.Proofs.YtabfjecegpaoaaaGreatDoor
open Go.ChangeShapes Go.WideShapes Go.ChangeAt Go.RowKit
section
variable {H : Type} {enc : TypeId × Value → H} {P : Program}
theorem post_of_below {f : Func} {s : ChangeSpec} {apart fresh handsOn again : Bool} {W W' : World} {args : Array Value} {v : Value} {ds gs : List (DataW H)} {before pa pv : List MemPlace}
  (hW : DataW.Whole enc P f.params.toList s.vars apart W args.toList ds gs before)
  (hres : ∀ (b : Nat) (sp : Nat → Bool) (hd : Bool), DataW.TrodAll enc P W' b sp hd f.resultTypes.toList (v.resultList f.resultTypes.size) (s.fn H (ds ++ gs)).results [])
  (hargs : ∀ sp : Nat → Bool, (∀ p ∈ before, sp p.block = true) → DataW.TrodAll enc P W' 0 sp true f.params.toList args.toList (s.fn H (ds ++ gs)).args pa)
  (hvars : ∀ sp : Nat → Bool, (∀ p ∈ before, sp p.block = true) → DataW.TrodVars enc P W' sp s.vars (s.fn H (ds ++ gs)).vars pv)
  (hps : before = pa ++ pv) (hb : Below W.heap.size W W')
  (hok : ∀ (j : Nat) (t : TypeId) (r : Value), f.resultTypes[j]? = some t → (v.resultList f.resultTypes.size)[j]? = some r → Value.okWide P W' .any 0 t r) :
  s.post enc P f apart fresh handsOn again W args v W' := by
 have hlt : ∀ p ∈ before, p.block < W.heap.size := fun p hp => hW.lt p hp
 have hold : ∀ p ∈ before, (fun b => decide (b < W.heap.size)) p.block = true := fun p hp => by simpa using hlt p hp
 refine ⟨ds, gs, before, [], pa, pv, hW, hres _ _ _, hargs _ hold, hvars _ hold, World.keptBut_mono (fun p hp => ⟨hp, ?_⟩) (hb.frame (· ∈ before)), fun _ => ?_⟩
 ·rw [hps, List.mem_append] at hp
  exact Or.inr hp
 ·obtain ⟨_, _, _, _, _, hz, hn⟩ := hW
  refine ⟨hok, _, _, ([] ++ pa) ++ pv, ⟨[] ++ pa, pv, trodAll_append (hargs _ (fun _ _ => rfl)) (hres _ _ _), hvars _ (fun _ _ => rfl), rfl, ?_, ?_⟩, ?_⟩
  ·intro b off hp
   have hin : MemPlace.cell b off ∈ before := by rw [hps]; simpa using hp
   rw [hb.frozen (hlt _ hin)]
   exact hz b off hin
  ·intro ha
   have := hn ha
   rw [hps] at this
   simpa using this
  ·intro p hp _
   rw [hps]
   simpa using hp
end
end Go.Proofs.YtabfjecegpaoaaaGreatDoor
namespace Go.Proofs.YtabfjecegpaoaaaGreatDoor
open Go.ChangeShapes Go.WideShapes Go.ChangeAt Go.RowKit Go.Deep Go.Shelf
set_option linter.unusedVariables false
section
variable {H : Type} {enc : TypeId × Value → H} {W : World}
theorem one_cell {cs : List Value} {i : Nat} (h : i < cs.length) : (cs.drop i).take 1 = [cs[i]] := by
 rw [List.drop_eq_getElem_cons h]; rfl
theorem add_plain3 (g off j : Nat) : (⟨g, off, none⟩ : Addr).add j = ⟨g, off + j, none⟩ := Addr.add_lit ..
theorem add_add3 (a : Addr) (i j : Nat) : (a.add i).add j = a.add (i + j) := by
 obtain ⟨g, off, spot⟩ := a;cases i <;> cases j <;> simp [Addr.add] <;> omega
theorem block_lt3 {g off : Nat} {v : Value} (h : W.cell? ⟨g, off, none⟩ = some v) : g < W.heap.size := by
 rcases Nat.lt_or_ge g W.heap.size with hl | hl
 ·exact hl
 ·simp [World.cell?, Array.getElem?_eq_none hl] at h
set_option maxRecDepth 100000 in
theorem arg_triples {base : Nat} {v : Value} {d : DataW H} {p : List MemPlace} (hval : Value.okWide Tryz.prog W .any base 52 v) (h : DataW.Trod enc Tryz.prog W 0 (fun _ => true) true 52 v d p) (hlt : ∀ x ∈ p, x.block < W.heap.size) : ∃ u : Unit, ArgT W v := by
 refine ⟨(), ?_⟩;have hcu : Tryz.prog.cellsOf 3 = 1 := by kernel_rfl
 have hce : Tryz.prog.cellsOf 22 = 3 := by kernel_rfl
 obtain ⟨a0, len0, cap0, rfl⟩ := okWide_slice Tryz.underlying52 hval;obtain ⟨fuel, hf⟩ := h;rcases open_slice Tryz.underlying52 hf with ⟨hc, hx⟩ | ⟨a, len, cap, m, n, D, Pl, hc, hb, hl, hm, hmm, hx, hel⟩
 ·simp [Value.cells] at hc;obtain ⟨rfl, rfl, rfl⟩ := hc;exact ⟨none, 0, 0, rfl, by omega, fun i h => absurd h (by omega)⟩
 ·simp [Value.cells] at hc;obtain ⟨rfl, rfl, rfl⟩ := hc;simp only [if_true] at hmm;subst hmm;have hcc : ∀ i, i < len0 → ∃ x y z : Int, inJ x ∧ inJ y ∧ inJ z ∧ W.cell? (a.add (i * 3)) = some (.int .i64 x) ∧ W.cell? (a.add (i * 3 + 1)) = some (.int .i64 y) ∧ W.cell? (a.add (i * 3 + 2)) = some (.int .i64 z) := by
   intro i hi;obtain ⟨cs, h1, h2⟩ := hel i (by omega);rw [hce] at h1;obtain ⟨_, hlen, hcell⟩ := World.cells?_some h1;obtain ⟨ys, k, -, -, -, hyl, hall⟩ := DataW.trod_array Tryz.underlying22 h2;have key : ∀ j, j < 3 → ∃ z : Int, inJ z ∧ W.cell? ((a.add (i * 3)).add j) = some (.int .i64 z) := by
    intro j hj;have hjl : j < cs.length := by omega
    have e1 := hall j hj;rw [hcu, Nat.mul_one, one_cell hjl] at e1;cases hy : ys[j]? with
    | none => simp [hyl, hj] at hy
    | some y =>
     rw [hy] at e1;obtain ⟨z, hz, -, hw⟩ := DataW.trod_int Tryz.underlying3 e1;refine ⟨z, wf_rng hw, ?_⟩;rw [hcell j (by omega), List.getElem?_eq_getElem hjl];simp only [List.cons.injEq, and_true] at hz;rw [hz]
   obtain ⟨x, x1, x2⟩ := key 0 (by omega);obtain ⟨y, y1, y2⟩ := key 1 (by omega);obtain ⟨z, z1, z2⟩ := key 2 (by omega);rw [add_add3] at x2 y2 z2;exact ⟨x, y, z, x1, y1, z1, x2, y2, z2⟩
  refine ⟨some a, _, _, rfl, by unfold maxLen at hm; omega, fun i hi => ?_⟩;obtain ⟨x, y, z, h1, h2, h3, h4, h5, h6⟩ := hcc i hi;obtain ⟨x0, _, _, _, _, _, h0, _⟩ := hcc 0 (by omega);obtain ⟨g, off, spot⟩ := a;have hspot : spot = none := by
   have := World.cell?_spot h0;simpa [Addr.add] using this
  subst hspot;rw [add_plain3] at h4 h5 h6;exact ⟨g, off, x, y, z, rfl, block_lt3 h4, h1, h2, h3, h4, by rw [Nat.add_assoc]; exact h5, by rw [Nat.add_assoc]; exact h6⟩
end
end Go.Proofs.YtabfjecegpaoaaaGreatDoor
namespace Go.Proofs.YtabfjecegpaoaaaGreatDoor
open Go.RowKit Go.Shelf
open Dgt
set_option linter.unusedVariables false
theorem sgQ_eqm {x : Rat} : sgQ x = -1 ↔ x < 0 := by
 rcases tri x with h | h | h
 ·subst h; exact ⟨fun e => (by cases e), fun e => by grind⟩
 ·rw [sgQ_pos h]; exact ⟨fun e => (by cases e), fun e => by grind⟩
 ·rw [sgQ_neg h]; exact ⟨fun _ => h, fun _ => rfl⟩
theorem sgQ_gt0 {x : Rat} : 0 < sgQ x ↔ 0 < x := by
 rcases tri x with h | h | h
 ·subst h; exact ⟨fun e => (by cases e), fun e => by grind⟩
 ·rw [sgQ_pos h]; exact ⟨fun _ => h, fun _ => by omega⟩
 ·rw [sgQ_neg h]; exact ⟨fun e => (by omega), fun e => by grind⟩
theorem sgQ_minus (x : Rat) : sgQ (-x) = -sgQ x := by
 rcases tri x with h | h | h
 ·subst h; rfl
 ·rw [sgQ_pos h, sgQ_neg (by grind)]
 ·rw [sgQ_neg h, sgQ_pos (by grind)]; rfl
theorem ahead_asymm {ov : Nat → Rat} {i k : Nat} (h : ahead ov i k) (h2 : ahead ov k i) : False := by
 unfold ahead at h h2;rcases h with h | ⟨h, hh⟩ <;> rcases h2 with h2 | ⟨h2, hh2⟩
 ·grind
 ·grind
 ·grind
 ·omega
variable {ov : Nat → Rat} {n : Nat} {s : List Nat}
theorem Ordd.bump (h : Ordd ov n s) {m i k : Nat} (hi : i < n) (ha : ahead ov i k) (hk : k ∈ s.take m) : i ∈ s.take m := by
 have hm := h.mem.2 hi;rw [← List.take_append_drop m s, List.mem_append] at hm;rcases hm with hm | hm
 ·exact hm
 ·exact absurd ha (fun ha => ahead_asymm ha (h.parts m k hk i hm))
section
variable {a b s : Rt}
theorem div_mono {x y z : Rat} (h : 0 < z) (hxy : x ≤ y) : x / z ≤ y / z := by
 have hx := div_mulc (x := x) h;have hy := div_mulc (x := y) h
 by_cases hc : x / z ≤ y / z
 ·exact hc
 ·have := Rat.mul_pos (show 0 < x / z - y / z by grind) h
  grind
end
end Go.Proofs.YtabfjecegpaoaaaGreatDoor
namespace Go.Proofs.YtabfjecegpaoaaaGreatDoor
open Go.RowKit Go.Shelf Go.Lib
open Dgt
set_option linter.unusedVariables false
theorem centN_ofC (c : Int) : centN (ofC c) = ofR c := q_inj (centN_ok (ofC_ok c)) (ofR_ok c) (by rw [q_centN (ofC_ok c), q_ofC, q_of]; grind)
theorem cents_of {c : Int} (h1 : -9223372036854775808 ≤ c) (h2 : c ≤ 9223372036854775807) : centsOk (ofC c) = true ∧ centsI (ofC c) = c := by
 have h : centsOk (ofC c) = true := by
  unfold centsOk; rw [centN_ofC]; unfold ofR
  by_cases hc : c < 0
  ·simp [hc]; omega
  ·simp [hc]; omega
 refine ⟨h, ?_⟩;unfold centsI; rw [if_pos h, centN_ofC]; unfold ofR iv
 by_cases hc : c < 0
 ·simp [hc]; omega
 ·simp [hc]; omega
section
variable {a : Rt}
end
end Go.Proofs.YtabfjecegpaoaaaGreatDoor
namespace Go.Proofs.YtabfjecegpaoaaaGreatDoor
open Go.RowKit Go.Shelf
open Dgt
set_option linter.unusedVariables false
section
variable (c : Int) (ws : List Rt)
end
section
variable {c : Int} {ws : List Rt}
variable {s : List Nat}
theorem parts_len : (partsT c ws s).length = ws.length := by simp [partsT]
theorem parts_at {k : Nat} (h : k < ws.length) : (partsT c ws s)[k]'(by rw [parts_len]; exact h) = ofC (sgZ c (xZ c ws s k)) := by simp [partsT]
theorem parts_ok : ∀ a ∈ partsT c ws s, a.Ok := by
 intro a ha;unfold partsT at ha;rw [List.mem_map] at ha;obtain ⟨k, -, rfl⟩ := ha;exact ofC_ok _
theorem Wts.parts_sum (h : Wts ws) (ho : OrdS c ws s) : sumT (partsT c ws s) = ofC c := by
 refine q_inj (sumT_ok parts_ok) (ofC_ok c) ?_;rw [sumQ_list parts_ok, parts_len];have e : sumQ (atQ (partsT c ws s)) ws.length = sumQ (fun k => (if c < 0 then (-1 : Rat) else 1) / 100 * (xZ c ws s k : Rat)) ws.length := sumQ_congr fun k hk => by
  unfold atQ;rw [getD_at' (by rw [parts_len]; exact hk), parts_at hk, q_ofC];unfold sgZ; split
  ·rw [Rat.intCast_neg]; grind
  ·grind
 rw [e, sumQ_scale, h.sum_x ho, q_ofC];have : (c : Rat) = (if c < 0 then (-1 : Rat) else 1) * ((c.natAbs : Int) : Rat) := by
  split
  ·rw [show ((c.natAbs : Int)) = -c by omega, Rat.intCast_neg]; grind
  ·rw [show ((c.natAbs : Int)) = c by omega]; grind
 rw [this]; grind
theorem Wts.near (h : Wts ws) (ho : OrdS c ws s) (k : Nat) : (xZ c ws s k : Rat) - (qtR c ws k).q < 1 ∧ -1 < (xZ c ws s k : Rat) - (qtR c ws k).q := by
 have hr := ov_range (c := c) (ws := ws) k;have hz : (qtR c ws k).q = ovQ c ws k + (zZ c ws k : Rat) := by unfold ovQ; grind
 unfold xZ
 by_cases hk : k ∈ s.take (lefZ c ws).toNat
 ·have := ho.pos (fun k _ => ov_range k) h.leftN hk;rw [if_pos hk, Rat.intCast_add, hz]; grind
 ·rw [if_neg hk, Rat.intCast_add, hz]; grind
theorem lt_div {x y z : Rat} (h : 0 < z) : x / z < y / z ↔ x < y := by
 have hx := div_mulc (x := x) h; have hy := div_mulc (x := y) h
 constructor
 ·intro hl; have := Rat.mul_pos (show 0 < y / z - x / z by grind) h; grind
 ·intro hl
  by_cases hc : x / z < y / z
  ·exact hc
  ·have := Rat.mul_nonneg (show 0 ≤ x / z - y / z by grind) (Rat.le_of_lt h); grind
theorem floor_mono_i {x y : Rat} (h : x ≤ y) : x.floor ≤ y.floor := Rat.le_floor_iff.2 (by have := Rat.floor_le x; grind)
theorem Wts.x_mono (h : Wts ws) (ho : OrdS c ws s) {i k : Nat} (hi : i < ws.length) (hk : k < ws.length) (hw : atQ ws k < atQ ws i ∨ (atQ ws k = atQ ws i ∧ i < k)) : xZ c ws s k ≤ xZ c ws s i := by
 have hle : atQ ws k ≤ atQ ws i := by rcases hw with hw | hw; exact Rat.le_of_lt hw; exact (by rw [hw.1]; exact Rat.le_refl)
 have hq : (qtR c ws k).q ≤ (qtR c ws i).q := by
  rw [h.q_qt, h.q_qt];refine div_mono h.pos ?_;have := Rat.mul_nonneg (abs_nn c) (show 0 ≤ atQ ws i - atQ ws k by grind)
  grind
 have hf : zZ c ws k ≤ zZ c ws i := floor_mono_i hq;unfold xZ
 by_cases hlt : zZ c ws k < zZ c ws i
 ·split <;> split <;> omega
 ·have hz : zZ c ws k = zZ c ws i := by omega
  by_cases hkb : k ∈ s.take (lefZ c ws).toNat
  ·have hib : i ∈ s.take (lefZ c ws).toNat := by
    refine ho.bump hi ?_ hkb;unfold ahead;rcases hw with hw | ⟨hw, hik⟩
    ·left
     by_cases hc : c = 0
     ·exfalso
      have hp := ho.pos (fun k _ => ov_range k) h.leftN hkb;have : (qtR c ws k).q = 0 := by rw [h.q_qt, hc]; simp; grind
      unfold ovQ zZ at hp;rw [this] at hp;rw [show Rat.floor 0 = 0 from rfl] at hp;exact absurd hp (by grind)
     ·have hs : (qtR c ws k).q < (qtR c ws i).q := by
       rw [h.q_qt, h.q_qt, lt_div h.pos];have := Rat.mul_pos (show (0 : Rat) < ((c.natAbs : Int) : Rat) by simpa using Rat.intCast_lt_intCast.2 (show (0 : Int) < c.natAbs by omega)) (show 0 < atQ ws i - atQ ws k by grind)
       grind
      unfold ovQ; rw [hz]; grind
    ·right
     refine ⟨?_, hik⟩;have : (qtR c ws k).q = (qtR c ws i).q := by rw [h.q_qt, h.q_qt, hw]
     unfold ovQ; rw [hz, this]
   rw [if_pos hkb, if_pos hib]; omega
  ·rw [if_neg hkb]; split <;> omega
end
def centR : Rt := low false 1 100
theorem centR_ok : centR.Ok := low_ok _ (by decide)
theorem centR_sz : Rz centR 8 := low_sz (by unfold Sz; decide) (by unfold Sz; decide)
theorem q_cent : centR.q = 1 / 100 := by unfold centR; rw [q_low _ (by decide), Rat.mkRat_eq_div]; rfl
theorem of_ref (c : Int) : mulR (ofR c) centR = ofC c := q_inj (mulR_ok (ofR_ok c) centR_ok) (ofC_ok c) (by rw [q_mul (ofR_ok c) centR_ok, q_of, q_cent, q_ofC]; grind)
set_option maxHeartbeats 2000000 in
set_option maxRecDepth 100000 in
theorem cent_any   (wq : World) :
  Calls Tryz.prog 45 #[] wq fun e w' => e = .returned (rtV centR) ∧ Below wq.heap.size wq w' := by
 have c3 := fun w => rRatMake_any false (encS 1) (encS 100) w (Nat.le_trans (encS_size_lt sz_one') (by decide)) (Nat.le_trans (encS_size_lt (show Sz 100 1 by unfold Sz; decide)) (by decide))
 have e : makeV false (encS 1) (encS 100) = .tuple #[rtV centR, .bool true] := by unfold makeV; rw [right_enc, right_enc, numS_encS, numS_encS]; rfl
 rw [e] at c3; clear e;obtain ⟨z, hz⟩ : ∃ z, centR = z := ⟨_, rfl⟩; rw [hz] at c3 ⊢;have C1 : Hid (∀ w, Calls Tryz.prog 40 #[.int .i64 1] w fun e w' => e = .returned (.string (encS 1)) ∧ Below w.heap.size w w') := Lib.hid fun w => by
  have h := (fun w => rOf_any 1 w (by decide)) w;exact h
 have C2 : Hid (∀ w, Calls Tryz.prog 40 #[.int .i64 100] w fun e w' => e = .returned (.string (encS 100)) ∧ Below w.heap.size w w') := Lib.hid fun w => by
  have h := (fun w => rOf_any 100 w (by decide)) w;exact h
 have C3 : Hid (∀ w, Calls Tryz.prog 81 #[.bool false, .string (encS 1), .string (encS 100)] w fun e w' => e = .returned (.tuple #[.agg #[.bool z.neg, .string (encS z.num), .string (encS z.den)], .bool true]) ∧ Below w.heap.size w w') := Lib.hid fun w => by
  have h := c3 w;exact h
 clear c3 hz;have HB := Lib.hid (Below.refl wq.heap.size wq);obtain ⟨n0, hn0⟩ : ∃ n, n = wq.heap.size := ⟨_, rfl⟩; rw [← hn0]; have HN0 := Lib.hid hn0; clear hn0;go_enter Tryz.func45, Tryz.ntmps45;obtain ⟨W1, bk0, hW1, hbk0, HX0_1, HB, HG0_1, hup⟩ := boxn HB HN0 (.cells #[.bool false, .string ⟨#[]⟩, .string ⟨#[]⟩] 26);clear hup;go_wp2_with fail;clear hW1 hbk0;refine (C1.out _).mono ?_;rintro e w2 ⟨rfl, hb⟩;have HX0_1 := uH hb HX0_1;have HB := mH HB hb;clear hb;go_wp2_with fail;refine (C2.out _).mono ?_;rintro e w3 ⟨rfl, hb⟩;have HX0_1 := uH hb HX0_1;have HB := mH HB hb;clear hb;go_wp2_with fail;refine (C3.out _).mono ?_;rintro e w4 ⟨rfl, hb⟩;have HX0_1 := uH hb HX0_1;have HB := mH HB hb;clear hb;obtain ⟨W5, bk1, hW5, hbk1, HX1_2, HB, HG1_2, hup⟩ := boxn HB HN0 (.cells #[.bool false, .string ⟨#[]⟩, .string ⟨#[]⟩] 26);have HL1_2 := (hup _ _ HX0_1).2;have HX0_1 := (hup _ _ HX0_1).1
 clear hup;obtain ⟨W6, hW6, HX1_2, HB, ho, f3a, f3b, f3c, k3a, k3b, k3c⟩ := put3 HX1_2 HB HN0 HG1_2 (.bool z.neg) (.string (encS z.num)) (.string (encS z.den));have HX0_1 := ho _ _ (by have h0 := HL1_2.out; omega) HX0_1;clear ho;obtain ⟨k4a, k4b, k4c⟩ := c3 HX1_2;obtain ⟨W7, hW7, HX0_1, HB, ho, f5a, f5b, f5c, k5a, k5b, k5c⟩ := put3 HX0_1 HB HN0 HG0_1 (.bool z.neg) (.string (encS z.num)) (.string (encS z.den));have HX1_2 := ho _ _ (by have h0 := HL1_2.out; omega) HX1_2;clear ho;go_wp2_with fail;clear hW5 hbk1 f3a f3b f3c k3a k3b k3c hW6 k4a k4b k4c f5a f5b f5c k5a k5b k5c hW7;refine bodyPost_ret (results_cell_row rfl _ _ bk0 26 _ (0, 0) _ rfl HX0_1.out Tryz.underlying26 rfl (by kernel_rfl)) rfl ?_;exact ⟨rfl, by rw [HN0.out]; exact HB.out⟩
set_option maxHeartbeats 2000000 in
set_option maxRecDepth 100000 in
theorem rOfC_any (n : Int) (h1 : -9223372036854775808 ≤ n) (h2 : n ≤ 9223372036854775807) (wq : World) :
  Calls Tryz.prog 14 #[.int .i64 n] wq fun e w' => e = .returned (rtV (ofC n)) ∧ Below wq.heap.size wq w' := by
 have c1 := fun w => rRatOf_any n w h1 h2; have c2 := fun w => cent_any w
 have c3 := fun w => rRatMul_r (IsR.of (ofR_ok n) (ofR_sz h1 h2)) (IsR.of centR_ok centR_sz) (by decide) (by decide) w
 rw [of_ref] at c3;obtain ⟨x, hx⟩ : ∃ x, ofR n = x := ⟨_, rfl⟩; obtain ⟨y, hy⟩ : ∃ x, centR = x := ⟨_, rfl⟩; obtain ⟨z, hz⟩ : ∃ x, ofC n = x := ⟨_, rfl⟩;rw [hx] at c1 c3; rw [hy] at c2 c3; rw [hz] at c3 ⊢; clear hx hy hz h1 h2;have C1 : Hid (∀ w, Calls Tryz.prog 17 #[.int .i64 n] w fun e w' => e = .returned (.agg #[.bool x.neg, .string (encS x.num), .string (encS x.den)]) ∧ Below w.heap.size w w') := Lib.hid fun w => by
  have h := c1 w;exact h
 have C2 : Hid (∀ w, Calls Tryz.prog 45 #[] w fun e w' => e = .returned (.agg #[.bool y.neg, .string (encS y.num), .string (encS y.den)]) ∧ Below w.heap.size w w') := Lib.hid fun w => by
  have h := c2 w;exact h
 have C3 : Hid (∀ w, Calls Tryz.prog 16 #[.agg #[.bool x.neg, .string (encS x.num), .string (encS x.den)], .agg #[.bool y.neg, .string (encS y.num), .string (encS y.den)]] w fun e w' => e = .returned (.agg #[.bool z.neg, .string (encS z.num), .string (encS z.den)]) ∧ Below w.heap.size w w') := Lib.hid fun w => by
  have h := c3 w;exact h
 clear c1 c2 c3;have HB := Lib.hid (Below.refl wq.heap.size wq);obtain ⟨n0, hn0⟩ : ∃ n, n = wq.heap.size := ⟨_, rfl⟩; rw [← hn0]; have HN0 := Lib.hid hn0; clear hn0;go_enter Tryz.func14, Tryz.ntmps14;obtain ⟨W1, bk2, hW1, hbk2, HX2_1, HB, HG2_1, hup⟩ := boxn HB HN0 (.cells #[.bool false, .string ⟨#[]⟩, .string ⟨#[]⟩] 26);clear hup;go_wp2_with fail;clear hW1 hbk2;refine (C1.out _).mono ?_;rintro e w2 ⟨rfl, hb⟩;have HX2_1 := uH hb HX2_1;have HB := mH HB hb;clear hb;go_wp2_with fail;refine (C2.out _).mono ?_;rintro e w3 ⟨rfl, hb⟩;have HX2_1 := uH hb HX2_1;have HB := mH HB hb;clear hb;go_wp2_with fail;refine (C3.out _).mono ?_;rintro e w4 ⟨rfl, hb⟩;have HX2_1 := uH hb HX2_1;have HB := mH HB hb;clear hb;obtain ⟨W5, hW5, HX2_1, HB, ho, f2a, f2b, f2c, k2a, k2b, k2c⟩ := put3 HX2_1 HB HN0 HG2_1 (.bool z.neg) (.string (encS z.num)) (.string (encS z.den));clear ho;go_wp2_with fail
 clear f2a f2b f2c k2a k2b k2c hW5;refine bodyPost_ret (results_cell_row rfl _ _ bk2 26 _ (0, 0) _ rfl HX2_1.out Tryz.underlying26 rfl (by kernel_rfl)) rfl ?_;exact ⟨rfl, by rw [HN0.out]; exact HB.out⟩
def EQuota_r_1_1 (a : Rt) (S : Rt) (x : Rt) (m : Rt) (q : Rt) (n : Nat) (k : Nat) (g : Nat) (off : Nat) (ca : Nat) : Nat → Value
 | 0 => .agg #[.bool a.neg, .string (encS a.num), .string (encS a.den)]
 | 1 => .slice (some ⟨g, off, none⟩) n ca
 | 2 => .int .i64 (k : Int)
 | 3 => .pointer (some ⟨g, off + k * 3, none⟩)
 | 4 => .agg #[.bool x.neg, .string (encS x.num), .string (encS x.den)]
 | 5 => .agg #[.bool m.neg, .string (encS m.num), .string (encS m.den)]
 | 6 => .slice (some ⟨g, off, none⟩) n ca
 | 7 => .agg #[.bool S.neg, .string (encS S.num), .string (encS S.den)]
 | 8 => .tuple #[.agg #[.bool q.neg, .string (encS q.num), .string (encS q.den)], .bool true]
 | 9 => .tuple #[.agg #[.bool q.neg, .string (encS q.num), .string (encS q.den)], .bool true]
 | 10 => .agg #[.bool q.neg, .string (encS q.num), .string (encS q.den)]
 | 11 => .bool true
 | 12 => undef
 | 13 => undef
 | 14 => .bool true
 | _ => undef
def SQuota_r_1_1 (a : Rt) (S : Rt) (x : Rt) (m : Rt) (q : Rt) (n : Nat) (k : Nat) (g : Nat) (off : Nat) (ca : Nat) (ix : Nat) (v : Value) (w : World) : Prop :=
 match ix with
 | ix => v = EQuota_r_1_1 a S x m q n k g off ca ix
set_option maxHeartbeats 2000000 in
set_option maxRecDepth 100000 in
theorem Quota_r {a : Rt} {ws : List Rt} (ha : a.Ok) (za : Rz a 90000) (ho : ∀ x ∈ ws, x.Ok) (hz : ∀ x ∈ ws, Rz x 1000) (hn : ws.length ≤ 20) (hnum : (sumT ws).num ≠ 0) (k : Nat) (hk : k < ws.length) (v : Value) (wq : World) (hl : LstR wq v (ws.map rawR)) :
  Calls Tryz.prog 37 #[.agg #[.bool a.neg, .string (encS a.num), .string (encS a.den)], v, .int .i64 (k : Int)] wq fun e w' => e = .returned (rtV (quoR (mulR a (ws.getD k zeroR)) (sumT ws))) ∧ Below wq.heap.size wq w' := by
 obtain ⟨p, ca, rfl, -, hcells⟩ := hl.open;rw [List.length_map] at hl ⊢;have hh := hcells k (by rw [List.length_map]; exact hk);simp only [List.getElem_map] at hh;obtain ⟨g, off, rfl, hg, hd⟩ := hh;rw [getD_at' hk];have hS : (sumT ws).Ok := sumT_ok ho;have zS : Rz (sumT ws) 30000 := sumT_sz ho hz hn;have hx := ho _ (List.getElem_mem hk); have zx := hz _ (List.getElem_mem hk);have c1 := fun w => rRatMul_r (IsR.of ha za) (IsR.of hx (zx.mono (show 1000 ≤ 90000 by decide))) (by decide) (by decide) w
 have c2 : ∀ w, Below wq.heap.size wq w → _ := fun w h => rSum_any (ws.map rawR) (.slice (some ⟨g, off, none⟩) ws.length ca) w (hl.up h) (by rw [List.length_map]; exact hn) (szl_raw hz)
 rw [sumT_raw ho] at c2;have c3 := fun w => rRatQuo_r (IsR.of (mulR_ok ha hx) (mulR_sz za zx)) (IsR.of hS (zS.mono (show 30000 ≤ 91000 by decide))) (by decide) (by decide) w
 unfold quoV at c3; rw [if_neg hnum] at c3;have HD : Hid (wq.cell? ⟨g, off + k * 3, none⟩ = some (.bool ws[k].neg) ∧ wq.cell? ⟨g, off + k * 3 + 1, none⟩ = some (.string (encS ws[k].num)) ∧ wq.cell? ⟨g, off + k * 3 + 2, none⟩ = some (.string (encS ws[k].den))) := Lib.hid hd;have HGG := Lib.hid hg;have HKN := Lib.hid hk;obtain ⟨n, hnn⟩ : ∃ n, ws.length = n := ⟨_, rfl⟩; rw [hnn] at c2 HKN;rw [hnn];obtain ⟨x, h1⟩ : ∃ x, ws[k] = x := ⟨_, rfl⟩; rw [h1] at c1 c3 HD ⊢;obtain ⟨S, h2⟩ : ∃ x, sumT ws = x := ⟨_, rfl⟩; rw [h2] at c2 c3 ⊢;obtain ⟨m, h3⟩ : ∃ x, mulR a ws[k] = x := ⟨_, rfl⟩; rw [h1] at h3; rw [h3] at c1 c3 ⊢;obtain ⟨q, h4⟩ : ∃ x, quoR m S = x := ⟨_, rfl⟩; rw [h4] at c3 ⊢
 have C1 : Hid (∀ w, Calls Tryz.prog 16 #[.agg #[.bool a.neg, .string (encS a.num), .string (encS a.den)], .agg #[.bool x.neg, .string (encS x.num), .string (encS x.den)]] w fun e w' => e = .returned (.agg #[.bool m.neg, .string (encS m.num), .string (encS m.den)]) ∧ Below w.heap.size w w') := Lib.hid fun w => by
  have h := c1 w;exact h
 have C2 : Hid (∀ w, Below wq.heap.size wq w → Calls Tryz.prog 36 #[.slice (some ⟨g, off, none⟩) n ca] w fun e w' => e = .returned (.agg #[.bool S.neg, .string (encS S.num), .string (encS S.den)]) ∧ Below w.heap.size w w') := Lib.hid fun w hp0 => by
  have h := c2 w hp0;exact h
 have C3 : Hid (∀ w, Calls Tryz.prog 26 #[.agg #[.bool m.neg, .string (encS m.num), .string (encS m.den)], .agg #[.bool S.neg, .string (encS S.num), .string (encS S.den)]] w fun e w' => e = .returned (.tuple #[.agg #[.bool q.neg, .string (encS q.num), .string (encS q.den)], .bool true]) ∧ Below w.heap.size w w') := Lib.hid fun w => by
  have h := c3 w;exact h
 clear c1 c2 c3 hcells hl ha za ho hz hn hnum hk hg hd hS zS hx zx hnn h1 h2 h3 h4;have HB := Lib.hid (Below.refl wq.heap.size wq);obtain ⟨n0, hn0⟩ : ∃ n, n = wq.heap.size := ⟨_, rfl⟩; rw [← hn0]; have HN0 := Lib.hid hn0; clear hn0;go_enter Tryz.func37, Tryz.ntmps37;obtain ⟨W1, bk3, hW1, hbk3, HX3_1, HB, HG3_1, hup⟩ := boxn HB HN0 (.cells #[.bool a.neg, .string (encS a.num), .string (encS a.den)] 26);clear hup;obtain ⟨W2, bk6, hW2, hbk6, HX6_2, HB, HG6_2, hup⟩ := boxn HB HN0 (.cells #[.bool false, .string ⟨#[]⟩, .string ⟨#[]⟩] 26);have HL6_2 := (hup _ _ HX3_1).2;have HX3_1 := (hup _ _ HX3_1).1;clear hup;go_wp2_with fail;clear hW1 hbk3 hW2 hbk6
 refine wp_region_box (w0 := W2) (by kernel_rfl) (SQuota_r_1_1 a S x m q n k g off ca) 12 13 (.cells #[.bool false, .string ⟨#[]⟩, .string ⟨#[]⟩] 26 (0, 0)) (.cells #[.bool q.neg, .string (encS q.num), .string (encS q.den)] 26 (0, 0)) (fun t => (decide (7 ≤ t) && decide (t < 21))) (by kernel_rfl) (by kernel_rfl) (by kernel_rfl) (by decide) (by decide) (by kernel_rfl) rfl (fun _ _ _ _ _ h => h) ?_ ?_ ?_ ?_
 ·intro i hi hia his ov_ listed av_ w hR K hK;have ho := hR.at_;have hi : i < 15 := hi;have hii : i = 0 ∨ i = 1 ∨ i = 2 ∨ i = 3 ∨ i = 4 ∨ i = 5 ∨ i = 6 ∨ i = 7 ∨ i = 8 ∨ i = 9 ∨ i = 10 ∨ i = 11 ∨ i = 14 := by omega
  rcases hii with rfl | rfl | rfl | rfl | rfl | rfl | rfl | rfl | rfl | rfl | rfl | rfl | rfl
  ·simp at ho;subst ho;have b3 : av_.tmps.getD 3 undef = .pointer (some ⟨bk3, 0, none⟩) := hR.base 3 (by kernel_rfl);obtain ⟨cx0, cx1, cx2⟩ := c3 (uH hR.below HX3_1);refine plain_step rfl rfl ?_;go_simp;exact hK _ _ rfl rB
  ·simp at ho;subst ho;have b1 : av_.tmps.getD 1 undef = .slice (some ⟨g, off, none⟩) n ca := hR.base 1 (by kernel_rfl);refine plain_step rfl rfl ?_;go_simp;exact hK _ _ rfl rB
  ·simp at ho;subst ho;have b2 : av_.tmps.getD 2 undef = .int .i64 (k : Int) := hR.base 2 (by kernel_rfl);refine plain_step rfl rfl ?_;go_simp;exact hK _ _ rfl rB
  ·simp at ho;subst ho;have e1 : av_.tmps.getD 11 undef = .slice (some ⟨g, off, none⟩) n ca := hR.dep ⟨1, .data⟩ (by simp) rfl (by decide) (by decide);have e2 : av_.tmps.getD 12 undef = .int .i64 (k : Int) := hR.dep ⟨2, .data⟩ (by simp) rfl (by decide) (by decide);have q1 : (k : Int) < (n : Int) := by have := HKN.out; omega
   refine plain_step rfl rfl ?_;go_simp;exact hK _ _ rfl rB
  ·simp at ho;subst ho;have e3 : av_.tmps.getD 13 undef = .pointer (some ⟨g, off + k * 3, none⟩) := hR.dep ⟨3, .data⟩ (by simp) rfl (by decide) (by decide);have d0 : w.cell? ⟨g, off + k * 3, none⟩ = some (.bool x.neg) := by rw [cell_up (HB.out.trans (hR.below.mono HB.out.size)) HGG.out]; exact HD.out.1
   have d1 : w.cell? ⟨g, off + k * 3 + 1, none⟩ = some (.string (encS x.num)) := by rw [cell_up (HB.out.trans (hR.below.mono HB.out.size)) HGG.out]; exact HD.out.2.1
   have d2 : w.cell? ⟨g, off + k * 3 + 2, none⟩ = some (.string (encS x.den)) := by rw [cell_up (HB.out.trans (hR.below.mono HB.out.size)) HGG.out]; exact HD.out.2.2
   refine plain_step rfl rfl ?_;go_simp;exact hK _ _ rfl rB
  ·simp at ho;subst ho;have e0 : av_.tmps.getD 10 undef = .agg #[.bool a.neg, .string (encS a.num), .string (encS a.den)] := hR.dep ⟨0, .data⟩ (by simp) rfl (by decide) (by decide);have e4 : av_.tmps.getD 14 undef = .agg #[.bool x.neg, .string (encS x.num), .string (encS x.den)] := hR.dep ⟨4, .data⟩ (by simp) rfl (by decide) (by decide);refine plain_step rfl rfl ?_;go_simp;refine (C1.out w).mono ?_;rintro e w' ⟨rfl, hb⟩;exact hK _ _ (rfl) hb
  ·simp at ho;subst ho;have b1 : av_.tmps.getD 1 undef = .slice (some ⟨g, off, none⟩) n ca := hR.base 1 (by kernel_rfl);refine plain_step rfl rfl ?_;go_simp;exact hK _ _ rfl rB
  ·simp at ho;subst ho;have e6 : av_.tmps.getD 16 undef = .slice (some ⟨g, off, none⟩) n ca := hR.dep ⟨6, .data⟩ (by simp) rfl (by decide) (by decide);refine plain_step rfl rfl ?_;go_simp;refine (C2.out w (HB.out.trans (hR.below.mono HB.out.size))).mono ?_;rintro e w' ⟨rfl, hb⟩;exact hK _ _ (rfl) hb
  ·simp at ho;subst ho;have e5 : av_.tmps.getD 15 undef = .agg #[.bool m.neg, .string (encS m.num), .string (encS m.den)] := hR.dep ⟨5, .data⟩ (by simp) rfl (by decide) (by decide);have e7 : av_.tmps.getD 17 undef = .agg #[.bool S.neg, .string (encS S.num), .string (encS S.den)] := hR.dep ⟨7, .data⟩ (by simp) rfl (by decide) (by decide);refine plain_step rfl rfl ?_;go_simp;refine (C3.out w).mono ?_;rintro e w' ⟨rfl, hb⟩;exact hK _ _ (rfl) hb
  ·simp at ho;subst ho;have e8 : av_.tmps.getD 18 undef = .tuple #[.agg #[.bool q.neg, .string (encS q.num), .string (encS q.den)], .bool true] := hR.dep ⟨8, .data⟩ (by simp) rfl (by decide) (by decide);refine plain_step rfl rfl ?_;go_simp;exact hK _ _ rfl rB
  ·simp at ho;subst ho;have e9 : av_.tmps.getD 9 undef = .tuple #[.agg #[.bool q.neg, .string (encS q.num), .string (encS q.den)], .bool true] := hR.dep ⟨9, .data⟩ (by simp) rfl (by decide) (by decide);refine plain_step rfl rfl ?_;go_simp;exact hK _ _ rfl rB
  ·simp at ho;subst ho;have e9 : av_.tmps.getD 9 undef = .tuple #[.agg #[.bool q.neg, .string (encS q.num), .string (encS q.den)], .bool true] := hR.dep ⟨9, .data⟩ (by simp) rfl (by decide) (by decide);refine plain_step rfl rfl ?_;go_simp;exact hK _ _ rfl rB
  ·simp at ho;subst ho;have e11 : av_.tmps.getD 20 undef = .bool true := hR.dep ⟨11, .data⟩ (by simp) rfl (by decide) (by decide);refine plain_step rfl rfl ?_;go_simp;exact hK _ _ rfl rB
 ·intro ov_ av_ w ho K hK;simp at ho;subst ho;refine plain_step rfl rfl ?_;go_simp;exact hK _ _ _ rfl (Nat.le_refl _) (heap_alloc_new _ _) (rB.alloc (Nat.le_refl _) _)
 ·intro ov_ listed av_ w g hR hv hg hz K hK;have ho := hR.at_;simp at ho;subst ho;have e12 : av_.tmps.getD 7 undef = .pointer (some ⟨g, 0, none⟩) := hv;have e10 : av_.tmps.getD 19 undef = .agg #[.bool q.neg, .string (encS q.num), .string (encS q.den)] := hR.dep ⟨10, .data⟩ (by simp) rfl (by decide) (by decide);have cz0 : w.cell? ⟨g, 0, none⟩ = some (.bool false) := by rw [Lib.cell_of_heap hz]; rfl
  have fz0 : w.frozen? ⟨g, 0, none⟩ = false := frz0 hz 0;have cz1 : w.cell? ⟨g, 1, none⟩ = some (.string ⟨#[]⟩) := by rw [Lib.cell_of_heap hz]; rfl
  have fz1 : w.frozen? ⟨g, 1, none⟩ = false := frz0 hz 1;have cz2 : w.cell? ⟨g, 2, none⟩ = some (.string ⟨#[]⟩) := by rw [Lib.cell_of_heap hz]; rfl
  have fz2 : w.frozen? ⟨g, 2, none⟩ = false := frz0 hz 2;refine plain_step rfl rfl ?_;go_simp;exact hK _ (by simp [World.setCell, Array.getElem?_modify, hz]) (((rB.setCell (p := ⟨g, 0, none⟩) hg (.bool q.neg)).setCell (p := ⟨g, 1, none⟩) hg (.string (encS q.num))).setCell (p := ⟨g, 2, none⟩) hg (.string (encS q.den)))
 ·intro sv_ w g hS hg0 hge hN hb;have e12 : sv_ 7 = .pointer (some ⟨g, 0, none⟩) := hg0;simp only [over, Nat.zero_add, Nat.reduceAdd, Nat.reduceLeDiff, Nat.reduceLT, decide_true, decide_false, Bool.and_true, Bool.and_false, cond_true, cond_false];obtain ⟨bk7, hg1⟩ : ∃ b, g = b := ⟨_, rfl⟩;rw [hg1] at e12 hge hN; clear hg1;have HG7_3 : Hid (n0 ≤ bk7) := Lib.hid (by rw [HN0.out]; exact Nat.le_trans HB.out.size hge);have HL7_3 := Lib.hid (Nat.lt_of_lt_of_le (Array.getElem?_eq_some_iff.1 HX6_2.out).1 hge);have HX7_3 := Lib.hid hN; clear hN hge hg0;have HX3_1 := uH hb HX3_1;have HX6_2 := uH hb HX6_2;have HB := mH HB hb;obtain ⟨w3, hw⟩ : ∃ w8, w8 = w := ⟨_, rfl⟩;subst hw;rw [e12];clear hS hb e12;obtain ⟨k4a, k4b, k4c⟩ := c3 HX7_3;obtain ⟨W4, hW4, HX6_2, HB, ho, f5a, f5b, f5c, k5a, k5b, k5c⟩ := put3 HX6_2 HB HN0 HG6_2 (.bool q.neg) (.string (encS q.num)) (.string (encS q.den))
  have HX3_1 := ho _ _ (by have h0 := HL6_2.out; omega) HX3_1;have HX7_3 := ho _ _ (by have h1 := HL7_3.out; omega) HX7_3;clear ho;go_wp2_with fail;clear k4a k4b k4c f5a f5b f5c k5a k5b k5c hW4;refine bodyPost_ret (results_cell_row rfl _ _ bk6 26 _ (0, 0) _ rfl HX6_2.out Tryz.underlying26 rfl (by kernel_rfl)) rfl ?_;exact ⟨rfl, by rw [HN0.out]; exact HB.out⟩
end Go.Proofs.YtabfjecegpaoaaaGreatDoor
namespace Go.Proofs.YtabfjecegpaoaaaGreatDoor
open Go.RowKit Go.Shelf Go
open Dgt
set_option linter.unusedVariables false
theorem ofC_sz {c : Int} (h1 : -9223372036854775808 ≤ c) (h2 : c ≤ 9223372036854775807) : Rz (ofC c) 16 := quoR_sz (ofR_sz h1 h2) (ofR_sz (n := 100) (by decide) (by decide))
end Go.Proofs.YtabfjecegpaoaaaGreatDoor
