/- MoneyParts: for every input the law returns true, and each argument reads afterwards as it read before; the listed tables read as the program lays them (the tied card). -/
import Derived.WalkKit
import Derived.Deep.LoopGhost
import Derived.Deep.QuietTactic
import Derived.BigQuiet
import Derived.Test.YtabfjecegpaoaaaGreatDoorProg
import Derived.WalkSpells
import Derived.WalkLawsBesides
import Derived.IntWalk
import Derived.Lib.Hide
import Derived.Laws.BitsAllLaws
import Derived.StillTailTactics
import Derived.Deep.OwnRows
import Derived.Lib.ConvBytes
import Derived.Below
import Derived.RangeFuncNested
import Derived.RangeFuncCalls
import Derived.RangeFuncLeaves
import Derived.Shelf.Abstract
import Derived.Lib.LaidIn
import Derived.RegionTactic
import Derived.KernelRfl
import Derived.OrdersIn
import Derived.Shelf.Strings.Builder1
import Derived.Shelf.Strings.Builder2
import Derived.Shelf.Strings.Trim
import Derived.Shelf.Small.Utf8
import Derived.Shelf.Small.Bits
import Derived.Shelf.Small.Strs
import Derived.Shelf.Strings.BuilderF
import Derived.Shelf.Strings.BuilderK
import Derived.Shelf.Strings.Builder2Cap
import Derived.Shelf.Strconv.Atoi
import Derived.Shelf.Strconv.Itoa0
import Derived.Shelf.Strconv.Itoa1
import Derived.Shelf.LaysM
import Derived.Shelf.Strconv.Itoa2
import Derived.Shelf.Strconv.Itoa3
import Derived.Shelf.Strconv.AtoiErrFast
import Derived.Shelf.Strconv.ParseIntEmpty
import Derived.Shelf.Strconv.AtoiFail
import Derived.Shelf.Strconv.Clone
import Derived.Shelf.Strconv.SyntaxError
import Derived.Shelf.LaysC
import Derived.Shelf.Strconv.ToError
import Derived.Shelf.Strconv.Lower
import Derived.Shelf.Strconv.ParseUint10
import Derived.Shelf.Strconv.ParseUint10Empty
import Derived.Shelf.Strconv.ParseUint10Any
import Derived.Shelf.Strconv.ParseInt10
import Derived.Shelf.Strconv.AtoiLong
import Derived.Shelf.Strconv.AtoiInnerAll
import Derived.Shelf.Strconv.RangeError
import Derived.Shelf.Strconv.ToErrorRange
import Derived.Shelf.Strconv.AtoiAll
import Derived.Shelf.Strconv.ErrVarAll
import Derived.Shelf.Strconv.ParseUintEmpty
import Derived.Shelf.Strconv.ParseUint10b64
import Derived.Shelf.Strconv.ParseUint10b32
import Derived.Shelf.Strconv.ParseUint10b16
import Derived.Shelf.Strconv.ParseUint10b8
import Derived.Shelf.Strconv.ParseUint10At
import Derived.Shelf.Strconv.ParseInt10At64
import Derived.Shelf.Strconv.ParseInt10At32
import Derived.Shelf.Strconv.ParseInt10At16
import Derived.Shelf.Strconv.ParseInt10At8
import Derived.Shelf.Strconv.ParseInt10All
import Derived.Shelf.Strings.Search1
import Derived.Shelf.GgClosure.StringsIndexFunc
import Derived.Ground.GgwProg
import Derived.Shelf.GgClosure.StringsIndexFuncTop
import Derived.Shelf.GgClosure.StringsRunes
import Derived.Shelf.Strings.Prefix
import Derived.Shelf.Strings.Runes
import Derived.Shelf.Strings.AsciiSet
import Derived.Shelf.Bits.Mul64
import Derived.Shelf.Strings.Repeat
import Derived.Shelf.Unicode.DecodeSlow
import Derived.Shelf.Unicode.DecodeAny
import Derived.Shelf.Strings.FuncGrows
import Derived.Shelf.Strings.BuilderCap
import Derived.Test.YtabfjecegpaoaaaGreatDoorK10a3
import Derived.Test.YtabfjecegpaoaaaGreatDoorYb8
import Derived.Test.YtabfjecegpaoaaaGreatDoorK10a2
import Derived.Test.YtabfjecegpaoaaaGreatDoorYb3
import Derived.Test.YtabfjecegpaoaaaGreatDoorYb2
import Derived.Test.YtabfjecegpaoaaaGreatDoorYb1
import Derived.Test.YtabfjecegpaoaaaGreatDoorYa6
import Derived.Test.YtabfjecegpaoaaaGreatDoorYa5
import Derived.Test.YtabfjecegpaoaaaGreatDoorYa4
import Derived.Test.YtabfjecegpaoaaaGreatDoorYa3
import Derived.Test.YtabfjecegpaoaaaGreatDoorYa0
import Derived.Test.YtabfjecegpaoaaaGreatDoorYa1
import Derived.Test.YtabfjecegpaoaaaGreatDoorYa2
import Derived.Test.YtabfjecegpaoaaaGreatDoorYb9
import Derived.Test.YtabfjecegpaoaaaGreatDoorYc6
namespace Go.Proofs.YtabfjecegpaoaaaGreatDoor
open Go.RowKit Go.Shelf Go
open Dgt
set_option linter.unusedVariables false
def absR (a : Rt) : Rt := ⟨false, a.num, a.den⟩
theorem absR_ok {a : Rt} (h : a.Ok) : (absR a).Ok := ⟨h.pos, h.one, fun h => by cases h⟩
theorem absR_sz {a : Rt} {k : Nat} (h : Rz a k) : Rz (absR a) k := h
theorem q_abs {a : Rt} (h : a.Ok) : (absR a).q = a.q ∨ (absR a).q = -a.q := by
 cases hn : a.neg
 ·left
  rw [show absR a = a from Rt.ext' hn.symm rfl rfl]
 ·right
  rw [← q_neg]
  congr 1
  have := h.nz hn;unfold negR absR;exact Rt.ext' (by simp [hn]) rfl rfl
theorem sum_nonneg {ws : List Rt} (ho : ∀ a ∈ ws, a.Ok) (hn : ∀ a ∈ ws, a.neg = false) : 0 ≤ (sumT ws).q := by
 rw [sumQ_list ho];refine sumQ_nonneg fun k hk => ?_
 unfold atQ;rw [getD_at' hk];exact nn_q (ho _ (List.getElem_mem hk)) (hn _ (List.getElem_mem hk))
theorem sum_none {ws : List Rt} (ho : ∀ a ∈ ws, a.Ok) (hn : ∀ a ∈ ws, a.neg = false) (h : ¬ 0 < sgnR (sumT ws)) : sgnR (sumT ws) = 0 := by
 have h1 := sum_nonneg ho hn;have h2 := q_sgn (sumT_ok ho);rcases sgn_cases (sumT ws) with h3 | h3 | h3
 ·exact h3
 ·omega
 ·have := h2.2.2.1 h3; grind
theorem wts_of {ws : List Rt} (ho : ∀ a ∈ ws, a.Ok) (hn : ∀ a ∈ ws, a.neg = false) (h : 0 < sgnR (sumT ws)) : Wts ws ∧ 1 ≤ ws.length := by
 refine ⟨⟨ho, hn, ?_⟩, ?_⟩
 ·have h2 := q_sgn (sumT_ok ho);rcases sgn_cases (sumT ws) with h3 | h3 | h3
  ·omega
  ·exact h2.2.1.1 h3
  ·omega
 ·cases ws with
  | nil => exact absurd h (by decide)
  | cons a l => simp
section
variable {c : Int} {ws : List Rt} {s : List Nat}
theorem quota_q (h : Wts ws) (k : Nat) : (quoR (mulR (ofC c) (ws.getD k zeroR)) (sumT ws)).q = (c : Rat) / 100 * atQ ws k / (sumT ws).q := by
 rw [q_quo (mulR_ok (ofC_ok c) (h.okk k)) h.sok h.snum, q_mul (ofC_ok c) (h.okk k), q_ofC]; rfl
theorem qt_sg (h : Wts ws) (k : Nat) : (c : Rat) * atQ ws k / (sumT ws).q = if c < 0 then -(qtR c ws k).q else (qtR c ws k).q := by
 rw [h.q_qt k]
 split
 ·next hc =>
  rw [show ((c.natAbs : Int) : Rat) = -(c : Rat) from by rw [← Rat.intCast_neg]; congr 1; omega]
  grind
 ·next hc => rw [show ((c.natAbs : Int) : Rat) = (c : Rat) from by congr 1; omega]
theorem sg_q (x : Int) : (sgZ c x : Rat) = if c < 0 then -(x : Rat) else (x : Rat) := by
 unfold sgZ; split
 ·rw [Rat.intCast_neg]
 ·rfl
theorem parts_far (h : Wts ws) (ho : OrdS c ws s) (k : Nat) : cmpR (absR (subR (ofC (sgZ c (xZ c ws s k))) (quoR (mulR (ofC c) (ws.getD k zeroR)) (sumT ws)))) (ofC 1) = -1 := by
 have hq : (quoR (mulR (ofC c) (ws.getD k zeroR)) (sumT ws)).Ok := quoR_ok (mulR_ok (ofC_ok c) (h.okk k)) (by have := h.snum; omega);have hs := subR_ok (ofC_ok (sgZ c (xZ c ws s k))) hq;rw [cmpR_q (absR_ok hs) (ofC_ok 1), sgQ_eqm, q_ofC];have e : (subR (ofC (sgZ c (xZ c ws s k))) (quoR (mulR (ofC c) (ws.getD k zeroR)) (sumT ws))).q = ((sgZ c (xZ c ws s k) : Rat) - (c : Rat) * atQ ws k / (sumT ws).q) / 100 := by
  rw [q_sub (ofC_ok _) hq, q_ofC, quota_q h k]; grind
 obtain ⟨n1, n2⟩ := h.near ho k;rw [qt_sg h k, sg_q] at e;have hz : (((1 : Int) : Rat)) = 1 := rfl;rw [hz];rcases q_abs hs with ha | ha <;> rw [ha, e] <;> split <;> grind
theorem sg_cmp (x y : Int) : cmpR (ofC x) (ofC y) = sgQ ((x : Rat) - (y : Rat)) := by
 rw [cmpR_q (ofC_ok x) (ofC_ok y), q_ofC, q_ofC];have e : (x : Rat) / 100 - (y : Rat) / 100 = ((x : Rat) - (y : Rat)) / 100 := by grind
 rw [e];rcases tri ((x : Rat) - y) with h1 | h1 | h1
 ·rw [h1, show (0 : Rat) / 100 = 0 from by grind]
 ·rw [sgQ_pos h1, sgQ_pos (by grind)]
 ·rw [sgQ_neg h1, sgQ_neg (by grind)]
theorem parts_order (h : Wts ws) (ho : OrdS c ws s) {i k : Nat} (hi : i < k) (hk : k < ws.length) {sz : Int}
  (hsz : sz = if c < 0 then -cmpR (ofC (sgZ c (xZ c ws s i))) (ofC (sgZ c (xZ c ws s k))) else cmpR (ofC (sgZ c (xZ c ws s i))) (ofC (sgZ c (xZ c ws s k)))) :
  (0 ≤ cmpR (ws.getD i zeroR) (ws.getD k zeroR) → ¬ sz < 0) ∧ (cmpR (ws.getD i zeroR) (ws.getD k zeroR) < 0 → ¬ 0 < sz) := by
 have e : sz = sgQ ((xZ c ws s i : Rat) - (xZ c ws s k : Rat)) := by
  rw [hsz, sg_cmp, sg_q, sg_q]
  split
  ·rw [← sgQ_minus]; congr 1; grind
  ·rfl
 rw [e, cmpR_q (h.okk i) (h.okk k)];refine ⟨fun h1 h2 => ?_, fun h1 h2 => ?_⟩
 ·rw [sgQ_lt0] at h2;have h3 : ¬ sgQ (atQ ws i - atQ ws k) < 0 := by unfold atQ; omega
  rw [sgQ_lt0] at h3;have h4 : atQ ws k < atQ ws i ∨ (atQ ws k = atQ ws i ∧ i < k) := by
   by_cases h5 : atQ ws k < atQ ws i
   ·exact .inl h5
   ·exact .inr ⟨by grind, hi⟩
  have h5 := h.x_mono ho (show i < ws.length by omega) hk h4;have := Rat.intCast_le_intCast.2 h5
  grind
 ·rw [sgQ_gt0] at h2;have h3 : atQ ws i - atQ ws k < 0 := sgQ_lt0.1 h1;have h5 := h.x_mono ho (i := k) (k := i) hk (by omega) (.inl (by grind));have := Rat.intCast_le_intCast.2 h5
  grind
theorem cmp_rng (a b : Rt) : -1 ≤ cmpR a b ∧ cmpR a b ≤ 1 := by
 rcases sgn_cases (subR a b) with h | h | h <;> (unfold cmpR; omega)
theorem cel_cells3 (l : List Rt) : cel l = cells3 (l.map rawR) := by
 unfold cel cells3; rw [List.flatMap_map]; rfl
end
end Go.Proofs.YtabfjecegpaoaaaGreatDoor
namespace Go.Proofs.YtabfjecegpaoaaaGreatDoor
open Go.RowKit Go.Shelf
open Dgt
set_option linter.unusedVariables false
set_option maxHeartbeats 2000000 in
set_option maxRecDepth 100000 in
theorem Weights_any  (v : Value) (wq : World) (hv : ArgT wq v) :
  Calls Tryz.prog 34 #[v] wq fun e w' => ∃ (v' : Value) (l : List Rt), e = .returned v' ∧ LstR w' v' (l.map rawR) ∧ l.length ≤ 8 ∧ (∀ a ∈ l, a.Ok ∧ Rz a 32 ∧ a.neg = false) ∧ Below wq.heap.size wq w' := by
 obtain ⟨i0, hi, hz0, hz1, hz2⟩ := info_partsN infoRat;obtain ⟨p, len, cap, rfl, hlen, hcell⟩ := hv;have HC := Lib.hid hcell;clear hcell;go_enter Tryz.func34, Tryz.ntmps34;go_wp2_with fail
 go_loopw [3, 4] (fun vo i wr => ∃ (k : Nat) (l : List Rt), k ≤ len ∧ k ≤ 8 ∧ i = .int .i64 (k : Int) ∧ Hid (wr.ownsRow wq.heap.size 26 3 vo l.length (cells3 (l.map rawR))) ∧ l.length ≤ k ∧ Hid (∀ a ∈ l, a.Ok ∧ Rz a 32 ∧ a.neg = false) ∧ Hid (Below wq.heap.size wq wr)) (fun _ i _ => 8 - (intOf i).toNat)
 case atStart => exact ⟨0, [], by omega, by omega, rfl, Lib.hid (World.ownsRow_nil _ _ _ _), by simp, Lib.hid (by simp), Lib.hid rB⟩
 case round =>
  obtain ⟨k, l, hk, hk12, rfl, HO, hlk, HP, HBW⟩ := hrel
  by_cases hlt : k < len
  ·have hlt' : (k : Int) < (len : Int) := by omega
   by_cases h12 : k < 8
   ·have h12' : (k : Int) < 8 := by omega
    obtain ⟨g, off, x, y, z, rfl, hg, hx, hy, hz, h1, h2, h3⟩ := HC.out k hlt;have d1 : wr.cell? ⟨g, off + k * 3, none⟩ = some (.int .i64 x) := by rw [cell_up HBW.out hg]; exact h1
    have d2 : wr.cell? ⟨g, off + k * 3 + 1, none⟩ = some (.int .i64 y) := by rw [cell_up HBW.out hg]; exact h2
    have d3 : wr.cell? ⟨g, off + k * 3 + 2, none⟩ = some (.int .i64 z) := by rw [cell_up HBW.out hg]; exact h3
    have HIN := Lib.hid (And.intro hx (And.intro hy hz));have HB := Lib.hid (Below.refl wr.heap.size wr);obtain ⟨n0, hn0⟩ : ∃ n, n = wr.heap.size := ⟨_, rfl⟩;have HN0 := Lib.hid hn0;have HKK := Lib.hid (And.intro hlt (And.intro h12 hlk));clear hn0 hx hy hz h1 h2 h3;have C1 : Hid (∀ w, Calls Tryz.prog 12 #[.agg #[.int .i64 x, .int .i64 y, .int .i64 z]] w fun e w' => ∃ ng nu de, e = .returned (.agg #[.bool ng, .string (encS nu), .string (encS de)]) ∧ Rt.Ok ⟨ng, nu, de⟩ ∧ Rz ⟨ng, nu, de⟩ 32 ∧ Below w.heap.size w w') := Lib.hid fun w => by
     refine (Made_r x y z w HIN.out.1 HIN.out.2.1 HIN.out.2.2).mono ?_;rintro e w' ⟨⟨ng, nu, de⟩, rfl, ho, hz, hb⟩;exact ⟨ng, nu, de, rfl, ho, hz, hb⟩
    go_wp2_with fail;clear d1 d2 d3;refine (C1.out _).mono ?_;rintro e w1 ⟨ng, nu, de, rfl, ho, hz, hb⟩;have HB := mH HB hb;clear hb;obtain ⟨W2, bk5, hW2, hbk5, HX5_1, HB, HG5_1, hup⟩ := boxn HB HN0 (.cells #[.bool false, .string ⟨#[]⟩, .string ⟨#[]⟩] 26);clear hup;obtain ⟨W3, hW3, HX5_1, HB, ho, f2a, f2b, f2c, k2a, k2b, k2c⟩ := put3 HX5_1 HB HN0 HG5_1 (.bool ng) (.string (encS nu)) (.string (encS de));clear ho;have HOK := Lib.hid ho; have HZ := Lib.hid hz; clear ho hz;have k3 : W3.cell? ⟨bk5, 0, none⟩ = some (.bool ng) := by rw [Lib.cell_of_heap HX5_1.out]; rfl
    cases ng
    case false =>
     obtain ⟨k4a, k4b, k4c⟩ := c3 HX5_1;have HB1 := Lib.hid (HBW.out.trans (HB.out.mono HBW.out.size));have HO1 := Lib.hid (own_up HO.out HB.out);have hkl := HKK.out.2.2; have hk8 := HKK.out.2.1; have hkn := HKK.out.1;go_wp2_with (first | (at_builtin; refine wpList_append_own _ rfl _ _ 32 rfl wq.heap.size 26 i0 (.agg #[.bool false, .string ⟨#[]⟩, .string ⟨#[]⟩]) 3 40 Tryz.underlying32 hi hz0 hz1 hz2 rfl (by decide) _ _ _ rfl (HO1.out.alloc _) ⟨W3.heap.size, 0, none⟩ 1 1 [.bool false, .string (encS nu), .string (encS de)] rfl rfl (cell_fresh3 W3 _ _ _ _) (cells3_one [rawR (⟨false, nu, de⟩ : Rt)]) (by unfold maxLen; omega) (by omega) (by have := HB1.out.size; simp; omega) ?_; intro v' w2 hown' hgrow hnn; have HO2 := Lib.hid hown'; have HG := Lib.hid hgrow; clear hown' hgrow hnn) | fail)
     go_roundw
     case rel => exact ⟨k + 1, l ++ [(⟨false, nu, de⟩ : Rt)], by omega, by omega, by go_num, Lib.hid (by rw [List.map_append, cells3_append, List.length_append]; exact HO2.out), by simp; omega, Lib.hid (fun s hs => by
         rcases List.mem_append.1 hs with h | h
         ·exact HP.out s h
         ·rw [List.mem_singleton.1 h]; exact ⟨HOK.out, HZ.out, rfl⟩), Lib.hid (below_own (HB1.out.alloc HB1.out.size _) (HO1.out.alloc _) HG.out (Nat.le_refl _))⟩
     case measure => simp [intOf]; omega
    case true =>
     have HNG : Hid (negR ⟨true, nu, de⟩ = ⟨false, nu, de⟩) := Lib.hid rfl;have C2 : Hid (∀ w, Calls Tryz.prog 44 #[.agg #[.bool true, .string (encS nu), .string (encS de)]] w fun e w' => e = .returned (.agg #[.bool false, .string (encS nu), .string (encS de)]) ∧ Below w.heap.size w w') := Lib.hid fun w => by
      have h := rRatNeg_r (IsR.of HOK.out HZ.out) (by decide) w;rw [HNG.out] at h;exact h
     obtain ⟨k5a, k5b, k5c⟩ := c3 HX5_1;go_wp2_with fail;clear hW2 hbk5 f2a f2b f2c k2a k2b k2c hW3 k3 k5a k5b k5c;refine (C2.out _).mono ?_;rintro e w4 ⟨rfl, hb⟩;have HX5_1 := uH hb HX5_1;have HB := mH HB hb;clear hb;obtain ⟨W5, hW5, HX5_1, HB, ho, f6a, f6b, f6c, k6a, k6b, k6c⟩ := put3 HX5_1 HB HN0 HG5_1 (.bool false) (.string (encS nu)) (.string (encS de));clear ho;have HO9 : Hid (Rt.Ok ⟨false, nu, de⟩) := Lib.hid (by rw [← HNG.out]; exact negR_ok HOK.out);have HZ9 : Hid (Rz ⟨false, nu, de⟩ 32) := Lib.hid (by rw [← HNG.out]; exact negR_sz HZ.out);clear HOK HZ; have HOK := HO9; have HZ := HZ9; clear HO9 HZ9;obtain ⟨k7a, k7b, k7c⟩ := c3 HX5_1;have HB1 := Lib.hid (HBW.out.trans (HB.out.mono HBW.out.size));have HO1 := Lib.hid (own_up HO.out HB.out);have hkl := HKK.out.2.2; have hk8 := HKK.out.2.1; have hkn := HKK.out.1
     go_wp2_with (first | (at_builtin; refine wpList_append_own _ rfl _ _ 32 rfl wq.heap.size 26 i0 (.agg #[.bool false, .string ⟨#[]⟩, .string ⟨#[]⟩]) 3 40 Tryz.underlying32 hi hz0 hz1 hz2 rfl (by decide) _ _ _ rfl (HO1.out.alloc _) ⟨W5.heap.size, 0, none⟩ 1 1 [.bool false, .string (encS nu), .string (encS de)] rfl rfl (cell_fresh3 W5 _ _ _ _) (cells3_one [rawR (⟨false, nu, de⟩ : Rt)]) (by unfold maxLen; omega) (by omega) (by have := HB1.out.size; simp; omega) ?_; intro v' w2 hown' hgrow hnn; have HO2 := Lib.hid hown'; have HG := Lib.hid hgrow; clear hown' hgrow hnn) | fail)
     go_roundw
     case rel => exact ⟨k + 1, l ++ [(⟨false, nu, de⟩ : Rt)], by omega, by omega, by go_num, Lib.hid (by rw [List.map_append, cells3_append, List.length_append]; exact HO2.out), by simp; omega, Lib.hid (fun s hs => by
         rcases List.mem_append.1 hs with h | h
         ·exact HP.out s h
         ·rw [List.mem_singleton.1 h]; exact ⟨HOK.out, HZ.out, rfl⟩), Lib.hid (below_own (HB1.out.alloc HB1.out.size _) (HO1.out.alloc _) HG.out (Nat.le_refl _))⟩
     case measure => simp [intOf]; omega
   ·have h12' : ¬ (k : Int) < 8 := by omega
    have HLR : Hid (∀ v', wr.ownsRow wq.heap.size 26 3 v' l.length (cells3 (l.map rawR)) → LstR wr v' (l.map rawR)) := Lib.hid fun v' h => own_lstR (by rwa [List.length_map]) (by rw [List.length_map]; omega)
    go_wp2_with fail;go_ret
    first | exact ⟨_, l, rfl, HLR.out _ HO.out, by omega, HP.out, HBW.out⟩ | exact ⟨_, rfl, l, HLR.out _ HO.out, by omega, HP.out, HBW.out⟩
  ·have hge : (len : Int) ≤ (k : Int) := by omega
   have HLR : Hid (∀ v', wr.ownsRow wq.heap.size 26 3 v' l.length (cells3 (l.map rawR)) → LstR wr v' (l.map rawR)) := Lib.hid fun v' h => own_lstR (by rwa [List.length_map]) (by rw [List.length_map]; omega)
   go_wp2_with fail;go_ret
   first | exact ⟨_, l, rfl, HLR.out _ HO.out, by omega, HP.out, HBW.out⟩ | exact ⟨_, rfl, l, HLR.out _ HO.out, by omega, HP.out, HBW.out⟩
end Go.Proofs.YtabfjecegpaoaaaGreatDoor
