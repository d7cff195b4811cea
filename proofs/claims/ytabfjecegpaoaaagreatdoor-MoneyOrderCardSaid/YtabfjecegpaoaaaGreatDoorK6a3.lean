/- MoneyOrder: for every input the law returns true, and each argument reads afterwards as it read before; the listed tables read as the program lays them (the tied card). -/
import Derived.Test.YtabfjecegpaoaaaGreatDoorRows
import Derived.WalkKit
import Derived.ProofKit
import Derived.OpenShut
import Derived.Below
import Derived.ChangeSame
import Derived.Deep.LoopGhost
import Derived.Deep.QuietTactic
import Derived.BigQuiet
import Derived.Test.YtabfjecegpaoaaaGreatDoorProg
import Derived.WalkSpells
import Derived.WalkLawsBesides
import Derived.IntWalk
import Derived.Lib.Hide
import Derived.Laws.BitsAllLaws
import Derived.StillTailTactics
import Derived.Deep.OwnRows
import Derived.Lib.ConvBytes
import Derived.RangeFuncNested
import Derived.RangeFuncCalls
import Derived.RangeFuncLeaves
import Derived.Shelf.Abstract
import Derived.Lib.LaidIn
import Derived.RegionTactic
import Derived.KernelRfl
import Derived.OrdersIn
import Derived.Shelf.Strings.Builder1
import Derived.Shelf.Strings.Builder2
import Derived.Shelf.Strings.Trim
import Derived.Shelf.Small.Utf8
import Derived.Shelf.Small.Bits
import Derived.Shelf.Small.Strs
import Derived.Shelf.Strings.BuilderF
import Derived.Shelf.Strings.BuilderK
import Derived.Shelf.Strings.Builder2Cap
import Derived.Shelf.Strconv.Atoi
import Derived.Shelf.Strconv.Itoa0
import Derived.Shelf.Strconv.Itoa1
import Derived.Shelf.LaysM
import Derived.Shelf.Strconv.Itoa2
import Derived.Shelf.Strconv.Itoa3
import Derived.Shelf.Strconv.AtoiErrFast
import Derived.Shelf.Strconv.ParseIntEmpty
import Derived.Shelf.Strconv.AtoiFail
import Derived.Shelf.Strconv.Clone
import Derived.Shelf.Strconv.SyntaxError
import Derived.Shelf.LaysC
import Derived.Shelf.Strconv.ToError
import Derived.Shelf.Strconv.Lower
import Derived.Shelf.Strconv.ParseUint10
import Derived.Shelf.Strconv.ParseUint10Empty
import Derived.Shelf.Strconv.ParseUint10Any
import Derived.Shelf.Strconv.ParseInt10
import Derived.Shelf.Strconv.AtoiLong
import Derived.Shelf.Strconv.AtoiInnerAll
import Derived.Shelf.Strconv.RangeError
import Derived.Shelf.Strconv.ToErrorRange
import Derived.Shelf.Strconv.AtoiAll
import Derived.Shelf.Strconv.ErrVarAll
import Derived.Shelf.Strconv.ParseUintEmpty
import Derived.Shelf.Strconv.ParseUint10b64
import Derived.Shelf.Strconv.ParseUint10b32
import Derived.Shelf.Strconv.ParseUint10b16
import Derived.Shelf.Strconv.ParseUint10b8
import Derived.Shelf.Strconv.ParseUint10At
import Derived.Shelf.Strconv.ParseInt10At64
import Derived.Shelf.Strconv.ParseInt10At32
import Derived.Shelf.Strconv.ParseInt10At16
import Derived.Shelf.Strconv.ParseInt10At8
import Derived.Shelf.Strconv.ParseInt10All
import Derived.Shelf.Strings.Search1
import Derived.Shelf.GgClosure.StringsIndexFunc
import Derived.Ground.GgwProg
import Derived.Shelf.GgClosure.StringsIndexFuncTop
import Derived.Shelf.GgClosure.StringsRunes
import Derived.Shelf.Strings.Prefix
import Derived.Shelf.Strings.Runes
import Derived.Shelf.Strings.AsciiSet
import Derived.Shelf.Bits.Mul64
import Derived.Shelf.Strings.Repeat
import Derived.Shelf.Unicode.DecodeSlow
import Derived.Shelf.Unicode.DecodeAny
import Derived.Shelf.Strings.FuncGrows
import Derived.Shelf.Strings.BuilderCap
import Derived.Lib.ItoaLen
import Derived.Lib.AtoiAll
import Derived.Lib.UnsafeStr
import Derived.Lib.AppendIntMem
import Derived.Lib.ItoaNum
import Derived.Lib.Itoa
import Derived.Laws.AppendOwnNone
import Derived.RangeFuncKeeps
import Derived.OwnWalkIn
import Derived.TacticsInMore
import Derived.LoopNIn
import Derived.LoopIn
import Derived.Lib.IndexMore
import Derived.Test.YtabfjecegpaoaaaGreatDoorYa6
import Derived.Test.YtabfjecegpaoaaaGreatDoorYa5
import Derived.Test.YtabfjecegpaoaaaGreatDoorYa4
import Derived.Test.YtabfjecegpaoaaaGreatDoorYa3
import Derived.Test.YtabfjecegpaoaaaGreatDoorYa0
import Derived.Test.YtabfjecegpaoaaaGreatDoorYa1
import Derived.Test.YtabfjecegpaoaaaGreatDoorYa2
import Derived.Test.YtabfjecegpaoaaaGreatDoorYc4
import Derived.Test.YtabfjecegpaoaaaGreatDoorYc3
import Derived.Test.YtabfjecegpaoaaaGreatDoorYc2
import Derived.Test.YtabfjecegpaoaaaGreatDoorYc1
import Derived.Test.YtabfjecegpaoaaaGreatDoorYb3
import Derived.Test.YtabfjecegpaoaaaGreatDoorYb2
import Derived.Test.YtabfjecegpaoaaaGreatDoorYb1
import Derived.Test.YtabfjecegpaoaaaGreatDoorYb7
import Derived.Test.YtabfjecegpaoaaaGreatDoorYb6
import Derived.Test.YtabfjecegpaoaaaGreatDoorYb5
import Derived.Test.YtabfjecegpaoaaaGreatDoorYb4
import Derived.Test.YtabfjecegpaoaaaGreatDoorYb0
import Derived.Test.YtabfjecegpaoaaaGreatDoorYa9
import Derived.Test.YtabfjecegpaoaaaGreatDoorYa8
import Derived.Test.YtabfjecegpaoaaaGreatDoorK6a0
import Derived.Test.YtabfjecegpaoaaaGreatDoorYb9
import Derived.Test.YtabfjecegpaoaaaGreatDoorYb8
import Derived.Test.YtabfjecegpaoaaaGreatDoorK6a1
import Derived.Test.YtabfjecegpaoaaaGreatDoorK6a2
import Derived.Test.YtabfjecegpaoaaaGreatDoorYd2
import Derived.Test.YtabfjecegpaoaaaGreatDoorYc7
import Derived.Test.YtabfjecegpaoaaaGreatDoorYc6
import Derived.Test.YtabfjecegpaoaaaGreatDoorYc0
import Derived.Test.YtabfjecegpaoaaaGreatDoorYc5
import Derived.Test.YtabfjecegpaoaaaGreatDoorYc8
import Derived.Test.YtabfjecegpaoaaaGreatDoorYc9
import Derived.Test.YtabfjecegpaoaaaGreatDoorYd1
import Derived.Test.YtabfjecegpaoaaaGreatDoorYd0
namespace Go.Proofs.YtabfjecegpaoaaaGreatDoor
open Go.ChangeShapes Go.WideShapes Go.ChangeAt Go.RowKit
section
variable {H : Type} {enc : TypeId × Value → H} {P : Program}
theorem post_of_below {f : Func} {s : ChangeSpec} {apart fresh handsOn again : Bool} {W W' : World} {args : Array Value} {v : Value} {ds gs : List (DataW H)} {before pa pv : List MemPlace}
  (hW : DataW.Whole enc P f.params.toList s.vars apart W args.toList ds gs before)
  (hres : ∀ (b : Nat) (sp : Nat → Bool) (hd : Bool), DataW.TrodAll enc P W' b sp hd f.resultTypes.toList (v.resultList f.resultTypes.size) (s.fn H (ds ++ gs)).results [])
  (hargs : ∀ sp : Nat → Bool, (∀ p ∈ before, sp p.block = true) → DataW.TrodAll enc P W' 0 sp true f.params.toList args.toList (s.fn H (ds ++ gs)).args pa)
  (hvars : ∀ sp : Nat → Bool, (∀ p ∈ before, sp p.block = true) → DataW.TrodVars enc P W' sp s.vars (s.fn H (ds ++ gs)).vars pv)
  (hps : before = pa ++ pv) (hb : Below W.heap.size W W')
  (hok : ∀ (j : Nat) (t : TypeId) (r : Value), f.resultTypes[j]? = some t → (v.resultList f.resultTypes.size)[j]? = some r → Value.okWide P W' .any 0 t r) :
  s.post enc P f apart fresh handsOn again W args v W' := by
 have hlt : ∀ p ∈ before, p.block < W.heap.size := fun p hp => hW.lt p hp
 have hold : ∀ p ∈ before, (fun b => decide (b < W.heap.size)) p.block = true := fun p hp => by simpa using hlt p hp
 refine ⟨ds, gs, before, [], pa, pv, hW, hres _ _ _, hargs _ hold, hvars _ hold, World.keptBut_mono (fun p hp => ⟨hp, ?_⟩) (hb.frame (· ∈ before)), fun _ => ?_⟩
 ·rw [hps, List.mem_append] at hp
  exact Or.inr hp
 ·obtain ⟨_, _, _, _, _, hz, hn⟩ := hW
  refine ⟨hok, _, _, ([] ++ pa) ++ pv, ⟨[] ++ pa, pv, trodAll_append (hargs _ (fun _ _ => rfl)) (hres _ _ _), hvars _ (fun _ _ => rfl), rfl, ?_, ?_⟩, ?_⟩
  ·intro b off hp
   have hin : MemPlace.cell b off ∈ before := by rw [hps]; simpa using hp
   rw [hb.frozen (hlt _ hin)]
   exact hz b off hin
  ·intro ha
   have := hn ha
   rw [hps] at this
   simpa using this
  ·intro p hp _
   rw [hps]
   simpa using hp
end
section
variable {H : Type} {enc : TypeId × Value → H} {P : Program} {w : World} {base b0 : Nat} {sp : Nat → Bool} {held : Bool} {r : Reach}
theorem mapM_all {α β : Type} (f : α → Option β) (g : α → β) : ∀ (l : List α), (∀ i ∈ l, f i = some (g i)) → l.mapM f = some (l.map g)
 | [], _ => rfl
 | a :: l, h => by
  rw [List.mapM_cons, h a (by simp), mapM_all f g l (fun i hi => h i (by simp [hi]))]
  rfl
theorem take_one {α : Type} (l : List α) (i : Nat) (h : i < l.length) : (l.drop i).take 1 = [l[i]] := by
 rw [List.drop_eq_getElem_cons h]; rfl
theorem list3 {α : Type} (l : List α) (h : l.length = 3) : ∃ a b c, l = [a, b, c] := by
 match l, h with
 | [a, b, c], _ => exact ⟨a, b, c, rfl⟩
theorem open_ints {n : Nat} {k : IntKind} {t e : TypeId} {v : Value} {d : DataW H} {p : List MemPlace} (ht : P.underlying t = some (.array n e)) (he : P.underlying e = some (.int k)) (hce : P.cellsOf e = 1) (hct : P.cellsOf t = n)
  (hval : Value.okWide P w r b0 t v) (h0 : DataW.Trod enc P w base sp held t v d p) :
  ∃ xs : List Int, xs.length = n ∧ v = .agg (xs.map (Value.int k)).toArray ∧ d = .agg (xs.map fun x => .lit (.int k x)) ∧ p = [] ∧ ∀ x ∈ xs, (Lit.int k x).wf = true := by
 obtain ⟨cs, rfl, hsz⟩ : ∃ cs, v = .agg cs ∧ cs.size = P.cellsOf t := by
  cases v <;> simp [Value.okWide, ht] at hval
  exact ⟨_, rfl, hval.1⟩
 rw [hct] at hsz
 obtain ⟨fuel, hf⟩ := h0
 obtain ⟨ys, m, -, hx, -, hyl, hall⟩ := DataW.trod_array ht hf
 have hlen : (Value.agg cs).cells.toList.length = n := by simpa [Value.cells] using hsz
 have hone : ∀ i, i < n → ∃ z : Int, (∃ h : i < cs.toList.length, cs.toList[i] = .int k z) ∧ ys[i]? = some (.lit (.int k z), []) ∧ (Lit.int k z).wf = true := by
  intro i hi
  have h1 := hall i hi
  have hil : i < cs.toList.length := by simpa using hsz ▸ hi
  rw [hce, Nat.mul_one] at h1
  rw [show (Value.agg cs).cells.toList = cs.toList from rfl, take_one _ _ hil] at h1
  cases hy : ys[i]? with
  | none => simp [hyl, hi] at hy
  | some y =>
   rw [hy] at h1
   obtain ⟨z, hz, hyz, hw⟩ := DataW.trod_int he h1
   exact ⟨z, ⟨hil, by simpa using hz⟩, by rw [hyz], hw⟩
 obtain ⟨f, hfz⟩ : ∃ f : Nat → Int, ∀ i, i < n → (∃ h : i < cs.toList.length, cs.toList[i] = .int k (f i)) ∧ ys[i]? = some (.lit (.int k (f i)), []) ∧ (Lit.int k (f i)).wf = true :=
  ⟨fun i => if h : i < n then (hone i h).choose else 0, fun i hi => by simp only [hi, dif_pos]; exact (hone i hi).choose_spec⟩
 have e1 : cs.toList = ((List.range n).map f).map (Value.int k) := by
  refine List.ext_getElem (by simp [hsz]) fun i h1 h2 => ?_
  have hi : i < n := by simpa using h2
  simp only [List.getElem_map, List.getElem_range]
  exact (hfz i hi).1.2
 have e2 : ys = ((List.range n).map f).map fun x => (.lit (.int k x), []) := by
  refine List.ext_getElem? fun i => ?_
  by_cases hi : i < n
  ·rw [(hfz i hi).2.1]; simp [hi]
  ·simp [hi, hyl]
 refine ⟨(List.range n).map f, by simp, ?_, ?_, ?_, ?_⟩
 ·rw [← e1]
 ·rw [Prod.mk.injEq] at hx
  rw [hx.1, e2]; simp [List.map_map, Function.comp_def]
 ·rw [Prod.mk.injEq] at hx
  rw [hx.2, e2]; simp
 ·intro x hx
  obtain ⟨i, hi, rfl⟩ := List.mem_map.1 hx
  exact (hfz i (by simpa using hi)).2.2
theorem shut_ints {n : Nat} {k : IntKind} {t e : TypeId} (ht : P.underlying t = some (.array n e)) (he : P.underlying e = some (.int k)) (hce : P.cellsOf e = 1) (hct : P.cellsOf t = n) {xs : List Int} (hl : xs.length = n)
  (hw : ∀ x ∈ xs, (Lit.int k x).wf = true) : DataW.Trod enc P w base sp held t (.agg (xs.map (Value.int k)).toArray) (.agg (xs.map fun x => .lit (.int k x))) [] := by
 refine ⟨2, ?_⟩
 have hm : ((List.range n).mapM fun i => DataW.trod enc P w base sp held 1 e (((xs.map (Value.int k)).drop (i * P.cellsOf e)).take (P.cellsOf e))) = some ((List.range n).map fun i => ((.lit (.int k (xs.getD i 0)) : DataW H), ([] : List MemPlace))) := by
  refine mapM_all _ _ _ fun i hi => ?_
  have hi' : i < xs.length := by rw [hl]; simpa using hi
  rw [hce, Nat.mul_one, take_one _ _ (by simpa using hi')]
  simp [DataW.trod, he, hi', hw _ (List.getElem_mem hi')]
 have hm2 : (List.range n).map (fun i => ((.lit (.int k (xs.getD i 0)) : DataW H), ([] : List MemPlace))) = xs.map fun x => (.lit (.int k x), []) := by
  refine List.ext_getElem (by simp [hl]) fun i h1 h2 => ?_
  have : i < xs.length := by simpa using h2
  simp [this]
 rw [hm2] at hm
 show DataW.trod enc P w base sp held 2 t (xs.map (Value.int k)) = _
 unfold DataW.trod
 rw [ht]
 split <;> simp_all [List.map_map, Function.comp_def]
end
end Go.Proofs.YtabfjecegpaoaaaGreatDoor
namespace Go.Proofs.YtabfjecegpaoaaaGreatDoor
open Go.RowKit Go.Shelf
open Dgt
set_option linter.unusedVariables false
theorem sgQ_gt0 {x : Rat} : 0 < sgQ x ↔ 0 < x := by
 rcases tri x with h | h | h
 ·subst h; exact ⟨fun e => (by cases e), fun e => by grind⟩
 ·rw [sgQ_pos h]; exact ⟨fun _ => h, fun _ => by omega⟩
 ·rw [sgQ_neg h]; exact ⟨fun e => (by omega), fun e => by grind⟩
theorem sgQ_le0 {x : Rat} : sgQ x ≤ 0 ↔ x ≤ 0 := by
 have h := sgQ_gt0 (x := x)
 constructor
 ·intro h1; have : ¬ 0 < x := fun e => by have := h.2 e; omega
  grind
 ·intro h1; have : ¬ 0 < sgQ x := fun e => by have := h.1 e; grind
  omega
theorem sgQ_ge0 {x : Rat} : 0 ≤ sgQ x ↔ 0 ≤ x := by
 have h := sgQ_lt0 (x := x)
 constructor
 ·intro h1; have : ¬ x < 0 := fun e => by have := h.2 e; omega
  grind
 ·intro h1; have : ¬ sgQ x < 0 := fun e => by have := h.1 e; grind
  omega
theorem q_fl (a : Rt) : (flR a).q = (a.q.floor : Rat) := q_of _
theorem floor_unique {x : Rat} {n : Int} (h1 : (n : Rat) ≤ x) (h2 : x < (n : Rat) + 1) : x.floor = n := by
 have a1 := Rat.le_floor_iff.2 h1;have a2 : x.floor < n + 1 := Rat.floor_lt_iff.2 (by rw [Rat.intCast_add]; exact h2);omega
theorem q_down {a s : Rt} (ha : a.Ok) (hs : s.Ok) (h : s.num ≠ 0) : (downR a s).q = ((a.q / s.q).floor : Rat) * s.q := by
 unfold downR;rw [q_mul (flR_ok _) hs, q_fl, q_quo ha hs h]
theorem neg_floor_neg (x : Rat) : -((-x).floor) = if (x.floor : Rat) = x then x.floor else x.floor + 1 := by
 split
 ·rename_i h
  have : (-x).floor = -x.floor := floor_unique (by rw [Rat.intCast_neg]; grind) (by rw [Rat.intCast_neg]; grind);omega
 ·rename_i h
  have h1 := Rat.floor_le x;have h2 := Rat.lt_floor_add_one x;rw [Rat.intCast_add] at h2;have : (-x).floor = -x.floor - 1 := floor_unique (by rw [Rat.intCast_sub, Rat.intCast_neg]; grind) (by rw [Rat.intCast_sub, Rat.intCast_neg]; grind);omega
theorem floor_half (x : Rat) : (x + 1 / 2).floor = if 1 ≤ (x - (x.floor : Rat)) + (x - (x.floor : Rat)) then x.floor + 1 else x.floor := by
 have h1 := Rat.floor_le x;have h2 := Rat.lt_floor_add_one x;rw [Rat.intCast_add] at h2
 split
 ·exact floor_unique (by rw [Rat.intCast_add]; grind) (by rw [Rat.intCast_add]; grind)
 ·exact floor_unique (by grind) (by grind)
section
variable {a b s : Rt}
theorem upR_ok (hs : s.Ok) : (upR a s).Ok := by unfold upR; split; exact downR_ok hs; exact addR_ok (downR_ok hs) hs
theorem nearR_ok (hs : s.Ok) : (nearR a s).Ok := by unfold nearR; split; exact addR_ok (downR_ok hs) hs; exact downR_ok hs
theorem q_downp (ha : a.Ok) (hs : s.Ok) (h : 0 < s.q) : (downR a s).q = ((a.q / s.q).floor : Rat) * s.q := q_down ha hs (num_ne hs h)
theorem mul_divc {x y : Rat} (h : 0 < y) : x * y / y = x := Rat.mul_div_cancel (by grind)
theorem q_up (ha : a.Ok) (hs : s.Ok) (h : 0 < s.q) : (upR a s).q = (-((-(a.q / s.q)).floor) : Int) * s.q := by
 have hd := q_downp ha hs h;have hx := div_mulc (x := a.q) h;rw [neg_floor_neg];unfold upR
 by_cases he : downR a s = a
 ·rw [if_pos he];have h1 : (((a.q / s.q).floor : Int) : Rat) = a.q / s.q := by
   rw [he] at hd;rw [← mul_divc (x := (((a.q / s.q).floor : Int) : Rat)) h, ← hd]
  rw [if_pos h1, hd]
 ·rw [if_neg he];have h1 : ¬ (((a.q / s.q).floor : Int) : Rat) = a.q / s.q := fun e => he (q_inj (downR_ok hs) ha (by rw [hd, e, hx]))
  rw [if_neg h1, q_add (downR_ok hs) hs, hd, Rat.intCast_add]
  grind
theorem q_over (ha : a.Ok) (hs : s.Ok) (h : 0 < s.q) : (overR a s).q = a.q - ((a.q / s.q).floor : Rat) * s.q := by
 unfold overR; rw [q_sub ha (downR_ok hs), q_downp ha hs h]
theorem near_test (ha : a.Ok) (hs : s.Ok) (h : 0 < s.q) : 0 ≤ cmpR (addR (overR a s) (overR a s)) s ↔ 1 ≤ (a.q / s.q - ((a.q / s.q).floor : Rat)) + (a.q / s.q - ((a.q / s.q).floor : Rat)) := by
 rw [cmpR_q (addR_ok (overR_ok ha hs) (overR_ok ha hs)) hs, sgQ_ge0, q_add (overR_ok ha hs) (overR_ok ha hs), q_over ha hs h];have hx := div_mulc (x := a.q) h
 generalize a.q / s.q = x at hx ⊢
 rw [← hx]
 generalize ((x.floor : Int) : Rat) = f
 have e : x * s.q - f * s.q + (x * s.q - f * s.q) - s.q = ((x - f) + (x - f) - 1) * s.q := by grind
 rw [e]
 constructor
 ·intro h1
  by_cases h2 : 1 ≤ x - f + (x - f)
  ·exact h2
  ·have := Rat.mul_pos (show 0 < -((x - f) + (x - f) - 1) by grind) h
   grind
 ·intro h1;exact Rat.mul_nonneg (by grind) (by grind)
theorem q_near (ha : a.Ok) (hs : s.Ok) (h : 0 < s.q) : (nearR a s).q = ((a.q / s.q + 1 / 2).floor : Rat) * s.q := by
 have hd := q_downp ha hs h;rw [floor_half];unfold nearR
 by_cases ht : 0 ≤ cmpR (addR (overR a s) (overR a s)) s
 ·rw [if_pos ht, if_pos ((near_test ha hs h).1 ht), q_add (downR_ok hs) hs, hd, Rat.intCast_add]
  grind
 ·rw [if_neg ht, if_neg (fun e => ht ((near_test ha hs h).2 e)), hd]
theorem floor_mono {x y : Rat} (h : x ≤ y) : (x.floor : Rat) ≤ (y.floor : Rat) := by
 have : x.floor ≤ y.floor := Rat.le_floor_iff.2 (by have := Rat.floor_le x; grind);exact Rat.intCast_le_intCast.2 this
theorem div_mono {x y z : Rat} (h : 0 < z) (hxy : x ≤ y) : x / z ≤ y / z := by
 have hx := div_mulc (x := x) h;have hy := div_mulc (x := y) h
 by_cases hc : x / z ≤ y / z
 ·exact hc
 ·have := Rat.mul_pos (show 0 < x / z - y / z by grind) h
  grind
theorem mul_mono {x y z : Rat} (h : 0 < z) (hxy : x ≤ y) : x * z ≤ y * z := by
 have := Rat.mul_nonneg (show 0 ≤ y - x by grind) (show 0 ≤ z by grind)
 grind
theorem down_mono (ha : a.Ok) (hb : b.Ok) (hs : s.Ok) (h : 0 < s.q) (hab : a.q ≤ b.q) : cmpR (downR a s) (downR b s) ≤ 0 := by
 rw [cmpR_q (downR_ok hs) (downR_ok hs), sgQ_le0, q_downp ha hs h, q_downp hb hs h];have := mul_mono h (floor_mono (div_mono h hab))
 grind
theorem up_mono (ha : a.Ok) (hb : b.Ok) (hs : s.Ok) (h : 0 < s.q) (hab : a.q ≤ b.q) : cmpR (upR a s) (upR b s) ≤ 0 := by
 rw [cmpR_q (upR_ok hs) (upR_ok hs), sgQ_le0, q_up ha hs h, q_up hb hs h, Rat.intCast_neg, Rat.intCast_neg];have h1 := div_mono h hab;have := mul_mono h (floor_mono (show -(b.q / s.q) ≤ -(a.q / s.q) by grind))
 grind
theorem near_mono (ha : a.Ok) (hb : b.Ok) (hs : s.Ok) (h : 0 < s.q) (hab : a.q ≤ b.q) : cmpR (nearR a s) (nearR b s) ≤ 0 := by
 rw [cmpR_q (nearR_ok hs) (nearR_ok hs), sgQ_le0, q_near ha hs h, q_near hb hs h];have h1 := div_mono h hab;have := mul_mono h (floor_mono (show a.q / s.q + 1 / 2 ≤ b.q / s.q + 1 / 2 by grind))
 grind
end
def centR : Rt := low false 1 100
theorem centR_ok : centR.Ok := low_ok _ (by decide)
theorem centR_sz : Rz centR 8 := low_sz (by unfold Sz; decide) (by unfold Sz; decide)
set_option maxHeartbeats 2000000 in
set_option maxRecDepth 100000 in
theorem cent_any   (wq : World) :
  Calls Tryz.prog 45 #[] wq fun e w' => e = .returned (rtV centR) ∧ Below wq.heap.size wq w' := by
 have c3 := fun w => rRatMake_any false (encS 1) (encS 100) w (Nat.le_trans (encS_size_lt sz_one') (by decide)) (Nat.le_trans (encS_size_lt (show Sz 100 1 by unfold Sz; decide)) (by decide))
 have e : makeV false (encS 1) (encS 100) = .tuple #[rtV centR, .bool true] := by unfold makeV; rw [right_enc, right_enc, numS_encS, numS_encS]; rfl
 rw [e] at c3; clear e;obtain ⟨z, hz⟩ : ∃ z, centR = z := ⟨_, rfl⟩; rw [hz] at c3 ⊢;have C1 : Hid (∀ w, Calls Tryz.prog 40 #[.int .i64 1] w fun e w' => e = .returned (.string (encS 1)) ∧ Below w.heap.size w w') := Lib.hid fun w => by
  have h := (fun w => rOf_any 1 w (by decide)) w;exact h
 have C2 : Hid (∀ w, Calls Tryz.prog 40 #[.int .i64 100] w fun e w' => e = .returned (.string (encS 100)) ∧ Below w.heap.size w w') := Lib.hid fun w => by
  have h := (fun w => rOf_any 100 w (by decide)) w;exact h
 have C3 : Hid (∀ w, Calls Tryz.prog 81 #[.bool false, .string (encS 1), .string (encS 100)] w fun e w' => e = .returned (.tuple #[.agg #[.bool z.neg, .string (encS z.num), .string (encS z.den)], .bool true]) ∧ Below w.heap.size w w') := Lib.hid fun w => by
  have h := c3 w;exact h
 clear c3 hz;have HB := Lib.hid (Below.refl wq.heap.size wq);obtain ⟨n0, hn0⟩ : ∃ n, n = wq.heap.size := ⟨_, rfl⟩; rw [← hn0]; have HN0 := Lib.hid hn0; clear hn0;go_enter Tryz.func45, Tryz.ntmps45;obtain ⟨W1, bk0, hW1, hbk0, HX0_1, HB, HG0_1, hup⟩ := boxn HB HN0 (.cells #[.bool false, .string ⟨#[]⟩, .string ⟨#[]⟩] 26);clear hup;go_wp2_with fail;clear hW1 hbk0;refine (C1.out _).mono ?_;rintro e w2 ⟨rfl, hb⟩;have HX0_1 := uH hb HX0_1;have HB := mH HB hb;clear hb;go_wp2_with fail;refine (C2.out _).mono ?_;rintro e w3 ⟨rfl, hb⟩;have HX0_1 := uH hb HX0_1;have HB := mH HB hb;clear hb;go_wp2_with fail;refine (C3.out _).mono ?_;rintro e w4 ⟨rfl, hb⟩;have HX0_1 := uH hb HX0_1;have HB := mH HB hb;clear hb;obtain ⟨W5, bk1, hW5, hbk1, HX1_2, HB, HG1_2, hup⟩ := boxn HB HN0 (.cells #[.bool false, .string ⟨#[]⟩, .string ⟨#[]⟩] 26);have HL1_2 := (hup _ _ HX0_1).2;have HX0_1 := (hup _ _ HX0_1).1
 clear hup;obtain ⟨W6, hW6, HX1_2, HB, ho, f3a, f3b, f3c, k3a, k3b, k3c⟩ := put3 HX1_2 HB HN0 HG1_2 (.bool z.neg) (.string (encS z.num)) (.string (encS z.den));have HX0_1 := ho _ _ (by have h0 := HL1_2.out; omega) HX0_1;clear ho;obtain ⟨k4a, k4b, k4c⟩ := c3 HX1_2;obtain ⟨W7, hW7, HX0_1, HB, ho, f5a, f5b, f5c, k5a, k5b, k5c⟩ := put3 HX0_1 HB HN0 HG0_1 (.bool z.neg) (.string (encS z.num)) (.string (encS z.den));have HX1_2 := ho _ _ (by have h0 := HL1_2.out; omega) HX1_2;clear ho;go_wp2_with fail;clear hW5 hbk1 f3a f3b f3c k3a k3b k3c hW6 k4a k4b k4c f5a f5b f5c k5a k5b k5c hW7;refine bodyPost_ret (results_cell_row rfl _ _ bk0 26 _ (0, 0) _ rfl HX0_1.out Tryz.underlying26 rfl (by kernel_rfl)) rfl ?_;exact ⟨rfl, by rw [HN0.out]; exact HB.out⟩
set_option maxHeartbeats 2000000 in
set_option maxRecDepth 100000 in
theorem Step_r (q0 q1 q2 : Int) (r0 : -9223372036854775808 ≤ q0 ∧ q0 ≤ 9223372036854775807) (r1 : -9223372036854775808 ≤ q1 ∧ q1 ≤ 9223372036854775807) (r2 : -9223372036854775808 ≤ q2 ∧ q2 ≤ 9223372036854775807) (wq : World) :
  Calls Tryz.prog 13 #[.agg #[.int .i64 q0, .int .i64 q1, .int .i64 q2]] wq fun e w' => ∃ m : Rt, e = .returned (.agg #[.bool m.neg, .string (encS m.num), .string (encS m.den)]) ∧ m.Ok ∧ Rz m 32 ∧ m.neg = false ∧ m.num ≠ 0 ∧ Below wq.heap.size wq w' := by
 have R0 := Lib.hid r0; have R1 := Lib.hid r1; have R2 := Lib.hid r2;have C1 : Hid (∀ w, Calls Tryz.prog 12 #[.agg #[.int .i64 q0, .int .i64 q1, .int .i64 q2]] w fun e w' => ∃ ng nu de, e = .returned (.agg #[.bool ng, .string (encS nu), .string (encS de)]) ∧ Rt.Ok ⟨ng, nu, de⟩ ∧ Rz ⟨ng, nu, de⟩ 32 ∧ Below w.heap.size w w') := Lib.hid fun w => by
  refine (Made_r q0 q1 q2 w R0.out R1.out R2.out).mono ?_;rintro e w' ⟨⟨ng, nu, de⟩, rfl, ho, hz, hb⟩;exact ⟨ng, nu, de, rfl, ho, hz, hb⟩
 have C2 : Hid (∀ w, Calls Tryz.prog 45 #[] w fun e w' => e = .returned (.agg #[.bool centR.neg, .string (encS centR.num), .string (encS centR.den)]) ∧ Below w.heap.size w w') := Lib.hid fun w => by
  have h := cent_any w;exact h
 clear r0 r1 r2;have HB := Lib.hid (Below.refl wq.heap.size wq);obtain ⟨n0, hn0⟩ : ∃ n, n = wq.heap.size := ⟨_, rfl⟩; rw [← hn0]; have HN0 := Lib.hid hn0; clear hn0;go_enter Tryz.func13, Tryz.ntmps13;obtain ⟨W1, bk1, hW1, hbk1, HX1_1, HB, HG1_1, hup⟩ := boxn HB HN0 (.cells #[.int .i64 q0, .int .i64 q1, .int .i64 q2] 22);clear hup;obtain ⟨W2, bk2, hW2, hbk2, HX2_2, HB, HG2_2, hup⟩ := boxn HB HN0 (.cells #[.bool false, .string ⟨#[]⟩, .string ⟨#[]⟩] 26);have HL2_2 := (hup _ _ HX1_1).2;have HX1_1 := (hup _ _ HX1_1).1;clear hup;obtain ⟨k3a, k3b, k3c⟩ := c3 HX1_1;go_wp2_with fail;clear hW1 hbk1 hW2 hbk2 k3a k3b k3c;refine (C1.out _).mono ?_;rintro e w3 ⟨ng, nu, de, rfl, ho, hz, hb⟩;have HX1_1 := uH hb HX1_1;have HX2_2 := uH hb HX2_2;have HB := mH HB hb;clear hb;obtain ⟨W4, bk3, hW4, hbk3, HX3_4, HB, HG3_4, hup⟩ := boxn HB HN0 (.cells #[.bool false, .string ⟨#[]⟩, .string ⟨#[]⟩] 26)
 have HL3_4 := (hup _ _ HX2_2).2;have HX1_1 := (hup _ _ HX1_1).1;have HX2_2 := (hup _ _ HX2_2).1;clear hup;obtain ⟨W5, hW5, HX3_4, HB, ho, f5a, f5b, f5c, k5a, k5b, k5c⟩ := put3 HX3_4 HB HN0 HG3_4 (.bool ng) (.string (encS nu)) (.string (encS de));have HX1_1 := ho _ _ (by have h0 := HL2_2.out; have h1 := HL3_4.out; omega) HX1_1;have HX2_2 := ho _ _ (by have h1 := HL3_4.out; omega) HX2_2;clear ho;have HO := Lib.hid ho; have HZ := Lib.hid hz; clear ho hz;have k6 : W5.cell? ⟨bk3, 0, none⟩ = some (.bool ng) := by rw [Lib.cell_of_heap HX3_4.out]; rfl
 cases ng
 case false =>
  by_cases hz0 : nu = 0
  ·subst hz0;have C3 : Hid (∀ w, Calls Tryz.prog 35 #[.agg #[.bool false, .string (encS 0), .string (encS de)]] w fun e w' => e = .returned (.int .i64 0) ∧ Below w.heap.size w w') := Lib.hid fun w => by
    have h := (fun w => rRatSign_r (IsR.of HO.out HZ.out) (by decide) w) w;exact h
   obtain ⟨k7a, k7b, k7c⟩ := c3 HX3_4;go_wp2_with fail;clear hW4 hbk3 f5a f5b f5c k5a k5b k5c hW5 k6 k7a k7b k7c;refine (C3.out _).mono ?_;rintro e w6 ⟨rfl, hb⟩;have HX1_1 := uH hb HX1_1;have HX2_2 := uH hb HX2_2;have HX3_4 := uH hb HX3_4;have HB := mH HB hb;clear hb;go_wp2_with fail;refine (C2.out _).mono ?_;rintro e w7 ⟨rfl, hb⟩;have HX1_1 := uH hb HX1_1;have HX2_2 := uH hb HX2_2;have HX3_4 := uH hb HX3_4;have HB := mH HB hb;clear hb;obtain ⟨W8, hW8, HX2_2, HB, ho, f8a, f8b, f8c, k8a, k8b, k8c⟩ := put3 HX2_2 HB HN0 HG2_2 (.bool centR.neg) (.string (encS centR.num)) (.string (encS centR.den));have HX1_1 := ho _ _ (by have h0 := HL2_2.out; omega) HX1_1;have HX3_4 := ho _ _ (by have h1 := HL3_4.out; omega) HX3_4;clear ho;go_wp2_with fail;clear f8a f8b f8c k8a k8b k8c hW8
   refine bodyPost_ret (results_cell_row rfl _ _ bk2 26 _ (0, 0) _ rfl HX2_2.out Tryz.underlying26 rfl (by kernel_rfl)) rfl ?_;exact ⟨centR, rfl, centR_ok, centR_sz.mono (by decide), rfl, by decide, by rw [HN0.out]; exact HB.out⟩
  ·have HNZ := Lib.hid hz0;have C3 : Hid (∀ w, Calls Tryz.prog 35 #[.agg #[.bool false, .string (encS nu), .string (encS de)]] w fun e w' => e = .returned (.int .i64 1) ∧ Below w.heap.size w w') := Lib.hid fun w => by
    have h := rRatSign_r (IsR.of HO.out HZ.out) (by decide) w;rw [show sgnR ⟨false, nu, de⟩ = 1 from by unfold sgnR; simp [HNZ.out]] at h;exact h
   clear hz0;obtain ⟨k9a, k9b, k9c⟩ := c3 HX3_4;go_wp2_with fail;clear hW4 hbk3 f5a f5b f5c k5a k5b k5c hW5 k6 k9a k9b k9c;refine (C3.out _).mono ?_;rintro e w9 ⟨rfl, hb⟩;have HX1_1 := uH hb HX1_1;have HX2_2 := uH hb HX2_2;have HX3_4 := uH hb HX3_4;have HB := mH HB hb;clear hb;obtain ⟨k10a, k10b, k10c⟩ := c3 HX3_4;obtain ⟨W10, hW10, HX2_2, HB, ho, f11a, f11b, f11c, k11a, k11b, k11c⟩ := put3 HX2_2 HB HN0 HG2_2 (.bool false) (.string (encS nu)) (.string (encS de));have HX1_1 := ho _ _ (by have h0 := HL2_2.out; omega) HX1_1;have HX3_4 := ho _ _ (by have h1 := HL3_4.out; omega) HX3_4;clear ho;go_wp2_with fail;clear k10a k10b k10c f11a f11b f11c k11a k11b k11c hW10;refine bodyPost_ret (results_cell_row rfl _ _ bk2 26 _ (0, 0) _ rfl HX2_2.out Tryz.underlying26 rfl (by kernel_rfl)) rfl ?_;exact ⟨⟨false, nu, de⟩, rfl, HO.out, HZ.out, rfl, HNZ.out, by rw [HN0.out]; exact HB.out⟩
 case true =>
  have HNG : Hid (negR ⟨true, nu, de⟩ = ⟨false, nu, de⟩) := Lib.hid rfl;have C3 : Hid (∀ w, Calls Tryz.prog 44 #[.agg #[.bool true, .string (encS nu), .string (encS de)]] w fun e w' => e = .returned (.agg #[.bool false, .string (encS nu), .string (encS de)]) ∧ Below w.heap.size w w') := Lib.hid fun w => by
   have h := rRatNeg_r (IsR.of HO.out HZ.out) (by decide) w;rw [HNG.out] at h;exact h
  obtain ⟨k12a, k12b, k12c⟩ := c3 HX3_4;go_wp2_with fail;clear hW4 hbk3 f5a f5b f5c k5a k5b k5c hW5 k6 k12a k12b k12c;refine (C3.out _).mono ?_;rintro e w11 ⟨rfl, hb⟩;have HX1_1 := uH hb HX1_1;have HX2_2 := uH hb HX2_2;have HX3_4 := uH hb HX3_4;have HB := mH HB hb;clear hb;obtain ⟨W12, hW12, HX3_4, HB, ho, f13a, f13b, f13c, k13a, k13b, k13c⟩ := put3 HX3_4 HB HN0 HG3_4 (.bool false) (.string (encS nu)) (.string (encS de));have HX1_1 := ho _ _ (by have h0 := HL2_2.out; have h1 := HL3_4.out; omega) HX1_1;have HX2_2 := ho _ _ (by have h1 := HL3_4.out; omega) HX2_2;clear ho;have HO2 : Hid (Rt.Ok ⟨false, nu, de⟩) := Lib.hid (by rw [← HNG.out]; exact negR_ok HO.out);have HZ2 : Hid (Rz ⟨false, nu, de⟩ 32) := Lib.hid (by rw [← HNG.out]; exact negR_sz HZ.out);clear HO HZ; have HO := HO2; have HZ := HZ2; clear HO2 HZ2
  by_cases hz0 : nu = 0
  ·subst hz0;have C4 : Hid (∀ w, Calls Tryz.prog 35 #[.agg #[.bool false, .string (encS 0), .string (encS de)]] w fun e w' => e = .returned (.int .i64 0) ∧ Below w.heap.size w w') := Lib.hid fun w => by
    have h := (fun w => rRatSign_r (IsR.of HO.out HZ.out) (by decide) w) w;exact h
   obtain ⟨k14a, k14b, k14c⟩ := c3 HX3_4;go_wp2_with fail;clear f13a f13b f13c k13a k13b k13c hW12 k14a k14b k14c;refine (C4.out _).mono ?_;rintro e w13 ⟨rfl, hb⟩;have HX1_1 := uH hb HX1_1;have HX2_2 := uH hb HX2_2;have HX3_4 := uH hb HX3_4;have HB := mH HB hb;clear hb;go_wp2_with fail;refine (C2.out _).mono ?_;rintro e w14 ⟨rfl, hb⟩;have HX1_1 := uH hb HX1_1;have HX2_2 := uH hb HX2_2;have HX3_4 := uH hb HX3_4;have HB := mH HB hb;clear hb;obtain ⟨W15, hW15, HX2_2, HB, ho, f15a, f15b, f15c, k15a, k15b, k15c⟩ := put3 HX2_2 HB HN0 HG2_2 (.bool centR.neg) (.string (encS centR.num)) (.string (encS centR.den));have HX1_1 := ho _ _ (by have h0 := HL2_2.out; omega) HX1_1;have HX3_4 := ho _ _ (by have h1 := HL3_4.out; omega) HX3_4;clear ho;go_wp2_with fail;clear f15a f15b f15c k15a k15b k15c hW15
   refine bodyPost_ret (results_cell_row rfl _ _ bk2 26 _ (0, 0) _ rfl HX2_2.out Tryz.underlying26 rfl (by kernel_rfl)) rfl ?_;exact ⟨centR, rfl, centR_ok, centR_sz.mono (by decide), rfl, by decide, by rw [HN0.out]; exact HB.out⟩
  ·have HNZ := Lib.hid hz0;have C4 : Hid (∀ w, Calls Tryz.prog 35 #[.agg #[.bool false, .string (encS nu), .string (encS de)]] w fun e w' => e = .returned (.int .i64 1) ∧ Below w.heap.size w w') := Lib.hid fun w => by
    have h := rRatSign_r (IsR.of HO.out HZ.out) (by decide) w;rw [show sgnR ⟨false, nu, de⟩ = 1 from by unfold sgnR; simp [HNZ.out]] at h;exact h
   clear hz0;obtain ⟨k16a, k16b, k16c⟩ := c3 HX3_4;go_wp2_with fail;clear f13a f13b f13c k13a k13b k13c hW12 k16a k16b k16c;refine (C4.out _).mono ?_;rintro e w16 ⟨rfl, hb⟩;have HX1_1 := uH hb HX1_1;have HX2_2 := uH hb HX2_2;have HX3_4 := uH hb HX3_4;have HB := mH HB hb;clear hb;obtain ⟨k17a, k17b, k17c⟩ := c3 HX3_4;obtain ⟨W17, hW17, HX2_2, HB, ho, f18a, f18b, f18c, k18a, k18b, k18c⟩ := put3 HX2_2 HB HN0 HG2_2 (.bool false) (.string (encS nu)) (.string (encS de));have HX1_1 := ho _ _ (by have h0 := HL2_2.out; omega) HX1_1;have HX3_4 := ho _ _ (by have h1 := HL3_4.out; omega) HX3_4;clear ho;go_wp2_with fail;clear k17a k17b k17c f18a f18b f18c k18a k18b k18c hW17;refine bodyPost_ret (results_cell_row rfl _ _ bk2 26 _ (0, 0) _ rfl HX2_2.out Tryz.underlying26 rfl (by kernel_rfl)) rfl ?_;exact ⟨⟨false, nu, de⟩, rfl, HO.out, HZ.out, rfl, HNZ.out, by rw [HN0.out]; exact HB.out⟩
end Go.Proofs.YtabfjecegpaoaaaGreatDoor
namespace Go.Proofs.YtabfjecegpaoaaaGreatDoor
open Go.RowKit Go.Shelf Go
open Dgt
set_option linter.unusedVariables false
theorem le_of_cmp {a b : Rt} (ha : a.Ok) (hb : b.Ok) (h : ¬ 0 < cmpR a b) : a.q ≤ b.q := by
 rw [cmpR_q ha hb, sgQ_gt0] at h; grind
theorem ge_of_cmp {a b : Rt} (ha : a.Ok) (hb : b.Ok) (h : 0 < cmpR a b) : b.q ≤ a.q := by
 rw [cmpR_q ha hb, sgQ_gt0] at h; grind
theorem up_sz {a s : Rt} {k j : Nat} (ha : a.Ok) (hs : s.Ok) (hn : s.num ≠ 0) (hz : Rz a k) (hzs : Rz s j) : Rz (upR a s) (k + j + 1 + j + j + 1) := by
 unfold upR
 split
 ·exact (down_sz ha hs hn hz hzs).mono (by omega)
 ·exact addR_sz (down_sz ha hs hn hz hzs) hzs
theorem near_sz {a s : Rt} {k j : Nat} (ha : a.Ok) (hs : s.Ok) (hn : s.num ≠ 0) (hz : Rz a k) (hzs : Rz s j) : Rz (nearR a s) (k + j + 1 + j + j + 1) := by
 unfold nearR
 split
 ·exact addR_sz (down_sz ha hs hn hz hzs) hzs
 ·exact (down_sz ha hs hn hz hzs).mono (by omega)
end Go.Proofs.YtabfjecegpaoaaaGreatDoor
namespace Go.Proofs.YtabfjecegpaoaaaGreatDoor
open Go Go.RowKit
set_option linter.unusedVariables false
theorem alloc_lt (w : World) (o : Obj) : w.heap.size < (w.alloc o).heap.size := by rw [World.size_alloc]; omega
structure NewAt (ops : Array Oper) (nw : Nat → Bool) (listed : Array Bool) (a : Act) (w : World) : Prop where
 low : ∀ i, nw i = true → listed.getD i false = true → ∃ g, inSlot a (dstOf ops i) = .pointer (some ⟨g, 0, none⟩) ∧ g < w.heap.size
 ne : ∀ i j, nw i = true → nw j = true → i ≠ j → listed.getD i false = true → listed.getD j false = true → inSlot a (dstOf ops i) ≠ inSlot a (dstOf ops j)
section
variable {P : Program} {ops : Array Oper} {Q : Exit → Act → World → Prop} {T0 : Array Value}
theorem slot_own {a : Act} {i : Nat} {o : Oper} {v : Value} (hsl : slotsB ops T0.size = true) (hsz : a.tmps.size = T0.size) (ho : ops[i]? = some o) : inSlot (a.put o.dst v) (dstOf ops i) = gives o.dst v := by
 have hdo : dstOf ops i = o.dst := by simp [dstOf, ho]
 rw [hdo]
 cases hd : o.dst with
 | none => rfl
 | some d =>
  show (a.tmps.setIfInBounds d v).getD d undef = v
  rw [getD_set, if_pos ⟨rfl, by rw [hsz]; exact slots_lt hsl (hdo.trans hd)⟩]
theorem slot_other {a : Act} {i j : Nat} {o : Oper} {v : Value} (hsl : slotsB ops T0.size = true) (ho : ops[i]? = some o) (hji : j ≠ i) : inSlot (a.put o.dst v) (dstOf ops j) = inSlot a (dstOf ops j) := by
 have hdo : dstOf ops i = o.dst := by simp [dstOf, ho]
 cases hdj : dstOf ops j with
 | none => rfl
 | some c =>
  cases hd : o.dst with
  | none => rfl
  | some d =>
   show (a.tmps.setIfInBounds d v).getD c undef = _
   rw [getD_set, if_neg (fun h => hji (slots_ne hsl hdj (by rw [hdo, hd, h.1])))]
   rfl
theorem NewAt.put {nw : Nat → Bool} {listed : Array Bool} {a : Act} {w w' : World} {i : Nat} {o : Oper} {v : Value} (h : NewAt ops nw listed a w) (hsl : slotsB ops T0.size = true) (hsz : a.tmps.size = T0.size) (ho : ops[i]? = some o) (hls : listed.size = ops.size) (hb : Below w.heap.size w w')
  (hn : nw i = true → ∃ g, gives o.dst v = .pointer (some ⟨g, 0, none⟩) ∧ w.heap.size ≤ g ∧ g < w'.heap.size) : NewAt ops nw (listed.setIfInBounds i true) (a.put o.dst v) w' := by
 have hz : w.heap.size ≤ w'.heap.size := hb.size
 refine ⟨fun j hj hl => ?_, fun j k hj hk hne hlj hlk => ?_⟩
 ·by_cases hji : j = i
  ·subst hji
   rw [slot_own hsl hsz ho]
   obtain ⟨g, h1, -, h2⟩ := hn hj
   exact ⟨g, h1, h2⟩
  ·rw [slot_other hsl ho hji]
   rw [getD_set_ne false (Ne.symm hji)] at hl
   obtain ⟨g, h1, h2⟩ := h.low j hj hl
   exact ⟨g, h1, by omega⟩
 ·by_cases hji : j = i
  ·subst hji
   have hki : k ≠ j := Ne.symm hne
   rw [slot_own hsl hsz ho, slot_other hsl ho hki]
   rw [getD_set_ne false (Ne.symm hki)] at hlk
   obtain ⟨g, h1, h2, -⟩ := hn hj
   obtain ⟨g', h3, h4⟩ := h.low k hk hlk
   rw [h1, h3]
   intro e
   injection e with e
   injection e with e
   injection e with e
   omega
  ·rw [slot_other hsl ho hji]
   rw [getD_set_ne false (Ne.symm hji)] at hlj
   by_cases hki : k = i
   ·subst hki
    rw [slot_own hsl hsz ho]
    obtain ⟨g, h1, h2, -⟩ := hn hk
    obtain ⟨g', h3, h4⟩ := h.low j hj hlj
    rw [h1, h3]
    intro e
    injection e with e
    injection e with e
    injection e with e
    omega
   ·rw [slot_other hsl ho hki]
    rw [getD_set_ne false (Ne.symm hki)] at hlk
    exact h.ne j k hj hk hne hlj hlk
theorem wp_region_tailW {id : Nat} {w : World} (hm : P.follows .mixedOrders = true) (S : Nat → Value → World → Prop) (nw : Nat → Bool) (L : Nat) (b : Nat → Bool) (hL : L ≤ ops.size) (hov : overB (ops.extract 0 L) T0.size b = true) (hsl : slotsB ops T0.size = true) (hsl' : slotsB (ops.extract 0 L) T0.size = true) (hbk : backR ops = true) (htl : tailB ops L = true)
  (hup : ∀ j v w w', Below w.heap.size w w' → S j v w → S j v w')
  (hstep : ∀ i, i < L → ∀ o listed a w', RAt ops T0 (fun j v w => j < L → S j v w) w i o listed a w' →
   ∀ K : Act → World → Prop, (∀ v w'', S i (gives o.dst v) w'' → Below w'.heap.size w' w'' → (nw i = true → ∃ g, gives o.dst v = .pointer (some ⟨g, 0, none⟩) ∧ w'.heap.size ≤ g ∧ g < w''.heap.size) → K (a.put o.dst v) w'') → wpOp P ops Q i K a w')
  (htail : ∀ (s : Nat → Value) w', (∀ j, j < L → S j (match dstOf ops j with | some d => s d | none => undef) w') → Below w.heap.size w w' → (∀ i j, nw i = true → nw j = true → i ≠ j → i < L → j < L → (match dstOf ops i with | some d => s d | none => undef) ≠ (match dstOf ops j with | some d => s d | none => undef)) → wpTail P ops Q (ops.size - L) L { tmps := (over b s 0 T0.toList).toArray, defers := [] } w') :
  (Code.region id ops true).wp P Q { tmps := T0, defers := [] } w := by
 have hnd : ∀ m, L ≤ m → m < ops.size → needB ops m = true := fun m h1 h2 => by
  have := List.all_eq_true.1 htl m (by simpa using h2)
  simp only [Bool.or_eq_true, decide_eq_true_eq] at this
  rcases this with h | h
  ·omega
  ·exact h
 have hfin : ∀ listed a w', RSt ops T0 (fun _ j v w => j < L → S j v w) (fun _ w' => Below w.heap.size w w') listed a w' → NewAt ops nw listed a w' → (∀ j, L ≤ j → listed.getD j false = false) → (∀ j, j < L → listed.getD j false = true) → wpTail P ops Q (ops.size - L) L a w' := by
  intro listed a w' hI hnw hun hall
  rw [hI.frame hL hsl' hov hun]
  have hin : ∀ j, (match dstOf ops j with | some d => a.tmps.getD d undef | none => undef) = inSlot a (dstOf ops j) := fun j => by cases dstOf ops j <;> rfl
  refine htail _ w' (fun j hj => ?_) hI.glob (fun i j hi hj hne hiL hjL => ?_)
  ·rw [hin]; exact hI.vals j (hall j hj) hj
  ·rw [hin, hin]; exact hnw.ne i j hi hj hne (hall i hiL) (hall j hjL)
 refine wp_region_inv (fun listed a w' => (RSt ops T0 (fun _ j v w => j < L → S j v w) (fun _ w' => Below w.heap.size w w') listed a w' ∧ NewAt ops nw listed a w' ∧ ∀ j, L ≤ j → listed.getD j false = false) ∨
  (∃ m, L < m ∧ m ≤ ops.size ∧ listed.size = ops.size ∧ (∀ j, j < ops.size → listed.getD j false = decide (j < m)) ∧ wpTail P ops Q (ops.size - m) m a w')) hm ?_ ?_ ?_
 ·exact .inl ⟨⟨by simp, rfl, rfl, fun _ _ => rfl, fun j hj => (by rw [getD_falses] at hj; cases hj), (Below.refl _ _).drew, fun j o _ hj => by rw [getD_falses] at hj; cases hj⟩, ⟨fun i _ hi => (by rw [getD_falses] at hi; cases hi), fun i j _ _ _ hi _ => (by rw [getD_falses] at hi; cases hi)⟩, fun j _ => getD_falses _ _⟩
 ·rintro listed a w' hI i o ho hun hall
  have hio : i < ops.size := (Array.getElem?_eq_some_iff.1 ho).1
  have hun' : listed.getD i false = false := by
   rcases Nat.lt_or_ge i listed.size with h' | h'
   ·simp [h'] at hun ⊢; exact hun
   ·simp [Array.getElem?_eq_none h'] at hun
  have hset : ∀ m, listed.size = ops.size → (∀ j, j < ops.size → listed.getD j false = decide (j < m)) → i = m → ∀ j, j < ops.size → (listed.setIfInBounds i true).getD j false = decide (j < m + 1) := by
   intro m hls hj him j hjs
   subst him
   by_cases hji : j = i
   ·subst hji; simp [hls, hio]
   ·rw [getD_set_ne false (Ne.symm hji), hj j hjs]
    simp; omega
  rcases hI with ⟨hI, hnw, hL'⟩ | ⟨m, hm1, hm2, hls, hlst, htl'⟩
  ·by_cases hiL : i < L
   ·refine hstep i hiL o listed a w' ⟨ho, hall, fun t ht => hI.base t (fun j hj => absurd hj (free_ne ht)), hI.vals, hI.glob, hun', hI.closed, hI.base⟩ _ fun v w'' h1 h2 h3 => .inl ⟨?_, hnw.put hsl hI.size ho hI.lsize h2 h3, fun j hj => (getD_set_ne false (by omega)).trans (hL' j hj)⟩
    exact hI.put_one hsl ho hun' hall (fun _ => h1) (hI.glob.trans (h2.mono hI.glob.size)) fun j u _ _ hS hj => hup j u w' w'' h2 (hS hj)
   ·have hb := all_before (hnd i (by omega) hio) ho hall hI.closed
    have hiL : i = L := by
     rcases Nat.lt_or_ge L i with h | h
     ·have := hb L h
      rw [hL' L (Nat.le_refl _)] at this; cases this
     ·omega
    subst hiL
    have h := hfin listed a w' hI hnw hL' hb
    rw [show ops.size - i = (ops.size - (i + 1)) + 1 by omega] at h
    refine wpOp_mono (fun a' w'' h => .inr ⟨i + 1, by omega, by omega, by simpa using hI.lsize, hset i hI.lsize (fun j hj => ?_) rfl, h⟩) h
    by_cases hji : j < i
    ·rw [hb j hji]; simp [hji]
    ·rw [hL' j (by omega)]; simp [hji]
  ·have him : i = m := by
    have h1 := hlst i hio
    rw [hun'] at h1
    have h2 : ¬ i < m := by simpa using h1.symm
    rcases Nat.lt_or_ge m i with h | h
    ·have := all_before (hnd i (by omega) hio) ho hall (fun j o ho' hj e he hb => by
      have hjs : j < ops.size := (Array.getElem?_eq_some_iff.1 ho').1
      have h3 := List.all_eq_true.1 hbk j (by simpa using hjs)
      rw [ho'] at h3
      have h4 := Array.all_eq_true'.1 (show (o.after.all fun e => !Region.binds .any e || decide (e.on < j)) = true from h3) e he
      rw [hb] at h4
      have h5 : e.on < j := by simpa using h4
      have h6 := hlst j hjs
      rw [hj] at h6
      have h7 : j < m := by simpa using h6.symm
      rw [hlst e.on (by omega)]; simp; omega) m h
     rw [hlst m (by omega)] at this
     simp at this
    ·omega
   subst him
   have h := htl'
   rw [show ops.size - i = (ops.size - (i + 1)) + 1 by omega] at h
   exact wpOp_mono (fun a' w'' h => .inr ⟨i + 1, by omega, by omega, by simpa using hls, hset i hls hlst rfl, h⟩) h
 ·rintro listed a w' hI hr
  have hback : ∀ j o, ops[j]? = some o → ∀ e ∈ o.after, Region.binds .any e = true → e.on < j := fun j o ho e he hb => by
   have h1 := List.all_eq_true.1 hbk j (by simpa using (Array.getElem?_eq_some_iff.1 ho).1)
   rw [ho] at h1
   have h2 := Array.all_eq_true'.1 (show (o.after.all fun e => !Region.binds .any e || decide (e.on < j)) = true from h1) e he
   rw [hb] at h2
   simpa using h2
  rcases hI with ⟨hI, hnw, hL'⟩ | ⟨m, hm1, hm2, hls, hlst, htl'⟩
  ·have hup : ∀ j, j < ops.size → listed.getD j false = true := fun j hj => by
    have := all_up hI.lsize hback hr j hj
    have hs : j < listed.size := by rw [hI.lsize]; exact hj
    simpa [hs] using this
   have hLs : L = ops.size := by
    rcases Nat.lt_or_ge L ops.size with h | h
    ·have := hup L h
     rw [hL' L (Nat.le_refl _)] at this; cases this
    ·omega
   have h := hfin listed a w' hI hnw hL' (fun j hj => hup j (by omega))
   rw [hLs, Nat.sub_self] at h
   exact h
  ·have hms : m = ops.size := by
    rcases Nat.lt_or_ge m ops.size with h | h
    ·have := all_up hls hback hr m h
     have hs : m < listed.size := by rw [hls]; exact h
     have h2 := hlst m h
     simp [hs] at this h2
     rw [this] at h2; cases h2
    ·omega
   rw [hms, Nat.sub_self] at htl'
   exact htl'
end
end Go.Proofs.YtabfjecegpaoaaaGreatDoor
