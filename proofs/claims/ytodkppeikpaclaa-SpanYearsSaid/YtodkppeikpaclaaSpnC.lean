/- combine of package span, and Union, Meet, Less, Norm: each returns the list that the plain combination is; each theorem names its conditions. -/
import Derived.Test.YtodkppeikpaclaaSpnB
import Derived.Test.YtodkppeikpaclaaRegI
import Derived.Test.YtodkppeikpaclaaOwn
import Derived.Test.YtodkppeikpaclaaHeap
namespace Go.Proofs.Ytodkppeikpaclaa
open Go.RowKit Go.Shelf
open Spn
set_option linter.unusedVariables false
attribute [local go_sem] Oper.semAt_some

theorem al_new {w : World} {k : Nat} {c : Array Value} {t : TypeId} (h : k = w.heap.size) : (w.alloc (.cells c t)).heap[k]? = some (.cells c t (0, 0)) := by rw [h]; exact heap_alloc_new w _
theorem al_old {w : World} {k : Nat} {o o' : Obj} (h : w.heap[k]? = some o) : (w.alloc o').heap[k]? = some o := (Below.heap_alloc w o' k (Array.getElem?_eq_some_iff.1 h).1).trans h
theorem infoSpan : (Try.prog.info? 33).map (fun i => (i.zero, i.size, i.bytes)) = some (some (.agg #[.int .i64 0, .int .i64 0]), 2, 16) := by kernel_rfl
theorem own_form {w : World} {base : Nat} {e : TypeId} {size : Nat} {v : Value} {n : Nat} {xs : List Value} (h : w.ownsRow base e size v n xs) (hn : 0 < n) : ∃ g cap, v = .slice (some ⟨g, 0, none⟩) n cap := by
  rcases h.2 with ⟨_, h0⟩ | ⟨g, cap, cur, rfl, _⟩
  · omega
  · exact ⟨g, cap, rfl⟩
theorem grown_keeps {w w3 : World} {base : Nat} {e : TypeId} {size : Nat} {v : Value} {n : Nat} {xs : List Value} {o x : Obj} (ho : w.ownsRow base e size v n xs) (hg : (w.alloc o).grownBy w3 v.ownBlock) {k : Nat} (hk : k < base) (h : w.heap[k]? = some x) : w3.heap[k]? = some x := by
  have h1 := al_old (o' := o) h
  exact (hg.block k (Array.getElem?_eq_some_iff.1 h1).1 (fun e => by have := (ho.lt k e.symm).1; omega)).trans h1
def cells2 (l : List Sp) : List Value := l.flatMap fun s => [.int .i64 s.1, .int .i64 s.2]
def CbI (b : Nat) (W0 : World) (P : Int → Bool) (pre : List Int) (mm : Nat → Prop) (W : World) : Prop :=
  ∃ (o : Int) (v : Value) (out : List Sp), W.heap[b + 4]? = some (.cells #[.int .i64 o] 3 (0, 0)) ∧ W.heap[b + 3]? = some (.cells #[v] 24 (0, 0)) ∧ W.ownsRow (b + 9) 33 2 v out.length (cells2 out) ∧
    out.length ≤ pre.length ∧ (∀ rest, run P (-1) (pre ++ rest) = out ++ run P o rest) ∧ (∀ k, k < b + 7 → k ≠ b + 3 → k ≠ b + 4 → W.heap[k]? = W0.heap[k]?) ∧ b + 7 ≤ W.heap.size ∧ mm = (fun k => k < b + 7 ∨ v.ownBlock = some k)
def FrC (f : Bool → Bool → Bool) (fn b ca cb : Nat) (x : Int) (pa pb : Option Addr) (la lb : List Sp) (s : Nat → Value) : Array Value := #[.slice pa la.length ca, .slice pb lb.length cb, .func (Fn.func fn) #[] #[], .pointer (some ⟨b, 0, none⟩), .pointer (some ⟨b + 1, 0, none⟩), .pointer (some ⟨b + 1 + 1, 0, none⟩), .pointer (some ⟨b + 1 + 1 + 1, 0, none⟩), .pointer (some ⟨b + 1 + 1 + 1 + 1, 0, none⟩), .int .i64 x, s 8, .slice pa la.length ca, .slice pb lb.length cb, .slice (some ⟨b + 1 + 1 + 1 + 1 + 1, 0, none⟩) 2 2, .func (Fn.func 61) #[] #[.pointer (some ⟨b + 1 + 1 + 1 + 1 + 1 + 1, 0, none⟩)], .int .i64 x, s 0, s 1, s 2, s 3, s 4, s 5, s 6, s 7, undef, undef, undef, undef, undef, undef, undef, undef, undef, undef, undef, undef, undef, undef, undef, undef, undef, undef, undef]
def InC (f : Bool → Bool → Bool) (fn b ca cb : Nat) (x : Int) (pa pb : Option Addr) (la lb : List Sp) (W' : World) (listed : Array Bool) (a : Act) (w : World) : Prop :=
  ∃ (s : Nat → Value), listed.size = 9 ∧ a = { tmps := FrC f fn b ca cb x pa pb la lb s, defers := [] } ∧
    (listed.getD 0 false = true → s 0 = .func (Fn.func fn) #[] #[]) ∧
    (listed.getD 1 false = true → s 1 = .slice pa la.length ca) ∧
    (listed.getD 2 false = true → s 2 = .int .i64 x) ∧
    (listed.getD 3 false = true → s 3 = .bool (hasB la x)) ∧
    (listed.getD 4 false = true → s 4 = .slice pb lb.length cb) ∧
    (listed.getD 5 false = true → s 5 = .int .i64 x) ∧
    (listed.getD 6 false = true → s 6 = .bool (hasB lb x)) ∧
    (listed.getD 7 false = true → s 7 = .bool (f (hasB la x) (hasB lb x))) ∧
    (listed.getD 8 false = true → s 8 = .bool (f (hasB la x) (hasB lb x))) ∧ Below W'.heap.size W' w

theorem seven (w : World) (c0 c1 c2 c3 c4 c5 c6 : Array Value) (t0 t1 t2 t3 t4 t5 t6 : TypeId) (W : World) (hW : (((((((w.alloc (.cells c0 t0)).alloc (.cells c1 t1)).alloc (.cells c2 t2)).alloc (.cells c3 t3)).alloc (.cells c4 t4)).alloc (.cells c5 t5)).alloc (.cells c6 t6)) = W) :
    W.heap.size = w.heap.size + 7 ∧ Below w.heap.size w W ∧ W.heap[w.heap.size]? = some (.cells c0 t0 (0, 0)) ∧ W.heap[w.heap.size + 1]? = some (.cells c1 t1 (0, 0)) ∧ W.heap[w.heap.size + 2]? = some (.cells c2 t2 (0, 0)) ∧ W.heap[w.heap.size + 3]? = some (.cells c3 t3 (0, 0)) ∧
      W.heap[w.heap.size + 4]? = some (.cells c4 t4 (0, 0)) ∧ W.heap[w.heap.size + 5]? = some (.cells c5 t5 (0, 0)) ∧ W.heap[w.heap.size + 6]? = some (.cells c6 t6 (0, 0)) := by
  subst hW
  refine ⟨by simp, (((((((Below.refl _ w).alloc (Nat.le_refl _) _).alloc (by simp) _).alloc (by simp; omega) _).alloc (by simp; omega) _).alloc (by simp; omega) _).alloc (by simp; omega) _).alloc (by simp; omega) _, al_old (al_old (al_old (al_old (al_old (al_old (al_new rfl)))))), al_old (al_old (al_old (al_old (al_old (al_new (by simp)))))), al_old (al_old (al_old (al_old (al_new (by simp))))), al_old (al_old (al_old (al_new (by simp)))), al_old (al_old (al_new (by simp))), al_old (al_new (by simp)), al_new (by simp)⟩
theorem cells2_at : ∀ (l : List Sp) (i : Nat) (h : i < l.length), (cells2 l)[i * 2]? = some (.int .i64 l[i].1) ∧ (cells2 l)[i * 2 + 1]? = some (.int .i64 l[i].2)
  | s :: l, 0, _ => by simp [cells2]
  | s :: l, i + 1, h => by
    have e : cells2 (s :: l) = .int .i64 s.1 :: .int .i64 s.2 :: cells2 l := by simp [cells2]
    have ih := cells2_at l i (by simpa using h)
    rw [e, show (i + 1) * 2 = i * 2 + 1 + 1 by omega, List.getElem?_cons_succ, List.getElem?_cons_succ, List.getElem?_cons_succ, List.getElem?_cons_succ]
    simpa using ih
theorem own_lst {W : World} {base : Nat} {e : TypeId} {v : Value} {l : List Sp} (h : W.ownsRow base e 2 v l.length (cells2 l)) (hl : l.length ≤ 1000000) : Lst W v l := by
  rcases h.2 with ⟨rfl, h0⟩ | ⟨g, cap, cur, rfl, hg, hgh, hnc, hcm, hcs, hct⟩
  · exact .inl ⟨rfl, List.eq_nil_of_length_eq_zero h0⟩
  · refine .inr ⟨g, 0, cap, rfl, (Array.getElem?_eq_some_iff.1 hgh).1, hl, fun i hi => ?_⟩
    have hat := cells2_at l i hi
    have key : ∀ j x, (cells2 l)[j]? = some x → W.cell? ⟨g, 0 + j, none⟩ = some x := fun j x hx => by
      rw [← hct, List.getElem?_take] at hx
      split at hx
      · rw [Nat.zero_add, Lib.cell_of_heap hgh]; rw [← Array.getElem?_toList]; exact hx
      · cases hx
    exact ⟨key _ _ hat.1, by rw [Nat.add_assoc]; exact key _ _ hat.2⟩
theorem own_keep {A W : World} {base : Nat} {e : TypeId} {size : Nat} {v : Value} {n : Nat} {xs : List Value} (h : A.ownsRow base e size v n xs) (hk : ∀ k, v.ownBlock = some k → W.heap[k]? = A.heap[k]?) : W.ownsRow base e size v n xs := by
  refine ⟨h.1, ?_⟩
  rcases h.2 with h | ⟨g, cap, cur, rfl, h2, h3, h4⟩
  · exact .inl h
  · exact .inr ⟨g, cap, cur, rfl, h2, (hk g rfl).trans h3, h4⟩
theorem comb_res {tmps : Array Value} {W : World} {b : Nat} {p : Option Addr} {n c : Nat} {t : TypeId} (hp : tmps[6]?.getD undef = .pointer (some ⟨b, 0, none⟩)) (hb : W.heap[b]? = some (.cells #[.slice p n c] t (0, 0))) :
    (results Try.f40 tmps).run Try.prog W = .ok (.slice p n c) W := by
  have hc : W.cell? ⟨b, 0, none⟩ = some (.slice p n c) := by rw [Lib.cell_of_heap hb]; rfl
  have ha := Try.isAgg24
  simp only [results, show Try.f40.results = #[.cell 6 24] from rfl]
  simp [Sem.run_bind, Result.andThen, hp]
  go_simp
theorem bounds_any (g : Nat) (w : World) : Calls Try.prog 51 #[.slice (some ⟨g, 0, none⟩) 2 2] w fun e w' => e = .returned (.func (Fn.func 61) #[] #[.pointer (some ⟨w.heap.size, 0, none⟩)]) ∧ w' = w.alloc (.cells #[.slice (some ⟨g, 0, none⟩) 2 2] 42) := by
  go_enter Try.func51, Try.ntmps51
  go_wp2_with fail
  go_ret
  exact ⟨rfl, rfl⟩
set_option maxHeartbeats 4000000 in
set_option maxRecDepth 100000 in
theorem combine_any (fn : Nat) (f : Bool → Bool → Bool) (hf0 : f false false = false) (henter : ∀ args w, (callFunc fn args).run Try.prog w = .ok (.enter fn args) w)
    (hfn : ∀ x y w, Calls Try.prog fn #[.bool x, .bool y] w fun e w' => e = .returned (.bool (f x y)) ∧ w = w') (va vb : Value) (la lb : List Sp) (w : World) (ha : la.length ≤ 10000) (hb : lb.length ≤ 10000) (hla : Lst w va la) (hlb : Lst w vb lb) :
    Calls Try.prog 40 #[va, vb, .func (Fn.func fn) #[] #[]] w fun e w' => ∃ v, e = .returned v ∧ Lst w' v (comb f la lb) ∧ Below w.heap.size w w' := by
  obtain ⟨pa, ca, rfl, hlena, hcella⟩ := hla.open
  obtain ⟨pb, cb, rfl, hlenb, hcellb⟩ := hlb.open
  have HLA := Lib.hid hla; have HLB := Lib.hid hlb; have HFN := Lib.hid hfn; have HF0 := Lib.hid hf0
  clear hla hlb hcella hcellb hfn hf0
  obtain ⟨i0, hi, hz0, hz1, hz2⟩ := info_parts infoSpan
  refine callsIn_wide (n := 0) |>.1 ?_
  refine callsIn_of_wp_marks Try.func40 rfl trivial ?_
  simp only [Try.ntmps40, List.size_toArray, List.length_cons, List.length_nil, Nat.reduceAdd, Nat.reduceSub, Array.replicate_succ, Array.replicate_zero, List.push_toArray, List.append_toArray, List.nil_append, List.cons_append]
  gi_wp2_with fail
  refine ⟨trivial, rfl, ?_⟩
  refine (callsIn_wide.2 (bounds_any _ _)).mono ?_
  rintro e w1 ⟨rfl, rfl⟩
  gi_wp2_with fail
  obtain ⟨W0, hW0⟩ : ∃ W0, (((((((w.alloc (.cells #[.slice pa la.length ca] 24)).alloc (.cells #[.slice pb lb.length cb] 24)).alloc (.cells #[.func (Fn.func fn) #[] #[]] 55)).alloc (.cells #[.slice none 0 0] 24)).alloc (.cells #[.int .i64 (-1)] 3)).alloc (.cells #[.slice pa la.length ca, .slice pb lb.length cb] 24)).alloc (.cells #[.slice (some ⟨w.heap.size + 1 + 1 + 1 + 1 + 1, 0, none⟩) 2 2] 42)) = W0 := ⟨_, rfl⟩
  rw [hW0]
  obtain ⟨hsz, hbel, b0, b1, b2, b3, b4, b5, b6⟩ := seven _ _ _ _ _ _ _ _ _ _ _ _ _ _ _ _ hW0
  obtain ⟨b, hbb⟩ : ∃ b, b = w.heap.size := ⟨_, rfl⟩
  rw [← hbb] at hsz b0 b1 b2 b3 b4 b5 b6 ⊢
  have HS := Lib.hid hsz; have HBL := Lib.hid hbel; have B0 := Lib.hid b0; have B1 := Lib.hid b1; have B2 := Lib.hid b2; have B3 := Lib.hid b3; have B4 := Lib.hid b4
  have HIT := bounds_iter la lb _ _ (b + 6) (b + 5) W0 ha hb b6 (Array.getElem?_eq_some_iff.1 b5).1 (by rw [Lib.cell_of_heap b5]; rfl) (by rw [Lib.cell_of_heap b5]; rfl) (HLA.out.up hbel) (HLB.out.up hbel)
  have HLA0 := Lib.hid (HLA.out.up hbel); have HLB0 := Lib.hid (HLB.out.up hbel)
  have HBB := Lib.hid hbb
  have HIT' := Lib.hid HIT
  clear hsz hbel b0 b1 b2 b3 b4 b5 b6 hW0 HIT hbb
  refine wp_range (xs := bnd (la ++ lb)) (encs := fun n : Int => #[Value.int .i64 n]) (Bx := fun _ => False) rfl (enters_of Try.func61 (by kernel_rfl) rfl) HIT'.out (fun _ => rfl)
    (CbI b W0 (both f la lb)) (fun _ _ _ => False) ?hI ?hIlt (fun _ _ _ _ h _ => h) (fun _ h => h.elim)
    (fun k => k < b + 7 ∨ (Value.slice none 0 0).ownBlock = some k) ⟨-1, .slice none 0 0, [], B4.out, B3.out, World.ownsRow_nil _ _ _ _, by simp, fun _ => rfl, fun _ _ _ _ => rfl, by rw [HS.out]; omega, rfl⟩ ?round ?done (fun _ _ _ h => h.elim)
  case hI =>
    rintro pre mm A B ⟨o, v, out, h1, h2, h3, h4, h5, h6, h7, rfl⟩ hf
    have keep : ∀ k, k < b + 7 ∨ v.ownBlock = some k → k < A.heap.size → B.heap[k]? = A.heap[k]? := fun k hk hlt => hf.block k hlt (fun hn => hn hk)
    refine ⟨o, v, out, hf.heap h1 (fun h => h (.inl (by omega))), hf.heap h2 (fun h => h (.inl (by omega))), ?_, h4, h5, fun k k1 k2 k3 => (keep k (.inl k1) (by omega)).trans (h6 k k1 k2 k3), Nat.le_trans h7 hf.size, rfl⟩
    refine ⟨h3.1, ?_⟩
    rcases h3.2 with h | ⟨g, cap, cur, rfl, g2, g3, g4⟩
    · exact .inl h
    · exact .inr ⟨g, cap, cur, rfl, g2, hf.heap g3 (fun h => h (.inr rfl)), g4⟩
  case hIlt =>
    rintro pre mm A k ⟨o, v, out, h1, h2, h3, h4, h5, h6, h7, rfl⟩ hk
    have hs := HS.out
    rcases hk with hk | hk
    · exact ⟨by omega, fun h => h, by omega, by omega⟩
    · have := h3.lt k hk
      exact ⟨this.2, fun h => h, by omega, by omega⟩
  case round =>
    rintro l pre x rest mm W hxs -
    gi_wp2_with fail
    refine ⟨trivial, ?_⟩
    rintro W' hW' ⟨o, v, out, h1, h2, h3, h4, h5, h6, h7, rfl⟩
    have CA := Lib.hid (show W'.cell? ⟨b, 0, none⟩ = some (.slice pa la.length ca) from by rw [Lib.cell_of_heap ((h6 b (by omega) (by omega) (by omega)).trans B0.out)]; rfl)
    have CB := Lib.hid (show W'.cell? ⟨b + 1, 0, none⟩ = some (.slice pb lb.length cb) from by rw [Lib.cell_of_heap ((h6 (b + 1) (by omega) (by omega) (by omega)).trans B1.out)]; rfl)
    have CF := Lib.hid (show W'.cell? ⟨b + 1 + 1, 0, none⟩ = some (.func (Fn.func fn) #[] #[]) from by rw [Lib.cell_of_heap ((h6 (b + 2) (by omega) (by omega) (by omega)).trans B2.out)]; rfl)
    have hlow : ∀ k, k < w.heap.size → W'.heap[k]? = w.heap[k]? := fun k hk => by
      have hb := HBB.out
      exact (h6 k (by omega) (by omega) (by omega)).trans (HBL.out.block k hk)
    have HLA1 : Hid (Lst W' (.slice pa la.length ca) la) := Lib.hid (HLA.out.up2 (by have := HBB.out; omega) hlow)
    have HLB1 : Hid (Lst W' (.slice pb lb.length cb) lb) := Lib.hid (HLB.out.up2 (by have := HBB.out; omega) hlow)
    have H1 := Lib.hid h1; have H2 := Lib.hid h2; have H3 := Lib.hid h3; have H5 := Lib.hid h5; have H6 := Lib.hid h6
    clear h1 h2 h3 h5 h6 hlow
    gi_wp2_with fail
    refine wpIn_region_inv (InC f fn b ca cb x pa pb la lb W') (by kernel_rfl) ?h0 ?hstep ?hdone
    case h0 => exact ⟨fun _ => undef, rfl, rfl, (fun h => absurd h (by simp)), (fun h => absurd h (by simp)), (fun h => absurd h (by simp)), (fun h => absurd h (by simp)), (fun h => absurd h (by simp)), (fun h => absurd h (by simp)), (fun h => absurd h (by simp)), (fun h => absurd h (by simp)), (fun h => absurd h (by simp)), (Below.refl _ _).drew⟩
    case hstep =>
      rintro listed a w ⟨s, hsz, rfl, c0, c1, c2, c3, c4, c5, c6, c7, c8, cbl⟩ i o ho hun hall
      have hun' : listed.getD i false = false := getD_none hun
      have hi : i < 9 := (Array.getElem?_eq_some_iff.1 ho).1
      have hii : i = 0 ∨ i = 1 ∨ i = 2 ∨ i = 3 ∨ i = 4 ∨ i = 5 ∨ i = 6 ∨ i = 7 ∨ i = 8 := by omega
      rcases hii with rfl | rfl | rfl | rfl | rfl | rfl | rfl | rfl | rfl
      · simp at ho
        subst ho
        have x0 : w.cell? ⟨b + 1 + 1, 0, none⟩ = some (.func (Fn.func fn) #[] #[]) := by rw [cell_up cbl (by omega)]; exact CF.out
        refine wpOpIn_step rfl (fun K' hK => ?_)
        simp only [FrC]
        go_simp
        refine hK _ _ ⟨fun j => if j = 0 then .func (Fn.func fn) #[] #[] else s j, by simpa using hsz, by simp [FrC], fun _ => by simp, fun h => by rw [getD_set_ne false (by decide)] at h; simpa using c1 h, fun h => by rw [getD_set_ne false (by decide)] at h; simpa using c2 h, fun h => by rw [getD_set_ne false (by decide)] at h; simpa using c3 h, fun h => by rw [getD_set_ne false (by decide)] at h; simpa using c4 h, fun h => by rw [getD_set_ne false (by decide)] at h; simpa using c5 h, fun h => by rw [getD_set_ne false (by decide)] at h; simpa using c6 h, fun h => by rw [getD_set_ne false (by decide)] at h; simpa using c7 h, fun h => by rw [getD_set_ne false (by decide)] at h; simpa using c8 h, cbl⟩
      · simp at ho
        subst ho
        have x0 : w.cell? ⟨b, 0, none⟩ = some (.slice pa la.length ca) := by rw [cell_up cbl (by omega)]; exact CA.out
        refine wpOpIn_step rfl (fun K' hK => ?_)
        simp only [FrC]
        go_simp
        refine hK _ _ ⟨fun j => if j = 1 then .slice pa la.length ca else s j, by simpa using hsz, by simp [FrC], fun h => by rw [getD_set_ne false (by decide)] at h; simpa using c0 h, fun _ => by simp, fun h => by rw [getD_set_ne false (by decide)] at h; simpa using c2 h, fun h => by rw [getD_set_ne false (by decide)] at h; simpa using c3 h, fun h => by rw [getD_set_ne false (by decide)] at h; simpa using c4 h, fun h => by rw [getD_set_ne false (by decide)] at h; simpa using c5 h, fun h => by rw [getD_set_ne false (by decide)] at h; simpa using c6 h, fun h => by rw [getD_set_ne false (by decide)] at h; simpa using c7 h, fun h => by rw [getD_set_ne false (by decide)] at h; simpa using c8 h, cbl⟩
      · simp at ho
        subst ho
        refine wpOpIn_step rfl (fun K' hK => ?_)
        simp only [FrC]
        go_simp
        refine hK _ _ ⟨fun j => if j = 2 then .int .i64 x else s j, by simpa using hsz, by simp [FrC], fun h => by rw [getD_set_ne false (by decide)] at h; simpa using c0 h, fun h => by rw [getD_set_ne false (by decide)] at h; simpa using c1 h, fun _ => by simp, fun h => by rw [getD_set_ne false (by decide)] at h; simpa using c3 h, fun h => by rw [getD_set_ne false (by decide)] at h; simpa using c4 h, fun h => by rw [getD_set_ne false (by decide)] at h; simpa using c5 h, fun h => by rw [getD_set_ne false (by decide)] at h; simpa using c6 h, fun h => by rw [getD_set_ne false (by decide)] at h; simpa using c7 h, fun h => by rw [getD_set_ne false (by decide)] at h; simpa using c8 h, cbl⟩
      · simp at ho
        subst ho
        have u1 : listed.getD 1 false = true := hall ⟨1, .data⟩ (by simp) rfl
        have e1 := c1 u1
        have u2 : listed.getD 2 false = true := hall ⟨2, .data⟩ (by simp) rfl
        have e2 := c2 u2
        refine wpOpIn_step rfl (fun K' hK => ?_)
        simp only [FrC]
        go_simp
        refine ⟨trivial, rfl, ?_⟩
        refine (CallsIn.inRound l (callsIn_wide.2 (Has_any x _ la _ (HLA1.out.up cbl)))).mono ?_
        rintro e w' ⟨rfl, hb⟩
        refine hK _ _ ⟨fun j => if j = 3 then .bool (hasB la x) else s j, by simpa using hsz, by simp [FrC, e1, e2], fun h => by rw [getD_set_ne false (by decide)] at h; simpa using c0 h, fun h => by rw [getD_set_ne false (by decide)] at h; simpa using c1 h, fun h => by rw [getD_set_ne false (by decide)] at h; simpa using c2 h, fun _ => by simp, fun h => by rw [getD_set_ne false (by decide)] at h; simpa using c4 h, fun h => by rw [getD_set_ne false (by decide)] at h; simpa using c5 h, fun h => by rw [getD_set_ne false (by decide)] at h; simpa using c6 h, fun h => by rw [getD_set_ne false (by decide)] at h; simpa using c7 h, fun h => by rw [getD_set_ne false (by decide)] at h; simpa using c8 h, cbl.trans (hb.mono cbl.size)⟩
      · simp at ho
        subst ho
        have x0 : w.cell? ⟨b + 1, 0, none⟩ = some (.slice pb lb.length cb) := by rw [cell_up cbl (by omega)]; exact CB.out
        refine wpOpIn_step rfl (fun K' hK => ?_)
        simp only [FrC]
        go_simp
        refine hK _ _ ⟨fun j => if j = 4 then .slice pb lb.length cb else s j, by simpa using hsz, by simp [FrC], fun h => by rw [getD_set_ne false (by decide)] at h; simpa using c0 h, fun h => by rw [getD_set_ne false (by decide)] at h; simpa using c1 h, fun h => by rw [getD_set_ne false (by decide)] at h; simpa using c2 h, fun h => by rw [getD_set_ne false (by decide)] at h; simpa using c3 h, fun _ => by simp, fun h => by rw [getD_set_ne false (by decide)] at h; simpa using c5 h, fun h => by rw [getD_set_ne false (by decide)] at h; simpa using c6 h, fun h => by rw [getD_set_ne false (by decide)] at h; simpa using c7 h, fun h => by rw [getD_set_ne false (by decide)] at h; simpa using c8 h, cbl⟩
      · simp at ho
        subst ho
        refine wpOpIn_step rfl (fun K' hK => ?_)
        simp only [FrC]
        go_simp
        refine hK _ _ ⟨fun j => if j = 5 then .int .i64 x else s j, by simpa using hsz, by simp [FrC], fun h => by rw [getD_set_ne false (by decide)] at h; simpa using c0 h, fun h => by rw [getD_set_ne false (by decide)] at h; simpa using c1 h, fun h => by rw [getD_set_ne false (by decide)] at h; simpa using c2 h, fun h => by rw [getD_set_ne false (by decide)] at h; simpa using c3 h, fun h => by rw [getD_set_ne false (by decide)] at h; simpa using c4 h, fun _ => by simp, fun h => by rw [getD_set_ne false (by decide)] at h; simpa using c6 h, fun h => by rw [getD_set_ne false (by decide)] at h; simpa using c7 h, fun h => by rw [getD_set_ne false (by decide)] at h; simpa using c8 h, cbl⟩
      · simp at ho
        subst ho
        have u4 : listed.getD 4 false = true := hall ⟨4, .data⟩ (by simp) rfl
        have e4 := c4 u4
        have u5 : listed.getD 5 false = true := hall ⟨5, .data⟩ (by simp) rfl
        have e5 := c5 u5
        refine wpOpIn_step rfl (fun K' hK => ?_)
        simp only [FrC]
        go_simp
        refine ⟨trivial, rfl, ?_⟩
        refine (CallsIn.inRound l (callsIn_wide.2 (Has_any x _ lb _ (HLB1.out.up cbl)))).mono ?_
        rintro e w' ⟨rfl, hb⟩
        refine hK _ _ ⟨fun j => if j = 6 then .bool (hasB lb x) else s j, by simpa using hsz, by simp [FrC, e4, e5], fun h => by rw [getD_set_ne false (by decide)] at h; simpa using c0 h, fun h => by rw [getD_set_ne false (by decide)] at h; simpa using c1 h, fun h => by rw [getD_set_ne false (by decide)] at h; simpa using c2 h, fun h => by rw [getD_set_ne false (by decide)] at h; simpa using c3 h, fun h => by rw [getD_set_ne false (by decide)] at h; simpa using c4 h, fun h => by rw [getD_set_ne false (by decide)] at h; simpa using c5 h, fun _ => by simp, fun h => by rw [getD_set_ne false (by decide)] at h; simpa using c7 h, fun h => by rw [getD_set_ne false (by decide)] at h; simpa using c8 h, cbl.trans (hb.mono cbl.size)⟩
      · simp at ho
        subst ho
        have u0 : listed.getD 0 false = true := hall ⟨0, .data⟩ (by simp) rfl
        have e0 := c0 u0
        have u3 : listed.getD 3 false = true := hall ⟨3, .data⟩ (by simp) rfl
        have e3 := c3 u3
        have u6 : listed.getD 6 false = true := hall ⟨6, .data⟩ (by simp) rfl
        have e6 := c6 u6
        refine wpOpIn_step rfl (fun K' hK => ?_)
        simp only [FrC]
        go_simp
        refine ⟨trivial, rfl, ?_⟩
        refine (CallsIn.inRound l (callsIn_wide.2 (HFN.out _ _ _))).mono ?_
        rintro e w' ⟨rfl, rfl⟩
        refine hK _ _ ⟨fun j => if j = 7 then .bool (f (hasB la x) (hasB lb x)) else s j, by simpa using hsz, by simp [FrC, e0, e3, e6], fun h => by rw [getD_set_ne false (by decide)] at h; simpa using c0 h, fun h => by rw [getD_set_ne false (by decide)] at h; simpa using c1 h, fun h => by rw [getD_set_ne false (by decide)] at h; simpa using c2 h, fun h => by rw [getD_set_ne false (by decide)] at h; simpa using c3 h, fun h => by rw [getD_set_ne false (by decide)] at h; simpa using c4 h, fun h => by rw [getD_set_ne false (by decide)] at h; simpa using c5 h, fun h => by rw [getD_set_ne false (by decide)] at h; simpa using c6 h, fun _ => by simp, fun h => by rw [getD_set_ne false (by decide)] at h; simpa using c8 h, cbl⟩
      · simp at ho
        subst ho
        have u7 : listed.getD 7 false = true := hall ⟨7, .data⟩ (by simp) rfl
        have e7 := c7 u7
        refine wpOpIn_step rfl (fun K' hK => ?_)
        simp only [FrC]
        go_simp
        refine hK _ _ ⟨fun j => if j = 8 then .bool (f (hasB la x) (hasB lb x)) else s j, by simpa using hsz, by simp [FrC, e7], fun h => by rw [getD_set_ne false (by decide)] at h; simpa using c0 h, fun h => by rw [getD_set_ne false (by decide)] at h; simpa using c1 h, fun h => by rw [getD_set_ne false (by decide)] at h; simpa using c2 h, fun h => by rw [getD_set_ne false (by decide)] at h; simpa using c3 h, fun h => by rw [getD_set_ne false (by decide)] at h; simpa using c4 h, fun h => by rw [getD_set_ne false (by decide)] at h; simpa using c5 h, fun h => by rw [getD_set_ne false (by decide)] at h; simpa using c6 h, fun h => by rw [getD_set_ne false (by decide)] at h; simpa using c7 h, fun _ => by simp, cbl⟩
    case hdone =>
      rintro listed a w ⟨s, hsz, rfl, c0, c1, c2, c3, c4, c5, c6, c7, c8, cbl⟩ hr
      have hup := fun j => all_done (md := .any) (by kernel_rfl) hsz hr j
      have e8 := c8 (hup 8 (by decide))
      clear c0 c1 c2 c3 c4 c5 c6 c7 c8 hup hr
      simp only [FrC]
      rw [e8]
      clear e8
      have hwsz := cbl.size
      have hor : ∀ {rest : List Int}, both f la lb x = true → o < 0 → run (both f la lb) o (x :: rest) = run (both f la lb) x rest := fun h1 h2 => by rw [run, if_pos h1, if_pos h2]
      have K4 : w.heap[b + 4]? = some (.cells #[.int .i64 o] 3 (0, 0)) := heap_up cbl H1.out
      have K3 : w.heap[b + 3]? = some (.cells #[v] 24 (0, 0)) := heap_up cbl H2.out
      have c4 : w.cell? ⟨b + 1 + 1 + 1 + 1, 0, none⟩ = some (.int .i64 o) := (box_cell K4).1
      have z4 : w.frozen? ⟨b + 1 + 1 + 1 + 1, 0, none⟩ = false := (box_cell K4).2
      have c3 : w.cell? ⟨b + 1 + 1 + 1, 0, none⟩ = some v := (box_cell K3).1
      have z3 : w.frozen? ⟨b + 1 + 1 + 1, 0, none⟩ = false := (box_cell K3).2
      have HKA := Lib.hid K4; have HKB := Lib.hid K3
      have HO := Lib.hid (own_up H3.out cbl)
      have HLOW := Lib.hid (show ∀ k, k < b + 7 → k ≠ b + 3 → k ≠ b + 4 → w.heap[k]? = W0.heap[k]? from fun k k1 k2 k3 => (cbl.block k (by omega)).trans (H6.out k k1 k2 k3))
      have HFR := Lib.hid (Fr.of_new cbl (fun k => k < b + 7 ∨ v.ownBlock = some k))
      have HWS : Hid (W'.heap.size ≤ w.heap.size) := Lib.hid hwsz
      have hlen : (pre ++ [x]).length = pre.length + 1 := by simp
      have hps : f (hasB la x) (hasB lb x) = true ∨ f (hasB la x) (hasB lb x) = false := by cases f (hasB la x) (hasB lb x) <;> simp
      have hgr : ∀ (v' : Value), v'.ownBlock = v.ownBlock → ∀ k, (k < b + 7 ∨ v'.ownBlock = some k) → (k < b + 7 ∨ v.ownBlock = some k) ∨ W'.heap.size ≤ k := fun v' h k hk => .inl (by rwa [h] at hk)
      clear cbl K4 K3 hor hwsz
      rcases hps with hp | hp
      · rw [hp]
        by_cases ho : o < 0
        · have HRUN : Hid (∀ rest, run (both f la lb) (-1) (pre ++ [x] ++ rest) = out ++ run (both f la lb) x rest) := Lib.hid (fun rest => by
            rw [List.append_assoc, H5.out, List.singleton_append, run, if_pos (show both f la lb x = true from hp), if_pos ho])
          clear hp
          gi_wp2_with fail
          refine ⟨_, ⟨x, v, out, box_set HKA.out _, (heap_other (by omega) _).trans HKB.out, ownsRow_setCell_below (a := ⟨b + 4, 0, none⟩) HO.out (by show b + 4 < b + 9; omega) _, by omega, HRUN.out, fun k k1 k2 k3 => (heap_other (by omega) _).trans (HLOW.out k k1 k2 k3), by have := HWS.out; simp [World.setCell]; omega, rfl⟩, HFR.out.setCell (p := ⟨b + 4, 0, none⟩) (.inl (.inl (by show b + 4 < b + 7; omega))) _, hgr v rfl⟩
        · have HRUN : Hid (∀ rest, run (both f la lb) (-1) (pre ++ [x] ++ rest) = out ++ run (both f la lb) o rest) := Lib.hid (fun rest => by
            rw [List.append_assoc, H5.out, List.singleton_append, run, if_pos (show both f la lb x = true from hp), if_neg ho])
          clear hp
          gi_wp2_with fail
          refine ⟨_, ⟨o, v, out, HKA.out, HKB.out, HO.out, by omega, HRUN.out, HLOW.out, by have := HWS.out; omega, rfl⟩, HFR.out, hgr v rfl⟩
      · rw [hp]
        by_cases ho : o < 0
        · have HRUN : Hid (∀ rest, run (both f la lb) (-1) (pre ++ [x] ++ rest) = out ++ run (both f la lb) o rest) := Lib.hid (fun rest => by
            rw [List.append_assoc, H5.out, List.singleton_append, run, if_neg (show ¬ both f la lb x = true from by rw [show both f la lb x = false from hp]; decide), if_pos ho])
          have ho' : ¬ 0 ≤ o := by omega
          clear hp
          gi_wp2_with fail
          refine ⟨_, ⟨o, v, out, HKA.out, HKB.out, HO.out, by omega, HRUN.out, HLOW.out, by have := HWS.out; omega, rfl⟩, HFR.out, hgr v rfl⟩
        · have HRUN : Hid (∀ rest, run (both f la lb) (-1) (pre ++ [x] ++ rest) = (out ++ [(o, x)]) ++ run (both f la lb) (-1) rest) := Lib.hid (fun rest => by
            rw [List.append_assoc, H5.out, List.singleton_append, run, if_neg (show ¬ both f la lb x = true from by rw [show both f la lb x = false from hp]; decide), if_neg ho, List.append_assoc]; rfl)
          have ho' : 0 ≤ o := by omega
          have hol : out.length ≤ 40000 := by
            have h1 := bnd_len (la ++ lb)
            have h2 := ends_len (la ++ lb)
            rw [hxs] at h1
            simp at h1 h2
            omega
          clear hp
          gi_wp2_with (first | (gi_at_builtin; refine wpListIn_append_at _ rfl _ _ 24 rfl (b + 9) 33 i0 (.agg #[.int .i64 0, .int .i64 0]) 2 16 Try.underlying24 hi hz0 hz1 hz2 rfl (by decide) _ _ _ rfl (HO.out.alloc _) ⟨w.heap.size, 0, none⟩ 1 1 [.int .i64 o, .int .i64 x] rfl rfl (cell_fresh2 w _ _ _) (by simp [Value.oneCell']) (by unfold maxLen; omega) (by omega) (by have := HWS.out; have := HS.out; simp; omega) ?_; intro v' w3 hown' hgrow hblk; obtain ⟨g', cap', rfl⟩ := own_form hown' (by omega); have M3 := grown_keeps HO.out hgrow (k := b + 3) (by omega) HKB.out; have M4 := grown_keeps HO.out hgrow (k := b + 4) (by omega) HKA.out; have y4 : w3.frozen? ⟨b + 1 + 1 + 1 + 1, 0, none⟩ = false := (box_cell M4).2; have y3 : w3.frozen? ⟨b + 1 + 1 + 1, 0, none⟩ = false := (box_cell M3).2; have x3 : w3.cell? ⟨b + 1 + 1 + 1, 0, none⟩ = some v := (box_cell M3).1; have x4 : w3.cell? ⟨b + 1 + 1 + 1 + 1, 0, none⟩ = some (.int .i64 o) := (box_cell M4).1; have HM3 := Lib.hid M3; have HM4 := Lib.hid M4; have HO3 := Lib.hid hown'; have HG3 := Lib.hid hgrow; have HBK := Lib.hid hblk; clear hown' hgrow hblk M3 M4) | fail)
          have HG4 := HG3.out
          have hws := HWS.out
          refine ⟨_, ⟨-1, .slice (some ⟨g', 0, none⟩) (out.length + 1) cap', out ++ [(o, x)], box_set ((heap_other (by omega) _).trans HM4.out) _, (heap_other (by omega) _).trans (box_set HM3.out _),
            ?_, by simp; omega, HRUN.out, fun k k1 k2 k3 => ?_, by have := HG4.size; simp at this; simp [World.setCell]; omega, rfl⟩, (((HFR.out.alloc _).grown HG4 (fun k h => .inl (.inr h))).setCell (p := ⟨b + 3, 0, none⟩) (.inl (.inl (by show b + 3 < b + 7; omega))) _).setCell (p := ⟨b + 4, 0, none⟩) (.inl (.inl (by show b + 4 < b + 7; omega))) _, fun k hk => ?_⟩
          · have e1 : (out ++ [(o, x)]).length = out.length + 1 := by simp
            have e2 : cells2 (out ++ [(o, x)]) = cells2 out ++ [.int .i64 o, .int .i64 x] := by simp [cells2]
            rw [e1, e2]
            exact ownsRow_setCell_below (a := ⟨b + 4, 0, none⟩) (ownsRow_setCell_below (a := ⟨b + 3, 0, none⟩) HO3.out (by show b + 3 < b + 9; omega) _) (by show b + 4 < b + 9; omega) _
          · refine (heap_other (by omega) _).trans ((heap_other (by omega) _).trans ?_)
            have hkw : k < w.heap.size := by omega
            exact ((HG4.block k (by simp; omega) (fun e => by have := (HO.out.lt k e.symm).1; omega)).trans (Below.heap_alloc w _ k hkw)).trans (HLOW.out k k1 k2 k3)
          · rcases hk with hk | hk
            · exact .inl (.inl hk)
            · rcases HBK.out k hk with h | h
              · exact .inl (.inr h)
              · exact .inr (by simp at h; omega)

  case done =>
    rintro mm W ⟨o, v, out, h1, h2, h3, h4, h5, h6, h7, rfl⟩ hf hD
    have hlow : ∀ k, k < w.heap.size → W.heap[k]? = w.heap[k]? := fun k hk => by
      have hb := HBB.out
      exact (h6 k (by omega) (by omega) (by omega)).trans (HBL.out.block k hk)
    have hall : comb f la lb = out := by
      have h := h5 []
      rw [List.append_nil] at h
      show run (both f la lb) (-1) (bnd (la ++ lb)) = out
      rw [h]; simp [run]
    have hbel : Below w.heap.size w W := ⟨hf.os.trans HBL.out.os, hf.tape.trans HBL.out.tape, hf.output.trans HBL.out.output, Nat.le_trans HBL.out.size hf.size, hlow⟩
    have hol : out.length ≤ 40000 := by
      have h1 := bnd_len (la ++ lb)
      have h2 := ends_len (la ++ lb)
      simp at h1 h2
      omega
    have H2 := Lib.hid h2; have HBEL := Lib.hid hbel; have HD := Lib.hid hD; have HALL := Lib.hid hall; have HOWN := Lib.hid h3
    have c3 : W.cell? ⟨b + 1 + 1 + 1, 0, none⟩ = some v := (box_cell h2).1
    have z3 : W.frozen? ⟨b + 1 + 1 + 1, 0, none⟩ = false := (box_cell h2).2
    have hdl : W0.heap.size < W.heap.size := (Array.getElem?_eq_some_iff.1 hD).1
    have hsz0 := HS.out
    have hown := h3.2
    clear h1 h2 h3 h5 h6 hf hD hlow hall hbel
    rcases hown with ⟨rfl, hn0⟩ | ⟨g, cap, cur, rfl, hg, hgh, hnc, hcm, hcs, hct⟩
    · gi_wp2_with fail
      have hK : (W.setCell ⟨b + 1 + 1 + 1, 0, none⟩ (.slice none 0 0)).heap[W0.heap.size]? = some (.deferred (some [])) := by
        rw [heap_other (by omega)]; exact HD.out
      have hbw : Below w.heap.size w (W.setCell ⟨b + 1 + 1 + 1, 0, none⟩ (.slice none 0 0)) := HBEL.out.setCell (p := ⟨b + 3, 0, none⟩) (by have := HBB.out; show w.heap.size ≤ b + 3; omega) _
      refine ⟨by simp, .inl ⟨_, _, rfl, run_takeDeferred hK, ?_⟩⟩
      refine ⟨_, comb_res rfl ((heap_put_other (by omega)).trans (box_set H2.out _)), _, rfl, ?_, hbw.trans (belowK_b (w := w) (Nat.le_refl _) _ W0.heap.size _ _ (by have := HBB.out; omega) hK rfl rfl)⟩
      rw [HALL.out]
      refine own_lst (own_keep HOWN.out fun k hk => ?_) (by omega)
      have := HOWN.out.lt k hk
      exact (heap_put_other (by omega)).trans (heap_other (by omega) _)
    · clear hgh hct
      gi_wp2_with fail
      have hK : (W.setCell ⟨b + 1 + 1 + 1, 0, none⟩ (.slice (some ⟨g, 0, none⟩) out.length cap)).heap[W0.heap.size]? = some (.deferred (some [])) := by
        rw [heap_other (by omega)]; exact HD.out
      have hbw : Below w.heap.size w (W.setCell ⟨b + 1 + 1 + 1, 0, none⟩ (.slice (some ⟨g, 0, none⟩) out.length cap)) := HBEL.out.setCell (p := ⟨b + 3, 0, none⟩) (by have := HBB.out; show w.heap.size ≤ b + 3; omega) _
      refine ⟨by simp, .inl ⟨_, _, rfl, run_takeDeferred hK, ?_⟩⟩
      refine ⟨_, comb_res rfl ((heap_put_other (by omega)).trans (box_set H2.out _)), _, rfl, ?_, hbw.trans (belowK_b (w := w) (Nat.le_refl _) _ W0.heap.size _ _ (by have := HBB.out; omega) hK rfl rfl)⟩
      rw [HALL.out]
      refine own_lst (own_keep HOWN.out fun k hk => ?_) (by omega)
      have := HOWN.out.lt k hk
      exact (heap_put_other (by omega)).trans (heap_other (by omega) _)
end Go.Proofs.Ytodkppeikpaclaa
