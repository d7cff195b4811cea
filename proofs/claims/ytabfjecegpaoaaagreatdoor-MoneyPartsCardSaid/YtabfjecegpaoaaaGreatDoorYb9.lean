/- Contracts that the proofs of this seat share. Each theorem names its conditions. -/

import Derived.Test.YtabfjecegpaoaaaGreatDoorYb8
import Derived.Test.YtabfjecegpaoaaaGreatDoorYb3
import Derived.Test.YtabfjecegpaoaaaGreatDoorYb7
namespace Go.Proofs.YtabfjecegpaoaaaGreatDoor
open Go.RowKit Go.Shelf
open Dgt
set_option linter.unusedVariables false
def sumL (l : List Rw) (A : Rt) : Rt := l.foldl (fun A r => addR A r.val) A
theorem sumL_take {l : List Rw} {k : Nat} (h : k < l.length) (A : Rt) : sumL (l.take (k + 1)) A = addR (sumL (l.take k) A) l[k].val := by
 unfold sumL; rw [List.take_succ_eq_append_getElem h, List.foldl_append]; rfl
theorem Rw.ok (r : Rw) : r.val.Ok := valQ_ok _ _ _
theorem Rw.rz {r : Rw} {k : Nat} (hk : 1 ≤ k) (h : r.n.size ≤ k ∧ r.d.size ≤ k) : Rz r.val k := valQ_sz hk h.1 h.2
theorem sumL_ok : ∀ (l : List Rw) (A : Rt), A.Ok → (sumL l A).Ok
 | [], A, h => h
 | r :: l, A, h => sumL_ok l _ (addR_ok h r.ok)
theorem sumL_sz : ∀ (l : List Rw) (A : Rt) (k : Nat), SzL l 1000 → Rz A k → Rz (sumL l A) (k + 1001 * l.length)
 | [], A, k, _, hA => by unfold sumL; simpa using hA
 | r :: l, A, k, h, hA => by
  have h1 := addR_sz hA (Rw.rz (by decide) (h r (by simp)));have h2 := sumL_sz l _ _ (fun x hx => h x (by simp [hx])) h1;have e : k + 1001 * (r :: l).length = k + 1000 + 1 + 1001 * l.length := by rw [List.length_cons, Nat.mul_add]; omega
  rw [e]; exact h2
theorem sumR_step {l : List Rw} {A : Rt} (hn : l.length ≤ 20) (hs : SzL l 1000) (hA : A.Ok) (hz : Rz A 1000) {k : Nat} (h : k < l.length) :
  IsR (rtV (sumL (l.take k) A)) (sumL (l.take k) A) 30000 ∧ IsR (.agg #[.bool l[k].neg, .string l[k].n, .string l[k].d]) l[k].val 30000 := by
 refine ⟨IsR.of (sumL_ok _ _ hA) ((sumL_sz (l.take k) A 1000 (fun r hr => hs r (List.mem_of_mem_take hr)) hz).mono ?_), ?_⟩
 ·have : (l.take k).length ≤ 20 := by rw [List.length_take]; omega
  omega
 ·have := hs _ (List.getElem_mem h);exact Rw.isR ⟨by omega, by omega⟩
set_option maxHeartbeats 1000000 in
set_option maxRecDepth 100000 in
theorem foldS_any (l : List Rw) (v : Value) (A : Rt) (wq : World) (hl : LstR wq v l) (hn : l.length ≤ 20) (hs : SzL l 1000) (hA : A.Ok) (hz : Rz A 1000) :
  Calls Tryz.prog 93 #[v, .agg #[.bool A.neg, .string (encS A.num), .string (encS A.den)], .func (Fn.func 65) #[] #[]] wq fun e w' => e = .returned (rtV (sumL l A)) ∧ Below wq.heap.size wq w' := by
 obtain ⟨p, ca, rfl, hla, hca⟩ := hl.open;have HC := Lib.hid hca;have HF : Hid (∀ k (h : k < l.length) w, Calls Tryz.prog 65 #[rtV (sumL (l.take k) A), .agg #[.bool l[k].neg, .string l[k].n, .string l[k].d]] w fun e w' => e = .returned (rtV (sumL (l.take (k + 1)) A)) ∧ Below w.heap.size w w') := Lib.hid fun k h w => by
  rw [sumL_take h];have hh := sumR_step hn hs hA hz h;exact RatAdd_r hh.1 hh.2 (by decide) (by decide) w
 clear hca hl hs hA hz;obtain ⟨W2, hW2, hx4, hx6, hb2⟩ := boxes2 wq (.cells #[.bool A.neg, .string (encS A.num), .string (encS A.den)] 26) (.cells #[.bool false, .string ⟨#[]⟩, .string ⟨#[]⟩] 26);go_enter Tryz.func93, Tryz.ntmps93;go_wp2_with fail;obtain ⟨b4, hb4⟩ : ∃ b, wq.heap.size = b := ⟨_, rfl⟩;obtain ⟨b6, hb6⟩ : ∃ b, b4 + 1 = b := ⟨_, rfl⟩;rw [hb4] at hx4 hx6 ⊢;rw [hb6] at hx6 ⊢;have HX4 := Lib.hid hx4; have HX6 := Lib.hid hx6; have HB2 := Lib.hid hb2;have HNE : Hid (b6 ≠ b4) := Lib.hid (by omega);have HLB : Hid (b4 < W2.heap.size ∧ b6 < W2.heap.size) := Lib.hid ⟨(Array.getElem?_eq_some_iff.1 hx4).1, (Array.getElem?_eq_some_iff.1 hx6).1⟩;clear hx4 hx6 hb2 hW2
 go_loopw [11] (fun i wr => ∃ (k : Nat) (B : Rt), k ≤ l.length ∧ i = .int .i64 (k : Int) ∧ Hid (B = sumL (l.take k) A) ∧ Hid (wr.heap[b4]? = some (.cells #[.bool B.neg, .string (encS B.num), .string (encS B.den)] 26 (0, 0))) ∧ Hid (wr.heap[b6]? = some (.cells #[.bool false, .string ⟨#[]⟩, .string ⟨#[]⟩] 26 (0, 0))) ∧ Hid (Below wq.heap.size wq wr)) (fun i _ => l.length - (intOf i).toNat)
 case atStart => exact ⟨0, A, by omega, rfl, Lib.hid rfl, HX4, HX6, HB2⟩
 case round =>
  obtain ⟨k, B, hk, rfl, HBE, HX4, HX6, HBW⟩ := hrel
  by_cases hlt : k < l.length
  ·have hlt' : (k : Int) < (l.length : Int) := by omega
   obtain ⟨g, off, rfl, hg, c1, c2, c3⟩ := HC.out k hlt;have hgr := Nat.lt_of_lt_of_le hg HBW.out.size;have d1 : wr.cell? ⟨g, off + k * 3, none⟩ = some (.bool l[k].neg) := by rw [cell_up HBW.out hg]; exact c1
   have d2 : wr.cell? ⟨g, off + k * 3 + 1, none⟩ = some (.string l[k].n) := by rw [cell_up HBW.out hg]; exact c2
   have d3 : wr.cell? ⟨g, off + k * 3 + 2, none⟩ = some (.string l[k].d) := by rw [cell_up HBW.out hg]; exact c3
   clear c1 c2 c3;obtain ⟨wo, hwo⟩ : ∃ wo, wo = wr := ⟨_, rfl⟩;subst hwo;have HFK := Lib.hid (HF.out k hlt);rw [← HBE.out] at HFK;obtain ⟨C, hC⟩ : ∃ C, sumL (l.take (k + 1)) A = C := ⟨_, rfl⟩;rw [hC] at HFK;have HCE := Lib.hid hC.symm;clear hC;unfold rtV at HFK;have hb1 := HBW.out.alloc HBW.out.size (.cells #[.bool l[k].neg, .string l[k].n, .string l[k].d] 26);have HB1 := Lib.hid hb1;have HY4 := Lib.hid (heap_up ((Below.refl _ wo).alloc (Nat.le_refl _) (.cells #[.bool l[k].neg, .string l[k].n, .string l[k].d] 26)) HX4.out);have HY6 := Lib.hid (heap_up ((Below.refl _ wo).alloc (Nat.le_refl _) (.cells #[.bool l[k].neg, .string l[k].n, .string l[k].d] 26)) HX6.out);clear hb1;obtain ⟨⟨ca0, ca1, ca2⟩, -⟩ := row_cells HY4.out;go_wp2_with fail;refine (HFK.out _).mono ?_;rintro e w1 ⟨rfl, hb⟩;have hx4 := heap_up hb HY4.out;have HX6 := uH hb HY6
   have HB3 := Lib.hid (HB1.out.trans (hb.mono HB1.out.size));have HX4 := Lib.hid hx4;clear hb d1 d2 d3 ca0 ca1 ca2 hx4;obtain ⟨⟨cz0, cz1, cz2⟩, hfz⟩ := row_cells HX4.out;have fz0 := hfz 0; have fz1 := hfz 1; have fz2 := hfz 2;have HROW := Lib.hid (row_set HX4.out (.bool C.neg) (.string (encS C.num)) (.string (encS C.den)));have HBN := Lib.hid (below_row HB3.out (b := b4) (by omega) (.bool C.neg) (.string (encS C.num)) (.string (encS C.den)));have HZ6 : Hid ((((w1.setCell ⟨b4, 0, none⟩ (.bool C.neg)).setCell ⟨b4, 1, none⟩ (.string (encS C.num))).setCell ⟨b4, 2, none⟩ (.string (encS C.den))).heap[b6]? = some (.cells #[.bool false, .string ⟨#[]⟩, .string ⟨#[]⟩] 26 (0, 0))) := Lib.hid (by simpa [World.setCell, Array.getElem?_modify, Ne.symm HNE.out] using HX6.out);clear hfz;go_wp2_with fail
   go_roundw
   case rel => exact ⟨k + 1, C, by omega, by go_num, HCE, HROW, HZ6, HBN⟩
   case measure => simp [intOf]; omega
  ·have hge : (l.length : Int) ≤ (k : Int) := by omega
   have HT : Hid (sumL l A = B) := Lib.hid (by rw [HBE.out, List.take_of_length_le (by omega)]);obtain ⟨⟨ca0, ca1, ca2⟩, -⟩ := row_cells HX4.out;obtain ⟨⟨cz0, cz1, cz2⟩, hfz⟩ := row_cells HX6.out;have fz0 := hfz 0; have fz1 := hfz 1; have fz2 := hfz 2;have HROW := Lib.hid (row_set HX6.out (.bool B.neg) (.string (encS B.num)) (.string (encS B.den)));have HBN := Lib.hid (below_row HBW.out (b := b6) (by omega) (.bool B.neg) (.string (encS B.num)) (.string (encS B.den)));clear hfz;go_wp2_with fail;refine bodyPost_ret (results_cell_row rfl _ _ b6 26 _ (0, 0) _ rfl HROW.out Tryz.underlying26 rfl (by kernel_rfl)) rfl ?_;exact ⟨by rw [HT.out]; rfl, HBN.out⟩
set_option maxHeartbeats 1000000 in
theorem Sum_any (l : List Rw) (v : Value) (wq : World) (hl : LstR wq v l) (hn : l.length ≤ 20) (hs : SzL l 1000) :
  Calls Tryz.prog 54 #[v] wq fun e w' => e = .returned (rtV (sumL l zeroR)) ∧ Below wq.heap.size wq w' := by
 have HF := Lib.hid (fun w (h : LstR w v l) => foldS_any l v zeroR w h hn hs zeroR_ok (zeroR_sz.mono (by decide)));have HO := Lib.hid (fun w => RatOf_any 0 w (by decide) (by decide));rw [ofR_zero] at HO;obtain ⟨Z, hZ⟩ : ∃ Z, zeroR = Z := ⟨_, rfl⟩;rw [hZ] at HF HO ⊢;obtain ⟨C, hC⟩ : ∃ C, sumL l Z = C := ⟨_, rfl⟩;rw [hC] at HF ⊢;clear hZ hC;have HFE : Hid (∀ w, LstR w v l → Calls Tryz.prog 93 #[v, .agg #[.bool Z.neg, .string (encS Z.num), .string (encS Z.den)], .func (Fn.func 65) #[] #[]] w fun e w' => e = .returned (.agg #[.bool C.neg, .string (encS C.num), .string (encS C.den)]) ∧ Below w.heap.size w w') := HF;have HX0 := Lib.hid (zeroR_row wq);have HB0 := Lib.hid (below_zrow wq rB);have HL := Lib.hid (hl.up (below_zrow wq rB));clear hl hn hs;go_enter Tryz.func54, Tryz.ntmps54;go_wp2_with fail;refine (HO.out _).mono ?_;rintro e w1 ⟨rfl, hb⟩;have HX1 := uH hb HX0
 have HB1 := Lib.hid (HB0.out.trans (hb.mono HB0.out.size));have HF1 := Lib.hid (HFE.out w1 (HL.out.up hb));unfold rtV;clear hb;go_wp2_with fail;refine (HF1.out).mono ?_;rintro e w2 ⟨rfl, hb⟩;have HX2 := uH hb HX1;have HB2 := Lib.hid (HB1.out.trans (hb.mono HB1.out.size));clear hb;obtain ⟨⟨cz0, cz1, cz2⟩, hfz⟩ := row_cells HX2.out;have fz0 := hfz 0; have fz1 := hfz 1; have fz2 := hfz 2;have HROW := Lib.hid (row_set HX2.out (.bool C.neg) (.string (encS C.num)) (.string (encS C.den)));have HBN := Lib.hid (below_row HB2.out (b := wq.heap.size) (Nat.le_refl _) (.bool C.neg) (.string (encS C.num)) (.string (encS C.den)));clear hfz;go_wp2_with fail;refine bodyPost_ret (results_cell_row rfl _ _ wq.heap.size 26 _ (0, 0) _ rfl HROW.out Tryz.underlying26 rfl (by kernel_rfl)) rfl ?_;exact ⟨rfl, HBN.out⟩
end Go.Proofs.YtabfjecegpaoaaaGreatDoor
namespace Go.Proofs.YtabfjecegpaoaaaGreatDoor
open Go Go.RowKit Go.Shelf
open Dgt
set_option linter.unusedVariables false
theorem c3 {W : World} {b : Nat} {x0 x1 x2 : Value} {t : TypeId} (h : Hid (W.heap[b]? = some (.cells #[x0, x1, x2] t (0, 0)))) : W.cell? ⟨b, 0, none⟩ = some x0 ∧ W.cell? ⟨b, 1, none⟩ = some x1 ∧ W.cell? ⟨b, 2, none⟩ = some x2 :=
 ⟨by rw [Lib.cell_of_heap h.out]; rfl, by rw [Lib.cell_of_heap h.out]; rfl, by rw [Lib.cell_of_heap h.out]; rfl⟩
theorem boxn {A W : World} {n : Nat} (hb : Hid (Below A.heap.size A W)) (hn : Hid (n = A.heap.size)) (o : Obj) :
  ∃ W' b, W.alloc o = W' ∧ W.heap.size = b ∧ Hid (W'.heap[b]? = some o) ∧ Hid (Below A.heap.size A W') ∧ Hid (n ≤ b) ∧ ∀ c p, Hid (W.heap[c]? = some p) → Hid (W'.heap[c]? = some p) ∧ Hid (c < b) :=
 ⟨_, _, rfl, rfl, Lib.hid (heap_alloc_new W o), Lib.hid (hb.out.alloc hb.out.size o), Lib.hid (by rw [hn.out]; exact hb.out.size), fun c p h => ⟨Lib.hid (heap_up ((Below.refl _ W).alloc (Nat.le_refl _) o) h.out), Lib.hid (Array.getElem?_eq_some_iff.1 h.out).1⟩⟩
theorem put3 {A W : World} {n b : Nat} {x0 x1 x2 : Value} {t : TypeId} (h : Hid (W.heap[b]? = some (.cells #[x0, x1, x2] t (0, 0)))) (hb : Hid (Below A.heap.size A W)) (hn : Hid (n = A.heap.size)) (hg : Hid (n ≤ b)) (u0 u1 u2 : Value) :
  ∃ W', ((W.setCell ⟨b, 0, none⟩ u0).setCell ⟨b, 1, none⟩ u1).setCell ⟨b, 2, none⟩ u2 = W' ∧ Hid (W'.heap[b]? = some (.cells #[u0, u1, u2] t (0, 0))) ∧ Hid (Below A.heap.size A W') ∧ (∀ c o, b ≠ c → Hid (W.heap[c]? = some o) → Hid (W'.heap[c]? = some o)) ∧
   W.frozen? ⟨b, 0, none⟩ = false ∧ W.frozen? ⟨b, 1, none⟩ = false ∧ W.frozen? ⟨b, 2, none⟩ = false ∧ W.cell? ⟨b, 0, none⟩ = some x0 ∧ W.cell? ⟨b, 1, none⟩ = some x1 ∧ W.cell? ⟨b, 2, none⟩ = some x2 := by
 have hz : A.heap.size ≤ b := by rw [← hn.out]; exact hg.out
 refine ⟨_, rfl, Lib.hid ?_, Lib.hid (((hb.out.setCell (p := ⟨b, 0, none⟩) hz u0).setCell (p := ⟨b, 1, none⟩) hz u1).setCell (p := ⟨b, 2, none⟩) hz u2), fun c o hne ho => Lib.hid (row_else (row_else (row_else ho.out hne _) hne _) hne _), frz0 h.out 0, frz0 h.out 1, frz0 h.out 2, c3 h⟩;simp [World.setCell, Array.getElem?_modify, h.out]
end Go.Proofs.YtabfjecegpaoaaaGreatDoor
namespace Go.Proofs.YtabfjecegpaoaaaGreatDoor
open Go.RowKit Go.Shelf
open Dgt
set_option linter.unusedVariables false
set_option maxHeartbeats 2000000 in
set_option maxRecDepth 100000 in
theorem bad_any (na : Bool) (sa da : ByteArray) (za : sa.size ≤ 100000) (zda : da.size ≤ 100000) (wq : World) :
  Calls Tryz.prog 57 #[.agg #[.bool na, .string sa, .string da]] wq fun e w' => e = .returned (.bool (!(rightR na sa da && !na))) ∧ Below wq.heap.size wq w' := by
 have c1 := fun w => RatRight_any na sa da w (by omega) (by omega)
 obtain ⟨R, h0⟩ : ∃ R, rightR na sa da = R := ⟨_, rfl⟩; rw [h0] at c1 ⊢;have C1 : Hid (∀ w, Calls Tryz.prog 58 #[.agg #[.bool na, .string sa, .string da]] w fun e w' => e = .returned (.bool R) ∧ Below w.heap.size w w') := Lib.hid fun w => by
  have h := c1 w;exact h
 clear c1 h0 za zda;have HB := Lib.hid (Below.refl wq.heap.size wq);obtain ⟨n0, hn0⟩ : ∃ n, n = wq.heap.size := ⟨_, rfl⟩; rw [← hn0]; have HN0 := Lib.hid hn0; clear hn0;go_enter Tryz.func57, Tryz.ntmps57;obtain ⟨W1, bk1, hW1, hbk1, HX1_1, HB, HG1_1, hup⟩ := boxn HB HN0 (.cells #[.bool na, .string sa, .string da] 26);clear hup;obtain ⟨k2a, k2b, k2c⟩ := c3 HX1_1;go_wp2_with fail;clear hW1 hbk1 k2a k2b k2c;refine (C1.out _).mono ?_;rintro e w2 ⟨rfl, hb⟩;have HX1_1 := uH hb HX1_1;have HB := mH HB hb;clear hb;cases R
 case false =>
  go_wp2_with fail;go_ret;exact ⟨rfl, by rw [HN0.out]; exact HB.out⟩
 case true =>
  have k3 : w2.cell? ⟨bk1, 0, none⟩ = some (.bool na) := by rw [Lib.cell_of_heap HX1_1.out]; rfl
  go_wp2_with fail;clear k3;go_ret;exact ⟨by simp, by rw [HN0.out]; exact HB.out⟩
def Rw.bad (r : Rw) : Bool := !(r.right && !r.neg)
set_option maxHeartbeats 4000000 in
set_option maxRecDepth 100000 in
theorem index_any (l : List Rw) (v : Value) (wq : World) (hl : LstR wq v l) (hs : SzL l 1000) :
  Calls Tryz.prog 94 #[v, .func (Fn.func 57) #[] #[]] wq fun e w' => (∃ z : Int, e = .returned (.int .i64 z) ∧ (0 ≤ z ↔ l.any Rw.bad = true)) ∧ Below wq.heap.size wq w' := by
 obtain ⟨p, ca, rfl, hla, hca⟩ := hl.open;have HC := Lib.hid hca;have HF : Hid (∀ k (h : k < l.length) w, Calls Tryz.prog 57 #[.agg #[.bool l[k].neg, .string l[k].n, .string l[k].d]] w fun e w' => e = .returned (.bool l[k].bad) ∧ Below w.heap.size w w') := Lib.hid fun k h w => by
  have := hs _ (List.getElem_mem h);exact bad_any l[k].neg l[k].n l[k].d (by omega) (by omega) w
 obtain ⟨AB, hAB⟩ : ∃ b, l.any Rw.bad = b := ⟨_, rfl⟩;rw [hAB]; have HAB := Lib.hid hAB;have HLA := Lib.hid hla;clear hAB hca hl hs hla;go_enter Tryz.func94, Tryz.ntmps94;go_wp2_with fail
 go_loopw [8] (fun i wr => ∃ k : Nat, k ≤ l.length ∧ i = .int .i64 (k : Int) ∧ Hid ((l.take k).any Rw.bad = false) ∧ Hid (Below wq.heap.size wq wr)) (fun i _ => l.length - (intOf i).toNat)
 case atStart => exact ⟨0, by omega, rfl, Lib.hid rfl, Lib.hid rB⟩
 case round =>
  obtain ⟨k, hk, rfl, HA, HB⟩ := hrel
  by_cases hlt : k < l.length
  ·have hlt' : (k : Int) < (l.length : Int) := by omega
   obtain ⟨g, off, rfl, hg, c1, c2, c3⟩ := HC.out k hlt;have d1 : wr.cell? ⟨g, off + k * 3, none⟩ = some (.bool l[k].neg) := by rw [cell_up HB.out hg]; exact c1
   have d2 : wr.cell? ⟨g, off + k * 3 + 1, none⟩ = some (.string l[k].n) := by rw [cell_up HB.out hg]; exact c2
   have d3 : wr.cell? ⟨g, off + k * 3 + 2, none⟩ = some (.string l[k].d) := by rw [cell_up HB.out hg]; exact c3
   have hwi : IntKind.i64.wrap ((k : Int) + 1) = ((k + 1 : Nat) : Int) := by rw [IntWalk.i64_in _ (by have := HLA.out; omega)]; omega
   have HK := Lib.hid (HF.out k hlt);have HT : Hid ((l.take (k + 1)).any Rw.bad = l[k].bad) := Lib.hid (by rw [List.take_succ_eq_append_getElem hlt, List.any_append, HA.out]; simp);have HM : Hid (l[k].bad = true → AB = true) := Lib.hid fun h => HAB.out ▸ List.any_eq_true.2 ⟨_, List.getElem_mem hlt, h⟩
   obtain ⟨r, hr⟩ : ∃ r, l[k] = r := ⟨_, rfl⟩;rw [hr] at d1 d2 d3 HK HT HM;obtain ⟨b, hb⟩ : ∃ b, r.bad = b := ⟨_, rfl⟩;rw [hb] at HK HT HM;have HLT := Lib.hid hlt;clear c1 c2 c3 hr hb hlt hk;go_wp2_with fail;refine (HK.out _).mono ?_;rintro e w1 ⟨rfl, hb⟩;have HB := mH HB hb;clear hb d1 d2 d3;cases b
   ·go_wp2_with fail
    go_roundw
    case rel => exact ⟨k + 1, by have := HLT.out; omega, by first | rfl | go_num, HT, HB⟩
    case measure => have := HLT.out; simp [intOf]; omega
   ·go_wp2_with fail;go_ret;exact ⟨⟨_, rfl, fun _ => HM.out trivial, fun _ => by omega⟩, HB.out⟩
  ·have hge : ¬ (k : Int) < (l.length : Int) := by omega
   have HA2 : Hid (AB = false) := Lib.hid (by have := HA.out; rw [List.take_of_length_le (by omega)] at this; rw [← HAB.out]; exact this);clear hlt hk;go_wp2_with fail;go_ret;exact ⟨⟨_, rfl, fun h => absurd h (by decide), fun h => by rw [HA2.out] at h; cases h⟩, HB.out⟩
theorem containsW_any (l : List Rw) (v : Value) (wq : World) (hl : LstR wq v l) (hs : SzL l 1000) :
  Calls Tryz.prog 56 #[v, .func (Fn.func 57) #[] #[]] wq fun e w' => e = .returned (.bool (l.any Rw.bad)) ∧ Below wq.heap.size wq w' := by
 have HI := Lib.hid (index_any l v wq hl hs);obtain ⟨p, ca, rfl, -, -⟩ := hl.open;obtain ⟨b, hb⟩ : ∃ b, l.any Rw.bad = b := ⟨_, rfl⟩;rw [hb] at HI ⊢;clear hl hs hb;go_enter Tryz.func56, Tryz.ntmps56;go_wp2_with fail;refine (HI.out).mono ?_;rintro e w1 ⟨⟨z, rfl, hz⟩, hb⟩;have HZ : Hid (decide (0 ≤ z) = b) := Lib.hid (by cases b; simpa using hz; simpa using hz);have HB := Lib.hid hb;clear hz hb;have hzz := HZ.out;go_wp2_with fail;go_ret;exact ⟨rfl, HB.out⟩
end Go.Proofs.YtabfjecegpaoaaaGreatDoor
