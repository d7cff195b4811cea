/- Sums of lists: fold, Sum, the reference's Sum. Each theorem names its conditions. -/
import Derived.Test.YtancflpioigjbaaGreatDoorRdB
namespace Go.Proofs.YtancflpioigjbaaGreatDoor
open Go.RowKit Go.Shelf
open Dgt
set_option linter.unusedVariables false

/-- a number and the sum of a list -/
def sumL (l : List Rw) (A : Rt) : Rt := l.foldl (fun A r => addR A r.val) A
theorem sumL_take {l : List Rw} {k : Nat} (h : k < l.length) (A : Rt) : sumL (l.take (k + 1)) A = addR (sumL (l.take k) A) l[k].val := by
  unfold sumL; rw [List.take_succ_eq_append_getElem h, List.foldl_append]; rfl
theorem Rw.ok (r : Rw) : r.val.Ok := valQ_ok _ _ _
theorem Rw.rz {r : Rw} {k : Nat} (hk : 1 ≤ k) (h : r.n.size ≤ k ∧ r.d.size ≤ k) : Rz r.val k := valQ_sz hk h.1 h.2
theorem sumL_ok : ∀ (l : List Rw) (A : Rt), A.Ok → (sumL l A).Ok
  | [], A, h => h
  | r :: l, A, h => sumL_ok l _ (addR_ok h r.ok)
theorem sumL_sz : ∀ (l : List Rw) (A : Rt) (k : Nat), SzL l 1000 → Rz A k → Rz (sumL l A) (k + 1001 * l.length)
  | [], A, k, _, hA => by unfold sumL; simpa using hA
  | r :: l, A, k, h, hA => by
    have h1 := addR_sz hA (Rw.rz (by decide) (h r (by simp)))
    have h2 := sumL_sz l _ _ (fun x hx => h x (by simp [hx])) h1
    have e : k + 1001 * (r :: l).length = k + 1000 + 1 + 1001 * l.length := by rw [List.length_cons, Nat.mul_add]; omega
    rw [e]; exact h2
theorem sumR_step {l : List Rw} {A : Rt} (hn : l.length ≤ 20) (hs : SzL l 1000) (hA : A.Ok) (hz : Rz A 1000) {k : Nat} (h : k < l.length) :
    IsR (rtV (sumL (l.take k) A)) (sumL (l.take k) A) 30000 ∧ IsR (.agg #[.bool l[k].neg, .string l[k].n, .string l[k].d]) l[k].val 30000 := by
  refine ⟨IsR.of (sumL_ok _ _ hA) ((sumL_sz (l.take k) A 1000 (fun r hr => hs r (List.mem_of_mem_take hr)) hz).mono ?_), ?_⟩
  · have : (l.take k).length ≤ 20 := by rw [List.length_take]; omega
    omega
  · have := hs _ (List.getElem_mem h)
    exact Rw.isR ⟨by omega, by omega⟩
set_option maxHeartbeats 1000000 in
set_option maxRecDepth 100000 in
theorem foldS_any (l : List Rw) (v : Value) (A : Rt) (wq : World) (hl : LstR wq v l) (hn : l.length ≤ 20) (hs : SzL l 1000) (hA : A.Ok) (hz : Rz A 1000) :
    Calls Tryz.prog 71 #[v, .agg #[.bool A.neg, .string (encS A.num), .string (encS A.den)], .func (Fn.func 27) #[] #[]] wq fun e w' => e = .returned (rtV (sumL l A)) ∧ Below wq.heap.size wq w' := by
  obtain ⟨p, ca, rfl, hla, hca⟩ := hl.open
  have HC := Lib.hid hca
  have HF : Hid (∀ k (h : k < l.length) w, Calls Tryz.prog 27 #[rtV (sumL (l.take k) A), .agg #[.bool l[k].neg, .string l[k].n, .string l[k].d]] w fun e w' => e = .returned (rtV (sumL (l.take (k + 1)) A)) ∧ Below w.heap.size w w') := Lib.hid fun k h w => by
    rw [sumL_take h]
    have hh := sumR_step hn hs hA hz h
    exact RatAdd_r hh.1 hh.2 (by decide) (by decide) w
  clear hca hl hs hA hz
  obtain ⟨W2, hW2, hx4, hx6, hb2⟩ := boxes2 wq (.cells #[.bool A.neg, .string (encS A.num), .string (encS A.den)] 26) (.cells #[.bool false, .string ⟨#[]⟩, .string ⟨#[]⟩] 26)
  go_enter Tryz.func71, Tryz.ntmps71
  go_wp2_with fail
  obtain ⟨b4, hb4⟩ : ∃ b, wq.heap.size = b := ⟨_, rfl⟩
  obtain ⟨b6, hb6⟩ : ∃ b, b4 + 1 = b := ⟨_, rfl⟩
  rw [hb4] at hx4 hx6 ⊢
  rw [hb6] at hx6 ⊢
  have HX4 := Lib.hid hx4; have HX6 := Lib.hid hx6; have HB2 := Lib.hid hb2
  have HNE : Hid (b6 ≠ b4) := Lib.hid (by omega)
  have HLB : Hid (b4 < W2.heap.size ∧ b6 < W2.heap.size) := Lib.hid ⟨(Array.getElem?_eq_some_iff.1 hx4).1, (Array.getElem?_eq_some_iff.1 hx6).1⟩
  clear hx4 hx6 hb2 hW2
  go_loopw [11] (fun i wr => ∃ (k : Nat) (B : Rt), k ≤ l.length ∧ i = .int .i64 (k : Int) ∧ Hid (B = sumL (l.take k) A) ∧ Hid (wr.heap[b4]? = some (.cells #[.bool B.neg, .string (encS B.num), .string (encS B.den)] 26 (0, 0))) ∧ Hid (wr.heap[b6]? = some (.cells #[.bool false, .string ⟨#[]⟩, .string ⟨#[]⟩] 26 (0, 0))) ∧ Hid (Below wq.heap.size wq wr)) (fun i _ => l.length - (intOf i).toNat)
  case atStart => exact ⟨0, A, by omega, rfl, Lib.hid rfl, HX4, HX6, HB2⟩
  case round =>
    obtain ⟨k, B, hk, rfl, HBE, HX4, HX6, HBW⟩ := hrel
    by_cases hlt : k < l.length
    · have hlt' : (k : Int) < (l.length : Int) := by omega
      obtain ⟨g, off, rfl, hg, c1, c2, c3⟩ := HC.out k hlt
      have hgr := Nat.lt_of_lt_of_le hg HBW.out.size
      have d1 : wr.cell? ⟨g, off + k * 3, none⟩ = some (.bool l[k].neg) := by rw [cell_up HBW.out hg]; exact c1
      have d2 : wr.cell? ⟨g, off + k * 3 + 1, none⟩ = some (.string l[k].n) := by rw [cell_up HBW.out hg]; exact c2
      have d3 : wr.cell? ⟨g, off + k * 3 + 2, none⟩ = some (.string l[k].d) := by rw [cell_up HBW.out hg]; exact c3
      clear c1 c2 c3
      obtain ⟨wo, hwo⟩ : ∃ wo, wo = wr := ⟨_, rfl⟩
      subst hwo
      have HFK := Lib.hid (HF.out k hlt)
      rw [← HBE.out] at HFK
      obtain ⟨C, hC⟩ : ∃ C, sumL (l.take (k + 1)) A = C := ⟨_, rfl⟩
      rw [hC] at HFK
      have HCE := Lib.hid hC.symm
      clear hC
      unfold rtV at HFK
      have hb1 := HBW.out.alloc HBW.out.size (.cells #[.bool l[k].neg, .string l[k].n, .string l[k].d] 26)
      have HB1 := Lib.hid hb1
      have HY4 := Lib.hid (heap_up ((Below.refl _ wo).alloc (Nat.le_refl _) (.cells #[.bool l[k].neg, .string l[k].n, .string l[k].d] 26)) HX4.out)
      have HY6 := Lib.hid (heap_up ((Below.refl _ wo).alloc (Nat.le_refl _) (.cells #[.bool l[k].neg, .string l[k].n, .string l[k].d] 26)) HX6.out)
      clear hb1
      obtain ⟨⟨ca0, ca1, ca2⟩, -⟩ := row_cells HY4.out
      go_wp2_with fail
      refine (HFK.out _).mono ?_
      rintro e w1 ⟨rfl, hb⟩
      have hx4 := heap_up hb HY4.out
      have HX6 := Lib.hid (heap_up hb HY6.out)
      have HB3 := Lib.hid (HB1.out.trans (hb.mono HB1.out.size))
      have HX4 := Lib.hid hx4
      clear hb d1 d2 d3 ca0 ca1 ca2 hx4
      obtain ⟨⟨cz0, cz1, cz2⟩, hfz⟩ := row_cells HX4.out
      have fz0 := hfz 0; have fz1 := hfz 1; have fz2 := hfz 2
      have HROW := Lib.hid (row_set HX4.out (.bool C.neg) (.string (encS C.num)) (.string (encS C.den)))
      have HBN := Lib.hid (below_row HB3.out (b := b4) (by omega) (.bool C.neg) (.string (encS C.num)) (.string (encS C.den)))
      have HZ6 : Hid ((((w1.setCell ⟨b4, 0, none⟩ (.bool C.neg)).setCell ⟨b4, 1, none⟩ (.string (encS C.num))).setCell ⟨b4, 2, none⟩ (.string (encS C.den))).heap[b6]? = some (.cells #[.bool false, .string ⟨#[]⟩, .string ⟨#[]⟩] 26 (0, 0))) := Lib.hid (by simpa [World.setCell, Array.getElem?_modify, Ne.symm HNE.out] using HX6.out)
      clear hfz
      go_wp2_with fail
      go_roundw
      case rel => exact ⟨k + 1, C, by omega, by go_num, HCE, HROW, HZ6, HBN⟩
      case measure => simp [intOf]; omega
    · have hge : (l.length : Int) ≤ (k : Int) := by omega
      have HT : Hid (sumL l A = B) := Lib.hid (by rw [HBE.out, List.take_of_length_le (by omega)])
      obtain ⟨⟨ca0, ca1, ca2⟩, -⟩ := row_cells HX4.out
      obtain ⟨⟨cz0, cz1, cz2⟩, hfz⟩ := row_cells HX6.out
      have fz0 := hfz 0; have fz1 := hfz 1; have fz2 := hfz 2
      have HROW := Lib.hid (row_set HX6.out (.bool B.neg) (.string (encS B.num)) (.string (encS B.den)))
      have HBN := Lib.hid (below_row HBW.out (b := b6) (by omega) (.bool B.neg) (.string (encS B.num)) (.string (encS B.den)))
      clear hfz
      go_wp2_with fail
      refine bodyPost_ret (results_cell_row rfl _ _ b6 26 _ (0, 0) _ rfl HROW.out Tryz.underlying26 rfl (by kernel_rfl)) rfl ?_
      exact ⟨by rw [HT.out]; rfl, HBN.out⟩
set_option maxHeartbeats 1000000 in
theorem Sum_any (l : List Rw) (v : Value) (wq : World) (hl : LstR wq v l) (hn : l.length ≤ 20) (hs : SzL l 1000) :
    Calls Tryz.prog 28 #[v] wq fun e w' => e = .returned (rtV (sumL l zeroR)) ∧ Below wq.heap.size wq w' := by
  have HF := Lib.hid (fun w (h : LstR w v l) => foldS_any l v zeroR w h hn hs zeroR_ok (zeroR_sz.mono (by decide)))
  have HO := Lib.hid (fun w => RatOf_any 0 w (by decide) (by decide))
  rw [ofR_zero] at HO
  obtain ⟨Z, hZ⟩ : ∃ Z, zeroR = Z := ⟨_, rfl⟩
  rw [hZ] at HF HO ⊢
  obtain ⟨C, hC⟩ : ∃ C, sumL l Z = C := ⟨_, rfl⟩
  rw [hC] at HF ⊢
  clear hZ hC
  have HFE : Hid (∀ w, LstR w v l → Calls Tryz.prog 71 #[v, .agg #[.bool Z.neg, .string (encS Z.num), .string (encS Z.den)], .func (Fn.func 27) #[] #[]] w fun e w' => e = .returned (.agg #[.bool C.neg, .string (encS C.num), .string (encS C.den)]) ∧ Below w.heap.size w w') := HF
  have HX0 := Lib.hid (zeroR_row wq)
  have HB0 := Lib.hid (below_zrow wq (Below.refl _ _))
  have HL := Lib.hid (hl.up (below_zrow wq (Below.refl _ _)))
  clear hl hn hs
  go_enter Tryz.func28, Tryz.ntmps28
  go_wp2_with fail
  refine (HO.out _).mono ?_
  rintro e w1 ⟨rfl, hb⟩
  have HX1 := Lib.hid (heap_up hb HX0.out)
  have HB1 := Lib.hid (HB0.out.trans (hb.mono HB0.out.size))
  have HF1 := Lib.hid (HFE.out w1 (HL.out.up hb))
  unfold rtV
  clear hb
  go_wp2_with fail
  refine (HF1.out).mono ?_
  rintro e w2 ⟨rfl, hb⟩
  have HX2 := Lib.hid (heap_up hb HX1.out)
  have HB2 := Lib.hid (HB1.out.trans (hb.mono HB1.out.size))
  clear hb
  obtain ⟨⟨cz0, cz1, cz2⟩, hfz⟩ := row_cells HX2.out
  have fz0 := hfz 0; have fz1 := hfz 1; have fz2 := hfz 2
  have HROW := Lib.hid (row_set HX2.out (.bool C.neg) (.string (encS C.num)) (.string (encS C.den)))
  have HBN := Lib.hid (below_row HB2.out (b := wq.heap.size) (Nat.le_refl _) (.bool C.neg) (.string (encS C.num)) (.string (encS C.den)))
  clear hfz
  go_wp2_with fail
  refine bodyPost_ret (results_cell_row rfl _ _ wq.heap.size 26 _ (0, 0) _ rfl HROW.out Tryz.underlying26 rfl (by kernel_rfl)) rfl ?_
  exact ⟨rfl, HBN.out⟩
def ERS (b3 g off n ca k : Nat) (B C : Rt) (en : Bool) (es ed : ByteArray) : Nat → Value
  | 0 => .agg #[.bool B.neg, .string (encS B.num), .string (encS B.den)]
  | 1 => .slice (some ⟨g, off, none⟩) n ca
  | 2 => .int .i64 (k : Int)
  | 3 => .pointer (some ⟨g, off + k * 3, none⟩)
  | 4 => .agg #[.bool en, .string es, .string ed]
  | 5 => .agg #[.bool C.neg, .string (encS C.num), .string (encS C.den)]
  | _ => undef
def SRS (b3 g off n ca k : Nat) (B C : Rt) (en : Bool) (es ed : ByteArray) (ix : Nat) (v : Value) (w : World) : Prop :=
  match ix with
  | ix => v = ERS b3 g off n ca k B C en es ed ix
theorem SRS_up (b3 g off n ca k : Nat) (B C : Rt) (en : Bool) (es ed : ByteArray) (ix : Nat) (v : Value) (w w' : World) (hb : Below w.heap.size w w') (h : SRS b3 g off n ca k B C en es ed ix v w) : SRS b3 g off n ca k B C en es ed ix v w' := by
  exact h
set_option maxHeartbeats 1000000 in
set_option maxRecDepth 100000 in
theorem rSum_any (l : List Rw) (v : Value) (wq : World) (hl : LstR wq v l) (hn : l.length ≤ 20) (hs : SzL l 1000) :
    Calls Tryz.prog 43 #[v] wq fun e w' => e = .returned (rtV (sumL l zeroR)) ∧ Below wq.heap.size wq w' := by
  obtain ⟨p, ca, rfl, hla, hca⟩ := hl.open
  have HC := Lib.hid hca
  have HO := Lib.hid (fun w => rRatOf_any 0 w (by decide) (by decide))
  rw [ofR_zero] at HO
  have HF : Hid (∀ k (h : k < l.length) w, Calls Tryz.prog 34 #[rtV (sumL (l.take k) zeroR), .agg #[.bool l[k].neg, .string l[k].n, .string l[k].d]] w fun e w' => e = .returned (rtV (sumL (l.take (k + 1)) zeroR)) ∧ Below w.heap.size w w') := Lib.hid fun k h w => by
    rw [sumL_take h]
    have hh := sumR_step hn hs zeroR_ok (zeroR_sz.mono (by decide)) h
    exact rRatAdd_r hh.1 hh.2 (by decide) (by decide) w
  obtain ⟨A, hA⟩ : ∃ A, zeroR = A := ⟨_, rfl⟩
  rw [hA] at HO HF ⊢
  clear hca hl hs hA
  have HX0 := Lib.hid (zeroR_row wq)
  have HB0 := Lib.hid (below_zrow wq (Below.refl _ _))
  go_enter Tryz.func43, Tryz.ntmps43
  go_wp2_with fail
  refine (HO.out _).mono ?_
  rintro e w1 ⟨rfl, hb⟩
  unfold rtV
  have HX1 := Lib.hid (heap_up hb HX0.out)
  have HB1 := Lib.hid (HB0.out.trans (hb.mono HB0.out.size))
  clear hb
  obtain ⟨b2, hb2⟩ : ∃ b, wq.heap.size = b := ⟨_, rfl⟩
  rw [hb2] at HX1 ⊢
  have HX2 := Lib.hid (heap_up ((Below.refl _ w1).alloc (Nat.le_refl _) (.cells #[.bool A.neg, .string (encS A.num), .string (encS A.den)] 26)) HX1.out)
  have HX3 := Lib.hid (heap_alloc_new w1 (.cells #[.bool A.neg, .string (encS A.num), .string (encS A.den)] 26))
  have HB2 := Lib.hid (HB1.out.alloc HB1.out.size (.cells #[.bool A.neg, .string (encS A.num), .string (encS A.den)] 26))
  go_wp2_with fail
  obtain ⟨W2, hW2⟩ : ∃ W2, w1.alloc (.cells #[.bool A.neg, .string (encS A.num), .string (encS A.den)] 26) = W2 := ⟨_, rfl⟩
  obtain ⟨b3, hb3⟩ : ∃ b, w1.heap.size = b := ⟨_, rfl⟩
  rw [hW2] at HX2 HX3 HB2 ⊢
  rw [hb3] at HX3 ⊢
  have HNE : Hid (b2 ≠ b3) := Lib.hid (by have := (Array.getElem?_eq_some_iff.1 HX1.out).1; omega)
  have HLE : Hid (wq.heap.size ≤ b3) := Lib.hid (by have := HB1.out.size; omega)
  clear hW2
  go_loopw [4] (fun i wr => ∃ (k : Nat) (B : Rt), k ≤ l.length ∧ i = .int .i64 (k : Int) ∧ Hid (B = sumL (l.take k) A) ∧ Hid (wr.heap[b3]? = some (.cells #[.bool B.neg, .string (encS B.num), .string (encS B.den)] 26 (0, 0))) ∧ Hid (wr.heap[b2]? = some (.cells #[.bool false, .string ⟨#[]⟩, .string ⟨#[]⟩] 26 (0, 0))) ∧ Hid (Below wq.heap.size wq wr)) (fun i _ => l.length - (intOf i).toNat)
  case atStart => exact ⟨0, A, by omega, rfl, Lib.hid rfl, HX3, HX2, HB2⟩
  case round =>
    obtain ⟨k, B, hk, rfl, HBE, HX3, HX2, HBW⟩ := hrel
    by_cases hlt : k < l.length
    · have hlt' : (k : Int) < (l.length : Int) := by omega
      obtain ⟨g, off, rfl, hg, c1, c2, c3⟩ := HC.out k hlt
      have hgr := Nat.lt_of_lt_of_le hg HBW.out.size
      have d1 : wr.cell? ⟨g, off + k * 3, none⟩ = some (.bool l[k].neg) := by rw [cell_up HBW.out hg]; exact c1
      have d2 : wr.cell? ⟨g, off + k * 3 + 1, none⟩ = some (.string l[k].n) := by rw [cell_up HBW.out hg]; exact c2
      have d3 : wr.cell? ⟨g, off + k * 3 + 2, none⟩ = some (.string l[k].d) := by rw [cell_up HBW.out hg]; exact c3
      clear c1 c2 c3
      obtain ⟨wo, hwo⟩ : ∃ wo, wo = wr := ⟨_, rfl⟩
      subst hwo
      have HFK := Lib.hid (HF.out k hlt)
      rw [← HBE.out] at HFK
      obtain ⟨C, hC⟩ : ∃ C, sumL (l.take (k + 1)) A = C := ⟨_, rfl⟩
      rw [hC] at HFK
      have HCE := Lib.hid hC.symm
      clear hC
      unfold rtV at HFK
      obtain ⟨en, hen⟩ : ∃ x, l[k].neg = x := ⟨_, rfl⟩
      obtain ⟨es, hes⟩ : ∃ x, l[k].n = x := ⟨_, rfl⟩
      obtain ⟨ed, hed⟩ : ∃ x, l[k].d = x := ⟨_, rfl⟩
      rw [hen, hes, hed] at HFK; rw [hen] at d1; rw [hes] at d2; rw [hed] at d3
      clear hen hes hed
      obtain ⟨n, hnl⟩ : ∃ n, l.length = n := ⟨_, rfl⟩
      rw [hnl] at hlt hlt' hn hk ⊢
      have HNL := Lib.hid hnl
      clear hnl
      go_wp2_with fail
      refine wp_region_tail (w := wo) (by kernel_rfl) (SRS b3 g off n ca k B C en es ed) 6 (fun t => (decide (12 ≤ t) && decide (t < 18))) (by decide) (by kernel_rfl) (by kernel_rfl) (by kernel_rfl) (by kernel_rfl) (by kernel_rfl) (SRS_up b3 g off n ca k B C en es ed) ?_ ?_
      · intro i hi o listed a w hR K hK
        have ho := hR.at_
        have hi : i < 6 := hi
        have hii : i = 0 ∨ i = 1 ∨ i = 2 ∨ i = 3 ∨ i = 4 ∨ i = 5 := by omega
        rcases hii with rfl | rfl | rfl | rfl | rfl | rfl
        · simp at ho
          subst ho
          have b3 : a.tmps.getD 3 undef = .pointer (some ⟨b3, 0, none⟩) := hR.base 3 (by kernel_rfl)
          obtain ⟨⟨cx0, cx1, cx2⟩, -⟩ := row_cells (heap_up hR.below HX3.out)
          refine plain_step rfl rfl ?_
          go_simp
          exact hK _ _ (rfl) (Below.refl _ _)
        · simp at ho
          subst ho
          have b0 : a.tmps.getD 0 undef = .slice (some ⟨g, off, none⟩) n ca := hR.base 0 (by kernel_rfl)
          refine plain_step rfl rfl ?_
          go_simp
          exact hK _ _ (rfl) (Below.refl _ _)
        · simp at ho
          subst ho
          have b4 : a.tmps.getD 4 undef = .int .i64 (k : Int) := hR.base 4 (by kernel_rfl)
          refine plain_step rfl rfl ?_
          go_simp
          exact hK _ _ (rfl) (Below.refl _ _)
        · simp at ho
          subst ho
          have e1 : a.tmps.getD 13 undef = .slice (some ⟨g, off, none⟩) n ca := hR.dep ⟨1, .data⟩ (by simp) rfl (by decide)
          have e2 : a.tmps.getD 14 undef = .int .i64 (k : Int) := hR.dep ⟨2, .data⟩ (by simp) rfl (by decide)
          refine plain_step rfl rfl ?_
          go_simp
          exact hK _ _ (rfl) (Below.refl _ _)
        · simp at ho
          subst ho
          have e3 : a.tmps.getD 15 undef = .pointer (some ⟨g, off + k * 3, none⟩) := hR.dep ⟨3, .data⟩ (by simp) rfl (by decide)
          have x1 := (cell_up hR.below hgr).trans d1; have x2 := (cell_up hR.below hgr).trans d2; have x3 := (cell_up hR.below hgr).trans d3
          refine plain_step rfl rfl ?_
          go_simp
          exact hK _ _ (rfl) (Below.refl _ _)
        · simp at ho
          subst ho
          have e0 : a.tmps.getD 12 undef = .agg #[.bool B.neg, .string (encS B.num), .string (encS B.den)] := hR.dep ⟨0, .data⟩ (by simp) rfl (by decide)
          have e4 : a.tmps.getD 16 undef = .agg #[.bool en, .string es, .string ed] := hR.dep ⟨4, .data⟩ (by simp) rfl (by decide)
          refine plain_step rfl rfl ?_
          go_simp
          refine (HFK.out w).mono ?_
          rintro e w' ⟨rfl, hb⟩
          exact hK _ _ (rfl) hb
      · intro s w hS hb
        have e5 : s 17 = .agg #[.bool C.neg, .string (encS C.num), .string (encS C.den)] := hS 5 (by decide)
        simp only [over, Nat.zero_add, Nat.reduceAdd, Nat.reduceLeDiff, Nat.reduceLT, decide_true, decide_false, Bool.and_true, Bool.and_false, cond_true, cond_false]
        obtain ⟨⟨cz0, cz1, cz2⟩, hfz⟩ := row_cells (heap_up hb HX3.out)
        have fz0 := hfz 0; have fz1 := hfz 1; have fz2 := hfz 2
        refine tail_step (n := 0) rfl rfl ?_
        go_simp
        simp only [wpTail]
        have HROW := Lib.hid (row_set (heap_up hb HX3.out) (.bool C.neg) (.string (encS C.num)) (.string (encS C.den)))
        have HBN := Lib.hid (below_row (HBW.out.trans (hb.mono HBW.out.size)) (b := b3) (by have := HLE.out; omega) (.bool C.neg) (.string (encS C.num)) (.string (encS C.den)))
        have HZ2 : Hid ((((w.setCell ⟨b3, 0, none⟩ (.bool C.neg)).setCell ⟨b3, 1, none⟩ (.string (encS C.num))).setCell ⟨b3, 2, none⟩ (.string (encS C.den))).heap[b2]? = some (.cells #[.bool false, .string ⟨#[]⟩, .string ⟨#[]⟩] 26 (0, 0))) := Lib.hid (by simpa [World.setCell, Array.getElem?_modify, Ne.symm HNE.out] using heap_up hb HX2.out)
        clear hS hb cz0 cz1 cz2 hfz fz0 fz1 fz2
        go_wp2_with fail
        go_roundw
        case rel => exact ⟨k + 1, C, by omega, by go_num, HCE, HROW, HZ2, HBN⟩
        case measure => simp [intOf]; omega
    · have hge : (l.length : Int) ≤ (k : Int) := by omega
      have HT : Hid (sumL l A = B) := Lib.hid (by rw [HBE.out, List.take_of_length_le (by omega)])
      obtain ⟨⟨ca0, ca1, ca2⟩, -⟩ := row_cells HX3.out
      obtain ⟨⟨cz0, cz1, cz2⟩, hfz⟩ := row_cells HX2.out
      have fz0 := hfz 0; have fz1 := hfz 1; have fz2 := hfz 2
      have HROW := Lib.hid (row_set HX2.out (.bool B.neg) (.string (encS B.num)) (.string (encS B.den)))
      have HBN := Lib.hid (below_row HBW.out (b := b2) (by omega) (.bool B.neg) (.string (encS B.num)) (.string (encS B.den)))
      clear hfz
      go_wp2_with fail
      refine bodyPost_ret (results_cell_row rfl _ _ b2 26 _ (0, 0) _ rfl HROW.out Tryz.underlying26 rfl (by kernel_rfl)) rfl ?_
      exact ⟨by rw [HT.out]; rfl, HBN.out⟩
end Go.Proofs.YtancflpioigjbaaGreatDoor
