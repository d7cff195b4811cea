/- bounds of the reference model; each theorem names its conditions. -/
import Derived.Test.YtodkppeikpaclaaSpnE
import Derived.Deep.DeepCutAuto
import Derived.BigQuiet
namespace Go.Proofs.Ytodkppeikpaclaa
open Go.RowKit Go.Shelf
open Spn
set_option linter.unusedVariables false

theorem refB_take {l : List Sp} {k : Nat} (h : k < l.length) : refB (l.take (k + 1)) = addS (refB (l.take k)) l[k] := by
  unfold refB
  rw [List.take_succ_eq_append_getElem h, List.foldl_append]
  rfl
theorem addS_yes {c : List Int} {s : Sp} (h : rightS s = true) : addS c s = withL (withL c s.1) s.2 := by simp [addS, h]
theorem addS_no {c : List Int} {s : Sp} (h : rightS s = false) : addS c s = c := by simp [addS, h]
theorem refB_len (l : List Sp) : (refB l).length ≤ 2 * l.length := by
  rw [refB_bnd]; exact Nat.le_trans (bnd_len l) (ends_len l)
def FrW (k : Nat) (sf st : Int) (C : List Int) (bx co ca cb : Nat) (po pa pb : Option Addr) (la lb : List Sp) (u8 u9 u10 u11 u12 u13 u14 u15 u16 u17 u18 u19 u20 u21 u22 u23 u24 u25 u26 u27 u28 u29 u30 u31 u32 u35 u36 u37 u38 u39 u40 u41 : Value) (s : Nat → Value) : Array Value := #[.slice pa la.length ca, .slice pb lb.length cb, undef, undef, .slice none 0 0, s 7, .int .i64 (k : Int), .pointer (some ⟨bx, 0, none⟩), u8, u9, u10, u11, u12, u13, u14, u15, u16, u17, u18, u19, u20, u21, u22, u23, u24, u25, u26, u27, u28, u29, u30, u31, u32, .agg #[.int .i64 sf, .int .i64 st], .bool true, s 0, s 1, s 2, s 3, s 4, s 5, s 6, undef]
def InW (k : Nat) (sf st : Int) (C : List Int) (bx co ca cb : Nat) (po pa pb : Option Addr) (la lb : List Sp) (u8 u9 u10 u11 u12 u13 u14 u15 u16 u17 u18 u19 u20 u21 u22 u23 u24 u25 u26 u27 u28 u29 u30 u31 u32 u35 u36 u37 u38 u39 u40 u41 : Value) (W0 : World) (listed : Array Bool) (a : Act) (w : World) : Prop :=
  ∃ (s : Nat → Value), listed.size = 8 ∧ a = { tmps := FrW k sf st C bx co ca cb po pa pb la lb u8 u9 u10 u11 u12 u13 u14 u15 u16 u17 u18 u19 u20 u21 u22 u23 u24 u25 u26 u27 u28 u29 u30 u31 u32 u35 u36 u37 u38 u39 u40 u41 s, defers := [] } ∧
    (listed.getD 0 false = true → s 0 = .slice po C.length co) ∧
    (listed.getD 1 false = true → s 1 = .pointer (some ⟨bx, 0, none⟩)) ∧
    (listed.getD 2 false = true → s 2 = .int .i64 sf) ∧
    (listed.getD 3 false = true → LstI w (s 3) (withL C sf)) ∧
    (listed.getD 4 false = true → s 4 = .pointer (some ⟨bx, 1, none⟩)) ∧
    (listed.getD 5 false = true → s 5 = .int .i64 st) ∧
    (listed.getD 6 false = true → LstI w (s 6) (withL (withL C sf) st)) ∧
    (listed.getD 7 false = true → LstI w (s 7) (withL (withL C sf) st)) ∧
    (listed.getD 7 false = false → s 7 = .slice po C.length co) ∧
    (listed.getD 7 false = true → listed.getD 0 false = true) ∧
    w.heap[bx]? = some (.cells #[.int .i64 sf, .int .i64 st] 33 (0, 0)) ∧ Below W0.heap.size W0 w
set_option maxHeartbeats 4000000 in
set_option maxRecDepth 100000 in
theorem rbounds_any (va vb : Value) (la lb : List Sp) (w : World) (ha : la.length ≤ 10000) (hb : lb.length ≤ 10000) (hla : Lst w va la) (hlb : Lst w vb lb) :
    Calls Try.prog 50 #[va, vb] w (fun e w' => ∃ v', e = .returned v' ∧ LstI w' v' (refB (la ++ lb)) ∧ Below w.heap.size w w') := by
  obtain ⟨pa, ca, rfl, hlena, hcella⟩ := hla.open
  obtain ⟨pb, cb, rfl, hlenb, hcellb⟩ := hlb.open
  have HCA := Lib.hid hcella; have HCB := Lib.hid hcellb
  clear hla hlb hcella hcellb hlena hlenb
  obtain ⟨L, hL⟩ : ∃ L, la ++ lb = L := ⟨_, rfl⟩
  have hLl : L.length = la.length + lb.length := by rw [← hL]; simp
  have HLE := Lib.hid hL
  have HAT : Hid (∀ k (h : k < L.length), (∀ h1 : k < la.length, L[k] = la[k]) ∧ (∀ h2 : k - la.length < lb.length, la.length ≤ k → L[k] = lb[k - la.length])) := Lib.hid (by
    intro k h
    subst hL
    refine ⟨fun h1 => List.getElem_append_left h1, fun h2 h3 => List.getElem_append_right h3⟩)
  rw [hL]
  clear hL
  go_enter Try.func50, Try.ntmps50
  go_wp2_with fail
  go_loopw [5, 6] (fun vo i wr => ∃ k : Nat, k ≤ L.length ∧ i = .int .i64 (k : Int) ∧ Hid (LstI wr vo (refB (L.take k))) ∧ Hid (Below w.heap.size w wr)) (fun _ i _ => L.length - (intOf i).toNat)
  case atStart => exact ⟨0, by omega, rfl, Lib.hid ⟨none, 0, rfl, by simp [refB], fun i h => absurd h (by simp [refB])⟩, Lib.hid (Below.refl _ _)⟩
  case round =>
    obtain ⟨k, hk, rfl, HV, HB⟩ := hrel
    obtain ⟨po, co, rfl, hol, -⟩ := HV.out
    obtain ⟨C, hC⟩ : ∃ C, refB (L.take k) = C := ⟨_, rfl⟩
    have HCE := Lib.hid hC
    rw [hC] at HV hol ⊢
    clear hC
    by_cases hlt : k < L.length
    · have hlt' : (k : Int) < (la.length : Int) + (lb.length : Int) := by omega
      have hcl : C.length ≤ 40000 := by rw [← HCE.out]; have := refB_len (L.take k); simp at this; omega
      have HNX := Lib.hid (refB_take hlt)
      have hat := HAT.out k hlt
      obtain ⟨sf, hsf⟩ : ∃ sf, L[k].1 = sf := ⟨_, rfl⟩
      obtain ⟨st, hst⟩ : ∃ st, L[k].2 = st := ⟨_, rfl⟩
      have HE : Hid (L[k] = (sf, st)) := Lib.hid (by rw [← hsf, ← hst])
      obtain ⟨wo, hwo⟩ : ∃ wo, wo = wr := ⟨_, rfl⟩
      subst hwo
      obtain ⟨bx, hbxe⟩ : ∃ bx, bx = wo.heap.size := ⟨_, rfl⟩
      have HAT1 : Hid (∀ h1 : k < la.length, la[k] = (sf, st)) := Lib.hid (fun h1 => by rw [← hat.1 h1]; exact HE.out)
      have HAT2 : Hid (∀ h2 : k - la.length < lb.length, la.length ≤ k → lb[k - la.length] = (sf, st)) := Lib.hid (fun h2 h3 => by rw [← hat.2 h2 h3]; exact HE.out)
      clear hat hsf hst
      go_upto_if 21 with fail
      go_cut [] (fun wx => wx.heap[wo.heap.size]? = some (.cells #[.int .i64 sf, .int .i64 st] 33 (0, 0)) ∧ Below wo.heap.size wo wx)
      case first =>
        by_cases h1 : k < la.length
        · have h1' : (k : Int) < (la.length : Int) := by omega
          obtain ⟨g, off, rfl, hg, e1, e2⟩ := HCA.out k h1
          have hgw : g < wo.heap.size := Nat.lt_of_lt_of_le hg HB.out.size
          have cA : ∀ o, (wo.alloc o).cell? ⟨g, off + k * 2, none⟩ = some (.int .i64 sf) := fun o => by rw [cell_up ((Below.refl _ wo).alloc (Nat.le_refl _) o) hgw, cell_up HB.out hg, e1, HAT1.out h1]
          have cB : ∀ o, (wo.alloc o).cell? ⟨g, off + k * 2 + 1, none⟩ = some (.int .i64 st) := fun o => by rw [cell_up ((Below.refl _ wo).alloc (Nat.le_refl _) o) hgw, cell_up HB.out hg, e2, HAT1.out h1]
          clear e1 e2
          go_wp2_with fail
          go_meet
          exact ⟨heap_alloc_new wo _, (Below.refl _ wo).alloc (Nat.le_refl _) _⟩
        · obtain ⟨m, rfl⟩ : ∃ m, k = la.length + m := ⟨k - la.length, by omega⟩
          have hm : m < lb.length := by omega
          have hm' : (m : Int) < (lb.length : Int) := by omega
          have HAT3 : Hid (lb[m] = (sf, st)) := Lib.hid (by
            have h := HAT2.out (by omega) (by omega)
            simpa using h)
          obtain ⟨g, off, rfl, hg, e1, e2⟩ := HCB.out m hm
          have hgw : g < wo.heap.size := Nat.lt_of_lt_of_le hg HB.out.size
          have cA : ∀ o, (wo.alloc o).cell? ⟨g, off + m * 2, none⟩ = some (.int .i64 sf) := fun o => by rw [cell_up ((Below.refl _ wo).alloc (Nat.le_refl _) o) hgw, cell_up HB.out hg, e1, HAT3.out]
          have cB : ∀ o, (wo.alloc o).cell? ⟨g, off + m * 2 + 1, none⟩ = some (.int .i64 st) := fun o => by rw [cell_up ((Below.refl _ wo).alloc (Nat.le_refl _) o) hgw, cell_up HB.out hg, e2, HAT3.out]
          clear e1 e2
          go_wp2_with fail
          go_meet
          exact ⟨heap_alloc_new wo _, (Below.refl _ wo).alloc (Nat.le_refl _) _⟩
      obtain ⟨hbx, hbw⟩ := hcut
      have HBX := Lib.hid hbx
      have d1 : wc.cell? ⟨wo.heap.size, 0, none⟩ = some (.int .i64 sf) := by rw [Lib.cell_of_heap hbx]; rfl
      have d2 : wc.cell? ⟨wo.heap.size, 1, none⟩ = some (.int .i64 st) := by rw [Lib.cell_of_heap hbx]; rfl
      have HV1 := Lib.hid (HV.out.up hbw)
      have HB1 := Lib.hid (HB.out.trans (hbw.mono HB.out.size))
      have HWX := Lib.hid hbw.size
      clear hbx hbw
      go_wp2_with fail
      refine (rRight_any sf st _).mono ?_
      rintro e w1 ⟨rfl, hb1⟩
      have HV2 := Lib.hid (HV1.out.up hb1)
      have HB2 := Lib.hid (HB1.out.trans (hb1.mono HB1.out.size))
      have HBX2 := Lib.hid (heap_up hb1 HBX.out)
      clear hb1
      have hrr : rightS (sf, st) = true ∨ rightS (sf, st) = false := by cases rightS (sf, st) <;> simp
      rcases hrr with hr | hr
      · have HE2 : Hid (refB (L.take (k + 1)) = withL (withL C sf) st) := Lib.hid (by rw [HNX.out, HE.out, addS_yes hr, HCE.out])
        rw [hr]
        clear hr d1 d2
        go_upto_region 10 with fail
        rw [← hbxe] at HBX2 ⊢
        clear hbxe
        refine wp_region_inv (InW k sf st C bx co ca cb po pa pb la lb u8 u9 u10 u11 u12 u13 u14 u15 u16 u17 u18 u19 u20 u21 u22 u23 u24 u25 u26 u27 u28 u29 u30 u31 u32 u35 u36 u37 u38 u39 u40 u41 w1) (by kernel_rfl) ?h0 ?hstep ?hdone
        case h0 => exact ⟨fun j => if j = 0 then u35 else if j = 1 then u36 else if j = 2 then u37 else if j = 3 then u38 else if j = 4 then u39 else if j = 5 then u40 else if j = 6 then u41 else .slice po C.length co, rfl, rfl, (fun h => absurd h (by simp)), (fun h => absurd h (by simp)), (fun h => absurd h (by simp)), (fun h => absurd h (by simp)), (fun h => absurd h (by simp)), (fun h => absurd h (by simp)), (fun h => absurd h (by simp)), (fun h => absurd h (by simp)), (fun _ => rfl), (fun h => absurd h (by simp)), HBX2.out, (Below.refl _ _).drew⟩
        case hstep =>
          rintro listed a w ⟨s, hsz, rfl, c0, c1, c2, c3, c4, c5, c6, c7, i7, n7_0, f0, cbl⟩ i o ho hun hall
          have hun' : listed.getD i false = false := getD_none hun
          have hi : i < 8 := (Array.getElem?_eq_some_iff.1 ho).1
          have hii : i = 0 ∨ i = 1 ∨ i = 2 ∨ i = 3 ∨ i = 4 ∨ i = 5 ∨ i = 6 ∨ i = 7 := by omega
          rcases hii with rfl | rfl | rfl | rfl | rfl | rfl | rfl | rfl
          · simp at ho
            subst ho
            have q7 : listed.getD 7 false = false := by
              cases hq : listed.getD 7 false
              · rfl
              · exact absurd (n7_0 hq) (by rw [hun']; simp)
            have w7 := i7 q7
            refine wpOp_step rfl (fun K' hK => ?_)
            simp only [FrW]
            go_simp
            refine hK _ _ ⟨fun j => if j = 0 then .slice po C.length co else s j, by simpa using hsz, by simp [FrW, w7], fun _ => by simp, fun h => by rw [getD_set_ne false (by decide)] at h; simpa using c1 h, fun h => by rw [getD_set_ne false (by decide)] at h; simpa using c2 h, fun h => by rw [getD_set_ne false (by decide)] at h; simpa using (c3 h), fun h => by rw [getD_set_ne false (by decide)] at h; simpa using c4 h, fun h => by rw [getD_set_ne false (by decide)] at h; simpa using c5 h, fun h => by rw [getD_set_ne false (by decide)] at h; simpa using (c6 h), fun h => by rw [getD_set_ne false (by decide)] at h; simpa using (c7 h), fun h => by rw [getD_set_ne false (by decide)] at h; simpa using i7 h, fun _ => by simp [hsz], f0, cbl⟩
          · simp at ho
            subst ho
            refine wpOp_step rfl (fun K' hK => ?_)
            simp only [FrW]
            go_simp
            refine hK _ _ ⟨fun j => if j = 1 then .pointer (some ⟨bx, 0, none⟩) else s j, by simpa using hsz, by simp [FrW], fun h => by rw [getD_set_ne false (by decide)] at h; simpa using c0 h, fun _ => by simp, fun h => by rw [getD_set_ne false (by decide)] at h; simpa using c2 h, fun h => by rw [getD_set_ne false (by decide)] at h; simpa using (c3 h), fun h => by rw [getD_set_ne false (by decide)] at h; simpa using c4 h, fun h => by rw [getD_set_ne false (by decide)] at h; simpa using c5 h, fun h => by rw [getD_set_ne false (by decide)] at h; simpa using (c6 h), fun h => by rw [getD_set_ne false (by decide)] at h; simpa using (c7 h), fun h => by rw [getD_set_ne false (by decide)] at h; simpa using i7 h, fun h => by rw [getD_set_ne false (by decide)] at h; exact getD_set_true (n7_0 h), f0, cbl⟩
          · simp at ho
            subst ho
            have u1 : listed.getD 1 false = true := hall ⟨1, .data⟩ (by simp) rfl
            have e1 := c1 u1
            have x0 : w.cell? ⟨bx, 0, none⟩ = some (.int .i64 sf) := by rw [Lib.cell_of_heap f0]; rfl
            refine wpOp_step rfl (fun K' hK => ?_)
            simp only [FrW]
            go_simp
            refine hK _ _ ⟨fun j => if j = 2 then .int .i64 sf else s j, by simpa using hsz, by simp [FrW, e1], fun h => by rw [getD_set_ne false (by decide)] at h; simpa using c0 h, fun h => by rw [getD_set_ne false (by decide)] at h; simpa using c1 h, fun _ => by simp, fun h => by rw [getD_set_ne false (by decide)] at h; simpa using (c3 h), fun h => by rw [getD_set_ne false (by decide)] at h; simpa using c4 h, fun h => by rw [getD_set_ne false (by decide)] at h; simpa using c5 h, fun h => by rw [getD_set_ne false (by decide)] at h; simpa using (c6 h), fun h => by rw [getD_set_ne false (by decide)] at h; simpa using (c7 h), fun h => by rw [getD_set_ne false (by decide)] at h; simpa using i7 h, fun h => by rw [getD_set_ne false (by decide)] at h; exact getD_set_true (n7_0 h), f0, cbl⟩
          · simp at ho
            subst ho
            have u0 : listed.getD 0 false = true := hall ⟨0, .data⟩ (by simp) rfl
            have e0 := c0 u0
            have u2 : listed.getD 2 false = true := hall ⟨2, .data⟩ (by simp) rfl
            have e2 := c2 u2
            refine wpOp_step rfl (fun K' hK => ?_)
            simp only [FrW]
            go_simp
            refine (with_any _ C sf _ (HV2.out.up cbl) (by omega)).mono ?_
            rintro e w' ⟨v', rfl, hl, hb⟩
            refine hK _ _ ⟨fun j => if j = 3 then v' else s j, by simpa using hsz, by simp [FrW, e0, e2], fun h => by rw [getD_set_ne false (by decide)] at h; simpa using c0 h, fun h => by rw [getD_set_ne false (by decide)] at h; simpa using c1 h, fun h => by rw [getD_set_ne false (by decide)] at h; simpa using c2 h, fun _ => by simpa using hl, fun h => by rw [getD_set_ne false (by decide)] at h; simpa using c4 h, fun h => by rw [getD_set_ne false (by decide)] at h; simpa using c5 h, fun h => by rw [getD_set_ne false (by decide)] at h; simpa using (c6 h).up hb, fun h => by rw [getD_set_ne false (by decide)] at h; simpa using (c7 h).up hb, fun h => by rw [getD_set_ne false (by decide)] at h; simpa using i7 h, fun h => by rw [getD_set_ne false (by decide)] at h; exact getD_set_true (n7_0 h), (hb.block _ (Array.getElem?_eq_some_iff.1 (f0)).1).trans (f0), cbl.trans (hb.mono cbl.size)⟩
          · simp at ho
            subst ho
            refine wpOp_step rfl (fun K' hK => ?_)
            simp only [FrW]
            go_simp
            refine hK _ _ ⟨fun j => if j = 4 then .pointer (some ⟨bx, 1, none⟩) else s j, by simpa using hsz, by simp [FrW], fun h => by rw [getD_set_ne false (by decide)] at h; simpa using c0 h, fun h => by rw [getD_set_ne false (by decide)] at h; simpa using c1 h, fun h => by rw [getD_set_ne false (by decide)] at h; simpa using c2 h, fun h => by rw [getD_set_ne false (by decide)] at h; simpa using (c3 h), fun _ => by simp, fun h => by rw [getD_set_ne false (by decide)] at h; simpa using c5 h, fun h => by rw [getD_set_ne false (by decide)] at h; simpa using (c6 h), fun h => by rw [getD_set_ne false (by decide)] at h; simpa using (c7 h), fun h => by rw [getD_set_ne false (by decide)] at h; simpa using i7 h, fun h => by rw [getD_set_ne false (by decide)] at h; exact getD_set_true (n7_0 h), f0, cbl⟩
          · simp at ho
            subst ho
            have u4 : listed.getD 4 false = true := hall ⟨4, .data⟩ (by simp) rfl
            have e4 := c4 u4
            have x0 : w.cell? ⟨bx, 1, none⟩ = some (.int .i64 st) := by rw [Lib.cell_of_heap f0]; rfl
            refine wpOp_step rfl (fun K' hK => ?_)
            simp only [FrW]
            go_simp
            refine hK _ _ ⟨fun j => if j = 5 then .int .i64 st else s j, by simpa using hsz, by simp [FrW, e4], fun h => by rw [getD_set_ne false (by decide)] at h; simpa using c0 h, fun h => by rw [getD_set_ne false (by decide)] at h; simpa using c1 h, fun h => by rw [getD_set_ne false (by decide)] at h; simpa using c2 h, fun h => by rw [getD_set_ne false (by decide)] at h; simpa using (c3 h), fun h => by rw [getD_set_ne false (by decide)] at h; simpa using c4 h, fun _ => by simp, fun h => by rw [getD_set_ne false (by decide)] at h; simpa using (c6 h), fun h => by rw [getD_set_ne false (by decide)] at h; simpa using (c7 h), fun h => by rw [getD_set_ne false (by decide)] at h; simpa using i7 h, fun h => by rw [getD_set_ne false (by decide)] at h; exact getD_set_true (n7_0 h), f0, cbl⟩
          · simp at ho
            subst ho
            have u3 : listed.getD 3 false = true := hall ⟨3, .data⟩ (by simp) rfl
            have e3 := c3 u3
            have u5 : listed.getD 5 false = true := hall ⟨5, .data⟩ (by simp) rfl
            have e5 := c5 u5
            refine wpOp_step rfl (fun K' hK => ?_)
            simp only [FrW]
            go_simp
            refine (with_any _ (withL C sf) st _ e3 (by have := withL_len C sf; omega)).mono ?_
            rintro e w' ⟨v', rfl, hl, hb⟩
            refine hK _ _ ⟨fun j => if j = 6 then v' else s j, by simpa using hsz, by simp [FrW, e5], fun h => by rw [getD_set_ne false (by decide)] at h; simpa using c0 h, fun h => by rw [getD_set_ne false (by decide)] at h; simpa using c1 h, fun h => by rw [getD_set_ne false (by decide)] at h; simpa using c2 h, fun h => by rw [getD_set_ne false (by decide)] at h; simpa using (c3 h).up hb, fun h => by rw [getD_set_ne false (by decide)] at h; simpa using c4 h, fun h => by rw [getD_set_ne false (by decide)] at h; simpa using c5 h, fun _ => by simpa using hl, fun h => by rw [getD_set_ne false (by decide)] at h; simpa using (c7 h).up hb, fun h => by rw [getD_set_ne false (by decide)] at h; simpa using i7 h, fun h => by rw [getD_set_ne false (by decide)] at h; exact getD_set_true (n7_0 h), (hb.block _ (Array.getElem?_eq_some_iff.1 (f0)).1).trans (f0), cbl.trans (hb.mono cbl.size)⟩
          · simp at ho
            subst ho
            have u6 : listed.getD 6 false = true := hall ⟨6, .data⟩ (by simp) rfl
            have e6 := c6 u6
            refine wpOp_step rfl (fun K' hK => ?_)
            simp only [FrW]
            go_simp
            refine hK _ _ ⟨fun j => if j = 7 then s 6 else s j, by simpa using hsz, by simp [FrW], fun h => by rw [getD_set_ne false (by decide)] at h; simpa using c0 h, fun h => by rw [getD_set_ne false (by decide)] at h; simpa using c1 h, fun h => by rw [getD_set_ne false (by decide)] at h; simpa using c2 h, fun h => by rw [getD_set_ne false (by decide)] at h; simpa using (c3 h), fun h => by rw [getD_set_ne false (by decide)] at h; simpa using c4 h, fun h => by rw [getD_set_ne false (by decide)] at h; simpa using c5 h, fun h => by rw [getD_set_ne false (by decide)] at h; simpa using (c6 h), fun _ => by simpa using e6, fun h => by simp [hsz] at h, fun _ => by rw [getD_set_ne false (by decide)]; exact hall ⟨0, .phase⟩ (by simp) rfl, f0, cbl⟩
        case hdone =>
          rintro listed a w ⟨s, hsz, rfl, c0, c1, c2, c3, c4, c5, c6, c7, i7, n7_0, f0, cbl⟩ hr
          have hup := fun j => all_done (md := .any) (by kernel_rfl) hsz hr j
          have L7 := c7 (hup 7 (by decide))
          clear i7 n7_0 c0 c1 c2 c3 c4 c5 c6 c7 hup hr
          simp only [FrW]
          have L8 := L7
          obtain ⟨po2, co2, e7, hol2, -⟩ := L8
          rw [e7] at L7 ⊢
          have HL7 := Lib.hid L7; have HCB := Lib.hid (HB2.out.trans (cbl.mono HB2.out.size))
          clear L7 cbl f0
          go_wp2_with fail
          go_roundw
          case rel => exact ⟨k + 1, by omega, by go_num, Lib.hid (by rw [HE2.out]; exact HL7.out), HCB⟩
          case measure => simp [intOf]; omega
      · have HE2 : Hid (refB (L.take (k + 1)) = C) := Lib.hid (by rw [HNX.out, HE.out, addS_no hr, HCE.out])
        rw [hr]
        clear hr
        go_wp2_with fail
        go_roundw
        case rel => exact ⟨k + 1, by omega, by go_num, Lib.hid (by rw [HE2.out]; exact HV2.out), HB2⟩
        case measure => simp [intOf]; omega
    · have hge : (la.length : Int) + (lb.length : Int) ≤ (k : Int) := by omega
      have HE2 : Hid (refB L = C) := Lib.hid (by rw [← HCE.out, List.take_of_length_le (by omega)])
      go_wp2_with fail
      go_ret
      exact ⟨_, rfl, by rw [HE2.out]; exact HV.out, HB.out⟩
end Go.Proofs.Ytodkppeikpaclaa
