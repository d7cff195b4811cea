/- RatioCommon: the walk. Each theorem names its conditions. -/
import Derived.Test.YtancflpioigjbaaGreatDoorLaP
namespace Go.Proofs.YtancflpioigjbaaGreatDoor.ratioCommon
open Go.RowKit Go.Shelf
open Dgt
set_option linter.unusedVariables false

theorem cut_size (s : ByteArray) (k : Nat) (hk : k ≤ 10) : (s.extract 0 k).size ≤ 10 := by
  rw [ByteArray.size_extract]; omega
theorem row_set0 {W : World} {b : Nat} {x0 x1 x2 : Value} {t : TypeId} (h : W.heap[b]? = some (.cells #[x0, x1, x2] t (0, 0))) (u : Value) : (W.setCell ⟨b, 0, none⟩ u).heap[b]? = some (.cells #[u, x1, x2] t (0, 0)) := by
  simp [World.setCell, Array.getElem?_modify, h]
theorem row_set1 {W : World} {b : Nat} {x0 x1 x2 : Value} {t : TypeId} (h : W.heap[b]? = some (.cells #[x0, x1, x2] t (0, 0))) (u : Value) : (W.setCell ⟨b, 1, none⟩ u).heap[b]? = some (.cells #[x0, u, x2] t (0, 0)) := by
  simp [World.setCell, Array.getElem?_modify, h]
theorem row_set2 {W : World} {b : Nat} {x0 x1 x2 : Value} {t : TypeId} (h : W.heap[b]? = some (.cells #[x0, x1, x2] t (0, 0))) (u : Value) : (W.setCell ⟨b, 2, none⟩ u).heap[b]? = some (.cells #[x0, x1, u] t (0, 0)) := by
  simp [World.setCell, Array.getElem?_modify, h]
def EUC (pa pg : Option Addr) (k cpa cg bi ws : Nat) (gl : List Rw) (na : Bool) (ca da : ByteArray) : Nat → Value
  | 0 => .slice pa k cpa
  | 1 => .slice pg k cg
  | 3 => .slice pg k cg
  | 5 => .agg #[.bool na, .string ca, .string da]
  | _ => undef
def SUC (pa pg : Option Addr) (k cpa cg bi ws : Nat) (gl : List Rw) (na : Bool) (ca da : ByteArray) (ix : Nat) (v : Value) (w : World) : Prop :=
  match ix with
  | 2 => ∃ g, v = .slice (some ⟨g, 0, none⟩) 0 0 ∧ ws ≤ g ∧ w.heap[g]? = some (.cells #[] 26 (0, 0))
  | 4 => w.ownsRow ws 26 3 v gl.length (cells3 gl)
  | 6 => ∃ g, v = .slice (some ⟨g, 0, none⟩) 1 1 ∧ w.heap[g]? = some (.cells #[.bool na, .string ca, .string da] 26 (0, 0))
  | 7 => w.ownsRow ws 26 3 v (gl.length + 1) (cells3 (gl ++ [⟨na, ca, da⟩]))
  | 8 => ∃ p c, v = .agg #[.slice pa k cpa, .slice pg k cg, .slice p (gl.length + 1) c] ∧ w.ownsRow ws 26 3 (.slice p (gl.length + 1) c) (gl.length + 1) (cells3 (gl ++ [⟨na, ca, da⟩]))
  | 9 => ∃ g, v = .pointer (some ⟨g, 0, none⟩) ∧ w.heap[g]? = some (.cells #[.slice none 0 0, .slice none 0 0, .slice none 0 0] 45 (0, 0)) ∧ ws ≤ g
  | ix => v = EUC pa pg k cpa cg bi ws gl na ca da ix
theorem SUC_up (pa pg : Option Addr) (k cpa cg bi ws : Nat) (gl : List Rw) (na : Bool) (ca da : ByteArray) (ix : Nat) (v : Value) (w w' : World) (hb : Below w.heap.size w w') (h : SUC pa pg k cpa cg bi ws gl na ca da ix v w) : SUC pa pg k cpa cg bi ws gl na ca da ix v w' := by
  unfold SUC at h ⊢
  split at h
  · exact by obtain ⟨g, e1, e2, e3⟩ := h; exact ⟨g, e1, e2, heap_up hb e3⟩
  · exact own_up h hb
  · exact by obtain ⟨g, e1, e2⟩ := h; exact ⟨g, e1, heap_up hb e2⟩
  · exact own_up h hb
  · exact by obtain ⟨p, c, e1, e2⟩ := h; exact ⟨p, c, e1, own_up e2 hb⟩
  · exact by obtain ⟨g, e1, e2, e3⟩ := h; exact ⟨g, e1, heap_up hb e2, e3⟩
  · exact h
def EU3 (g2 off2 k cg q b23 : Nat) (t : Rt) : Nat → Value
  | 0 => .bool true
  | 1 => .bool false
  | 2 => .bool false
  | 3 => .agg #[.bool t.neg, .string (encS t.num), .string (encS t.den)]
  | 4 => .slice (some ⟨g2, off2, none⟩) k cg
  | 5 => .int .i64 (q : Int)
  | 6 => .pointer (some ⟨g2, off2 + q * 3, none⟩)
  | 7 => .agg #[.bool t.neg, .string (encS t.num), .string (encS t.den)]
  | 8 => .bool false
  | 9 => .bool false
  | _ => undef
def SU3 (g2 off2 k cg q b23 : Nat) (t : Rt) (ix : Nat) (v : Value) (w : World) : Prop :=
  match ix with
  | ix => v = EU3 g2 off2 k cg q b23 t ix
theorem SU3_up (g2 off2 k cg q b23 : Nat) (t : Rt) (ix : Nat) (v : Value) (w w' : World) (hb : Below w.heap.size w w') (h : SU3 g2 off2 k cg q b23 t ix v w) : SU3 g2 off2 k cg q b23 t ix v w' := by
  exact h
def EU4 (pg : Option Addr) (k cg b21 : Nat) (t : Rt) : Nat → Value
  | 0 => .bool true
  | 1 => .bool true
  | 2 => .agg #[.bool t.neg, .string (encS t.num), .string (encS t.den)]
  | 3 => .slice pg k cg
  | 4 => .agg #[.bool t.neg, .string (encS t.num), .string (encS t.den)]
  | 5 => .bool true
  | 6 => .bool true
  | 7 => .bool true
  | _ => undef
def SU4 (pg : Option Addr) (k cg b21 : Nat) (t : Rt) (ix : Nat) (v : Value) (w : World) : Prop :=
  match ix with
  | ix => v = EU4 pg k cg b21 t ix
theorem SU4_up (pg : Option Addr) (k cg b21 : Nat) (t : Rt) (ix : Nat) (v : Value) (w w' : World) (hb : Below w.heap.size w w') (h : SU4 pg k cg b21 t ix v w) : SU4 pg k cg b21 t ix v w' := by
  exact h
set_option maxHeartbeats 4000000 in
set_option maxRecDepth 100000 in
theorem walk (v0 : Value) (na : Bool) (sa ta : ByteArray) (wq : World) (hv : ArgT wq v0) (zsa : (sa.size : Int) ≤ 9223372036854775807) (zta : (ta.size : Int) ≤ 9223372036854775807) (htab : Lib.TabIs Tryz.prog wq "internal/strconv.uint64pow10" .u64 Lib.pow10Tab) (m0 : Int) (hm : wq.cell? ⟨0, 0, none⟩ = some (.int .i64 m0)) :
    Calls Tryz.prog 5 #[v0, .agg #[.bool na, .string sa, .string ta]] wq fun e w' => e = .returned (.bool true) ∧ Below wq.heap.size wq w' := by
  have HB := Lib.hid (Below.refl wq.heap.size wq)
  have HT := Lib.hid (Lib.tabBelow_of_tabIs htab)
  have HM := Lib.hid (fun W h => cell_zero (W := W) hm h)
  have HSAN := Lib.hid (fun W (h : Below wq.heap.size wq W) => sanity_any W (HT.out.on h).here m0 (HM.out W h))
  have HLST := Lib.hid (fun W (h : Below wq.heap.size wq W) => List_any v0 W (hv.up h))
  obtain ⟨k0, hk0⟩ : ∃ k : Nat, min (sa.size : Int) 10 = (k : Int) := ⟨(min (sa.size : Int) 10).toNat, by omega⟩
  obtain ⟨ca, hca⟩ : ∃ c, sa.extract 0 k0 = c := ⟨_, rfl⟩
  have zca : ca.size ≤ 10 := by rw [← hca]; exact cut_size _ _ (by omega)
  have lk0 : (0 : Int) ≤ ((k0 : Nat) : Int) ∧ ((k0 : Nat) : Int) ≤ (sa.size : Int) := by omega
  have Pk0 := Lib.hid (And.intro hk0 (And.intro hca lk0)); have HZca := Lib.hid zca
  obtain ⟨k1, hk1⟩ : ∃ k : Nat, min (ta.size : Int) 10 = (k : Int) := ⟨(min (ta.size : Int) 10).toNat, by omega⟩
  obtain ⟨da, hda⟩ : ∃ c, ta.extract 0 k1 = c := ⟨_, rfl⟩
  have zda : da.size ≤ 10 := by rw [← hda]; exact cut_size _ _ (by omega)
  have lk1 : (0 : Int) ≤ ((k1 : Nat) : Int) ∧ ((k1 : Nat) : Int) ≤ (ta.size : Int) := by omega
  have Pk1 := Lib.hid (And.intro hk1 (And.intro hda lk1)); have HZda := Lib.hid zda
  clear htab hm hv zsa zta hk0 hk1 hca hda zca zda lk0 lk1
  have h0 := heap_alloc_new wq (.cells #[.bool na, .string sa, .string ta] 26)
  have hbb := (Below.refl wq.heap.size wq).alloc (Nat.le_refl _) (.cells #[.bool na, .string sa, .string ta] 26)
  obtain ⟨W0, hW0⟩ : ∃ W0, wq.alloc (.cells #[.bool na, .string sa, .string ta] 26) = W0 := ⟨_, rfl⟩
  rw [hW0] at h0 hbb
  have HI := Lib.hid h0; have HB := Lib.hid hbb; clear h0 hbb
  go_enter Tryz.func5, Tryz.ntmps5
  go_wp2_with fail
  clear hW0
  obtain ⟨bi, hb0⟩ : ∃ b, wq.heap.size = b := ⟨_, rfl⟩
  have HG : Hid (wq.heap.size ≤ bi) := Lib.hid (by omega)
  rw [hb0] at HI ⊢; clear hb0
  refine (HSAN.out _ HB.out).mono ?_
  rintro e w1 ⟨rfl, hb⟩
  have HI := Lib.hid (heap_up hb HI.out)
  have HB := Lib.hid (HB.out.trans (hb.mono HB.out.size))
  clear hb
  obtain ⟨⟨rwa, rwb, rwc⟩, fw⟩ := row_cells HI.out
  have fw1 := fw 1; have fw2 := fw 2; clear fw
  obtain ⟨hk0, hc0, lk0⟩ := Pk0.out
  obtain ⟨hk1, hc1, lk1⟩ := Pk1.out
  have hN := row_set1 HI.out (.string ca)
  have hD := HB.out.setCell (p := ⟨bi, 1, none⟩) HG.out (.string ca)
  obtain ⟨V0, hV0⟩ : ∃ V, w1.setCell ⟨bi, 1, none⟩ (.string ca) = V := ⟨_, rfl⟩
  rw [hV0] at hN hD
  have HI := Lib.hid hN; have HB := Lib.hid hD; clear hN hD
  obtain ⟨⟨rv0a, rv0b, rv0c⟩, fv0⟩ := row_cells HI.out
  have fv01 := fv0 1; have fv02 := fv0 2; clear fv0
  have hN := row_set2 HI.out (.string da)
  have hD := HB.out.setCell (p := ⟨bi, 2, none⟩) HG.out (.string da)
  obtain ⟨V1, hV1⟩ : ∃ V, V0.setCell ⟨bi, 2, none⟩ (.string da) = V := ⟨_, rfl⟩
  rw [hV1] at hN hD
  have HI := Lib.hid hN; have HB := Lib.hid hD; clear hN hD
  obtain ⟨⟨rv1a, rv1b, rv1c⟩, fv1⟩ := row_cells HI.out
  have fv11 := fv1 1; have fv12 := fv1 2; clear fv1
  go_wp2_with fail
  clear rwa rwb rwc fw1 fw2 hk0 hc0 lk0 hk1 hc1 lk1 rv0a rv0b rv0c fv01 fv02 hV0 rv1a rv1b rv1c fv11 fv12 hV1
  refine (HLST.out _ HB.out).mono ?_
  rintro e w2 ⟨va, la, rfl, hla, hlen, hok, hb⟩
  have HI := Lib.hid (heap_up hb HI.out)
  have HB := Lib.hid (HB.out.trans (hb.mono HB.out.size))
  have HLA := Lib.hid hla; have HOK := Lib.hid hok
  obtain ⟨pa, cpa, hva, -, hcells⟩ := hla.open
  rw [List.length_map] at hva
  subst hva
  obtain ⟨n, hn⟩ : ∃ n, la.length = n := ⟨_, rfl⟩
  rw [hn] at hlen HLA ⊢
  have HC : Hid (∀ k (h : k < la.length), ∃ g off, pa = some ⟨g, off, none⟩ ∧ g < w2.heap.size ∧ w2.cell? ⟨g, off + k * 3, none⟩ = some (.bool la[k].neg) ∧ w2.cell? ⟨g, off + k * 3 + 1, none⟩ = some (.string (encS la[k].num)) ∧ w2.cell? ⟨g, off + k * 3 + 2, none⟩ = some (.string (encS la[k].den))) := Lib.hid fun k h => by
    have hh := hcells k (by rw [List.length_map]; exact h)
    simp only [List.getElem_map] at hh
    exact hh
  have HN := Lib.hid hn
  clear hb hla hok hcells hn
  obtain ⟨i0, hi, hz0, hz1, hz2⟩ := info_partsN infoRat
  go_wp2_with fail
  go_loopw [7, 8] (fun vo i wr => ∃ k : Nat, k ≤ n ∧ i = .int .i64 (k : Int) ∧ Hid (wr.ownsRow w2.heap.size 26 3 vo k (cells3 (goodL (la.take k)))) ∧ Hid (Below w2.heap.size w2 wr)) (fun vo i _ => n - (intOf i).toNat)
  case atStart => exact ⟨0, by omega, rfl, Lib.hid (World.ownsRow_nil _ _ _ _), Lib.hid (Below.refl _ _)⟩
  case round =>
    obtain ⟨k, hk, rfl, HO, HBW⟩ := hrel
    by_cases hlt : k < n
    · have hlt' : (k : Int) < (n : Int) := by omega
      have hkl : k < la.length := by rw [HN.out]; exact hlt
      obtain ⟨g, off, rfl, hg, h1, h2, h3⟩ := HC.out k hkl
      have HTK : Hid (goodL (la.take (k + 1)) = goodL (la.take k) ++ [rawR (absT la[k])]) := Lib.hid (goodL_take hkl)
      obtain ⟨m, hm⟩ : ∃ m, la[k] = m := ⟨_, rfl⟩
      rw [hm] at h1 h2 h3 HTK
      have d1 : wr.cell? ⟨g, off + k * 3, none⟩ = some (.bool m.neg) := by rw [cell_up HBW.out hg]; exact h1
      have d2 : wr.cell? ⟨g, off + k * 3 + 1, none⟩ = some (.string (encS m.num)) := by rw [cell_up HBW.out hg]; exact h2
      have d3 : wr.cell? ⟨g, off + k * 3 + 2, none⟩ = some (.string (encS m.den)) := by rw [cell_up HBW.out hg]; exact h3
      have hX := heap_alloc_new wr (.cells #[.bool m.neg, .string (encS m.num), .string (encS m.den)] 26)
      have hB1 := (Below.refl wr.heap.size wr).alloc (Nat.le_refl _) (.cells #[.bool m.neg, .string (encS m.num), .string (encS m.den)] 26)
      obtain ⟨Wb, hWb⟩ : ∃ W, wr.alloc (.cells #[.bool m.neg, .string (encS m.num), .string (encS m.den)] 26) = W := ⟨_, rfl⟩
      rw [hWb] at hX hB1
      obtain ⟨⟨x0, x1, x2⟩, fx⟩ := row_cells hX
      have fx0 := fx 0
      have hY := row_set0 hX (.bool false)
      have hB2 := hB1.setCell (p := ⟨wr.heap.size, 0, none⟩) (Nat.le_refl _) (.bool false)
      obtain ⟨Wc, hWc⟩ : ∃ W, Wb.setCell ⟨wr.heap.size, 0, none⟩ (.bool false) = W := ⟨_, rfl⟩
      rw [hWc] at hY hB2
      obtain ⟨⟨y0, y1, y2⟩, -⟩ := row_cells hY
      have HO1 := Lib.hid (own_up HO.out hB2)
      have HB1 := Lib.hid (HBW.out.trans (hB2.mono HBW.out.size))
      clear h1 h2 h3 hX hY hB1 hB2 fx hm hlt
      go_wp2_with (first | (at_builtin; refine wpList_append_own _ rfl _ _ 43 rfl w2.heap.size 26 i0 (.agg #[.bool false, .string ⟨#[]⟩, .string ⟨#[]⟩]) 3 40 Tryz.underlying43 hi hz0 hz1 hz2 rfl (by decide) _ _ _ rfl (HO1.out.alloc _) ⟨Wc.heap.size, 0, none⟩ 1 1 [.bool false, .string (encS m.num), .string (encS m.den)] rfl rfl (cell_fresh3 Wc _ _ _ _) (cells3_one [rawR (absT m)]) (by unfold maxLen; omega) (by omega) (by have := HB1.out.size; simp; omega) ?_; intro v' w5 hown' hgrow hnn; have HO2 := Lib.hid hown'; have HG2 := Lib.hid hgrow; clear hown' hgrow hnn) | fail)
      go_roundw
      case rel => exact ⟨k + 1, by omega, by go_num, Lib.hid (by rw [HTK.out, cells3_append]; exact HO2.out), Lib.hid (below_own (HB1.out.alloc HB1.out.size _) (HO1.out.alloc _) HG2.out (Nat.le_refl _))⟩
      case measure => simp [intOf]; omega
    · have hkn : k = n := by omega
      subst hkn
      have hge : ¬ (k : Int) < (k : Int) := by omega
      have hgl : la.take k = la := List.take_of_length_le (by rw [HN.out]; omega)
      rw [hgl] at HO
      clear hgl hlt
      have HB := Lib.hid (HB.out.trans (HBW.out.mono HB.out.size))
      obtain ⟨pg, cg, rfl, -⟩ := own_slice HO.out
      have HI := Lib.hid (heap_up HBW.out HI.out)
      have HGL : Hid (wr.ownsRow w2.heap.size 26 3 (.slice pg (goodL la).length cg) (goodL la).length (cells3 (goodL la))) := Lib.hid (by rw [goodL_len, HN.out]; exact HO.out)
      have HLN : Hid ((goodL la).length = k) := Lib.hid (by rw [goodL_len, HN.out])
      obtain ⟨gl, hgl⟩ : ∃ gl, goodL la = gl := ⟨_, rfl⟩
      rw [hgl] at HGL HLN
      have HGE := Lib.hid hgl
      have HLA := Lib.hid (HLA.out.up HBW.out)
      clear HO hgl
      go_wp2_with fail
      refine wp_region_used (w := wr) (by kernel_rfl) (SUC pa pg k cpa cg bi wr.heap.size gl na ca da) (fun j => if j = 2 then some 4 else if j = 4 then some 7 else if j = 6 then some 7 else if j = 7 then some 8 else none) 10 (fun t => (decide (10 ≤ t) && decide (t < 11)) || (decide (59 ≤ t) && decide (t < 68))) (by decide) (by kernel_rfl) (by kernel_rfl) (by kernel_rfl) (by kernel_rfl) (by kernel_rfl) (SUC_up pa pg k cpa cg bi wr.heap.size gl na ca da) ?_ ?_
      · intro i hi o listed a w hR K hK hKB
        have ho := hR.at_
        have hi : i < 10 := hi
        have hii : i = 0 ∨ i = 1 ∨ i = 2 ∨ i = 3 ∨ i = 4 ∨ i = 5 ∨ i = 6 ∨ i = 7 ∨ i = 8 ∨ i = 9 := by omega
        rcases hii with rfl | rfl | rfl | rfl | rfl | rfl | rfl | rfl | rfl | rfl
        · simp at ho
          subst ho
          have b6 : a.tmps.getD 6 undef = .slice pa k cpa := hR.base 6 (by kernel_rfl)
          refine plain_step rfl rfl ?_
          go_simp
          exact hKB _ _ (rfl) (Below.refl _ _)
        · simp at ho
          subst ho
          have b7 : a.tmps.getD 7 undef = .slice pg k cg := hR.base 7 (by kernel_rfl)
          refine plain_step rfl rfl ?_
          go_simp
          exact hKB _ _ (rfl) (Below.refl _ _)
        · simp at ho
          subst ho
          refine plain_step rfl rfl ?_
          go_simp
          exact hKB _ _ (⟨_, rfl, hR.below.size, heap_alloc_new _ _⟩) ((Below.refl _ _).alloc (Nat.le_refl _) _)
        · simp at ho
          subst ho
          have b7 : a.tmps.getD 7 undef = .slice pg k cg := hR.base 7 (by kernel_rfl)
          refine plain_step rfl rfl ?_
          go_simp
          exact hKB _ _ (rfl) (Below.refl _ _)
        · simp at ho
          subst ho
          have e2 := hR.dep ⟨2, .data⟩ (by simp) rfl (by decide) (by decide)
          have e3 : a.tmps.getD 62 undef = .slice pg k cg := hR.dep ⟨3, .data⟩ (by simp) rfl (by decide) (by decide)
          obtain ⟨g2, e61, hg2, hh2⟩ : ∃ g, a.tmps.getD 61 undef = .slice (some ⟨g, 0, none⟩) 0 0 ∧ wr.heap.size ≤ g ∧ w.heap[g]? = some (.cells #[] 26 (0, 0)) := e2
          have hown := own_up HGL.out hR.below
          obtain ⟨v', w'', hrun, r1, r2⟩ := app_copy (ws := wr.heap.size) hh2 hg2 hown (by rw [HLN.out]; omega)
          rw [HLN.out] at hrun
          have hbel := below_own hR.below (show w.ownsRow wr.heap.size 26 3 (.slice (some ⟨g2, 0, none⟩) 0 0) 0 [] from ⟨rfl, .inr ⟨g2, 0, #[], rfl, hg2, hh2, Nat.le_refl _, by unfold maxLen; omega, rfl, rfl⟩⟩) r2 (Nat.le_refl _)
          refine plain_step rfl rfl ?_
          refine wp_append_run (.tmp 61) (.tmp 62) 43 rfl _ _ v' w'' e61 e3 hrun ?_
          refine hK _ _ r1 hbel ?_
          intro j u hj hji hu hl hfr hS
          have hjj : j = 0 ∨ j = 1 ∨ j = 2 ∨ j = 3 ∨ j = 4 ∨ j = 5 ∨ j = 6 ∨ j = 7 ∨ j = 8 ∨ j = 9 := by omega
          rcases hjj with rfl | rfl | rfl | rfl | rfl | rfl | rfl | rfl | rfl | rfl
          · exact hS
          · exact hS
          · exact absurd rfl hu
          · exact hS
          · exact absurd rfl hji
          · exact hS
          · obtain ⟨g, e1, e3⟩ := hS; exact ⟨g, e1, grown_keep r2 e3 (fun e => by injection e with e; subst e; rw [hh2] at e3; injection e3 with e3; injection e3 with e3 _ _; exact absurd (congrArg Array.size e3) (by simp))⟩
          · exact absurd (hR.closed 7 _ rfl hl ⟨4, .data⟩ (by simp) rfl) (by rw [hR.un]; simp)
          · exact absurd (hR.closed 7 _ rfl (hR.closed 8 _ rfl hl ⟨7, .data⟩ (by simp) rfl) ⟨4, .data⟩ (by simp) rfl) (by rw [hR.un]; simp)
          · obtain ⟨g, e1, e3, e4⟩ := hS; exact ⟨g, e1, grown_keep r2 e3 (fun e => by injection e with e; subst e; rw [hh2] at e3; injection e3 with e3; injection e3 with e3 _ _; exact absurd (congrArg Array.size e3) (by simp)), e4⟩
        · simp at ho
          subst ho
          have b3 : a.tmps.getD 3 undef = .pointer (some ⟨bi, 0, none⟩) := hR.base 3 (by kernel_rfl)
          obtain ⟨⟨cx0, cx1, cx2⟩, -⟩ := row_cells (heap_up hR.below HI.out)
          refine plain_step rfl rfl ?_
          go_simp
          exact hKB _ _ (rfl) (Below.refl _ _)
        · simp at ho
          subst ho
          have e5 : a.tmps.getD 64 undef = .agg #[.bool na, .string ca, .string da] := hR.dep ⟨5, .data⟩ (by simp) rfl (by decide) (by decide)
          have g5 := e5
          rw [Array.getD_eq_getD_getElem?] at g5
          refine plain_step rfl rfl ?_
          go_simp
          exact hKB _ _ (⟨_, rfl, heap_alloc_new _ _⟩) ((Below.refl _ _).alloc (Nat.le_refl _) _)
        · simp at ho
          subst ho
          have e4 := hR.dep ⟨4, .data⟩ (by simp) rfl (by decide) (by decide)
          have e6 := hR.dep ⟨6, .data⟩ (by simp) rfl (by decide) (by decide)
          obtain ⟨g6, e65, hh6⟩ : ∃ g, a.tmps.getD 65 undef = .slice (some ⟨g, 0, none⟩) 1 1 ∧ w.heap[g]? = some (.cells #[.bool na, .string ca, .string da] 26 (0, 0)) := e6
          have hown : w.ownsRow wr.heap.size 26 3 (a.tmps.getD 63 undef) gl.length (cells3 gl) := e4
          obtain ⟨v4, hv4⟩ : ∃ v, a.tmps.getD 63 undef = v := ⟨_, rfl⟩
          rw [hv4] at hown
          obtain ⟨v', w'', hrun, r1, r2⟩ := app_one (r := ⟨na, ca, da⟩) hown hh6 hR.below.size (by rw [HLN.out]; omega)
          have hbel := below_own hR.below hown r2 (Nat.le_refl _)
          refine plain_step rfl rfl ?_
          refine wp_append_run (.tmp 63) (.tmp 65) 43 rfl _ _ v' w'' hv4 e65 hrun ?_
          refine hK _ _ r1 hbel ?_
          intro j u hj hji hu hl hfr hS
          have hjj : j = 0 ∨ j = 1 ∨ j = 2 ∨ j = 3 ∨ j = 4 ∨ j = 5 ∨ j = 6 ∨ j = 7 ∨ j = 8 ∨ j = 9 := by omega
          rcases hjj with rfl | rfl | rfl | rfl | rfl | rfl | rfl | rfl | rfl | rfl
          · exact hS
          · exact hS
          · exact absurd (hR.ups ⟨4, .data⟩ (by simp) rfl) (by rw [show listed.getD 4 false = false from hfr 4 rfl]; simp)
          · exact hS
          · exact absurd rfl hu
          · exact hS
          · exact absurd rfl hu
          · exact absurd rfl hji
          · exact absurd (hR.closed 8 _ rfl hl ⟨7, .data⟩ (by simp) rfl) (by rw [hR.un]; simp)
          · obtain ⟨g, e1, e3, e4⟩ := hS; exact ⟨g, e1, grown_keep r2 e3 (fun e => by rcases hown.2 with ⟨rfl, -⟩ | ⟨g', cap, cur, rfl, -, hh, -⟩; cases e; injection e with e; subst e; rw [hh] at e3; injection e3 with e3; injection e3 with _ e3 _; exact absurd e3 (by decide)), e4⟩
        · simp at ho
          subst ho
          have e0 : a.tmps.getD 59 undef = .slice pa k cpa := hR.dep ⟨0, .data⟩ (by simp) rfl (by decide) (by decide)
          have e1 : a.tmps.getD 60 undef = .slice pg k cg := hR.dep ⟨1, .data⟩ (by simp) rfl (by decide) (by decide)
          have e7 := hR.dep ⟨7, .data⟩ (by simp) rfl (by decide) (by decide)
          have g0 := e0
          rw [Array.getD_eq_getD_getElem?] at g0
          have g1 := e1
          rw [Array.getD_eq_getD_getElem?] at g1
          have hown : w.ownsRow wr.heap.size 26 3 (a.tmps.getD 66 undef) (gl.length + 1) (cells3 (gl ++ [⟨na, ca, da⟩])) := e7
          obtain ⟨p7, c7, h7, -⟩ := own_slice hown
          rw [h7] at hown
          have g7 := h7
          rw [Array.getD_eq_getD_getElem?] at g7
          refine plain_step rfl rfl ?_
          go_simp
          exact hKB _ _ (⟨p7, c7, rfl, hown⟩) (Below.refl _ _)
        · simp at ho
          subst ho
          refine plain_step rfl rfl ?_
          go_simp
          exact hKB _ _ (⟨_, rfl, heap_alloc_new _ _, hR.below.size⟩) ((Below.refl _ _).alloc (Nat.le_refl _) _)
      · intro s w hS hb
        have e8 := hS 8 (by decide) rfl
        have e9 := hS 9 (by decide) rfl
        simp only [over, Nat.zero_add, Nat.reduceAdd, Nat.reduceLeDiff, Nat.reduceLT, decide_true, decide_false, Bool.and_true, Bool.and_false, Bool.or_false, Bool.or_true, cond_true, cond_false]
        obtain ⟨g, eg, hg, hge⟩ : ∃ g, s 10 = .pointer (some ⟨g, 0, none⟩) ∧ w.heap[g]? = some (.cells #[.slice none 0 0, .slice none 0 0, .slice none 0 0] 45 (0, 0)) ∧ wr.heap.size ≤ g := e9
        obtain ⟨p8, c8, e67, hown8⟩ : ∃ p c, s 67 = .agg #[.slice pa k cpa, .slice pg k cg, .slice p (gl.length + 1) c] ∧ w.ownsRow wr.heap.size 26 3 (.slice p (gl.length + 1) c) (gl.length + 1) (cells3 (gl ++ [(⟨na, ca, da⟩ : Rw)])) := e8
        obtain ⟨⟨cg0, cg1, cg2⟩, hfg⟩ := row_cells hg
        have fg0 := hfg 0; have fg1 := hfg 1; have fg2 := hfg 2
        refine tail_step (n := 0) rfl rfl ?_
        go_simp
        simp only [wpTail]
        have q1 := row_set0 hg (.slice pa k cpa)
        have q2 := row_set1 q1 (.slice pg k cg)
        have hrow := row_set2 q2 (.slice p8 (gl.length + 1) c8)
        have hown9 := own_set (k := 2) (u := .slice p8 (gl.length + 1) c8) (own_set (k := 1) (u := .slice pg k cg) (own_set (k := 0) (u := .slice pa k cpa) hown8 hg (by decide)) q1 (by decide)) q2 (by decide)
        have hbw := below_row (HB.out.trans (hb.mono HB.out.size)) (b := g) (Nat.le_trans HB.out.size hge) (.slice pa k cpa) (.slice pg k cg) (.slice p8 (gl.length + 1) c8)
        have hbr := below_row hb hge (.slice pa k cpa) (.slice pg k cg) (.slice p8 (gl.length + 1) c8)
        obtain ⟨W9, hW9⟩ : ∃ W, ((w.setCell ⟨g, 0, none⟩ (.slice pa k cpa)).setCell ⟨g, 1, none⟩ (.slice pg k cg)).setCell ⟨g, 2, none⟩ (.slice p8 (gl.length + 1) c8) = W := ⟨_, rfl⟩
        rw [hW9] at hrow hbw hbr hown9 ⊢
        have HB := Lib.hid hbw; have HG9 := Lib.hid hrow
        have HL0 := Lib.hid (HLA.out.up hbr)
        have HL1 : Hid (LstR W9 (.slice pg k cg) gl) := Lib.hid (by have h := own_lstR HGL.out (by rw [HLN.out]; omega); rw [HLN.out] at h; exact h.up hbr)
        have HL2 : Hid (LstR W9 (.slice p8 (gl.length + 1) c8) (gl ++ [⟨na, ca, da⟩])) := Lib.hid (own_lstR (by rw [List.length_append]; exact hown9) (by rw [List.length_append, HLN.out]; simp; omega))
        have HTAB : Hid (∀ j, j < 3 → ∃ p m c l, (#[Value.slice pa k cpa, .slice pg k cg, .slice p8 (gl.length + 1) c8])[j]? = some (.slice p m c) ∧ LstR W9 (.slice p m c) l ∧ l.length ≤ 20 ∧ SzL l 1000) := Lib.hid fun j hj => by
          have hjj : j = 0 ∨ j = 1 ∨ j = 2 := by omega
          rcases hjj with rfl | rfl | rfl
          · exact ⟨pa, k, cpa, _, rfl, HL0.out, by rw [List.length_map, HN.out]; omega, rawL_sz HOK.out⟩
          · exact ⟨pg, k, cg, _, rfl, HL1.out, by rw [HLN.out]; omega, by rw [← HGE.out]; exact goodL_sz HOK.out⟩
          · refine ⟨p8, gl.length + 1, c8, _, rfl, HL2.out, by rw [List.length_append, HLN.out]; simp; omega, fun r hr => ?_⟩
            rcases List.mem_append.1 hr with h | h
            · rw [← HGE.out] at h; exact goodL_sz HOK.out r h
            · rw [List.mem_singleton.1 h]; exact ⟨by have := HZca.out; show ca.size ≤ 1000; omega, by have := HZda.out; show da.size ≤ 1000; omega⟩
        clear hW9 hrow hbw hbr hown9 hown8 q1 q2 hS hb e67 cg0 cg1 cg2 hfg fg0 fg1 fg2 hg hge
        go_wp2_with fail
        go_loopw [11] (fun i wx => ∃ j : Nat, j ≤ 3 ∧ i = .int .i64 (j : Int) ∧ Hid (Below W9.heap.size W9 wx)) (fun i _ => 3 - (intOf i).toNat)
        case atStart => exact ⟨0, by omega, rfl, Lib.hid (Below.refl _ _)⟩
        case round =>
          obtain ⟨j, hj, rfl, HBX⟩ := hrel
          by_cases hlt : j < 3
          · obtain ⟨p, m, c, l, hx, hl, hll, hsz⟩ := HTAB.out j hlt
            have HCX : Hid (∀ W, Below W9.heap.size W9 W → W.cell? ⟨g, j, none⟩ = some (.slice p m c)) := Lib.hid fun W h => by rw [Lib.cell_of_heap (heap_up h HG9.out)]; exact hx
            obtain ⟨cd, hcd⟩ : ∃ d, comD l = d := ⟨_, rfl⟩
            obtain ⟨cn, hcn⟩ : ∃ d, comN l = d := ⟨_, rfl⟩
            obtain ⟨ck, hck⟩ : ∃ d, oksL l = d := ⟨_, rfl⟩
            have HQ1 := Lib.hid (fun W (h : Below W9.heap.size W9 W) => Common_any l _ W (hl.up h) hll hsz)
            have HQ2 := Lib.hid (fun W (h : Below W9.heap.size W9 W) => rCommon_any l _ W (hl.up h) hll hsz)
            rw [hcd, hcn, hck] at HQ1 HQ2
            have cx := HCX.out _ HBX.out
            have hlt' : (j : Int) < 3 := by omega
            clear hx hl hll hsz hlt hcd hcn hck
            go_wp2_with fail
            refine (HQ1.out _ HBX.out).mono ?_
            rintro e x2 ⟨v1, rfl, hn1, hb1⟩
            have HB2 := Lib.hid (HBX.out.trans (hb1.mono HBX.out.size))
            have HN1 := Lib.hid hn1
            clear hb1 hn1 cx
            have cx := HCX.out _ HB2.out
            go_wp2_with fail
            refine (HQ2.out _ HB2.out).mono ?_
            rintro e x3 ⟨v2, rfl, hn2, hb2⟩
            have HB3 := Lib.hid (HB2.out.trans (hb2.mono HB2.out.size))
            have HN1 := Lib.hid (HN1.out.up hb2)
            have HN2 := Lib.hid hn2
            clear hb2 hn2 cx
            go_wp2_with fail
            refine (Same_any cn cn v1 v2 _ HN1.out HN2.out).mono ?_
            rintro e x4 ⟨rfl, hb3⟩
            have HB4 := Lib.hid (HB3.out.trans (hb3.mono HB3.out.size))
            clear hb3
            rw [decide_eq_true rfl]
            go_wp2_with fail
            go_roundw
            case rel => exact ⟨j + 1, by omega, by go_num, HB4⟩
            case measure => simp [intOf]; omega
          · have hj3 : j = 3 := by omega
            subst hj3
            clear hlt
            have HB := Lib.hid (HB.out.trans (HBX.out.mono HB.out.size))
            have HGW := Lib.hid (HL1.out.up HBX.out)
            obtain ⟨D, hD⟩ : ∃ D, lcmL gl 1 = D := ⟨_, rfl⟩
            have hoks : oksL gl = true := by rw [← HGE.out]; exact goodL_oks HOK.out
            have hsz : SzL gl 1000 := by rw [← HGE.out]; exact goodL_sz HOK.out
            have hlen : gl.length ≤ 20 := by rw [HLN.out]; omega
            have hDs : Sz D 20001 := by rw [← hD]; exact (lcmL_sz gl 1 1 1000 hsz sz_one).mono (by have : gl.length ≤ 20 := hlen; omega)
            have hDp : 0 < D := by rw [← hD]; exact lcmL_pos gl 1 (oksL_pos hoks) Nat.one_pos
            have hat : ∀ q (h : q < gl.length), ∃ m : Rt, m.Ok ∧ Rz m 32 ∧ gl[q] = rawR (absT m) := fun q h => by
              have hq : q < la.length := by rw [HN.out]; rw [HLN.out] at h; exact h
              refine ⟨la[q], (HOK.out _ (List.getElem_mem hq)).1, (HOK.out _ (List.getElem_mem hq)).2, ?_⟩
              have hge := HGE.out
              subst hge
              simp [goodL]
            have HAT : Hid (∀ q (h : q < gl.length), ∃ m : Rt, gl[q] = rawR (absT m) ∧ (numsL gl D)[q]'(by rw [numsL_len]; exact h) = m.num * (D / m.den) ∧ ∀ w, Calls Tryz.prog 11 #[.bool false, .string (encS (m.num * (D / m.den))), .string (encS D)] w fun e w' => e = .returned (.tuple #[rtV (absT m), .bool true]) ∧ Below w.heap.size w w') := Lib.hid fun q h => by
              obtain ⟨m, ho, hz, hg⟩ := hat q h
              refine ⟨m, hg, ?_, fun w => ?_⟩
              · simp only [numsL, List.getElem_map, hg, rawR, numS_encS, absT]
              · have hd : m.den ∣ D := by
                  have := den_dvd gl 1 gl[q] (List.getElem_mem h)
                  rw [hg, hD] at this
                  simpa [rawR, absT, numS_encS] using this
                have hm := RatMake_any false (encS (m.num * (D / m.den))) (encS D) w (Nat.le_trans (encS_size_lt (hz.1.mul (hDs.div _))) (by decide)) (Nat.le_trans (encS_size_lt hDs) (by decide))
                rw [make_good ho hDp hd] at hm
                exact hm
            have HADD : Hid (∀ q (h : q < gl.length) w, Calls Tryz.prog 27 #[rtV (sumL (gl.take q) zeroR), .agg #[.bool gl[q].neg, .string gl[q].n, .string gl[q].d]] w fun e w' => e = .returned (rtV (sumL (gl.take (q + 1)) zeroR)) ∧ Below w.heap.size w w') := Lib.hid fun q h w => by
              have hh := sumR_step hlen hsz zeroR_ok (zeroR_sz.mono (by decide)) h
              rw [sumL_take h]
              exact RatAdd_r hh.1 hh.2 (by decide) (by decide) w
            obtain ⟨T, hT⟩ : ∃ T, sumL gl zeroR = T := ⟨_, rfl⟩
            have HTT := Lib.hid hT
            have HSU : Hid (∀ W, LstR W (.slice pg k cg) gl → Calls Tryz.prog 28 #[.slice pg k cg] W fun e w' => e = .returned (.agg #[.bool T.neg, .string (encS T.num), .string (encS T.den)]) ∧ Below W.heap.size W w') := Lib.hid fun W h => by
              have hh := Sum_any gl _ W h hlen hsz
              rw [hT] at hh; exact hh
            have HQ3 : Hid (∀ W, LstR W (.slice pg k cg) gl → Calls Tryz.prog 24 #[.slice pg k cg] W fun e w' => ∃ v', e = .returned (.tuple #[.string (encS D), v', .bool true]) ∧ LstN w' v' (numsL gl D) ∧ Below W.heap.size W w') := Lib.hid fun W h => by
              have hh := Common_any gl _ W h hlen hsz
              unfold comD comN at hh
              rw [if_pos hoks, if_pos hoks, hoks, hD] at hh
              exact hh
            obtain ⟨z, hz⟩ : ∃ z, zeroR = z := ⟨_, rfl⟩
            have HZZ := Lib.hid hz
            have HO0 : Hid (∀ w, Calls Tryz.prog 15 #[.int .i64 0] w fun e w' => e = .returned (.agg #[.bool z.neg, .string (encS z.num), .string (encS z.den)]) ∧ Below w.heap.size w w') := Lib.hid fun w => by
              have hh := RatOf_any 0 w (by decide) (by decide)
              rw [ofR_zero, hz] at hh; exact hh
            clear hD hoks hsz hlen hDs hDp hat hT hz
            go_wp2_with fail
            refine (HQ3.out _ HGW.out).mono ?_
            rintro e y1 ⟨vn, rfl, hn, hb⟩
            have HGW := Lib.hid (HGW.out.up hb)
            have HB := Lib.hid (HB.out.trans (hb.mono HB.out.size))
            obtain ⟨pn, cn, hvn, -, hnc⟩ := hn.open
            rw [numsL_len, HLN.out] at hvn
            subst hvn
            have HNC := Lib.hid hnc
            clear hb hn hnc
            go_wp2_with fail
            refine (HO0.out _).mono ?_
            rintro e y2 ⟨rfl, hb⟩
            have HGW := Lib.hid (HGW.out.up hb)
            have HB := Lib.hid (HB.out.trans (hb.mono HB.out.size))
            have HNC : Hid (∀ q (h : q < (numsL gl D).length), ∃ g off, pn = some ⟨g, off, none⟩ ∧ g < y2.heap.size ∧ ∀ W, Below y2.heap.size y2 W → W.cell? ⟨g, off + q, none⟩ = some (.string (encS (numsL gl D)[q]))) := Lib.hid fun q h => by
              obtain ⟨g, off, e1, e2, e3⟩ := HNC.out q h
              have hg2 : g < y2.heap.size := Nat.lt_of_lt_of_le e2 hb.size
              exact ⟨g, off, e1, hg2, fun W hW => by rw [cell_up hW hg2, cell_up hb e2]; exact e3⟩
            have hX := heap_alloc_new y2 (.cells #[.bool z.neg, .string (encS z.num), .string (encS z.den)] 26)
            have hBa := (Below.refl y2.heap.size y2).alloc (Nat.le_refl _) (.cells #[.bool z.neg, .string (encS z.num), .string (encS z.den)] 26)
            obtain ⟨Y, hY⟩ : ∃ Y, y2.alloc (.cells #[.bool z.neg, .string (encS z.num), .string (encS z.den)] 26) = Y := ⟨_, rfl⟩
            rw [hY] at hX hBa
            clear hb
            go_wp2_with fail
            clear hY
            obtain ⟨b21, hb21⟩ : ∃ b, y2.heap.size = b := ⟨_, rfl⟩
            have HBB : Hid (y2.heap.size ≤ b21) := Lib.hid (by omega)
            rw [hb21] at hX ⊢
            have HS0 : Hid (Y.heap[b21]? = some (.cells #[.bool (sumL (gl.take 0) zeroR).neg, .string (encS (sumL (gl.take 0) zeroR).num), .string (encS (sumL (gl.take 0) zeroR).den)] 26 (0, 0))) := Lib.hid (by have h0 : sumL (gl.take 0) zeroR = z := HZZ.out; rw [h0]; exact hX)
            have HBA := Lib.hid hBa
            clear hX hBa hb21
            go_loopw [22] (fun i wr => ∃ q : Nat, q ≤ k ∧ i = .int .i64 (q : Int) ∧ Hid (wr.heap[b21]? = some (.cells #[.bool (sumL (gl.take q) zeroR).neg, .string (encS (sumL (gl.take q) zeroR).num), .string (encS (sumL (gl.take q) zeroR).den)] 26 (0, 0))) ∧ Hid (Below y2.heap.size y2 wr)) (fun i _ => k - (intOf i).toNat)
            case atStart => exact ⟨0, by omega, rfl, HS0, HBA⟩
            case round =>
              obtain ⟨q, hq, rfl, HSQ, HBZ⟩ := hrel
              by_cases hlt : q < k
              · have hqg : q < gl.length := by rw [HLN.out]; exact hlt
                have hqn : q < (numsL gl D).length := by rw [numsL_len]; exact hqg
                obtain ⟨g1, off1, rfl, hg1, hcn⟩ := HNC.out q hqn
                obtain ⟨m, hgq, hnq, hmk⟩ := HAT.out q hqg
                obtain ⟨t, ht⟩ : ∃ t, absT m = t := ⟨_, rfl⟩
                obtain ⟨s0, hs0⟩ : ∃ s, sumL (gl.take q) zeroR = s := ⟨_, rfl⟩
                obtain ⟨s1, hs1⟩ : ∃ s, sumL (gl.take (q + 1)) zeroR = s := ⟨_, rfl⟩
                have hadd := HADD.out q hqg
                rw [hs0, hs1, hgq, ht] at hadd
                have HAD : Hid (∀ w, Calls Tryz.prog 27 #[.agg #[.bool s0.neg, .string (encS s0.num), .string (encS s0.den)], .agg #[.bool t.neg, .string (encS t.num), .string (encS t.den)]] w fun e w' => e = .returned (.agg #[.bool s1.neg, .string (encS s1.num), .string (encS s1.den)]) ∧ Below w.heap.size w w') := Lib.hid hadd
                rw [hs0] at HSQ
                rw [ht] at hmk
                obtain ⟨X, hXe⟩ : ∃ X, encS (m.num * (D / m.den)) = X := ⟨_, rfl⟩
                rw [hXe] at hmk
                have HMK : Hid (∀ w, Calls Tryz.prog 11 #[.bool false, .string X, .string (encS D)] w fun e w' => e = .returned (.tuple #[.agg #[.bool t.neg, .string (encS t.num), .string (encS t.den)], .bool true]) ∧ Below w.heap.size w w') := Lib.hid hmk
                have cn0 := hcn _ HBZ.out
                rw [hnq, hXe] at cn0
                have hgc := HGW.out.open
                obtain ⟨p', cap', hp', -, hgc⟩ := hgc
                obtain ⟨g2, off2, rfl, hg2, hc⟩ := hgc q hqg
                have hpg : pg = some ⟨g2, off2, none⟩ := by injection hp'
                subst hpg
                rw [hgq, ht] at hc
                have HGC0 : Hid (∀ W, Below y2.heap.size y2 W → W.cell? ⟨g2, off2 + q * 3, none⟩ = some (.bool t.neg) ∧ W.cell? ⟨g2, off2 + q * 3 + 1, none⟩ = some (.string (encS t.num)) ∧ W.cell? ⟨g2, off2 + q * 3 + 2, none⟩ = some (.string (encS t.den))) := Lib.hid fun W hW => by
                  rw [cell_up hW hg2, cell_up hW hg2, cell_up hW hg2]; exact hc
                have HS1 := Lib.hid hs1
                have HQK : Hid ((q : Int) < (k : Int)) := Lib.hid (by omega)
                have hq' := HQK.out
                clear hcn hmk hadd hs0 hs1 hgq hnq ht hXe hgc hc hp' hqg hqn hlt
                go_wp2_with fail
                refine (HMK.out _).mono ?_
                rintro e z1 ⟨rfl, hb⟩
                have HBZ := Lib.hid (HBZ.out.trans (hb.mono HBZ.out.size))
                have HSQ := Lib.hid (heap_up hb HSQ.out)
                have hX := heap_alloc_new z1 (.cells #[.bool t.neg, .string (encS t.num), .string (encS t.den)] 26)
                have HSQ := Lib.hid (heap_up ((Below.refl _ z1).alloc (Nat.le_refl _) (.cells #[.bool t.neg, .string (encS t.num), .string (encS t.den)] 26)) HSQ.out)
                have HBZ := Lib.hid (HBZ.out.alloc HBZ.out.size (.cells #[.bool t.neg, .string (encS t.num), .string (encS t.den)] 26))
                obtain ⟨Z, hZ⟩ : ∃ Z, z1.alloc (.cells #[.bool t.neg, .string (encS t.num), .string (encS t.den)] 26) = Z := ⟨_, rfl⟩
                rw [hZ] at hX HSQ HBZ
                clear hb cn0
                go_wp2_with fail
                clear hZ
                obtain ⟨b23, hb23⟩ : ∃ b, z1.heap.size = b := ⟨_, rfl⟩
                rw [hb23] at hX ⊢
                have HX23 := Lib.hid hX
                have HGC : Hid (∀ W, Below Z.heap.size Z W → W.cell? ⟨g2, off2 + q * 3, none⟩ = some (.bool t.neg) ∧ W.cell? ⟨g2, off2 + q * 3 + 1, none⟩ = some (.string (encS t.num)) ∧ W.cell? ⟨g2, off2 + q * 3 + 2, none⟩ = some (.string (encS t.den))) := Lib.hid fun W hW => HGC0.out W (HBZ.out.trans (hW.mono HBZ.out.size))
                clear hX hb23 hq'
                refine wp_region_vals (w := Z) (by kernel_rfl) (SU3 g2 off2 k cg q b23 t) (fun t => (decide (133 ≤ t) && decide (t < 143))) (by kernel_rfl) (by kernel_rfl) (by kernel_rfl) (SU3_up g2 off2 k cg q b23 t) ?_ ?_
                · intro i hi o listed a w hR K hK
                  have ho := hR.at_
                  have hi : i < 10 := hi
                  have hii : i = 0 ∨ i = 1 ∨ i = 2 ∨ i = 3 ∨ i = 4 ∨ i = 5 ∨ i = 6 ∨ i = 7 ∨ i = 8 ∨ i = 9 := by omega
                  rcases hii with rfl | rfl | rfl | rfl | rfl | rfl | rfl | rfl | rfl | rfl
                  · simp at ho
                    subst ho
                    have b24 : a.tmps.getD 24 undef = .bool true := hR.base 24 (by kernel_rfl)
                    refine plain_step rfl rfl ?_
                    go_simp
                    exact hK _ _ (rfl) (Below.refl _ _)
                  · simp at ho
                    subst ho
                    have e0 : a.tmps.getD 133 undef = .bool true := hR.dep ⟨0, .data⟩ (by simp) rfl
                    refine plain_step rfl rfl ?_
                    go_simp
                    exact hK _ _ (rfl) (Below.refl _ _)
                  · simp at ho
                    subst ho
                    have e1 : a.tmps.getD 134 undef = .bool false := hR.dep ⟨1, .data⟩ (by simp) rfl
                    refine plain_step rfl rfl ?_
                    go_simp
                    exact hK _ _ (rfl) (Below.refl _ _)
                  · simp at ho
                    subst ho
                    have e2 : a.tmps.getD 135 undef = .bool false := hR.dep ⟨2, .guard⟩ (by simp) rfl
                    have b23 : a.tmps.getD 23 undef = .pointer (some ⟨b23, 0, none⟩) := hR.base 23 (by kernel_rfl)
                    obtain ⟨⟨cx0, cx1, cx2⟩, -⟩ := row_cells (heap_up hR.below HX23.out)
                    refine guard_step rfl rfl rfl (b := false) e2 ?_
                    go_simp
                    exact hK _ _ (rfl) (Below.refl _ _)
                  · simp at ho
                    subst ho
                    have e2 : a.tmps.getD 135 undef = .bool false := hR.dep ⟨2, .guard⟩ (by simp) rfl
                    have b7 : a.tmps.getD 7 undef = .slice (some ⟨g2, off2, none⟩) k cg := hR.base 7 (by kernel_rfl)
                    refine guard_step rfl rfl rfl (b := false) e2 ?_
                    go_simp
                    exact hK _ _ (rfl) (Below.refl _ _)
                  · simp at ho
                    subst ho
                    have e2 : a.tmps.getD 135 undef = .bool false := hR.dep ⟨2, .guard⟩ (by simp) rfl
                    have b22 : a.tmps.getD 22 undef = .int .i64 (q : Int) := hR.base 22 (by kernel_rfl)
                    refine guard_step rfl rfl rfl (b := false) e2 ?_
                    go_simp
                    exact hK _ _ (rfl) (Below.refl _ _)
                  · simp at ho
                    subst ho
                    have e4 : a.tmps.getD 137 undef = .slice (some ⟨g2, off2, none⟩) k cg := hR.dep ⟨4, .data⟩ (by simp) rfl
                    have e5 : a.tmps.getD 138 undef = .int .i64 (q : Int) := hR.dep ⟨5, .data⟩ (by simp) rfl
                    have e2 : a.tmps.getD 135 undef = .bool false := hR.dep ⟨2, .guard⟩ (by simp) rfl
                    have hq := HQK.out
                    refine guard_step rfl rfl rfl (b := false) e2 ?_
                    go_simp
                    exact hK _ _ (rfl) (Below.refl _ _)
                  · simp at ho
                    subst ho
                    have e6 : a.tmps.getD 139 undef = .pointer (some ⟨g2, off2 + q * 3, none⟩) := hR.dep ⟨6, .data⟩ (by simp) rfl
                    have e2 : a.tmps.getD 135 undef = .bool false := hR.dep ⟨2, .guard⟩ (by simp) rfl
                    obtain ⟨cx0, cx1, cx2⟩ := HGC.out w hR.below
                    refine guard_step rfl rfl rfl (b := false) e2 ?_
                    go_simp
                    exact hK _ _ (rfl) (Below.refl _ _)
                  · simp at ho
                    subst ho
                    have e3 : a.tmps.getD 136 undef = .agg #[.bool t.neg, .string (encS t.num), .string (encS t.den)] := hR.dep ⟨3, .data⟩ (by simp) rfl
                    have e7 : a.tmps.getD 140 undef = .agg #[.bool t.neg, .string (encS t.num), .string (encS t.den)] := hR.dep ⟨7, .data⟩ (by simp) rfl
                    have e2 : a.tmps.getD 135 undef = .bool false := hR.dep ⟨2, .guard⟩ (by simp) rfl
                    refine guard_step rfl rfl rfl (b := false) e2 ?_
                    go_simp
                    exact hK _ _ (rfl) (Below.refl _ _)
                  · simp at ho
                    subst ho
                    have e2 : a.tmps.getD 135 undef = .bool false := hR.dep ⟨2, .data⟩ (by simp) rfl
                    have e8 : a.tmps.getD 141 undef = .bool false := hR.dep ⟨8, .data⟩ (by simp) rfl
                    refine plain_step rfl rfl ?_
                    go_simp
                    exact hK _ _ (rfl) (Below.refl _ _)
                · intro s w hS hb
                  have e9 : s 142 = .bool false := hS 9 (by decide)
                  simp only [over, Nat.zero_add, Nat.reduceAdd, Nat.reduceLeDiff, Nat.reduceLT, decide_true, decide_false, Bool.and_true, Bool.and_false, cond_true, cond_false]
                  have HSQ := Lib.hid (heap_up hb HSQ.out)
                  have HX23 := Lib.hid (heap_up hb HX23.out)
                  have HBZ := Lib.hid (HBZ.out.trans (hb.mono HBZ.out.size))
                  obtain ⟨z8, hz8⟩ : ∃ z8, z8 = w := ⟨_, rfl⟩
                  subst hz8
                  rw [e9]
                  clear hS hb e9
                  obtain ⟨⟨k0a, k0b, k0c⟩, fk⟩ := row_cells HSQ.out
                  obtain ⟨⟨k1a, k1b, k1c⟩, -⟩ := row_cells HX23.out
                  go_wp2_with fail
                  clear k0a k0b k0c k1a k1b k1c fk
                  refine (HAD.out _).mono ?_
                  rintro e z9 ⟨rfl, hb⟩
                  have HSQ := Lib.hid (heap_up hb HSQ.out)
                  have HBZ := Lib.hid (HBZ.out.trans (hb.mono HBZ.out.size))
                  obtain ⟨⟨k0a, k0b, k0c⟩, fk⟩ := row_cells HSQ.out
                  have fk0 := fk 0; have fk1 := fk 1; have fk2 := fk 2
                  clear hb fk
                  go_wp2_with fail
                  go_roundw
                  case rel => exact ⟨q + 1, by have := HQK.out; omega, by go_num, Lib.hid (by rw [HS1.out]; exact row_set HSQ.out _ _ _), Lib.hid (below_row HBZ.out HBB.out _ _ _)⟩
                  case measure => have := HQK.out; simp [intOf]; omega
              · have hqk : q = k := by omega
                subst hqk
                have HS21 : Hid (wr.heap[b21]? = some (.cells #[.bool T.neg, .string (encS T.num), .string (encS T.den)] 26 (0, 0))) := Lib.hid (by have h := HSQ.out; rwa [List.take_of_length_le (by rw [HLN.out]; omega), HTT.out] at h)
                have HSUM : Hid (∀ W, Below wr.heap.size wr W → Calls Tryz.prog 28 #[.slice pg q cg] W fun e w' => e = .returned (.agg #[.bool T.neg, .string (encS T.num), .string (encS T.den)]) ∧ Below W.heap.size W w') := Lib.hid fun W h => HSU.out W (HGW.out.up (HBZ.out.trans (h.mono HBZ.out.size)))
                have HB := Lib.hid (HB.out.trans (HBZ.out.mono HB.out.size))
                have hge : ¬ (q : Int) < (q : Int) := by omega
                clear hlt HSQ
                go_wp2_with fail
                refine wp_region_vals (w := wr) (by kernel_rfl) (SU4 pg q cg b21 T) (fun t => (decide (4 ≤ t) && decide (t < 5)) || (decide (146 ≤ t) && decide (t < 153))) (by kernel_rfl) (by kernel_rfl) (by kernel_rfl) (SU4_up pg q cg b21 T) ?_ ?_
                · intro i hi o listed a w hR K hK
                  have ho := hR.at_
                  have hi : i < 8 := hi
                  have hii : i = 0 ∨ i = 1 ∨ i = 2 ∨ i = 3 ∨ i = 4 ∨ i = 5 ∨ i = 6 ∨ i = 7 := by omega
                  rcases hii with rfl | rfl | rfl | rfl | rfl | rfl | rfl | rfl
                  · simp at ho
                    subst ho
                    have b5 : a.tmps.getD 5 undef = .bool true := hR.base 5 (by kernel_rfl)
                    refine plain_step rfl rfl ?_
                    go_simp
                    exact hK _ _ (rfl) (Below.refl _ _)
                  · simp at ho
                    subst ho
                    have e0 : a.tmps.getD 146 undef = .bool true := hR.dep ⟨0, .data⟩ (by simp) rfl
                    refine plain_step rfl rfl ?_
                    go_simp
                    exact hK _ _ (rfl) (Below.refl _ _)
                  · simp at ho
                    subst ho
                    have e1 : a.tmps.getD 147 undef = .bool true := hR.dep ⟨1, .guard⟩ (by simp) rfl
                    have b21 : a.tmps.getD 21 undef = .pointer (some ⟨b21, 0, none⟩) := hR.base 21 (by kernel_rfl)
                    obtain ⟨⟨cx0, cx1, cx2⟩, -⟩ := row_cells (heap_up hR.below HS21.out)
                    refine guard_step rfl rfl rfl (b := true) e1 ?_
                    go_simp
                    exact hK _ _ (rfl) (Below.refl _ _)
                  · simp at ho
                    subst ho
                    have e1 : a.tmps.getD 147 undef = .bool true := hR.dep ⟨1, .guard⟩ (by simp) rfl
                    have b7 : a.tmps.getD 7 undef = .slice pg q cg := hR.base 7 (by kernel_rfl)
                    refine guard_step rfl rfl rfl (b := true) e1 ?_
                    go_simp
                    exact hK _ _ (rfl) (Below.refl _ _)
                  · simp at ho
                    subst ho
                    have e3 : a.tmps.getD 149 undef = .slice pg q cg := hR.dep ⟨3, .data⟩ (by simp) rfl
                    have e1 : a.tmps.getD 147 undef = .bool true := hR.dep ⟨1, .guard⟩ (by simp) rfl
                    refine guard_step rfl rfl rfl (b := true) e1 ?_
                    go_simp
                    refine (HSUM.out w hR.below).mono ?_
                    rintro e w' ⟨rfl, hb⟩
                    exact hK _ _ (rfl) hb
                  · simp at ho
                    subst ho
                    have e2 : a.tmps.getD 148 undef = .agg #[.bool T.neg, .string (encS T.num), .string (encS T.den)] := hR.dep ⟨2, .data⟩ (by simp) rfl
                    have e4 : a.tmps.getD 150 undef = .agg #[.bool T.neg, .string (encS T.num), .string (encS T.den)] := hR.dep ⟨4, .data⟩ (by simp) rfl
                    have e1 : a.tmps.getD 147 undef = .bool true := hR.dep ⟨1, .guard⟩ (by simp) rfl
                    refine guard_step rfl rfl rfl (b := true) e1 ?_
                    go_simp
                    exact hK _ _ (rfl) (Below.refl _ _)
                  · simp at ho
                    subst ho
                    have e1 : a.tmps.getD 147 undef = .bool true := hR.dep ⟨1, .data⟩ (by simp) rfl
                    have e5 : a.tmps.getD 151 undef = .bool true := hR.dep ⟨5, .data⟩ (by simp) rfl
                    refine plain_step rfl rfl ?_
                    go_simp
                    exact hK _ _ (rfl) (Below.refl _ _)
                  · simp at ho
                    subst ho
                    have e6 : a.tmps.getD 152 undef = .bool true := hR.dep ⟨6, .data⟩ (by simp) rfl
                    refine plain_step rfl rfl ?_
                    go_simp
                    exact hK _ _ (rfl) (Below.refl _ _)
                · intro s w hS hb
                  have e7 : s 4 = .bool true := hS 7 (by decide)
                  simp only [over, Nat.zero_add, Nat.reduceAdd, Nat.reduceLeDiff, Nat.reduceLT, decide_true, decide_false, Bool.and_true, Bool.and_false, Bool.or_false, Bool.or_true, cond_true, cond_false]
                  obtain ⟨z8, hz8⟩ : ∃ z8, z8 = w := ⟨_, rfl⟩
                  subst hz8
                  rw [e7]
                  have HB := Lib.hid (HB.out.trans (hb.mono HB.out.size))
                  clear hS hb e7
                  go_wp2_with fail
                  go_ret
                  exact ⟨rfl, HB.out⟩
end Go.Proofs.YtancflpioigjbaaGreatDoor.ratioCommon
