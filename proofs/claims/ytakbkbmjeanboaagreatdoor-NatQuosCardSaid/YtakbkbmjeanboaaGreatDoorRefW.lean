/- number of the reference implementation. Each theorem names its conditions. -/
import Derived.Test.YtakbkbmjeanboaaGreatDoorRefV
import Derived.Test.YtakbkbmjeanboaaGreatDoorRgl
namespace Go.Proofs.YtakbkbmjeanboaaGreatDoor
open Go.RowKit Go.Shelf
open Dgt
set_option linter.unusedVariables false

theorem cells_fresh (w : World) (xs : List Value) (t : TypeId) : ∀ (j : Nat) (u : Value), xs[j]? = some u → (w.alloc (.cells xs.toArray t)).cell? ((⟨w.heap.size, 0, none⟩ : Addr).add j) = some u := by
  intro j u h
  have e : (⟨w.heap.size, 0, none⟩ : Addr).add j = ⟨w.heap.size, j, none⟩ := by cases j <;> simp [Addr.add]
  rw [e, Lib.cell_of_heap (heap_alloc_new w _)]
  simpa using h
theorem three_val {x V : Nat} {b : List Nat} (hx : x < 16777216) (hv : valB 256 b.reverse = V) : valB 256 (b ++ [x / 65536, x / 256 % 256, x % 256]).reverse = x + 16777216 * V := by
  rw [List.reverse_append]
  simp only [List.reverse_cons, List.reverse_nil, List.nil_append, List.cons_append, valB, hv]
  omega
theorem drop_val {l : List Nat} {k : Nat} (h : k < l.length) : valB 16777216 (l.drop k) = l[k] + 16777216 * valB 16777216 (l.drop (k + 1)) := by
  rw [List.drop_eq_getElem_cons h]; rfl
theorem own_up {B size : Nat} {A W : World} {e : TypeId} {v : Value} {n : Nat} {xs : List Value} (h : A.ownsRow B e size v n xs) (hb : Below A.heap.size A W) : W.ownsRow B e size v n xs := by
  refine ⟨h.1, ?_⟩
  rcases h.2 with h0 | ⟨g, cap, cur, e1, h1, h2, h3⟩
  · exact .inl h0
  · exact .inr ⟨g, cap, cur, e1, h1, heap_up hb h2, h3⟩
theorem below_own {B size : Nat} {A W W' : World} {e : TypeId} {n : Nat} {v : Value} {xs : List Value} (hb : Below B A W) (ho : W.ownsRow B e size v n xs) (hg : W.grownBy W' v.ownBlock) (hB : B ≤ A.heap.size) : Below B A W' := by
  refine hb.grown hg (Nat.le_trans hB hb.size) ?_
  intro g h
  rcases ho.2 with ⟨rfl, _⟩ | ⟨g', cap, cur, rfl, h1, _⟩
  · cases h
  · cases h; exact h1
def ENM (u : Value) (g off n cap q x x1 x2 x3 : Nat) : Nat → Value
  | 0 => u
  | 1 => .slice (some ⟨g, off, none⟩) n cap
  | 2 => .int .i64 (q : Int)
  | 3 => .pointer (some ⟨g, off + q, none⟩)
  | 4 => .int .i64 (x : Int)
  | 5 => .int .i64 (x1 : Int)
  | 6 => .int .u8 (x1 : Int)
  | 7 => .slice (some ⟨g, off, none⟩) n cap
  | 8 => .int .i64 (q : Int)
  | 9 => .pointer (some ⟨g, off + q, none⟩)
  | 10 => .int .i64 (x : Int)
  | 11 => .int .i64 ((x : Int) / 256)
  | 12 => .int .u8 (x2 : Int)
  | 13 => .slice (some ⟨g, off, none⟩) n cap
  | 14 => .int .i64 (q : Int)
  | 15 => .pointer (some ⟨g, off + q, none⟩)
  | 16 => .int .i64 (x : Int)
  | 17 => .int .u8 (x3 : Int)
  | _ => undef
def SNM (u : Value) (g off n cap q x x1 x2 x3 : Nat) (ix : Nat) (v : Value) (w : World) : Prop :=
  match ix with
  | 18 => ∃ gb, v = .slice (some ⟨gb, 0, none⟩) 3 3 ∧ w.heap[gb]? = some (.cells #[.int .u8 (x1 : Int), .int .u8 (x2 : Int), .int .u8 (x3 : Int)] 5 (0, 0))
  | ix => v = ENM u g off n cap q x x1 x2 x3 ix
theorem SNM_up (u : Value) (g off n cap q x x1 x2 x3 : Nat) (ix : Nat) (v : Value) (w w' : World) (hb : Below w.heap.size w w') (h : SNM u g off n cap q x x1 x2 x3 ix v w) : SNM u g off n cap q x x1 x2 x3 ix v w' := by
  unfold SNM at h ⊢
  split at h
  · exact by obtain ⟨gb, e1, e2⟩ := h; exact ⟨gb, e1, heap_up hb e2⟩
  · exact h
set_option maxHeartbeats 4000000 in
set_option maxRecDepth 100000 in
theorem rnumber_any (v : Value) (l : List Nat) (w : World) (hl : LimR w v l) (h30 : l.length ≤ 30000000) :
    Calls Tryz.prog 44 #[v] w fun e w' => e = .returned (.string (encS (valB 16777216 l))) ∧ Below w.heap.size w w' := by
  obtain ⟨i0, hi, hz0, hz1, hz2⟩ := info_partsN infoU8
  obtain ⟨p, n, cap, rfl, hn, hcp, -⟩ := hl.open_
  have HL := Lib.hid hl
  have HN := Lib.hid hn
  have hn9 : (n : Int) ≤ 30000000 := by omega
  have H30 := Lib.hid h30
  clear hl hn h30
  go_enter Tryz.func44, Tryz.ntmps44
  go_wp2_with fail
  go_loopw [3, 4] (fun u i wr => ∃ (j : Nat) (k : Int) (b : List Nat), i = .int .i64 k ∧ Hid (k = (n : Int) - 1 - (j : Int)) ∧ Hid (-1 ≤ k) ∧ Hid (b.length = 3 * j) ∧ Hid (okB 256 b) ∧ Hid (valB 256 b.reverse = valB 16777216 (l.drop (n - j))) ∧ Hid (wr.ownsRow w.heap.size 5 1 u b.length (digC .u8 b)) ∧ Hid (Below w.heap.size w wr)) (fun _ i _ => (intOf i + 1).toNat)
  case atStart => exact ⟨0, _, [], rfl, Lib.hid (by omega), Lib.hid (by omega), Lib.hid rfl, Lib.hid (okB_nil _), Lib.hid (by rw [Nat.sub_zero, HN.out, List.drop_length]; rfl), Lib.hid (World.ownsRow_nil _ _ _ _), Lib.hid (Below.refl _ _)⟩
  case round =>
    obtain ⟨j, k, b, rfl, HK, HK1, HBL, HOK, HV, HOWN, HB⟩ := hrel
    by_cases hlt : 0 ≤ k
    · obtain ⟨q, rfl⟩ : ∃ q : Nat, k = (q : Int) := ⟨k.toNat, by omega⟩
      have hqn : q < n := by have := HK.out; omega
      have hql : q < l.length := by have := HN.out; omega
      obtain ⟨g, off, rfl, hg, hcell⟩ := HL.out.cell hql
      have hdv := drop_val hql
      have hxl := HL.out.ok.get hql
      obtain ⟨x, hx⟩ : ∃ x, l[q] = x := ⟨_, rfl⟩
      rw [hx] at hcell hdv hxl
      have h3 := three_val (b := b) hxl HV.out
      have hqn' : (q : Int) < (n : Int) := by omega
      have hqc : (q : Int) < (cap : Int) := by omega
      have c1 : wr.cell? ⟨g, off + q, none⟩ = some (.int .i64 (x : Int)) := by rw [cell_up HB.out hg]; exact hcell
      obtain ⟨x1, hx1⟩ : ∃ x1, x / 65536 = x1 := ⟨_, rfl⟩
      obtain ⟨x2, hx2⟩ : ∃ x2, x / 256 % 256 = x2 := ⟨_, rfl⟩
      obtain ⟨x3, hx3⟩ : ∃ x3, x % 256 = x3 := ⟨_, rfl⟩
      rw [hx1, hx2, hx3] at h3
      have q1 : (x : Int) / 65536 = (x1 : Int) := by omega
      have q2 : IntKind.u8.wrap (x1 : Int) = (x1 : Int) := by rw [IntKind.wrap_u8']; omega
      have q3 : IntKind.u8.wrap ((x : Int) / 256) = (x2 : Int) := by rw [IntKind.wrap_u8']; omega
      have q4 : IntKind.u8.wrap (x : Int) = (x3 : Int) := by rw [IntKind.wrap_u8']; omega
      have H3 := Lib.hid h3; have HDV := Lib.hid hdv
      have HXB : Hid (x1 < 256 ∧ x2 < 256 ∧ x3 < 256) := Lib.hid (by omega)
      clear h3 hdv hx hx1 hx2 hx3 hcell hql hqn hlt hxl
      have hb9 : b.length ≤ 90000000 := by have := HBL.out; have := HK.out; omega
      have hcell : ∀ W, Below wr.heap.size wr W → W.cell? ⟨g, off + q, none⟩ = some (.int .i64 (x : Int)) := fun W h => by rw [cell_up h (Nat.lt_of_lt_of_le hg HB.out.size)]; exact c1
      clear c1
      go_wp2_with fail
      obtain ⟨wo, hwo⟩ : ∃ wo, wo = wr := ⟨_, rfl⟩
      subst hwo
      obtain ⟨u, hu⟩ : ∃ u, u = u3 := ⟨_, rfl⟩
      subst hu
      refine wp_region_last (w := wo) (by kernel_rfl) (SNM u g off n cap q x x1 x2 x3) (fun v w' => w'.ownsRow w.heap.size 5 1 v (b.length + 3) (digC .u8 b ++ [.int .u8 (x1 : Int), .int .u8 (x2 : Int), .int .u8 (x3 : Int)]) ∧ Below w.heap.size w w') 19 (fun t => (decide (3 ≤ t) && decide (t < 4)) || (decide (12 ≤ t) && decide (t < 32))) (by kernel_rfl) (by kernel_rfl) (by kernel_rfl) (by kernel_rfl) (by kernel_rfl) rfl (SNM_up u g off n cap q x x1 x2 x3) ?_ ?_ ?_ ?_
      · intro i hi o listed a w hR K hK
        have ho := hR.at_
        have hi : i < 19 := hi
        have hii : i = 0 ∨ i = 1 ∨ i = 2 ∨ i = 3 ∨ i = 4 ∨ i = 5 ∨ i = 6 ∨ i = 7 ∨ i = 8 ∨ i = 9 ∨ i = 10 ∨ i = 11 ∨ i = 12 ∨ i = 13 ∨ i = 14 ∨ i = 15 ∨ i = 16 ∨ i = 17 ∨ i = 18 := by omega
        rcases hii with rfl | rfl | rfl | rfl | rfl | rfl | rfl | rfl | rfl | rfl | rfl | rfl | rfl | rfl | rfl | rfl | rfl | rfl | rfl
        · simp at ho
          subst ho
          have b3 : a.tmps.getD 3 undef = u := hR.early (j := 20) (by kernel_rfl) rfl ⟨0, .phase⟩ (by simp) rfl rfl
          refine plain_step rfl rfl ?_
          go_simp
          exact hK _ _ (rfl) (Below.refl _ _)
        · simp at ho
          subst ho
          have b0 : a.tmps.getD 0 undef = .slice (some ⟨g, off, none⟩) n cap := hR.base 0 (by kernel_rfl)
          refine plain_step rfl rfl ?_
          go_simp
          exact hK _ _ (rfl) (Below.refl _ _)
        · simp at ho
          subst ho
          have b4 : a.tmps.getD 4 undef = .int .i64 (q : Int) := hR.base 4 (by kernel_rfl)
          refine plain_step rfl rfl ?_
          go_simp
          exact hK _ _ (rfl) (Below.refl _ _)
        · simp at ho
          subst ho
          have e1 : a.tmps.getD 13 undef = .slice (some ⟨g, off, none⟩) n cap := hR.dep ⟨1, .data⟩ (by simp) rfl (by decide)
          have e2 : a.tmps.getD 14 undef = .int .i64 (q : Int) := hR.dep ⟨2, .data⟩ (by simp) rfl (by decide)
          refine plain_step rfl rfl ?_
          go_simp
          exact hK _ _ (rfl) (Below.refl _ _)
        · simp at ho
          subst ho
          have e3 : a.tmps.getD 15 undef = .pointer (some ⟨g, off + q, none⟩) := hR.dep ⟨3, .data⟩ (by simp) rfl (by decide)
          have c1 := hcell w hR.below
          refine plain_step rfl rfl ?_
          go_simp
          exact hK _ _ (rfl) (Below.refl _ _)
        · simp at ho
          subst ho
          have e4 : a.tmps.getD 16 undef = .int .i64 (x : Int) := hR.dep ⟨4, .data⟩ (by simp) rfl (by decide)
          refine plain_step rfl rfl ?_
          go_simp
          exact hK _ _ (rfl) (Below.refl _ _)
        · simp at ho
          subst ho
          have e5 : a.tmps.getD 17 undef = .int .i64 (x1 : Int) := hR.dep ⟨5, .data⟩ (by simp) rfl (by decide)
          refine plain_step rfl rfl ?_
          go_simp
          exact hK _ _ (rfl) (Below.refl _ _)
        · simp at ho
          subst ho
          have b0 : a.tmps.getD 0 undef = .slice (some ⟨g, off, none⟩) n cap := hR.base 0 (by kernel_rfl)
          refine plain_step rfl rfl ?_
          go_simp
          exact hK _ _ (rfl) (Below.refl _ _)
        · simp at ho
          subst ho
          have b4 : a.tmps.getD 4 undef = .int .i64 (q : Int) := hR.base 4 (by kernel_rfl)
          refine plain_step rfl rfl ?_
          go_simp
          exact hK _ _ (rfl) (Below.refl _ _)
        · simp at ho
          subst ho
          have e7 : a.tmps.getD 19 undef = .slice (some ⟨g, off, none⟩) n cap := hR.dep ⟨7, .data⟩ (by simp) rfl (by decide)
          have e8 : a.tmps.getD 20 undef = .int .i64 (q : Int) := hR.dep ⟨8, .data⟩ (by simp) rfl (by decide)
          refine plain_step rfl rfl ?_
          go_simp
          exact hK _ _ (rfl) (Below.refl _ _)
        · simp at ho
          subst ho
          have e9 : a.tmps.getD 21 undef = .pointer (some ⟨g, off + q, none⟩) := hR.dep ⟨9, .data⟩ (by simp) rfl (by decide)
          have c1 := hcell w hR.below
          refine plain_step rfl rfl ?_
          go_simp
          exact hK _ _ (rfl) (Below.refl _ _)
        · simp at ho
          subst ho
          have e10 : a.tmps.getD 22 undef = .int .i64 (x : Int) := hR.dep ⟨10, .data⟩ (by simp) rfl (by decide)
          refine plain_step rfl rfl ?_
          go_simp
          exact hK _ _ (rfl) (Below.refl _ _)
        · simp at ho
          subst ho
          have e11 : a.tmps.getD 23 undef = .int .i64 ((x : Int) / 256) := hR.dep ⟨11, .data⟩ (by simp) rfl (by decide)
          refine plain_step rfl rfl ?_
          go_simp
          exact hK _ _ (rfl) (Below.refl _ _)
        · simp at ho
          subst ho
          have b0 : a.tmps.getD 0 undef = .slice (some ⟨g, off, none⟩) n cap := hR.base 0 (by kernel_rfl)
          refine plain_step rfl rfl ?_
          go_simp
          exact hK _ _ (rfl) (Below.refl _ _)
        · simp at ho
          subst ho
          have b4 : a.tmps.getD 4 undef = .int .i64 (q : Int) := hR.base 4 (by kernel_rfl)
          refine plain_step rfl rfl ?_
          go_simp
          exact hK _ _ (rfl) (Below.refl _ _)
        · simp at ho
          subst ho
          have e13 : a.tmps.getD 25 undef = .slice (some ⟨g, off, none⟩) n cap := hR.dep ⟨13, .data⟩ (by simp) rfl (by decide)
          have e14 : a.tmps.getD 26 undef = .int .i64 (q : Int) := hR.dep ⟨14, .data⟩ (by simp) rfl (by decide)
          refine plain_step rfl rfl ?_
          go_simp
          exact hK _ _ (rfl) (Below.refl _ _)
        · simp at ho
          subst ho
          have e15 : a.tmps.getD 27 undef = .pointer (some ⟨g, off + q, none⟩) := hR.dep ⟨15, .data⟩ (by simp) rfl (by decide)
          have c1 := hcell w hR.below
          refine plain_step rfl rfl ?_
          go_simp
          exact hK _ _ (rfl) (Below.refl _ _)
        · simp at ho
          subst ho
          have e16 : a.tmps.getD 28 undef = .int .i64 (x : Int) := hR.dep ⟨16, .data⟩ (by simp) rfl (by decide)
          refine plain_step rfl rfl ?_
          go_simp
          exact hK _ _ (rfl) (Below.refl _ _)
        · simp at ho
          subst ho
          have e6 : a.tmps.getD 18 undef = .int .u8 (x1 : Int) := hR.dep ⟨6, .data⟩ (by simp) rfl (by decide)
          have e12 : a.tmps.getD 24 undef = .int .u8 (x2 : Int) := hR.dep ⟨12, .data⟩ (by simp) rfl (by decide)
          have e17 : a.tmps.getD 29 undef = .int .u8 (x3 : Int) := hR.dep ⟨17, .data⟩ (by simp) rfl (by decide)
          have f6 : (a.tmps[18]?).getD undef = .int .u8 (x1 : Int) := by rw [← Array.getD_eq_getD_getElem?]; exact e6
          have f12 : (a.tmps[24]?).getD undef = .int .u8 (x2 : Int) := by rw [← Array.getD_eq_getD_getElem?]; exact e12
          have f17 : (a.tmps[29]?).getD undef = .int .u8 (x3 : Int) := by rw [← Array.getD_eq_getD_getElem?]; exact e17
          refine plain_step rfl rfl ?_
          go_simp
          exact hK _ _ (⟨_, rfl, heap_alloc_new _ _⟩) ((Below.refl _ _).alloc (Nat.le_refl _) _)
      · intro o a w' ho hS hbw hbase K hK
        simp at ho
        subst ho
        have e0 : a.tmps.getD 12 undef = u := hS 0 (by decide)
        obtain ⟨gb, e18, hgb⟩ : ∃ gb, a.tmps.getD 30 undef = .slice (some ⟨gb, 0, none⟩) 3 3 ∧ w'.heap[gb]? = some (.cells #[.int .u8 (x1 : Int), .int .u8 (x2 : Int), .int .u8 (x3 : Int)] 5 (0, 0)) := hS 18 (by decide)
        have hown := own_up HOWN.out hbw
        have hbl := HB.out.trans (hbw.mono HB.out.size)
        refine plain_step rfl rfl ?_
        refine wp_append_own w' (.tmp 12) (.tmp 30) 22 rfl w.heap.size 5 i0 (.int .u8 0) 1 1 Tryz.underlying22 hi hz0 hz1 hz2 rfl (by decide) u b.length _ e0 hown ⟨gb, 0, none⟩ 3 3 [.int .u8 (x1 : Int), .int .u8 (x2 : Int), .int .u8 (x3 : Int)] e18 rfl (fun j z hj => ?_) (by simp [Value.oneCell']) (by have := hb9; unfold maxLen; omega) (by have := hb9; omega) hbl.size ?_
        · have e : (⟨gb, 0, none⟩ : Addr).add j = ⟨gb, j, none⟩ := by cases j <;> simp [Addr.add]
          rw [e, Lib.cell_of_heap hgb]
          simpa using hj
        · intro v' w'' h1 h2 h3
          exact hK v' w'' ⟨h1, below_own hbl hown h2 (Nat.le_refl _)⟩
      · intro o a w' ho hU K hK
        simp at ho
        subst ho
        have hU' : w'.ownsRow w.heap.size 5 1 (a.tmps.getD 31 undef) (b.length + 3) (digC .u8 b ++ [.int .u8 (x1 : Int), .int .u8 (x2 : Int), .int .u8 (x3 : Int)]) ∧ Below w.heap.size w w' := hU
        obtain ⟨z, hz⟩ : ∃ z, a.tmps.getD 31 undef = z := ⟨_, rfl⟩
        rw [hz] at hU'
        clear hU
        refine plain_step rfl rfl ?_
        go_simp
        exact hK _ hU'
      · intro s w1 hU1 hU2
        simp only [over, Nat.zero_add, Nat.reduceAdd, Nat.reduceLeDiff, Nat.reduceLT, decide_true, decide_false, Bool.and_true, Bool.and_false, Bool.or_false, Bool.or_true, cond_true, cond_false]
        have HO1 := Lib.hid hU2.1
        have HB1 := Lib.hid hU2.2
        clear hU1 hU2 hb9
        go_wp2_with fail
        go_roundw
        case rel => exact ⟨j + 1, (q : Int) - 1, b ++ [x1, x2, x3], rfl, Lib.hid (by have := HK.out; omega), Lib.hid (by omega), Lib.hid (by rw [List.length_append, HBL.out]; simp; omega), Lib.hid (HOK.out.append (fun y hy => by simp at hy; have := HXB.out; rcases hy with rfl | rfl | rfl <;> omega)), Lib.hid (by rw [H3.out, show n - (j + 1) = q by have := HK.out; omega, HDV.out, show n - j = q + 1 by have := HK.out; omega]), Lib.hid (by rw [List.length_append, digC, List.map_append]; exact HO1.out), HB1⟩
        case measure => simp [intOf]
    · have hlt' : k < 0 := by omega
      have hj : j = n := by have := HK.out; have := HK1.out; omega
      have hcv := conv_own Tryz.underlying24 HOWN.out HOK.out
      have HV8 : Hid (numS (strN b) = valB 16777216 l) := Lib.hid (by rw [numS_strN HOK.out, HV.out, hj, Nat.sub_self, List.drop_zero])
      have HS8 : Hid ((strN b).size ≤ 100000000) := Lib.hid (by rw [strN_size, HBL.out, hj]; omega)
      clear hlt hj
      go_wp2_with fail
      refine (Canon_any _ _ HS8.out).mono ?_
      rintro e w1 ⟨rfl, rfl⟩
      rw [HV8.out]
      go_wp2_with fail
      go_ret
      exact ⟨rfl, HB.out⟩
end Go.Proofs.YtakbkbmjeanboaaGreatDoor
