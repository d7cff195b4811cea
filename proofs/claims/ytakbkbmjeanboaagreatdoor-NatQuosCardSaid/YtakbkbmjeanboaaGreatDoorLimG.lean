/- short of package nat. Each theorem names its conditions. -/
import Derived.Test.YtakbkbmjeanboaaGreatDoorLimF
import Derived.Test.YtakbkbmjeanboaaGreatDoorRgn
namespace Go.Proofs.YtakbkbmjeanboaaGreatDoor
open Go.RowKit Go.Shelf
open Dgt
set_option linter.unusedVariables false

theorem short_step {B y k p x : Nat} {T la : List Nat} (hB : 0 < B) (hk : k < la.length) (hx : la[k] = x) (hxl : x < B) (hy : 0 < y) (hp : p < y) (hyl : y ≤ B) (hv : valB B (la.drop (k + 1)) = valB B T * y + p) :
    valB B (la.drop k) = valB B ((p * B + x) / y :: T) * y + (p * B + x) % y ∧ (p * B + x) / y < B ∧ (p * B + x) % y < y := by
  have hlt : p * B + x < y * B := by
    have : (p + 1) * B ≤ y * B := Nat.mul_le_mul_right B hp
    rw [Nat.succ_mul] at this
    omega
  refine ⟨?_, by rw [Nat.div_lt_iff_lt_mul hy, Nat.mul_comm B]; exact hlt, Nat.mod_lt _ hy⟩
  rw [List.drop_eq_getElem_cons hk, valB, valB, hx, hv, Nat.add_mul, Nat.mul_add]
  have := Nat.div_add_mod' (p * B + x) y
  have e1 : B * (valB B T * y) = B * valB B T * y := (Nat.mul_assoc _ _ _).symm
  have e2 : B * p = p * B := Nat.mul_comm _ _
  omega
theorem set_back (T : List Nat) (k x : Nat) : (List.replicate (k + 1) 0 ++ T).set k x = List.replicate k 0 ++ x :: T := by
  rw [List.replicate_succ', List.append_assoc, List.set_append_right _ _ (by simp)]
  simp
def ESH (g na k z y q p' : Nat) : Nat → Value
  | 0 => .slice (some ⟨g, 0, none⟩) na na
  | 1 => .int .i64 (k : Int)
  | 2 => .int .u64 (z : Int)
  | 3 => .int .u32 (y : Int)
  | 4 => .int .u64 (y : Int)
  | 5 => .int .u64 (q : Int)
  | 6 => .int .u32 (q : Int)
  | 7 => .int .u64 (z : Int)
  | 8 => .int .u32 (y : Int)
  | 9 => .int .u64 (y : Int)
  | 10 => .int .u64 (p' : Int)
  | 11 => .pointer (some ⟨g, k, none⟩)
  | 13 => .int .u64 (p' : Int)
  | _ => undef
set_option maxHeartbeats 8000000 in
set_option maxRecDepth 100000 in
theorem short_any (va : Value) (la : List Nat) (y : Nat) (w : World) (ha : Lim w va la) (hla : la.length ≤ 1000000000) (hy0 : 0 < y) (hyl : y < 4294967296) :
    Calls Tryz.prog 57 #[va, .int .u32 (y : Int)] w fun e w' => ∃ v', e = .returned (.tuple #[v', .int .u32 ((valB 4294967296 la % y : Nat) : Int)]) ∧ Lim w' v' (digs 4294967296 (valB 4294967296 la / y)) ∧ Below w.heap.size w w' := by
  obtain ⟨pa, na, ca, rfl, hna, hca, hcma⟩ := ha.open_
  have HLA := Lib.hid ha
  have hna1 : (na : Int) ≤ 1000000000 := by omega
  have HNA := Lib.hid hna
  have hmk := mk_limbs na (na : Int) rfl (by omega)
  have hy0' : 0 < (y : Int) := by omega
  have hyl' : (y : Int) < 4294967296 := by omega
  clear ha hna hla hca hcma
  go_enter Tryz.func57, Tryz.ntmps57
  go_wp2_with fail
  clear hmk
  have HB := Lib.hid ((Below.refl w.heap.size w).alloc (Nat.le_refl _) (.cells (cellsK .u32 (List.replicate na 0)) 52))
  have HK := Lib.hid (heap_alloc_new w (.cells (cellsK .u32 (List.replicate na 0)) 52))
  obtain ⟨w0, hw0⟩ : ∃ w0, w.alloc (.cells (cellsK .u32 (List.replicate na 0)) 52) = w0 := ⟨_, rfl⟩
  rw [hw0] at HB HK ⊢
  obtain ⟨g, hg⟩ : ∃ g, w.heap.size = g := ⟨_, rfl⟩
  have hgw : w.heap.size ≤ g := Nat.le_of_eq hg
  rw [hg] at HK ⊢
  have HG := Lib.hid hg
  clear hw0 hg
  go_loopw [7, 8, 9] (fun rv i _ wr => ∃ (j p : Nat) (i' : Int) (T : List Nat), j ≤ na ∧ i' = (j : Int) - 1 ∧ i = .int .i64 i' ∧ rv = .int .u64 (p : Int) ∧ p < y ∧ Hid (T.length = na - j) ∧ Hid (okB 4294967296 T) ∧ Hid (valB 4294967296 (la.drop j) = valB 4294967296 T * y + p) ∧
      Hid (wr.heap[g]? = some (.cells (cellsK .u32 (List.replicate j 0 ++ T)) 52 (0, 0))) ∧ Hid (Below w.heap.size w wr)) (fun _ i _ _ => (intOf i + 1).toNat)
  case atStart => exact ⟨na, 0, (na : Int) - 1, [], Nat.le_refl _, rfl, rfl, rfl, hy0, Lib.hid (by simp), Lib.hid (okB_nil _), Lib.hid (by rw [List.drop_eq_nil_of_le (by have := HNA.out; omega)]; simp [valB]), Lib.hid (by simpa using HK.out), HB⟩
  case round =>
    obtain ⟨j, p, i', T, hj, hi', rfl, rfl, hp, HTL, HTO, HV, HC, HBW⟩ := hrel
    obtain ⟨wo, hwo⟩ : ∃ wo, wo = wr := ⟨_, rfl⟩
    subst hwo
    rcases j with _ | k
    · have hneg : i' < 0 := by omega
      have hi'' := Lib.hid hi'
      clear hi'
      have HL : Hid (Lim wo (.slice (some ⟨g, 0, none⟩) na na) T) := Lib.hid (by
        have h := LimK.block (kd := .u32) (B := 4294967296) (W := wo) (g := g) (cap := na) (l := T) HTO.out (cs := cellsK .u32 T) (t := 52) (by
          have := HC.out
          rwa [List.replicate_zero, List.nil_append] at this) (fun i h => cellsK_get h) (by rw [HTL.out]; omega) (by omega)
        rwa [HTL.out] at h)
      have HV2 : Hid (trimL 4294967296 T = digs 4294967296 (valB 4294967296 la / y) ∧ valB 4294967296 la % y = p) := Lib.hid (by
        have h := HV.out
        rw [List.drop_zero] at h
        unfold trimL
        rw [h]
        constructor
        · rw [Nat.add_comm, Nat.add_mul_div_right _ _ hy0, Nat.div_eq_of_lt hp, Nat.zero_add]
        · rw [Nat.add_comm, Nat.add_mul_mod_self_right, Nat.mod_eq_of_lt hp])
      have q1 : (p : Int) % 4294967296 = (p : Int) := by omega
      clear hp hj hyl hyl'
      go_wp2_with fail
      refine (trim_any _ _ _ HL.out).mono ?_
      rintro e w' ⟨v', rfl, hv, rfl⟩
      go_wp2_with fail
      go_ret2
      exact ⟨_, by rw [HV2.out.2]; rfl, by rw [← HV2.out.1]; exact hv, HG.out ▸ HBW.out⟩
    · obtain rfl : i' = (k : Int) := by omega
      clear hi'
      have hkA : k < la.length := by have := HNA.out; omega
      obtain ⟨g1, off1, hp1, hg1, hc1⟩ := HLA.out.cell hkA
      have cA : wo.cell? ⟨g1, off1 + k, none⟩ = some (.int .u32 (la[k] : Int)) := by rw [cell_up2 HBW.out hg1 hg1]; exact hc1
      obtain ⟨x, hx⟩ : ∃ x, la[k] = x := ⟨_, rfl⟩
      have hxl : x < 4294967296 := by rw [← hx]; exact HLA.out.ok.get hkA
      rw [hx] at cA
      subst hp1
      have hst := short_step (by decide) hkA hx hxl hy0 hp (by omega) HV.out
      obtain ⟨r, hr⟩ : ∃ r, p * 4294967296 = r := ⟨_, rfl⟩
      have e5 : r ||| x = r + x := by
        rw [← hr, show (4294967296 : Nat) = 2 ^ 32 by decide, Nat.or_comm, shl_join (by simpa using hxl), Nat.add_comm]
      obtain ⟨z, hz⟩ : ∃ z, r + x = z := ⟨_, rfl⟩
      rw [hr, hz] at hst
      have hzl : z < 18446744073709551616 := by omega
      have q1 : (p : Int) * 4294967296 = (r : Int) := by omega
      have q2 : bits .or .u64 (r : Int) (x : Int) = (z : Int) := by rw [u64_or_nat _ _ (by omega) (by omega), e5, hz]
      obtain ⟨q, hq⟩ : ∃ q, z / y = q := ⟨_, rfl⟩
      obtain ⟨p', hp'⟩ : ∃ p', z % y = p' := ⟨_, rfl⟩
      rw [hq, hp'] at hst
      have hql := hst.2.1
      have q3 : (z : Int) / (y : Int) = (q : Int) := by rw [← hq]; simp
      have q4 : (z : Int) % (y : Int) = (p' : Int) := by rw [← hp']; simp
      have q5 : (q : Int) % 4294967296 = (q : Int) := by omega
      have hp2 : (p : Int) < 4294967296 := by omega
      have hrl : (r : Int) < 18446744073709551616 := by omega
      have HST := Lib.hid hst
      have hkn : k < na := hj
      have hfr : wo.frozen? ⟨g, k, none⟩ = false := Lib.frozen_of_heap HC.out _
      obtain ⟨c0, hc0⟩ : ∃ z, wo.cell? ⟨g, k, none⟩ = some z := by rw [Lib.cell_of_heap HC.out]; exact ⟨_, cellsK_get (by simp; omega)⟩
      clear hst hx hc1 hr e5 hz hq hp'
      go_wp2_with fail
      refine wp_region_store (w := wo) (by kernel_rfl) (ESH g na k z y q p') 12 ⟨g, k, none⟩ (.int .u32 (q : Int)) (fun t => (decide (7 ≤ t) && decide (t < 8)) || (decide (28 ≤ t) && decide (t < 40))) (by kernel_rfl) (by kernel_rfl) (by kernel_rfl) (by decide) ?_ ?_ ?_
      · intro i hi his o listed a w' hR hw K hK
        have ho := hR.at_
        have hi : i < 14 := hi
        have hii : i = 0 ∨ i = 1 ∨ i = 2 ∨ i = 3 ∨ i = 4 ∨ i = 5 ∨ i = 6 ∨ i = 7 ∨ i = 8 ∨ i = 9 ∨ i = 10 ∨ i = 11 ∨ i = 13 := by omega
        rcases hii with rfl | rfl | rfl | rfl | rfl | rfl | rfl | rfl | rfl | rfl | rfl | rfl | rfl
        · simp at ho
          subst ho
          have b6 : a.tmps.getD 6 undef = .slice (some ⟨g, 0, none⟩) na na := hR.base 6 (by kernel_rfl)
          refine plain_step rfl rfl ?_
          go_simp
          exact hK _ (rfl)
        · simp at ho
          subst ho
          have b8 : a.tmps.getD 8 undef = .int .i64 (k : Int) := hR.base 8 (by kernel_rfl)
          refine plain_step rfl rfl ?_
          go_simp
          exact hK _ (rfl)
        · simp at ho
          subst ho
          have b9 : a.tmps.getD 9 undef = .int .u64 (z : Int) := hR.base 9 (by kernel_rfl)
          refine plain_step rfl rfl ?_
          go_simp
          exact hK _ (rfl)
        · simp at ho
          subst ho
          have b1 : a.tmps.getD 1 undef = .int .u32 (y : Int) := hR.base 1 (by kernel_rfl)
          refine plain_step rfl rfl ?_
          go_simp
          exact hK _ (rfl)
        · simp at ho
          subst ho
          have e3 : a.tmps.getD 31 undef = .int .u32 (y : Int) := hR.dep ⟨3, .data⟩ (by simp) rfl
          have wy : IntKind.u64.wrap (y : Int) = (y : Int) := by rw [IntKind.wrap_u64]; omega
          refine plain_step rfl rfl ?_
          go_simp
          exact hK _ (rfl)
        · simp at ho
          subst ho
          have e2 : a.tmps.getD 30 undef = .int .u64 (z : Int) := hR.dep ⟨2, .data⟩ (by simp) rfl
          have e4 : a.tmps.getD 32 undef = .int .u64 (y : Int) := hR.dep ⟨4, .data⟩ (by simp) rfl
          have hyn : ¬ y = 0 := by omega
          have wq6 : IntKind.u64.wrap (q : Int) = (q : Int) := by rw [IntKind.wrap_u64]; omega
          refine plain_step rfl rfl ?_
          go_simp
          exact hK _ (rfl)
        · simp at ho
          subst ho
          have e5 : a.tmps.getD 33 undef = .int .u64 (q : Int) := hR.dep ⟨5, .data⟩ (by simp) rfl
          have wq : IntKind.u32.wrap (q : Int) = (q : Int) := by rw [IntKind.wrap_u32']; omega
          refine plain_step rfl rfl ?_
          go_simp
          exact hK _ (rfl)
        · simp at ho
          subst ho
          have b9 : a.tmps.getD 9 undef = .int .u64 (z : Int) := hR.base 9 (by kernel_rfl)
          refine plain_step rfl rfl ?_
          go_simp
          exact hK _ (rfl)
        · simp at ho
          subst ho
          have b1 : a.tmps.getD 1 undef = .int .u32 (y : Int) := hR.base 1 (by kernel_rfl)
          refine plain_step rfl rfl ?_
          go_simp
          exact hK _ (rfl)
        · simp at ho
          subst ho
          have e8 : a.tmps.getD 36 undef = .int .u32 (y : Int) := hR.dep ⟨8, .data⟩ (by simp) rfl
          have wy : IntKind.u64.wrap (y : Int) = (y : Int) := by rw [IntKind.wrap_u64]; omega
          refine plain_step rfl rfl ?_
          go_simp
          exact hK _ (rfl)
        · simp at ho
          subst ho
          have e7 : a.tmps.getD 35 undef = .int .u64 (z : Int) := hR.dep ⟨7, .data⟩ (by simp) rfl
          have e9 : a.tmps.getD 37 undef = .int .u64 (y : Int) := hR.dep ⟨9, .data⟩ (by simp) rfl
          have hyn : ¬ y = 0 := by omega
          have wt : (z : Int).tmod (y : Int) = (p' : Int) := by rw [Int.tmod_eq_emod_of_nonneg (by omega)]; exact q4
          refine plain_step rfl rfl ?_
          go_simp
          exact hK _ (rfl)
        · simp at ho
          subst ho
          have e0 : a.tmps.getD 28 undef = .slice (some ⟨g, 0, none⟩) na na := hR.dep ⟨0, .data⟩ (by simp) rfl
          have e1 : a.tmps.getD 29 undef = .int .i64 (k : Int) := hR.dep ⟨1, .data⟩ (by simp) rfl
          refine plain_step rfl rfl ?_
          go_simp
          exact hK _ (rfl)
        · simp at ho
          subst ho
          have e10 : a.tmps.getD 38 undef = .int .u64 (p' : Int) := hR.dep ⟨10, .data⟩ (by simp) rfl
          refine plain_step rfl rfl ?_
          go_simp
          exact hK _ (rfl)
      · intro o listed a hR K hK
        have ho := hR.at_
        simp at ho
        subst ho
        have e11 : a.tmps.getD 39 undef = .pointer (some ⟨g, k, none⟩) := hR.dep ⟨11, .data⟩ (by simp) rfl
        have e6 : a.tmps.getD 34 undef = .int .u32 (q : Int) := hR.dep ⟨6, .data⟩ (by simp) rfl
        refine plain_step rfl rfl ?_
        go_simp
        exact hK undef rfl
      · intro s hS
        have e13 : s 7 = .int .u64 (p' : Int) := hS 13 (by decide)
        simp only [over, Nat.zero_add, Nat.reduceAdd, Nat.reduceLeDiff, Nat.reduceLT, decide_true, decide_false, Bool.and_true, Bool.and_false, Bool.or_false, Bool.or_true, cond_true, cond_false]
        have HSB := Lib.hid (set_back T k q)
        have hw3 : 0 < (na : Int) := by omega
        clear hS
        rw [e13]
        clear e13
        go_wp2_with fail
        go_roundw
        case rel => exact ⟨k, p', (k : Int) - 1, q :: T, by omega, rfl, by go_num, rfl, HST.out.2.2, Lib.hid (by rw [List.length_cons, HTL.out]; omega), Lib.hid (fun t ht => (List.mem_cons.1 ht).elim (fun e => e ▸ hql) (HTO.out t)), Lib.hid HST.out.1, Lib.hid (by rw [← HSB.out]; exact set_block HC.out), Lib.hid (HBW.out.drew.setCell (p := ⟨g, k, none⟩) hgw _)⟩
        case measure => simp [intOf]
end Go.Proofs.YtakbkbmjeanboaaGreatDoor
