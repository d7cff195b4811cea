/- of and number of package nat. Each theorem names its conditions. -/
import Derived.Test.YtakbkbmjeanboaaGreatDoorLimA
import Derived.Laws.BitsAllLaws
import Derived.StillTailTactics
import Derived.Deep.OwnRows
namespace Go.Proofs.YtakbkbmjeanboaaGreatDoor
open Go.RowKit Go.Shelf
open Dgt
set_option linter.unusedVariables false

/-- the bytes of a string, the last one first -/
def revB (s : ByteArray) : List Nat := (s.data.toList.map UInt8.toNat).reverse
/-- the number that a string writes -/
def numS (s : ByteArray) : Nat := valB 256 (revB s)
theorem revB_len (s : ByteArray) : (revB s).length = s.size := by simp [revB]
theorem revB_ok (s : ByteArray) : okB 256 (revB s) := by
  intro x hx
  simp only [revB, List.mem_reverse, List.mem_map] at hx
  obtain ⟨b, -, rfl⟩ := hx
  exact b.toNat_lt
theorem revB_get (s : ByteArray) {k : Nat} (h : k < s.size) : (revB s)[k]'(by rw [revB_len]; exact h) = (s[s.size - 1 - k]'(by omega)).toNat := by
  simp only [revB, List.getElem_reverse, List.getElem_map, List.length_map, Array.length_toList]
  rfl
def cellsK (kd : IntKind) (l : List Nat) : Array Value := (l.map fun x : Nat => Value.int kd (x : Int)).toArray
theorem cellsK_get {kd : IntKind} {l : List Nat} {i : Nat} (h : i < l.length) : (cellsK kd l)[i]? = some (.int kd (l[i] : Int)) := by simp [cellsK, h]
theorem cellsK_set (kd : IntKind) (l : List Nat) (i x : Nat) : (cellsK kd l).setIfInBounds i (.int kd (x : Int)) = cellsK kd (l.set i x) := by
  unfold cellsK
  rw [List.map_set]
  simp
theorem set_block {W : World} {g i x : Nat} {kd : IntKind} {t : TypeId} {l : List Nat} (h : W.heap[g]? = some (.cells (cellsK kd l) t (0, 0))) : (W.setCell ⟨g, i, none⟩ (.int kd (x : Int))).heap[g]? = some (.cells (cellsK kd (l.set i x)) t (0, 0)) := by
  rw [heap_self h, cellsK_set]
theorem cellsK_zeros (kd : IntKind) (n : Nat) : cellsK kd (List.replicate n 0) = Array.replicate n (.int kd 0) := by
  simp [cellsK]
/-- one byte more -/
theorem of_step {r : List Nat} (hr : okB 256 r) {n k : Nat} (hk : k < r.length) (hn : r.length ≤ 4 * n) :
    ∃ x, (fixd 4294967296 n (valB 256 (r.take k)))[k / 4]? = some x ∧ x < 256 ^ (k % 4) ∧ (fixd 4294967296 n (valB 256 (r.take k))).set (k / 4) (x + r[k] * 2 ^ (8 * (k % 4))) = fixd 4294967296 n (valB 256 (r.take (k + 1))) ∧ x + r[k] * 2 ^ (8 * (k % 4)) < 4294967296 := by
  have hj : k / 4 < n := by omega
  have hl : (fixd 4294967296 n (valB 256 (r.take k))).length = n := fixd_len _ _ _
  have hlt : valB 256 (r.take k) < 256 ^ k := by
    have := valB_lt (hr.take k)
    rwa [List.length_take, Nat.min_eq_left (Nat.le_of_lt hk)] at this
  have e32 : ∀ j : Nat, (4294967296 : Nat) ^ j = 256 ^ (4 * j) := fun j => by rw [Nat.pow_mul]
  have ek : (256 : Nat) ^ k = 4294967296 ^ (k / 4) * 256 ^ (k % 4) := by rw [e32, ← Nat.pow_add]; congr 1; omega
  have hdiv : valB 256 (r.take k) / 4294967296 ^ (k / 4) < 256 ^ (k % 4) := by
    rw [Nat.div_lt_iff_lt_mul (Nat.pow_pos (by decide)), Nat.mul_comm, ← ek]; exact hlt
  have h4 : (256 : Nat) ^ (k % 4) ≤ 16777216 := by
    have : k % 4 ≤ 3 := by omega
    calc (256 : Nat) ^ (k % 4) ≤ 256 ^ 3 := Nat.pow_le_pow_right (by decide) this
      _ = 16777216 := by decide
  have hmod : valB 256 (r.take k) / 4294967296 ^ (k / 4) % 4294967296 = valB 256 (r.take k) / 4294967296 ^ (k / 4) := Nat.mod_eq_of_lt (by omega)
  have hg : (fixd 4294967296 n (valB 256 (r.take k)))[k / 4]'(by omega) = valB 256 (r.take k) / 4294967296 ^ (k / 4) := by rw [fixd_get, hmod]
  have hb : r[k] < 256 := hr.get hk
  have p8 : (2 : Nat) ^ (8 * (k % 4)) = 256 ^ (k % 4) := by rw [Nat.pow_mul]
  have hx : valB 256 (r.take k) / 4294967296 ^ (k / 4) + r[k] * 256 ^ (k % 4) < 4294967296 := by
    have h5 : r[k] * 256 ^ (k % 4) + 256 ^ (k % 4) ≤ 256 * 256 ^ (k % 4) := by
      rw [← Nat.succ_mul]; exact Nat.mul_le_mul_right _ hb
    have h6 : 256 * 256 ^ (k % 4) ≤ 256 * 16777216 := Nat.mul_le_mul_left _ h4
    omega
  refine ⟨_, by rw [List.getElem?_eq_getElem (by omega), hg], hdiv, ?_, by rw [p8]; exact hx⟩
  rw [p8]
  apply valB_inj ((fixd_ok (by decide) _ _).set hx) (fixd_ok (by decide) _ _) (by simp [fixd_len])
  have hv1 : valB 256 (r.take k) < 4294967296 ^ n := by
    rw [e32]; exact Nat.lt_of_lt_of_le hlt (Nat.pow_le_pow_right (by decide) (by omega))
  have hv2 : valB 256 (r.take (k + 1)) < 4294967296 ^ n := by
    have := valB_lt (hr.take (k + 1))
    rw [List.length_take, Nat.min_eq_left (by omega)] at this
    rw [e32]; exact Nat.lt_of_lt_of_le this (Nat.pow_le_pow_right (by decide) (by omega))
  have hs := valB_set (B := 4294967296) (l := fixd 4294967296 n (valB 256 (r.take k))) (k := k / 4) (valB 256 (r.take k) / 4294967296 ^ (k / 4) + r[k] * 256 ^ (k % 4)) (by omega)
  rw [hg, valB_fixd _ _ hv1, Nat.mul_add] at hs
  rw [valB_fixd _ _ hv2, valB_take_succ hk]
  have e : (256 : Nat) ^ k * r[k] = 4294967296 ^ (k / 4) * (r[k] * 256 ^ (k % 4)) := by
    rw [ek, Nat.mul_assoc, Nat.mul_comm (256 ^ (k % 4))]
  rw [e]
  omega
theorem shl_join {x b s : Nat} (h : x < 2 ^ s) : x ||| b * 2 ^ s = x + b * 2 ^ s := by
  rw [Nat.or_comm, Nat.add_comm, ← Nat.shiftLeft_eq]
  exact (Nat.shiftLeft_add_eq_or_of_lt h b).symm
theorem infoU32 : (Tryz.prog.info? 52).map (fun i => (i.zero, i.size, i.bytes)) = some (some (.int .u32 0), 1, 4) := by kernel_rfl
theorem infoU8 : (Tryz.prog.info? 5).map (fun i => (i.zero, i.size, i.bytes)) = some (some (.int .u8 0), 1, 1) := by kernel_rfl
theorem madeCells_rep (z : Value) (n : Nat) : madeCells #[z] n = Array.replicate n z := by
  apply Array.ext
  · simp [madeCells]
  · intro i h1 h2
    simp [madeCells]
    rw [Nat.mod_one]; rfl
theorem mk_limbs (n : Nat) (x : Int) (hx : x = n) (hn : n ≤ 10000000000) (W : World) : (Instr.makeSlice 61 (.int .i64 x) (.int .i64 x)).run Tryz.prog W =
    .ok (.slice (some ⟨W.heap.size, 0, none⟩) n n) (W.alloc (.cells (cellsK .u32 (List.replicate n 0)) 52)) := by
  subst hx
  rw [run_make_row' 61 52 (.int .u32 0) 4 Tryz.underlying61 infoU32 rfl _ _ n (by omega) (by omega) W, madeCells_rep, cellsK_zeros]
theorem mk_bytes (n : Nat) (x : Int) (hx : x = n) (hn : n ≤ 10000000000) (W : World) : (Instr.makeSlice 22 (.int .i64 x) (.int .i64 x)).run Tryz.prog W =
    .ok (.slice (some ⟨W.heap.size, 0, none⟩) n n) (W.alloc (.cells (cellsK .u8 (List.replicate n 0)) 5)) := by
  subst hx
  rw [run_make_row' 22 5 (.int .u8 0) 1 Tryz.underlying22 infoU8 rfl _ _ n (by omega) (by omega) W, madeCells_rep, cellsK_zeros]
theorem fixd_zero (B : Nat) : ∀ n, fixd B n 0 = List.replicate n 0
  | 0 => rfl
  | n + 1 => by simp [fixd, fixd_zero B n, List.replicate_succ]
theorem alloc_block (w : World) (o : Obj) : (w.alloc o).heap[w.heap.size]? = some o := heap_alloc_new w o
set_option maxHeartbeats 4000000 in
set_option maxRecDepth 100000 in
theorem of_any (a : ByteArray) (w : World) (ha : a.size ≤ 1000000000) :
    Calls Tryz.prog 46 #[.string a] w fun e w' => ∃ v', e = .returned v' ∧ Lim w' v' (digs 4294967296 (numS a)) ∧ Below w.heap.size w w' := by
  obtain ⟨n, hn⟩ : ∃ n, (a.size + 3) / 4 = n := ⟨_, rfl⟩
  have hn4 : a.size ≤ 4 * n := by omega
  have hn1 : n ≤ 1000000000 := by omega
  have hmk := mk_limbs n (((a.size : Int) + 4 - 1) / 4) (by omega) (by omega)
  have HN := Lib.hid hn
  clear hn
  go_enter Tryz.func46, Tryz.ntmps46
  go_wp2_with fail
  clear hmk
  have HB := Lib.hid ((Below.refl w.heap.size w).alloc (Nat.le_refl _) (.cells (cellsK .u32 (List.replicate n 0)) 52))
  have HK := Lib.hid (heap_alloc_new w (.cells (cellsK .u32 (List.replicate n 0)) 52))
  obtain ⟨w0, hw0⟩ : ∃ w0, w.alloc (.cells (cellsK .u32 (List.replicate n 0)) 52) = w0 := ⟨_, rfl⟩
  rw [hw0] at HB HK ⊢
  obtain ⟨g, hg⟩ : ∃ g, w.heap.size = g := ⟨_, rfl⟩
  have hgw : w.heap.size ≤ g := Nat.le_of_eq hg
  rw [hg] at HK ⊢
  have HG := Lib.hid hg
  clear hw0 hg
  go_loopw [13, 4] (fun i _ wr => ∃ k : Nat, k ≤ a.size ∧ i = .int .i64 (k : Int) ∧ Hid (wr.heap[g]? = some (.cells (cellsK .u32 (fixd 4294967296 n (valB 256 ((revB a).take k)))) 52 (0, 0))) ∧ Hid (Below w.heap.size w wr)) (fun i _ _ => a.size - (intOf i).toNat)
  case atStart => exact ⟨0, by omega, rfl, Lib.hid (by rw [List.take_zero, valB, fixd_zero]; exact HK.out), HB⟩
  case round =>
    obtain ⟨k, hk, rfl, HC, HBW⟩ := hrel
    by_cases hlt : k < a.size
    · have hlt' : (k : Int) < (a.size : Int) := by omega
      obtain ⟨x, e1, e2, e3, e4⟩ := of_step (revB_ok a) (n := n) (k := k) (by rw [revB_len]; exact hlt) (by rw [revB_len]; exact hn4)
      obtain ⟨b, hb⟩ : ∃ b : Nat, (revB a)[k]'(by rw [revB_len]; exact hlt) = b := ⟨_, rfl⟩
      have hbb : b < 256 := by rw [← hb]; exact (revB_ok a).get _
      obtain ⟨ix, hix⟩ : ∃ ix, a.size - 1 - k = ix := ⟨_, rfl⟩
      have hixl : ix < a.size := by omega
      have hb2 : (a[ix]'hixl).toNat = b := by rw [← hb, revB_get a hlt]; simp only [hix]
      obtain ⟨j, hj⟩ : ∃ j, k / 4 = j := ⟨_, rfl⟩
      obtain ⟨m, hm⟩ : ∃ m, k % 4 = m := ⟨_, rfl⟩
      rw [hj] at e1 e3
      rw [hm] at e2 e3 e4
      rw [hb] at e3 e4
      have hjn : j < n := by omega
      have hm4 : m < 4 := by omega
      have hcell : wr.cell? ⟨g, j, none⟩ = some (.int .u32 (x : Int)) := by rw [Lib.cell_of_heap HC.out]; simp [cellsK, e1]
      have hfr : wr.frozen? ⟨g, j, none⟩ = false := Lib.frozen_of_heap HC.out _
      have q1 : IntKind.i64.wrap ((k : Int) / 4) = (j : Int) := by rw [IntWalk.i64_in _ (by omega)]; omega
      have q2 : IntKind.i64.wrap ((a.size : Int) - 1) = (a.size : Int) - 1 := IntWalk.i64_in _ (by omega)
      have q3 : IntKind.i64.wrap ((a.size : Int) - 1 - (k : Int)) = (ix : Int) := by rw [IntWalk.i64_in _ (by omega)]; omega
      have q4 : (k : Int).tmod 4 = (m : Int) := by rw [Int.tmod_eq_emod_of_nonneg (by omega)]; omega
      obtain ⟨sh, hsh⟩ : ∃ sh, 8 * m = sh := ⟨_, rfl⟩
      have hsh2 : sh ≤ 32 := by omega
      have q5 : IntKind.i64.wrap (8 * (m : Int)) = (sh : Int) := by rw [IntWalk.i64_in _ (by omega)]; omega
      have q6 : IntKind.u32.wrap (b : Int) = (b : Int) := by rw [IntKind.wrap_u32']; omega
      rw [hsh] at e3 e4
      have e2' : x < 2 ^ sh := by rw [← hsh, Nat.pow_mul]; exact e2
      have e5 := shl_join (b := b) e2'
      obtain ⟨y, hy⟩ : ∃ y, b * 2 ^ sh = y := ⟨_, rfl⟩
      have q7 : IntKind.u32.wrap ((b : Int) * 2 ^ sh) = (y : Int) := by
        have e : (b : Int) * 2 ^ sh = (y : Int) := by rw [← hy]; simp
        rw [e, IntKind.wrap_u32']; rw [hy] at e4; omega
      rw [hy] at e3 e4 e5
      obtain ⟨z, hz⟩ : ∃ z, x + y = z := ⟨_, rfl⟩
      have q8 : bits .or .u32 (x : Int) (y : Int) = (z : Int) := by rw [u32_or_nat _ _ (by omega) (by omega), e5, hz]
      rw [hz] at e3 e4
      have E3 := Lib.hid e3; have E4 := Lib.hid e4; have E2 := Lib.hid e2
      have HJ := Lib.hid hj; have HM := Lib.hid hm; have HI := Lib.hid hix
      clear hb e1 e2 e3 e4 hj hm hix e2' e5 hy hz hsh
      go_wp2_with fail
      refine wp_region_still_tail 19 (by kernel_rfl) (by kernel_rfl) ?_
      simp only [List.take_succ_cons, List.take_zero, List.drop_succ_cons, List.drop_zero]
      iterate 19 still_step
      refine wpStill_nil ?_
      clear q1 q2 q3 q4 q5 q6 q7 q8
      change wpList _ _ _ _ _ wr.drew
      go_wp2_with fail
      go_roundw
      case rel => exact ⟨k + 1, by omega, by go_num, Lib.hid (by rw [← E3.out]; exact set_block HC.out), Lib.hid (HBW.out.setCell (p := ⟨g, j, none⟩) hgw _).drew⟩
      case measure => simp [intOf]; omega
    · have hge : (a.size : Int) ≤ (k : Int) := by omega
      obtain rfl : k = a.size := by omega
      have HL : Hid (Lim wr (.slice (some ⟨g, 0, none⟩) n n) (fixd 4294967296 n (numS a))) := Lib.hid (by
        have h := LimK.block (kd := .u32) (B := 4294967296) (W := wr) (g := g) (cap := n) (l := fixd 4294967296 n (numS a)) (fixd_ok (by decide) _ _) (by rw [numS, ← List.take_length (l := revB a), revB_len]; exact HC.out) (fun i h => cellsK_get h) (by rw [fixd_len]; omega) (by omega)
        rwa [fixd_len] at h)
      go_wp2_with fail
      refine (trim_any _ _ _ HL.out).mono ?_
      rintro e w' ⟨v', rfl, hv, rfl⟩
      go_wp2_with fail
      go_ret
      refine ⟨_, rfl, ?_, HG.out ▸ HBW.out⟩
      rw [← trimL_fixd (k := n)]
      · exact hv
      · have h1 := valB_lt (revB_ok a)
        rw [revB_len] at h1
        rw [show (4294967296 : Nat) = 256 ^ 4 by decide, ← Nat.pow_mul]
        exact Nat.lt_of_lt_of_le h1 (Nat.pow_le_pow_right (by decide) hn4)
end Go.Proofs.YtakbkbmjeanboaaGreatDoor
