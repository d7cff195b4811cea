/- Package nat: odd moduli: newOdd, full, shifted. Each theorem names its conditions. -/
import Derived.Test.YtakbkbmjeanboaaGreatDoorLimL
import Derived.Test.YtakbkbmjeanboaaGreatDoorMonP
import Derived.Deep.AppendSrc
import Derived.Lib.AppendZeros
import Derived.Deep.Upon
namespace Go.Proofs.YtakbkbmjeanboaaGreatDoor
open Go.RowKit Go.Shelf
open Dgt
set_option linter.unusedVariables false

/-! ### appends -/
theorem zeroCells_rep (z : Value) (n : Nat) : Builtin.zeroCells #[z] n = Array.replicate n z := by
  apply Array.ext
  · simp [Builtin.zeroCells]
  · intro i h1 h2
    simp [Builtin.zeroCells]
    rw [Nat.mod_one]; rfl
theorem lim_firsts (W : World) {p : Option Addr} {n c : Nat} {l : List Nat} (h : Lim W (.slice p n c) l) (w : World) (hw : ∀ q, w.cell? q = W.cell? q) :
    (Builtin.firstCells 1 n (.slice p n c)).run Tryz.prog w = .ok (cellsK .u32 l) w := by
  have hn := h.len.1
  cases p with
  | none =>
    have : l = [] := by
      cases l with
      | nil => rfl
      | cons x l =>
        obtain ⟨g, off, e, -⟩ := h.cell (i := 0) (by simp)
        cases e
    subst this
    rw [hn]; exact run_firstCells_none ..
  | some a =>
    have e := run_firstCells_some (P := Tryz.prog) w 1 n a n c (l.map fun x : Nat => Value.int .u32 (x : Int)) (by simp [hn]) (fun j v hj => by
      have hjl : j < l.length := by
        have := (List.getElem?_eq_some_iff.1 hj).1; simpa using this
      obtain ⟨g, off, e, hg, hc⟩ := h.cell hjl
      injection e with e
      subst e
      rw [Addr.add_lit, hw, hc]
      rw [List.getElem?_map, List.getElem?_eq_getElem hjl] at hj
      exact hj)
    exact e
theorem lim_src {W : World} {p : Option Addr} {n c : Nat} {l : List Nat} (h : Lim W (.slice p n c) l) : Src Tryz.prog 1 61 (.slice p n c) n (l.map fun x : Nat => Value.int .u32 (x : Int)) W :=
  ⟨.inl ⟨_, Tryz.underlying61⟩, fun _ => rfl, lim_firsts W h W (fun _ => rfl), lim_firsts W h W.drew (fun _ => World.cell?_drew _ _), by simp [h.len.1], fun u hu => by
    obtain ⟨_, _, rfl⟩ := List.mem_map.1 hu
    rfl⟩
/-- a new row -/
theorem lim_row {W : World} {l : List Nat} {c k : Nat} (ho : okB 4294967296 l) (hc : l.length ≤ c) (hc2 : c ≤ 9223372036854775807) :
    Lim (W.alloc (.cells (cellsK .u32 l ++ Array.replicate k (.int .u32 0)) 52)) (.slice (some ⟨W.heap.size, 0, none⟩) l.length c) l :=
  LimK.block ho (heap_alloc_new W _) (fun i hi => by
    rw [Array.getElem?_append_left (by simp [cellsK, hi])]; exact cellsK_get hi) hc hc2
theorem cellsK_append (kd : IntKind) (a b : List Nat) : cellsK kd (a ++ b) = cellsK kd a ++ cellsK kd b := by simp [cellsK]
theorem run_append_zeros (W : World) (ty : TypeId) {p : Option Addr} {n m : Nat} {l : List Nat} (h : Lim W (.slice p n n) l) (h9 : n + m ≤ 1000000000) :
    ∃ v W', (Builtin.append_ #[61, 3] ty #[.slice p n n, .int .i64 (m : Int)]).run Tryz.prog W = .ok v W' ∧ Lim W' v (l ++ List.replicate m 0) ∧ Below W.heap.size W W' := by
  obtain ⟨i0, hi, hz⟩ := Option.map_eq_some_iff.1 infoU32
  simp only [Prod.mk.injEq] at hz
  obtain ⟨hz1, hz2, hz3⟩ := hz
  have hu := Tryz.underlying61
  have hui : Tryz.prog.underlying 3 = some (.int .i64) := by kernel_rfl
  have hw : IntKind.i64.wrap (m : Int) = m := by rw [IntKind.wrap_i64]; omega
  have hneg : ¬ ((m : Int) < 0) := by omega
  have h48i : ¬ (281474976710656 < (m : Int) * 4) := by omega
  rcases Nat.eq_zero_or_pos m with h0 | h0
  · subst h0
    refine ⟨_, W, ?_, by rw [List.replicate_zero, List.append_nil]; exact h, Below.refl _ _⟩
    cases p <;> simp [Builtin.append_, run_underlying hu, run_underlying hui, sizeOf, typeInfo, hi, hz3, asInt, asIntOf, storeCells, show IntKind.i64.wrap 0 = 0 by decide]
  · have hn : ¬ (n + m ≤ n) := by omega
    have hm0 : m ≠ 0 := by omega
    have h63' : ¬ (9223372036854775807 < ((n : Int) + (m : Int))) := by omega
    have hcap : Builtin.nextslicecap (n + m) n * 4 ≤ 281474976710656 := by
      have := nextslicecap_le (need := n + m) (old := n) (by omega)
      omega
    have h48' : ¬ (281474976710656 < Builtin.nextslicecap (n + m) n * 4) := by omega
    have hold := lim_firsts W h W.drew (fun _ => World.cell?_drew _ _)
    have hge := grownCap_ge W (n + m) n 52
    have hle := grownCap_le_maxLen W (n + m) n 52 (by unfold maxLen; omega)
    refine ⟨.slice (some ⟨W.heap.size, 0, none⟩) (n + m) (grownCap W (n + m) n 52), W.drew.alloc (.cells (cellsK .u32 (l ++ List.replicate m 0) ++ Array.replicate (grownCap W (n + m) n 52 - (n + m)) (.int .u32 0)) 52), ?_, ?_, ?_⟩
    · simp [Builtin.append_, run_underlying hu, run_underlying hui, sizeOf, typeInfo, zeroValue, hi, hz1, hz2, hz3, asInt, asIntOf, hw, hneg, h48i, hn, hm0, h63', h48', Question.forced, hold, newRow, grownCap, Value.cells, zeroCells_rep, cellsK_append, cellsK_zeros]
    · have e : (l ++ List.replicate m 0).length = n + m := by rw [List.length_append, List.length_replicate, h.len.1]
      have := lim_row (W := W.drew) (l := l ++ List.replicate m 0) (c := grownCap W (n + m) n 52) (k := grownCap W (n + m) n 52 - (n + m)) (h.ok.append fun x hx => by rw [List.eq_of_mem_replicate hx]; decide) (by rw [e]; exact hge) (by simpa [maxLen] using hle)
      rw [e] at this
      exact this
    · exact ((Below.refl _ W).drew).alloc (by simp) _
theorem run_append_lim (W : World) (ty : TypeId) {p q : Option Addr} {n m c : Nat} {l r : List Nat} (h : Lim W (.slice p n n) l) (hr : Lim W (.slice q m c) r) (h9 : n + m ≤ 1000000000) :
    ∃ v W', (Builtin.append_ #[61, 61] ty #[.slice p n n, .slice q m c]).run Tryz.prog W = .ok v W' ∧ Lim W' v (l ++ r) ∧ Below W.heap.size W W' := by
  obtain ⟨i0, hi, hz⟩ := Option.map_eq_some_iff.1 infoU32
  simp only [Prod.mk.injEq] at hz
  obtain ⟨hz1, hz2, hz3⟩ := hz
  have hs := lim_src hr
  have hm := hr.len.1
  rcases Nat.eq_zero_or_pos m with h0 | h0
  · have hr0 : r = [] := List.eq_nil_of_length_eq_zero (by omega)
    subst hr0
    have hs' : Src Tryz.prog i0.size 61 (.slice q m c) 0 [] W := by rw [hz2]; rw [h0] at hs ⊢; exact hs
    exact ⟨_, W, run_append_nothing W _ _ ty _ i0 Tryz.underlying61 hi p n n (Nat.le_refl _) _ hs', by rw [List.append_nil]; exact h, Below.refl _ _⟩
  · have hold := lim_firsts W h W.drew (fun _ => World.cell?_drew _ _)
    have hcap : Builtin.nextslicecap (n + m) n * 4 ≤ 281474976710656 := by
      have := nextslicecap_le (need := n + m) (old := n) (by omega)
      omega
    have hge := grownCap_ge W (n + m) n 52
    have hle := grownCap_le_maxLen W (n + m) n 52 (by unfold maxLen; omega)
    have e := run_append_grow_src (P := Tryz.prog) W 61 61 ty 52 i0 _ Tryz.underlying61 hi hz1 p n n (l.map fun x : Nat => Value.int .u32 (x : Int)) (by rw [hz2]; exact hold) (.slice q m c) m _ (by rw [hz2]; exact hs) (by omega) (by omega) (by rw [hz3]; exact hcap)
    refine ⟨_, _, e, ?_, ((Below.refl _ W).drew).alloc (by simp) _⟩
    have el : (l ++ r).length = n + m := by rw [List.length_append, h.len.1, hm]
    have := lim_row (W := W.drew) (l := l ++ r) (c := grownCap W (n + m) n 52) (k := grownCap W (n + m) n 52 - (n + m)) (h.ok.append hr.ok) (by rw [el]; exact hge) (by simpa [maxLen] using hle)
    rw [el] at this
    simpa [Value.cells, zeroCells_rep, cellsK] using this
theorem LimK.own {kd : IntKind} {B : Nat} {W : World} {p : Option Addr} {n c : Nat} {l : List Nat} (h : LimK kd B W (.slice p n c) l) : LimK kd B W (.slice p n n) l := by
  obtain ⟨ho, p', c', e, h1, h2, h3⟩ := h
  injection e with e1 e2 e3
  subst e1; subst e2; subst e3
  exact ⟨ho, p, l.length, rfl, Nat.le_refl _, by omega, h3⟩
theorem lim_zeros (W : World) {k : Nat} (hk : k ≤ 100000000) : Lim (W.alloc (.cells (cellsK .u32 (List.replicate k 0)) 52)) (.slice (some ⟨W.heap.size, 0, none⟩) k k) (List.replicate k 0) := by
  have := LimK.block (kd := .u32) (B := 4294967296) (W := W.alloc (.cells (cellsK .u32 (List.replicate k 0)) 52)) (g := W.heap.size) (cap := k) (l := List.replicate k 0) (fun x hx => by rw [List.eq_of_mem_replicate hx]; decide) (heap_alloc_new W _) (fun i h => cellsK_get h) (by simp) (by omega)
  rwa [List.length_replicate] at this
theorem valB_high (B k : Nat) (l : List Nat) : valB B (List.replicate k 0 ++ l) = valB B l * B ^ k := by
  rw [valB_append, valB_zeros, List.length_replicate, Nat.zero_add, Nat.mul_comm]
theorem valB_pad (B k : Nat) (l : List Nat) : valB B (l ++ List.replicate k 0) = valB B l := by
  rw [valB_append, valB_zeros, Nat.mul_zero, Nat.add_zero]

/-! ### newOdd -/
set_option maxHeartbeats 4000000 in
set_option maxRecDepth 100000 in
theorem newOdd_any (v : Value) (l : List Nat) (w : World) (hl : Lim w v l) (h0 : 0 < l.length) (hodd : l[0] % 2 = 1) :
    Calls Tryz.prog 53 #[v] w fun e w' => ∃ minus : Nat, e = .returned (.agg #[v, .int .u32 (minus : Int)]) ∧ minus < 4294967296 ∧ (minus * l[0] + 1) % 4294967296 = 0 ∧ Below w.heap.size w w' := by
  obtain ⟨p, n, c, rfl, hn, hc, hcm⟩ := hl.open_
  obtain ⟨g, off, rfl, hg, hcell⟩ := hl.cell h0
  obtain ⟨x, hx⟩ : ∃ x, l[0] = x := ⟨_, rfl⟩
  have hxl : x < 4294967296 := by rw [← hx]; exact hl.ok.get h0
  rw [hx] at hcell hodd ⊢
  rw [Nat.add_zero] at hcell
  have hn0 : 0 < n := by omega
  have hn1 : (0 : Int) < (n : Int) := by omega
  have hcA : ∀ o, (w.alloc o).cell? ⟨g, off, none⟩ = some (.int .u32 (x : Int)) := fun o => by rw [cell_up ((Below.refl _ w).alloc (Nat.le_refl _) o) hg]; exact hcell
  have HOD := Lib.hid hodd; have HXL := Lib.hid hxl; have HST := Lib.hid (newton_start (m := (x : Int)) (by omega))
  clear hl hn hc hcm hg hcell hx hodd hxl h0
  go_enter Tryz.func53, Tryz.ntmps53
  go_wp2_with fail
  go_loopw [7, 3] (fun i xv wr => ∃ (k : Nat) (y : Int), k ≤ 5 ∧ i = .int .i64 (k : Int) ∧ xv = .int .u32 y ∧ 0 ≤ y ∧ y < 4294967296 ∧ Hid ((2 : Int) ^ (min 32 (3 * 2 ^ k)) ∣ (x : Int) * y - 1) ∧ wr = w.alloc (.cells #[.slice none 0 0, .int .u32 0] 70)) (fun i _ _ => 5 - (intOf i).toNat)
  case atStart => exact ⟨0, (x : Int), by omega, rfl, rfl, by omega, by have := HXL.out; omega, Lib.hid HST.out, rfl⟩
  case round =>
    obtain ⟨k, y, hk, rfl, rfl, hy0, hy1, HY, rfl⟩ := hrel
    by_cases hlt : k < 5
    · have hlt' : (k : Int) < 5 := by omega
      have hcA := hcA (.cells #[.slice none 0 0, .int .u32 0] 70)
      have hnw := newton HY.out
      obtain ⟨a, ha⟩ : ∃ a : Int, (x : Int) * y % 4294967296 = a := ⟨_, rfl⟩
      obtain ⟨b, hb⟩ : ∃ b : Int, (2 - a) % 4294967296 = b := ⟨_, rfl⟩
      obtain ⟨z, hz⟩ : ∃ z : Int, y * b % 4294967296 = z := ⟨_, rfl⟩
      rw [ha, hb, hz] at hnw
      have hz0 : 0 ≤ z := by omega
      have hz1 : z < 4294967296 := by omega
      have HN : Hid ((2 : Int) ^ (min 32 (3 * 2 ^ (k + 1))) ∣ (x : Int) * z - 1) := Lib.hid (by
        have e : min 32 (3 * 2 ^ (k + 1)) = min 32 (2 * min 32 (3 * 2 ^ k)) := by rw [Nat.pow_succ]; omega
        rw [e]; exact hnw)
      clear hnw
      go_wp2_with fail
      go_roundw
      case rel => exact ⟨k + 1, z, by omega, by go_num, by rw [hz], hz0, hz1, HN, trivial⟩
      case measure => simp [intOf]; omega
    · have hge : (5 : Int) ≤ (k : Int) := by omega
      obtain rfl : k = 5 := by omega
      obtain ⟨s, hs⟩ : ∃ s : Int, -y % 4294967296 = s := ⟨_, rfl⟩
      have hs0 : 0 ≤ s := by omega
      have hs1 : s < 4294967296 := by omega
      have hne := newton_end hy0 hy1 HY.out
      rw [hs] at hne
      obtain ⟨t, rfl⟩ : ∃ t : Nat, s = (t : Int) := ⟨s.toNat, by omega⟩
      have HE : Hid ((t * x + 1) % 4294967296 = 0) := Lib.hid (by
        have e : (((t * x + 1) % 4294967296 : Nat) : Int) = 0 := by rw [Int.natCast_emod]; simpa using hne
        omega)
      clear hne hge hlt
      go_wp2_with fail
      refine bodyPost_ret (results_cell_row rfl _ _ w.heap.size 70 _ (0, 0) _ rfl (heap_alloc_new w _) Tryz.underlying70 rfl (by kernel_rfl)) rfl ?_
      exact ⟨t, rfl, by omega, HE.out, (Below.refl _ w).alloc (Nat.le_refl _) _⟩

/-! ### full -/
def EFU (p : Option Addr) (n c bx : Nat) (pm : Option Addr) (k cm : Nat) (l : List Nat) (X M : Nat) : Nat → Value
  | 0 => .slice p n c
  | 1 => .slice p n c
  | 2 => .int .i64 (n : Int)
  | 3 => .slice p n c
  | 4 => .int .i64 (n : Int)
  | 5 => .slice p n n
  | 6 => .pointer (some ⟨bx, 0, none⟩)
  | 7 => .slice pm k cm
  | 8 => .int .i64 (k : Int)
  | 9 => .slice p n c
  | 10 => .int .i64 (n : Int)
  | 11 => .int .i64 ((k - n : Nat) : Int)
  | _ => undef
def SFU (p : Option Addr) (n c bx : Nat) (pm : Option Addr) (k cm : Nat) (l : List Nat) (X M : Nat) (ix : Nat) (v : Value) (w : World) : Prop :=
  match ix with
  | 12 => Lim w v (l ++ List.replicate (k - n) 0)
  | 13 => Lim w v (l ++ List.replicate (k - n) 0)
  | ix => v = EFU p n c bx pm k cm l X M ix
theorem SFU_up (p : Option Addr) (n c bx : Nat) (pm : Option Addr) (k cm : Nat) (l : List Nat) (X M : Nat) (ix : Nat) (v : Value) (w w' : World) (hb : Below w.heap.size w w') (h : SFU p n c bx pm k cm l X M ix v w) : SFU p n c bx pm k cm l X M ix v w' := by
  unfold SFU at h ⊢
  split at h
  · exact h.up hb
  · exact h.up hb
  · exact h
set_option maxHeartbeats 4000000 in
set_option maxRecDepth 100000 in
theorem full_any (vm v : Value) (l lm : List Nat) (minus k : Nat) (w : World) (hm : Lim w vm lm) (hl : Lim w v l) (hk : lm.length = k) (hlk : l.length ≤ k) (hk9 : k ≤ 100000000) :
    Calls Tryz.prog 77 #[.agg #[vm, .int .u32 (minus : Int)], v] w fun e w' => ∃ v', e = .returned v' ∧ Lim w' v' (l ++ List.replicate (k - l.length) 0) ∧ Below w.heap.size w w' := by
  obtain ⟨p, n, c, rfl, hn, hc, hcm⟩ := hl.open_
  obtain ⟨pm, k', cm, rfl, hkm, hcmm, hcmx⟩ := hm.open_
  obtain rfl : k = k' := by omega
  have hnc : (n : Int) ≤ (c : Int) := by omega
  have hsub : (k : Int) - (n : Int) = ((k - n : Nat) : Int) := by omega
  have hkn : k - l.length = k - n := by omega
  have hwr : IntKind.i64.wrap ((k - n : Nat) : Int) = ((k - n : Nat) : Int) := by rw [IntKind.wrap_i64]; omega
  rw [hkn]
  have HB0 := Lib.hid ((Below.refl w.heap.size w).alloc (Nat.le_refl _) (.cells #[.slice pm k cm, .int .u32 (minus : Int)] 70))
  have HL := Lib.hid ((LimK.own hl).up HB0.out)
  have H9 : Hid (n + (k - n) ≤ 1000000000) := Lib.hid (by omega)
  have HBX : Hid (∀ W', Below (w.alloc (.cells #[.slice pm k cm, .int .u32 (minus : Int)] 70)).heap.size (w.alloc (.cells #[.slice pm k cm, .int .u32 (minus : Int)] 70)) W' → W'.cell? ⟨w.heap.size, 0, none⟩ = some (.slice pm k cm)) := Lib.hid fun W' h => by
    rw [Lib.cell_of_heap (block_new h (heap_alloc_new w _))]; rfl
  clear hm hl hk hlk hn hc hcm hkm hcmm hcmx hkn hk9
  go_enter Tryz.func77, Tryz.ntmps77
  go_wp2_with fail
  obtain ⟨w0, hw0⟩ : ∃ w0, w.alloc (.cells #[.slice pm k cm, .int .u32 (minus : Int)] 70) = w0 := ⟨_, rfl⟩
  obtain ⟨bx, hbx⟩ : ∃ b, w.heap.size = b := ⟨_, rfl⟩
  rw [hw0] at HB0 HL HBX ⊢
  rw [hbx] at HBX ⊢
  obtain ⟨X, hX⟩ : ∃ X : Nat, X = 0 := ⟨_, rfl⟩
  obtain ⟨M, hM⟩ : ∃ X : Nat, X = 0 := ⟨_, rfl⟩
  clear hw0 hX hM
  refine wp_region_vals (w := w0) (by kernel_rfl) (SFU p n c bx pm k cm l X M) (fun t => (decide (4 ≤ t) && decide (t < 18))) (by kernel_rfl) (by kernel_rfl) (by kernel_rfl) (SFU_up p n c bx pm k cm l X M) ?_ ?_
  · intro i hi o listed a w hR K hK
    have ho := hR.at_
    have hi : i < 14 := hi
    have hii : i = 0 ∨ i = 1 ∨ i = 2 ∨ i = 3 ∨ i = 4 ∨ i = 5 ∨ i = 6 ∨ i = 7 ∨ i = 8 ∨ i = 9 ∨ i = 10 ∨ i = 11 ∨ i = 12 ∨ i = 13 := by omega
    rcases hii with rfl | rfl | rfl | rfl | rfl | rfl | rfl | rfl | rfl | rfl | rfl | rfl | rfl | rfl
    · simp at ho
      subst ho
      have b1 : a.tmps.getD 1 undef = .slice p n c := hR.base 1 (by kernel_rfl)
      refine plain_step rfl rfl ?_
      go_simp
      exact hK _ _ (rfl) (Below.refl _ _)
    · simp at ho
      subst ho
      have b1 : a.tmps.getD 1 undef = .slice p n c := hR.base 1 (by kernel_rfl)
      refine plain_step rfl rfl ?_
      go_simp
      exact hK _ _ (rfl) (Below.refl _ _)
    · simp at ho
      subst ho
      have e1 : a.tmps.getD 6 undef = .slice p n c := hR.dep ⟨1, .data⟩ (by simp) rfl
      refine plain_step rfl rfl ?_
      go_simp
      exact hK _ _ (rfl) (Below.refl _ _)
    · simp at ho
      subst ho
      have b1 : a.tmps.getD 1 undef = .slice p n c := hR.base 1 (by kernel_rfl)
      refine plain_step rfl rfl ?_
      go_simp
      exact hK _ _ (rfl) (Below.refl _ _)
    · simp at ho
      subst ho
      have e3 : a.tmps.getD 8 undef = .slice p n c := hR.dep ⟨3, .data⟩ (by simp) rfl
      refine plain_step rfl rfl ?_
      go_simp
      exact hK _ _ (rfl) (Below.refl _ _)
    · simp at ho
      subst ho
      have e0 : a.tmps.getD 5 undef = .slice p n c := hR.dep ⟨0, .data⟩ (by simp) rfl
      have e2 : a.tmps.getD 7 undef = .int .i64 (n : Int) := hR.dep ⟨2, .data⟩ (by simp) rfl
      have e4 : a.tmps.getD 9 undef = .int .i64 (n : Int) := hR.dep ⟨4, .data⟩ (by simp) rfl
      refine plain_step rfl rfl ?_
      go_simp
      exact hK _ _ (rfl) (Below.refl _ _)
    · simp at ho
      subst ho
      have b2 : a.tmps.getD 2 undef = .pointer (some ⟨bx, 0, none⟩) := hR.base 2 (by kernel_rfl)
      refine plain_step rfl rfl ?_
      go_simp
      exact hK _ _ (rfl) (Below.refl _ _)
    · simp at ho
      subst ho
      have e6 : a.tmps.getD 11 undef = .pointer (some ⟨bx, 0, none⟩) := hR.dep ⟨6, .data⟩ (by simp) rfl
      have cb := HBX.out _ hR.below
      refine plain_step rfl rfl ?_
      go_simp
      exact hK _ _ (rfl) (Below.refl _ _)
    · simp at ho
      subst ho
      have e7 : a.tmps.getD 12 undef = .slice pm k cm := hR.dep ⟨7, .data⟩ (by simp) rfl
      refine plain_step rfl rfl ?_
      go_simp
      exact hK _ _ (rfl) (Below.refl _ _)
    · simp at ho
      subst ho
      have b1 : a.tmps.getD 1 undef = .slice p n c := hR.base 1 (by kernel_rfl)
      refine plain_step rfl rfl ?_
      go_simp
      exact hK _ _ (rfl) (Below.refl _ _)
    · simp at ho
      subst ho
      have e9 : a.tmps.getD 14 undef = .slice p n c := hR.dep ⟨9, .data⟩ (by simp) rfl
      refine plain_step rfl rfl ?_
      go_simp
      exact hK _ _ (rfl) (Below.refl _ _)
    · simp at ho
      subst ho
      have e8 : a.tmps.getD 13 undef = .int .i64 (k : Int) := hR.dep ⟨8, .data⟩ (by simp) rfl
      have e10 : a.tmps.getD 15 undef = .int .i64 (n : Int) := hR.dep ⟨10, .data⟩ (by simp) rfl
      refine plain_step rfl rfl ?_
      go_simp
      exact hK _ _ (rfl) (Below.refl _ _)
    · simp at ho
      subst ho
      have e5 : a.tmps.getD 10 undef = .slice p n n := hR.dep ⟨5, .data⟩ (by simp) rfl
      have e11 : a.tmps.getD 16 undef = .int .i64 ((k - n : Nat) : Int) := hR.dep ⟨11, .data⟩ (by simp) rfl
      refine plain_step rfl rfl ?_
      obtain ⟨v', w2, hr, hl2, hb⟩ := run_append_zeros w 61 (HL.out.up hR.below) H9.out
      refine Lib.wp_append_run w _ _ _ _ rfl _ _ e5 e11 _ _ hr ?_
      exact hK _ _ (hl2) hb
    · simp at ho
      subst ho
      have e12 : Lim w (a.tmps.getD 17 undef) (l ++ List.replicate (k - n) 0) := hR.dep ⟨12, .data⟩ (by simp) rfl
      obtain ⟨v1, hv1⟩ : ∃ v1, a.tmps.getD 17 undef = v1 := ⟨_, rfl⟩
      rw [hv1] at e12
      refine plain_step rfl rfl ?_
      go_simp
      exact hK _ _ (e12) (Below.refl _ _)
  · intro s w hS hb
    simp only [over, Nat.zero_add, Nat.reduceAdd, Nat.reduceLeDiff, Nat.reduceLT, decide_true, decide_false, Bool.and_true, cond_true, cond_false]
    have e13 : Lim w (s 4) (l ++ List.replicate (k - n) 0) := hS 13 (by decide)
    have HBB := Lib.hid (HB0.out.trans (hb.mono HB0.out.size))
    obtain ⟨u, hu⟩ : ∃ u, s 4 = u := ⟨_, rfl⟩
    rw [hu] at e13 ⊢
    clear hS hb hu
    go_wp2_with fail
    go_ret
    exact ⟨_, rfl, e13, HBB.out⟩

/-! ### shifted -/
def ESF (p : Option Addr) (n c bx : Nat) (pm : Option Addr) (k cm : Nat) (l : List Nat) (X M : Nat) : Nat → Value
  | 0 => .pointer (some ⟨bx, 0, none⟩)
  | 1 => .slice pm k cm
  | 2 => .int .i64 (k : Int)
  | 4 => .slice p n c
  | 7 => .pointer (some ⟨bx, 0, none⟩)
  | 8 => .slice pm k cm
  | _ => undef
def SSF (p : Option Addr) (n c bx : Nat) (pm : Option Addr) (k cm : Nat) (l : List Nat) (X M : Nat) (ix : Nat) (v : Value) (w : World) : Prop :=
  match ix with
  | 3 => Lim w v (List.replicate k 0) ∧ ∃ g, v = .slice (some ⟨g, 0, none⟩) k k
  | 5 => Lim w v (List.replicate k 0 ++ l)
  | 6 => Lim w v (digs 4294967296 X)
  | 9 => ∃ vq vr, v = .tuple #[vq, vr] ∧ Lim w vr (digs 4294967296 (X % M))
  | 10 => ∃ vq vr, v = .tuple #[vq, vr] ∧ Lim w vr (digs 4294967296 (X % M))
  | 11 => True
  | 12 => Lim w v (digs 4294967296 (X % M))
  | 13 => True
  | 14 => Lim w v (digs 4294967296 (X % M))
  | ix => v = ESF p n c bx pm k cm l X M ix
theorem SSF_up (p : Option Addr) (n c bx : Nat) (pm : Option Addr) (k cm : Nat) (l : List Nat) (X M : Nat) (ix : Nat) (v : Value) (w w' : World) (hb : Below w.heap.size w w') (h : SSF p n c bx pm k cm l X M ix v w) : SSF p n c bx pm k cm l X M ix v w' := by
  unfold SSF at h ⊢
  split at h
  · exact ⟨h.1.up hb, h.2⟩
  · exact h.up hb
  · exact h.up hb
  · exact (let ⟨x, y, e, h⟩ := h; ⟨x, y, e, h.up hb⟩)
  · exact (let ⟨x, y, e, h⟩ := h; ⟨x, y, e, h.up hb⟩)
  · exact trivial
  · exact h.up hb
  · exact trivial
  · exact h.up hb
  · exact h
set_option maxHeartbeats 4000000 in
set_option maxRecDepth 100000 in
theorem shifted_any (vm v : Value) (l : List Nat) (M minus k : Nat) (w : World) (hm : Lim w vm (digs 4294967296 M)) (hl : Lim w v l) (hk : (digs 4294967296 M).length = k) (hlk : l.length ≤ k) (hk9 : k ≤ 100000000) (hM0 : 0 < M) :
    Calls Tryz.prog 75 #[.agg #[vm, .int .u32 (minus : Int)], v] w fun e w' => ∃ v' lr, e = .returned v' ∧ Lim w' v' lr ∧ lr.length = k ∧ valB 4294967296 lr = valB 4294967296 l * 4294967296 ^ k % M ∧ Below w.heap.size w w' := by
  obtain ⟨p, n, c, rfl, hn, hc, hcm⟩ := hl.open_
  obtain ⟨pm, k', cm, rfl, hkm, hcmm, hcmx⟩ := hm.open_
  obtain rfl : k = k' := by omega
  have hnc : (n : Int) ≤ (c : Int) := by omega
  have hsub : (k : Int) - (n : Int) = ((k - n : Nat) : Int) := by omega
  have hkn : k - l.length = k - n := by omega
  have hwr : IntKind.i64.wrap ((k - n : Nat) : Int) = ((k - n : Nat) : Int) := by rw [IntKind.wrap_i64]; omega
  obtain ⟨X, hX⟩ : ∃ X, valB 4294967296 (List.replicate k 0 ++ l) = X := ⟨_, rfl⟩
  have HXV : Hid (X = valB 4294967296 l * 4294967296 ^ k) := Lib.hid (by rw [← hX, valB_high])
  have HX := Lib.hid hX
  have HX9 : Hid ((digs 4294967296 X).length ≤ 500000000) := Lib.hid (by
    have h1 := valB_lt ((show okB 4294967296 (List.replicate k 0) from fun x hx => by rw [List.eq_of_mem_replicate hx]; decide).append hl.ok)
    rw [hX, List.length_append, List.length_replicate] at h1
    have := digs_len_le (B := 4294967296) (by decide) h1
    omega)
  have HRL : Hid ((digs 4294967296 (X % M)).length ≤ k) := Lib.hid (by
    rw [← hk]; exact digs_len_mono (by decide) (Nat.le_of_lt (Nat.mod_lt _ hM0)))
  have HB0 := Lib.hid ((Below.refl w.heap.size w).alloc (Nat.le_refl _) (.cells #[.slice pm k cm, .int .u32 (minus : Int)] 70))
  have HL := Lib.hid (hl.up HB0.out); have HM := Lib.hid (hm.up HB0.out); have HKM := Lib.hid hk; have HK9 := Lib.hid hk9; have HM0 := Lib.hid hM0
  have H9 : Hid (k + n ≤ 1000000000) := Lib.hid (by omega)
  have HMK := Lib.hid (mk_limbs k (k : Int) rfl (by omega))
  have HBH : Hid (∀ W', Below (w.alloc (.cells #[.slice pm k cm, .int .u32 (minus : Int)] 70)).heap.size (w.alloc (.cells #[.slice pm k cm, .int .u32 (minus : Int)] 70)) W' → W'.heap[w.heap.size]? = some (.cells #[.slice pm k cm, .int .u32 (minus : Int)] 70 (0, 0))) := Lib.hid fun W' h => block_new h (heap_alloc_new w _)
  have HBX : Hid (∀ W', Below (w.alloc (.cells #[.slice pm k cm, .int .u32 (minus : Int)] 70)).heap.size (w.alloc (.cells #[.slice pm k cm, .int .u32 (minus : Int)] 70)) W' → W'.cell? ⟨w.heap.size, 0, none⟩ = some (.slice pm k cm)) := Lib.hid fun W' h => by
    rw [Lib.cell_of_heap (HBH.out W' h)]; rfl
  clear hm hl hk hlk hn hc hcm hkm hcmm hcmx hkn hk9 hX hM0 hsub hwr
  go_enter Tryz.func75, Tryz.ntmps75
  go_wp2_with fail
  obtain ⟨w0, hw0⟩ : ∃ w0, w.alloc (.cells #[.slice pm k cm, .int .u32 (minus : Int)] 70) = w0 := ⟨_, rfl⟩
  obtain ⟨bx, hbx⟩ : ∃ b, w.heap.size = b := ⟨_, rfl⟩
  rw [hw0] at HB0 HL HM HBX HBH ⊢
  rw [hbx] at HBX HBH ⊢
  clear hw0
  refine wp_region_vals (w := w0) (by kernel_rfl) (SSF p n c bx pm k cm l X M) (fun t => (decide (5 ≤ t) && decide (t < 20))) (by kernel_rfl) (by kernel_rfl) (by kernel_rfl) (SSF_up p n c bx pm k cm l X M) ?_ ?_
  · intro i hi o listed a w hR K hK
    have ho := hR.at_
    have hi : i < 15 := hi
    have hii : i = 0 ∨ i = 1 ∨ i = 2 ∨ i = 3 ∨ i = 4 ∨ i = 5 ∨ i = 6 ∨ i = 7 ∨ i = 8 ∨ i = 9 ∨ i = 10 ∨ i = 11 ∨ i = 12 ∨ i = 13 ∨ i = 14 := by omega
    rcases hii with rfl | rfl | rfl | rfl | rfl | rfl | rfl | rfl | rfl | rfl | rfl | rfl | rfl | rfl | rfl
    · simp at ho
      subst ho
      have b2 : a.tmps.getD 2 undef = .pointer (some ⟨bx, 0, none⟩) := hR.base 2 (by kernel_rfl)
      refine plain_step rfl rfl ?_
      go_simp
      exact hK _ _ (rfl) (Below.refl _ _)
    · simp at ho
      subst ho
      have e0 : a.tmps.getD 8 undef = .pointer (some ⟨bx, 0, none⟩) := hR.dep ⟨0, .data⟩ (by simp) rfl
      have cb := HBX.out _ hR.below
      refine plain_step rfl rfl ?_
      go_simp
      exact hK _ _ (rfl) (Below.refl _ _)
    · simp at ho
      subst ho
      have e1 : a.tmps.getD 9 undef = .slice pm k cm := hR.dep ⟨1, .data⟩ (by simp) rfl
      refine plain_step rfl rfl ?_
      go_simp
      exact hK _ _ (rfl) (Below.refl _ _)
    · simp at ho
      subst ho
      have e2 : a.tmps.getD 10 undef = .int .i64 (k : Int) := hR.dep ⟨2, .data⟩ (by simp) rfl
      have hmk := HMK.out w
      refine plain_step rfl rfl ?_
      go_simp
      exact hK _ _ (⟨lim_zeros w HK9.out, _, rfl⟩) ((Below.refl _ _).alloc (Nat.le_refl _) _)
    · simp at ho
      subst ho
      have b1 : a.tmps.getD 1 undef = .slice p n c := hR.base 1 (by kernel_rfl)
      refine plain_step rfl rfl ?_
      go_simp
      exact hK _ _ (rfl) (Below.refl _ _)
    · simp at ho
      subst ho
      have e4 : a.tmps.getD 12 undef = .slice p n c := hR.dep ⟨4, .data⟩ (by simp) rfl
      have e3 : Lim w (a.tmps.getD 11 undef) (List.replicate k 0) ∧ ∃ g, (a.tmps.getD 11 undef) = .slice (some ⟨g, 0, none⟩) k k := hR.dep ⟨3, .data⟩ (by simp) rfl
      obtain ⟨e3l, g3, e3v⟩ := e3
      rw [e3v] at e3l
      refine plain_step rfl rfl ?_
      obtain ⟨v', w2, hr, hl2, hb⟩ := run_append_lim w 61 e3l (HL.out.up hR.below) H9.out
      refine Lib.wp_append_run w _ _ _ _ rfl _ _ e3v e4 _ _ hr ?_
      exact hK _ _ (hl2) hb
    · simp at ho
      subst ho
      have e5 : Lim w (a.tmps.getD 13 undef) (List.replicate k 0 ++ l) := hR.dep ⟨5, .data⟩ (by simp) rfl
      obtain ⟨v5, hv5⟩ : ∃ v5, a.tmps.getD 13 undef = v5 := ⟨_, rfl⟩
      rw [hv5] at e5
      refine plain_step rfl rfl ?_
      go_simp
      refine (trim_any _ _ _ e5).mono ?_
      rintro r w2 ⟨v6, rfl, hl6, rfl⟩
      unfold trimL at hl6
      rw [HX.out] at hl6
      exact hK _ _ (hl6) (Below.refl _ _)
    · simp at ho
      subst ho
      have b2 : a.tmps.getD 2 undef = .pointer (some ⟨bx, 0, none⟩) := hR.base 2 (by kernel_rfl)
      refine plain_step rfl rfl ?_
      go_simp
      exact hK _ _ (rfl) (Below.refl _ _)
    · simp at ho
      subst ho
      have e7 : a.tmps.getD 15 undef = .pointer (some ⟨bx, 0, none⟩) := hR.dep ⟨7, .data⟩ (by simp) rfl
      have cb := HBX.out _ hR.below
      refine plain_step rfl rfl ?_
      go_simp
      exact hK _ _ (rfl) (Below.refl _ _)
    · simp at ho
      subst ho
      have e8 : a.tmps.getD 16 undef = .slice pm k cm := hR.dep ⟨8, .data⟩ (by simp) rfl
      have e6 : Lim w (a.tmps.getD 14 undef) (digs 4294967296 X) := hR.dep ⟨6, .data⟩ (by simp) rfl
      obtain ⟨v6, hv6⟩ : ∃ v6, a.tmps.getD 14 undef = v6 := ⟨_, rfl⟩
      rw [hv6] at e6
      refine plain_step rfl rfl ?_
      go_simp
      refine (divide_any _ _ X M _ e6 (HM.out.up hR.below) HM0.out HX9.out).mono ?_
      rintro r w2 ⟨vq, vr, rfl, hq, hr, hb⟩
      exact hK _ _ (⟨_, _, rfl, hr⟩) hb
    · simp at ho
      subst ho
      obtain ⟨vq, vr, e9, hr⟩ : ∃ vq vr, (a.tmps.getD 17 undef) = .tuple #[vq, vr] ∧ Lim w vr (digs 4294967296 (X % M)) := hR.dep ⟨9, .data⟩ (by simp) rfl
      refine plain_step rfl rfl ?_
      go_simp
      exact hK _ _ (⟨_, _, rfl, hr⟩) (Below.refl _ _)
    · simp at ho
      subst ho
      obtain ⟨vq, vr, e9, hr⟩ : ∃ vq vr, (a.tmps.getD 7 undef) = .tuple #[vq, vr] ∧ Lim w vr (digs 4294967296 (X % M)) := hR.dep ⟨10, .data⟩ (by simp) rfl
      refine plain_step rfl rfl ?_
      go_simp
      exact hK _ _ (trivial) (Below.refl _ _)
    · simp at ho
      subst ho
      obtain ⟨vq, vr, e9, hr⟩ : ∃ vq vr, (a.tmps.getD 7 undef) = .tuple #[vq, vr] ∧ Lim w vr (digs 4294967296 (X % M)) := hR.dep ⟨10, .data⟩ (by simp) rfl
      refine plain_step rfl rfl ?_
      go_simp
      exact hK _ _ (hr) (Below.refl _ _)
    · simp at ho
      subst ho
      refine plain_step rfl rfl ?_
      go_simp
      exact hK _ _ (trivial) (Below.refl _ _)
    · simp at ho
      subst ho
      have e12 : Lim w (a.tmps.getD 19 undef) (digs 4294967296 (X % M)) := hR.dep ⟨12, .data⟩ (by simp) rfl
      obtain ⟨v1, hv1⟩ : ∃ v1, a.tmps.getD 19 undef = v1 := ⟨_, rfl⟩
      rw [hv1] at e12
      refine plain_step rfl rfl ?_
      go_simp
      exact hK _ _ (e12) (Below.refl _ _)
  · intro s w hS hb
    simp only [over, Nat.zero_add, Nat.reduceAdd, Nat.reduceLeDiff, Nat.reduceLT, decide_true, decide_false, Bool.and_true, Bool.and_false, cond_true, cond_false]
    have e14 : Lim w (s 6) (digs 4294967296 (X % M)) := hS 14 (by decide)
    have HBB := Lib.hid (HB0.out.trans (hb.mono HB0.out.size))
    have c0 := HBX.out _ hb
    have c1 : w.cell? ⟨bx, 1, none⟩ = some (.int .u32 (minus : Int)) := by rw [Lib.cell_of_heap (HBH.out _ hb)]; rfl
    have HMM := Lib.hid (HM.out.up hb)
    obtain ⟨u, hu⟩ : ∃ u, s 6 = u := ⟨_, rfl⟩
    rw [hu] at e14 ⊢
    have HU := Lib.hid e14
    clear hS hb hu e14
    go_wp2_with fail
    refine (full_any _ _ _ _ minus k w HMM.out HU.out HKM.out HRL.out HK9.out).mono ?_
    rintro e w2 ⟨v2, rfl, h2, hb2⟩
    have HBB2 := Lib.hid (HBB.out.trans (hb2.mono HBB.out.size))
    have H2 := Lib.hid h2
    clear hb2 h2 c0 c1
    go_wp2_with fail
    go_ret
    exact ⟨_, _, rfl, H2.out, by rw [List.length_append, List.length_replicate]; have := HRL.out; omega, by rw [valB_pad, valB_digs (by decide), HXV.out], HBB2.out⟩
end Go.Proofs.YtakbkbmjeanboaaGreatDoor
