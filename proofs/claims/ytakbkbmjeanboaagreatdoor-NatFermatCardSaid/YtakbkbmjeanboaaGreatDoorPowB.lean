/- Plain laws of binary digits and powers: no program in sight. -/
import Derived.Test.YtakbkbmjeanboaaGreatDoorNum
import Derived.Test.YtakbkbmjeanboaaGreatDoorLimF
import Derived.Test.YtakbkbmjeanboaaGreatDoorRgs
import Derived.OwnWalkIn
import Derived.OwnWalk
import Derived.TacticsInMore
import Derived.LoopNIn
import Derived.LoopIn
import Derived.Test.YtakbkbmjeanboaaGreatDoorApiE
namespace Go.Proofs.YtakbkbmjeanboaaGreatDoor
open Dgt
set_option linter.unusedVariables false

/-- K binary digits of a number, the most significant one first -/
def bitsL (n K : Nat) : List Bool := (List.range K).map fun j => decide (n / 2 ^ (K - 1 - j) % 2 = 1)
theorem bitsL_len (n K : Nat) : (bitsL n K).length = K := by simp [bitsL]
theorem bitsL_get (n K j : Nat) (h : j < (bitsL n K).length) : (bitsL n K)[j] = decide (n / 2 ^ (K - 1 - j) % 2 = 1) := by simp [bitsL]
theorem bitsL_split {n K : Nat} {pre rest : List Bool} {x : Bool} (h : bitsL n K = pre ++ x :: rest) : pre.length < K ∧ x = decide (n / 2 ^ (K - 1 - pre.length) % 2 = 1) := by
  have hl := congrArg List.length h
  rw [bitsL_len] at hl
  simp at hl
  refine ⟨by omega, ?_⟩
  have hj : pre.length < (bitsL n K).length := by rw [bitsL_len]; omega
  have hg := bitsL_get n K pre.length hj
  rw [← hg]
  have : (bitsL n K)[pre.length]? = some x := by rw [h]; simp
  rw [List.getElem?_eq_getElem hj] at this
  exact (Option.some.inj this).symm
theorem bitsL_cut {n K j : Nat} (h : j < K) : bitsL n K = (bitsL n K).take j ++ decide (n / 2 ^ (K - 1 - j) % 2 = 1) :: (bitsL n K).drop (j + 1) := by
  have hj : j < (bitsL n K).length := by rw [bitsL_len]; exact h
  conv => lhs; rw [← List.take_append_drop j (bitsL n K)]
  rw [List.drop_eq_getElem_cons hj, bitsL_get]
theorem bitsL_take_succ {n K j : Nat} (h : j < K) : (bitsL n K).take j ++ [decide (n / 2 ^ (K - 1 - j) % 2 = 1)] = (bitsL n K).take (j + 1) := by
  have hj : j < (bitsL n K).length := by rw [bitsL_len]; exact h
  rw [List.take_succ_eq_append_getElem hj, bitsL_get]
theorem half_step (n k : Nat) : n / 2 ^ k = 2 * (n / 2 ^ (k + 1)) + n / 2 ^ k % 2 := by
  rw [Nat.pow_succ, ← Nat.div_div_eq_div_mul]; omega
/-- one round of a power, without a digit -/
theorem pow_even {x n z k : Nat} (h : ¬ n / 2 ^ k % 2 = 1) : (x ^ (n / 2 ^ (k + 1)) % z) * (x ^ (n / 2 ^ (k + 1)) % z) % z = x ^ (n / 2 ^ k) % z := by
  rw [← Nat.mul_mod, ← Nat.pow_add]
  have := half_step n k
  rw [show n / 2 ^ (k + 1) + n / 2 ^ (k + 1) = n / 2 ^ k from by omega]
/-- one round of a power, with a digit -/
theorem pow_odd {x n z k : Nat} (h : n / 2 ^ k % 2 = 1) : ((x ^ (n / 2 ^ (k + 1)) % z) * (x ^ (n / 2 ^ (k + 1)) % z) % z) * (x % z) % z = x ^ (n / 2 ^ k) % z := by
  rw [← Nat.mul_mod (x ^ (n / 2 ^ (k + 1))), ← Nat.pow_add, ← Nat.mul_mod]
  have := half_step n k
  conv => rhs; rw [show n / 2 ^ k = (n / 2 ^ (k + 1) + n / 2 ^ (k + 1)) + 1 from by omega, Nat.pow_succ]
/-- the digit that is read off the limbs -/
theorem bit_of {l : List Nat} (ho : okB 4294967296 l) {k : Nat} (hk : k / 32 < l.length) : l[k / 32] / 2 ^ (k % 32) % 2 = valB 4294967296 l / 2 ^ k % 2 := by
  have hg := get_of_val ho hk
  have hp : (4294967296 : Nat) ^ (k / 32) = 2 ^ (32 * (k / 32)) := by
    rw [Nat.pow_mul]
  obtain ⟨V, hV⟩ : ∃ V, valB 4294967296 l = V := ⟨_, rfl⟩
  rw [hV] at hg ⊢
  rw [← hg, hp]
  obtain ⟨U, hU⟩ : ∃ U, V / 2 ^ (32 * (k / 32)) = U := ⟨_, rfl⟩
  have h2 : V / 2 ^ k = U / 2 ^ (k % 32) := by
    rw [← hU, Nat.div_div_eq_div_mul, ← Nat.pow_add]
    congr 2; omega
  rw [hU, h2]
  have hs : k % 32 < 32 := Nat.mod_lt _ (by decide)
  obtain ⟨s, hs'⟩ : ∃ s, k % 32 = s := ⟨_, rfl⟩
  rw [hs'] at hs ⊢
  have hd : (4294967296 : Nat) = 2 ^ s * 2 ^ (32 - s) := by
    rw [← Nat.pow_add, show s + (32 - s) = 32 from by omega]
  rw [hd, Nat.mod_mul_right_div_self]
  rw [show 32 - s = (31 - s) + 1 from by omega, Nat.pow_succ]
  rw [Nat.mod_mul_left_mod]
end Go.Proofs.YtakbkbmjeanboaaGreatDoor
/- The iterator over the binary digits of a number: it hands out just the digits, the most significant one first. Each theorem names its conditions. -/
namespace Go.Proofs.YtakbkbmjeanboaaGreatDoor
open Go.RowKit Go.Shelf
open Dgt
set_option linter.unusedVariables false
attribute [local go_sem] Oper.semAt_some

theorem bits_and_u32_nat (a b : Nat) (ha : a < 4294967296) (hb : b < 4294967296) :
    bits .and .u32 (a : Int) (b : Int) = ((a &&& b : Nat) : Int) := by
  have hx : a &&& b < 2 ^ 32 := Nat.and_lt_two_pow _ (by omega)
  have h1 : (BitVec.ofInt 32 (a : Int)).toNat = a := by
    rw [BitVec.ofInt_natCast, BitVec.toNat_ofNat]; exact Nat.mod_eq_of_lt (by omega)
  have h2 : (BitVec.ofInt 32 (b : Int)).toNat = b := by
    rw [BitVec.ofInt_natCast, BitVec.toNat_ofNat]; exact Nat.mod_eq_of_lt (by omega)
  have e : ((BitVec.ofInt 32 (a : Int)) &&& (BitVec.ofInt 32 (b : Int))).toNat = a &&& b := by
    rw [BitVec.toNat_and, h1, h2]
  show IntKind.u32.wrap ((((BitVec.ofInt 32 (a : Int)) &&& (BitVec.ofInt 32 (b : Int))).toNat : Nat) : Int) = _
  rw [e, IntKind.wrap_u32']; omega
theorem bit_one (y : Nat) (hy : y < 4294967296) : (bits .and .u32 (y : Int) 1 == 1) = decide (y % 2 = 1) := by
  rw [show (1 : Int) = ((1 : Nat) : Int) from rfl, bits_and_u32_nat y 1 hy (by decide), Nat.and_one_is_mod]
  rw [Bool.eq_iff_iff, beq_iff_eq, decide_eq_true_eq]; omega
set_option maxHeartbeats 4000000 in
set_option maxRecDepth 100000 in
theorem digits_iter (v : Value) (l : List Nat) (Bn : Nat) (hlen : l.length ≤ 1000000000) :
    IterP Tryz.prog 78 #[.pointer (some ⟨Bn, 0, none⟩)] (fun b : Bool => #[Value.bool b]) (bitsL (valB 4294967296 l) (32 * l.length)) (fun w0 => w0.heap[Bn]? = some (.cells #[v] 61 (0, 0)) ∧ Lim w0 v l) := by
  intro f J W hkeep hround h0
  obtain ⟨hbW, hlW⟩ := hkeep _ _ h0
  obtain ⟨p, n, cap, rfl, hn, hc, hcm⟩ := hlW.open_
  obtain ⟨V, hV⟩ : ∃ V, valB 4294967296 l = V := ⟨_, rfl⟩
  obtain ⟨K, hK⟩ : ∃ K, 32 * l.length = K := ⟨_, rfl⟩
  rw [hV, hK] at hround ⊢
  have HV := Lib.hid hV; have HK := Lib.hid hK; have HN := Lib.hid hn
  have hcb := (box_cell hbW).1
  have hKn : (K : Int) = 32 * (n : Int) := by omega
  have hK9 : (n : Int) ≤ 1000000000 := by omega
  have HR := Lib.hid hround; have HKP := Lib.hid hkeep; have H0 := Lib.hid h0
  clear hround hkeep h0 hV hK hn hbW hlW
  refine callsIn_of_wp Tryz.func78 rfl trivial ?_ rfl
  simp only [Tryz.ntmps78, List.size_toArray, List.length_cons, List.length_nil, Nat.reduceAdd, Nat.reduceSub, Array.replicate_succ, Array.replicate_zero, List.push_toArray, List.append_toArray, List.nil_append, List.cons_append]
  gi_wp2_with fail
  rw [← hKn]
  have hK10 : (K : Int) ≤ 32000000000 := by omega
  clear hKn
  gi_loopw [3] (fun i wr => ∃ (j : Nat) (k : Int), j ≤ K ∧ i = .int .i64 k ∧ -1 ≤ k ∧ k ≤ 32000000000 ∧ Hid (k = (K : Int) - 1 - j) ∧ Hid (J ((bitsL V K).take j) wr)) (fun i _ => (intOf i + 1).toNat)
  case atStart => exact ⟨0, _, by omega, rfl, by omega, by omega, Lib.hid (by omega), Lib.hid (by rw [List.take_zero]; exact H0.out)⟩
  case round =>
    obtain ⟨j, k, hj, rfl, hk1, hk2, HKJ, HJQ⟩ := hrel
    obtain ⟨hbQ, hlQ⟩ := HKP.out _ _ HJQ.out
    have HLQ := Lib.hid hlQ
    have hcb := (box_cell hbQ).1
    clear hbQ hlQ
    by_cases hlt : 0 ≤ k
    · obtain ⟨kk, rfl⟩ : ∃ kk : Nat, k = (kk : Int) := ⟨k.toNat, by omega⟩
      have hjK : j < K := by have := HKJ.out; omega
      have hkk : K - 1 - j = kk := by have := HKJ.out; omega
      obtain ⟨q, hq⟩ : ∃ q, kk / 32 = q := ⟨_, rfl⟩
      obtain ⟨s, hs⟩ : ∃ s, kk % 32 = s := ⟨_, rfl⟩
      have hql : q < l.length := by have := HK.out; omega
      have hqn : (q : Int) < (n : Int) := by have := HN.out; omega
      obtain ⟨g, off, rfl, hg, hcell⟩ := HLQ.out.cell hql
      have hbit := bit_of HLQ.out.ok (k := kk) (by rw [hq]; exact hql)
      simp only [hq, hs, HV.out] at hbit
      obtain ⟨x, hx⟩ : ∃ x, l[q] = x := ⟨_, rfl⟩
      have hxl : x < 4294967296 := by rw [← hx]; exact HLQ.out.ok.get _
      rw [hx] at hcell hbit
      have hcut := bitsL_cut (n := V) (K := K) (j := j) hjK
      have htk := bitsL_take_succ (n := V) (K := K) (j := j) hjK
      rw [hkk, ← hbit] at hcut htk
      obtain ⟨y, hy⟩ : ∃ y, x / 2 ^ s = y := ⟨_, rfl⟩
      rw [hy] at hcut htk
      have hs32 : s < 32 := by omega
      have q1 : (kk : Int) / 32 = (q : Int) := by omega
      have q4 : (kk : Int) % 32 = (s : Int) := by omega
      have q6 : (x : Int) / 2 ^ s = (y : Int) := by rw [← hy]; simp
      have hyl : y < 4294967296 := by rw [← hy]; exact Nat.lt_of_le_of_lt (Nat.div_le_self _ _) hxl
      have q7 := bit_one y hyl
      obtain ⟨fn, tmps, assign, body, hyy, hR⟩ := HR.out _ _ _ wr hcut HJQ.out
      have HR2 := Lib.hid hR; have HT := Lib.hid htk; have HX := Lib.hid hx; have HQ := Lib.hid hq; have HS := Lib.hid hs; have HY := Lib.hid hy
      clear hR hcut htk hx hq hs hbit hy hjK hkk
      gi_wp2_with fail
      refine ⟨rfl, ?_⟩
      refine HR2.out.mono ?_
      rintro e W3 ⟨rfl, hJ3⟩
      have HJ3 : Hid (J ((bitsL V K).take (j + 1)) W3) := Lib.hid (by rw [← HT.out]; exact hJ3)
      clear hJ3 hyy hcell hcb q1 q4 q6 q7
      gi_wp2_with fail
      go_roundw
      case rel => exact ⟨j + 1, _, by have := HKJ.out; omega, rfl, by omega, by omega, Lib.hid (by have := HKJ.out; omega), HJ3⟩
      case measure => simp [intOf]
    · have hlt' : k < 0 := by omega
      have HJ4 : Hid (J (bitsL V K) wr) := Lib.hid (by have := HJQ.out; rwa [List.take_of_length_le (by rw [bitsL_len]; have := HKJ.out; omega)] at this)
      gi_wp2_with fail
      go_end0
      exact ⟨⟨_, rfl⟩, HJ4.out⟩
/-- digits: the iterator, over a box of its own -/
theorem digits_any (v : Value) (w : World) (hv : ∃ p n c, v = .slice p n c) :
    Calls Tryz.prog 55 #[v] w fun e w' => e = .returned (.func (.func 78) #[] #[.pointer (some ⟨w.heap.size, 0, none⟩)]) ∧ w' = w.alloc (.cells #[v] 61) := by
  obtain ⟨p, n, c, rfl⟩ := hv
  go_enter Tryz.func55, Tryz.ntmps55
  go_wp2_with fail
  go_ret
  exact ⟨rfl, rfl⟩
end Go.Proofs.YtakbkbmjeanboaaGreatDoor
/- Pow of package nat, for moduli that are even. Each theorem names its conditions. -/
namespace Go.Proofs.YtakbkbmjeanboaaGreatDoor
open Go.RowKit Go.Shelf
open Dgt
set_option linter.unusedVariables false
attribute [local go_sem] Oper.semAt_some

def powS (a e m : Nat) : Nat := if m = 0 then 0 else a ^ e % m
theorem LimK.box {kd : IntKind} {B : Nat} {W : World} {v : Value} {l : List Nat} {b0 : Nat} {p : Option Addr} {n c : Nat} {t : TypeId} (hz : W.heap[b0]? = some (.cells #[.slice p n c] t (0, 0))) (h : LimK kd B W v l) (u : Value) : LimK kd B (W.setCell ⟨b0, 0, none⟩ u) v l := by
  obtain ⟨h1, q, cap, rfl, h2, h3, h4⟩ := h
  refine ⟨h1, q, cap, rfl, h2, h3, fun i hi => ?_⟩
  obtain ⟨g, off, rfl, hg, hc⟩ := h4 i hi
  refine ⟨g, off, rfl, by simpa [World.setCell] using hg, ?_⟩
  have hne : g ≠ b0 := by
    rintro rfl
    rw [Lib.cell_of_heap hz] at hc
    rcases hk : off + i with _ | k <;> rw [hk] at hc <;> simp at hc
  rw [World.cell?_of_block (w := W) (Below.heap_setCell _ _ _ _ hne)]; exact hc
def SP6 (a : ByteArray) (A M : Nat) (z : Value) (j : Nat) (v : Value) (w : World) : Prop :=
  match j with
  | 0 => v = .string a
  | 1 => Lim w v (digs 4294967296 A)
  | 2 => v = z
  | 3 => ∃ vq vr, v = .tuple #[vq, vr] ∧ Lim w vr (digs 4294967296 (A % M))
  | 4 => ∃ vq vr, v = .tuple #[vq, vr] ∧ Lim w vr (digs 4294967296 (A % M))
  | 6 => Lim w v (digs 4294967296 (A % M))
  | _ => True
theorem SP6_up (a : ByteArray) (A M : Nat) (z : Value) (j : Nat) (v : Value) (w w' : World) (hb : Below w.heap.size w w') (h : SP6 a A M z j v w) : SP6 a A M z j v w' := by
  unfold SP6 at h ⊢
  split at h
  · exact h
  · exact h.up hb
  · exact h
  · obtain ⟨x, y, e, h⟩ := h; exact ⟨x, y, e, h.up hb⟩
  · obtain ⟨x, y, e, h⟩ := h; exact ⟨x, y, e, h.up hb⟩
  · exact h.up hb
  · trivial
theorem SP6_box (a : ByteArray) (A M : Nat) (z : Value) {p : Option Addr} {n c : Nat} (t : TypeId) (b0 j : Nat) (v : Value) (w : World) (u : Value) (hz : w.heap[b0]? = some (.cells #[.slice p n c] t (0, 0))) (h : SP6 a A M z j v w) : SP6 a A M z j v (w.setCell ⟨b0, 0, none⟩ u) := by
  unfold SP6 at h ⊢
  split at h
  · exact h
  · exact h.box hz u
  · exact h
  · obtain ⟨x, y, e, h⟩ := h; exact ⟨x, y, e, h.box hz u⟩
  · obtain ⟨x, y, e, h⟩ := h; exact ⟨x, y, e, h.box hz u⟩
  · exact h.box hz u
  · trivial
def SP12 (x y z : Value) (P R M : Nat) (j : Nat) (v : Value) (w : World) : Prop :=
  match j with
  | 0 => v = x
  | 1 => v = y
  | 2 => Lim w v (digs 4294967296 (P * R))
  | 3 => v = z
  | 4 => ∃ vq vr, v = .tuple #[vq, vr] ∧ Lim w vr (digs 4294967296 (P * R % M))
  | 5 => ∃ vq vr, v = .tuple #[vq, vr] ∧ Lim w vr (digs 4294967296 (P * R % M))
  | 7 => Lim w v (digs 4294967296 (P * R % M))
  | _ => True
theorem SP12_up (x y z : Value) (P R M : Nat) (j : Nat) (v : Value) (w w' : World) (hb : Below w.heap.size w w') (h : SP12 x y z P R M j v w) : SP12 x y z P R M j v w' := by
  unfold SP12 at h ⊢
  split at h
  · exact h
  · exact h
  · exact h.up hb
  · exact h
  · obtain ⟨x, y, e, h⟩ := h; exact ⟨x, y, e, h.up hb⟩
  · obtain ⟨x, y, e, h⟩ := h; exact ⟨x, y, e, h.up hb⟩
  · exact h.up hb
  · trivial
theorem SP12_box (x y z : Value) (P R M : Nat) {b0 : Nat} {p : Option Addr} {n c : Nat} (t : TypeId) (j : Nat) (v : Value) (w : World) (u : Value) (hz : w.heap[b0]? = some (.cells #[.slice p n c] t (0, 0))) (h : SP12 x y z P R M j v w) : SP12 x y z P R M j v (w.setCell ⟨b0, 0, none⟩ u) := by
  unfold SP12 at h ⊢
  split at h
  · exact h
  · exact h
  · exact h.box hz u
  · exact h
  · obtain ⟨x, y, e, h⟩ := h; exact ⟨x, y, e, h.box hz u⟩
  · obtain ⟨x, y, e, h⟩ := h; exact ⟨x, y, e, h.box hz u⟩
  · exact h.box hz u
  · trivial
/-- a slice of digits, where one box has been stored into -/
theorem LimK.frb {kd : IntKind} {B : Nat} {A W : World} {v : Value} {l : List Nat} {b0 : Nat} {p : Option Addr} {n c : Nat} {t : TypeId} (h : LimK kd B A v l) (hz : A.heap[b0]? = some (.cells #[.slice p n c] t (0, 0))) (hf : Fr (fun b => b = b0) A W) : LimK kd B W v l := by
  obtain ⟨h1, q, cap, rfl, h2, h3, h4⟩ := h
  refine ⟨h1, q, cap, rfl, h2, h3, fun i hi => ?_⟩
  obtain ⟨g, off, rfl, hg, hc⟩ := h4 i hi
  have hne : g ≠ b0 := by
    rintro rfl
    rw [Lib.cell_of_heap hz] at hc
    rcases hk : off + i with _ | k <;> rw [hk] at hc <;> simp at hc
  exact ⟨g, off, rfl, Nat.lt_of_lt_of_le hg hf.size, by rw [hf.cell (p := ⟨g, off + i, none⟩) hg hne]; exact hc⟩
theorem cells_put {W : World} {l b : Nat} {L : Loop} {o : Obj} {cs : Array Value} {t : TypeId} {fr : Nat × Nat} (hl : W.heap[l]? = some (.loop L)) (h : W.heap[b]? = some (.cells cs t fr)) : (W.putObj l o).heap[b]? = some (.cells cs t fr) := by
  rw [heap_put_other (by rintro rfl; rw [hl] at h; cases h)]; exact h
theorem LimK.put {kd : IntKind} {B : Nat} {W : World} {v : Value} {l : List Nat} {b0 : Nat} {L : Loop} (h : LimK kd B W v l) (hl : W.heap[b0]? = some (.loop L)) (o : Obj) : LimK kd B (W.putObj b0 o) v l := by
  obtain ⟨h1, q, cap, rfl, h2, h3, h4⟩ := h
  refine ⟨h1, q, cap, rfl, h2, h3, fun i hi => ?_⟩
  obtain ⟨g, off, rfl, hg, hc⟩ := h4 i hi
  have hne : g ≠ b0 := by
    rintro rfl
    simp [World.cell?, hl] at hc
  exact ⟨g, off, rfl, by rw [World.putObj_size]; exact hg, by rw [World.cell?_of_block (w := W) (heap_put_other hne)]; exact hc⟩
/-- what stands at the head of each round -/
def PowI (w : World) (b8 b10 b11 Bn : Nat) (z ux ve : Value) (A E M K : Nat) (pre : List Bool) (W : World) : Prop :=
  ∃ v, W.heap[b8]? = some (.cells #[z] 61 (0, 0)) ∧ W.heap[b10]? = some (.cells #[ux] 61 (0, 0)) ∧ W.heap[b11]? = some (.cells #[v] 61 (0, 0)) ∧ W.heap[Bn]? = some (.cells #[ve] 61 (0, 0)) ∧
    Lim W z (digs 4294967296 M) ∧ Lim W ux (digs 4294967296 (A % M)) ∧ Lim W ve (digs 4294967296 E) ∧ Lim W v (digs 4294967296 (A ^ (E / 2 ^ (K - pre.length)) % M)) ∧ Below w.heap.size w W
theorem PowI_up {w : World} {b8 b10 b11 Bn : Nat} {z ux ve : Value} {A E M K : Nat} (pre : List Bool) (X Y : World) (hb : Below X.heap.size X Y) (h : PowI w b8 b10 b11 Bn z ux ve A E M K pre X) : PowI w b8 b10 b11 Bn z ux ve A E M K pre Y := by
  obtain ⟨v, h1, h2, h3, h4, h5, h6, h7, h8, h9⟩ := h
  exact ⟨v, heap_up hb h1, heap_up hb h2, heap_up hb h3, heap_up hb h4, h5.up hb, h6.up hb, h7.up hb, h8.up hb, h9.trans (hb.mono h9.size)⟩
theorem PowI_put {w : World} {b8 b10 b11 Bn : Nat} {z ux ve : Value} {A E M K : Nat} {l : Nat} (hwl : w.heap.size ≤ l) (pre : List Bool) (X : World) (L L' : Loop) (hl : X.heap[l]? = some (.loop L)) (h : PowI w b8 b10 b11 Bn z ux ve A E M K pre X) : PowI w b8 b10 b11 Bn z ux ve A E M K pre (X.putObj l (.loop L')) := by
  obtain ⟨v, h1, h2, h3, h4, h5, h6, h7, h8, h9⟩ := h
  exact ⟨v, cells_put hl h1, cells_put hl h2, cells_put hl h3, cells_put hl h4, h5.put hl _, h6.put hl _, h7.put hl _, h8.put hl _, h9.trans (belowK_b (w := w) (Nat.le_refl _) X l _ _ hwl hl rfl rfl)⟩
set_option maxHeartbeats 4000000 in
set_option maxRecDepth 100000 in
theorem Pow_even (a e m : ByteArray) (w : World) (ha : a.size ≤ 100000000) (he : e.size ≤ 100000000) (hm : m.size ≤ 100000000) (hev : numS m % 2 = 0 ∨ numS m = 1) :
    Calls Tryz.prog 23 #[.string a, .string e, .string m] w fun r w' => r = .returned (.tuple #[.string (encS (powS (numS a) (numS e) (numS m))), .bool (decide (numS m ≠ 0))]) ∧ Below w.heap.size w w' := by
  have OM := Lib.hid (of_any m · (by omega))
  have OA := Lib.hid (of_any a · (by omega))
  have OE := Lib.hid (of_any e · (by omega))
  have LA := Lib.hid (show (digs 4294967296 (numS a)).length ≤ 100000000 from Nat.le_trans (len32 a) ha)
  have LE := Lib.hid (show (digs 4294967296 (numS e)).length ≤ 100000000 from Nat.le_trans (len32 e) he)
  have LM := Lib.hid (show (digs 4294967296 (numS m)).length ≤ 100000000 from Nat.le_trans (len32 m) hm)
  obtain ⟨A, hA⟩ : ∃ A, numS a = A := ⟨_, rfl⟩
  obtain ⟨E, hE⟩ : ∃ E, numS e = E := ⟨_, rfl⟩
  obtain ⟨M, hM⟩ : ∃ M, numS m = M := ⟨_, rfl⟩
  rw [hA] at OA LA; rw [hE] at OE LE; rw [hM] at OM LM hev
  rw [hA, hE, hM]
  clear hA hE hM ha he hm
  refine callsIn_wide (n := 0) |>.1 ?_
  refine callsIn_of_wp_marks Tryz.func23 rfl trivial ?_
  simp only [Tryz.ntmps23, List.size_toArray, List.length_cons, List.length_nil, Nat.reduceAdd, Nat.reduceSub, Array.replicate_succ, Array.replicate_zero, List.push_toArray, List.append_toArray, List.nil_append, List.cons_append]
  gi_wp2_with fail
  refine ⟨trivial, rfl, ?_⟩
  refine (callsIn_wide.2 (OM.out _)).mono ?_
  rintro r w1 ⟨vz, rfl, hz, hb1⟩
  obtain ⟨pz, nz, cz, rfl, hnz, hcz, hcmz⟩ := hz.open_
  rcases Nat.eq_zero_or_pos M with h0 | h0
  · subst h0
    rw [digs_zero] at hnz hz
    obtain rfl : nz = 0 := hnz
    have HB := Lib.hid hb1
    clear hb1 hz hev
    gi_wp2_with fail
    refine ⟨_, results_tmp2 rfl _ _ _, by simp [powS, encS_zero], HB.out.alloc HB.out.size _⟩
  · have hd := digs_pos (B := 4294967296) (by decide) h0
    obtain ⟨x0, hx0⟩ : ∃ x0, M % 4294967296 = x0 := ⟨_, rfl⟩
    obtain ⟨D, hD⟩ : ∃ D, digs 4294967296 M = D := ⟨_, rfl⟩
    have hDl : 0 < D.length := by rw [← hD, hd]; simp
    have hD0 : D[0]'hDl = x0 := by simp only [← hD, hd, List.getElem_cons_zero, hx0]
    rw [hD] at hz hnz
    obtain ⟨gz, oz, rfl, hgz, hcz0⟩ := hz.cell hDl
    rw [hD0, Nat.add_zero] at hcz0
    rcases hev with hev | rfl
    · have hx2 : x0 % 2 = 0 := by omega
      have hxl : x0 < 4294967296 := by omega
      have q1 : (x0 : Int) % 2 = 0 := by omega
      have q2 : ((x0 : Int) == 1) = false := by simp; omega
      have q3 : ¬ (x0 : Int) = 1 := by omega
      have hn0 : ¬ (nz : Int) = 0 := by omega
      have hcz1 : ∀ o, (w1.alloc o).cell? ⟨gz, oz, none⟩ = some (.int .u32 (x0 : Int)) := fun o => by rw [cell_up ((Below.refl _ w1).alloc (Nat.le_refl _) o) hgz]; exact hcz0
      have HB := Lib.hid hb1; have HZ := Lib.hid hz; have HD := Lib.hid hD; have HM0 := Lib.hid h0; have HEV := Lib.hid hev; have HNZ := Lib.hid hnz; have HX := Lib.hid hx0; have HXL := Lib.hid hxl; have HX2 := Lib.hid hx2; have HGZ := Lib.hid hgz; have HDL := Lib.hid hDl; have HD0 := Lib.hid hD0
      clear hb1 hz hD h0 hev hnz hx0 hxl hx2 hgz hd hD0
      have HB8 : Hid (∀ W', Below (w1.alloc (.cells #[.slice (some ⟨gz, oz, none⟩) nz cz] 61)).heap.size (w1.alloc (.cells #[.slice (some ⟨gz, oz, none⟩) nz cz] 61)) W' → W'.heap[w1.heap.size]? = some (.cells #[.slice (some ⟨gz, oz, none⟩) nz cz] 61 (0, 0))) := Lib.hid fun W' h => block_new h (heap_alloc_new w1 _)
      have HZ8 : Hid (∀ W', Below (w1.alloc (.cells #[.slice (some ⟨gz, oz, none⟩) nz cz] 61)).heap.size (w1.alloc (.cells #[.slice (some ⟨gz, oz, none⟩) nz cz] 61)) W' → Lim W' (.slice (some ⟨gz, oz, none⟩) nz cz) (digs 4294967296 M)) := Lib.hid fun W' h => by rw [HD.out]; exact (HZ.out.up ((Below.refl _ w1).alloc (Nat.le_refl _) _)).up h
      by_cases hn1 : (nz : Int) = 1
      all_goals
        gi_wp2_with fail
        refine wpIn_region_box (w := w1.alloc (Obj.cells #[Value.slice (some { block := gz, off := oz }) nz cz] 61)) (by kernel_rfl) (SP6 a A M (.slice (some ⟨gz, oz, none⟩) nz cz)) (fun u w => Lim w u (digs 4294967296 (A % M))) 7 9 (.slice none 0 0) 61 (fun t => (decide (27 ≤ t) && decide (t < 34)) || (decide (9 ≤ t) && decide (t < 11))) (by kernel_rfl) (by kernel_rfl) (by kernel_rfl) (by decide) (by decide) (by decide)
          10 rfl rfl (fun o ho => by simp at ho; subst ho; exact ⟨⟨7, .data⟩, by simp, rfl, rfl⟩) (SP6_up _ _ _ _) (fun v w w' hb h => h.up hb) (SP6_box _ _ _ _ _) (fun b0 v w u hz h => h.box hz u) ?_ ?_ ?_ ?_ ?_
        · intro i hi hi1 hi2 o listed a' w' hR K hK
          have ho := hR.at_
          have hi : i < 10 := hi
          have hii : i = 0 ∨ i = 1 ∨ i = 2 ∨ i = 3 ∨ i = 4 ∨ i = 5 ∨ i = 6 ∨ i = 8 := by omega
          clear hi hi1 hi2
          rcases hii with rfl | rfl | rfl | rfl | rfl | rfl | rfl | rfl
          · simp at ho
            subst ho
            have b0 : a'.tmps.getD 0 undef = .string a := hR.base 0 (by kernel_rfl)
            refine plain_stepI rfl rfl ?_
            go_simp
            exact hK _ _ rfl (Below.refl _ _)
          · simp at ho
            subst ho
            have e0 : a'.tmps.getD 28 undef = .string a := hR.dep ⟨0, .data⟩ (by simp) rfl (by decide)
            refine plain_stepI rfl rfl ?_
            go_simp
            refine ⟨trivial, rfl, ?_⟩
            refine (callsIn_wide.2 (OA.out _)).mono ?_
            rintro r w2 ⟨v, rfl, hl, hb⟩
            exact hK _ _ hl hb
          · simp at ho
            subst ho
            have b8 : a'.tmps.getD 8 undef = .pointer (some ⟨w1.heap.size, 0, none⟩) := hR.base 8 (by kernel_rfl)
            have c8 := (box_cell (HB8.out _ hR.below)).1
            refine plain_stepI rfl rfl ?_
            go_simp
            exact hK _ _ rfl (Below.refl _ _)
          · simp at ho
            subst ho
            have e1 : Lim w' (a'.tmps.getD 29 undef) (digs 4294967296 A) := hR.dep ⟨1, .data⟩ (by simp) rfl (by decide)
            have e2 : a'.tmps.getD 30 undef = .slice (some ⟨gz, oz, none⟩) nz cz := hR.dep ⟨2, .data⟩ (by simp) rfl (by decide)
            obtain ⟨v1, hv1⟩ : ∃ v1, a'.tmps.getD 29 undef = v1 := ⟨_, rfl⟩
            rw [hv1] at e1
            refine plain_stepI rfl rfl ?_
            go_simp
            refine ⟨trivial, rfl, ?_⟩
            refine (callsIn_wide.2 (divide_any _ _ A M _ e1 (HZ8.out _ hR.below) HM0.out (by have := LA.out; omega))).mono ?_
            rintro r w2 ⟨vq, vr, rfl, hq, hr, hb⟩
            exact hK _ _ ⟨_, _, rfl, hr⟩ hb
          · simp at ho
            subst ho
            obtain ⟨vq, vr, e3, hr⟩ : ∃ vq vr, a'.tmps.getD 31 undef = .tuple #[vq, vr] ∧ Lim w' vr (digs 4294967296 (A % M)) := hR.dep ⟨3, .data⟩ (by simp) rfl (by decide)
            refine plain_stepI rfl rfl ?_
            go_simp
            exact hK _ _ ⟨_, _, rfl, hr⟩ (Below.refl _ _)
          · simp at ho
            subst ho
            obtain ⟨vq, vr, e3, hr⟩ : ∃ vq vr, a'.tmps.getD 27 undef = .tuple #[vq, vr] ∧ Lim w' vr (digs 4294967296 (A % M)) := hR.dep ⟨4, .data⟩ (by simp) rfl (by decide)
            refine plain_stepI rfl rfl ?_
            go_simp
            exact hK _ _ trivial (Below.refl _ _)
          · simp at ho
            subst ho
            obtain ⟨vq, vr, e3, hr⟩ : ∃ vq vr, a'.tmps.getD 27 undef = .tuple #[vq, vr] ∧ Lim w' vr (digs 4294967296 (A % M)) := hR.dep ⟨4, .data⟩ (by simp) rfl (by decide)
            refine plain_stepI rfl rfl ?_
            go_simp
            exact hK _ _ hr (Below.refl _ _)
          · simp at ho
            subst ho
            refine plain_stepI rfl rfl ?_
            go_simp
            exact hK _ _ trivial (Below.refl _ _)
        · intro o listed a' w' hR K hK
          have ho := hR.at_
          simp at ho
          subst ho
          refine plain_stepI rfl rfl ?_
          go_simp
          exact hK
        · intro b0 o listed a' w' hR hda hz K hK
          have ho := hR.at_
          simp at ho
          subst ho
          have e6 : Lim w' (a'.tmps.getD 33 undef) (digs 4294967296 (A % M)) := hR.dep ⟨6, .data⟩ (by simp) rfl (by decide)
          have c0 := (box_cell hz).1
          have z0 := (box_cell hz).2
          obtain ⟨v1, hv1⟩ : ∃ v1, a'.tmps.getD 33 undef = v1 := ⟨_, rfl⟩
          rw [hv1] at e6
          obtain ⟨p1, n1, d1, rfl, -⟩ := e6.open_
          refine plain_stepI rfl rfl ?_
          go_simp
          exact hK _ e6
        · intro v w'; trivial
        · intro s b10 ux W2 hS hb2 hge h10 hu10 hU
          simp only [over, Nat.zero_add, Nat.reduceAdd, Nat.reduceLeDiff, Nat.reduceLT, decide_true, decide_false, Bool.and_true, Bool.and_false, Bool.or_false, Bool.or_true, cond_true, cond_false]
          rw [h10]
          have HB2 := Lib.hid (HB.out.trans ((((Below.refl _ w1).alloc (Nat.le_refl _) (.cells #[.slice (some ⟨gz, oz, none⟩) nz cz] 61)).trans (hb2.mono (by simp))).mono HB.out.size))
          have HU10 := Lib.hid hu10; have HUX := Lib.hid hU
          have HB8' := Lib.hid (HB8.out _ hb2); have HZ8' := Lib.hid (HZ8.out _ hb2)
          have c8 := (box_cell (HB8.out _ hb2)).1
          have HGE := Lib.hid hge
          have HB12 := Lib.hid hb2
          have cz2 : W2.cell? ⟨gz, oz, none⟩ = some (.int .u32 (x0 : Int)) := by rw [cell_up (((Below.refl _ w1).alloc (Nat.le_refl _) (.cells #[.slice (some ⟨gz, oz, none⟩) nz cz] 61)).trans (hb2.mono (by simp))) HGZ.out]; exact hcz0
          clear hS hb2 hge h10 hu10 hU hcz1
          gi_wp2_with fail
          refine ⟨trivial, rfl, ?_⟩
          refine (callsIn_wide.2 (OE.out _)).mono ?_
          rintro r W4 ⟨ve, rfl, he, hb4⟩
          have hveo := he.open_
          obtain ⟨pe, ne, ce, rfl, -⟩ := hveo
          obtain ⟨W3, hW3⟩ : ∃ W3, (W2.alloc (Obj.cells #[Value.int IntKind.u32 1] 52)).alloc (Obj.cells #[Value.slice (some { block := W2.heap.size, off := 0 }) 1 1] 61) = W3 := ⟨_, rfl⟩
          rw [hW3] at hb4
          have hb3 : Below W2.heap.size W2 W3 := by rw [← hW3]; exact ((Below.refl _ W2).alloc (Nat.le_refl _) _).alloc (by simp) _
          have hs3 : W3.heap.size = W2.heap.size + 2 := by rw [← hW3]; simp
          have h11 : W3.heap[W2.heap.size + 1]? = some (.cells #[.slice (some ⟨W2.heap.size, 0, none⟩) 1 1] 61 (0, 0)) := by
            rw [← hW3]; have := heap_alloc_new (W2.alloc (Obj.cells #[Value.int IntKind.u32 1] 52)) (Obj.cells #[Value.slice (some { block := W2.heap.size, off := 0 }) 1 1] 61); simpa using this
          have h1L : Lim W3 (.slice (some ⟨W2.heap.size, 0, none⟩) 1 1) (digs 4294967296 1) := by
            have e1 : digs 4294967296 1 = [1] := by rw [digs_pos (by decide) (by decide)]; rw [show 1 / 4294967296 = 0 from rfl, digs_zero]
            rw [e1, ← hW3]
            exact (lim_one W2 (r := 1) (by decide)).up ((Below.refl _ _).alloc (Nat.le_refl _) _)
          have H8 := Lib.hid (heap_up (hb4.mono (Nat.le_refl _)) (heap_up hb3 HB8'.out))
          have H10 := Lib.hid (heap_up (hb4.mono (Nat.le_refl _)) (heap_up hb3 HU10.out))
          have H11 := Lib.hid (heap_up hb4 h11)
          have HZL := Lib.hid ((HZ8'.out.up hb3).up hb4)
          have HXL2 := Lib.hid ((HUX.out.up hb3).up hb4)
          have HEL := Lib.hid he
          have H1L := Lib.hid (h1L.up hb4)
          have HBW := Lib.hid ((HB2.out.trans (hb3.mono HB2.out.size)).trans (hb4.mono (Nat.le_trans HB2.out.size hb3.size)))
          have HS4 := Lib.hid hb4.size
          have HS3 := Lib.hid hs3
          clear hb4 he hW3 hb3 hs3 h11 h1L c8 cz2
          gi_wp2_with fail
          refine ⟨trivial, rfl, ?_⟩
          refine (callsIn_wide.2 (digits_any _ _ ⟨_, _, _, rfl⟩)).mono ?_
          rintro r W5 ⟨rfl, hW5⟩
          have hs5 : W5.heap.size = W4.heap.size + 1 := by rw [hW5]; simp
          have hb5 : Below W4.heap.size W4 W5 := by rw [hW5]; exact (Below.refl _ W4).alloc (Nat.le_refl _) _
          have hbn : W5.heap[W4.heap.size]? = some (.cells #[.slice pe ne ce] 61 (0, 0)) := by rw [hW5]; exact heap_alloc_new W4 _
          clear hW5
          gi_wp2_with fail
          obtain ⟨b8, hb8e⟩ : ∃ b8, w1.heap.size = b8 := ⟨_, rfl⟩
          obtain ⟨b11, hb11e⟩ : ∃ b11, W2.heap.size + 1 = b11 := ⟨_, rfl⟩
          obtain ⟨Bn, hbne⟩ : ∃ Bn, W4.heap.size = Bn := ⟨_, rfl⟩
          rw [hb8e] at H8
          rw [hb11e] at H11
          rw [hbne] at hbn
          rw [hb8e, hb11e, hbne]
          obtain ⟨K, hK⟩ : ∃ K, 32 * (digs 4294967296 E).length = K := ⟨_, rfl⟩
          have hEK : E < 2 ^ K := by
            have := digs_lt (B := 4294967296) (by decide) E
            rw [show (4294967296 : Nat) = 2 ^ 32 from by decide, ← Nat.pow_mul] at this
            rw [← hK]; exact this
          have hI0 : PowI w b8 b10 b11 Bn (.slice (some ⟨gz, oz, none⟩) nz cz) ux (.slice pe ne ce) A E M K [] W5 := by
            refine ⟨_, heap_up hb5 H8.out, heap_up hb5 H10.out, heap_up hb5 H11.out, hbn, HZL.out.up hb5, HXL2.out.up hb5, HEL.out.up hb5, ?_, HBW.out.trans (hb5.mono HBW.out.size)⟩
            rw [List.length_nil, Nat.sub_zero, Nat.div_eq_of_lt hEK, Nat.pow_zero, Nat.mod_eq_of_lt (by have := HM0.out; have := HEV.out; omega)]
            exact H1L.out.up hb5
          have hne8 : b8 ≠ b11 := by rintro rfl; have a1 := HB12.out.size; rw [World.size_alloc, hb8e] at a1; omega
          have hne10 : b10 ≠ b11 := by
            rintro rfl
            have := (Array.getElem?_eq_some_iff.1 HU10.out).1; omega
          have hneB : Bn ≠ b11 := by have := HS4.out; have := HS3.out; omega
          have hw5 : w.heap.size ≤ W5.heap.size + 1 := by have := (HBW.out.trans (hb5.mono HBW.out.size)).size; omega
          have HI0 := Lib.hid hI0; have HEK := Lib.hid hEK; have HKK := Lib.hid hK; have HW5 := Lib.hid hw5
          clear hI0 hEK hK hw5 hbn hb5
          have hdi := digits_iter (.slice pe ne ce) (digs 4294967296 E) Bn (by have := LE.out; omega)
          rw [valB_digs (by decide), HKK.out] at hdi
          refine wp_rangeP (xs := bitsL E K) (encs := fun b : Bool => #[Value.bool b]) rfl (enters_of Tryz.func78 (by kernel_rfl) rfl) hdi (fun _ => rfl)
            (PowI w b8 b10 b11 Bn (.slice (some ⟨gz, oz, none⟩) nz cz) ux (.slice pe ne ce) A E M K) PowI_up (PowI_put HW5.out) (fun pre X h => by obtain ⟨v, h1, h2, h3, h4, h5, h6, h7, h8, h9⟩ := h; exact ⟨h4, h7⟩) HI0.out ?round ?done
          case round =>
            rintro l pre x rest W hxs -
            gi_wp2_with fail
            refine ⟨trivial, ?_⟩
            rintro W' hW' ⟨v, h1, h2, h3, h4, h5, h6, h7, h8, h9⟩
            obtain ⟨hj, hx⟩ := bitsL_split hxs
            obtain ⟨k, hk⟩ : ∃ k, K - 1 - pre.length = k := ⟨_, rfl⟩
            have hk1 : K - pre.length = k + 1 := by omega
            have hk2 : K - (pre ++ [x]).length = k := by rw [List.length_append, List.length_singleton]; omega
            rw [hk] at hx
            rw [hk1] at h8
            obtain ⟨P0, hP0⟩ : ∃ P0, A ^ (E / 2 ^ (k + 1)) % M = P0 := ⟨_, rfl⟩
            rw [hP0] at h8
            obtain ⟨pv, nv, cv, rfl, -⟩ := h8.open_
            obtain ⟨pu, nu, cu, rfl, -⟩ := h6.open_
            have hPM : P0 < M := by rw [← hP0]; exact Nat.mod_lt _ HM0.out
            have hlP : (digs 4294967296 P0).length ≤ 100000000 := Nat.le_trans (digs_len_mono (by decide) (Nat.le_of_lt hPM)) LM.out
            have hlX : (digs 4294967296 (A % M)).length ≤ 100000000 := Nat.le_trans (digs_len_mono (by decide) (Nat.le_of_lt (Nat.mod_lt _ HM0.out))) LM.out
            have hlPP : (digs 4294967296 (P0 * P0)).length ≤ 500000000 := Nat.le_trans (digs_len_mul (by decide) P0 P0) (by omega)
            obtain ⟨P1, hP1⟩ : ∃ P1, P0 * P0 % M = P1 := ⟨_, rfl⟩
            have hP1M : P1 < M := by rw [← hP1]; exact Nat.mod_lt _ HM0.out
            have hlP1 : (digs 4294967296 P1).length ≤ 100000000 := Nat.le_trans (digs_len_mono (by decide) (Nat.le_of_lt hP1M)) LM.out
            have hlPX : (digs 4294967296 (P1 * (A % M))).length ≤ 500000000 := Nat.le_trans (digs_len_mul (by decide) P1 (A % M)) (by omega)
            have HB8 := Lib.hid h1; have HB10 := Lib.hid h2; have HB11 := Lib.hid h3; have HBn := Lib.hid h4; have HZ := Lib.hid h5; have HXX := Lib.hid h6; have HEE := Lib.hid h7; have HV := Lib.hid h8; have HBL := Lib.hid h9
            have HLV : Hid ((digs 4294967296 P0).length ≤ 1000000000) := Lib.hid (by omega)
            have HLP := Lib.hid hlPP; have HLX : Hid ((digs 4294967296 (A % M)).length ≤ 1000000000) := Lib.hid (by omega)
            have HLP1 : Hid ((digs 4294967296 P1).length ≤ 1000000000) := Lib.hid (by omega)
            have HLPX := Lib.hid hlPX; have HPE := Lib.hid hP0; have HPE1 := Lib.hid hP1; have HKE := Lib.hid hk2; have HXE := Lib.hid hx; have HWW := Lib.hid hW'
            clear h1 h2 h3 h4 h5 h6 h7 h8 h9 hlP hlX hlPP hlP1 hlPX hP0 hP1 hPM hP1M hk hk1 hk2 hx hj hW'
            gi_wp2_with fail
            refine wpIn_region_put (w := W') (by kernel_rfl) (SP12 (.slice pv nv cv) (.slice pv nv cv) (.slice (some ⟨gz, oz, none⟩) nz cz) (P0) (P0) M) (fun u w => Lim w u (digs 4294967296 ((P0) * (P0) % M))) b11 8 (.slice pv nv cv) 61 (fun t => (decide (51 ≤ t) && decide (t < 59))) (by kernel_rfl) (by kernel_rfl) (by kernel_rfl) (by decide) HB11.out (SP12_up _ _ _ _ _ _) (fun v w w' hb h => h.up hb) (SP12_box _ _ _ _ _ _ _) (fun v w u hz h => h.box hz u) ?_ ?_ (fun v w' => trivial) ?_
            · intro i hi hi1 o listed a' w' hR K hK
              have ho := hR.at_
              have hi : i < 9 := hi
              have hii : i = 0 ∨ i = 1 ∨ i = 2 ∨ i = 3 ∨ i = 4 ∨ i = 5 ∨ i = 6 ∨ i = 7 := by omega
              clear hi hi1
              rcases hii with rfl | rfl | rfl | rfl | rfl | rfl | rfl | rfl
              · simp at ho
                subst ho
                have bb : a'.tmps.getD 11 undef = .pointer (some ⟨b11, 0, none⟩) := hR.base 11 (by kernel_rfl)
                have hns := hR.not_up (k := 8) (i := 0) rfl ⟨0, .phase⟩ (by simp) rfl hR.un rfl
                have cc := (box_cell (heap_up ((hR.pre hns).mono (Nat.le_refl _)) HB11.out)).1
                refine plain_stepI rfl rfl ?_
                go_simp
                exact hK _ _ rfl (Below.refl _ _)
              · simp at ho
                subst ho
                have bb : a'.tmps.getD 11 undef = .pointer (some ⟨b11, 0, none⟩) := hR.base 11 (by kernel_rfl)
                have hns := hR.not_up (k := 8) (i := 1) rfl ⟨1, .phase⟩ (by simp) rfl hR.un rfl
                have cc := (box_cell (heap_up ((hR.pre hns).mono (Nat.le_refl _)) HB11.out)).1
                refine plain_stepI rfl rfl ?_
                go_simp
                exact hK _ _ rfl (Below.refl _ _)
              · simp at ho
                subst ho
                have e0 : a'.tmps.getD 52 undef = (.slice pv nv cv) := hR.dep ⟨0, .data⟩ (by simp) rfl
                have e1 : a'.tmps.getD 53 undef = (.slice pv nv cv) := hR.dep ⟨1, .data⟩ (by simp) rfl
                have hns := hR.not_up (k := 8) (i := 2) rfl ⟨2, .phase⟩ (by simp) rfl hR.un rfl
                refine plain_stepI rfl rfl ?_
                go_simp
                refine ⟨trivial, rfl, ?_⟩
                refine (CallsIn.inRound l (callsIn_wide.2 (product_any _ _ _ _ _ (HV.out.up (hR.pre hns)) (HV.out.up (hR.pre hns)) (HLV.out) (HLV.out)))).mono ?_
                rintro r w2 ⟨vp, rfl, hp, hb⟩
                simp only [valB_digs (B := 4294967296) (by decide)] at hp
                exact hK _ _ hp hb
              · simp at ho
                subst ho
                have bb : a'.tmps.getD 8 undef = .pointer (some ⟨b8, 0, none⟩) := hR.base 8 (by kernel_rfl)
                have hns := hR.not_up (k := 8) (i := 3) rfl ⟨3, .phase⟩ (by simp) rfl hR.un rfl
                have cc := (box_cell (heap_up ((hR.pre hns).mono (Nat.le_refl _)) HB8.out)).1
                refine plain_stepI rfl rfl ?_
                go_simp
                exact hK _ _ rfl (Below.refl _ _)
              · simp at ho
                subst ho
                have e2 : Lim w' (a'.tmps.getD 54 undef) (digs 4294967296 ((P0) * (P0))) := hR.dep ⟨2, .data⟩ (by simp) rfl
                have e3 : a'.tmps.getD 55 undef = .slice (some ⟨gz, oz, none⟩) nz cz := hR.dep ⟨3, .data⟩ (by simp) rfl
                have hns := hR.not_up (k := 8) (i := 4) rfl ⟨4, .phase⟩ (by simp) rfl hR.un rfl
                obtain ⟨v1, hv1⟩ : ∃ v1, a'.tmps.getD 54 undef = v1 := ⟨_, rfl⟩
                rw [hv1] at e2
                refine plain_stepI rfl rfl ?_
                go_simp
                refine ⟨trivial, rfl, ?_⟩
                refine (CallsIn.inRound l (callsIn_wide.2 (divide_any _ _ _ M _ e2 (HZ.out.up (hR.pre hns)) HM0.out (HLP.out)))).mono ?_
                rintro r w2 ⟨vq, vr, rfl, hq, hr, hb⟩
                exact hK _ _ ⟨_, _, rfl, hr⟩ hb
              · simp at ho
                subst ho
                obtain ⟨vq, vr, e3, hr⟩ : ∃ vq vr, a'.tmps.getD 56 undef = .tuple #[vq, vr] ∧ Lim w' vr (digs 4294967296 ((P0) * (P0) % M)) := hR.dep ⟨4, .data⟩ (by simp) rfl
                refine plain_stepI rfl rfl ?_
                go_simp
                exact hK _ _ ⟨_, _, rfl, hr⟩ (Below.refl _ _)
              · simp at ho
                subst ho
                obtain ⟨vq, vr, e3, hr⟩ : ∃ vq vr, a'.tmps.getD 51 undef = .tuple #[vq, vr] ∧ Lim w' vr (digs 4294967296 ((P0) * (P0) % M)) := hR.dep ⟨5, .data⟩ (by simp) rfl
                refine plain_stepI rfl rfl ?_
                go_simp
                exact hK _ _ trivial (Below.refl _ _)
              · simp at ho
                subst ho
                obtain ⟨vq, vr, e3, hr⟩ : ∃ vq vr, a'.tmps.getD 51 undef = .tuple #[vq, vr] ∧ Lim w' vr (digs 4294967296 ((P0) * (P0) % M)) := hR.dep ⟨5, .data⟩ (by simp) rfl
                refine plain_stepI rfl rfl ?_
                go_simp
                exact hK _ _ hr (Below.refl _ _)
            · intro o listed a' w' hR hz K hK
              have ho := hR.at_
              simp at ho
              subst ho
              have bb : a'.tmps.getD 11 undef = .pointer (some ⟨b11, 0, none⟩) := hR.base 11 (by kernel_rfl)
              have e6 : Lim w' (a'.tmps.getD 58 undef) (digs 4294967296 ((P0) * (P0) % M)) := hR.dep ⟨7, .data⟩ (by simp) rfl
              have c0 := (box_cell hz).1
              have z0 := (box_cell hz).2
              obtain ⟨v1, hv1⟩ : ∃ v1, a'.tmps.getD 58 undef = v1 := ⟨_, rfl⟩
              rw [hv1] at e6
              obtain ⟨p1, n1, d1, rfl, -⟩ := e6.open_
              refine plain_stepI rfl rfl ?_
              go_simp
              exact hK _ e6
            intro s uy W6 hS hf6 hu11 hU
            rw [HPE1.out] at hU
            simp only [over, Nat.zero_add, Nat.reduceAdd, Nat.reduceLeDiff, Nat.reduceLT, decide_true, decide_false, Bool.and_true, Bool.and_false, cond_true, cond_false]
            have JB8 := Lib.hid (hf6.heap HB8.out hne8); have JB10 := Lib.hid (hf6.heap HB10.out hne10); have JBn := Lib.hid (hf6.heap HBn.out hneB); have JB11 := Lib.hid hu11
            have JZ := Lib.hid (HZ.out.frb HB11.out hf6); have JX := Lib.hid (HXX.out.frb HB11.out hf6); have JE := Lib.hid (HEE.out.frb HB11.out hf6); have JV := Lib.hid hU
            have hb11w : w.heap.size ≤ b11 := by have a1 := HB2.out.size; omega
            have JBL := Lib.hid (HBL.out.trans (hf6.below (n := w.heap.size) HBL.out.size (fun b hb e => by omega)))
            have JF := Lib.hid hf6
            have JLV := Lib.hid HLP1.out; have JLX := Lib.hid HLX.out; have JLP := Lib.hid HLPX.out
            obtain ⟨pv2, nv2, cv2, rfl, -⟩ := hU.open_
            clear hS hf6 hu11 hU
            have hnD : W5.heap.size ≠ b11 := by have := HS4.out; have := HS3.out; omega
            have hnL : W5.heap.size + 1 ≠ b11 := by have := HS4.out; have := HS3.out; omega
            cases x
            · have hxe : ¬ E / 2 ^ k % 2 = 1 := by have := HXE.out; simpa using this.symm
              gi_wp2_with fail
              have hpe := pow_even (x := A) (n := E) (z := M) hxe
              rw [HPE.out, HPE1.out] at hpe
              refine ⟨⟨_, JB8.out, JB10.out, JB11.out, JBn.out, JZ.out, JX.out, JE.out, ?_, JBL.out⟩, ?_, ?_⟩
              · rw [HKE.out, ← hpe]; exact JV.out
              · exact JF.out.block _ (by have := HWW.out; omega) (by omega)
              · exact JF.out.block _ (by have := HWW.out; omega) (by omega)
            · have hxe : E / 2 ^ k % 2 = 1 := by have := HXE.out; simpa using this.symm
              gi_wp2_with fail
              refine wpIn_region_put (w := W6) (by kernel_rfl) (SP12 (.slice pv2 nv2 cv2) (.slice pu nu cu) (.slice (some ⟨gz, oz, none⟩) nz cz) (P1) (A % M) M) (fun u w => Lim w u (digs 4294967296 ((P1) * (A % M) % M))) b11 8 (.slice pv2 nv2 cv2) 61 (fun t => (decide (60 ≤ t) && decide (t < 68))) (by kernel_rfl) (by kernel_rfl) (by kernel_rfl) (by decide) JB11.out (SP12_up _ _ _ _ _ _) (fun v w w' hb h => h.up hb) (SP12_box _ _ _ _ _ _ _) (fun v w u hz h => h.box hz u) ?_ ?_ (fun v w' => trivial) ?_
              · intro i hi hi1 o listed a' w' hR K hK
                have ho := hR.at_
                have hi : i < 9 := hi
                have hii : i = 0 ∨ i = 1 ∨ i = 2 ∨ i = 3 ∨ i = 4 ∨ i = 5 ∨ i = 6 ∨ i = 7 := by omega
                clear hi hi1
                rcases hii with rfl | rfl | rfl | rfl | rfl | rfl | rfl | rfl
                · simp at ho
                  subst ho
                  have bb : a'.tmps.getD 11 undef = .pointer (some ⟨b11, 0, none⟩) := hR.base 11 (by kernel_rfl)
                  have hns := hR.not_up (k := 8) (i := 0) rfl ⟨0, .phase⟩ (by simp) rfl hR.un rfl
                  have cc := (box_cell (heap_up ((hR.pre hns).mono (Nat.le_refl _)) JB11.out)).1
                  refine plain_stepI rfl rfl ?_
                  go_simp
                  exact hK _ _ rfl (Below.refl _ _)
                · simp at ho
                  subst ho
                  have bb : a'.tmps.getD 10 undef = .pointer (some ⟨b10, 0, none⟩) := hR.base 10 (by kernel_rfl)
                  have hns := hR.not_up (k := 8) (i := 1) rfl ⟨1, .phase⟩ (by simp) rfl hR.un rfl
                  have cc := (box_cell (heap_up ((hR.pre hns).mono (Nat.le_refl _)) JB10.out)).1
                  refine plain_stepI rfl rfl ?_
                  go_simp
                  exact hK _ _ rfl (Below.refl _ _)
                · simp at ho
                  subst ho
                  have e0 : a'.tmps.getD 61 undef = (.slice pv2 nv2 cv2) := hR.dep ⟨0, .data⟩ (by simp) rfl
                  have e1 : a'.tmps.getD 62 undef = (.slice pu nu cu) := hR.dep ⟨1, .data⟩ (by simp) rfl
                  have hns := hR.not_up (k := 8) (i := 2) rfl ⟨2, .phase⟩ (by simp) rfl hR.un rfl
                  refine plain_stepI rfl rfl ?_
                  go_simp
                  refine ⟨trivial, rfl, ?_⟩
                  refine (CallsIn.inRound l (callsIn_wide.2 (product_any _ _ _ _ _ (JV.out.up (hR.pre hns)) (JX.out.up (hR.pre hns)) (JLV.out) (JLX.out)))).mono ?_
                  rintro r w2 ⟨vp, rfl, hp, hb⟩
                  simp only [valB_digs (B := 4294967296) (by decide)] at hp
                  exact hK _ _ hp hb
                · simp at ho
                  subst ho
                  have bb : a'.tmps.getD 8 undef = .pointer (some ⟨b8, 0, none⟩) := hR.base 8 (by kernel_rfl)
                  have hns := hR.not_up (k := 8) (i := 3) rfl ⟨3, .phase⟩ (by simp) rfl hR.un rfl
                  have cc := (box_cell (heap_up ((hR.pre hns).mono (Nat.le_refl _)) JB8.out)).1
                  refine plain_stepI rfl rfl ?_
                  go_simp
                  exact hK _ _ rfl (Below.refl _ _)
                · simp at ho
                  subst ho
                  have e2 : Lim w' (a'.tmps.getD 63 undef) (digs 4294967296 ((P1) * (A % M))) := hR.dep ⟨2, .data⟩ (by simp) rfl
                  have e3 : a'.tmps.getD 64 undef = .slice (some ⟨gz, oz, none⟩) nz cz := hR.dep ⟨3, .data⟩ (by simp) rfl
                  have hns := hR.not_up (k := 8) (i := 4) rfl ⟨4, .phase⟩ (by simp) rfl hR.un rfl
                  obtain ⟨v1, hv1⟩ : ∃ v1, a'.tmps.getD 63 undef = v1 := ⟨_, rfl⟩
                  rw [hv1] at e2
                  refine plain_stepI rfl rfl ?_
                  go_simp
                  refine ⟨trivial, rfl, ?_⟩
                  refine (CallsIn.inRound l (callsIn_wide.2 (divide_any _ _ _ M _ e2 (JZ.out.up (hR.pre hns)) HM0.out (JLP.out)))).mono ?_
                  rintro r w2 ⟨vq, vr, rfl, hq, hr, hb⟩
                  exact hK _ _ ⟨_, _, rfl, hr⟩ hb
                · simp at ho
                  subst ho
                  obtain ⟨vq, vr, e3, hr⟩ : ∃ vq vr, a'.tmps.getD 65 undef = .tuple #[vq, vr] ∧ Lim w' vr (digs 4294967296 ((P1) * (A % M) % M)) := hR.dep ⟨4, .data⟩ (by simp) rfl
                  refine plain_stepI rfl rfl ?_
                  go_simp
                  exact hK _ _ ⟨_, _, rfl, hr⟩ (Below.refl _ _)
                · simp at ho
                  subst ho
                  obtain ⟨vq, vr, e3, hr⟩ : ∃ vq vr, a'.tmps.getD 60 undef = .tuple #[vq, vr] ∧ Lim w' vr (digs 4294967296 ((P1) * (A % M) % M)) := hR.dep ⟨5, .data⟩ (by simp) rfl
                  refine plain_stepI rfl rfl ?_
                  go_simp
                  exact hK _ _ trivial (Below.refl _ _)
                · simp at ho
                  subst ho
                  obtain ⟨vq, vr, e3, hr⟩ : ∃ vq vr, a'.tmps.getD 60 undef = .tuple #[vq, vr] ∧ Lim w' vr (digs 4294967296 ((P1) * (A % M) % M)) := hR.dep ⟨5, .data⟩ (by simp) rfl
                  refine plain_stepI rfl rfl ?_
                  go_simp
                  exact hK _ _ hr (Below.refl _ _)
              · intro o listed a' w' hR hz K hK
                have ho := hR.at_
                simp at ho
                subst ho
                have bb : a'.tmps.getD 11 undef = .pointer (some ⟨b11, 0, none⟩) := hR.base 11 (by kernel_rfl)
                have e6 : Lim w' (a'.tmps.getD 67 undef) (digs 4294967296 ((P1) * (A % M) % M)) := hR.dep ⟨7, .data⟩ (by simp) rfl
                have c0 := (box_cell hz).1
                have z0 := (box_cell hz).2
                obtain ⟨v1, hv1⟩ : ∃ v1, a'.tmps.getD 67 undef = v1 := ⟨_, rfl⟩
                rw [hv1] at e6
                obtain ⟨p1, n1, d1, rfl, -⟩ := e6.open_
                refine plain_stepI rfl rfl ?_
                go_simp
                exact hK _ e6
              intro s uz W7 hS hf7 hu11 hU
              simp only [over, Nat.zero_add, Nat.reduceAdd, Nat.reduceLeDiff, Nat.reduceLT, decide_true, decide_false, Bool.and_true, Bool.and_false, cond_true, cond_false]
              have LB8 := Lib.hid (hf7.heap JB8.out hne8); have LB10 := Lib.hid (hf7.heap JB10.out hne10); have LBn := Lib.hid (hf7.heap JBn.out hneB); have LB11 := Lib.hid hu11
              have LZ := Lib.hid (JZ.out.frb JB11.out hf7); have LX := Lib.hid (JX.out.frb JB11.out hf7); have LEE := Lib.hid (JE.out.frb JB11.out hf7); have LV := Lib.hid hU
              have LBL := Lib.hid (JBL.out.trans (hf7.below (n := w.heap.size) JBL.out.size (fun b hb e => by omega)))
              have LF := Lib.hid (JF.out.trans hf7)
              clear hS hf7 hu11 hU
              gi_wp2_with fail
              have hpe := pow_odd (x := A) (n := E) (z := M) hxe
              rw [HPE.out, HPE1.out] at hpe
              refine ⟨⟨_, LB8.out, LB10.out, LB11.out, LBn.out, LZ.out, LX.out, LEE.out, ?_, LBL.out⟩, ?_, ?_⟩
              · rw [HKE.out, ← hpe]; exact LV.out
              · exact LF.out.block _ (by have := HWW.out; omega) (by omega)
              · exact LF.out.block _ (by have := HWW.out; omega) (by omega)
          case done =>
            rintro W ⟨v, h1, h2, h3, h4, h5, h6, h7, h8, h9⟩ hsz hD
            rw [bitsL_len, Nat.sub_self, Nat.pow_zero, Nat.div_one] at h8
            have H8' := Lib.hid h8; have H9 := Lib.hid h9; have HD' := Lib.hid hD
            have hlt : W5.heap.size < W.heap.size := (Array.getElem?_eq_some_iff.1 hD).1
            have c11 := (box_cell h3).1
            have hlR : (digs 4294967296 (A ^ E % M)).length ≤ 1000000000 := Nat.le_trans (digs_len_mono (by decide) (Nat.le_of_lt (Nat.mod_lt _ HM0.out))) (Nat.le_trans LM.out (by decide))
            obtain ⟨pv, nv, cv, rfl, -⟩ := h8.open_
            have HLR := Lib.hid hlR
            clear h1 h2 h3 h4 h5 h6 h7 h8 h9 hD hlR
            gi_wp2_with fail
            refine ⟨trivial, rfl, ?_⟩
            refine (callsIn_wide.2 (number_any _ _ _ H8'.out HLR.out)).mono ?_
            rintro r W8 ⟨rfl, hb8⟩
            rw [valB_digs (by decide)]
            have e5 : W5.heap.size = Bn + 1 := by omega
            have hK8 : Hid (W8.heap[Bn + 1]? = some (.deferred (some []))) := Lib.hid (by rw [← e5]; exact block_new hb8 HD'.out)
            have hB8 : Hid (Below w.heap.size w W8) := Lib.hid (H9.out.trans (hb8.mono H9.out.size))
            clear hb8
            gi_wp2_with fail
            refine ⟨by simp, .inl ⟨_, _, rfl, run_takeDeferred hK8.out, ?_⟩⟩
            have hMn : M ≠ 0 := by have := HM0.out; omega
            refine ⟨_, results_tmp2 rfl _ _ _, ?_, hB8.out.trans (belowK_b (w := w) (Nat.le_refl _) _ (Bn + 1) _ _ (by have := HW5.out; have := HBW.out.size; omega) hK8.out rfl rfl)⟩
            simp [powS, hMn]
    · have hD1 : D = [1] := by rw [← hD, hd, show 1 / 4294967296 = 0 from rfl, digs_zero]
      subst hD1
      obtain rfl : nz = 1 := hnz
      have hx1 : x0 = 1 := hx0.symm
      subst hx1
      have hcz1 : ∀ o, (w1.alloc o).cell? ⟨gz, oz, none⟩ = some (.int .u32 1) := fun o => by rw [cell_up ((Below.refl _ w1).alloc (Nat.le_refl _) o) hgz]; exact hcz0
      have HB := Lib.hid hb1
      clear hb1 hz hD hd hD0 hx0
      gi_wp2_with fail
      refine ⟨_, results_tmp2 rfl _ _ _, ?_, HB.out.alloc HB.out.size _⟩
      simp [powS, Nat.mod_one, encS_zero]
end Go.Proofs.YtakbkbmjeanboaaGreatDoor
